/- Proved here: the row of OmapLast, and what it needs. Conditions: those of each theorem. Written for this claim by programs; what the claim does not use is left out. -/
import Derived.Deep.RegionLaw
import Derived.Maps.OwnOps
import Derived.Maps.Views
import Derived.ChangeArms
import Derived.DataReads
import Derived.DataElems
import Derived.OpenShut
import Derived.SizedLaws
import Derived.Test.YtkncjpafehnmnaaRows
import Derived.WalkKit
import Derived.ProofKit
import Derived.ShutString
import Derived.ChangeOld
import Derived.Below
import Derived.Test.YtkncjpafehnmnaaSOmapLast1
section
namespace Go.Proofs.Ytkncjpafehnmnaa.P
open Go.RowKit Go.Proofs.YtkncjpafehnmnaaG Go.Proofs.YtkncjpafehnmnaaW.PrintWords Go.Proofs.YtkncjpafehnmnaaW.PrintLast Go.Proofs.YtkncjpafehnmnaaW.PrintMore
attribute [local go_sem] str_gtr str_geq str_leq max2_int min2_int max_two min_two max_three min_three max_four min_four   -- for this text's walks alone
set_option linter.unusedVariables false
set_option linter.unusedSimpArgs false

def omap_Scan.f (l0 : List (S39)) (a1 : ByteArray) (a2 : ByteArray) (a3 : Int) : Option ((List (S39))) := (omap_find.f l0 a1).bind fun bt116 => (if a2.toList = ([] : List UInt8) then (if 0 ≤ bt116.1 then (if bt116.1 ≤ (mx bt116.1 (mn (l0.length : Int) (wrap64 (bt116.1 + (mn (mx a3 0) (l0.length : Int)))))) then (if (mx bt116.1 (mn (l0.length : Int) (wrap64 (bt116.1 + (mn (mx a3 0) (l0.length : Int)))))) ≤ (l0.length : Int) then ((api_Pair.f ((l0.take ((mx bt116.1 (mn (l0.length : Int) (wrap64 (bt116.1 + (mn (mx a3 0) (l0.length : Int)))))) : Int).toNat).drop (bt116.1 : Int).toNat)).bind fun t122 => (some t122)) else (none)) else (none)) else (none)) else ((omap_find.f l0 a2).bind fun bt125 => (if 0 ≤ bt116.1 then (if bt116.1 ≤ (mx bt116.1 (mn bt125.1 (wrap64 (bt116.1 + (mn (mx a3 0) (l0.length : Int)))))) then (if (mx bt116.1 (mn bt125.1 (wrap64 (bt116.1 + (mn (mx a3 0) (l0.length : Int)))))) ≤ (l0.length : Int) then ((api_Pair.f ((l0.take ((mx bt116.1 (mn bt125.1 (wrap64 (bt116.1 + (mn (mx a3 0) (l0.length : Int)))))) : Int).toNat).drop (bt116.1 : Int).toNat)).bind fun t131 => (some t131)) else (none)) else (none)) else (none))))
set_option maxHeartbeats 8000000 in
set_option maxRecDepth 100000 in
theorem omap_Scan.calls (A0 : Option Addr) (c0 : Nat) (l0 : List (S39)) (a1 : ByteArray) (a2 : ByteArray) (a3 : Int) (r : List (S39)) (w : World) (hr0 : Kd.C k39 w A0 l0.length l0) (hc0 : l0.length ≤ c0) (h : omap_Scan.f l0 a1 a2 a3 = some r) :
    Calls Try.prog 23 #[.slice A0 l0.length c0, .string a1, .string a2, .int .i64 a3] w fun e w' => ∃ v0_ : Value, e = .returned (v0_) ∧ Kd.R k39 39 w' w.heap.size (fun _ => True) v0_ r ∧ Below w.heap.size w w' := by
  have HR0 := Aside0.mk hr0
  have HC0 := Aside0.mk hc0
  clear hr0 hc0
  have HB := Aside0.mk (Below.refl w.heap.size w)
  have H : ((omap_find.f l0 a1).bind fun bt116 => (if a2.toList = ([] : List UInt8) then (if 0 ≤ bt116.1 then (if bt116.1 ≤ (mx bt116.1 (mn (l0.length : Int) (wrap64 (bt116.1 + (mn (mx a3 0) (l0.length : Int)))))) then (if (mx bt116.1 (mn (l0.length : Int) (wrap64 (bt116.1 + (mn (mx a3 0) (l0.length : Int)))))) ≤ (l0.length : Int) then ((api_Pair.f ((l0.take ((mx bt116.1 (mn (l0.length : Int) (wrap64 (bt116.1 + (mn (mx a3 0) (l0.length : Int)))))) : Int).toNat).drop (bt116.1 : Int).toNat)).bind fun t122 => (some t122)) else (none)) else (none)) else (none)) else ((omap_find.f l0 a2).bind fun bt125 => (if 0 ≤ bt116.1 then (if bt116.1 ≤ (mx bt116.1 (mn bt125.1 (wrap64 (bt116.1 + (mn (mx a3 0) (l0.length : Int)))))) then (if (mx bt116.1 (mn bt125.1 (wrap64 (bt116.1 + (mn (mx a3 0) (l0.length : Int)))))) ≤ (l0.length : Int) then ((api_Pair.f ((l0.take ((mx bt116.1 (mn bt125.1 (wrap64 (bt116.1 + (mn (mx a3 0) (l0.length : Int)))))) : Int).toNat).drop (bt116.1 : Int).toNat)).bind fun t131 => (some t131)) else (none)) else (none)) else (none))))) = some r := h
  clear h
  replace H := Option.bind_eq_some_iff.mp H
  obtain ⟨⟨t116, t117⟩, A50, H⟩ := H
  replace H : (if a2.toList = ([] : List UInt8) then (if 0 ≤ t116 then (if t116 ≤ (mx t116 (mn (l0.length : Int) (wrap64 (t116 + (mn (mx a3 0) (l0.length : Int)))))) then (if (mx t116 (mn (l0.length : Int) (wrap64 (t116 + (mn (mx a3 0) (l0.length : Int)))))) ≤ (l0.length : Int) then ((api_Pair.f ((l0.take ((mx t116 (mn (l0.length : Int) (wrap64 (t116 + (mn (mx a3 0) (l0.length : Int)))))) : Int).toNat).drop (t116 : Int).toNat)).bind fun t122 => (some t122)) else (none)) else (none)) else (none)) else ((omap_find.f l0 a2).bind fun bt125 => (if 0 ≤ t116 then (if t116 ≤ (mx t116 (mn bt125.1 (wrap64 (t116 + (mn (mx a3 0) (l0.length : Int)))))) then (if (mx t116 (mn bt125.1 (wrap64 (t116 + (mn (mx a3 0) (l0.length : Int)))))) ≤ (l0.length : Int) then ((api_Pair.f ((l0.take ((mx t116 (mn bt125.1 (wrap64 (t116 + (mn (mx a3 0) (l0.length : Int)))))) : Int).toNat).drop (t116 : Int).toNat)).bind fun t131 => (some t131)) else (none)) else (none)) else (none)))) = some r := H
  have A5 := Aside0.mk A50
  clear A50
  by_cases c6 : a2.toList = ([] : List UInt8)
  · rw [if_pos c6] at H
    have c6b0 : (a2.toList == ([] : List UInt8)) = true := beq_iff_eq.mpr c6
    have c6b1 : (a2.toList != ([] : List UInt8)) = false := bne_eq_false_iff_eq.mpr c6
    clear c6
    obtain ⟨ji7, hji7⟩ : ∃ j_ : Int, (mx a3 0) = j_ := ⟨_, rfl⟩
    replace H : (if 0 ≤ t116 then (if t116 ≤ (mx t116 (mn (l0.length : Int) (wrap64 (t116 + (mn (ji7) (l0.length : Int)))))) then (if (mx t116 (mn (l0.length : Int) (wrap64 (t116 + (mn (ji7) (l0.length : Int)))))) ≤ (l0.length : Int) then ((api_Pair.f ((l0.take ((mx t116 (mn (l0.length : Int) (wrap64 (t116 + (mn (ji7) (l0.length : Int)))))) : Int).toNat).drop (t116 : Int).toNat)).bind fun t122 => (some t122)) else (none)) else (none)) else (none)) = some r := by first | (rw [hji7] at H; exact H) | (simp only [hji7] at H ⊢; exact H)
    (try rw [hji7] at A5)
    (try (have hji7l : 0 ≤ ji7 := by (rw [← hji7]; unfold mx; (repeat' split) <;> omega)))
    (try (have hji7m : 0 ≤ ji7 := by omega))
    have hji7_ : (if a3 < 0 then 0 else a3) = ji7 := hji7
    obtain ⟨ji8, hji8⟩ : ∃ j_ : Int, (mn (ji7) (l0.length : Int)) = j_ := ⟨_, rfl⟩
    replace H : (if 0 ≤ t116 then (if t116 ≤ (mx t116 (mn (l0.length : Int) (wrap64 (t116 + (ji8))))) then (if (mx t116 (mn (l0.length : Int) (wrap64 (t116 + (ji8))))) ≤ (l0.length : Int) then ((api_Pair.f ((l0.take ((mx t116 (mn (l0.length : Int) (wrap64 (t116 + (ji8))))) : Int).toNat).drop (t116 : Int).toNat)).bind fun t122 => (some t122)) else (none)) else (none)) else (none)) = some r := by first | (rw [hji8] at H; exact H) | (simp only [hji8] at H ⊢; exact H)
    (try rw [hji8] at A5)
    have hji8_ : (if (l0.length : Int) < (ji7) then (l0.length : Int) else (ji7)) = ji8 := hji8
    obtain ⟨ji9, hji9⟩ : ∃ j_ : Int, (mn (l0.length : Int) (wrap64 (t116 + (ji8)))) = j_ := ⟨_, rfl⟩
    replace H : (if 0 ≤ t116 then (if t116 ≤ (mx t116 (ji9)) then (if (mx t116 (ji9)) ≤ (l0.length : Int) then ((api_Pair.f ((l0.take ((mx t116 (ji9)) : Int).toNat).drop (t116 : Int).toNat)).bind fun t122 => (some t122)) else (none)) else (none)) else (none)) = some r := by first | (rw [hji9] at H; exact H) | (simp only [hji9] at H ⊢; exact H)
    (try rw [hji9] at A5)
    have hji9_ : (if (wrap64 (t116 + (ji8))) < (l0.length : Int) then (wrap64 (t116 + (ji8))) else (l0.length : Int)) = ji9 := hji9
    obtain ⟨ji10, hji10⟩ : ∃ j_ : Int, (mx t116 (ji9)) = j_ := ⟨_, rfl⟩
    replace H : (if 0 ≤ t116 then (if t116 ≤ (ji10) then (if (ji10) ≤ (l0.length : Int) then ((api_Pair.f ((l0.take ((ji10) : Int).toNat).drop (t116 : Int).toNat)).bind fun t122 => (some t122)) else (none)) else (none)) else (none)) = some r := by first | (rw [hji10] at H; exact H) | (simp only [hji10] at H ⊢; exact H)
    (try rw [hji10] at A5)
    have hji10_ : (if t116 < (ji9) then (ji9) else t116) = ji10 := hji10
    by_cases c11 : 0 ≤ t116
    · rw [if_pos c11] at H
      have c11b0 := eq_true c11
      have c11b1 : decide (0 ≤ t116) = true := decide_eq_true c11
      clear c11
      by_cases c12 : t116 ≤ (ji10)
      · rw [if_pos c12] at H
        have c12b0 := eq_true c12
        have c12b1 : decide (t116 ≤ (ji10)) = true := decide_eq_true c12
        clear c12
        by_cases c13 : (ji10) ≤ (l0.length : Int)
        · rw [if_pos c13] at H
          have c13b0 := eq_true c13
          have c13b1 : decide ((ji10) ≤ (l0.length : Int)) = true := decide_eq_true c13
          clear c13
          obtain ⟨y118, hy118⟩ : ∃ y_ : List (S39), y_ = ((l0.take ((ji10) : Int).toNat).drop (t116 : Int).toNat) := ⟨_, rfl⟩
          replace H : ((api_Pair.f y118).bind fun t122 => (some t122)) = some r := by first | (rw [hy118]; with_reducible exact H) | (have H2_ := (Option.bind_some _ _).symm.trans H; rw [hy118]; with_reducible exact H2_) | (have H2_ := (Option.bind_some _ _).symm.trans H; with_reducible exact H2_) | with_reducible exact H | (rw [hy118]; exact H) | exact H
          have Ny118 := Aside0.mk hy118
          clear hy118
          replace H := Option.bind_eq_some_iff.mp H
          obtain ⟨t122, A140, H⟩ := H
          replace H : (some t122) = some r := H
          have A14 := Aside0.mk A140
          clear A140
          obtain rfl := Option.some.inj H
          go_enter Try.func23, Try.ntmps23
          go_wp2_with (first | ((with_reducible refine gate_callee (f := 42) rfl ?_); refine goesL_ (some 15) rfl rfl Try.func42 (by kernel_rfl) rfl #[.slice A0 l0.length c0, .string a1] rfl (by (try simp only [List.map_toArray, List.map_cons, List.map_nil]); first | done | rfl | (simp only [List.length_drop, List.length_take]; rfl)) ?_; (with_reducible refine (omap_find.calls _ _ l0 a1 t116 t117 _ ?side1 ?side2 A5.out).mono ?_); (case side1 => repeat (first | exact HR0.out | (with_reducible refine Kd.C_alloc ?_ _) | (with_reducible refine Kd.C_drewN ?_ _) | (with_reducible refine Kd.C_drew ?_))); (case side2 => exact HC0.out); rintro e w15 ⟨rfl, hb⟩; refine ⟨_, rfl, ?_⟩; have n0_ := Aside0.mk (below_step (by repeat (first | (with_reducible first | exact HB.out | apply below_alloc | apply pw_below_drewN | apply below_drew1) | exact HB.out)) hb); clear HB; have HB := n0_; clear n0_; (try clear hb); (try clear hb2); (try clear hk); (try clear hi); have q16 : ((ji10) : Int) ≤ ((l0.length : Int) : Int) := of_decide_eq_true (by first | (with_reducible assumption) | assumption); obtain ⟨i016, hi016, _, hsz16, _⟩ := info_parts info39; have hroom16 : l0.length ≤ c0 := HC0.out; have hC16 : Kd.C k39 _ A0 l0.length l0 := HR0.out; have ql16 : (t116 : Int) ≤ ((ji10) : Int) := of_decide_eq_true (by first | (with_reducible assumption) | assumption); have q016 : (0 : Int) ≤ (t116 : Int) := of_decide_eq_true (by first | (with_reducible assumption) | assumption); have hcut16 := cut_mid (P := Try.prog) 22 39 .i64 .i64 Try.underlying22 hi016 2 hsz16 A0 l0.length c0 t116 (ji10) q016 ql16 q16 hroom16; have hr16 := Kd.C_mid (lo := (t116 : Int).toNat) (hi := ((ji10) : Int).toNat) (c := c0) hC16 (by omega) (by omega) hroom16; obtain ⟨A16, hA16⟩ : ∃ A1, A1 = (if c0 = (t116 : Int).toNat then A0 else (A0 : Option Addr).map (·.add ((t116 : Int).toNat * 2))) := ⟨_, rfl⟩; obtain ⟨c16, hc16⟩ : ∃ c1, c1 = c0 - (t116 : Int).toNat := ⟨_, rfl⟩; have hy16 : y118.length = ((ji10) : Int).toNat - (t116 : Int).toNat := (by rw [Ny118.out, List.length_drop, List.length_take] <;> omega); rw [show ((l0).take ((ji10) : Int).toNat).drop (t116 : Int).toNat = y118 from Ny118.out.symm] at hr16; replace hr16 : Kd.C k39 _ A16 y118.length y118 := (by rw [hA16]; exact hr16); rw [← hy16, ← hA16, ← hc16] at hcut16; have HR121 := Aside0.mk hr16; have HC121 := Aside0.mk (show y118.length ≤ c16 from by rw [hy16, hc16]; exact Nat.sub_le_sub_right (Nat.le_trans (by omega) hroom16) _); clear hr16 hC16 hroom16 hi016 hsz16 hc16; have KY16 := Aside0.mk hy16; have KA16 := Aside0.mk hA16; clear hy16 hA16; replace q16 := eq_true q16) | ((with_reducible refine gate_callee (f := 43) rfl ?_); refine goesL_ (some 42) rfl rfl Try.func43 (by kernel_rfl) rfl #[.slice A16 y118.length c16] rfl (by (try simp only [List.map_toArray, List.map_cons, List.map_nil]); first | done | rfl | (simp only [List.length_drop, List.length_take]; rfl)) ?_; (with_reducible refine (api_Pair.calls _ _ y118 t122 _ ?side1 ?side2 A14.out).mono ?_); (case side1 => repeat (first | exact (Kd.C_below HR121.out HB.out) | (with_reducible refine Kd.C_alloc ?_ _) | (with_reducible refine Kd.C_drewN ?_ _) | (with_reducible refine Kd.C_drew ?_))); (case side2 => exact HC121.out); rintro e w17 ⟨v123, rfl, ho0, hb⟩; refine ⟨_, rfl, ?_⟩; have n0_ := Aside0.mk (Kd.R_lower ho0 (below_size (by repeat (first | (with_reducible first | exact HB.out | apply below_alloc | apply pw_below_drewN | apply below_drew1) | exact HB.out)))); have n1_ := Aside0.mk (below_step (by repeat (first | (with_reducible first | exact HB.out | apply below_alloc | apply pw_below_drewN | apply below_drew1) | exact HB.out)) hb); clear HB; have HO124 := n0_; have HB := n1_; clear n0_ n1_; (try clear hb); (try clear hb2); (try clear hk); (try clear hi); (try clear ho0)))
          go_ret
          exact ⟨_, by first | rfl | (simp [errW_none, errW_some] <;> rfl) | (simp only [← hji7, ← hji8, ← hji9, ← hji10]; first | rfl | (simp [errW_none, errW_some] <;> rfl)) | (simp [*, errW_none, errW_some] <;> rfl), by (with_reducible repeat (first | apply Kd.R_alloc | apply Kd.R_drewN | apply Kd.R_drew)); exact HO124.out, by repeat (first | (with_reducible first | exact HB.out | apply below_alloc | apply pw_below_drewN | apply below_drew1) | exact HB.out)⟩
        · rw [if_neg c13] at H
          exact absurd H (by simp)
      · rw [if_neg c12] at H
        exact absurd H (by simp)
    · rw [if_neg c11] at H
      exact absurd H (by simp)
  · rw [if_neg c6] at H
    have c6b0 : (a2.toList == ([] : List UInt8)) = false := beq_eq_false_iff_ne.mpr c6
    have c6b1 : (a2.toList != ([] : List UInt8)) = true := bne_iff_ne.mpr c6
    replace H := Option.bind_eq_some_iff.mp H
    obtain ⟨⟨t125, t126⟩, A180, H⟩ := H
    replace H : (if 0 ≤ t116 then (if t116 ≤ (mx t116 (mn t125 (wrap64 (t116 + (mn (mx a3 0) (l0.length : Int)))))) then (if (mx t116 (mn t125 (wrap64 (t116 + (mn (mx a3 0) (l0.length : Int)))))) ≤ (l0.length : Int) then ((api_Pair.f ((l0.take ((mx t116 (mn t125 (wrap64 (t116 + (mn (mx a3 0) (l0.length : Int)))))) : Int).toNat).drop (t116 : Int).toNat)).bind fun t131 => (some t131)) else (none)) else (none)) else (none)) = some r := H
    have A18 := Aside0.mk A180
    clear A180
    obtain ⟨ji19, hji19⟩ : ∃ j_ : Int, (mx a3 0) = j_ := ⟨_, rfl⟩
    replace H : (if 0 ≤ t116 then (if t116 ≤ (mx t116 (mn t125 (wrap64 (t116 + (mn (ji19) (l0.length : Int)))))) then (if (mx t116 (mn t125 (wrap64 (t116 + (mn (ji19) (l0.length : Int)))))) ≤ (l0.length : Int) then ((api_Pair.f ((l0.take ((mx t116 (mn t125 (wrap64 (t116 + (mn (ji19) (l0.length : Int)))))) : Int).toNat).drop (t116 : Int).toNat)).bind fun t131 => (some t131)) else (none)) else (none)) else (none)) = some r := by first | (rw [hji19] at H; exact H) | (simp only [hji19] at H ⊢; exact H)
    (try rw [hji19] at A5)
    (try rw [hji19] at A18)
    (try (have hji19l : 0 ≤ ji19 := by (rw [← hji19]; unfold mx; (repeat' split) <;> omega)))
    (try (have hji19m : 0 ≤ ji19 := by omega))
    have hji19_ : (if a3 < 0 then 0 else a3) = ji19 := hji19
    obtain ⟨ji20, hji20⟩ : ∃ j_ : Int, (mn (ji19) (l0.length : Int)) = j_ := ⟨_, rfl⟩
    replace H : (if 0 ≤ t116 then (if t116 ≤ (mx t116 (mn t125 (wrap64 (t116 + (ji20))))) then (if (mx t116 (mn t125 (wrap64 (t116 + (ji20))))) ≤ (l0.length : Int) then ((api_Pair.f ((l0.take ((mx t116 (mn t125 (wrap64 (t116 + (ji20))))) : Int).toNat).drop (t116 : Int).toNat)).bind fun t131 => (some t131)) else (none)) else (none)) else (none)) = some r := by first | (rw [hji20] at H; exact H) | (simp only [hji20] at H ⊢; exact H)
    (try rw [hji20] at A5)
    (try rw [hji20] at A18)
    have hji20_ : (if (l0.length : Int) < (ji19) then (l0.length : Int) else (ji19)) = ji20 := hji20
    obtain ⟨ji21, hji21⟩ : ∃ j_ : Int, (mn t125 (wrap64 (t116 + (ji20)))) = j_ := ⟨_, rfl⟩
    replace H : (if 0 ≤ t116 then (if t116 ≤ (mx t116 (ji21)) then (if (mx t116 (ji21)) ≤ (l0.length : Int) then ((api_Pair.f ((l0.take ((mx t116 (ji21)) : Int).toNat).drop (t116 : Int).toNat)).bind fun t131 => (some t131)) else (none)) else (none)) else (none)) = some r := by first | (rw [hji21] at H; exact H) | (simp only [hji21] at H ⊢; exact H)
    (try rw [hji21] at A5)
    (try rw [hji21] at A18)
    have hji21_ : (if (wrap64 (t116 + (ji20))) < t125 then (wrap64 (t116 + (ji20))) else t125) = ji21 := hji21
    obtain ⟨ji22, hji22⟩ : ∃ j_ : Int, (mx t116 (ji21)) = j_ := ⟨_, rfl⟩
    replace H : (if 0 ≤ t116 then (if t116 ≤ (ji22) then (if (ji22) ≤ (l0.length : Int) then ((api_Pair.f ((l0.take ((ji22) : Int).toNat).drop (t116 : Int).toNat)).bind fun t131 => (some t131)) else (none)) else (none)) else (none)) = some r := by first | (rw [hji22] at H; exact H) | (simp only [hji22] at H ⊢; exact H)
    (try rw [hji22] at A5)
    (try rw [hji22] at A18)
    have hji22_ : (if t116 < (ji21) then (ji21) else t116) = ji22 := hji22
    by_cases c23 : 0 ≤ t116
    · rw [if_pos c23] at H
      have c23b0 := eq_true c23
      have c23b1 : decide (0 ≤ t116) = true := decide_eq_true c23
      clear c23
      by_cases c24 : t116 ≤ (ji22)
      · rw [if_pos c24] at H
        have c24b0 := eq_true c24
        have c24b1 : decide (t116 ≤ (ji22)) = true := decide_eq_true c24
        clear c24
        by_cases c25 : (ji22) ≤ (l0.length : Int)
        · rw [if_pos c25] at H
          have c25b0 := eq_true c25
          have c25b1 : decide ((ji22) ≤ (l0.length : Int)) = true := decide_eq_true c25
          clear c25
          obtain ⟨y127, hy127⟩ : ∃ y_ : List (S39), y_ = ((l0.take ((ji22) : Int).toNat).drop (t116 : Int).toNat) := ⟨_, rfl⟩
          replace H : ((api_Pair.f y127).bind fun t131 => (some t131)) = some r := by first | (rw [hy127]; with_reducible exact H) | (have H2_ := (Option.bind_some _ _).symm.trans H; rw [hy127]; with_reducible exact H2_) | (have H2_ := (Option.bind_some _ _).symm.trans H; with_reducible exact H2_) | with_reducible exact H | (rw [hy127]; exact H) | exact H
          have Ny127 := Aside0.mk hy127
          clear hy127
          replace H := Option.bind_eq_some_iff.mp H
          obtain ⟨t131, A260, H⟩ := H
          replace H : (some t131) = some r := H
          have A26 := Aside0.mk A260
          clear A260
          obtain rfl := Option.some.inj H
          go_enter Try.func23, Try.ntmps23
          go_wp2_with (first | ((with_reducible refine gate_callee (f := 42) rfl ?_); refine goesL_ (some 15) rfl rfl Try.func42 (by kernel_rfl) rfl #[.slice A0 l0.length c0, .string a1] rfl (by (try simp only [List.map_toArray, List.map_cons, List.map_nil]); first | done | rfl | (simp only [List.length_drop, List.length_take]; rfl)) ?_; (with_reducible refine (omap_find.calls _ _ l0 a1 t116 t117 _ ?side1 ?side2 A5.out).mono ?_); (case side1 => repeat (first | exact HR0.out | (with_reducible refine Kd.C_alloc ?_ _) | (with_reducible refine Kd.C_drewN ?_ _) | (with_reducible refine Kd.C_drew ?_))); (case side2 => exact HC0.out); rintro e w27 ⟨rfl, hb⟩; refine ⟨_, rfl, ?_⟩; have n0_ := Aside0.mk (below_step (by repeat (first | (with_reducible first | exact HB.out | apply below_alloc | apply pw_below_drewN | apply below_drew1) | exact HB.out)) hb); clear HB; have HB := n0_; clear n0_; (try clear hb); (try clear hb2); (try clear hk); (try clear hi)) | ((with_reducible refine gate_callee (f := 42) rfl ?_); refine goesL_ (some 25) rfl rfl Try.func42 (by kernel_rfl) rfl #[.slice A0 l0.length c0, .string a2] rfl (by (try simp only [List.map_toArray, List.map_cons, List.map_nil]); first | done | rfl | (simp only [List.length_drop, List.length_take]; rfl)) ?_; (with_reducible refine (omap_find.calls _ _ l0 a2 t125 t126 _ ?side1 ?side2 A18.out).mono ?_); (case side1 => repeat (first | exact (Kd.C_below HR0.out HB.out) | (with_reducible refine Kd.C_alloc ?_ _) | (with_reducible refine Kd.C_drewN ?_ _) | (with_reducible refine Kd.C_drew ?_))); (case side2 => exact HC0.out); rintro e w28 ⟨rfl, hb⟩; refine ⟨_, rfl, ?_⟩; have n0_ := Aside0.mk (below_step (by repeat (first | (with_reducible first | exact HB.out | apply below_alloc | apply pw_below_drewN | apply below_drew1) | exact HB.out)) hb); clear HB; have HB := n0_; clear n0_; (try clear hb); (try clear hb2); (try clear hk); (try clear hi); have q29 : ((ji22) : Int) ≤ ((l0.length : Int) : Int) := of_decide_eq_true (by first | (with_reducible assumption) | assumption); obtain ⟨i029, hi029, _, hsz29, _⟩ := info_parts info39; have hroom29 : l0.length ≤ c0 := HC0.out; have hC29 : Kd.C k39 _ A0 l0.length l0 := HR0.out; have ql29 : (t116 : Int) ≤ ((ji22) : Int) := of_decide_eq_true (by first | (with_reducible assumption) | assumption); have q029 : (0 : Int) ≤ (t116 : Int) := of_decide_eq_true (by first | (with_reducible assumption) | assumption); have hcut29 := cut_mid (P := Try.prog) 22 39 .i64 .i64 Try.underlying22 hi029 2 hsz29 A0 l0.length c0 t116 (ji22) q029 ql29 q29 hroom29; have hr29 := Kd.C_mid (lo := (t116 : Int).toNat) (hi := ((ji22) : Int).toNat) (c := c0) hC29 (by omega) (by omega) hroom29; obtain ⟨A29, hA29⟩ : ∃ A1, A1 = (if c0 = (t116 : Int).toNat then A0 else (A0 : Option Addr).map (·.add ((t116 : Int).toNat * 2))) := ⟨_, rfl⟩; obtain ⟨c29, hc29⟩ : ∃ c1, c1 = c0 - (t116 : Int).toNat := ⟨_, rfl⟩; have hy29 : y127.length = ((ji22) : Int).toNat - (t116 : Int).toNat := (by rw [Ny127.out, List.length_drop, List.length_take] <;> omega); rw [show ((l0).take ((ji22) : Int).toNat).drop (t116 : Int).toNat = y127 from Ny127.out.symm] at hr29; replace hr29 : Kd.C k39 _ A29 y127.length y127 := (by rw [hA29]; exact hr29); rw [← hy29, ← hA29, ← hc29] at hcut29; have HR130 := Aside0.mk hr29; have HC130 := Aside0.mk (show y127.length ≤ c29 from by rw [hy29, hc29]; exact Nat.sub_le_sub_right (Nat.le_trans (by omega) hroom29) _); clear hr29 hC29 hroom29 hi029 hsz29 hc29; have KY29 := Aside0.mk hy29; have KA29 := Aside0.mk hA29; clear hy29 hA29; replace q29 := eq_true q29) | ((with_reducible refine gate_callee (f := 43) rfl ?_); refine goesL_ (some 42) rfl rfl Try.func43 (by kernel_rfl) rfl #[.slice A29 y127.length c29] rfl (by (try simp only [List.map_toArray, List.map_cons, List.map_nil]); first | done | rfl | (simp only [List.length_drop, List.length_take]; rfl)) ?_; (with_reducible refine (api_Pair.calls _ _ y127 t131 _ ?side1 ?side2 A26.out).mono ?_); (case side1 => repeat (first | exact (Kd.C_below HR130.out HB.out) | (with_reducible refine Kd.C_alloc ?_ _) | (with_reducible refine Kd.C_drewN ?_ _) | (with_reducible refine Kd.C_drew ?_))); (case side2 => exact HC130.out); rintro e w30 ⟨v132, rfl, ho0, hb⟩; refine ⟨_, rfl, ?_⟩; have n0_ := Aside0.mk (Kd.R_lower ho0 (below_size (by repeat (first | (with_reducible first | exact HB.out | apply below_alloc | apply pw_below_drewN | apply below_drew1) | exact HB.out)))); have n1_ := Aside0.mk (below_step (by repeat (first | (with_reducible first | exact HB.out | apply below_alloc | apply pw_below_drewN | apply below_drew1) | exact HB.out)) hb); clear HB; have HO133 := n0_; have HB := n1_; clear n0_ n1_; (try clear hb); (try clear hb2); (try clear hk); (try clear hi); (try clear ho0)))
          go_ret
          exact ⟨_, by first | rfl | (simp [errW_none, errW_some] <;> rfl) | (simp only [← hji19, ← hji20, ← hji21, ← hji22]; first | rfl | (simp [errW_none, errW_some] <;> rfl)) | (simp [*, errW_none, errW_some] <;> rfl), by (with_reducible repeat (first | apply Kd.R_alloc | apply Kd.R_drewN | apply Kd.R_drew)); exact HO133.out, by repeat (first | (with_reducible first | exact HB.out | apply below_alloc | apply pw_below_drewN | apply below_drew1) | exact HB.out)⟩
        · rw [if_neg c25] at H
          exact absurd H (by simp)
      · rw [if_neg c24] at H
        exact absurd H (by simp)
    · rw [if_neg c23] at H
      exact absurd H (by simp)

end Go.Proofs.Ytkncjpafehnmnaa.P

end

section
set_option linter.unusedVariables false
set_option linter.unusedSimpArgs false
namespace Go.Proofs.YtkncjpafehnmnaaL
open Go Go.RowKit Go.Proofs.YtkncjpafehnmnaaG Go.Proofs.Ytkncjpafehnmnaa.P Go.Proofs.YtkncjpafehnmnaaW.PrintWords Go.Proofs.YtkncjpafehnmnaaW.PrintMore
theorem rd_pr (l : List MPr) {j : Nat} (h : j < l.length) : rd_T39 l (j : Int) = l[j] := getD_at h
theorem rd_op (l : List MOp) {j : Nat} (h : j < l.length) : rd_T36 l (j : Int) = l[j] := getD_at h
def ShortP (e : MPr) : Prop := e.f0.size ≤ 70 ∧ e.f1.size ≤ 300
instance (e : MPr) : Decidable (ShortP e) := inferInstanceAs (Decidable (_ ∧ _))
theorem pfew_loop (l : List MPr) (most : Int) (hl : l.length < 9223372036854775800) :
    ∀ (m j : Nat), j + m = l.length → Ev (fun k => ratlinelaw12_few.l0 k l most l (l.length : Int) (j : Int)) (decide (∀ e ∈ l.drop j, ShortP e) && decide ((l.length : Int) ≤ most)) := by
  intro m
  induction m with
  | zero =>
    intro j hj
    obtain rfl : j = l.length := by omega
    refine ev_step (fun k => by rw [ratlinelaw12_few.l0, if_neg (Int.lt_irrefl _)]) ?_
    rw [List.drop_length]
    simpa using ev_some _
  | succ m ih =>
    intro j hj
    have hlt : j < l.length := by omega
    refine ev_step (fun k => by rw [ratlinelaw12_few.l0, if_pos (by omega), if_pos (by omega), if_pos (by omega), rd_pr l hlt, up1 (by omega)]) ?_
    rw [List.drop_eq_getElem_cons hlt]
    by_cases h1 : ((l[j].f0.size : Nat) : Int) > 70
    · refine ev_pos h1 ?_
      rw [decide_eq_false (fun h => by have := (h l[j] (List.mem_cons_self ..)).1; omega)]
      exact ev_some _
    · refine ev_neg h1 ?_
      by_cases h2 : ((l[j].f1.size : Nat) : Int) > 300
      · refine ev_pos h2 ?_
        rw [decide_eq_false (fun h => by have := (h l[j] (List.mem_cons_self ..)).2; omega)]
        exact ev_some _
      · refine ev_neg h2 ?_
        have e0 : (∀ e ∈ l[j] :: l.drop (j + 1), ShortP e) ↔ ∀ e ∈ l.drop (j + 1), ShortP e := ⟨fun h e he => h e (List.mem_cons_of_mem _ he), fun h e he => by
          rcases List.mem_cons.1 he with rfl | he
          · exact ⟨by omega, by omega⟩
          · exact h e he⟩
        rw [decide_eq_decide.2 e0]
        exact ih (j + 1) (by omega)
theorem pfew_f (l : List MPr) (most : Int) (hl : l.length < 9223372036854775800) : Ev (fun k => ratlinelaw12_few.f k l most) (decide (∀ e ∈ l, ShortP e) && decide ((l.length : Int) ≤ most)) := by
  have := pfew_loop l most hl l.length 0 (by omega)
  rwa [List.drop_zero] at this
def ShortO (o : MOp) : Prop := o.f1.size ≤ 70 ∧ o.f2.size ≤ 300
instance (e : MOp) : Decidable (ShortO e) := inferInstanceAs (Decidable (_ ∧ _))
theorem ofew_loop (l : List MOp) (most : Int) (hl : l.length < 9223372036854775800) :
    ∀ (m j : Nat), j + m = l.length → Ev (fun k => ratlinelaw04_Few.l0 k l most l (l.length : Int) (j : Int)) (decide (∀ e ∈ l.drop j, ShortO e) && decide ((l.length : Int) ≤ most)) := by
  intro m
  induction m with
  | zero =>
    intro j hj
    obtain rfl : j = l.length := by omega
    refine ev_step (fun k => by rw [ratlinelaw04_Few.l0, if_neg (Int.lt_irrefl _)]) ?_
    rw [List.drop_length]
    simpa using ev_some _
  | succ m ih =>
    intro j hj
    have hlt : j < l.length := by omega
    refine ev_step (fun k => by rw [ratlinelaw04_Few.l0, if_pos (by omega), if_pos (by omega), if_pos (by omega), rd_op l hlt, up1 (by omega)]) ?_
    rw [List.drop_eq_getElem_cons hlt]
    by_cases h1 : ((l[j].f1.size : Nat) : Int) > 70
    · refine ev_pos h1 ?_
      rw [decide_eq_false (fun h => by have := (h l[j] (List.mem_cons_self ..)).1; omega)]
      exact ev_some _
    · refine ev_neg h1 ?_
      by_cases h2 : ((l[j].f2.size : Nat) : Int) > 300
      · refine ev_pos h2 ?_
        rw [decide_eq_false (fun h => by have := (h l[j] (List.mem_cons_self ..)).2; omega)]
        exact ev_some _
      · refine ev_neg h2 ?_
        have e0 : (∀ e ∈ l[j] :: l.drop (j + 1), ShortO e) ↔ ∀ e ∈ l.drop (j + 1), ShortO e := ⟨fun h e he => h e (List.mem_cons_of_mem _ he), fun h e he => by
          rcases List.mem_cons.1 he with rfl | he
          · exact ⟨by omega, by omega⟩
          · exact h e he⟩
        rw [decide_eq_decide.2 e0]
        exact ih (j + 1) (by omega)
theorem ofew_f (l : List MOp) (most : Int) (hl : l.length < 9223372036854775800) : Ev (fun k => ratlinelaw04_Few.f k l most) (decide (∀ e ∈ l, ShortO e) && decide ((l.length : Int) ≤ most)) := by
  have := ofew_loop l most hl l.length 0 (by omega)
  rwa [List.drop_zero] at this
theorem pairs_loop (l : List MPr) (hl : l.length < 1000000000) : ∀ (m j : Nat), j + m = l.length → Ev (fun k => ratlinelaw11_Pairs.l0 k l l (l.length : Int) (j : Int)) true := by
  intro m
  induction m with
  | zero =>
    intro j hj
    obtain rfl : j = l.length := by omega
    exact ev_step (fun k => by rw [ratlinelaw11_Pairs.l0, if_neg (Int.lt_irrefl _)]) (ev_some _)
  | succ m ih =>
    intro j hj
    refine ev_step (fun k => by rw [ratlinelaw11_Pairs.l0, if_pos (by omega), if_pos (by omega), if_pos (by omega), if_pos (by omega), up1 (by omega)]) ?_
    exact ev_neg (by simp) (ih (j + 1) (by omega))
theorem pairs_same (l : List MPr) (hl : l.length < 1000000000) : Ev (fun k => ratlinelaw11_Pairs.f k l l) true := by
  unfold ratlinelaw11_Pairs.f
  exact ev_pos rfl (pairs_loop l hl l.length 0 (by omega))
def PairK (p : MPr) : Prop := 1 ≤ p.f0.size ∧ p.f0.size ≤ 64 ∧ p.f1.size ≤ 256
instance (p : MPr) : Decidable (PairK p) := inferInstanceAs (Decidable (_ ∧ _))
def behind (prev : Option ByteArray) (p : MPr) : Bool := match prev with | none => true | some q => Op.bytesLess q.toList p.f0.toList
def rightB : Option ByteArray → List MPr → Bool
  | _, [] => true
  | prev, p :: r => decide (PairK p) && behind prev p && rightB (some p.f0) r
def RightM (m : List MPr) : Prop := (∀ p ∈ m, PairK p) ∧ oRise m
instance (m : List MPr) : Decidable (RightM m) := inferInstanceAs (Decidable (_ ∧ _))
theorem rightB_iff : ∀ (m : List MPr) (prev : Option ByteArray), rightB prev m = true ↔ (∀ p ∈ m, PairK p) ∧ oRise m ∧ (∀ q, prev = some q → ∀ p ∈ m, lt q p.f0)
  | [], prev => ⟨fun _ => ⟨by simp, List.Pairwise.nil, by simp⟩, fun _ => rfl⟩
  | p :: r, prev => by
    rw [rightB, Bool.and_eq_true, Bool.and_eq_true, decide_eq_true_eq, rightB_iff r (some p.f0)]
    constructor
    · rintro ⟨⟨h1, h2⟩, h3, h4, h5⟩
      have h6 := h5 p.f0 rfl
      refine ⟨fun x hx => ?_, List.pairwise_cons.2 ⟨h6, h4⟩, fun q hq x hx => ?_⟩
      · rcases List.mem_cons.1 hx with rfl | hx
        · exact h1
        · exact h3 x hx
      · subst hq
        have h7 : lt q p.f0 := h2
        rcases List.mem_cons.1 hx with rfl | hx
        · exact h7
        · exact lt_trans h7 (h6 x hx)
    · rintro ⟨h1, h2, h3⟩
      obtain ⟨h4, h5⟩ := List.pairwise_cons.1 h2
      refine ⟨⟨h1 p (by simp), ?_⟩, fun x hx => h1 x (by simp [hx]), h5, fun q hq x hx => ?_⟩
      · cases prev with
        | none => rfl
        | some q => exact h3 q rfl p (by simp)
      · injection hq with hq
        subst hq
        exact h4 x hx
theorem rightB_right (m : List MPr) : rightB none m = decide (RightM m) := by
  rw [Bool.eq_iff_iff, rightB_iff, decide_eq_true_eq]
  exact ⟨fun h => ⟨h.1, h.2.1⟩, fun h => ⟨h.1, h.2, by simp⟩⟩
def prevAt (l : List MPr) (j : Nat) : Option ByteArray := if j = 0 then none else (l[j - 1]?).map (·.f0)
theorem prevAt_succ {l : List MPr} {j : Nat} (h : j < l.length) : prevAt l (j + 1) = some l[j].f0 := by
  unfold prevAt
  rw [if_neg (by omega), Nat.add_sub_cancel, List.getElem?_eq_getElem h]
  rfl
theorem putK_f (p : MPr) : batch_Op.f 1 p.f0 p.f1 = some (decide (PairK p)) := by
  rw [opK_f ⟨1, p.f0, p.f1⟩]
  congr 1
  refine decide_eq_decide.2 ?_
  show (1 ≤ p.f0.size ∧ p.f0.size ≤ 64 ∧ (1 : Int) ≤ 1 ∧ (p.f1.size : Int) ≤ (if (1 : Int) = 0 then 0 else 256)) ↔ (1 ≤ p.f0.size ∧ p.f0.size ≤ 64 ∧ p.f1.size ≤ 256)
  rw [if_neg (by decide)]
  constructor
  · rintro ⟨a, b, c, d⟩; exact ⟨a, b, by omega⟩
  · rintro ⟨a, b, c⟩; exact ⟨a, b, by decide, by omega⟩
theorem oright_loop (l : List MPr) (hl : l.length < 9223372036854775800) :
    ∀ (m j : Nat), j + m = l.length → Ev (fun k => omap_Right.l0 k l l (l.length : Int) (j : Int)) (rightB (prevAt l j) (l.drop j)) := by
  intro m
  induction m with
  | zero =>
    intro j hj
    obtain rfl : j = l.length := by omega
    refine ev_step (fun k => by rw [omap_Right.l0, if_neg (Int.lt_irrefl _)]) ?_
    rw [List.drop_length]
    exact ev_some _
  | succ m ih =>
    intro j hj
    have hlt : j < l.length := by omega
    refine ev_step (fun k => by rw [omap_Right.l0, if_pos (by omega), if_pos (by omega), if_pos (by omega), rd_pr l hlt, up1 (by omega)]) ?_
    rw [List.drop_eq_getElem_cons hlt, rightB, ← prevAt_succ hlt]
    refine ev_bind (putK_f _) ?_
    by_cases h1 : PairK l[j]
    · refine ev_pos (decide_eq_true h1) ?_
      rw [decide_eq_true h1, Bool.true_and]
      cases j with
      | zero =>
        refine ev_neg (by omega) ?_
        exact ih 1 (by omega)
      | succ j =>
        have hm : wrap64 (((j + 1 : Nat) : Int) - 1) = (j : Int) := by unfold wrap64; omega
        refine ev_pos (by omega) ?_
        rw [hm, rd_pr l (show j < l.length by omega)]
        refine ev_pos (by omega) (ev_pos (by omega) ?_)
        rw [prevAt_succ (show j < l.length by omega)]
        by_cases h2 : Op.bytesLess l[j].f0.toList l[j + 1].f0.toList = true
        · refine ev_pos h2 ?_
          rw [show behind (some l[j].f0) l[j + 1] = true from h2, Bool.true_and]
          exact ih (j + 1 + 1) (by omega)
        · refine ev_neg h2 ?_
          rw [show behind (some l[j].f0) l[j + 1] = false from by simpa [behind] using h2, Bool.false_and]
          exact ev_some _
    · refine ev_neg (by rw [decide_eq_false h1]; decide) ?_
      rw [decide_eq_false h1]
      exact ev_some _
theorem oright_f (l : List MPr) (hl : l.length < 9223372036854775800) : Ev (fun k => omap_Right.f k l) (decide (RightM l)) := by
  have := oright_loop l hl l.length 0 (by omega)
  rw [List.drop_zero, show prevAt l 0 = none from rfl, rightB_right] at this
  exact this
theorem oget_f {m : List MPr} (hm : m.length ≤ 1000000) (hr : oRise m) (key : ByteArray) : omap_Get.f m key = some ((oVal m key).getD ⟨#[]⟩, (oVal m key).isSome) := by
  unfold omap_Get.f
  have hf : omap_find.f m key = some ((oAt m key : Int), oIs m key) := by unfold omap_find.f; rw [if_pos ⟨hm, hr⟩]
  rw [hf]
  show (if oIs m key = true then _ else _) = _
  obtain ⟨A, mid, B, h⟩ := cut_of (key := key) hr
  rw [h.val, h.is, h.at]
  rcases h.mids with rfl | ⟨p, rfl, hp⟩
  · rfl
  · have hlt : A.length < m.length := by rw [h.eq]; simp
    show (if (!([p] : List MPr).isEmpty) = true then if (0 : Int) ≤ (A.length : Int) then if (A.length : Int) < (m.length : Int) then some ((rd_T39 m (A.length : Int)).f1, true) else none else none else some ((⟨#[]⟩ : ByteArray), false)) = _
    rw [if_pos (show (!([p] : List MPr).isEmpty) = true from rfl), if_pos (by omega), if_pos (by omega), rd_pr m hlt]
    have : m[A.length] = p := by
      have e := h.eq
      subst e
      simp
    rw [this]
    rfl
theorem oAt_le (m : List MPr) (key : ByteArray) : oAt m key ≤ m.length := (List.takeWhile_sublist _).length_le
theorem oapply_f {m : List MPr} (hm : m.length ≤ 1000) (hr : oRise m) {l : List MOp} (hl : l.length ≤ 1000) : omap_Apply.f m l = some (oAll m l) := by unfold omap_Apply.f; rw [if_pos ⟨hm, hl, hr⟩]
end Go.Proofs.YtkncjpafehnmnaaL

end

section
namespace Go.Proofs.Ytkncjpafehnmnaa.P
open Go.RowKit Go.Proofs.YtkncjpafehnmnaaG Go.Proofs.YtkncjpafehnmnaaW.PrintWords Go.Proofs.YtkncjpafehnmnaaW.PrintLast Go.Proofs.YtkncjpafehnmnaaW.PrintMore
attribute [local go_sem] str_gtr str_geq str_leq max2_int min2_int max_two min_two max_three min_three max_four min_four   -- for this text's walks alone
set_option linter.unusedVariables false
set_option linter.unusedSimpArgs false

def ratlinelaw12_awake.f (k : Nat)  : Option (Bool) := (omap_Apply.f (([(⟨(⟨#[98]⟩ : ByteArray), (⟨#[50]⟩ : ByteArray)⟩ : S39)] : List (S39))) (([(⟨1, (⟨#[97]⟩ : ByteArray), (⟨#[49]⟩ : ByteArray)⟩ : S36), (⟨0, (⟨#[98]⟩ : ByteArray), (⟨#[]⟩ : ByteArray)⟩ : S36), (⟨1, (⟨#[99]⟩ : ByteArray), (⟨#[51]⟩ : ByteArray)⟩ : S36), (⟨1, (⟨#[99]⟩ : ByteArray), (⟨#[52]⟩ : ByteArray)⟩ : S36)] : List (S36)))).bind fun t140 => ((omap_Get.f t140 (⟨#[98]⟩ : ByteArray)).bind fun bt143 => ((omap_Get.f t140 (⟨#[99]⟩ : ByteArray)).bind fun bt145 => ((ratlinelaw11_Pairs.f k t140 (([(⟨(⟨#[97]⟩ : ByteArray), (⟨#[49]⟩ : ByteArray)⟩ : S39), (⟨(⟨#[99]⟩ : ByteArray), (⟨#[52]⟩ : ByteArray)⟩ : S39)] : List (S39)))).bind fun t152 => (if t152 = true then (if bt143.2 = true then (none) else (if bt145.2 = true then (if bt145.1.toList = ([52] : List UInt8) then ((omap_Scan.f t140 (⟨#[98]⟩ : ByteArray) (⟨#[]⟩ : ByteArray) 9).bind fun t153 => ((ratlinelaw11_Pairs.f k t153 (([(⟨(⟨#[99]⟩ : ByteArray), (⟨#[52]⟩ : ByteArray)⟩ : S39)] : List (S39)))).bind fun t159 => (if t159 = true then ((omap_Scan.f t140 (⟨#[97]⟩ : ByteArray) (⟨#[99]⟩ : ByteArray) 9).bind fun t160 => ((ratlinelaw11_Pairs.f k t160 (([(⟨(⟨#[97]⟩ : ByteArray), (⟨#[49]⟩ : ByteArray)⟩ : S39)] : List (S39)))).bind fun t166 => (if t166 = true then ((omap_Scan.f t140 (⟨#[]⟩ : ByteArray) (⟨#[]⟩ : ByteArray) 0).bind fun t167 => (some ((t167.length : Int) == 0))) else (none)))) else (none)))) else (none)) else (none))) else (none)))))
theorem ratlinelaw12_awake.mono : ∀ k, LeO (ratlinelaw12_awake.f k ) (ratlinelaw12_awake.f (k + 1) ) := by
  intro  k
  unfold ratlinelaw12_awake.f
  repeat' first
      | (with_reducible exact ratlinelaw11_Pairs.mono _ _ _)
      | (with_reducible exact LeO.refl _)
      | (with_reducible exact LeO.none _)
      | (with_reducible refine LeO.ite ?_ ?_)
      | (with_reducible refine LeO.bind ?_ (fun _ => ?_))
      | exact ratlinelaw11_Pairs.mono _ _ _
      | exact LeO.none _
      | refine LeO.ite ?_ ?_
      | refine LeO.bind ?_ (fun _ => ?_)
def ratlinelaw12_awake.T6 : Bool × List (List Nat × List Nat) := (true, [([], []), ([], []), ([], []), ([], []), ([2, 3], [2, 3]), ([0, 1, 4], [0, 1, 4]), ([5, 5], [5]), ([6], [6]), ([7, 6], [6, 7]), ([6, 8], [6, 8]), ([9, 6], [9]), ([10], [10]), ([10, 11], [10, 11]), ([12, 10], [12]), ([13], [13]), ([14, 13], [13, 14]), ([13, 15], [13, 15]), ([16, 13], [16]), ([17], [17]), ([17], [17]), ([19, 17, 17], [17, 19]), ([17], [17]), ([21, 17], [17, 21]), ([18, 20, 22, 20, 17], [17, 18, 20, 22]), ([17, 23], [17, 23]), ([24, 23], [24]), ([25], [25]), ([25], [25]), ([27, 25, 25], [25, 27]), ([25], [25]), ([29, 25], [25, 29]), ([26, 28, 30, 28, 25], [25, 26, 28, 30]), ([25, 31], [25, 31]), ([32, 31], [32]), ([33], [33]), ([34, 33, 33], [33, 34]), ([35, 33], [33, 35]), ([36, 33], [33, 36]), ([33, 37], [33, 37]), ([38, 35, 0, 1, 2, 3, 4, 5, 6, 7, 8, 9, 10, 11, 12, 13, 14, 15, 16, 17, 18, 19, 20, 21, 22, 23, 24, 25, 26, 27, 28, 29, 30, 31, 32, 33, 34, 35, 36, 37, 38], [38])])
def ratlinelaw12_awake.B6 : List Nat := [0, 0, 0, 0, 12, 31, 63, 127, 255, 511, 1023, 2047, 4095, 8191, 16383, 32767, 65535, 131071, 262143, 262143, 786431, 262143, 2359295, 8388607, 16777215, 33554431, 67108863, 67108863, 201326591, 67108863, 603979775, 2147483647, 4294967295, 8589934591, 17179869183, 34359738367, 68719476735, 137438953471, 274877906943, 549755813887]
theorem ratlinelaw12_awake.tab6 : rtab .any (opsOf Try.f15 6) = ratlinelaw12_awake.T6 := by kernel_rfl
theorem ratlinelaw12_awake.bits6 : waitsOk ratlinelaw12_awake.T6.2 ratlinelaw12_awake.B6 = true := by kernel_rfl
set_option maxHeartbeats 8000000 in
set_option maxRecDepth 100000 in
theorem ratlinelaw12_awake.calls (k : Nat)  (r : Bool) (w : World) (h : ratlinelaw12_awake.f k  = some r) :
    Calls Try.prog 15 #[] w fun e w' => e = .returned (.bool r) ∧ Below w.heap.size w w' := by
  have hu39 := Try.underlying39
  have hu36 := Try.underlying36
  have HB := Aside0.mk (Below.refl w.heap.size w)
  have H : ((omap_Apply.f (([(⟨(⟨#[98]⟩ : ByteArray), (⟨#[50]⟩ : ByteArray)⟩ : S39)] : List (S39))) (([(⟨1, (⟨#[97]⟩ : ByteArray), (⟨#[49]⟩ : ByteArray)⟩ : S36), (⟨0, (⟨#[98]⟩ : ByteArray), (⟨#[]⟩ : ByteArray)⟩ : S36), (⟨1, (⟨#[99]⟩ : ByteArray), (⟨#[51]⟩ : ByteArray)⟩ : S36), (⟨1, (⟨#[99]⟩ : ByteArray), (⟨#[52]⟩ : ByteArray)⟩ : S36)] : List (S36)))).bind fun t140 => ((omap_Get.f t140 (⟨#[98]⟩ : ByteArray)).bind fun bt143 => ((omap_Get.f t140 (⟨#[99]⟩ : ByteArray)).bind fun bt145 => ((ratlinelaw11_Pairs.f k t140 (([(⟨(⟨#[97]⟩ : ByteArray), (⟨#[49]⟩ : ByteArray)⟩ : S39), (⟨(⟨#[99]⟩ : ByteArray), (⟨#[52]⟩ : ByteArray)⟩ : S39)] : List (S39)))).bind fun t152 => (if t152 = true then (if bt143.2 = true then (none) else (if bt145.2 = true then (if bt145.1.toList = ([52] : List UInt8) then ((omap_Scan.f t140 (⟨#[98]⟩ : ByteArray) (⟨#[]⟩ : ByteArray) 9).bind fun t153 => ((ratlinelaw11_Pairs.f k t153 (([(⟨(⟨#[99]⟩ : ByteArray), (⟨#[52]⟩ : ByteArray)⟩ : S39)] : List (S39)))).bind fun t159 => (if t159 = true then ((omap_Scan.f t140 (⟨#[97]⟩ : ByteArray) (⟨#[99]⟩ : ByteArray) 9).bind fun t160 => ((ratlinelaw11_Pairs.f k t160 (([(⟨(⟨#[97]⟩ : ByteArray), (⟨#[49]⟩ : ByteArray)⟩ : S39)] : List (S39)))).bind fun t166 => (if t166 = true then ((omap_Scan.f t140 (⟨#[]⟩ : ByteArray) (⟨#[]⟩ : ByteArray) 0).bind fun t167 => (some ((t167.length : Int) == 0))) else (none)))) else (none)))) else (none)) else (none))) else (none)))))) = some r := h
  clear h
  obtain ⟨y134, hy134⟩ : ∃ y_ : List (S39), y_ = (([(⟨(⟨#[98]⟩ : ByteArray), (⟨#[50]⟩ : ByteArray)⟩ : S39)] : List (S39))) := ⟨_, rfl⟩
  replace H : ((omap_Apply.f y134 (([(⟨1, (⟨#[97]⟩ : ByteArray), (⟨#[49]⟩ : ByteArray)⟩ : S36), (⟨0, (⟨#[98]⟩ : ByteArray), (⟨#[]⟩ : ByteArray)⟩ : S36), (⟨1, (⟨#[99]⟩ : ByteArray), (⟨#[51]⟩ : ByteArray)⟩ : S36), (⟨1, (⟨#[99]⟩ : ByteArray), (⟨#[52]⟩ : ByteArray)⟩ : S36)] : List (S36)))).bind fun t140 => ((omap_Get.f t140 (⟨#[98]⟩ : ByteArray)).bind fun bt143 => ((omap_Get.f t140 (⟨#[99]⟩ : ByteArray)).bind fun bt145 => ((ratlinelaw11_Pairs.f k t140 (([(⟨(⟨#[97]⟩ : ByteArray), (⟨#[49]⟩ : ByteArray)⟩ : S39), (⟨(⟨#[99]⟩ : ByteArray), (⟨#[52]⟩ : ByteArray)⟩ : S39)] : List (S39)))).bind fun t152 => (if t152 = true then (if bt143.2 = true then (none) else (if bt145.2 = true then (if bt145.1.toList = ([52] : List UInt8) then ((omap_Scan.f t140 (⟨#[98]⟩ : ByteArray) (⟨#[]⟩ : ByteArray) 9).bind fun t153 => ((ratlinelaw11_Pairs.f k t153 (([(⟨(⟨#[99]⟩ : ByteArray), (⟨#[52]⟩ : ByteArray)⟩ : S39)] : List (S39)))).bind fun t159 => (if t159 = true then ((omap_Scan.f t140 (⟨#[97]⟩ : ByteArray) (⟨#[99]⟩ : ByteArray) 9).bind fun t160 => ((ratlinelaw11_Pairs.f k t160 (([(⟨(⟨#[97]⟩ : ByteArray), (⟨#[49]⟩ : ByteArray)⟩ : S39)] : List (S39)))).bind fun t166 => (if t166 = true then ((omap_Scan.f t140 (⟨#[]⟩ : ByteArray) (⟨#[]⟩ : ByteArray) 0).bind fun t167 => (some ((t167.length : Int) == 0))) else (none)))) else (none)))) else (none)) else (none))) else (none)))))) = some r := by first | (rw [hy134]; with_reducible exact H) | (have H2_ := (Option.bind_some _ _).symm.trans H; rw [hy134]; with_reducible exact H2_) | (have H2_ := (Option.bind_some _ _).symm.trans H; with_reducible exact H2_) | with_reducible exact H | (rw [hy134]; exact H) | exact H
  have Ny134 := Aside0.mk hy134
  clear hy134
  obtain ⟨y137, hy137⟩ : ∃ y_ : List (S36), y_ = (([(⟨1, (⟨#[97]⟩ : ByteArray), (⟨#[49]⟩ : ByteArray)⟩ : S36), (⟨0, (⟨#[98]⟩ : ByteArray), (⟨#[]⟩ : ByteArray)⟩ : S36), (⟨1, (⟨#[99]⟩ : ByteArray), (⟨#[51]⟩ : ByteArray)⟩ : S36), (⟨1, (⟨#[99]⟩ : ByteArray), (⟨#[52]⟩ : ByteArray)⟩ : S36)] : List (S36))) := ⟨_, rfl⟩
  replace H : ((omap_Apply.f y134 y137).bind fun t140 => ((omap_Get.f t140 (⟨#[98]⟩ : ByteArray)).bind fun bt143 => ((omap_Get.f t140 (⟨#[99]⟩ : ByteArray)).bind fun bt145 => ((ratlinelaw11_Pairs.f k t140 (([(⟨(⟨#[97]⟩ : ByteArray), (⟨#[49]⟩ : ByteArray)⟩ : S39), (⟨(⟨#[99]⟩ : ByteArray), (⟨#[52]⟩ : ByteArray)⟩ : S39)] : List (S39)))).bind fun t152 => (if t152 = true then (if bt143.2 = true then (none) else (if bt145.2 = true then (if bt145.1.toList = ([52] : List UInt8) then ((omap_Scan.f t140 (⟨#[98]⟩ : ByteArray) (⟨#[]⟩ : ByteArray) 9).bind fun t153 => ((ratlinelaw11_Pairs.f k t153 (([(⟨(⟨#[99]⟩ : ByteArray), (⟨#[52]⟩ : ByteArray)⟩ : S39)] : List (S39)))).bind fun t159 => (if t159 = true then ((omap_Scan.f t140 (⟨#[97]⟩ : ByteArray) (⟨#[99]⟩ : ByteArray) 9).bind fun t160 => ((ratlinelaw11_Pairs.f k t160 (([(⟨(⟨#[97]⟩ : ByteArray), (⟨#[49]⟩ : ByteArray)⟩ : S39)] : List (S39)))).bind fun t166 => (if t166 = true then ((omap_Scan.f t140 (⟨#[]⟩ : ByteArray) (⟨#[]⟩ : ByteArray) 0).bind fun t167 => (some ((t167.length : Int) == 0))) else (none)))) else (none)))) else (none)) else (none))) else (none)))))) = some r := by first | (rw [hy137]; with_reducible exact H) | (have H2_ := (Option.bind_some _ _).symm.trans H; rw [hy137]; with_reducible exact H2_) | (have H2_ := (Option.bind_some _ _).symm.trans H; with_reducible exact H2_) | with_reducible exact H | (rw [hy137]; exact H) | exact H
  have Ny137 := Aside0.mk hy137
  clear hy137
  replace H := Option.bind_eq_some_iff.mp H
  obtain ⟨t140, A10, H⟩ := H
  replace H : ((omap_Get.f t140 (⟨#[98]⟩ : ByteArray)).bind fun bt143 => ((omap_Get.f t140 (⟨#[99]⟩ : ByteArray)).bind fun bt145 => ((ratlinelaw11_Pairs.f k t140 (([(⟨(⟨#[97]⟩ : ByteArray), (⟨#[49]⟩ : ByteArray)⟩ : S39), (⟨(⟨#[99]⟩ : ByteArray), (⟨#[52]⟩ : ByteArray)⟩ : S39)] : List (S39)))).bind fun t152 => (if t152 = true then (if bt143.2 = true then (none) else (if bt145.2 = true then (if bt145.1.toList = ([52] : List UInt8) then ((omap_Scan.f t140 (⟨#[98]⟩ : ByteArray) (⟨#[]⟩ : ByteArray) 9).bind fun t153 => ((ratlinelaw11_Pairs.f k t153 (([(⟨(⟨#[99]⟩ : ByteArray), (⟨#[52]⟩ : ByteArray)⟩ : S39)] : List (S39)))).bind fun t159 => (if t159 = true then ((omap_Scan.f t140 (⟨#[97]⟩ : ByteArray) (⟨#[99]⟩ : ByteArray) 9).bind fun t160 => ((ratlinelaw11_Pairs.f k t160 (([(⟨(⟨#[97]⟩ : ByteArray), (⟨#[49]⟩ : ByteArray)⟩ : S39)] : List (S39)))).bind fun t166 => (if t166 = true then ((omap_Scan.f t140 (⟨#[]⟩ : ByteArray) (⟨#[]⟩ : ByteArray) 0).bind fun t167 => (some ((t167.length : Int) == 0))) else (none)))) else (none)))) else (none)) else (none))) else (none))))) = some r := H
  have A1 := Aside0.mk A10
  clear A10
  replace H := Option.bind_eq_some_iff.mp H
  obtain ⟨⟨t143, t144⟩, A20, H⟩ := H
  replace H : ((omap_Get.f t140 (⟨#[99]⟩ : ByteArray)).bind fun bt145 => ((ratlinelaw11_Pairs.f k t140 (([(⟨(⟨#[97]⟩ : ByteArray), (⟨#[49]⟩ : ByteArray)⟩ : S39), (⟨(⟨#[99]⟩ : ByteArray), (⟨#[52]⟩ : ByteArray)⟩ : S39)] : List (S39)))).bind fun t152 => (if t152 = true then (if t144 = true then (none) else (if bt145.2 = true then (if bt145.1.toList = ([52] : List UInt8) then ((omap_Scan.f t140 (⟨#[98]⟩ : ByteArray) (⟨#[]⟩ : ByteArray) 9).bind fun t153 => ((ratlinelaw11_Pairs.f k t153 (([(⟨(⟨#[99]⟩ : ByteArray), (⟨#[52]⟩ : ByteArray)⟩ : S39)] : List (S39)))).bind fun t159 => (if t159 = true then ((omap_Scan.f t140 (⟨#[97]⟩ : ByteArray) (⟨#[99]⟩ : ByteArray) 9).bind fun t160 => ((ratlinelaw11_Pairs.f k t160 (([(⟨(⟨#[97]⟩ : ByteArray), (⟨#[49]⟩ : ByteArray)⟩ : S39)] : List (S39)))).bind fun t166 => (if t166 = true then ((omap_Scan.f t140 (⟨#[]⟩ : ByteArray) (⟨#[]⟩ : ByteArray) 0).bind fun t167 => (some ((t167.length : Int) == 0))) else (none)))) else (none)))) else (none)) else (none))) else (none)))) = some r := H
  have A2 := Aside0.mk A20
  clear A20
  replace H := Option.bind_eq_some_iff.mp H
  obtain ⟨⟨t145, t146⟩, A30, H⟩ := H
  replace H : ((ratlinelaw11_Pairs.f k t140 (([(⟨(⟨#[97]⟩ : ByteArray), (⟨#[49]⟩ : ByteArray)⟩ : S39), (⟨(⟨#[99]⟩ : ByteArray), (⟨#[52]⟩ : ByteArray)⟩ : S39)] : List (S39)))).bind fun t152 => (if t152 = true then (if t144 = true then (none) else (if t146 = true then (if t145.toList = ([52] : List UInt8) then ((omap_Scan.f t140 (⟨#[98]⟩ : ByteArray) (⟨#[]⟩ : ByteArray) 9).bind fun t153 => ((ratlinelaw11_Pairs.f k t153 (([(⟨(⟨#[99]⟩ : ByteArray), (⟨#[52]⟩ : ByteArray)⟩ : S39)] : List (S39)))).bind fun t159 => (if t159 = true then ((omap_Scan.f t140 (⟨#[97]⟩ : ByteArray) (⟨#[99]⟩ : ByteArray) 9).bind fun t160 => ((ratlinelaw11_Pairs.f k t160 (([(⟨(⟨#[97]⟩ : ByteArray), (⟨#[49]⟩ : ByteArray)⟩ : S39)] : List (S39)))).bind fun t166 => (if t166 = true then ((omap_Scan.f t140 (⟨#[]⟩ : ByteArray) (⟨#[]⟩ : ByteArray) 0).bind fun t167 => (some ((t167.length : Int) == 0))) else (none)))) else (none)))) else (none)) else (none))) else (none))) = some r := H
  have A3 := Aside0.mk A30
  clear A30
  obtain ⟨y149, hy149⟩ : ∃ y_ : List (S39), y_ = (([(⟨(⟨#[97]⟩ : ByteArray), (⟨#[49]⟩ : ByteArray)⟩ : S39), (⟨(⟨#[99]⟩ : ByteArray), (⟨#[52]⟩ : ByteArray)⟩ : S39)] : List (S39))) := ⟨_, rfl⟩
  replace H : ((ratlinelaw11_Pairs.f k t140 y149).bind fun t152 => (if t152 = true then (if t144 = true then (none) else (if t146 = true then (if t145.toList = ([52] : List UInt8) then ((omap_Scan.f t140 (⟨#[98]⟩ : ByteArray) (⟨#[]⟩ : ByteArray) 9).bind fun t153 => ((ratlinelaw11_Pairs.f k t153 (([(⟨(⟨#[99]⟩ : ByteArray), (⟨#[52]⟩ : ByteArray)⟩ : S39)] : List (S39)))).bind fun t159 => (if t159 = true then ((omap_Scan.f t140 (⟨#[97]⟩ : ByteArray) (⟨#[99]⟩ : ByteArray) 9).bind fun t160 => ((ratlinelaw11_Pairs.f k t160 (([(⟨(⟨#[97]⟩ : ByteArray), (⟨#[49]⟩ : ByteArray)⟩ : S39)] : List (S39)))).bind fun t166 => (if t166 = true then ((omap_Scan.f t140 (⟨#[]⟩ : ByteArray) (⟨#[]⟩ : ByteArray) 0).bind fun t167 => (some ((t167.length : Int) == 0))) else (none)))) else (none)))) else (none)) else (none))) else (none))) = some r := by first | (rw [hy149]; with_reducible exact H) | (have H2_ := (Option.bind_some _ _).symm.trans H; rw [hy149]; with_reducible exact H2_) | (have H2_ := (Option.bind_some _ _).symm.trans H; with_reducible exact H2_) | with_reducible exact H | (rw [hy149]; exact H) | exact H
  have Ny149 := Aside0.mk hy149
  clear hy149
  replace H := Option.bind_eq_some_iff.mp H
  obtain ⟨t152, A40, H⟩ := H
  replace H : (if t152 = true then (if t144 = true then (none) else (if t146 = true then (if t145.toList = ([52] : List UInt8) then ((omap_Scan.f t140 (⟨#[98]⟩ : ByteArray) (⟨#[]⟩ : ByteArray) 9).bind fun t153 => ((ratlinelaw11_Pairs.f k t153 (([(⟨(⟨#[99]⟩ : ByteArray), (⟨#[52]⟩ : ByteArray)⟩ : S39)] : List (S39)))).bind fun t159 => (if t159 = true then ((omap_Scan.f t140 (⟨#[97]⟩ : ByteArray) (⟨#[99]⟩ : ByteArray) 9).bind fun t160 => ((ratlinelaw11_Pairs.f k t160 (([(⟨(⟨#[97]⟩ : ByteArray), (⟨#[49]⟩ : ByteArray)⟩ : S39)] : List (S39)))).bind fun t166 => (if t166 = true then ((omap_Scan.f t140 (⟨#[]⟩ : ByteArray) (⟨#[]⟩ : ByteArray) 0).bind fun t167 => (some ((t167.length : Int) == 0))) else (none)))) else (none)))) else (none)) else (none))) else (none)) = some r := H
  have A4 := Aside0.mk A40
  clear A40
  by_cases c5 : t152 = true
  · subst c5
    have H1 : (if t144 = true then (none) else (if t146 = true then (if t145.toList = ([52] : List UInt8) then ((omap_Scan.f t140 (⟨#[98]⟩ : ByteArray) (⟨#[]⟩ : ByteArray) 9).bind fun t153 => ((ratlinelaw11_Pairs.f k t153 (([(⟨(⟨#[99]⟩ : ByteArray), (⟨#[52]⟩ : ByteArray)⟩ : S39)] : List (S39)))).bind fun t159 => (if t159 = true then ((omap_Scan.f t140 (⟨#[97]⟩ : ByteArray) (⟨#[99]⟩ : ByteArray) 9).bind fun t160 => ((ratlinelaw11_Pairs.f k t160 (([(⟨(⟨#[97]⟩ : ByteArray), (⟨#[49]⟩ : ByteArray)⟩ : S39)] : List (S39)))).bind fun t166 => (if t166 = true then ((omap_Scan.f t140 (⟨#[]⟩ : ByteArray) (⟨#[]⟩ : ByteArray) 0).bind fun t167 => (some ((t167.length : Int) == 0))) else (none)))) else (none)))) else (none)) else (none))) = some r := by rw [if_pos rfl] at H; exact H
    clear H
    have H := H1
    clear H1
    by_cases c6 : t144 = true
    · subst c6
      have H1 : (none) = some r := by rw [if_pos rfl] at H; exact H
      clear H
      have H := H1
      clear H1
      exact absurd H (by simp)
    · replace c6 := Bool.eq_false_iff.mpr c6
      subst c6
      have H1 : (if t146 = true then (if t145.toList = ([52] : List UInt8) then ((omap_Scan.f t140 (⟨#[98]⟩ : ByteArray) (⟨#[]⟩ : ByteArray) 9).bind fun t153 => ((ratlinelaw11_Pairs.f k t153 (([(⟨(⟨#[99]⟩ : ByteArray), (⟨#[52]⟩ : ByteArray)⟩ : S39)] : List (S39)))).bind fun t159 => (if t159 = true then ((omap_Scan.f t140 (⟨#[97]⟩ : ByteArray) (⟨#[99]⟩ : ByteArray) 9).bind fun t160 => ((ratlinelaw11_Pairs.f k t160 (([(⟨(⟨#[97]⟩ : ByteArray), (⟨#[49]⟩ : ByteArray)⟩ : S39)] : List (S39)))).bind fun t166 => (if t166 = true then ((omap_Scan.f t140 (⟨#[]⟩ : ByteArray) (⟨#[]⟩ : ByteArray) 0).bind fun t167 => (some ((t167.length : Int) == 0))) else (none)))) else (none)))) else (none)) else (none)) = some r := by rw [if_neg (show ¬ (false = true) by decide)] at H; exact H
      clear H
      have H := H1
      clear H1
      by_cases c7 : t146 = true
      · subst c7
        have H1 : (if t145.toList = ([52] : List UInt8) then ((omap_Scan.f t140 (⟨#[98]⟩ : ByteArray) (⟨#[]⟩ : ByteArray) 9).bind fun t153 => ((ratlinelaw11_Pairs.f k t153 (([(⟨(⟨#[99]⟩ : ByteArray), (⟨#[52]⟩ : ByteArray)⟩ : S39)] : List (S39)))).bind fun t159 => (if t159 = true then ((omap_Scan.f t140 (⟨#[97]⟩ : ByteArray) (⟨#[99]⟩ : ByteArray) 9).bind fun t160 => ((ratlinelaw11_Pairs.f k t160 (([(⟨(⟨#[97]⟩ : ByteArray), (⟨#[49]⟩ : ByteArray)⟩ : S39)] : List (S39)))).bind fun t166 => (if t166 = true then ((omap_Scan.f t140 (⟨#[]⟩ : ByteArray) (⟨#[]⟩ : ByteArray) 0).bind fun t167 => (some ((t167.length : Int) == 0))) else (none)))) else (none)))) else (none)) = some r := by rw [if_pos rfl] at H; exact H
        clear H
        have H := H1
        clear H1
        by_cases c8 : t145.toList = ([52] : List UInt8)
        · rw [if_pos c8] at H
          have c8b0 : (t145.toList == ([52] : List UInt8)) = true := beq_iff_eq.mpr c8
          have c8b1 : (t145.toList != ([52] : List UInt8)) = false := bne_eq_false_iff_eq.mpr c8
          clear c8
          replace H := Option.bind_eq_some_iff.mp H
          obtain ⟨t153, A90, H⟩ := H
          replace H : ((ratlinelaw11_Pairs.f k t153 (([(⟨(⟨#[99]⟩ : ByteArray), (⟨#[52]⟩ : ByteArray)⟩ : S39)] : List (S39)))).bind fun t159 => (if t159 = true then ((omap_Scan.f t140 (⟨#[97]⟩ : ByteArray) (⟨#[99]⟩ : ByteArray) 9).bind fun t160 => ((ratlinelaw11_Pairs.f k t160 (([(⟨(⟨#[97]⟩ : ByteArray), (⟨#[49]⟩ : ByteArray)⟩ : S39)] : List (S39)))).bind fun t166 => (if t166 = true then ((omap_Scan.f t140 (⟨#[]⟩ : ByteArray) (⟨#[]⟩ : ByteArray) 0).bind fun t167 => (some ((t167.length : Int) == 0))) else (none)))) else (none))) = some r := H
          have A9 := Aside0.mk A90
          clear A90
          obtain ⟨y156, hy156⟩ : ∃ y_ : List (S39), y_ = (([(⟨(⟨#[99]⟩ : ByteArray), (⟨#[52]⟩ : ByteArray)⟩ : S39)] : List (S39))) := ⟨_, rfl⟩
          replace H : ((ratlinelaw11_Pairs.f k t153 y156).bind fun t159 => (if t159 = true then ((omap_Scan.f t140 (⟨#[97]⟩ : ByteArray) (⟨#[99]⟩ : ByteArray) 9).bind fun t160 => ((ratlinelaw11_Pairs.f k t160 (([(⟨(⟨#[97]⟩ : ByteArray), (⟨#[49]⟩ : ByteArray)⟩ : S39)] : List (S39)))).bind fun t166 => (if t166 = true then ((omap_Scan.f t140 (⟨#[]⟩ : ByteArray) (⟨#[]⟩ : ByteArray) 0).bind fun t167 => (some ((t167.length : Int) == 0))) else (none)))) else (none))) = some r := by first | (rw [hy156]; with_reducible exact H) | (have H2_ := (Option.bind_some _ _).symm.trans H; rw [hy156]; with_reducible exact H2_) | (have H2_ := (Option.bind_some _ _).symm.trans H; with_reducible exact H2_) | with_reducible exact H | (rw [hy156]; exact H) | exact H
          have Ny156 := Aside0.mk hy156
          clear hy156
          replace H := Option.bind_eq_some_iff.mp H
          obtain ⟨t159, A100, H⟩ := H
          replace H : (if t159 = true then ((omap_Scan.f t140 (⟨#[97]⟩ : ByteArray) (⟨#[99]⟩ : ByteArray) 9).bind fun t160 => ((ratlinelaw11_Pairs.f k t160 (([(⟨(⟨#[97]⟩ : ByteArray), (⟨#[49]⟩ : ByteArray)⟩ : S39)] : List (S39)))).bind fun t166 => (if t166 = true then ((omap_Scan.f t140 (⟨#[]⟩ : ByteArray) (⟨#[]⟩ : ByteArray) 0).bind fun t167 => (some ((t167.length : Int) == 0))) else (none)))) else (none)) = some r := H
          have A10 := Aside0.mk A100
          clear A100
          by_cases c11 : t159 = true
          · subst c11
            have H1 : ((omap_Scan.f t140 (⟨#[97]⟩ : ByteArray) (⟨#[99]⟩ : ByteArray) 9).bind fun t160 => ((ratlinelaw11_Pairs.f k t160 (([(⟨(⟨#[97]⟩ : ByteArray), (⟨#[49]⟩ : ByteArray)⟩ : S39)] : List (S39)))).bind fun t166 => (if t166 = true then ((omap_Scan.f t140 (⟨#[]⟩ : ByteArray) (⟨#[]⟩ : ByteArray) 0).bind fun t167 => (some ((t167.length : Int) == 0))) else (none)))) = some r := by rw [if_pos rfl] at H; exact H
            clear H
            have H := H1
            clear H1
            replace H := Option.bind_eq_some_iff.mp H
            obtain ⟨t160, A120, H⟩ := H
            replace H : ((ratlinelaw11_Pairs.f k t160 (([(⟨(⟨#[97]⟩ : ByteArray), (⟨#[49]⟩ : ByteArray)⟩ : S39)] : List (S39)))).bind fun t166 => (if t166 = true then ((omap_Scan.f t140 (⟨#[]⟩ : ByteArray) (⟨#[]⟩ : ByteArray) 0).bind fun t167 => (some ((t167.length : Int) == 0))) else (none))) = some r := H
            have A12 := Aside0.mk A120
            clear A120
            obtain ⟨y163, hy163⟩ : ∃ y_ : List (S39), y_ = (([(⟨(⟨#[97]⟩ : ByteArray), (⟨#[49]⟩ : ByteArray)⟩ : S39)] : List (S39))) := ⟨_, rfl⟩
            replace H : ((ratlinelaw11_Pairs.f k t160 y163).bind fun t166 => (if t166 = true then ((omap_Scan.f t140 (⟨#[]⟩ : ByteArray) (⟨#[]⟩ : ByteArray) 0).bind fun t167 => (some ((t167.length : Int) == 0))) else (none))) = some r := by first | (rw [hy163]; with_reducible exact H) | (have H2_ := (Option.bind_some _ _).symm.trans H; rw [hy163]; with_reducible exact H2_) | (have H2_ := (Option.bind_some _ _).symm.trans H; with_reducible exact H2_) | with_reducible exact H | (rw [hy163]; exact H) | exact H
            have Ny163 := Aside0.mk hy163
            clear hy163
            replace H := Option.bind_eq_some_iff.mp H
            obtain ⟨t166, A130, H⟩ := H
            replace H : (if t166 = true then ((omap_Scan.f t140 (⟨#[]⟩ : ByteArray) (⟨#[]⟩ : ByteArray) 0).bind fun t167 => (some ((t167.length : Int) == 0))) else (none)) = some r := H
            have A13 := Aside0.mk A130
            clear A130
            by_cases c14 : t166 = true
            · subst c14
              have H1 : ((omap_Scan.f t140 (⟨#[]⟩ : ByteArray) (⟨#[]⟩ : ByteArray) 0).bind fun t167 => (some ((t167.length : Int) == 0))) = some r := by rw [if_pos rfl] at H; exact H
              clear H
              have H := H1
              clear H1
              replace H := Option.bind_eq_some_iff.mp H
              obtain ⟨t167, A150, H⟩ := H
              replace H : (some ((t167.length : Int) == 0)) = some r := H
              have A15 := Aside0.mk A150
              clear A150
              obtain rfl := Option.some.inj H
              go_enter Try.func15, Try.ntmps15
              try go_wp2_with (first | ((with_reducible refine gate_dst (N := 10) rfl ?_); (try (refine gate_guard (by rfl) ?_; dsimp only)); refine Kd.R_lit k39 _ 39 ?hg (N := 10) ?hd (xs := ([(⟨(⟨#[98]⟩ : ByteArray), (⟨#[50]⟩ : ByteArray)⟩ : S39)] : List (S39))) (inner := [.string (⟨#[98]⟩ : ByteArray), .string (⟨#[50]⟩ : ByteArray)]) (ok := fun _ => True) (okp := fun _ => True) ?hr ?hp (fun _ hk => hk) trivial (Below.refl _ _) (Nat.le_refl _) (by simp) ?_; (case hd => rfl); (case hg => rfl); (case hr => first | (go_simp; done) | (go_simp; rfl)); (case hp => exact (Reps.c2 (show Kd.M k39 _ _ _ (⟨(⟨#[98]⟩ : ByteArray), (⟨#[50]⟩ : ByteArray)⟩ : S39) [.string (⟨#[98]⟩ : ByteArray), .string (⟨#[50]⟩ : ByteArray)] from (k39_mkM _ _ _ (⟨(⟨#[98]⟩ : ByteArray), (⟨#[50]⟩ : ByteArray)⟩ : S39) )) (Reps.none _ _))); intro v135 w16 ho17 hb hg_ hnew_; clear hg_ hnew_; (first | rw [← Ny134.out] at ho17 | (simp only [Int.reduceToNat] at ho17; rw [← Ny134.out] at ho17)); have n0_ := Aside0.mk (Kd.R_lower ho17 (below_size (by repeat (first | (with_reducible first | exact HB.out | apply below_alloc | apply pw_below_drewN | apply below_drew1) | exact HB.out)))); have n1_ := Aside0.mk (below_step (by repeat (first | (with_reducible first | exact HB.out | apply below_alloc | apply pw_below_drewN | apply below_drew1) | exact HB.out)) hb); clear HB; have HO136 := n0_; have HB := n1_; clear n0_ n1_; clear hb ho17) | ((with_reducible refine gate_dst (N := 15) rfl ?_); (try (refine gate_guard (by rfl) ?_; dsimp only)); refine Kd.R_lit k36 _ 36 ?hg (N := 15) ?hd (xs := ([(⟨1, (⟨#[97]⟩ : ByteArray), (⟨#[49]⟩ : ByteArray)⟩ : S36), (⟨0, (⟨#[98]⟩ : ByteArray), (⟨#[]⟩ : ByteArray)⟩ : S36), (⟨1, (⟨#[99]⟩ : ByteArray), (⟨#[51]⟩ : ByteArray)⟩ : S36), (⟨1, (⟨#[99]⟩ : ByteArray), (⟨#[52]⟩ : ByteArray)⟩ : S36)] : List (S36))) (inner := [.int .u8 1, .string (⟨#[97]⟩ : ByteArray), .string (⟨#[49]⟩ : ByteArray), .int .u8 0, .string (⟨#[98]⟩ : ByteArray), .string (⟨#[]⟩ : ByteArray), .int .u8 1, .string (⟨#[99]⟩ : ByteArray), .string (⟨#[51]⟩ : ByteArray), .int .u8 1, .string (⟨#[99]⟩ : ByteArray), .string (⟨#[52]⟩ : ByteArray)]) (ok := fun _ => True) (okp := fun _ => True) ?hr ?hp (fun _ hk => hk) trivial (Below.refl _ _) (Nat.le_refl _) (by simp) ?_; (case hd => rfl); (case hg => rfl); (case hr => first | (go_simp; done) | (go_simp; rfl)); (case hp => exact (Reps.c3 (show Kd.M k36 _ _ _ (⟨1, (⟨#[97]⟩ : ByteArray), (⟨#[49]⟩ : ByteArray)⟩ : S36) [.int .u8 1, .string (⟨#[97]⟩ : ByteArray), .string (⟨#[49]⟩ : ByteArray)] from (k36_mkM _ _ _ (⟨1, (⟨#[97]⟩ : ByteArray), (⟨#[49]⟩ : ByteArray)⟩ : S36) )) (Reps.c3 (show Kd.M k36 _ _ _ (⟨0, (⟨#[98]⟩ : ByteArray), (⟨#[]⟩ : ByteArray)⟩ : S36) [.int .u8 0, .string (⟨#[98]⟩ : ByteArray), .string (⟨#[]⟩ : ByteArray)] from (k36_mkM _ _ _ (⟨0, (⟨#[98]⟩ : ByteArray), (⟨#[]⟩ : ByteArray)⟩ : S36) )) (Reps.c3 (show Kd.M k36 _ _ _ (⟨1, (⟨#[99]⟩ : ByteArray), (⟨#[51]⟩ : ByteArray)⟩ : S36) [.int .u8 1, .string (⟨#[99]⟩ : ByteArray), .string (⟨#[51]⟩ : ByteArray)] from (k36_mkM _ _ _ (⟨1, (⟨#[99]⟩ : ByteArray), (⟨#[51]⟩ : ByteArray)⟩ : S36) )) (Reps.c3 (show Kd.M k36 _ _ _ (⟨1, (⟨#[99]⟩ : ByteArray), (⟨#[52]⟩ : ByteArray)⟩ : S36) [.int .u8 1, .string (⟨#[99]⟩ : ByteArray), .string (⟨#[52]⟩ : ByteArray)] from (k36_mkM _ _ _ (⟨1, (⟨#[99]⟩ : ByteArray), (⟨#[52]⟩ : ByteArray)⟩ : S36) )) (Reps.none _ _)))))); intro v138 w18 ho19 hb hg_ hnew_; clear hg_ hnew_; (first | rw [← Ny137.out] at ho19 | (simp only [Int.reduceToNat] at ho19; rw [← Ny137.out] at ho19)); have n0_ := Aside0.mk (Kd.R_below (by (with_reducible repeat (first | apply Kd.R_alloc | apply Kd.R_drewN | apply Kd.R_drew)); exact HO136.out) hb); have n1_ := Aside0.mk (Kd.R_lower ho19 (below_size (by repeat (first | (with_reducible first | exact HB.out | apply below_alloc | apply pw_below_drewN | apply below_drew1) | exact HB.out)))); have n2_ := Aside0.mk (below_step (by repeat (first | (with_reducible first | exact HB.out | apply below_alloc | apply pw_below_drewN | apply below_drew1) | exact HB.out)) hb); clear HO136; clear HB; have HO136 := n0_; have HO139 := n1_; have HB := n2_; clear n0_ n1_ n2_; clear hb ho19; obtain ⟨Ao20, co20, eo20⟩ := Kd.R_slice HO136.out; subst eo20; obtain ⟨Ao21, co21, eo21⟩ := Kd.R_slice HO139.out; subst eo21) | ((with_reducible refine gate_callee (f := 21) rfl ?_); refine goesL_ (some 16) rfl rfl Try.func21 (by kernel_rfl) rfl #[.slice Ao20 y134.length co20, .slice Ao21 y137.length co21] rfl (by (try simp only [List.map_toArray, List.map_cons, List.map_nil]); first | done | rfl | (simp only [List.length_drop, List.length_take]; rfl)) ?_; (with_reducible refine (omap_Apply.calls _ _ y134 _ _ y137 t140 _ ?side1 ?side2 ?side3 ?side4 A1.out).mono ?_); (case side1 => repeat (first | exact (Kd.R_reads' HO136.out).2.2 | (with_reducible refine Kd.C_alloc ?_ _) | (with_reducible refine Kd.C_drewN ?_ _) | (with_reducible refine Kd.C_drew ?_))); (case side2 => exact (Kd.R_reads' HO136.out).2.1); (case side3 => repeat (first | exact (Kd.R_reads' HO139.out).2.2 | (with_reducible refine Kd.C_alloc ?_ _) | (with_reducible refine Kd.C_drewN ?_ _) | (with_reducible refine Kd.C_drew ?_))); (case side4 => exact (Kd.R_reads' HO139.out).2.1); rintro e w22 ⟨v141, rfl, ho0, hb⟩; refine ⟨_, rfl, ?_⟩; have n0_ := Aside0.mk (Kd.R_elder' (by (with_reducible repeat (first | apply Kd.R_alloc | apply Kd.R_drewN | apply Kd.R_drew)); exact HO136.out) (Kd.R_base ho0) hb); have n1_ := Aside0.mk (Kd.R_below (by (with_reducible repeat (first | apply Kd.R_alloc | apply Kd.R_drewN | apply Kd.R_drew)); exact HO139.out) hb); have n2_ := Aside0.mk (Kd.R_lower (Kd.R_new' ho0 (Kd.R_lt (by (with_reducible repeat (first | apply Kd.R_alloc | apply Kd.R_drewN | apply Kd.R_drew)); exact HO136.out))) (below_size (by repeat (first | (with_reducible first | exact HB.out | apply below_alloc | apply pw_below_drewN | apply below_drew1) | exact HB.out)))); have n3_ := Aside0.mk (below_step (by repeat (first | (with_reducible first | exact HB.out | apply below_alloc | apply pw_below_drewN | apply below_drew1) | exact HB.out)) hb); clear HO136; clear HO139; clear HB; have HO136 := n0_; have HO139 := n1_; have HO142 := n2_; have HB := n3_; clear n0_ n1_ n2_ n3_; (try clear hb); (try clear hb2); (try clear hk); (try clear hi); (try clear ho0); obtain ⟨Ao23, co23, eo23⟩ := Kd.R_slice HO142.out; subst eo23) | ((with_reducible refine gate_callee (f := 18) rfl ?_); refine goesL_ (some 19) rfl rfl Try.func18 (by kernel_rfl) rfl #[.slice Ao23 t140.length co23, .string (⟨#[98]⟩ : ByteArray)] rfl (by (try simp only [List.map_toArray, List.map_cons, List.map_nil]); first | done | rfl | (simp only [List.length_drop, List.length_take]; rfl)) ?_; (with_reducible refine (omap_Get.calls _ _ t140 (⟨#[98]⟩ : ByteArray) t143 false _ ?side1 ?side2 A2.out).mono ?_); (case side1 => repeat (first | exact (Kd.R_reads' HO142.out).2.2 | (with_reducible refine Kd.C_alloc ?_ _) | (with_reducible refine Kd.C_drewN ?_ _) | (with_reducible refine Kd.C_drew ?_))); (case side2 => exact (Kd.R_reads' HO142.out).2.1); rintro e w24 ⟨rfl, hb⟩; refine ⟨_, rfl, ?_⟩; have n0_ := Aside0.mk (Kd.R_below (by (with_reducible repeat (first | apply Kd.R_alloc | apply Kd.R_drewN | apply Kd.R_drew)); exact HO136.out) hb); have n1_ := Aside0.mk (Kd.R_below (by (with_reducible repeat (first | apply Kd.R_alloc | apply Kd.R_drewN | apply Kd.R_drew)); exact HO139.out) hb); have n2_ := Aside0.mk (Kd.R_below (by (with_reducible repeat (first | apply Kd.R_alloc | apply Kd.R_drewN | apply Kd.R_drew)); exact HO142.out) hb); have n3_ := Aside0.mk (below_step (by repeat (first | (with_reducible first | exact HB.out | apply below_alloc | apply pw_below_drewN | apply below_drew1) | exact HB.out)) hb); clear HO136; clear HO139; clear HO142; clear HB; have HO136 := n0_; have HO139 := n1_; have HO142 := n2_; have HB := n3_; clear n0_ n1_ n2_ n3_; (try clear hb); (try clear hb2); (try clear hk); (try clear hi)) | ((with_reducible refine gate_callee (f := 18) rfl ?_); refine goesL_ (some 24) rfl rfl Try.func18 (by kernel_rfl) rfl #[.slice Ao23 t140.length co23, .string (⟨#[99]⟩ : ByteArray)] rfl (by (try simp only [List.map_toArray, List.map_cons, List.map_nil]); first | done | rfl | (simp only [List.length_drop, List.length_take]; rfl)) ?_; (with_reducible refine (omap_Get.calls _ _ t140 (⟨#[99]⟩ : ByteArray) t145 true _ ?side1 ?side2 A3.out).mono ?_); (case side1 => repeat (first | exact (Kd.R_reads' HO142.out).2.2 | (with_reducible refine Kd.C_alloc ?_ _) | (with_reducible refine Kd.C_drewN ?_ _) | (with_reducible refine Kd.C_drew ?_))); (case side2 => exact (Kd.R_reads' HO142.out).2.1); rintro e w25 ⟨rfl, hb⟩; refine ⟨_, rfl, ?_⟩; have n0_ := Aside0.mk (Kd.R_below (by (with_reducible repeat (first | apply Kd.R_alloc | apply Kd.R_drewN | apply Kd.R_drew)); exact HO136.out) hb); have n1_ := Aside0.mk (Kd.R_below (by (with_reducible repeat (first | apply Kd.R_alloc | apply Kd.R_drewN | apply Kd.R_drew)); exact HO139.out) hb); have n2_ := Aside0.mk (Kd.R_below (by (with_reducible repeat (first | apply Kd.R_alloc | apply Kd.R_drewN | apply Kd.R_drew)); exact HO142.out) hb); have n3_ := Aside0.mk (below_step (by repeat (first | (with_reducible first | exact HB.out | apply below_alloc | apply pw_below_drewN | apply below_drew1) | exact HB.out)) hb); clear HO136; clear HO139; clear HO142; clear HB; have HO136 := n0_; have HO139 := n1_; have HO142 := n2_; have HB := n3_; clear n0_ n1_ n2_ n3_; (try clear hb); (try clear hb2); (try clear hk); (try clear hi)) | ((with_reducible refine gate_dst (N := 7) rfl ?_); (try (refine gate_guard (by rfl) ?_; dsimp only)); refine box_event ?hg (N := 7) ?hd (cs := #[.string (⟨#[]⟩ : ByteArray), .string (⟨#[]⟩ : ByteArray)]) (t := 39) ?hr ?_; (case hd => rfl); (case hg => rfl); (case hr => first | (go_simp; done) | (go_simp; rfl)); intro gb147 hg w26 hbox hb; have n0_ := Aside0.mk (Kd.R_below (Kd.R_elderB (by (with_reducible repeat (first | apply Kd.R_alloc | apply Kd.R_drewN | apply Kd.R_drew)); exact HO136.out) gb147 (Nat.le_of_eq hg.symm)) hb); have n1_ := Aside0.mk (Kd.R_below (by (with_reducible repeat (first | apply Kd.R_alloc | apply Kd.R_drewN | apply Kd.R_drew)); exact HO139.out) hb); have n2_ := Aside0.mk (Kd.R_below (Kd.R_elderB (by (with_reducible repeat (first | apply Kd.R_alloc | apply Kd.R_drewN | apply Kd.R_drew)); exact HO142.out) gb147 (Nat.le_of_eq hg.symm)) hb); have n3_ := Aside0.mk (below_step (by repeat (first | (with_reducible first | exact HB.out | apply below_alloc | apply pw_below_drewN | apply below_drew1) | exact HB.out)) hb); have n4_ := Aside0.mk (hbox); have n5_ := Aside0.mk ((by rw [hg]; exact (below_size (by repeat (first | (with_reducible first | exact HB.out | apply below_alloc | apply pw_below_drewN | apply below_drew1) | exact HB.out))) : w.heap.size ≤ gb147)); have n6_ := Aside0.mk ((by rw [hg]; exact (below_size (by repeat (first | (with_reducible first | exact HB.out | apply below_alloc | apply pw_below_drewN | apply below_drew1) | exact HB.out))) : w.heap.size ≤ gb147)); clear HO136; clear HO139; clear HO142; clear HB; have HO136 := n0_; have HO139 := n1_; have HO142 := n2_; have HB := n3_; have BK147 := n4_; have GW147 := n5_; have GE147 := n6_; clear n0_ n1_ n2_ n3_ n4_ n5_ n6_; clear hb hbox hg) | ((with_reducible refine gate_dst (N := 8) rfl ?_); (try (refine gate_guard (by rfl) ?_; dsimp only)); refine box_event ?hg (N := 8) ?hd (cs := #[.string (⟨#[]⟩ : ByteArray), .string (⟨#[]⟩ : ByteArray)]) (t := 39) ?hr ?_; (case hd => rfl); (case hg => rfl); (case hr => first | (go_simp; done) | (go_simp; rfl)); intro gb148 hg w27 hbox hb; have n0_ := Aside0.mk (Kd.R_below (Kd.R_elderB (by (with_reducible repeat (first | apply Kd.R_alloc | apply Kd.R_drewN | apply Kd.R_drew)); exact HO136.out) gb148 (Nat.le_of_eq hg.symm)) hb); have n1_ := Aside0.mk (Kd.R_below (by (with_reducible repeat (first | apply Kd.R_alloc | apply Kd.R_drewN | apply Kd.R_drew)); exact HO139.out) hb); have n2_ := Aside0.mk (Kd.R_below (Kd.R_elderB (by (with_reducible repeat (first | apply Kd.R_alloc | apply Kd.R_drewN | apply Kd.R_drew)); exact HO142.out) gb148 (Nat.le_of_eq hg.symm)) hb); have n3_ := Aside0.mk (blk_below (g := gb147) (o := .cells #[.string (⟨#[]⟩ : ByteArray), .string (⟨#[]⟩ : ByteArray)] 39 (0, 0)) (by (with_reducible repeat (first | refine blk_drewN ?_ _ | refine blk_drew ?_ | refine blk_alloc ?_ _)); exact BK147.out) hb); have n4_ := Aside0.mk (below_step (by repeat (first | (with_reducible first | exact HB.out | apply below_alloc | apply pw_below_drewN | apply below_drew1 | refine below_set ?_ GE147.out) | exact HB.out)) hb); have n5_ := Aside0.mk (hbox); have n6_ := Aside0.mk ((by rw [hg]; exact (below_size (by repeat (first | (with_reducible first | exact HB.out | apply below_alloc | apply pw_below_drewN | apply below_drew1 | refine below_set ?_ GE147.out) | exact HB.out))) : w.heap.size ≤ gb148)); have n7_ := Aside0.mk ((by rw [hg]; exact (below_size (by repeat (first | (with_reducible first | exact HB.out | apply below_alloc | apply pw_below_drewN | apply below_drew1 | refine below_set ?_ GE147.out) | exact HB.out))) : w.heap.size ≤ gb148)); have n8_ := Aside0.mk ((by rw [hg]; exact Nat.ne_of_lt (blk_lt (g := gb147) (o := .cells #[.string (⟨#[]⟩ : ByteArray), .string (⟨#[]⟩ : ByteArray)] 39 (0, 0)) (by (with_reducible repeat (first | refine blk_drewN ?_ _ | refine blk_drew ?_ | refine blk_alloc ?_ _)); exact BK147.out)) : gb147 ≠ gb148)); have n9_ := Aside0.mk ((by rw [hg]; exact Nat.ne_of_gt (blk_lt (g := gb147) (o := .cells #[.string (⟨#[]⟩ : ByteArray), .string (⟨#[]⟩ : ByteArray)] 39 (0, 0)) (by (with_reducible repeat (first | refine blk_drewN ?_ _ | refine blk_drew ?_ | refine blk_alloc ?_ _)); exact BK147.out)) : gb148 ≠ gb147)); clear HO136; clear HO139; clear HO142; clear BK147; clear HB; have HO136 := n0_; have HO139 := n1_; have HO142 := n2_; have BK147 := n3_; have HB := n4_; have BK148 := n5_; have GW148 := n6_; have GE148 := n7_; have NB147_148 := n8_; have NB148_147 := n9_; clear n0_ n1_ n2_ n3_ n4_ n5_ n6_ n7_ n8_ n9_; clear hb hbox hg; have hnb28 := NB147_148.out; have hnc28 := NB148_147.out; have hcz29_0 : w27.cell? ⟨gb147, 0, none⟩ = some (.string (⟨#[]⟩ : ByteArray)) := (blk_cell BK147.out 0).trans rfl; have hcz29_1 : w27.cell? ⟨gb147, 1, none⟩ = some (.string (⟨#[]⟩ : ByteArray)) := (blk_cell BK147.out 1).trans rfl; have hfz29_0 := blk_frozen BK147.out 0; have hfz29_1 := blk_frozen BK147.out 1; have hcz30_0 : w27.cell? ⟨gb148, 0, none⟩ = some (.string (⟨#[]⟩ : ByteArray)) := (blk_cell BK148.out 0).trans rfl; have hcz30_1 : w27.cell? ⟨gb148, 1, none⟩ = some (.string (⟨#[]⟩ : ByteArray)) := (blk_cell BK148.out 1).trans rfl; have hfz30_0 := blk_frozen BK148.out 0; have hfz30_1 := blk_frozen BK148.out 1))
              have n0_ : Aside0 (Kd.R k39 39 ((((w27.setCell ⟨gb147, 0, none⟩ (.string (⟨#[97]⟩ : ByteArray))).setCell ⟨gb147, 1, none⟩ (.string (⟨#[49]⟩ : ByteArray))).setCell ⟨gb148, 0, none⟩ (.string (⟨#[99]⟩ : ByteArray))).setCell ⟨gb148, 1, none⟩ (.string (⟨#[52]⟩ : ByteArray))) w.heap.size (fun k_ => some k_ ≠ (.slice Ao23 t140.length co23 : Value).ownBlock ∧ k_ ≠ gb147 ∧ k_ ≠ gb148) (.slice Ao20 y134.length co20) y134) := ⟨by (with_reducible repeat (first | apply Kd.R_alloc | apply Kd.R_drewN | apply Kd.R_drew)); exact Kd.R_mono (Kd.R_far (p := ⟨gb148, 1, none⟩) (Kd.R_far (p := ⟨gb148, 0, none⟩) (Kd.R_far (p := ⟨gb147, 1, none⟩) (Kd.R_far (p := ⟨gb147, 0, none⟩) (Kd.R_mono (Kd.R_mono HO136.out (fun k_ hk => (⟨hk, hk.1.2⟩ : _ ∧ k_ ≠ gb147))) (fun k_ hk => (⟨hk, hk.1.2⟩ : _ ∧ k_ ≠ gb148))) (fun _ hk => hk.1.2) (.string (⟨#[97]⟩ : ByteArray))) (fun _ hk => hk.1.2) (.string (⟨#[49]⟩ : ByteArray))) (fun _ hk => hk.2) (.string (⟨#[99]⟩ : ByteArray))) (fun _ hk => hk.2) (.string (⟨#[52]⟩ : ByteArray))) (fun _ hk => ⟨hk.1.1.1.1.2, ⟨hk.1.1.1.2, hk.1.1.2⟩⟩)⟩
              have n1_ : Aside0 (Kd.R k36 36 ((((w27.setCell ⟨gb147, 0, none⟩ (.string (⟨#[97]⟩ : ByteArray))).setCell ⟨gb147, 1, none⟩ (.string (⟨#[49]⟩ : ByteArray))).setCell ⟨gb148, 0, none⟩ (.string (⟨#[99]⟩ : ByteArray))).setCell ⟨gb148, 1, none⟩ (.string (⟨#[52]⟩ : ByteArray))) w.heap.size (fun _ => True) (.slice Ao21 y137.length co21) y137) := ⟨by (with_reducible repeat (first | apply Kd.R_alloc | apply Kd.R_drewN | apply Kd.R_drew)); exact Kd.R_mono (Kd.R_far (p := ⟨gb148, 1, none⟩) (Kd.R_far (p := ⟨gb148, 0, none⟩) (Kd.R_far (p := ⟨gb147, 1, none⟩) (Kd.R_far (p := ⟨gb147, 0, none⟩) (Kd.R_types (Kd.R_types HO139.out BK147.out (by decide)) BK148.out (by decide)) (fun _ hk => hk.1.2) (.string (⟨#[97]⟩ : ByteArray))) (fun _ hk => hk.1.2) (.string (⟨#[49]⟩ : ByteArray))) (fun _ hk => hk.2) (.string (⟨#[99]⟩ : ByteArray))) (fun _ hk => hk.2) (.string (⟨#[52]⟩ : ByteArray))) (fun _ hk => trivial)⟩
              have n2_ : Aside0 (Kd.R k39 39 ((((w27.setCell ⟨gb147, 0, none⟩ (.string (⟨#[97]⟩ : ByteArray))).setCell ⟨gb147, 1, none⟩ (.string (⟨#[49]⟩ : ByteArray))).setCell ⟨gb148, 0, none⟩ (.string (⟨#[99]⟩ : ByteArray))).setCell ⟨gb148, 1, none⟩ (.string (⟨#[52]⟩ : ByteArray))) w.heap.size (fun k_ => some k_ ≠ (.slice Ao20 y134.length co20 : Value).ownBlock ∧ k_ ≠ gb147 ∧ k_ ≠ gb148) (.slice Ao23 t140.length co23) t140) := ⟨by (with_reducible repeat (first | apply Kd.R_alloc | apply Kd.R_drewN | apply Kd.R_drew)); exact Kd.R_mono (Kd.R_far (p := ⟨gb148, 1, none⟩) (Kd.R_far (p := ⟨gb148, 0, none⟩) (Kd.R_far (p := ⟨gb147, 1, none⟩) (Kd.R_far (p := ⟨gb147, 0, none⟩) (Kd.R_mono (Kd.R_mono HO142.out (fun k_ hk => (⟨hk, hk.1.2⟩ : _ ∧ k_ ≠ gb147))) (fun k_ hk => (⟨hk, hk.1.2⟩ : _ ∧ k_ ≠ gb148))) (fun _ hk => hk.1.2) (.string (⟨#[97]⟩ : ByteArray))) (fun _ hk => hk.1.2) (.string (⟨#[49]⟩ : ByteArray))) (fun _ hk => hk.2) (.string (⟨#[99]⟩ : ByteArray))) (fun _ hk => hk.2) (.string (⟨#[52]⟩ : ByteArray))) (fun _ hk => ⟨hk.1.1.1.1.2, ⟨hk.1.1.1.2, hk.1.1.2⟩⟩)⟩
              have n3_ : Aside0 (((((w27.setCell ⟨gb147, 0, none⟩ (.string (⟨#[97]⟩ : ByteArray))).setCell ⟨gb147, 1, none⟩ (.string (⟨#[49]⟩ : ByteArray))).setCell ⟨gb148, 0, none⟩ (.string (⟨#[99]⟩ : ByteArray))).setCell ⟨gb148, 1, none⟩ (.string (⟨#[52]⟩ : ByteArray))).heap[gb147]? = some (.cells #[.string (⟨#[97]⟩ : ByteArray), .string (⟨#[49]⟩ : ByteArray)] 39 (0, 0))) := ⟨by (with_reducible repeat (first | refine blk_drewN ?_ _ | refine blk_drew ?_ | refine blk_alloc ?_ _)); refine blk_far ?_ NB147_148.out _; (with_reducible repeat (first | refine blk_drewN ?_ _ | refine blk_drew ?_ | refine blk_alloc ?_ _)); refine blk_far ?_ NB147_148.out _; (with_reducible repeat (first | refine blk_drewN ?_ _ | refine blk_drew ?_ | refine blk_alloc ?_ _)); refine blk_put (cs := #[.string (⟨#[97]⟩ : ByteArray), .string (⟨#[]⟩ : ByteArray)]) ?_ 1 _ rfl; (with_reducible repeat (first | refine blk_drewN ?_ _ | refine blk_drew ?_ | refine blk_alloc ?_ _)); refine blk_put (cs := #[.string (⟨#[]⟩ : ByteArray), .string (⟨#[]⟩ : ByteArray)]) ?_ 0 _ rfl; (with_reducible repeat (first | refine blk_drewN ?_ _ | refine blk_drew ?_ | refine blk_alloc ?_ _)); exact BK147.out⟩
              have n4_ : Aside0 (((((w27.setCell ⟨gb147, 0, none⟩ (.string (⟨#[97]⟩ : ByteArray))).setCell ⟨gb147, 1, none⟩ (.string (⟨#[49]⟩ : ByteArray))).setCell ⟨gb148, 0, none⟩ (.string (⟨#[99]⟩ : ByteArray))).setCell ⟨gb148, 1, none⟩ (.string (⟨#[52]⟩ : ByteArray))).heap[gb148]? = some (.cells #[.string (⟨#[99]⟩ : ByteArray), .string (⟨#[52]⟩ : ByteArray)] 39 (0, 0))) := ⟨by (with_reducible repeat (first | refine blk_drewN ?_ _ | refine blk_drew ?_ | refine blk_alloc ?_ _)); refine blk_put (cs := #[.string (⟨#[99]⟩ : ByteArray), .string (⟨#[]⟩ : ByteArray)]) ?_ 1 _ rfl; (with_reducible repeat (first | refine blk_drewN ?_ _ | refine blk_drew ?_ | refine blk_alloc ?_ _)); refine blk_put (cs := #[.string (⟨#[]⟩ : ByteArray), .string (⟨#[]⟩ : ByteArray)]) ?_ 0 _ rfl; (with_reducible repeat (first | refine blk_drewN ?_ _ | refine blk_drew ?_ | refine blk_alloc ?_ _)); refine blk_far ?_ NB148_147.out _; (with_reducible repeat (first | refine blk_drewN ?_ _ | refine blk_drew ?_ | refine blk_alloc ?_ _)); refine blk_far ?_ NB148_147.out _; (with_reducible repeat (first | refine blk_drewN ?_ _ | refine blk_drew ?_ | refine blk_alloc ?_ _)); exact BK148.out⟩
              have n5_ : Aside0 (Below w.heap.size w ((((w27.setCell ⟨gb147, 0, none⟩ (.string (⟨#[97]⟩ : ByteArray))).setCell ⟨gb147, 1, none⟩ (.string (⟨#[49]⟩ : ByteArray))).setCell ⟨gb148, 0, none⟩ (.string (⟨#[99]⟩ : ByteArray))).setCell ⟨gb148, 1, none⟩ (.string (⟨#[52]⟩ : ByteArray)))) := ⟨by repeat (first | (with_reducible first | exact HB.out | apply below_alloc | apply pw_below_drewN | apply below_drew1 | refine below_set ?_ GE147.out | refine below_set ?_ GE148.out) | exact HB.out)⟩
              (try clear HO136)
              (try clear HO139)
              (try clear HO142)
              (try clear BK147)
              (try clear BK148)
              (try clear HB)
              generalize ((((w27.setCell ⟨gb147, 0, none⟩ (.string (⟨#[97]⟩ : ByteArray))).setCell ⟨gb147, 1, none⟩ (.string (⟨#[49]⟩ : ByteArray))).setCell ⟨gb148, 0, none⟩ (.string (⟨#[99]⟩ : ByteArray))).setCell ⟨gb148, 1, none⟩ (.string (⟨#[52]⟩ : ByteArray))) = w31 at n0_ n1_ n2_ n3_ n4_ n5_ ⊢
              have HO136 := n0_
              have HO139 := n1_
              have HO142 := n2_
              have BK147 := n3_
              have BK148 := n4_
              have HB := n5_
              clear n0_ n1_ n2_ n3_ n4_ n5_
              have n0_ := Aside0.mk (Kd.R_drew HO136.out)
              have n1_ := Aside0.mk (Kd.R_drew HO139.out)
              have n2_ := Aside0.mk (Kd.R_drew HO142.out)
              have n3_ := Aside0.mk (blk_drew BK147.out)
              have n4_ := Aside0.mk (blk_drew BK148.out)
              have n5_ := Aside0.mk (below_drew1 HB.out)
              clear HO136
              clear HO139
              clear HO142
              clear BK147
              clear BK148
              clear HB
              have HO136 := n0_
              have HO139 := n1_
              have HO142 := n2_
              have BK147 := n3_
              have BK148 := n4_
              have HB := n5_
              clear n0_ n1_ n2_ n3_ n4_ n5_
              refine start_ (n := 40) (S := fun w' => w'.cell? ⟨gb147, 0, none⟩ = some (.string (⟨#[97]⟩ : ByteArray)) ∧ w'.cell? ⟨gb147, 1, none⟩ = some (.string (⟨#[49]⟩ : ByteArray)) ∧ w'.cell? ⟨gb148, 0, none⟩ = some (.string (⟨#[99]⟩ : ByteArray)) ∧ w'.cell? ⟨gb148, 1, none⟩ = some (.string (⟨#[52]⟩ : ByteArray))) (ds := []) #[false, false, false, false, false, false, false, false, false, false, false, false, false, false, false, false, false, false, false, false, false, false, false, false, false, false, false, false, false, false, false, false, false, false, false, false, false, false, false, false] (by kernel_rfl) rfl rfl ⟨(blk_cell BK147.out 0).trans rfl, (blk_cell BK147.out 1).trans rfl, (blk_cell BK148.out 0).trans rfl, (blk_cell BK148.out 1).trans rfl⟩ (fun hHeld => ?_); refine with_tabW ratlinelaw12_awake.tab6 ratlinelaw12_awake.bits6 (fun HT_ HW_ => ?_)
              generalize w31.drew = w32 at HO136 HO139 HO142 BK147 BK148 HB hHeld ⊢
              refine pure_ (i := 0) (N := some 29) (v := ?_) (a' := ?_) #[true, false, false, false, false, false, false, false, false, false, false, false, false, false, false, false, false, false, false, false, false, false, false, false, false, false, false, false, false, false, false, false, false, false, false, false, false, false, false, false] rfl rfl (any_of HT_.out (by kernel_rfl)) (fun _ _ _ h => h) (Or.inl ⟨by rfl, ?_⟩) ?_ ?_
              rotate_left
              · intro w'
                go_simp
                with_reducible rfl
              rotate_left
              · simp only [Act.put, List.setIfInBounds_toArray, List.set_cons_zero, List.set_cons_succ, i64_w, i32_w]
                rfl
              refine pure_ (i := 1) (N := some 30) (v := ?_) (a' := ?_) #[true, true, false, false, false, false, false, false, false, false, false, false, false, false, false, false, false, false, false, false, false, false, false, false, false, false, false, false, false, false, false, false, false, false, false, false, false, false, false, false] rfl rfl (any_of HT_.out (by kernel_rfl)) (fun _ _ _ h => h) (Or.inl ⟨by rfl, ?_⟩) ?_ ?_
              rotate_left
              · intro w'
                go_simp
                with_reducible rfl
              rotate_left
              · simp only [Act.put, List.setIfInBounds_toArray, List.set_cons_zero, List.set_cons_succ, i64_w, i32_w]
                rfl
              refine take_ (i := 2) (N := some 31) (v := ?_) (a' := ?_) #[true, true, true, false, false, false, false, false, false, false, false, false, false, false, false, false, false, false, false, false, false, false, false, false, false, false, false, false, false, false, false, false, false, false, false, false, false, false, false, false] rfl rfl (take_ofW HT_.out HW_.out (by kernel_rfl)) (fun _ _ _ h => h) (Or.inl ⟨by rfl, ?_⟩) hHeld ?_ ?_
              rotate_left
              · rintro w' ⟨s0, s1, s2, s3⟩
                go_simp
                with_reducible rfl
              rotate_left
              · simp only [Act.put, List.setIfInBounds_toArray, List.set_cons_zero, List.set_cons_succ, i64_w, i32_w]
                rfl
              refine take_ (i := 3) (N := some 32) (v := ?_) (a' := ?_) #[true, true, true, true, false, false, false, false, false, false, false, false, false, false, false, false, false, false, false, false, false, false, false, false, false, false, false, false, false, false, false, false, false, false, false, false, false, false, false, false] rfl rfl (take_ofW HT_.out HW_.out (by kernel_rfl)) (fun _ _ _ h => h) (Or.inl ⟨by rfl, ?_⟩) hHeld ?_ ?_
              rotate_left
              · rintro w' ⟨s0, s1, s2, s3⟩
                go_simp
                with_reducible rfl
              rotate_left
              · simp only [Act.put, List.setIfInBounds_toArray, List.set_cons_zero, List.set_cons_succ, i64_w, i32_w]
                rfl
              refine one_ (i := 4) (N := some 33) #[true, true, true, true, true, false, false, false, false, false, false, false, false, false, false, false, false, false, false, false, false, false, false, false, false, false, false, false, false, false, false, false, false, false, false, false, false, false, false, false] rfl rfl (one_of HT_.out (by kernel_rfl)) (by decide) (fun K hK => ?_)
              refine Kd.R_lit_step k39 _ 39 ?hg (N := 33) ?hd (xs := ([(⟨(⟨#[97]⟩ : ByteArray), (⟨#[49]⟩ : ByteArray)⟩ : S39), (⟨(⟨#[99]⟩ : ByteArray), (⟨#[52]⟩ : ByteArray)⟩ : S39)] : List (S39))) (inner := [.string (⟨#[97]⟩ : ByteArray), .string (⟨#[49]⟩ : ByteArray), .string (⟨#[99]⟩ : ByteArray), .string (⟨#[52]⟩ : ByteArray)]) (ok := fun _ => True) (okp := fun _ => True) ?hr ?hp (fun _ hk => hk) trivial (Below.refl _ _) (Nat.le_refl _) (by simp) ?_; (case hd => rfl); (case hg => rfl); (case hr => first | (go_simp; done) | (go_simp; rfl)); (case hp => exact (Reps.c2 (show Kd.M k39 _ _ _ (⟨(⟨#[97]⟩ : ByteArray), (⟨#[49]⟩ : ByteArray)⟩ : S39) [.string (⟨#[97]⟩ : ByteArray), .string (⟨#[49]⟩ : ByteArray)] from (k39_mkM _ _ _ (⟨(⟨#[97]⟩ : ByteArray), (⟨#[49]⟩ : ByteArray)⟩ : S39) )) (Reps.c2 (show Kd.M k39 _ _ _ (⟨(⟨#[99]⟩ : ByteArray), (⟨#[52]⟩ : ByteArray)⟩ : S39) [.string (⟨#[99]⟩ : ByteArray), .string (⟨#[52]⟩ : ByteArray)] from (k39_mkM _ _ _ (⟨(⟨#[99]⟩ : ByteArray), (⟨#[52]⟩ : ByteArray)⟩ : S39) )) (Reps.none _ _))))
              intro v150 w33 ho34 hb hg_ hnew_
              clear hg_ hnew_
              (first | rw [← Ny149.out] at ho34 | (simp only [Int.reduceToNat] at ho34; rw [← Ny149.out] at ho34))
              have n0_ := Aside0.mk (Kd.R_elder' (by (with_reducible repeat (first | apply Kd.R_alloc | apply Kd.R_drewN | apply Kd.R_drew)); exact HO136.out) (Kd.R_base ho34) hb)
              have n1_ := Aside0.mk (Kd.R_below (by (with_reducible repeat (first | apply Kd.R_alloc | apply Kd.R_drewN | apply Kd.R_drew)); exact HO139.out) hb)
              have n2_ := Aside0.mk (Kd.R_elder' (by (with_reducible repeat (first | apply Kd.R_alloc | apply Kd.R_drewN | apply Kd.R_drew)); exact HO142.out) (Kd.R_base ho34) hb)
              have n3_ := Aside0.mk (Kd.R_lower (Kd.R_newB (Kd.R_newB (Kd.R_new' (Kd.R_new' ho34 (Kd.R_lt (by (with_reducible repeat (first | apply Kd.R_alloc | apply Kd.R_drewN | apply Kd.R_drew)); exact HO136.out))) (Kd.R_lt (by (with_reducible repeat (first | apply Kd.R_alloc | apply Kd.R_drewN | apply Kd.R_drew)); exact HO142.out))) (g := gb147) (o := .cells #[.string (⟨#[97]⟩ : ByteArray), .string (⟨#[49]⟩ : ByteArray)] 39 (0, 0)) (by (with_reducible repeat (first | refine blk_drewN ?_ _ | refine blk_drew ?_ | refine blk_alloc ?_ _)); exact BK147.out)) (g := gb148) (o := .cells #[.string (⟨#[99]⟩ : ByteArray), .string (⟨#[52]⟩ : ByteArray)] 39 (0, 0)) (by (with_reducible repeat (first | refine blk_drewN ?_ _ | refine blk_drew ?_ | refine blk_alloc ?_ _)); exact BK148.out)) (below_size (by repeat (first | (with_reducible first | exact HB.out | apply below_alloc | apply pw_below_drewN | apply below_drew1 | refine below_set ?_ GE147.out | refine below_set ?_ GE148.out) | exact HB.out))))
              have n4_ := Aside0.mk (blk_below (g := gb147) (o := .cells #[.string (⟨#[97]⟩ : ByteArray), .string (⟨#[49]⟩ : ByteArray)] 39 (0, 0)) (by (with_reducible repeat (first | refine blk_drewN ?_ _ | refine blk_drew ?_ | refine blk_alloc ?_ _)); exact BK147.out) hb)
              have n5_ := Aside0.mk (blk_below (g := gb148) (o := .cells #[.string (⟨#[99]⟩ : ByteArray), .string (⟨#[52]⟩ : ByteArray)] 39 (0, 0)) (by (with_reducible repeat (first | refine blk_drewN ?_ _ | refine blk_drew ?_ | refine blk_alloc ?_ _)); exact BK148.out) hb)
              have n6_ := Aside0.mk (below_step (by repeat (first | (with_reducible first | exact HB.out | apply below_alloc | apply pw_below_drewN | apply below_drew1 | refine below_set ?_ GE147.out | refine below_set ?_ GE148.out) | exact HB.out)) hb)
              clear HO136
              clear HO139
              clear HO142
              clear BK147
              clear BK148
              clear HB
              have HO136 := n0_
              have HO139 := n1_
              have HO142 := n2_
              have HO151 := n3_
              have BK147 := n4_
              have BK148 := n5_
              have HB := n6_
              clear n0_ n1_ n2_ n3_ n4_ n5_ n6_
              clear hb ho34
              obtain ⟨Ao35, co35, eo35⟩ := Kd.R_slice HO151.out
              (first | subst eo35 | (injection eo35 with f1_ f2_ f3_; have f4_ := f1_.symm; have f5_ := f3_.symm; clear f1_ f2_ f3_; subst f4_; subst f5_))
              refine hK.out _ _ ⟨(blk_cell BK147.out 0).trans rfl, (blk_cell BK147.out 1).trans rfl, (blk_cell BK148.out 0).trans rfl, (blk_cell BK148.out 1).trans rfl⟩ (fun hHeld => ?_)
              clear hK K
              refine norm_ (a' := ?_) ?_ ?_
              rotate_left
              · show Act.put _ (some 33) _ = _
                simp only [Act.put, List.setIfInBounds_toArray, List.set_cons_zero, List.set_cons_succ, i64_w, i32_w]
                rfl
              refine one_ (i := 5) (N := some 34) #[true, true, true, true, true, true, false, false, false, false, false, false, false, false, false, false, false, false, false, false, false, false, false, false, false, false, false, false, false, false, false, false, false, false, false, false, false, false, false, false] rfl rfl (one_of HT_.out (by kernel_rfl)) (by decide) (fun K hK => ?_)
              refine goesT1_ 29 (by rfl) Try.func20 (by kernel_rfl) rfl #[.slice Ao23 t140.length co23, .slice Ao35 y149.length co35] (by rfl) rfl rfl (by (try simp only [List.map_toArray, List.map_cons, List.map_nil]); first | done | rfl | (simp only [List.length_drop, List.length_take]; rfl)) ?_
              with_reducible refine (ratlinelaw11_Pairs.calls k _ _ t140 _ _ y149 true _ ?side1 ?side2 ?side3 ?side4 A4.out).mono ?_
              (case side1 => repeat (first | exact (Kd.R_reads' HO142.out).2.2 | (with_reducible refine Kd.C_alloc ?_ _) | (with_reducible refine Kd.C_drewN ?_ _) | (with_reducible refine Kd.C_drew ?_)))
              (case side2 => exact (Kd.R_reads' HO142.out).2.1)
              (case side3 => repeat (first | exact (Kd.R_reads' HO151.out).2.2 | (with_reducible refine Kd.C_alloc ?_ _) | (with_reducible refine Kd.C_drewN ?_ _) | (with_reducible refine Kd.C_drew ?_)))
              (case side4 => exact (Kd.R_reads' HO151.out).2.1)
              rintro e w' ⟨rfl, ⟨nd, rfl⟩⟩
              refine ⟨_, rfl, ?_⟩
              refine hK.out _ _ ⟨(blk_cell BK147.out 0).trans rfl, (blk_cell BK147.out 1).trans rfl, (blk_cell BK148.out 0).trans rfl, (blk_cell BK148.out 1).trans rfl⟩ (fun hHeld => ?_)
              clear hK K
              refine norm_ (a' := ?_) ?_ ?_
              rotate_left
              · show Act.put _ (some 34) _ = _
                simp only [Act.put, List.setIfInBounds_toArray, List.set_cons_zero, List.set_cons_succ, i64_w, i32_w]
                rfl
              refine pure_ (i := 6) (N := some 35) (v := ?_) (a' := ?_) #[true, true, true, true, true, true, true, false, false, false, false, false, false, false, false, false, false, false, false, false, false, false, false, false, false, false, false, false, false, false, false, false, false, false, false, false, false, false, false, false] rfl rfl (any_of HT_.out (by kernel_rfl)) (fun _ _ _ h => h) (Or.inl ⟨by rfl, ?_⟩) ?_ ?_
              rotate_left
              · intro w'
                go_simp
                with_reducible rfl
              rotate_left
              · simp only [Act.put, List.setIfInBounds_toArray, List.set_cons_zero, List.set_cons_succ, i64_w, i32_w]
                rfl
              refine pure_ (i := 7) (N := some 36) (v := ?_) (a' := ?_) #[true, true, true, true, true, true, true, true, false, false, false, false, false, false, false, false, false, false, false, false, false, false, false, false, false, false, false, false, false, false, false, false, false, false, false, false, false, false, false, false] rfl rfl (any_of HT_.out (by kernel_rfl)) (fun _ _ _ h => h) (Or.inl ⟨by rfl, ?_⟩) ?_ ?_
              rotate_left
              · intro w'
                go_simp
                with_reducible rfl
              rotate_left
              · simp only [Act.put, List.setIfInBounds_toArray, List.set_cons_zero, List.set_cons_succ, i64_w, i32_w]
                rfl
              refine pure_ (i := 8) (N := some 37) (v := ?_) (a' := ?_) #[true, true, true, true, true, true, true, true, true, false, false, false, false, false, false, false, false, false, false, false, false, false, false, false, false, false, false, false, false, false, false, false, false, false, false, false, false, false, false, false] rfl rfl (any_of HT_.out (by kernel_rfl)) (fun _ _ _ h => h) (Or.inl ⟨by rfl, ?_⟩) ?_ ?_
              rotate_left
              · intro w'
                go_simp
                with_reducible rfl
              rotate_left
              · simp only [Act.put, List.setIfInBounds_toArray, List.set_cons_zero, List.set_cons_succ, i64_w, i32_w]
                rfl
              refine pure_ (i := 9) (N := some 38) (v := ?_) (a' := ?_) #[true, true, true, true, true, true, true, true, true, true, false, false, false, false, false, false, false, false, false, false, false, false, false, false, false, false, false, false, false, false, false, false, false, false, false, false, false, false, false, false] rfl rfl (any_of HT_.out (by kernel_rfl)) (fun _ _ _ h => h) (Or.inl ⟨by rfl, ?_⟩) ?_ ?_
              rotate_left
              · intro w'
                go_simp
                with_reducible rfl
              rotate_left
              · simp only [Act.put, List.setIfInBounds_toArray, List.set_cons_zero, List.set_cons_succ, i64_w, i32_w]
                rfl
              refine pure_ (i := 10) (N := some 39) (v := ?_) (a' := ?_) #[true, true, true, true, true, true, true, true, true, true, true, false, false, false, false, false, false, false, false, false, false, false, false, false, false, false, false, false, false, false, false, false, false, false, false, false, false, false, false, false] rfl rfl (any_of HT_.out (by kernel_rfl)) (fun _ _ _ h => h) (Or.inl ⟨by rfl, ?_⟩) ?_ ?_
              rotate_left
              · intro w'
                go_simp
                with_reducible rfl
              rotate_left
              · simp only [Act.put, List.setIfInBounds_toArray, List.set_cons_zero, List.set_cons_succ, i64_w, i32_w]
                rfl
              refine pure_ (i := 11) (N := some 40) (v := ?_) (a' := ?_) #[true, true, true, true, true, true, true, true, true, true, true, true, false, false, false, false, false, false, false, false, false, false, false, false, false, false, false, false, false, false, false, false, false, false, false, false, false, false, false, false] rfl rfl (any_of HT_.out (by kernel_rfl)) (fun _ _ _ h => h) (Or.inl ⟨by rfl, ?_⟩) ?_ ?_
              rotate_left
              · intro w'
                go_simp
                with_reducible rfl
              rotate_left
              · simp only [Act.put, List.setIfInBounds_toArray, List.set_cons_zero, List.set_cons_succ, i64_w, i32_w]
                rfl
              refine pure_ (i := 12) (N := some 41) (v := ?_) (a' := ?_) #[true, true, true, true, true, true, true, true, true, true, true, true, true, false, false, false, false, false, false, false, false, false, false, false, false, false, false, false, false, false, false, false, false, false, false, false, false, false, false, false] rfl rfl (any_of HT_.out (by kernel_rfl)) (fun _ _ _ h => h) (Or.inl ⟨by rfl, ?_⟩) ?_ ?_
              rotate_left
              · intro w'
                go_simp
                with_reducible rfl
              rotate_left
              · simp only [Act.put, List.setIfInBounds_toArray, List.set_cons_zero, List.set_cons_succ, i64_w, i32_w]
                rfl
              refine pure_ (i := 13) (N := some 42) (v := ?_) (a' := ?_) #[true, true, true, true, true, true, true, true, true, true, true, true, true, true, false, false, false, false, false, false, false, false, false, false, false, false, false, false, false, false, false, false, false, false, false, false, false, false, false, false] rfl rfl (any_of HT_.out (by kernel_rfl)) (fun _ _ _ h => h) (Or.inl ⟨by rfl, ?_⟩) ?_ ?_
              rotate_left
              · intro w'
                go_simp
                with_reducible rfl
              rotate_left
              · simp only [Act.put, List.setIfInBounds_toArray, List.set_cons_zero, List.set_cons_succ, i64_w, i32_w]
                rfl
              refine pure_ (i := 14) (N := some 43) (v := ?_) (a' := ?_) #[true, true, true, true, true, true, true, true, true, true, true, true, true, true, true, false, false, false, false, false, false, false, false, false, false, false, false, false, false, false, false, false, false, false, false, false, false, false, false, false] rfl rfl (any_of HT_.out (by kernel_rfl)) (fun _ _ _ h => h) (Or.inl ⟨by rfl, ?_⟩) ?_ ?_
              rotate_left
              · intro w'
                go_simp
                with_reducible rfl
              rotate_left
              · simp only [Act.put, List.setIfInBounds_toArray, List.set_cons_zero, List.set_cons_succ, i64_w, i32_w]
                rfl
              refine pure_ (i := 15) (N := some 44) (v := ?_) (a' := ?_) #[true, true, true, true, true, true, true, true, true, true, true, true, true, true, true, true, false, false, false, false, false, false, false, false, false, false, false, false, false, false, false, false, false, false, false, false, false, false, false, false] rfl rfl (any_of HT_.out (by kernel_rfl)) (fun _ _ _ h => h) (Or.inl ⟨by rfl, ?_⟩) ?_ ?_
              rotate_left
              · intro w'
                go_simp
                with_reducible rfl
              rotate_left
              · simp only [Act.put, List.setIfInBounds_toArray, List.set_cons_zero, List.set_cons_succ, i64_w, i32_w]
                rfl
              refine pure_ (i := 16) (N := some 45) (v := ?_) (a' := ?_) #[true, true, true, true, true, true, true, true, true, true, true, true, true, true, true, true, true, false, false, false, false, false, false, false, false, false, false, false, false, false, false, false, false, false, false, false, false, false, false, false] rfl rfl (any_of HT_.out (by kernel_rfl)) (fun _ _ _ h => h) (Or.inl ⟨by rfl, ?_⟩) ?_ ?_
              rotate_left
              · intro w'
                go_simp
                with_reducible rfl
              rotate_left
              · simp only [Act.put, List.setIfInBounds_toArray, List.set_cons_zero, List.set_cons_succ, i64_w, i32_w]
                rfl
              refine pure_ (i := 17) (N := some 46) (v := ?_) (a' := ?_) #[true, true, true, true, true, true, true, true, true, true, true, true, true, true, true, true, true, true, false, false, false, false, false, false, false, false, false, false, false, false, false, false, false, false, false, false, false, false, false, false] rfl rfl (any_of HT_.out (by kernel_rfl)) (fun _ _ _ h => h) (Or.inl ⟨by rfl, ?_⟩) ?_ ?_
              rotate_left
              · intro w'
                go_simp
                with_reducible rfl
              rotate_left
              · simp only [Act.put, List.setIfInBounds_toArray, List.set_cons_zero, List.set_cons_succ, i64_w, i32_w]
                rfl
              refine pure_ (i := 18) (N := some 47) (v := ?_) (a' := ?_) #[true, true, true, true, true, true, true, true, true, true, true, true, true, true, true, true, true, true, true, false, false, false, false, false, false, false, false, false, false, false, false, false, false, false, false, false, false, false, false, false] rfl rfl (any_of HT_.out (by kernel_rfl)) (fun _ _ _ h => h) (Or.inl ⟨by rfl, ?_⟩) ?_ ?_
              rotate_left
              · intro w'
                go_simp
                with_reducible rfl
              rotate_left
              · simp only [Act.put, List.setIfInBounds_toArray, List.set_cons_zero, List.set_cons_succ, i64_w, i32_w]
                rfl
              refine pure_ (i := 19) (N := some 48) (v := ?_) (a' := ?_) #[true, true, true, true, true, true, true, true, true, true, true, true, true, true, true, true, true, true, true, true, false, false, false, false, false, false, false, false, false, false, false, false, false, false, false, false, false, false, false, false] rfl rfl (any_of HT_.out (by kernel_rfl)) (fun _ _ _ h => h) (Or.inl ⟨by rfl, ?_⟩) ?_ ?_
              rotate_left
              · intro w'
                go_simp
                with_reducible rfl
              rotate_left
              · simp only [Act.put, List.setIfInBounds_toArray, List.set_cons_zero, List.set_cons_succ, i64_w, i32_w]
                rfl
              refine take_ (i := 21) (N := some 50) (v := ?_) (a' := ?_) #[true, true, true, true, true, true, true, true, true, true, true, true, true, true, true, true, true, true, true, true, false, true, false, false, false, false, false, false, false, false, false, false, false, false, false, false, false, false, false, false] rfl rfl (take_ofW HT_.out HW_.out (by kernel_rfl)) (fun _ _ _ h => h) (Or.inl ⟨by rfl, ?_⟩) hHeld ?_ ?_
              rotate_left
              · rintro w' ⟨s0, s1, s2, s3⟩
                go_simp
                with_reducible rfl
              rotate_left
              · simp only [Act.put, List.setIfInBounds_toArray, List.set_cons_zero, List.set_cons_succ, i64_w, i32_w]
                rfl
              refine join_ (σ := Value × Value × Value × Value) 9 #[true, true, true, true, true, true, true, true, true, true, true, true, true, true, true, true, true, true, true, true, true, true, true, true, true, true, true, true, true, true, true, false, false, false, false, false, false, false, false, false] (fun s_ => [(49, s_.1), (51, s_.2.1), (52, .bool true), (57, s_.2.2.1), (59, s_.2.2.2), (53, .bool true), (54, .bool true), (55, .func (.func 20) #[] #[]), (56, .slice Ao23 t140.length co23), (58, .agg #[.string (⟨#[97]⟩ : ByteArray), .string (⟨#[49]⟩ : ByteArray)])]) (fun s_ w' => (w'.cell? ⟨gb147, 0, none⟩ = some (.string (⟨#[97]⟩ : ByteArray)) ∧ w'.cell? ⟨gb147, 1, none⟩ = some (.string (⟨#[49]⟩ : ByteArray)) ∧ w'.cell? ⟨gb148, 0, none⟩ = some (.string (⟨#[99]⟩ : ByteArray)) ∧ w'.cell? ⟨gb148, 1, none⟩ = some (.string (⟨#[52]⟩ : ByteArray))) ∧ (Kd.R k39 39 w' w.heap.size (fun k_ => some k_ ≠ (.slice Ao23 t140.length co23 : Value).ownBlock ∧ some k_ ≠ (.slice Ao35 y149.length co35 : Value).ownBlock ∧ some k_ ≠ (s_.1 : Value).ownBlock ∧ some k_ ≠ (s_.2.1 : Value).ownBlock ∧ some k_ ≠ (s_.2.2.1 : Value).ownBlock ∧ some k_ ≠ (s_.2.2.2 : Value).ownBlock ∧ k_ ≠ gb147 ∧ k_ ≠ gb148) (.slice Ao20 y134.length co20) y134) ∧ (Kd.R k36 36 w' w.heap.size (fun _ => True) (.slice Ao21 y137.length co21) y137) ∧ (Kd.R k39 39 w' w.heap.size (fun k_ => some k_ ≠ (.slice Ao20 y134.length co20 : Value).ownBlock ∧ some k_ ≠ (.slice Ao35 y149.length co35 : Value).ownBlock ∧ some k_ ≠ (s_.1 : Value).ownBlock ∧ some k_ ≠ (s_.2.1 : Value).ownBlock ∧ some k_ ≠ (s_.2.2.1 : Value).ownBlock ∧ some k_ ≠ (s_.2.2.2 : Value).ownBlock ∧ k_ ≠ gb147 ∧ k_ ≠ gb148) (.slice Ao23 t140.length co23) t140) ∧ (Kd.R k39 39 w' w.heap.size (fun k_ => some k_ ≠ (.slice Ao20 y134.length co20 : Value).ownBlock ∧ some k_ ≠ (.slice Ao23 t140.length co23 : Value).ownBlock ∧ some k_ ≠ (s_.1 : Value).ownBlock ∧ some k_ ≠ (s_.2.1 : Value).ownBlock ∧ some k_ ≠ (s_.2.2.1 : Value).ownBlock ∧ some k_ ≠ (s_.2.2.2 : Value).ownBlock ∧ k_ ≠ gb147 ∧ k_ ≠ gb148) (.slice Ao35 y149.length co35) y149) ∧ (Kd.R k39 39 w' w.heap.size (fun k_ => some k_ ≠ (.slice Ao20 y134.length co20 : Value).ownBlock ∧ some k_ ≠ (.slice Ao23 t140.length co23 : Value).ownBlock ∧ some k_ ≠ (.slice Ao35 y149.length co35 : Value).ownBlock ∧ some k_ ≠ (s_.2.1 : Value).ownBlock ∧ some k_ ≠ (s_.2.2.1 : Value).ownBlock ∧ some k_ ≠ (s_.2.2.2 : Value).ownBlock ∧ k_ ≠ gb147 ∧ k_ ≠ gb148) s_.1 t153) ∧ (Kd.R k39 39 w' w.heap.size (fun k_ => some k_ ≠ (.slice Ao20 y134.length co20 : Value).ownBlock ∧ some k_ ≠ (.slice Ao23 t140.length co23 : Value).ownBlock ∧ some k_ ≠ (.slice Ao35 y149.length co35 : Value).ownBlock ∧ some k_ ≠ (s_.1 : Value).ownBlock ∧ some k_ ≠ (s_.2.2.1 : Value).ownBlock ∧ some k_ ≠ (s_.2.2.2 : Value).ownBlock ∧ k_ ≠ gb147 ∧ k_ ≠ gb148) s_.2.1 y156) ∧ (Kd.R k39 39 w' w.heap.size (fun k_ => some k_ ≠ (.slice Ao20 y134.length co20 : Value).ownBlock ∧ some k_ ≠ (.slice Ao23 t140.length co23 : Value).ownBlock ∧ some k_ ≠ (.slice Ao35 y149.length co35 : Value).ownBlock ∧ some k_ ≠ (s_.1 : Value).ownBlock ∧ some k_ ≠ (s_.2.1 : Value).ownBlock ∧ some k_ ≠ (s_.2.2.2 : Value).ownBlock ∧ k_ ≠ gb147 ∧ k_ ≠ gb148) s_.2.2.1 t160) ∧ (Kd.R k39 39 w' w.heap.size (fun k_ => some k_ ≠ (.slice Ao20 y134.length co20 : Value).ownBlock ∧ some k_ ≠ (.slice Ao23 t140.length co23 : Value).ownBlock ∧ some k_ ≠ (.slice Ao35 y149.length co35 : Value).ownBlock ∧ some k_ ≠ (s_.1 : Value).ownBlock ∧ some k_ ≠ (s_.2.1 : Value).ownBlock ∧ some k_ ≠ (s_.2.2.1 : Value).ownBlock ∧ k_ ≠ gb147 ∧ k_ ≠ gb148) s_.2.2.2 y163) ∧ (w'.heap[gb147]? = some (.cells #[.string (⟨#[97]⟩ : ByteArray), .string (⟨#[49]⟩ : ByteArray)] 39 (0, 0))) ∧ (w'.heap[gb148]? = some (.cells #[.string (⟨#[99]⟩ : ByteArray), .string (⟨#[52]⟩ : ByteArray)] 39 (0, 0))) ∧ (Below w.heap.size w w')) ?_ ?_
              rotate_left
              · intro hCont
                refine two_ (i := 20) (j := 22) (Ni := some 49) (Nj := some 51) #[true, true, true, true, true, true, true, true, true, true, true, true, true, true, true, true, true, true, true, true, true, true, false, false, false, false, false, false, false, false, false, false, false, false, false, false, false, false, false, false] #[true, true, true, true, true, true, true, true, true, true, true, true, true, true, true, true, true, true, true, true, false, true, true, false, false, false, false, false, false, false, false, false, false, false, false, false, false, false, false, false] rfl rfl rfl rfl (two_of HT_.out (by kernel_rfl)) (by decide) (by decide) (fun K hK => ?_) (fun K hK => ?_)
                · skip
                  refine goes_ Try.func23 (by kernel_rfl) rfl #[.slice Ao23 t140.length co23, .string (⟨#[98]⟩ : ByteArray), .string (⟨#[]⟩ : ByteArray), .int .i64 9] (by rfl) rfl rfl (by (try simp only [List.map_toArray, List.map_cons, List.map_nil]); first | done | rfl | (simp only [List.length_drop, List.length_take]; rfl)) ?_
                  with_reducible refine (omap_Scan.calls _ _ t140 (⟨#[98]⟩ : ByteArray) (⟨#[]⟩ : ByteArray) 9 t153 _ ?side1 ?side2 A9.out).mono ?_
                  (case side1 => repeat (first | exact (Kd.R_reads' HO142.out).2.2 | (with_reducible refine Kd.C_alloc ?_ _) | (with_reducible refine Kd.C_drewN ?_ _) | (with_reducible refine Kd.C_drew ?_)))
                  (case side2 => exact (Kd.R_reads' HO142.out).2.1)
                  rintro e w36 ⟨v154, rfl, ho0, hb⟩
                  refine ⟨_, rfl, ?_⟩
                  have n0_ := Aside0.mk (Kd.R_elder' (by (with_reducible repeat (first | apply Kd.R_alloc | apply Kd.R_drewN | apply Kd.R_drew)); exact HO136.out) (Kd.R_base ho0) hb)
                  have n1_ := Aside0.mk (Kd.R_below (by (with_reducible repeat (first | apply Kd.R_alloc | apply Kd.R_drewN | apply Kd.R_drew)); exact HO139.out) hb)
                  have n2_ := Aside0.mk (Kd.R_elder' (by (with_reducible repeat (first | apply Kd.R_alloc | apply Kd.R_drewN | apply Kd.R_drew)); exact HO142.out) (Kd.R_base ho0) hb)
                  have n3_ := Aside0.mk (Kd.R_elder' (by (with_reducible repeat (first | apply Kd.R_alloc | apply Kd.R_drewN | apply Kd.R_drew)); exact HO151.out) (Kd.R_base ho0) hb)
                  have n4_ := Aside0.mk (Kd.R_lower (Kd.R_newB (Kd.R_newB (Kd.R_new' (Kd.R_new' (Kd.R_new' ho0 (Kd.R_lt (by (with_reducible repeat (first | apply Kd.R_alloc | apply Kd.R_drewN | apply Kd.R_drew)); exact HO136.out))) (Kd.R_lt (by (with_reducible repeat (first | apply Kd.R_alloc | apply Kd.R_drewN | apply Kd.R_drew)); exact HO142.out))) (Kd.R_lt (by (with_reducible repeat (first | apply Kd.R_alloc | apply Kd.R_drewN | apply Kd.R_drew)); exact HO151.out))) (g := gb147) (o := .cells #[.string (⟨#[97]⟩ : ByteArray), .string (⟨#[49]⟩ : ByteArray)] 39 (0, 0)) (by (with_reducible repeat (first | refine blk_drewN ?_ _ | refine blk_drew ?_ | refine blk_alloc ?_ _)); exact BK147.out)) (g := gb148) (o := .cells #[.string (⟨#[99]⟩ : ByteArray), .string (⟨#[52]⟩ : ByteArray)] 39 (0, 0)) (by (with_reducible repeat (first | refine blk_drewN ?_ _ | refine blk_drew ?_ | refine blk_alloc ?_ _)); exact BK148.out)) (below_size (by repeat (first | (with_reducible first | exact HB.out | apply below_alloc | apply pw_below_drewN | apply below_drew1 | refine below_set ?_ GE147.out | refine below_set ?_ GE148.out) | exact HB.out))))
                  have n5_ := Aside0.mk (blk_below (g := gb147) (o := .cells #[.string (⟨#[97]⟩ : ByteArray), .string (⟨#[49]⟩ : ByteArray)] 39 (0, 0)) (by (with_reducible repeat (first | refine blk_drewN ?_ _ | refine blk_drew ?_ | refine blk_alloc ?_ _)); exact BK147.out) hb)
                  have n6_ := Aside0.mk (blk_below (g := gb148) (o := .cells #[.string (⟨#[99]⟩ : ByteArray), .string (⟨#[52]⟩ : ByteArray)] 39 (0, 0)) (by (with_reducible repeat (first | refine blk_drewN ?_ _ | refine blk_drew ?_ | refine blk_alloc ?_ _)); exact BK148.out) hb)
                  have n7_ := Aside0.mk (below_step (by repeat (first | (with_reducible first | exact HB.out | apply below_alloc | apply pw_below_drewN | apply below_drew1 | refine below_set ?_ GE147.out | refine below_set ?_ GE148.out) | exact HB.out)) hb)
                  clear HO136
                  clear HO139
                  clear HO142
                  clear HO151
                  clear BK147
                  clear BK148
                  clear HB
                  have HO136 := n0_
                  have HO139 := n1_
                  have HO142 := n2_
                  have HO151 := n3_
                  have HO155 := n4_
                  have BK147 := n5_
                  have BK148 := n6_
                  have HB := n7_
                  clear n0_ n1_ n2_ n3_ n4_ n5_ n6_ n7_
                  (try clear hb)
                  (try clear hb2)
                  (try clear hk)
                  (try clear hi)
                  (try clear ho0)
                  refine hK.out _ _ ⟨(blk_cell BK147.out 0).trans rfl, (blk_cell BK147.out 1).trans rfl, (blk_cell BK148.out 0).trans rfl, (blk_cell BK148.out 1).trans rfl⟩ (fun hHeld => ?_)
                  clear hK K
                  refine norm_ (a' := ?_) ?_ ?_
                  rotate_left
                  · show Act.put _ (some 49) _ = _
                    simp only [Act.put, List.setIfInBounds_toArray, List.set_cons_zero, List.set_cons_succ, i64_w, i32_w]
                    rfl
                  refine one_ (i := 22) (N := some 51) #[true, true, true, true, true, true, true, true, true, true, true, true, true, true, true, true, true, true, true, true, true, true, true, false, false, false, false, false, false, false, false, false, false, false, false, false, false, false, false, false] rfl rfl (one_of HT_.out (by kernel_rfl)) (by decide) (fun K hK => ?_)
                  refine Kd.R_lit_step k39 _ 39 ?hg (N := 51) ?hd (xs := ([(⟨(⟨#[99]⟩ : ByteArray), (⟨#[52]⟩ : ByteArray)⟩ : S39)] : List (S39))) (inner := [.string (⟨#[99]⟩ : ByteArray), .string (⟨#[52]⟩ : ByteArray)]) (ok := fun _ => True) (okp := fun _ => True) ?hr ?hp (fun _ hk => hk) trivial (Below.refl _ _) (Nat.le_refl _) (by simp) ?_; (case hd => rfl); (case hg => rfl); (case hr => first | (go_simp; done) | (go_simp; rfl)); (case hp => exact (Reps.c2 (show Kd.M k39 _ _ _ (⟨(⟨#[99]⟩ : ByteArray), (⟨#[52]⟩ : ByteArray)⟩ : S39) [.string (⟨#[99]⟩ : ByteArray), .string (⟨#[52]⟩ : ByteArray)] from (k39_mkM _ _ _ (⟨(⟨#[99]⟩ : ByteArray), (⟨#[52]⟩ : ByteArray)⟩ : S39) )) (Reps.none _ _)))
                  intro v157 w37 ho38 hb hg_ hnew_
                  clear hg_ hnew_
                  (first | rw [← Ny156.out] at ho38 | (simp only [Int.reduceToNat] at ho38; rw [← Ny156.out] at ho38))
                  have n0_ := Aside0.mk (Kd.R_elder' (by (with_reducible repeat (first | apply Kd.R_alloc | apply Kd.R_drewN | apply Kd.R_drew)); exact HO136.out) (Kd.R_base ho38) hb)
                  have n1_ := Aside0.mk (Kd.R_below (by (with_reducible repeat (first | apply Kd.R_alloc | apply Kd.R_drewN | apply Kd.R_drew)); exact HO139.out) hb)
                  have n2_ := Aside0.mk (Kd.R_elder' (by (with_reducible repeat (first | apply Kd.R_alloc | apply Kd.R_drewN | apply Kd.R_drew)); exact HO142.out) (Kd.R_base ho38) hb)
                  have n3_ := Aside0.mk (Kd.R_elder' (by (with_reducible repeat (first | apply Kd.R_alloc | apply Kd.R_drewN | apply Kd.R_drew)); exact HO151.out) (Kd.R_base ho38) hb)
                  have n4_ := Aside0.mk (Kd.R_elder' (by (with_reducible repeat (first | apply Kd.R_alloc | apply Kd.R_drewN | apply Kd.R_drew)); exact HO155.out) (Kd.R_base ho38) hb)
                  have n5_ := Aside0.mk (Kd.R_lower (Kd.R_newB (Kd.R_newB (Kd.R_new' (Kd.R_new' (Kd.R_new' (Kd.R_new' ho38 (Kd.R_lt (by (with_reducible repeat (first | apply Kd.R_alloc | apply Kd.R_drewN | apply Kd.R_drew)); exact HO136.out))) (Kd.R_lt (by (with_reducible repeat (first | apply Kd.R_alloc | apply Kd.R_drewN | apply Kd.R_drew)); exact HO142.out))) (Kd.R_lt (by (with_reducible repeat (first | apply Kd.R_alloc | apply Kd.R_drewN | apply Kd.R_drew)); exact HO151.out))) (Kd.R_lt (by (with_reducible repeat (first | apply Kd.R_alloc | apply Kd.R_drewN | apply Kd.R_drew)); exact HO155.out))) (g := gb147) (o := .cells #[.string (⟨#[97]⟩ : ByteArray), .string (⟨#[49]⟩ : ByteArray)] 39 (0, 0)) (by (with_reducible repeat (first | refine blk_drewN ?_ _ | refine blk_drew ?_ | refine blk_alloc ?_ _)); exact BK147.out)) (g := gb148) (o := .cells #[.string (⟨#[99]⟩ : ByteArray), .string (⟨#[52]⟩ : ByteArray)] 39 (0, 0)) (by (with_reducible repeat (first | refine blk_drewN ?_ _ | refine blk_drew ?_ | refine blk_alloc ?_ _)); exact BK148.out)) (below_size (by repeat (first | (with_reducible first | exact HB.out | apply below_alloc | apply pw_below_drewN | apply below_drew1 | refine below_set ?_ GE147.out | refine below_set ?_ GE148.out) | exact HB.out))))
                  have n6_ := Aside0.mk (blk_below (g := gb147) (o := .cells #[.string (⟨#[97]⟩ : ByteArray), .string (⟨#[49]⟩ : ByteArray)] 39 (0, 0)) (by (with_reducible repeat (first | refine blk_drewN ?_ _ | refine blk_drew ?_ | refine blk_alloc ?_ _)); exact BK147.out) hb)
                  have n7_ := Aside0.mk (blk_below (g := gb148) (o := .cells #[.string (⟨#[99]⟩ : ByteArray), .string (⟨#[52]⟩ : ByteArray)] 39 (0, 0)) (by (with_reducible repeat (first | refine blk_drewN ?_ _ | refine blk_drew ?_ | refine blk_alloc ?_ _)); exact BK148.out) hb)
                  have n8_ := Aside0.mk (below_step (by repeat (first | (with_reducible first | exact HB.out | apply below_alloc | apply pw_below_drewN | apply below_drew1 | refine below_set ?_ GE147.out | refine below_set ?_ GE148.out) | exact HB.out)) hb)
                  clear HO136
                  clear HO139
                  clear HO142
                  clear HO151
                  clear HO155
                  clear BK147
                  clear BK148
                  clear HB
                  have HO136 := n0_
                  have HO139 := n1_
                  have HO142 := n2_
                  have HO151 := n3_
                  have HO155 := n4_
                  have HO158 := n5_
                  have BK147 := n6_
                  have BK148 := n7_
                  have HB := n8_
                  clear n0_ n1_ n2_ n3_ n4_ n5_ n6_ n7_ n8_
                  clear hb ho38
                  obtain ⟨Ao39, co39, eo39⟩ := Kd.R_slice HO155.out
                  (first | subst eo39 | (injection eo39 with f1_ f2_ f3_; have f4_ := f1_.symm; have f5_ := f3_.symm; clear f1_ f2_ f3_; subst f4_; subst f5_))
                  obtain ⟨Ao40, co40, eo40⟩ := Kd.R_slice HO158.out
                  (first | subst eo40 | (injection eo40 with f1_ f2_ f3_; have f4_ := f1_.symm; have f5_ := f3_.symm; clear f1_ f2_ f3_; subst f4_; subst f5_))
                  refine hK.out _ _ ⟨(blk_cell BK147.out 0).trans rfl, (blk_cell BK147.out 1).trans rfl, (blk_cell BK148.out 0).trans rfl, (blk_cell BK148.out 1).trans rfl⟩ (fun hHeld => ?_)
                  clear hK K
                  refine norm_ (a' := ?_) ?_ ?_
                  rotate_left
                  · show Act.put _ (some 51) _ = _
                    simp only [Act.put, List.setIfInBounds_toArray, List.set_cons_zero, List.set_cons_succ, i64_w, i32_w]
                    rfl
                  refine one_ (i := 23) (N := some 52) #[true, true, true, true, true, true, true, true, true, true, true, true, true, true, true, true, true, true, true, true, true, true, true, true, false, false, false, false, false, false, false, false, false, false, false, false, false, false, false, false] rfl rfl (one_of HT_.out (by kernel_rfl)) (by decide) (fun K hK => ?_)
                  refine goesT1_ 47 (by rfl) Try.func20 (by kernel_rfl) rfl #[.slice Ao39 t153.length co39, .slice Ao40 y156.length co40] (by rfl) rfl rfl (by (try simp only [List.map_toArray, List.map_cons, List.map_nil]); first | done | rfl | (simp only [List.length_drop, List.length_take]; rfl)) ?_
                  with_reducible refine (ratlinelaw11_Pairs.calls k _ _ t153 _ _ y156 true _ ?side1 ?side2 ?side3 ?side4 A10.out).mono ?_
                  (case side1 => repeat (first | exact (Kd.R_reads' HO155.out).2.2 | (with_reducible refine Kd.C_alloc ?_ _) | (with_reducible refine Kd.C_drewN ?_ _) | (with_reducible refine Kd.C_drew ?_)))
                  (case side2 => exact (Kd.R_reads' HO155.out).2.1)
                  (case side3 => repeat (first | exact (Kd.R_reads' HO158.out).2.2 | (with_reducible refine Kd.C_alloc ?_ _) | (with_reducible refine Kd.C_drewN ?_ _) | (with_reducible refine Kd.C_drew ?_)))
                  (case side4 => exact (Kd.R_reads' HO158.out).2.1)
                  rintro e w' ⟨rfl, ⟨nd, rfl⟩⟩
                  refine ⟨_, rfl, ?_⟩
                  refine hK.out _ _ ⟨(blk_cell BK147.out 0).trans rfl, (blk_cell BK147.out 1).trans rfl, (blk_cell BK148.out 0).trans rfl, (blk_cell BK148.out 1).trans rfl⟩ (fun hHeld => ?_)
                  clear hK K
                  refine norm_ (a' := ?_) ?_ ?_
                  rotate_left
                  · show Act.put _ (some 52) _ = _
                    simp only [Act.put, List.setIfInBounds_toArray, List.set_cons_zero, List.set_cons_succ, i64_w, i32_w]
                    rfl
                  refine pure_ (i := 24) (N := some 53) (v := ?_) (a' := ?_) #[true, true, true, true, true, true, true, true, true, true, true, true, true, true, true, true, true, true, true, true, true, true, true, true, true, false, false, false, false, false, false, false, false, false, false, false, false, false, false, false] rfl rfl (any_of HT_.out (by kernel_rfl)) (fun _ _ _ h => h) (Or.inl ⟨by rfl, ?_⟩) ?_ ?_
                  rotate_left
                  · intro w'
                    go_simp
                    with_reducible rfl
                  rotate_left
                  · simp only [Act.put, List.setIfInBounds_toArray, List.set_cons_zero, List.set_cons_succ, i64_w, i32_w]
                    rfl
                  refine pure_ (i := 25) (N := some 54) (v := ?_) (a' := ?_) #[true, true, true, true, true, true, true, true, true, true, true, true, true, true, true, true, true, true, true, true, true, true, true, true, true, true, false, false, false, false, false, false, false, false, false, false, false, false, false, false] rfl rfl (any_of HT_.out (by kernel_rfl)) (fun _ _ _ h => h) (Or.inl ⟨by rfl, ?_⟩) ?_ ?_
                  rotate_left
                  · intro w'
                    go_simp
                    with_reducible rfl
                  rotate_left
                  · simp only [Act.put, List.setIfInBounds_toArray, List.set_cons_zero, List.set_cons_succ, i64_w, i32_w]
                    rfl
                  refine pure_ (i := 26) (N := some 55) (v := ?_) (a' := ?_) #[true, true, true, true, true, true, true, true, true, true, true, true, true, true, true, true, true, true, true, true, true, true, true, true, true, true, true, false, false, false, false, false, false, false, false, false, false, false, false, false] rfl rfl (any_of HT_.out (by kernel_rfl)) (fun _ _ _ h => h) (Or.inl ⟨by rfl, ?_⟩) ?_ ?_
                  rotate_left
                  · intro w'
                    go_simp
                    with_reducible rfl
                  rotate_left
                  · simp only [Act.put, List.setIfInBounds_toArray, List.set_cons_zero, List.set_cons_succ, i64_w, i32_w]
                    rfl
                  refine pure_ (i := 27) (N := some 56) (v := ?_) (a' := ?_) #[true, true, true, true, true, true, true, true, true, true, true, true, true, true, true, true, true, true, true, true, true, true, true, true, true, true, true, true, false, false, false, false, false, false, false, false, false, false, false, false] rfl rfl (any_of HT_.out (by kernel_rfl)) (fun _ _ _ h => h) (Or.inl ⟨by rfl, ?_⟩) ?_ ?_
                  rotate_left
                  · intro w'
                    go_simp
                    with_reducible rfl
                  rotate_left
                  · simp only [Act.put, List.setIfInBounds_toArray, List.set_cons_zero, List.set_cons_succ, i64_w, i32_w]
                    rfl
                  refine take_ (i := 29) (N := some 58) (v := ?_) (a' := ?_) #[true, true, true, true, true, true, true, true, true, true, true, true, true, true, true, true, true, true, true, true, true, true, true, true, true, true, true, true, false, true, false, false, false, false, false, false, false, false, false, false] rfl rfl (take_ofW HT_.out HW_.out (by kernel_rfl)) (fun _ _ _ h => h) (Or.inl ⟨by rfl, ?_⟩) hHeld ?_ ?_
                  rotate_left
                  · rintro w' ⟨s0, s1, s2, s3⟩
                    go_simp
                    with_reducible rfl
                  rotate_left
                  · simp only [Act.put, List.setIfInBounds_toArray, List.set_cons_zero, List.set_cons_succ, i64_w, i32_w]
                    rfl
                  refine two_ (i := 28) (j := 30) (Ni := some 57) (Nj := some 59) #[true, true, true, true, true, true, true, true, true, true, true, true, true, true, true, true, true, true, true, true, true, true, true, true, true, true, true, true, true, true, false, false, false, false, false, false, false, false, false, false] #[true, true, true, true, true, true, true, true, true, true, true, true, true, true, true, true, true, true, true, true, true, true, true, true, true, true, true, true, false, true, true, false, false, false, false, false, false, false, false, false] rfl rfl rfl rfl (two_of HT_.out (by kernel_rfl)) (by decide) (by decide) (fun K hK => ?_) (fun K hK => ?_)
                  · skip
                    refine goes_ Try.func23 (by kernel_rfl) rfl #[.slice Ao23 t140.length co23, .string (⟨#[97]⟩ : ByteArray), .string (⟨#[99]⟩ : ByteArray), .int .i64 9] (by rfl) rfl rfl (by (try simp only [List.map_toArray, List.map_cons, List.map_nil]); first | done | rfl | (simp only [List.length_drop, List.length_take]; rfl)) ?_
                    with_reducible refine (omap_Scan.calls _ _ t140 (⟨#[97]⟩ : ByteArray) (⟨#[99]⟩ : ByteArray) 9 t160 _ ?side1 ?side2 A12.out).mono ?_
                    (case side1 => repeat (first | exact (Kd.R_reads' HO142.out).2.2 | (with_reducible refine Kd.C_alloc ?_ _) | (with_reducible refine Kd.C_drewN ?_ _) | (with_reducible refine Kd.C_drew ?_)))
                    (case side2 => exact (Kd.R_reads' HO142.out).2.1)
                    rintro e w41 ⟨v161, rfl, ho0, hb⟩
                    refine ⟨_, rfl, ?_⟩
                    have n0_ := Aside0.mk (Kd.R_elder' (by (with_reducible repeat (first | apply Kd.R_alloc | apply Kd.R_drewN | apply Kd.R_drew)); exact HO136.out) (Kd.R_base ho0) hb)
                    have n1_ := Aside0.mk (Kd.R_below (by (with_reducible repeat (first | apply Kd.R_alloc | apply Kd.R_drewN | apply Kd.R_drew)); exact HO139.out) hb)
                    have n2_ := Aside0.mk (Kd.R_elder' (by (with_reducible repeat (first | apply Kd.R_alloc | apply Kd.R_drewN | apply Kd.R_drew)); exact HO142.out) (Kd.R_base ho0) hb)
                    have n3_ := Aside0.mk (Kd.R_elder' (by (with_reducible repeat (first | apply Kd.R_alloc | apply Kd.R_drewN | apply Kd.R_drew)); exact HO151.out) (Kd.R_base ho0) hb)
                    have n4_ := Aside0.mk (Kd.R_elder' (by (with_reducible repeat (first | apply Kd.R_alloc | apply Kd.R_drewN | apply Kd.R_drew)); exact HO155.out) (Kd.R_base ho0) hb)
                    have n5_ := Aside0.mk (Kd.R_elder' (by (with_reducible repeat (first | apply Kd.R_alloc | apply Kd.R_drewN | apply Kd.R_drew)); exact HO158.out) (Kd.R_base ho0) hb)
                    have n6_ := Aside0.mk (Kd.R_lower (Kd.R_newB (Kd.R_newB (Kd.R_new' (Kd.R_new' (Kd.R_new' (Kd.R_new' (Kd.R_new' ho0 (Kd.R_lt (by (with_reducible repeat (first | apply Kd.R_alloc | apply Kd.R_drewN | apply Kd.R_drew)); exact HO136.out))) (Kd.R_lt (by (with_reducible repeat (first | apply Kd.R_alloc | apply Kd.R_drewN | apply Kd.R_drew)); exact HO142.out))) (Kd.R_lt (by (with_reducible repeat (first | apply Kd.R_alloc | apply Kd.R_drewN | apply Kd.R_drew)); exact HO151.out))) (Kd.R_lt (by (with_reducible repeat (first | apply Kd.R_alloc | apply Kd.R_drewN | apply Kd.R_drew)); exact HO155.out))) (Kd.R_lt (by (with_reducible repeat (first | apply Kd.R_alloc | apply Kd.R_drewN | apply Kd.R_drew)); exact HO158.out))) (g := gb147) (o := .cells #[.string (⟨#[97]⟩ : ByteArray), .string (⟨#[49]⟩ : ByteArray)] 39 (0, 0)) (by (with_reducible repeat (first | refine blk_drewN ?_ _ | refine blk_drew ?_ | refine blk_alloc ?_ _)); exact BK147.out)) (g := gb148) (o := .cells #[.string (⟨#[99]⟩ : ByteArray), .string (⟨#[52]⟩ : ByteArray)] 39 (0, 0)) (by (with_reducible repeat (first | refine blk_drewN ?_ _ | refine blk_drew ?_ | refine blk_alloc ?_ _)); exact BK148.out)) (below_size (by repeat (first | (with_reducible first | exact HB.out | apply below_alloc | apply pw_below_drewN | apply below_drew1 | refine below_set ?_ GE147.out | refine below_set ?_ GE148.out) | exact HB.out))))
                    have n7_ := Aside0.mk (blk_below (g := gb147) (o := .cells #[.string (⟨#[97]⟩ : ByteArray), .string (⟨#[49]⟩ : ByteArray)] 39 (0, 0)) (by (with_reducible repeat (first | refine blk_drewN ?_ _ | refine blk_drew ?_ | refine blk_alloc ?_ _)); exact BK147.out) hb)
                    have n8_ := Aside0.mk (blk_below (g := gb148) (o := .cells #[.string (⟨#[99]⟩ : ByteArray), .string (⟨#[52]⟩ : ByteArray)] 39 (0, 0)) (by (with_reducible repeat (first | refine blk_drewN ?_ _ | refine blk_drew ?_ | refine blk_alloc ?_ _)); exact BK148.out) hb)
                    have n9_ := Aside0.mk (below_step (by repeat (first | (with_reducible first | exact HB.out | apply below_alloc | apply pw_below_drewN | apply below_drew1 | refine below_set ?_ GE147.out | refine below_set ?_ GE148.out) | exact HB.out)) hb)
                    clear HO136
                    clear HO139
                    clear HO142
                    clear HO151
                    clear HO155
                    clear HO158
                    clear BK147
                    clear BK148
                    clear HB
                    have HO136 := n0_
                    have HO139 := n1_
                    have HO142 := n2_
                    have HO151 := n3_
                    have HO155 := n4_
                    have HO158 := n5_
                    have HO162 := n6_
                    have BK147 := n7_
                    have BK148 := n8_
                    have HB := n9_
                    clear n0_ n1_ n2_ n3_ n4_ n5_ n6_ n7_ n8_ n9_
                    (try clear hb)
                    (try clear hb2)
                    (try clear hk)
                    (try clear hi)
                    (try clear ho0)
                    refine hK.out _ _ ⟨(blk_cell BK147.out 0).trans rfl, (blk_cell BK147.out 1).trans rfl, (blk_cell BK148.out 0).trans rfl, (blk_cell BK148.out 1).trans rfl⟩ (fun hHeld => ?_)
                    clear hK K
                    refine norm_ (a' := ?_) ?_ ?_
                    rotate_left
                    · show Act.put _ (some 57) _ = _
                      simp only [Act.put, List.setIfInBounds_toArray, List.set_cons_zero, List.set_cons_succ, i64_w, i32_w]
                      rfl
                    refine one_ (i := 30) (N := some 59) #[true, true, true, true, true, true, true, true, true, true, true, true, true, true, true, true, true, true, true, true, true, true, true, true, true, true, true, true, true, true, true, false, false, false, false, false, false, false, false, false] rfl rfl (one_of HT_.out (by kernel_rfl)) (by decide) (fun K hK => ?_)
                    refine Kd.R_lit_step k39 _ 39 ?hg (N := 59) ?hd (xs := ([(⟨(⟨#[97]⟩ : ByteArray), (⟨#[49]⟩ : ByteArray)⟩ : S39)] : List (S39))) (inner := [.string (⟨#[97]⟩ : ByteArray), .string (⟨#[49]⟩ : ByteArray)]) (ok := fun _ => True) (okp := fun _ => True) ?hr ?hp (fun _ hk => hk) trivial (Below.refl _ _) (Nat.le_refl _) (by simp) ?_; (case hd => rfl); (case hg => rfl); (case hr => first | (go_simp; done) | (go_simp; rfl)); (case hp => exact (Reps.c2 (show Kd.M k39 _ _ _ (⟨(⟨#[97]⟩ : ByteArray), (⟨#[49]⟩ : ByteArray)⟩ : S39) [.string (⟨#[97]⟩ : ByteArray), .string (⟨#[49]⟩ : ByteArray)] from (k39_mkM _ _ _ (⟨(⟨#[97]⟩ : ByteArray), (⟨#[49]⟩ : ByteArray)⟩ : S39) )) (Reps.none _ _)))
                    intro v164 w42 ho43 hb hg_ hnew_
                    clear hg_ hnew_
                    (first | rw [← Ny163.out] at ho43 | (simp only [Int.reduceToNat] at ho43; rw [← Ny163.out] at ho43))
                    have n0_ := Aside0.mk (Kd.R_elder' (by (with_reducible repeat (first | apply Kd.R_alloc | apply Kd.R_drewN | apply Kd.R_drew)); exact HO136.out) (Kd.R_base ho43) hb)
                    have n1_ := Aside0.mk (Kd.R_below (by (with_reducible repeat (first | apply Kd.R_alloc | apply Kd.R_drewN | apply Kd.R_drew)); exact HO139.out) hb)
                    have n2_ := Aside0.mk (Kd.R_elder' (by (with_reducible repeat (first | apply Kd.R_alloc | apply Kd.R_drewN | apply Kd.R_drew)); exact HO142.out) (Kd.R_base ho43) hb)
                    have n3_ := Aside0.mk (Kd.R_elder' (by (with_reducible repeat (first | apply Kd.R_alloc | apply Kd.R_drewN | apply Kd.R_drew)); exact HO151.out) (Kd.R_base ho43) hb)
                    have n4_ := Aside0.mk (Kd.R_elder' (by (with_reducible repeat (first | apply Kd.R_alloc | apply Kd.R_drewN | apply Kd.R_drew)); exact HO155.out) (Kd.R_base ho43) hb)
                    have n5_ := Aside0.mk (Kd.R_elder' (by (with_reducible repeat (first | apply Kd.R_alloc | apply Kd.R_drewN | apply Kd.R_drew)); exact HO158.out) (Kd.R_base ho43) hb)
                    have n6_ := Aside0.mk (Kd.R_elder' (by (with_reducible repeat (first | apply Kd.R_alloc | apply Kd.R_drewN | apply Kd.R_drew)); exact HO162.out) (Kd.R_base ho43) hb)
                    have n7_ := Aside0.mk (Kd.R_lower (Kd.R_newB (Kd.R_newB (Kd.R_new' (Kd.R_new' (Kd.R_new' (Kd.R_new' (Kd.R_new' (Kd.R_new' ho43 (Kd.R_lt (by (with_reducible repeat (first | apply Kd.R_alloc | apply Kd.R_drewN | apply Kd.R_drew)); exact HO136.out))) (Kd.R_lt (by (with_reducible repeat (first | apply Kd.R_alloc | apply Kd.R_drewN | apply Kd.R_drew)); exact HO142.out))) (Kd.R_lt (by (with_reducible repeat (first | apply Kd.R_alloc | apply Kd.R_drewN | apply Kd.R_drew)); exact HO151.out))) (Kd.R_lt (by (with_reducible repeat (first | apply Kd.R_alloc | apply Kd.R_drewN | apply Kd.R_drew)); exact HO155.out))) (Kd.R_lt (by (with_reducible repeat (first | apply Kd.R_alloc | apply Kd.R_drewN | apply Kd.R_drew)); exact HO158.out))) (Kd.R_lt (by (with_reducible repeat (first | apply Kd.R_alloc | apply Kd.R_drewN | apply Kd.R_drew)); exact HO162.out))) (g := gb147) (o := .cells #[.string (⟨#[97]⟩ : ByteArray), .string (⟨#[49]⟩ : ByteArray)] 39 (0, 0)) (by (with_reducible repeat (first | refine blk_drewN ?_ _ | refine blk_drew ?_ | refine blk_alloc ?_ _)); exact BK147.out)) (g := gb148) (o := .cells #[.string (⟨#[99]⟩ : ByteArray), .string (⟨#[52]⟩ : ByteArray)] 39 (0, 0)) (by (with_reducible repeat (first | refine blk_drewN ?_ _ | refine blk_drew ?_ | refine blk_alloc ?_ _)); exact BK148.out)) (below_size (by repeat (first | (with_reducible first | exact HB.out | apply below_alloc | apply pw_below_drewN | apply below_drew1 | refine below_set ?_ GE147.out | refine below_set ?_ GE148.out) | exact HB.out))))
                    have n8_ := Aside0.mk (blk_below (g := gb147) (o := .cells #[.string (⟨#[97]⟩ : ByteArray), .string (⟨#[49]⟩ : ByteArray)] 39 (0, 0)) (by (with_reducible repeat (first | refine blk_drewN ?_ _ | refine blk_drew ?_ | refine blk_alloc ?_ _)); exact BK147.out) hb)
                    have n9_ := Aside0.mk (blk_below (g := gb148) (o := .cells #[.string (⟨#[99]⟩ : ByteArray), .string (⟨#[52]⟩ : ByteArray)] 39 (0, 0)) (by (with_reducible repeat (first | refine blk_drewN ?_ _ | refine blk_drew ?_ | refine blk_alloc ?_ _)); exact BK148.out) hb)
                    have n10_ := Aside0.mk (below_step (by repeat (first | (with_reducible first | exact HB.out | apply below_alloc | apply pw_below_drewN | apply below_drew1 | refine below_set ?_ GE147.out | refine below_set ?_ GE148.out) | exact HB.out)) hb)
                    clear HO136
                    clear HO139
                    clear HO142
                    clear HO151
                    clear HO155
                    clear HO158
                    clear HO162
                    clear BK147
                    clear BK148
                    clear HB
                    have HO136 := n0_
                    have HO139 := n1_
                    have HO142 := n2_
                    have HO151 := n3_
                    have HO155 := n4_
                    have HO158 := n5_
                    have HO162 := n6_
                    have HO165 := n7_
                    have BK147 := n8_
                    have BK148 := n9_
                    have HB := n10_
                    clear n0_ n1_ n2_ n3_ n4_ n5_ n6_ n7_ n8_ n9_ n10_
                    clear hb ho43
                    refine hK.out _ _ ⟨(blk_cell BK147.out 0).trans rfl, (blk_cell BK147.out 1).trans rfl, (blk_cell BK148.out 0).trans rfl, (blk_cell BK148.out 1).trans rfl⟩ (fun hHeld => ?_)
                    clear hK K
                    refine norm_ (a' := ?_) ?_ ?_
                    rotate_left
                    · show Act.put _ (some 59) _ = _
                      simp only [Act.put, List.setIfInBounds_toArray, List.set_cons_zero, List.set_cons_succ, i64_w, i32_w]
                      rfl
                    exact norm_ (by simp only [putAll, Act.put, List.setIfInBounds_toArray, List.set_cons_zero, List.set_cons_succ]) (hCont (.slice Ao39 t153.length co39, .slice Ao40 y156.length co40, v161, v164) _ ⟨hHeld, (by (with_reducible repeat (first | apply Kd.R_alloc | apply Kd.R_drewN | apply Kd.R_drew)); exact Kd.R_mono HO136.out (fun _ hk => ⟨hk.1.1.1.1.1.1, ⟨hk.1.1.1.1.2, ⟨hk.1.1.1.2, ⟨hk.1.1.2, ⟨hk.1.2, ⟨hk.2, ⟨hk.1.1.1.1.1.2.1, hk.1.1.1.1.1.2.2⟩⟩⟩⟩⟩⟩⟩)), (by (with_reducible repeat (first | apply Kd.R_alloc | apply Kd.R_drewN | apply Kd.R_drew)); exact HO139.out), (by (with_reducible repeat (first | apply Kd.R_alloc | apply Kd.R_drewN | apply Kd.R_drew)); exact Kd.R_mono HO142.out (fun _ hk => ⟨hk.1.1.1.1.1.1, ⟨hk.1.1.1.1.2, ⟨hk.1.1.1.2, ⟨hk.1.1.2, ⟨hk.1.2, ⟨hk.2, ⟨hk.1.1.1.1.1.2.1, hk.1.1.1.1.1.2.2⟩⟩⟩⟩⟩⟩⟩)), (by (with_reducible repeat (first | apply Kd.R_alloc | apply Kd.R_drewN | apply Kd.R_drew)); exact Kd.R_mono HO151.out (fun _ hk => ⟨hk.1.1.1.1.1.1.1.2, ⟨hk.1.1.1.1.1.1.2, ⟨hk.1.1.1.2, ⟨hk.1.1.2, ⟨hk.1.2, ⟨hk.2, ⟨hk.1.1.1.1.1.2, hk.1.1.1.1.2⟩⟩⟩⟩⟩⟩⟩)), (by (with_reducible repeat (first | apply Kd.R_alloc | apply Kd.R_drewN | apply Kd.R_drew)); exact Kd.R_mono HO155.out (fun _ hk => ⟨hk.1.1.1.1.1.1.1.2, ⟨hk.1.1.1.1.1.1.2, ⟨hk.1.1.1.1.1.2, ⟨hk.1.1.2, ⟨hk.1.2, ⟨hk.2, ⟨hk.1.1.1.1.2, hk.1.1.1.2⟩⟩⟩⟩⟩⟩⟩)), (by (with_reducible repeat (first | apply Kd.R_alloc | apply Kd.R_drewN | apply Kd.R_drew)); exact Kd.R_mono HO158.out (fun _ hk => ⟨hk.1.1.1.1.1.1.1.2, ⟨hk.1.1.1.1.1.1.2, ⟨hk.1.1.1.1.1.2, ⟨hk.1.1.1.1.2, ⟨hk.1.2, ⟨hk.2, ⟨hk.1.1.1.2, hk.1.1.2⟩⟩⟩⟩⟩⟩⟩)), (by (with_reducible repeat (first | apply Kd.R_alloc | apply Kd.R_drewN | apply Kd.R_drew)); exact Kd.R_mono HO162.out (fun _ hk => ⟨hk.1.1.1.1.1.1.1.2, ⟨hk.1.1.1.1.1.1.2, ⟨hk.1.1.1.1.1.2, ⟨hk.1.1.1.1.2, ⟨hk.1.1.1.2, ⟨hk.2, ⟨hk.1.1.2, hk.1.2⟩⟩⟩⟩⟩⟩⟩)), (by (with_reducible repeat (first | apply Kd.R_alloc | apply Kd.R_drewN | apply Kd.R_drew)); exact Kd.R_mono HO165.out (fun _ hk => ⟨hk.1.1.1.1.1.1.1.2, ⟨hk.1.1.1.1.1.1.2, ⟨hk.1.1.1.1.1.2, ⟨hk.1.1.1.1.2, ⟨hk.1.1.1.2, ⟨hk.1.1.2, ⟨hk.1.2, hk.2⟩⟩⟩⟩⟩⟩⟩)), (by (with_reducible repeat (first | refine blk_drewN ?_ _ | refine blk_drew ?_ | refine blk_alloc ?_ _)); exact BK147.out), (by (with_reducible repeat (first | refine blk_drewN ?_ _ | refine blk_drew ?_ | refine blk_alloc ?_ _)); exact BK148.out), (by repeat (first | (with_reducible first | exact HB.out | apply below_alloc | apply pw_below_drewN | apply below_drew1 | refine below_set ?_ GE147.out | refine below_set ?_ GE148.out) | exact HB.out))⟩)
                  · skip
                    refine Kd.R_lit_step k39 _ 39 ?hg (N := 59) ?hd (xs := ([(⟨(⟨#[97]⟩ : ByteArray), (⟨#[49]⟩ : ByteArray)⟩ : S39)] : List (S39))) (inner := [.string (⟨#[97]⟩ : ByteArray), .string (⟨#[49]⟩ : ByteArray)]) (ok := fun _ => True) (okp := fun _ => True) ?hr ?hp (fun _ hk => hk) trivial (Below.refl _ _) (Nat.le_refl _) (by simp) ?_; (case hd => rfl); (case hg => rfl); (case hr => first | (go_simp; done) | (go_simp; rfl)); (case hp => exact (Reps.c2 (show Kd.M k39 _ _ _ (⟨(⟨#[97]⟩ : ByteArray), (⟨#[49]⟩ : ByteArray)⟩ : S39) [.string (⟨#[97]⟩ : ByteArray), .string (⟨#[49]⟩ : ByteArray)] from (k39_mkM _ _ _ (⟨(⟨#[97]⟩ : ByteArray), (⟨#[49]⟩ : ByteArray)⟩ : S39) )) (Reps.none _ _)))
                    intro v164 w41 ho42 hb hg_ hnew_
                    clear hg_ hnew_
                    (first | rw [← Ny163.out] at ho42 | (simp only [Int.reduceToNat] at ho42; rw [← Ny163.out] at ho42))
                    have n0_ := Aside0.mk (Kd.R_elder' (by (with_reducible repeat (first | apply Kd.R_alloc | apply Kd.R_drewN | apply Kd.R_drew)); exact HO136.out) (Kd.R_base ho42) hb)
                    have n1_ := Aside0.mk (Kd.R_below (by (with_reducible repeat (first | apply Kd.R_alloc | apply Kd.R_drewN | apply Kd.R_drew)); exact HO139.out) hb)
                    have n2_ := Aside0.mk (Kd.R_elder' (by (with_reducible repeat (first | apply Kd.R_alloc | apply Kd.R_drewN | apply Kd.R_drew)); exact HO142.out) (Kd.R_base ho42) hb)
                    have n3_ := Aside0.mk (Kd.R_elder' (by (with_reducible repeat (first | apply Kd.R_alloc | apply Kd.R_drewN | apply Kd.R_drew)); exact HO151.out) (Kd.R_base ho42) hb)
                    have n4_ := Aside0.mk (Kd.R_elder' (by (with_reducible repeat (first | apply Kd.R_alloc | apply Kd.R_drewN | apply Kd.R_drew)); exact HO155.out) (Kd.R_base ho42) hb)
                    have n5_ := Aside0.mk (Kd.R_elder' (by (with_reducible repeat (first | apply Kd.R_alloc | apply Kd.R_drewN | apply Kd.R_drew)); exact HO158.out) (Kd.R_base ho42) hb)
                    have n6_ := Aside0.mk (Kd.R_lower (Kd.R_newB (Kd.R_newB (Kd.R_new' (Kd.R_new' (Kd.R_new' (Kd.R_new' (Kd.R_new' ho42 (Kd.R_lt (by (with_reducible repeat (first | apply Kd.R_alloc | apply Kd.R_drewN | apply Kd.R_drew)); exact HO136.out))) (Kd.R_lt (by (with_reducible repeat (first | apply Kd.R_alloc | apply Kd.R_drewN | apply Kd.R_drew)); exact HO142.out))) (Kd.R_lt (by (with_reducible repeat (first | apply Kd.R_alloc | apply Kd.R_drewN | apply Kd.R_drew)); exact HO151.out))) (Kd.R_lt (by (with_reducible repeat (first | apply Kd.R_alloc | apply Kd.R_drewN | apply Kd.R_drew)); exact HO155.out))) (Kd.R_lt (by (with_reducible repeat (first | apply Kd.R_alloc | apply Kd.R_drewN | apply Kd.R_drew)); exact HO158.out))) (g := gb147) (o := .cells #[.string (⟨#[97]⟩ : ByteArray), .string (⟨#[49]⟩ : ByteArray)] 39 (0, 0)) (by (with_reducible repeat (first | refine blk_drewN ?_ _ | refine blk_drew ?_ | refine blk_alloc ?_ _)); exact BK147.out)) (g := gb148) (o := .cells #[.string (⟨#[99]⟩ : ByteArray), .string (⟨#[52]⟩ : ByteArray)] 39 (0, 0)) (by (with_reducible repeat (first | refine blk_drewN ?_ _ | refine blk_drew ?_ | refine blk_alloc ?_ _)); exact BK148.out)) (below_size (by repeat (first | (with_reducible first | exact HB.out | apply below_alloc | apply pw_below_drewN | apply below_drew1 | refine below_set ?_ GE147.out | refine below_set ?_ GE148.out) | exact HB.out))))
                    have n7_ := Aside0.mk (blk_below (g := gb147) (o := .cells #[.string (⟨#[97]⟩ : ByteArray), .string (⟨#[49]⟩ : ByteArray)] 39 (0, 0)) (by (with_reducible repeat (first | refine blk_drewN ?_ _ | refine blk_drew ?_ | refine blk_alloc ?_ _)); exact BK147.out) hb)
                    have n8_ := Aside0.mk (blk_below (g := gb148) (o := .cells #[.string (⟨#[99]⟩ : ByteArray), .string (⟨#[52]⟩ : ByteArray)] 39 (0, 0)) (by (with_reducible repeat (first | refine blk_drewN ?_ _ | refine blk_drew ?_ | refine blk_alloc ?_ _)); exact BK148.out) hb)
                    have n9_ := Aside0.mk (below_step (by repeat (first | (with_reducible first | exact HB.out | apply below_alloc | apply pw_below_drewN | apply below_drew1 | refine below_set ?_ GE147.out | refine below_set ?_ GE148.out) | exact HB.out)) hb)
                    clear HO136
                    clear HO139
                    clear HO142
                    clear HO151
                    clear HO155
                    clear HO158
                    clear BK147
                    clear BK148
                    clear HB
                    have HO136 := n0_
                    have HO139 := n1_
                    have HO142 := n2_
                    have HO151 := n3_
                    have HO155 := n4_
                    have HO158 := n5_
                    have HO165 := n6_
                    have BK147 := n7_
                    have BK148 := n8_
                    have HB := n9_
                    clear n0_ n1_ n2_ n3_ n4_ n5_ n6_ n7_ n8_ n9_
                    clear hb ho42
                    refine hK.out _ _ ⟨(blk_cell BK147.out 0).trans rfl, (blk_cell BK147.out 1).trans rfl, (blk_cell BK148.out 0).trans rfl, (blk_cell BK148.out 1).trans rfl⟩ (fun hHeld => ?_)
                    clear hK K
                    refine norm_ (a' := ?_) ?_ ?_
                    rotate_left
                    · show Act.put _ (some 59) _ = _
                      simp only [Act.put, List.setIfInBounds_toArray, List.set_cons_zero, List.set_cons_succ, i64_w, i32_w]
                      rfl
                    refine one_ (i := 28) (N := some 57) #[true, true, true, true, true, true, true, true, true, true, true, true, true, true, true, true, true, true, true, true, true, true, true, true, true, true, true, true, true, true, true, false, false, false, false, false, false, false, false, false] rfl rfl (one_of HT_.out (by kernel_rfl)) (by decide) (fun K hK => ?_)
                    refine goes_ Try.func23 (by kernel_rfl) rfl #[.slice Ao23 t140.length co23, .string (⟨#[97]⟩ : ByteArray), .string (⟨#[99]⟩ : ByteArray), .int .i64 9] (by rfl) rfl rfl (by (try simp only [List.map_toArray, List.map_cons, List.map_nil]); first | done | rfl | (simp only [List.length_drop, List.length_take]; rfl)) ?_
                    with_reducible refine (omap_Scan.calls _ _ t140 (⟨#[97]⟩ : ByteArray) (⟨#[99]⟩ : ByteArray) 9 t160 _ ?side1 ?side2 A12.out).mono ?_
                    (case side1 => repeat (first | exact (Kd.R_reads' HO142.out).2.2 | (with_reducible refine Kd.C_alloc ?_ _) | (with_reducible refine Kd.C_drewN ?_ _) | (with_reducible refine Kd.C_drew ?_)))
                    (case side2 => exact (Kd.R_reads' HO142.out).2.1)
                    rintro e w43 ⟨v161, rfl, ho0, hb⟩
                    refine ⟨_, rfl, ?_⟩
                    have n0_ := Aside0.mk (Kd.R_elder' (by (with_reducible repeat (first | apply Kd.R_alloc | apply Kd.R_drewN | apply Kd.R_drew)); exact HO136.out) (Kd.R_base ho0) hb)
                    have n1_ := Aside0.mk (Kd.R_below (by (with_reducible repeat (first | apply Kd.R_alloc | apply Kd.R_drewN | apply Kd.R_drew)); exact HO139.out) hb)
                    have n2_ := Aside0.mk (Kd.R_elder' (by (with_reducible repeat (first | apply Kd.R_alloc | apply Kd.R_drewN | apply Kd.R_drew)); exact HO142.out) (Kd.R_base ho0) hb)
                    have n3_ := Aside0.mk (Kd.R_elder' (by (with_reducible repeat (first | apply Kd.R_alloc | apply Kd.R_drewN | apply Kd.R_drew)); exact HO151.out) (Kd.R_base ho0) hb)
                    have n4_ := Aside0.mk (Kd.R_elder' (by (with_reducible repeat (first | apply Kd.R_alloc | apply Kd.R_drewN | apply Kd.R_drew)); exact HO155.out) (Kd.R_base ho0) hb)
                    have n5_ := Aside0.mk (Kd.R_elder' (by (with_reducible repeat (first | apply Kd.R_alloc | apply Kd.R_drewN | apply Kd.R_drew)); exact HO158.out) (Kd.R_base ho0) hb)
                    have n6_ := Aside0.mk (Kd.R_elder' (by (with_reducible repeat (first | apply Kd.R_alloc | apply Kd.R_drewN | apply Kd.R_drew)); exact HO165.out) (Kd.R_base ho0) hb)
                    have n7_ := Aside0.mk (Kd.R_lower (Kd.R_newB (Kd.R_newB (Kd.R_new' (Kd.R_new' (Kd.R_new' (Kd.R_new' (Kd.R_new' (Kd.R_new' ho0 (Kd.R_lt (by (with_reducible repeat (first | apply Kd.R_alloc | apply Kd.R_drewN | apply Kd.R_drew)); exact HO136.out))) (Kd.R_lt (by (with_reducible repeat (first | apply Kd.R_alloc | apply Kd.R_drewN | apply Kd.R_drew)); exact HO142.out))) (Kd.R_lt (by (with_reducible repeat (first | apply Kd.R_alloc | apply Kd.R_drewN | apply Kd.R_drew)); exact HO151.out))) (Kd.R_lt (by (with_reducible repeat (first | apply Kd.R_alloc | apply Kd.R_drewN | apply Kd.R_drew)); exact HO155.out))) (Kd.R_lt (by (with_reducible repeat (first | apply Kd.R_alloc | apply Kd.R_drewN | apply Kd.R_drew)); exact HO158.out))) (Kd.R_lt (by (with_reducible repeat (first | apply Kd.R_alloc | apply Kd.R_drewN | apply Kd.R_drew)); exact HO165.out))) (g := gb147) (o := .cells #[.string (⟨#[97]⟩ : ByteArray), .string (⟨#[49]⟩ : ByteArray)] 39 (0, 0)) (by (with_reducible repeat (first | refine blk_drewN ?_ _ | refine blk_drew ?_ | refine blk_alloc ?_ _)); exact BK147.out)) (g := gb148) (o := .cells #[.string (⟨#[99]⟩ : ByteArray), .string (⟨#[52]⟩ : ByteArray)] 39 (0, 0)) (by (with_reducible repeat (first | refine blk_drewN ?_ _ | refine blk_drew ?_ | refine blk_alloc ?_ _)); exact BK148.out)) (below_size (by repeat (first | (with_reducible first | exact HB.out | apply below_alloc | apply pw_below_drewN | apply below_drew1 | refine below_set ?_ GE147.out | refine below_set ?_ GE148.out) | exact HB.out))))
                    have n8_ := Aside0.mk (blk_below (g := gb147) (o := .cells #[.string (⟨#[97]⟩ : ByteArray), .string (⟨#[49]⟩ : ByteArray)] 39 (0, 0)) (by (with_reducible repeat (first | refine blk_drewN ?_ _ | refine blk_drew ?_ | refine blk_alloc ?_ _)); exact BK147.out) hb)
                    have n9_ := Aside0.mk (blk_below (g := gb148) (o := .cells #[.string (⟨#[99]⟩ : ByteArray), .string (⟨#[52]⟩ : ByteArray)] 39 (0, 0)) (by (with_reducible repeat (first | refine blk_drewN ?_ _ | refine blk_drew ?_ | refine blk_alloc ?_ _)); exact BK148.out) hb)
                    have n10_ := Aside0.mk (below_step (by repeat (first | (with_reducible first | exact HB.out | apply below_alloc | apply pw_below_drewN | apply below_drew1 | refine below_set ?_ GE147.out | refine below_set ?_ GE148.out) | exact HB.out)) hb)
                    clear HO136
                    clear HO139
                    clear HO142
                    clear HO151
                    clear HO155
                    clear HO158
                    clear HO165
                    clear BK147
                    clear BK148
                    clear HB
                    have HO136 := n0_
                    have HO139 := n1_
                    have HO142 := n2_
                    have HO151 := n3_
                    have HO155 := n4_
                    have HO158 := n5_
                    have HO165 := n6_
                    have HO162 := n7_
                    have BK147 := n8_
                    have BK148 := n9_
                    have HB := n10_
                    clear n0_ n1_ n2_ n3_ n4_ n5_ n6_ n7_ n8_ n9_ n10_
                    (try clear hb)
                    (try clear hb2)
                    (try clear hk)
                    (try clear hi)
                    (try clear ho0)
                    refine hK.out _ _ ⟨(blk_cell BK147.out 0).trans rfl, (blk_cell BK147.out 1).trans rfl, (blk_cell BK148.out 0).trans rfl, (blk_cell BK148.out 1).trans rfl⟩ (fun hHeld => ?_)
                    clear hK K
                    refine norm_ (a' := ?_) ?_ ?_
                    rotate_left
                    · show Act.put _ (some 57) _ = _
                      simp only [Act.put, List.setIfInBounds_toArray, List.set_cons_zero, List.set_cons_succ, i64_w, i32_w]
                      rfl
                    exact norm_ (by simp only [putAll, Act.put, List.setIfInBounds_toArray, List.set_cons_zero, List.set_cons_succ]) (hCont (.slice Ao39 t153.length co39, .slice Ao40 y156.length co40, v161, v164) _ ⟨hHeld, (by (with_reducible repeat (first | apply Kd.R_alloc | apply Kd.R_drewN | apply Kd.R_drew)); exact Kd.R_mono HO136.out (fun _ hk => ⟨hk.1.1.1.1.1.1, ⟨hk.1.1.1.1.2, ⟨hk.1.1.1.2, ⟨hk.1.1.2, ⟨hk.2, ⟨hk.1.2, ⟨hk.1.1.1.1.1.2.1, hk.1.1.1.1.1.2.2⟩⟩⟩⟩⟩⟩⟩)), (by (with_reducible repeat (first | apply Kd.R_alloc | apply Kd.R_drewN | apply Kd.R_drew)); exact HO139.out), (by (with_reducible repeat (first | apply Kd.R_alloc | apply Kd.R_drewN | apply Kd.R_drew)); exact Kd.R_mono HO142.out (fun _ hk => ⟨hk.1.1.1.1.1.1, ⟨hk.1.1.1.1.2, ⟨hk.1.1.1.2, ⟨hk.1.1.2, ⟨hk.2, ⟨hk.1.2, ⟨hk.1.1.1.1.1.2.1, hk.1.1.1.1.1.2.2⟩⟩⟩⟩⟩⟩⟩)), (by (with_reducible repeat (first | apply Kd.R_alloc | apply Kd.R_drewN | apply Kd.R_drew)); exact Kd.R_mono HO151.out (fun _ hk => ⟨hk.1.1.1.1.1.1.1.2, ⟨hk.1.1.1.1.1.1.2, ⟨hk.1.1.1.2, ⟨hk.1.1.2, ⟨hk.2, ⟨hk.1.2, ⟨hk.1.1.1.1.1.2, hk.1.1.1.1.2⟩⟩⟩⟩⟩⟩⟩)), (by (with_reducible repeat (first | apply Kd.R_alloc | apply Kd.R_drewN | apply Kd.R_drew)); exact Kd.R_mono HO155.out (fun _ hk => ⟨hk.1.1.1.1.1.1.1.2, ⟨hk.1.1.1.1.1.1.2, ⟨hk.1.1.1.1.1.2, ⟨hk.1.1.2, ⟨hk.2, ⟨hk.1.2, ⟨hk.1.1.1.1.2, hk.1.1.1.2⟩⟩⟩⟩⟩⟩⟩)), (by (with_reducible repeat (first | apply Kd.R_alloc | apply Kd.R_drewN | apply Kd.R_drew)); exact Kd.R_mono HO158.out (fun _ hk => ⟨hk.1.1.1.1.1.1.1.2, ⟨hk.1.1.1.1.1.1.2, ⟨hk.1.1.1.1.1.2, ⟨hk.1.1.1.1.2, ⟨hk.2, ⟨hk.1.2, ⟨hk.1.1.1.2, hk.1.1.2⟩⟩⟩⟩⟩⟩⟩)), (by (with_reducible repeat (first | apply Kd.R_alloc | apply Kd.R_drewN | apply Kd.R_drew)); exact Kd.R_mono HO162.out (fun _ hk => ⟨hk.1.1.1.1.1.1.1.2, ⟨hk.1.1.1.1.1.1.2, ⟨hk.1.1.1.1.1.2, ⟨hk.1.1.1.1.2, ⟨hk.1.1.1.2, ⟨hk.1.1.2, ⟨hk.1.2, hk.2⟩⟩⟩⟩⟩⟩⟩)), (by (with_reducible repeat (first | apply Kd.R_alloc | apply Kd.R_drewN | apply Kd.R_drew)); exact Kd.R_mono HO165.out (fun _ hk => ⟨hk.1.1.1.1.1.1.1.2, ⟨hk.1.1.1.1.1.1.2, ⟨hk.1.1.1.1.1.2, ⟨hk.1.1.1.1.2, ⟨hk.1.1.1.2, ⟨hk.2, ⟨hk.1.1.2, hk.1.2⟩⟩⟩⟩⟩⟩⟩)), (by (with_reducible repeat (first | refine blk_drewN ?_ _ | refine blk_drew ?_ | refine blk_alloc ?_ _)); exact BK147.out), (by (with_reducible repeat (first | refine blk_drewN ?_ _ | refine blk_drew ?_ | refine blk_alloc ?_ _)); exact BK148.out), (by repeat (first | (with_reducible first | exact HB.out | apply below_alloc | apply pw_below_drewN | apply below_drew1 | refine below_set ?_ GE147.out | refine below_set ?_ GE148.out) | exact HB.out))⟩)
                · skip
                  refine Kd.R_lit_step k39 _ 39 ?hg (N := 51) ?hd (xs := ([(⟨(⟨#[99]⟩ : ByteArray), (⟨#[52]⟩ : ByteArray)⟩ : S39)] : List (S39))) (inner := [.string (⟨#[99]⟩ : ByteArray), .string (⟨#[52]⟩ : ByteArray)]) (ok := fun _ => True) (okp := fun _ => True) ?hr ?hp (fun _ hk => hk) trivial (Below.refl _ _) (Nat.le_refl _) (by simp) ?_; (case hd => rfl); (case hg => rfl); (case hr => first | (go_simp; done) | (go_simp; rfl)); (case hp => exact (Reps.c2 (show Kd.M k39 _ _ _ (⟨(⟨#[99]⟩ : ByteArray), (⟨#[52]⟩ : ByteArray)⟩ : S39) [.string (⟨#[99]⟩ : ByteArray), .string (⟨#[52]⟩ : ByteArray)] from (k39_mkM _ _ _ (⟨(⟨#[99]⟩ : ByteArray), (⟨#[52]⟩ : ByteArray)⟩ : S39) )) (Reps.none _ _)))
                  intro v157 w36 ho37 hb hg_ hnew_
                  clear hg_ hnew_
                  (first | rw [← Ny156.out] at ho37 | (simp only [Int.reduceToNat] at ho37; rw [← Ny156.out] at ho37))
                  have n0_ := Aside0.mk (Kd.R_elder' (by (with_reducible repeat (first | apply Kd.R_alloc | apply Kd.R_drewN | apply Kd.R_drew)); exact HO136.out) (Kd.R_base ho37) hb)
                  have n1_ := Aside0.mk (Kd.R_below (by (with_reducible repeat (first | apply Kd.R_alloc | apply Kd.R_drewN | apply Kd.R_drew)); exact HO139.out) hb)
                  have n2_ := Aside0.mk (Kd.R_elder' (by (with_reducible repeat (first | apply Kd.R_alloc | apply Kd.R_drewN | apply Kd.R_drew)); exact HO142.out) (Kd.R_base ho37) hb)
                  have n3_ := Aside0.mk (Kd.R_elder' (by (with_reducible repeat (first | apply Kd.R_alloc | apply Kd.R_drewN | apply Kd.R_drew)); exact HO151.out) (Kd.R_base ho37) hb)
                  have n4_ := Aside0.mk (Kd.R_lower (Kd.R_newB (Kd.R_newB (Kd.R_new' (Kd.R_new' (Kd.R_new' ho37 (Kd.R_lt (by (with_reducible repeat (first | apply Kd.R_alloc | apply Kd.R_drewN | apply Kd.R_drew)); exact HO136.out))) (Kd.R_lt (by (with_reducible repeat (first | apply Kd.R_alloc | apply Kd.R_drewN | apply Kd.R_drew)); exact HO142.out))) (Kd.R_lt (by (with_reducible repeat (first | apply Kd.R_alloc | apply Kd.R_drewN | apply Kd.R_drew)); exact HO151.out))) (g := gb147) (o := .cells #[.string (⟨#[97]⟩ : ByteArray), .string (⟨#[49]⟩ : ByteArray)] 39 (0, 0)) (by (with_reducible repeat (first | refine blk_drewN ?_ _ | refine blk_drew ?_ | refine blk_alloc ?_ _)); exact BK147.out)) (g := gb148) (o := .cells #[.string (⟨#[99]⟩ : ByteArray), .string (⟨#[52]⟩ : ByteArray)] 39 (0, 0)) (by (with_reducible repeat (first | refine blk_drewN ?_ _ | refine blk_drew ?_ | refine blk_alloc ?_ _)); exact BK148.out)) (below_size (by repeat (first | (with_reducible first | exact HB.out | apply below_alloc | apply pw_below_drewN | apply below_drew1 | refine below_set ?_ GE147.out | refine below_set ?_ GE148.out) | exact HB.out))))
                  have n5_ := Aside0.mk (blk_below (g := gb147) (o := .cells #[.string (⟨#[97]⟩ : ByteArray), .string (⟨#[49]⟩ : ByteArray)] 39 (0, 0)) (by (with_reducible repeat (first | refine blk_drewN ?_ _ | refine blk_drew ?_ | refine blk_alloc ?_ _)); exact BK147.out) hb)
                  have n6_ := Aside0.mk (blk_below (g := gb148) (o := .cells #[.string (⟨#[99]⟩ : ByteArray), .string (⟨#[52]⟩ : ByteArray)] 39 (0, 0)) (by (with_reducible repeat (first | refine blk_drewN ?_ _ | refine blk_drew ?_ | refine blk_alloc ?_ _)); exact BK148.out) hb)
                  have n7_ := Aside0.mk (below_step (by repeat (first | (with_reducible first | exact HB.out | apply below_alloc | apply pw_below_drewN | apply below_drew1 | refine below_set ?_ GE147.out | refine below_set ?_ GE148.out) | exact HB.out)) hb)
                  clear HO136
                  clear HO139
                  clear HO142
                  clear HO151
                  clear BK147
                  clear BK148
                  clear HB
                  have HO136 := n0_
                  have HO139 := n1_
                  have HO142 := n2_
                  have HO151 := n3_
                  have HO158 := n4_
                  have BK147 := n5_
                  have BK148 := n6_
                  have HB := n7_
                  clear n0_ n1_ n2_ n3_ n4_ n5_ n6_ n7_
                  clear hb ho37
                  refine hK.out _ _ ⟨(blk_cell BK147.out 0).trans rfl, (blk_cell BK147.out 1).trans rfl, (blk_cell BK148.out 0).trans rfl, (blk_cell BK148.out 1).trans rfl⟩ (fun hHeld => ?_)
                  clear hK K
                  refine norm_ (a' := ?_) ?_ ?_
                  rotate_left
                  · show Act.put _ (some 51) _ = _
                    simp only [Act.put, List.setIfInBounds_toArray, List.set_cons_zero, List.set_cons_succ, i64_w, i32_w]
                    rfl
                  refine one_ (i := 20) (N := some 49) #[true, true, true, true, true, true, true, true, true, true, true, true, true, true, true, true, true, true, true, true, true, true, true, false, false, false, false, false, false, false, false, false, false, false, false, false, false, false, false, false] rfl rfl (one_of HT_.out (by kernel_rfl)) (by decide) (fun K hK => ?_)
                  refine goes_ Try.func23 (by kernel_rfl) rfl #[.slice Ao23 t140.length co23, .string (⟨#[98]⟩ : ByteArray), .string (⟨#[]⟩ : ByteArray), .int .i64 9] (by rfl) rfl rfl (by (try simp only [List.map_toArray, List.map_cons, List.map_nil]); first | done | rfl | (simp only [List.length_drop, List.length_take]; rfl)) ?_
                  with_reducible refine (omap_Scan.calls _ _ t140 (⟨#[98]⟩ : ByteArray) (⟨#[]⟩ : ByteArray) 9 t153 _ ?side1 ?side2 A9.out).mono ?_
                  (case side1 => repeat (first | exact (Kd.R_reads' HO142.out).2.2 | (with_reducible refine Kd.C_alloc ?_ _) | (with_reducible refine Kd.C_drewN ?_ _) | (with_reducible refine Kd.C_drew ?_)))
                  (case side2 => exact (Kd.R_reads' HO142.out).2.1)
                  rintro e w38 ⟨v154, rfl, ho0, hb⟩
                  refine ⟨_, rfl, ?_⟩
                  have n0_ := Aside0.mk (Kd.R_elder' (by (with_reducible repeat (first | apply Kd.R_alloc | apply Kd.R_drewN | apply Kd.R_drew)); exact HO136.out) (Kd.R_base ho0) hb)
                  have n1_ := Aside0.mk (Kd.R_below (by (with_reducible repeat (first | apply Kd.R_alloc | apply Kd.R_drewN | apply Kd.R_drew)); exact HO139.out) hb)
                  have n2_ := Aside0.mk (Kd.R_elder' (by (with_reducible repeat (first | apply Kd.R_alloc | apply Kd.R_drewN | apply Kd.R_drew)); exact HO142.out) (Kd.R_base ho0) hb)
                  have n3_ := Aside0.mk (Kd.R_elder' (by (with_reducible repeat (first | apply Kd.R_alloc | apply Kd.R_drewN | apply Kd.R_drew)); exact HO151.out) (Kd.R_base ho0) hb)
                  have n4_ := Aside0.mk (Kd.R_elder' (by (with_reducible repeat (first | apply Kd.R_alloc | apply Kd.R_drewN | apply Kd.R_drew)); exact HO158.out) (Kd.R_base ho0) hb)
                  have n5_ := Aside0.mk (Kd.R_lower (Kd.R_newB (Kd.R_newB (Kd.R_new' (Kd.R_new' (Kd.R_new' (Kd.R_new' ho0 (Kd.R_lt (by (with_reducible repeat (first | apply Kd.R_alloc | apply Kd.R_drewN | apply Kd.R_drew)); exact HO136.out))) (Kd.R_lt (by (with_reducible repeat (first | apply Kd.R_alloc | apply Kd.R_drewN | apply Kd.R_drew)); exact HO142.out))) (Kd.R_lt (by (with_reducible repeat (first | apply Kd.R_alloc | apply Kd.R_drewN | apply Kd.R_drew)); exact HO151.out))) (Kd.R_lt (by (with_reducible repeat (first | apply Kd.R_alloc | apply Kd.R_drewN | apply Kd.R_drew)); exact HO158.out))) (g := gb147) (o := .cells #[.string (⟨#[97]⟩ : ByteArray), .string (⟨#[49]⟩ : ByteArray)] 39 (0, 0)) (by (with_reducible repeat (first | refine blk_drewN ?_ _ | refine blk_drew ?_ | refine blk_alloc ?_ _)); exact BK147.out)) (g := gb148) (o := .cells #[.string (⟨#[99]⟩ : ByteArray), .string (⟨#[52]⟩ : ByteArray)] 39 (0, 0)) (by (with_reducible repeat (first | refine blk_drewN ?_ _ | refine blk_drew ?_ | refine blk_alloc ?_ _)); exact BK148.out)) (below_size (by repeat (first | (with_reducible first | exact HB.out | apply below_alloc | apply pw_below_drewN | apply below_drew1 | refine below_set ?_ GE147.out | refine below_set ?_ GE148.out) | exact HB.out))))
                  have n6_ := Aside0.mk (blk_below (g := gb147) (o := .cells #[.string (⟨#[97]⟩ : ByteArray), .string (⟨#[49]⟩ : ByteArray)] 39 (0, 0)) (by (with_reducible repeat (first | refine blk_drewN ?_ _ | refine blk_drew ?_ | refine blk_alloc ?_ _)); exact BK147.out) hb)
                  have n7_ := Aside0.mk (blk_below (g := gb148) (o := .cells #[.string (⟨#[99]⟩ : ByteArray), .string (⟨#[52]⟩ : ByteArray)] 39 (0, 0)) (by (with_reducible repeat (first | refine blk_drewN ?_ _ | refine blk_drew ?_ | refine blk_alloc ?_ _)); exact BK148.out) hb)
                  have n8_ := Aside0.mk (below_step (by repeat (first | (with_reducible first | exact HB.out | apply below_alloc | apply pw_below_drewN | apply below_drew1 | refine below_set ?_ GE147.out | refine below_set ?_ GE148.out) | exact HB.out)) hb)
                  clear HO136
                  clear HO139
                  clear HO142
                  clear HO151
                  clear HO158
                  clear BK147
                  clear BK148
                  clear HB
                  have HO136 := n0_
                  have HO139 := n1_
                  have HO142 := n2_
                  have HO151 := n3_
                  have HO158 := n4_
                  have HO155 := n5_
                  have BK147 := n6_
                  have BK148 := n7_
                  have HB := n8_
                  clear n0_ n1_ n2_ n3_ n4_ n5_ n6_ n7_ n8_
                  (try clear hb)
                  (try clear hb2)
                  (try clear hk)
                  (try clear hi)
                  (try clear ho0)
                  obtain ⟨Ao39, co39, eo39⟩ := Kd.R_slice HO155.out
                  (first | subst eo39 | (injection eo39 with f1_ f2_ f3_; have f4_ := f1_.symm; have f5_ := f3_.symm; clear f1_ f2_ f3_; subst f4_; subst f5_))
                  obtain ⟨Ao40, co40, eo40⟩ := Kd.R_slice HO158.out
                  (first | subst eo40 | (injection eo40 with f1_ f2_ f3_; have f4_ := f1_.symm; have f5_ := f3_.symm; clear f1_ f2_ f3_; subst f4_; subst f5_))
                  refine hK.out _ _ ⟨(blk_cell BK147.out 0).trans rfl, (blk_cell BK147.out 1).trans rfl, (blk_cell BK148.out 0).trans rfl, (blk_cell BK148.out 1).trans rfl⟩ (fun hHeld => ?_)
                  clear hK K
                  refine norm_ (a' := ?_) ?_ ?_
                  rotate_left
                  · show Act.put _ (some 49) _ = _
                    simp only [Act.put, List.setIfInBounds_toArray, List.set_cons_zero, List.set_cons_succ, i64_w, i32_w]
                    rfl
                  refine one_ (i := 23) (N := some 52) #[true, true, true, true, true, true, true, true, true, true, true, true, true, true, true, true, true, true, true, true, true, true, true, true, false, false, false, false, false, false, false, false, false, false, false, false, false, false, false, false] rfl rfl (one_of HT_.out (by kernel_rfl)) (by decide) (fun K hK => ?_)
                  refine goesT1_ 47 (by rfl) Try.func20 (by kernel_rfl) rfl #[.slice Ao39 t153.length co39, .slice Ao40 y156.length co40] (by rfl) rfl rfl (by (try simp only [List.map_toArray, List.map_cons, List.map_nil]); first | done | rfl | (simp only [List.length_drop, List.length_take]; rfl)) ?_
                  with_reducible refine (ratlinelaw11_Pairs.calls k _ _ t153 _ _ y156 true _ ?side1 ?side2 ?side3 ?side4 A10.out).mono ?_
                  (case side1 => repeat (first | exact (Kd.R_reads' HO155.out).2.2 | (with_reducible refine Kd.C_alloc ?_ _) | (with_reducible refine Kd.C_drewN ?_ _) | (with_reducible refine Kd.C_drew ?_)))
                  (case side2 => exact (Kd.R_reads' HO155.out).2.1)
                  (case side3 => repeat (first | exact (Kd.R_reads' HO158.out).2.2 | (with_reducible refine Kd.C_alloc ?_ _) | (with_reducible refine Kd.C_drewN ?_ _) | (with_reducible refine Kd.C_drew ?_)))
                  (case side4 => exact (Kd.R_reads' HO158.out).2.1)
                  rintro e w' ⟨rfl, ⟨nd, rfl⟩⟩
                  refine ⟨_, rfl, ?_⟩
                  refine hK.out _ _ ⟨(blk_cell BK147.out 0).trans rfl, (blk_cell BK147.out 1).trans rfl, (blk_cell BK148.out 0).trans rfl, (blk_cell BK148.out 1).trans rfl⟩ (fun hHeld => ?_)
                  clear hK K
                  refine norm_ (a' := ?_) ?_ ?_
                  rotate_left
                  · show Act.put _ (some 52) _ = _
                    simp only [Act.put, List.setIfInBounds_toArray, List.set_cons_zero, List.set_cons_succ, i64_w, i32_w]
                    rfl
                  refine pure_ (i := 24) (N := some 53) (v := ?_) (a' := ?_) #[true, true, true, true, true, true, true, true, true, true, true, true, true, true, true, true, true, true, true, true, true, true, true, true, true, false, false, false, false, false, false, false, false, false, false, false, false, false, false, false] rfl rfl (any_of HT_.out (by kernel_rfl)) (fun _ _ _ h => h) (Or.inl ⟨by rfl, ?_⟩) ?_ ?_
                  rotate_left
                  · intro w'
                    go_simp
                    with_reducible rfl
                  rotate_left
                  · simp only [Act.put, List.setIfInBounds_toArray, List.set_cons_zero, List.set_cons_succ, i64_w, i32_w]
                    rfl
                  refine pure_ (i := 25) (N := some 54) (v := ?_) (a' := ?_) #[true, true, true, true, true, true, true, true, true, true, true, true, true, true, true, true, true, true, true, true, true, true, true, true, true, true, false, false, false, false, false, false, false, false, false, false, false, false, false, false] rfl rfl (any_of HT_.out (by kernel_rfl)) (fun _ _ _ h => h) (Or.inl ⟨by rfl, ?_⟩) ?_ ?_
                  rotate_left
                  · intro w'
                    go_simp
                    with_reducible rfl
                  rotate_left
                  · simp only [Act.put, List.setIfInBounds_toArray, List.set_cons_zero, List.set_cons_succ, i64_w, i32_w]
                    rfl
                  refine pure_ (i := 26) (N := some 55) (v := ?_) (a' := ?_) #[true, true, true, true, true, true, true, true, true, true, true, true, true, true, true, true, true, true, true, true, true, true, true, true, true, true, true, false, false, false, false, false, false, false, false, false, false, false, false, false] rfl rfl (any_of HT_.out (by kernel_rfl)) (fun _ _ _ h => h) (Or.inl ⟨by rfl, ?_⟩) ?_ ?_
                  rotate_left
                  · intro w'
                    go_simp
                    with_reducible rfl
                  rotate_left
                  · simp only [Act.put, List.setIfInBounds_toArray, List.set_cons_zero, List.set_cons_succ, i64_w, i32_w]
                    rfl
                  refine pure_ (i := 27) (N := some 56) (v := ?_) (a' := ?_) #[true, true, true, true, true, true, true, true, true, true, true, true, true, true, true, true, true, true, true, true, true, true, true, true, true, true, true, true, false, false, false, false, false, false, false, false, false, false, false, false] rfl rfl (any_of HT_.out (by kernel_rfl)) (fun _ _ _ h => h) (Or.inl ⟨by rfl, ?_⟩) ?_ ?_
                  rotate_left
                  · intro w'
                    go_simp
                    with_reducible rfl
                  rotate_left
                  · simp only [Act.put, List.setIfInBounds_toArray, List.set_cons_zero, List.set_cons_succ, i64_w, i32_w]
                    rfl
                  refine take_ (i := 29) (N := some 58) (v := ?_) (a' := ?_) #[true, true, true, true, true, true, true, true, true, true, true, true, true, true, true, true, true, true, true, true, true, true, true, true, true, true, true, true, false, true, false, false, false, false, false, false, false, false, false, false] rfl rfl (take_ofW HT_.out HW_.out (by kernel_rfl)) (fun _ _ _ h => h) (Or.inl ⟨by rfl, ?_⟩) hHeld ?_ ?_
                  rotate_left
                  · rintro w' ⟨s0, s1, s2, s3⟩
                    go_simp
                    with_reducible rfl
                  rotate_left
                  · simp only [Act.put, List.setIfInBounds_toArray, List.set_cons_zero, List.set_cons_succ, i64_w, i32_w]
                    rfl
                  refine two_ (i := 28) (j := 30) (Ni := some 57) (Nj := some 59) #[true, true, true, true, true, true, true, true, true, true, true, true, true, true, true, true, true, true, true, true, true, true, true, true, true, true, true, true, true, true, false, false, false, false, false, false, false, false, false, false] #[true, true, true, true, true, true, true, true, true, true, true, true, true, true, true, true, true, true, true, true, true, true, true, true, true, true, true, true, false, true, true, false, false, false, false, false, false, false, false, false] rfl rfl rfl rfl (two_of HT_.out (by kernel_rfl)) (by decide) (by decide) (fun K hK => ?_) (fun K hK => ?_)
                  · skip
                    refine goes_ Try.func23 (by kernel_rfl) rfl #[.slice Ao23 t140.length co23, .string (⟨#[97]⟩ : ByteArray), .string (⟨#[99]⟩ : ByteArray), .int .i64 9] (by rfl) rfl rfl (by (try simp only [List.map_toArray, List.map_cons, List.map_nil]); first | done | rfl | (simp only [List.length_drop, List.length_take]; rfl)) ?_
                    with_reducible refine (omap_Scan.calls _ _ t140 (⟨#[97]⟩ : ByteArray) (⟨#[99]⟩ : ByteArray) 9 t160 _ ?side1 ?side2 A12.out).mono ?_
                    (case side1 => repeat (first | exact (Kd.R_reads' HO142.out).2.2 | (with_reducible refine Kd.C_alloc ?_ _) | (with_reducible refine Kd.C_drewN ?_ _) | (with_reducible refine Kd.C_drew ?_)))
                    (case side2 => exact (Kd.R_reads' HO142.out).2.1)
                    rintro e w41 ⟨v161, rfl, ho0, hb⟩
                    refine ⟨_, rfl, ?_⟩
                    have n0_ := Aside0.mk (Kd.R_elder' (by (with_reducible repeat (first | apply Kd.R_alloc | apply Kd.R_drewN | apply Kd.R_drew)); exact HO136.out) (Kd.R_base ho0) hb)
                    have n1_ := Aside0.mk (Kd.R_below (by (with_reducible repeat (first | apply Kd.R_alloc | apply Kd.R_drewN | apply Kd.R_drew)); exact HO139.out) hb)
                    have n2_ := Aside0.mk (Kd.R_elder' (by (with_reducible repeat (first | apply Kd.R_alloc | apply Kd.R_drewN | apply Kd.R_drew)); exact HO142.out) (Kd.R_base ho0) hb)
                    have n3_ := Aside0.mk (Kd.R_elder' (by (with_reducible repeat (first | apply Kd.R_alloc | apply Kd.R_drewN | apply Kd.R_drew)); exact HO151.out) (Kd.R_base ho0) hb)
                    have n4_ := Aside0.mk (Kd.R_elder' (by (with_reducible repeat (first | apply Kd.R_alloc | apply Kd.R_drewN | apply Kd.R_drew)); exact HO158.out) (Kd.R_base ho0) hb)
                    have n5_ := Aside0.mk (Kd.R_elder' (by (with_reducible repeat (first | apply Kd.R_alloc | apply Kd.R_drewN | apply Kd.R_drew)); exact HO155.out) (Kd.R_base ho0) hb)
                    have n6_ := Aside0.mk (Kd.R_lower (Kd.R_newB (Kd.R_newB (Kd.R_new' (Kd.R_new' (Kd.R_new' (Kd.R_new' (Kd.R_new' ho0 (Kd.R_lt (by (with_reducible repeat (first | apply Kd.R_alloc | apply Kd.R_drewN | apply Kd.R_drew)); exact HO136.out))) (Kd.R_lt (by (with_reducible repeat (first | apply Kd.R_alloc | apply Kd.R_drewN | apply Kd.R_drew)); exact HO142.out))) (Kd.R_lt (by (with_reducible repeat (first | apply Kd.R_alloc | apply Kd.R_drewN | apply Kd.R_drew)); exact HO151.out))) (Kd.R_lt (by (with_reducible repeat (first | apply Kd.R_alloc | apply Kd.R_drewN | apply Kd.R_drew)); exact HO158.out))) (Kd.R_lt (by (with_reducible repeat (first | apply Kd.R_alloc | apply Kd.R_drewN | apply Kd.R_drew)); exact HO155.out))) (g := gb147) (o := .cells #[.string (⟨#[97]⟩ : ByteArray), .string (⟨#[49]⟩ : ByteArray)] 39 (0, 0)) (by (with_reducible repeat (first | refine blk_drewN ?_ _ | refine blk_drew ?_ | refine blk_alloc ?_ _)); exact BK147.out)) (g := gb148) (o := .cells #[.string (⟨#[99]⟩ : ByteArray), .string (⟨#[52]⟩ : ByteArray)] 39 (0, 0)) (by (with_reducible repeat (first | refine blk_drewN ?_ _ | refine blk_drew ?_ | refine blk_alloc ?_ _)); exact BK148.out)) (below_size (by repeat (first | (with_reducible first | exact HB.out | apply below_alloc | apply pw_below_drewN | apply below_drew1 | refine below_set ?_ GE147.out | refine below_set ?_ GE148.out) | exact HB.out))))
                    have n7_ := Aside0.mk (blk_below (g := gb147) (o := .cells #[.string (⟨#[97]⟩ : ByteArray), .string (⟨#[49]⟩ : ByteArray)] 39 (0, 0)) (by (with_reducible repeat (first | refine blk_drewN ?_ _ | refine blk_drew ?_ | refine blk_alloc ?_ _)); exact BK147.out) hb)
                    have n8_ := Aside0.mk (blk_below (g := gb148) (o := .cells #[.string (⟨#[99]⟩ : ByteArray), .string (⟨#[52]⟩ : ByteArray)] 39 (0, 0)) (by (with_reducible repeat (first | refine blk_drewN ?_ _ | refine blk_drew ?_ | refine blk_alloc ?_ _)); exact BK148.out) hb)
                    have n9_ := Aside0.mk (below_step (by repeat (first | (with_reducible first | exact HB.out | apply below_alloc | apply pw_below_drewN | apply below_drew1 | refine below_set ?_ GE147.out | refine below_set ?_ GE148.out) | exact HB.out)) hb)
                    clear HO136
                    clear HO139
                    clear HO142
                    clear HO151
                    clear HO158
                    clear HO155
                    clear BK147
                    clear BK148
                    clear HB
                    have HO136 := n0_
                    have HO139 := n1_
                    have HO142 := n2_
                    have HO151 := n3_
                    have HO158 := n4_
                    have HO155 := n5_
                    have HO162 := n6_
                    have BK147 := n7_
                    have BK148 := n8_
                    have HB := n9_
                    clear n0_ n1_ n2_ n3_ n4_ n5_ n6_ n7_ n8_ n9_
                    (try clear hb)
                    (try clear hb2)
                    (try clear hk)
                    (try clear hi)
                    (try clear ho0)
                    refine hK.out _ _ ⟨(blk_cell BK147.out 0).trans rfl, (blk_cell BK147.out 1).trans rfl, (blk_cell BK148.out 0).trans rfl, (blk_cell BK148.out 1).trans rfl⟩ (fun hHeld => ?_)
                    clear hK K
                    refine norm_ (a' := ?_) ?_ ?_
                    rotate_left
                    · show Act.put _ (some 57) _ = _
                      simp only [Act.put, List.setIfInBounds_toArray, List.set_cons_zero, List.set_cons_succ, i64_w, i32_w]
                      rfl
                    refine one_ (i := 30) (N := some 59) #[true, true, true, true, true, true, true, true, true, true, true, true, true, true, true, true, true, true, true, true, true, true, true, true, true, true, true, true, true, true, true, false, false, false, false, false, false, false, false, false] rfl rfl (one_of HT_.out (by kernel_rfl)) (by decide) (fun K hK => ?_)
                    refine Kd.R_lit_step k39 _ 39 ?hg (N := 59) ?hd (xs := ([(⟨(⟨#[97]⟩ : ByteArray), (⟨#[49]⟩ : ByteArray)⟩ : S39)] : List (S39))) (inner := [.string (⟨#[97]⟩ : ByteArray), .string (⟨#[49]⟩ : ByteArray)]) (ok := fun _ => True) (okp := fun _ => True) ?hr ?hp (fun _ hk => hk) trivial (Below.refl _ _) (Nat.le_refl _) (by simp) ?_; (case hd => rfl); (case hg => rfl); (case hr => first | (go_simp; done) | (go_simp; rfl)); (case hp => exact (Reps.c2 (show Kd.M k39 _ _ _ (⟨(⟨#[97]⟩ : ByteArray), (⟨#[49]⟩ : ByteArray)⟩ : S39) [.string (⟨#[97]⟩ : ByteArray), .string (⟨#[49]⟩ : ByteArray)] from (k39_mkM _ _ _ (⟨(⟨#[97]⟩ : ByteArray), (⟨#[49]⟩ : ByteArray)⟩ : S39) )) (Reps.none _ _)))
                    intro v164 w42 ho43 hb hg_ hnew_
                    clear hg_ hnew_
                    (first | rw [← Ny163.out] at ho43 | (simp only [Int.reduceToNat] at ho43; rw [← Ny163.out] at ho43))
                    have n0_ := Aside0.mk (Kd.R_elder' (by (with_reducible repeat (first | apply Kd.R_alloc | apply Kd.R_drewN | apply Kd.R_drew)); exact HO136.out) (Kd.R_base ho43) hb)
                    have n1_ := Aside0.mk (Kd.R_below (by (with_reducible repeat (first | apply Kd.R_alloc | apply Kd.R_drewN | apply Kd.R_drew)); exact HO139.out) hb)
                    have n2_ := Aside0.mk (Kd.R_elder' (by (with_reducible repeat (first | apply Kd.R_alloc | apply Kd.R_drewN | apply Kd.R_drew)); exact HO142.out) (Kd.R_base ho43) hb)
                    have n3_ := Aside0.mk (Kd.R_elder' (by (with_reducible repeat (first | apply Kd.R_alloc | apply Kd.R_drewN | apply Kd.R_drew)); exact HO151.out) (Kd.R_base ho43) hb)
                    have n4_ := Aside0.mk (Kd.R_elder' (by (with_reducible repeat (first | apply Kd.R_alloc | apply Kd.R_drewN | apply Kd.R_drew)); exact HO158.out) (Kd.R_base ho43) hb)
                    have n5_ := Aside0.mk (Kd.R_elder' (by (with_reducible repeat (first | apply Kd.R_alloc | apply Kd.R_drewN | apply Kd.R_drew)); exact HO155.out) (Kd.R_base ho43) hb)
                    have n6_ := Aside0.mk (Kd.R_elder' (by (with_reducible repeat (first | apply Kd.R_alloc | apply Kd.R_drewN | apply Kd.R_drew)); exact HO162.out) (Kd.R_base ho43) hb)
                    have n7_ := Aside0.mk (Kd.R_lower (Kd.R_newB (Kd.R_newB (Kd.R_new' (Kd.R_new' (Kd.R_new' (Kd.R_new' (Kd.R_new' (Kd.R_new' ho43 (Kd.R_lt (by (with_reducible repeat (first | apply Kd.R_alloc | apply Kd.R_drewN | apply Kd.R_drew)); exact HO136.out))) (Kd.R_lt (by (with_reducible repeat (first | apply Kd.R_alloc | apply Kd.R_drewN | apply Kd.R_drew)); exact HO142.out))) (Kd.R_lt (by (with_reducible repeat (first | apply Kd.R_alloc | apply Kd.R_drewN | apply Kd.R_drew)); exact HO151.out))) (Kd.R_lt (by (with_reducible repeat (first | apply Kd.R_alloc | apply Kd.R_drewN | apply Kd.R_drew)); exact HO158.out))) (Kd.R_lt (by (with_reducible repeat (first | apply Kd.R_alloc | apply Kd.R_drewN | apply Kd.R_drew)); exact HO155.out))) (Kd.R_lt (by (with_reducible repeat (first | apply Kd.R_alloc | apply Kd.R_drewN | apply Kd.R_drew)); exact HO162.out))) (g := gb147) (o := .cells #[.string (⟨#[97]⟩ : ByteArray), .string (⟨#[49]⟩ : ByteArray)] 39 (0, 0)) (by (with_reducible repeat (first | refine blk_drewN ?_ _ | refine blk_drew ?_ | refine blk_alloc ?_ _)); exact BK147.out)) (g := gb148) (o := .cells #[.string (⟨#[99]⟩ : ByteArray), .string (⟨#[52]⟩ : ByteArray)] 39 (0, 0)) (by (with_reducible repeat (first | refine blk_drewN ?_ _ | refine blk_drew ?_ | refine blk_alloc ?_ _)); exact BK148.out)) (below_size (by repeat (first | (with_reducible first | exact HB.out | apply below_alloc | apply pw_below_drewN | apply below_drew1 | refine below_set ?_ GE147.out | refine below_set ?_ GE148.out) | exact HB.out))))
                    have n8_ := Aside0.mk (blk_below (g := gb147) (o := .cells #[.string (⟨#[97]⟩ : ByteArray), .string (⟨#[49]⟩ : ByteArray)] 39 (0, 0)) (by (with_reducible repeat (first | refine blk_drewN ?_ _ | refine blk_drew ?_ | refine blk_alloc ?_ _)); exact BK147.out) hb)
                    have n9_ := Aside0.mk (blk_below (g := gb148) (o := .cells #[.string (⟨#[99]⟩ : ByteArray), .string (⟨#[52]⟩ : ByteArray)] 39 (0, 0)) (by (with_reducible repeat (first | refine blk_drewN ?_ _ | refine blk_drew ?_ | refine blk_alloc ?_ _)); exact BK148.out) hb)
                    have n10_ := Aside0.mk (below_step (by repeat (first | (with_reducible first | exact HB.out | apply below_alloc | apply pw_below_drewN | apply below_drew1 | refine below_set ?_ GE147.out | refine below_set ?_ GE148.out) | exact HB.out)) hb)
                    clear HO136
                    clear HO139
                    clear HO142
                    clear HO151
                    clear HO158
                    clear HO155
                    clear HO162
                    clear BK147
                    clear BK148
                    clear HB
                    have HO136 := n0_
                    have HO139 := n1_
                    have HO142 := n2_
                    have HO151 := n3_
                    have HO158 := n4_
                    have HO155 := n5_
                    have HO162 := n6_
                    have HO165 := n7_
                    have BK147 := n8_
                    have BK148 := n9_
                    have HB := n10_
                    clear n0_ n1_ n2_ n3_ n4_ n5_ n6_ n7_ n8_ n9_ n10_
                    clear hb ho43
                    refine hK.out _ _ ⟨(blk_cell BK147.out 0).trans rfl, (blk_cell BK147.out 1).trans rfl, (blk_cell BK148.out 0).trans rfl, (blk_cell BK148.out 1).trans rfl⟩ (fun hHeld => ?_)
                    clear hK K
                    refine norm_ (a' := ?_) ?_ ?_
                    rotate_left
                    · show Act.put _ (some 59) _ = _
                      simp only [Act.put, List.setIfInBounds_toArray, List.set_cons_zero, List.set_cons_succ, i64_w, i32_w]
                      rfl
                    exact norm_ (by simp only [putAll, Act.put, List.setIfInBounds_toArray, List.set_cons_zero, List.set_cons_succ]) (hCont (.slice Ao39 t153.length co39, .slice Ao40 y156.length co40, v161, v164) _ ⟨hHeld, (by (with_reducible repeat (first | apply Kd.R_alloc | apply Kd.R_drewN | apply Kd.R_drew)); exact Kd.R_mono HO136.out (fun _ hk => ⟨hk.1.1.1.1.1.1, ⟨hk.1.1.1.1.2, ⟨hk.1.1.2, ⟨hk.1.1.1.2, ⟨hk.1.2, ⟨hk.2, ⟨hk.1.1.1.1.1.2.1, hk.1.1.1.1.1.2.2⟩⟩⟩⟩⟩⟩⟩)), (by (with_reducible repeat (first | apply Kd.R_alloc | apply Kd.R_drewN | apply Kd.R_drew)); exact HO139.out), (by (with_reducible repeat (first | apply Kd.R_alloc | apply Kd.R_drewN | apply Kd.R_drew)); exact Kd.R_mono HO142.out (fun _ hk => ⟨hk.1.1.1.1.1.1, ⟨hk.1.1.1.1.2, ⟨hk.1.1.2, ⟨hk.1.1.1.2, ⟨hk.1.2, ⟨hk.2, ⟨hk.1.1.1.1.1.2.1, hk.1.1.1.1.1.2.2⟩⟩⟩⟩⟩⟩⟩)), (by (with_reducible repeat (first | apply Kd.R_alloc | apply Kd.R_drewN | apply Kd.R_drew)); exact Kd.R_mono HO151.out (fun _ hk => ⟨hk.1.1.1.1.1.1.1.2, ⟨hk.1.1.1.1.1.1.2, ⟨hk.1.1.2, ⟨hk.1.1.1.2, ⟨hk.1.2, ⟨hk.2, ⟨hk.1.1.1.1.1.2, hk.1.1.1.1.2⟩⟩⟩⟩⟩⟩⟩)), (by (with_reducible repeat (first | apply Kd.R_alloc | apply Kd.R_drewN | apply Kd.R_drew)); exact Kd.R_mono HO155.out (fun _ hk => ⟨hk.1.1.1.1.1.1.1.2, ⟨hk.1.1.1.1.1.1.2, ⟨hk.1.1.1.1.1.2, ⟨hk.1.1.1.1.2, ⟨hk.1.2, ⟨hk.2, ⟨hk.1.1.1.2, hk.1.1.2⟩⟩⟩⟩⟩⟩⟩)), (by (with_reducible repeat (first | apply Kd.R_alloc | apply Kd.R_drewN | apply Kd.R_drew)); exact Kd.R_mono HO158.out (fun _ hk => ⟨hk.1.1.1.1.1.1.1.2, ⟨hk.1.1.1.1.1.1.2, ⟨hk.1.1.1.1.1.2, ⟨hk.1.1.2, ⟨hk.1.2, ⟨hk.2, ⟨hk.1.1.1.1.2, hk.1.1.1.2⟩⟩⟩⟩⟩⟩⟩)), (by (with_reducible repeat (first | apply Kd.R_alloc | apply Kd.R_drewN | apply Kd.R_drew)); exact Kd.R_mono HO162.out (fun _ hk => ⟨hk.1.1.1.1.1.1.1.2, ⟨hk.1.1.1.1.1.1.2, ⟨hk.1.1.1.1.1.2, ⟨hk.1.1.1.2, ⟨hk.1.1.1.1.2, ⟨hk.2, ⟨hk.1.1.2, hk.1.2⟩⟩⟩⟩⟩⟩⟩)), (by (with_reducible repeat (first | apply Kd.R_alloc | apply Kd.R_drewN | apply Kd.R_drew)); exact Kd.R_mono HO165.out (fun _ hk => ⟨hk.1.1.1.1.1.1.1.2, ⟨hk.1.1.1.1.1.1.2, ⟨hk.1.1.1.1.1.2, ⟨hk.1.1.1.2, ⟨hk.1.1.1.1.2, ⟨hk.1.1.2, ⟨hk.1.2, hk.2⟩⟩⟩⟩⟩⟩⟩)), (by (with_reducible repeat (first | refine blk_drewN ?_ _ | refine blk_drew ?_ | refine blk_alloc ?_ _)); exact BK147.out), (by (with_reducible repeat (first | refine blk_drewN ?_ _ | refine blk_drew ?_ | refine blk_alloc ?_ _)); exact BK148.out), (by repeat (first | (with_reducible first | exact HB.out | apply below_alloc | apply pw_below_drewN | apply below_drew1 | refine below_set ?_ GE147.out | refine below_set ?_ GE148.out) | exact HB.out))⟩)
                  · skip
                    refine Kd.R_lit_step k39 _ 39 ?hg (N := 59) ?hd (xs := ([(⟨(⟨#[97]⟩ : ByteArray), (⟨#[49]⟩ : ByteArray)⟩ : S39)] : List (S39))) (inner := [.string (⟨#[97]⟩ : ByteArray), .string (⟨#[49]⟩ : ByteArray)]) (ok := fun _ => True) (okp := fun _ => True) ?hr ?hp (fun _ hk => hk) trivial (Below.refl _ _) (Nat.le_refl _) (by simp) ?_; (case hd => rfl); (case hg => rfl); (case hr => first | (go_simp; done) | (go_simp; rfl)); (case hp => exact (Reps.c2 (show Kd.M k39 _ _ _ (⟨(⟨#[97]⟩ : ByteArray), (⟨#[49]⟩ : ByteArray)⟩ : S39) [.string (⟨#[97]⟩ : ByteArray), .string (⟨#[49]⟩ : ByteArray)] from (k39_mkM _ _ _ (⟨(⟨#[97]⟩ : ByteArray), (⟨#[49]⟩ : ByteArray)⟩ : S39) )) (Reps.none _ _)))
                    intro v164 w41 ho42 hb hg_ hnew_
                    clear hg_ hnew_
                    (first | rw [← Ny163.out] at ho42 | (simp only [Int.reduceToNat] at ho42; rw [← Ny163.out] at ho42))
                    have n0_ := Aside0.mk (Kd.R_elder' (by (with_reducible repeat (first | apply Kd.R_alloc | apply Kd.R_drewN | apply Kd.R_drew)); exact HO136.out) (Kd.R_base ho42) hb)
                    have n1_ := Aside0.mk (Kd.R_below (by (with_reducible repeat (first | apply Kd.R_alloc | apply Kd.R_drewN | apply Kd.R_drew)); exact HO139.out) hb)
                    have n2_ := Aside0.mk (Kd.R_elder' (by (with_reducible repeat (first | apply Kd.R_alloc | apply Kd.R_drewN | apply Kd.R_drew)); exact HO142.out) (Kd.R_base ho42) hb)
                    have n3_ := Aside0.mk (Kd.R_elder' (by (with_reducible repeat (first | apply Kd.R_alloc | apply Kd.R_drewN | apply Kd.R_drew)); exact HO151.out) (Kd.R_base ho42) hb)
                    have n4_ := Aside0.mk (Kd.R_elder' (by (with_reducible repeat (first | apply Kd.R_alloc | apply Kd.R_drewN | apply Kd.R_drew)); exact HO158.out) (Kd.R_base ho42) hb)
                    have n5_ := Aside0.mk (Kd.R_elder' (by (with_reducible repeat (first | apply Kd.R_alloc | apply Kd.R_drewN | apply Kd.R_drew)); exact HO155.out) (Kd.R_base ho42) hb)
                    have n6_ := Aside0.mk (Kd.R_lower (Kd.R_newB (Kd.R_newB (Kd.R_new' (Kd.R_new' (Kd.R_new' (Kd.R_new' (Kd.R_new' ho42 (Kd.R_lt (by (with_reducible repeat (first | apply Kd.R_alloc | apply Kd.R_drewN | apply Kd.R_drew)); exact HO136.out))) (Kd.R_lt (by (with_reducible repeat (first | apply Kd.R_alloc | apply Kd.R_drewN | apply Kd.R_drew)); exact HO142.out))) (Kd.R_lt (by (with_reducible repeat (first | apply Kd.R_alloc | apply Kd.R_drewN | apply Kd.R_drew)); exact HO151.out))) (Kd.R_lt (by (with_reducible repeat (first | apply Kd.R_alloc | apply Kd.R_drewN | apply Kd.R_drew)); exact HO158.out))) (Kd.R_lt (by (with_reducible repeat (first | apply Kd.R_alloc | apply Kd.R_drewN | apply Kd.R_drew)); exact HO155.out))) (g := gb147) (o := .cells #[.string (⟨#[97]⟩ : ByteArray), .string (⟨#[49]⟩ : ByteArray)] 39 (0, 0)) (by (with_reducible repeat (first | refine blk_drewN ?_ _ | refine blk_drew ?_ | refine blk_alloc ?_ _)); exact BK147.out)) (g := gb148) (o := .cells #[.string (⟨#[99]⟩ : ByteArray), .string (⟨#[52]⟩ : ByteArray)] 39 (0, 0)) (by (with_reducible repeat (first | refine blk_drewN ?_ _ | refine blk_drew ?_ | refine blk_alloc ?_ _)); exact BK148.out)) (below_size (by repeat (first | (with_reducible first | exact HB.out | apply below_alloc | apply pw_below_drewN | apply below_drew1 | refine below_set ?_ GE147.out | refine below_set ?_ GE148.out) | exact HB.out))))
                    have n7_ := Aside0.mk (blk_below (g := gb147) (o := .cells #[.string (⟨#[97]⟩ : ByteArray), .string (⟨#[49]⟩ : ByteArray)] 39 (0, 0)) (by (with_reducible repeat (first | refine blk_drewN ?_ _ | refine blk_drew ?_ | refine blk_alloc ?_ _)); exact BK147.out) hb)
                    have n8_ := Aside0.mk (blk_below (g := gb148) (o := .cells #[.string (⟨#[99]⟩ : ByteArray), .string (⟨#[52]⟩ : ByteArray)] 39 (0, 0)) (by (with_reducible repeat (first | refine blk_drewN ?_ _ | refine blk_drew ?_ | refine blk_alloc ?_ _)); exact BK148.out) hb)
                    have n9_ := Aside0.mk (below_step (by repeat (first | (with_reducible first | exact HB.out | apply below_alloc | apply pw_below_drewN | apply below_drew1 | refine below_set ?_ GE147.out | refine below_set ?_ GE148.out) | exact HB.out)) hb)
                    clear HO136
                    clear HO139
                    clear HO142
                    clear HO151
                    clear HO158
                    clear HO155
                    clear BK147
                    clear BK148
                    clear HB
                    have HO136 := n0_
                    have HO139 := n1_
                    have HO142 := n2_
                    have HO151 := n3_
                    have HO158 := n4_
                    have HO155 := n5_
                    have HO165 := n6_
                    have BK147 := n7_
                    have BK148 := n8_
                    have HB := n9_
                    clear n0_ n1_ n2_ n3_ n4_ n5_ n6_ n7_ n8_ n9_
                    clear hb ho42
                    refine hK.out _ _ ⟨(blk_cell BK147.out 0).trans rfl, (blk_cell BK147.out 1).trans rfl, (blk_cell BK148.out 0).trans rfl, (blk_cell BK148.out 1).trans rfl⟩ (fun hHeld => ?_)
                    clear hK K
                    refine norm_ (a' := ?_) ?_ ?_
                    rotate_left
                    · show Act.put _ (some 59) _ = _
                      simp only [Act.put, List.setIfInBounds_toArray, List.set_cons_zero, List.set_cons_succ, i64_w, i32_w]
                      rfl
                    refine one_ (i := 28) (N := some 57) #[true, true, true, true, true, true, true, true, true, true, true, true, true, true, true, true, true, true, true, true, true, true, true, true, true, true, true, true, true, true, true, false, false, false, false, false, false, false, false, false] rfl rfl (one_of HT_.out (by kernel_rfl)) (by decide) (fun K hK => ?_)
                    refine goes_ Try.func23 (by kernel_rfl) rfl #[.slice Ao23 t140.length co23, .string (⟨#[97]⟩ : ByteArray), .string (⟨#[99]⟩ : ByteArray), .int .i64 9] (by rfl) rfl rfl (by (try simp only [List.map_toArray, List.map_cons, List.map_nil]); first | done | rfl | (simp only [List.length_drop, List.length_take]; rfl)) ?_
                    with_reducible refine (omap_Scan.calls _ _ t140 (⟨#[97]⟩ : ByteArray) (⟨#[99]⟩ : ByteArray) 9 t160 _ ?side1 ?side2 A12.out).mono ?_
                    (case side1 => repeat (first | exact (Kd.R_reads' HO142.out).2.2 | (with_reducible refine Kd.C_alloc ?_ _) | (with_reducible refine Kd.C_drewN ?_ _) | (with_reducible refine Kd.C_drew ?_)))
                    (case side2 => exact (Kd.R_reads' HO142.out).2.1)
                    rintro e w43 ⟨v161, rfl, ho0, hb⟩
                    refine ⟨_, rfl, ?_⟩
                    have n0_ := Aside0.mk (Kd.R_elder' (by (with_reducible repeat (first | apply Kd.R_alloc | apply Kd.R_drewN | apply Kd.R_drew)); exact HO136.out) (Kd.R_base ho0) hb)
                    have n1_ := Aside0.mk (Kd.R_below (by (with_reducible repeat (first | apply Kd.R_alloc | apply Kd.R_drewN | apply Kd.R_drew)); exact HO139.out) hb)
                    have n2_ := Aside0.mk (Kd.R_elder' (by (with_reducible repeat (first | apply Kd.R_alloc | apply Kd.R_drewN | apply Kd.R_drew)); exact HO142.out) (Kd.R_base ho0) hb)
                    have n3_ := Aside0.mk (Kd.R_elder' (by (with_reducible repeat (first | apply Kd.R_alloc | apply Kd.R_drewN | apply Kd.R_drew)); exact HO151.out) (Kd.R_base ho0) hb)
                    have n4_ := Aside0.mk (Kd.R_elder' (by (with_reducible repeat (first | apply Kd.R_alloc | apply Kd.R_drewN | apply Kd.R_drew)); exact HO158.out) (Kd.R_base ho0) hb)
                    have n5_ := Aside0.mk (Kd.R_elder' (by (with_reducible repeat (first | apply Kd.R_alloc | apply Kd.R_drewN | apply Kd.R_drew)); exact HO155.out) (Kd.R_base ho0) hb)
                    have n6_ := Aside0.mk (Kd.R_elder' (by (with_reducible repeat (first | apply Kd.R_alloc | apply Kd.R_drewN | apply Kd.R_drew)); exact HO165.out) (Kd.R_base ho0) hb)
                    have n7_ := Aside0.mk (Kd.R_lower (Kd.R_newB (Kd.R_newB (Kd.R_new' (Kd.R_new' (Kd.R_new' (Kd.R_new' (Kd.R_new' (Kd.R_new' ho0 (Kd.R_lt (by (with_reducible repeat (first | apply Kd.R_alloc | apply Kd.R_drewN | apply Kd.R_drew)); exact HO136.out))) (Kd.R_lt (by (with_reducible repeat (first | apply Kd.R_alloc | apply Kd.R_drewN | apply Kd.R_drew)); exact HO142.out))) (Kd.R_lt (by (with_reducible repeat (first | apply Kd.R_alloc | apply Kd.R_drewN | apply Kd.R_drew)); exact HO151.out))) (Kd.R_lt (by (with_reducible repeat (first | apply Kd.R_alloc | apply Kd.R_drewN | apply Kd.R_drew)); exact HO158.out))) (Kd.R_lt (by (with_reducible repeat (first | apply Kd.R_alloc | apply Kd.R_drewN | apply Kd.R_drew)); exact HO155.out))) (Kd.R_lt (by (with_reducible repeat (first | apply Kd.R_alloc | apply Kd.R_drewN | apply Kd.R_drew)); exact HO165.out))) (g := gb147) (o := .cells #[.string (⟨#[97]⟩ : ByteArray), .string (⟨#[49]⟩ : ByteArray)] 39 (0, 0)) (by (with_reducible repeat (first | refine blk_drewN ?_ _ | refine blk_drew ?_ | refine blk_alloc ?_ _)); exact BK147.out)) (g := gb148) (o := .cells #[.string (⟨#[99]⟩ : ByteArray), .string (⟨#[52]⟩ : ByteArray)] 39 (0, 0)) (by (with_reducible repeat (first | refine blk_drewN ?_ _ | refine blk_drew ?_ | refine blk_alloc ?_ _)); exact BK148.out)) (below_size (by repeat (first | (with_reducible first | exact HB.out | apply below_alloc | apply pw_below_drewN | apply below_drew1 | refine below_set ?_ GE147.out | refine below_set ?_ GE148.out) | exact HB.out))))
                    have n8_ := Aside0.mk (blk_below (g := gb147) (o := .cells #[.string (⟨#[97]⟩ : ByteArray), .string (⟨#[49]⟩ : ByteArray)] 39 (0, 0)) (by (with_reducible repeat (first | refine blk_drewN ?_ _ | refine blk_drew ?_ | refine blk_alloc ?_ _)); exact BK147.out) hb)
                    have n9_ := Aside0.mk (blk_below (g := gb148) (o := .cells #[.string (⟨#[99]⟩ : ByteArray), .string (⟨#[52]⟩ : ByteArray)] 39 (0, 0)) (by (with_reducible repeat (first | refine blk_drewN ?_ _ | refine blk_drew ?_ | refine blk_alloc ?_ _)); exact BK148.out) hb)
                    have n10_ := Aside0.mk (below_step (by repeat (first | (with_reducible first | exact HB.out | apply below_alloc | apply pw_below_drewN | apply below_drew1 | refine below_set ?_ GE147.out | refine below_set ?_ GE148.out) | exact HB.out)) hb)
                    clear HO136
                    clear HO139
                    clear HO142
                    clear HO151
                    clear HO158
                    clear HO155
                    clear HO165
                    clear BK147
                    clear BK148
                    clear HB
                    have HO136 := n0_
                    have HO139 := n1_
                    have HO142 := n2_
                    have HO151 := n3_
                    have HO158 := n4_
                    have HO155 := n5_
                    have HO165 := n6_
                    have HO162 := n7_
                    have BK147 := n8_
                    have BK148 := n9_
                    have HB := n10_
                    clear n0_ n1_ n2_ n3_ n4_ n5_ n6_ n7_ n8_ n9_ n10_
                    (try clear hb)
                    (try clear hb2)
                    (try clear hk)
                    (try clear hi)
                    (try clear ho0)
                    refine hK.out _ _ ⟨(blk_cell BK147.out 0).trans rfl, (blk_cell BK147.out 1).trans rfl, (blk_cell BK148.out 0).trans rfl, (blk_cell BK148.out 1).trans rfl⟩ (fun hHeld => ?_)
                    clear hK K
                    refine norm_ (a' := ?_) ?_ ?_
                    rotate_left
                    · show Act.put _ (some 57) _ = _
                      simp only [Act.put, List.setIfInBounds_toArray, List.set_cons_zero, List.set_cons_succ, i64_w, i32_w]
                      rfl
                    exact norm_ (by simp only [putAll, Act.put, List.setIfInBounds_toArray, List.set_cons_zero, List.set_cons_succ]) (hCont (.slice Ao39 t153.length co39, .slice Ao40 y156.length co40, v161, v164) _ ⟨hHeld, (by (with_reducible repeat (first | apply Kd.R_alloc | apply Kd.R_drewN | apply Kd.R_drew)); exact Kd.R_mono HO136.out (fun _ hk => ⟨hk.1.1.1.1.1.1, ⟨hk.1.1.1.1.2, ⟨hk.1.1.2, ⟨hk.1.1.1.2, ⟨hk.2, ⟨hk.1.2, ⟨hk.1.1.1.1.1.2.1, hk.1.1.1.1.1.2.2⟩⟩⟩⟩⟩⟩⟩)), (by (with_reducible repeat (first | apply Kd.R_alloc | apply Kd.R_drewN | apply Kd.R_drew)); exact HO139.out), (by (with_reducible repeat (first | apply Kd.R_alloc | apply Kd.R_drewN | apply Kd.R_drew)); exact Kd.R_mono HO142.out (fun _ hk => ⟨hk.1.1.1.1.1.1, ⟨hk.1.1.1.1.2, ⟨hk.1.1.2, ⟨hk.1.1.1.2, ⟨hk.2, ⟨hk.1.2, ⟨hk.1.1.1.1.1.2.1, hk.1.1.1.1.1.2.2⟩⟩⟩⟩⟩⟩⟩)), (by (with_reducible repeat (first | apply Kd.R_alloc | apply Kd.R_drewN | apply Kd.R_drew)); exact Kd.R_mono HO151.out (fun _ hk => ⟨hk.1.1.1.1.1.1.1.2, ⟨hk.1.1.1.1.1.1.2, ⟨hk.1.1.2, ⟨hk.1.1.1.2, ⟨hk.2, ⟨hk.1.2, ⟨hk.1.1.1.1.1.2, hk.1.1.1.1.2⟩⟩⟩⟩⟩⟩⟩)), (by (with_reducible repeat (first | apply Kd.R_alloc | apply Kd.R_drewN | apply Kd.R_drew)); exact Kd.R_mono HO155.out (fun _ hk => ⟨hk.1.1.1.1.1.1.1.2, ⟨hk.1.1.1.1.1.1.2, ⟨hk.1.1.1.1.1.2, ⟨hk.1.1.1.1.2, ⟨hk.2, ⟨hk.1.2, ⟨hk.1.1.1.2, hk.1.1.2⟩⟩⟩⟩⟩⟩⟩)), (by (with_reducible repeat (first | apply Kd.R_alloc | apply Kd.R_drewN | apply Kd.R_drew)); exact Kd.R_mono HO158.out (fun _ hk => ⟨hk.1.1.1.1.1.1.1.2, ⟨hk.1.1.1.1.1.1.2, ⟨hk.1.1.1.1.1.2, ⟨hk.1.1.2, ⟨hk.2, ⟨hk.1.2, ⟨hk.1.1.1.1.2, hk.1.1.1.2⟩⟩⟩⟩⟩⟩⟩)), (by (with_reducible repeat (first | apply Kd.R_alloc | apply Kd.R_drewN | apply Kd.R_drew)); exact Kd.R_mono HO162.out (fun _ hk => ⟨hk.1.1.1.1.1.1.1.2, ⟨hk.1.1.1.1.1.1.2, ⟨hk.1.1.1.1.1.2, ⟨hk.1.1.1.2, ⟨hk.1.1.1.1.2, ⟨hk.1.1.2, ⟨hk.1.2, hk.2⟩⟩⟩⟩⟩⟩⟩)), (by (with_reducible repeat (first | apply Kd.R_alloc | apply Kd.R_drewN | apply Kd.R_drew)); exact Kd.R_mono HO165.out (fun _ hk => ⟨hk.1.1.1.1.1.1.1.2, ⟨hk.1.1.1.1.1.1.2, ⟨hk.1.1.1.1.1.2, ⟨hk.1.1.1.2, ⟨hk.1.1.1.1.2, ⟨hk.2, ⟨hk.1.1.2, hk.1.2⟩⟩⟩⟩⟩⟩⟩)), (by (with_reducible repeat (first | refine blk_drewN ?_ _ | refine blk_drew ?_ | refine blk_alloc ?_ _)); exact BK147.out), (by (with_reducible repeat (first | refine blk_drewN ?_ _ | refine blk_drew ?_ | refine blk_alloc ?_ _)); exact BK148.out), (by repeat (first | (with_reducible first | exact HB.out | apply below_alloc | apply pw_below_drewN | apply below_drew1 | refine below_set ?_ GE147.out | refine below_set ?_ GE148.out) | exact HB.out))⟩)
              rintro ⟨v154, v157, v161, v164⟩ w44 ⟨hS_, h0_, h1_, h2_, h3_, h4_, h5_, h6_, h7_, h8_, h9_, h10_⟩
              have n0_ : Aside0 (Kd.R k39 39 w44 w.heap.size (fun k_ => some k_ ≠ (.slice Ao23 t140.length co23 : Value).ownBlock ∧ some k_ ≠ (.slice Ao35 y149.length co35 : Value).ownBlock ∧ some k_ ≠ (v154 : Value).ownBlock ∧ some k_ ≠ (v157 : Value).ownBlock ∧ some k_ ≠ (v161 : Value).ownBlock ∧ some k_ ≠ (v164 : Value).ownBlock ∧ k_ ≠ gb147 ∧ k_ ≠ gb148) (.slice Ao20 y134.length co20) y134) := ⟨h0_⟩
              have n1_ : Aside0 (Kd.R k36 36 w44 w.heap.size (fun _ => True) (.slice Ao21 y137.length co21) y137) := ⟨h1_⟩
              have n2_ : Aside0 (Kd.R k39 39 w44 w.heap.size (fun k_ => some k_ ≠ (.slice Ao20 y134.length co20 : Value).ownBlock ∧ some k_ ≠ (.slice Ao35 y149.length co35 : Value).ownBlock ∧ some k_ ≠ (v154 : Value).ownBlock ∧ some k_ ≠ (v157 : Value).ownBlock ∧ some k_ ≠ (v161 : Value).ownBlock ∧ some k_ ≠ (v164 : Value).ownBlock ∧ k_ ≠ gb147 ∧ k_ ≠ gb148) (.slice Ao23 t140.length co23) t140) := ⟨h2_⟩
              have n3_ : Aside0 (Kd.R k39 39 w44 w.heap.size (fun k_ => some k_ ≠ (.slice Ao20 y134.length co20 : Value).ownBlock ∧ some k_ ≠ (.slice Ao23 t140.length co23 : Value).ownBlock ∧ some k_ ≠ (v154 : Value).ownBlock ∧ some k_ ≠ (v157 : Value).ownBlock ∧ some k_ ≠ (v161 : Value).ownBlock ∧ some k_ ≠ (v164 : Value).ownBlock ∧ k_ ≠ gb147 ∧ k_ ≠ gb148) (.slice Ao35 y149.length co35) y149) := ⟨h3_⟩
              have n4_ : Aside0 (Kd.R k39 39 w44 w.heap.size (fun k_ => some k_ ≠ (.slice Ao20 y134.length co20 : Value).ownBlock ∧ some k_ ≠ (.slice Ao23 t140.length co23 : Value).ownBlock ∧ some k_ ≠ (.slice Ao35 y149.length co35 : Value).ownBlock ∧ some k_ ≠ (v157 : Value).ownBlock ∧ some k_ ≠ (v161 : Value).ownBlock ∧ some k_ ≠ (v164 : Value).ownBlock ∧ k_ ≠ gb147 ∧ k_ ≠ gb148) v154 t153) := ⟨h4_⟩
              have n5_ : Aside0 (Kd.R k39 39 w44 w.heap.size (fun k_ => some k_ ≠ (.slice Ao20 y134.length co20 : Value).ownBlock ∧ some k_ ≠ (.slice Ao23 t140.length co23 : Value).ownBlock ∧ some k_ ≠ (.slice Ao35 y149.length co35 : Value).ownBlock ∧ some k_ ≠ (v154 : Value).ownBlock ∧ some k_ ≠ (v161 : Value).ownBlock ∧ some k_ ≠ (v164 : Value).ownBlock ∧ k_ ≠ gb147 ∧ k_ ≠ gb148) v157 y156) := ⟨h5_⟩
              have n6_ : Aside0 (Kd.R k39 39 w44 w.heap.size (fun k_ => some k_ ≠ (.slice Ao20 y134.length co20 : Value).ownBlock ∧ some k_ ≠ (.slice Ao23 t140.length co23 : Value).ownBlock ∧ some k_ ≠ (.slice Ao35 y149.length co35 : Value).ownBlock ∧ some k_ ≠ (v154 : Value).ownBlock ∧ some k_ ≠ (v157 : Value).ownBlock ∧ some k_ ≠ (v164 : Value).ownBlock ∧ k_ ≠ gb147 ∧ k_ ≠ gb148) v161 t160) := ⟨h6_⟩
              have n7_ : Aside0 (Kd.R k39 39 w44 w.heap.size (fun k_ => some k_ ≠ (.slice Ao20 y134.length co20 : Value).ownBlock ∧ some k_ ≠ (.slice Ao23 t140.length co23 : Value).ownBlock ∧ some k_ ≠ (.slice Ao35 y149.length co35 : Value).ownBlock ∧ some k_ ≠ (v154 : Value).ownBlock ∧ some k_ ≠ (v157 : Value).ownBlock ∧ some k_ ≠ (v161 : Value).ownBlock ∧ k_ ≠ gb147 ∧ k_ ≠ gb148) v164 y163) := ⟨h7_⟩
              have n8_ : Aside0 (w44.heap[gb147]? = some (.cells #[.string (⟨#[97]⟩ : ByteArray), .string (⟨#[49]⟩ : ByteArray)] 39 (0, 0))) := ⟨h8_⟩
              have n9_ : Aside0 (w44.heap[gb148]? = some (.cells #[.string (⟨#[99]⟩ : ByteArray), .string (⟨#[52]⟩ : ByteArray)] 39 (0, 0))) := ⟨h9_⟩
              have n10_ : Aside0 (Below w.heap.size w w44) := ⟨h10_⟩
              clear HO136
              clear HO139
              clear HO142
              clear BK147
              clear BK148
              clear HB
              clear h0_ h1_ h2_ h3_ h4_ h5_ h6_ h7_ h8_ h9_ h10_
              have HO136 := n0_
              have HO139 := n1_
              have HO142 := n2_
              have HO151 := n3_
              have HO155 := n4_
              have HO158 := n5_
              have HO162 := n6_
              have HO165 := n7_
              have BK147 := n8_
              have BK148 := n9_
              have HB := n10_
              clear n0_ n1_ n2_ n3_ n4_ n5_ n6_ n7_ n8_ n9_ n10_
              have hHeld : w44.cell? ⟨gb147, 0, none⟩ = some (.string (⟨#[97]⟩ : ByteArray)) ∧ w44.cell? ⟨gb147, 1, none⟩ = some (.string (⟨#[49]⟩ : ByteArray)) ∧ w44.cell? ⟨gb148, 0, none⟩ = some (.string (⟨#[99]⟩ : ByteArray)) ∧ w44.cell? ⟨gb148, 1, none⟩ = some (.string (⟨#[52]⟩ : ByteArray)) := hS_
              obtain ⟨Ao45, co45, eo45⟩ := Kd.R_slice HO162.out
              (first | subst eo45 | (injection eo45 with f1_ f2_ f3_; have f4_ := f1_.symm; have f5_ := f3_.symm; clear f1_ f2_ f3_; subst f4_; subst f5_))
              obtain ⟨Ao46, co46, eo46⟩ := Kd.R_slice HO165.out
              (first | subst eo46 | (injection eo46 with f1_ f2_ f3_; have f4_ := f1_.symm; have f5_ := f3_.symm; clear f1_ f2_ f3_; subst f4_; subst f5_))
              refine norm_ (a' := ?_) ?_ ?_
              rotate_left
              · simp only [putAll, Act.put, List.setIfInBounds_toArray, List.set_cons_zero, List.set_cons_succ]
                rfl
              refine one_ (i := 31) (N := some 60) #[true, true, true, true, true, true, true, true, true, true, true, true, true, true, true, true, true, true, true, true, true, true, true, true, true, true, true, true, true, true, true, true, false, false, false, false, false, false, false, false] rfl rfl (one_of HT_.out (by kernel_rfl)) (by decide) (fun K hK => ?_)
              refine goesT1_ 55 (by rfl) Try.func20 (by kernel_rfl) rfl #[.slice Ao45 t160.length co45, .slice Ao46 y163.length co46] (by rfl) rfl rfl (by (try simp only [List.map_toArray, List.map_cons, List.map_nil]); first | done | rfl | (simp only [List.length_drop, List.length_take]; rfl)) ?_
              with_reducible refine (ratlinelaw11_Pairs.calls k _ _ t160 _ _ y163 true _ ?side1 ?side2 ?side3 ?side4 A13.out).mono ?_
              (case side1 => repeat (first | exact (Kd.R_reads' HO162.out).2.2 | (with_reducible refine Kd.C_alloc ?_ _) | (with_reducible refine Kd.C_drewN ?_ _) | (with_reducible refine Kd.C_drew ?_)))
              (case side2 => exact (Kd.R_reads' HO162.out).2.1)
              (case side3 => repeat (first | exact (Kd.R_reads' HO165.out).2.2 | (with_reducible refine Kd.C_alloc ?_ _) | (with_reducible refine Kd.C_drewN ?_ _) | (with_reducible refine Kd.C_drew ?_)))
              (case side4 => exact (Kd.R_reads' HO165.out).2.1)
              rintro e w' ⟨rfl, ⟨nd, rfl⟩⟩
              refine ⟨_, rfl, ?_⟩
              refine hK.out _ _ ⟨(blk_cell BK147.out 0).trans rfl, (blk_cell BK147.out 1).trans rfl, (blk_cell BK148.out 0).trans rfl, (blk_cell BK148.out 1).trans rfl⟩ (fun hHeld => ?_)
              clear hK K
              refine norm_ (a' := ?_) ?_ ?_
              rotate_left
              · show Act.put _ (some 60) _ = _
                simp only [Act.put, List.setIfInBounds_toArray, List.set_cons_zero, List.set_cons_succ, i64_w, i32_w]
                rfl
              refine pure_ (i := 32) (N := some 61) (v := ?_) (a' := ?_) #[true, true, true, true, true, true, true, true, true, true, true, true, true, true, true, true, true, true, true, true, true, true, true, true, true, true, true, true, true, true, true, true, true, false, false, false, false, false, false, false] rfl rfl (any_of HT_.out (by kernel_rfl)) (fun _ _ _ h => h) (Or.inl ⟨by rfl, ?_⟩) ?_ ?_
              rotate_left
              · intro w'
                go_simp
                with_reducible rfl
              rotate_left
              · simp only [Act.put, List.setIfInBounds_toArray, List.set_cons_zero, List.set_cons_succ, i64_w, i32_w]
                rfl
              refine pure_ (i := 33) (N := some 62) (v := ?_) (a' := ?_) #[true, true, true, true, true, true, true, true, true, true, true, true, true, true, true, true, true, true, true, true, true, true, true, true, true, true, true, true, true, true, true, true, true, true, false, false, false, false, false, false] rfl rfl (any_of HT_.out (by kernel_rfl)) (fun _ _ _ h => h) (Or.inl ⟨by rfl, ?_⟩) ?_ ?_
              rotate_left
              · intro w'
                go_simp
                with_reducible rfl
              rotate_left
              · simp only [Act.put, List.setIfInBounds_toArray, List.set_cons_zero, List.set_cons_succ, i64_w, i32_w]
                rfl
              refine pure_ (i := 34) (N := some 63) (v := ?_) (a' := ?_) #[true, true, true, true, true, true, true, true, true, true, true, true, true, true, true, true, true, true, true, true, true, true, true, true, true, true, true, true, true, true, true, true, true, true, true, false, false, false, false, false] rfl rfl (any_of HT_.out (by kernel_rfl)) (fun _ _ _ h => h) (Or.inl ⟨by rfl, ?_⟩) ?_ ?_
              rotate_left
              · intro w'
                go_simp
                with_reducible rfl
              rotate_left
              · simp only [Act.put, List.setIfInBounds_toArray, List.set_cons_zero, List.set_cons_succ, i64_w, i32_w]
                rfl
              refine one_ (i := 35) (N := some 64) #[true, true, true, true, true, true, true, true, true, true, true, true, true, true, true, true, true, true, true, true, true, true, true, true, true, true, true, true, true, true, true, true, true, true, true, true, false, false, false, false] rfl rfl (one_of HT_.out (by kernel_rfl)) (by decide) (fun K hK => ?_)
              refine goes_ Try.func23 (by kernel_rfl) rfl #[.slice Ao23 t140.length co23, .string (⟨#[]⟩ : ByteArray), .string (⟨#[]⟩ : ByteArray), .int .i64 0] (by rfl) rfl rfl (by (try simp only [List.map_toArray, List.map_cons, List.map_nil]); first | done | rfl | (simp only [List.length_drop, List.length_take]; rfl)) ?_
              with_reducible refine (omap_Scan.calls _ _ t140 (⟨#[]⟩ : ByteArray) (⟨#[]⟩ : ByteArray) 0 t167 _ ?side1 ?side2 A15.out).mono ?_
              (case side1 => repeat (first | exact (Kd.R_reads' HO142.out).2.2 | (with_reducible refine Kd.C_alloc ?_ _) | (with_reducible refine Kd.C_drewN ?_ _) | (with_reducible refine Kd.C_drew ?_)))
              (case side2 => exact (Kd.R_reads' HO142.out).2.1)
              rintro e w47 ⟨v168, rfl, ho0, hb⟩
              refine ⟨_, rfl, ?_⟩
              have n0_ := Aside0.mk (Kd.R_elder' (by (with_reducible repeat (first | apply Kd.R_alloc | apply Kd.R_drewN | apply Kd.R_drew)); exact HO136.out) (Kd.R_base ho0) hb)
              have n1_ := Aside0.mk (Kd.R_below (by (with_reducible repeat (first | apply Kd.R_alloc | apply Kd.R_drewN | apply Kd.R_drew)); exact HO139.out) hb)
              have n2_ := Aside0.mk (Kd.R_elder' (by (with_reducible repeat (first | apply Kd.R_alloc | apply Kd.R_drewN | apply Kd.R_drew)); exact HO142.out) (Kd.R_base ho0) hb)
              have n3_ := Aside0.mk (Kd.R_elder' (by (with_reducible repeat (first | apply Kd.R_alloc | apply Kd.R_drewN | apply Kd.R_drew)); exact HO151.out) (Kd.R_base ho0) hb)
              have n4_ := Aside0.mk (Kd.R_elder' (by (with_reducible repeat (first | apply Kd.R_alloc | apply Kd.R_drewN | apply Kd.R_drew)); exact HO155.out) (Kd.R_base ho0) hb)
              have n5_ := Aside0.mk (Kd.R_elder' (by (with_reducible repeat (first | apply Kd.R_alloc | apply Kd.R_drewN | apply Kd.R_drew)); exact HO158.out) (Kd.R_base ho0) hb)
              have n6_ := Aside0.mk (Kd.R_elder' (by (with_reducible repeat (first | apply Kd.R_alloc | apply Kd.R_drewN | apply Kd.R_drew)); exact HO162.out) (Kd.R_base ho0) hb)
              have n7_ := Aside0.mk (Kd.R_elder' (by (with_reducible repeat (first | apply Kd.R_alloc | apply Kd.R_drewN | apply Kd.R_drew)); exact HO165.out) (Kd.R_base ho0) hb)
              have n8_ := Aside0.mk (Kd.R_lower (Kd.R_newB (Kd.R_newB (Kd.R_new' (Kd.R_new' (Kd.R_new' (Kd.R_new' (Kd.R_new' (Kd.R_new' (Kd.R_new' ho0 (Kd.R_lt (by (with_reducible repeat (first | apply Kd.R_alloc | apply Kd.R_drewN | apply Kd.R_drew)); exact HO136.out))) (Kd.R_lt (by (with_reducible repeat (first | apply Kd.R_alloc | apply Kd.R_drewN | apply Kd.R_drew)); exact HO142.out))) (Kd.R_lt (by (with_reducible repeat (first | apply Kd.R_alloc | apply Kd.R_drewN | apply Kd.R_drew)); exact HO151.out))) (Kd.R_lt (by (with_reducible repeat (first | apply Kd.R_alloc | apply Kd.R_drewN | apply Kd.R_drew)); exact HO155.out))) (Kd.R_lt (by (with_reducible repeat (first | apply Kd.R_alloc | apply Kd.R_drewN | apply Kd.R_drew)); exact HO158.out))) (Kd.R_lt (by (with_reducible repeat (first | apply Kd.R_alloc | apply Kd.R_drewN | apply Kd.R_drew)); exact HO162.out))) (Kd.R_lt (by (with_reducible repeat (first | apply Kd.R_alloc | apply Kd.R_drewN | apply Kd.R_drew)); exact HO165.out))) (g := gb147) (o := .cells #[.string (⟨#[97]⟩ : ByteArray), .string (⟨#[49]⟩ : ByteArray)] 39 (0, 0)) (by (with_reducible repeat (first | refine blk_drewN ?_ _ | refine blk_drew ?_ | refine blk_alloc ?_ _)); exact BK147.out)) (g := gb148) (o := .cells #[.string (⟨#[99]⟩ : ByteArray), .string (⟨#[52]⟩ : ByteArray)] 39 (0, 0)) (by (with_reducible repeat (first | refine blk_drewN ?_ _ | refine blk_drew ?_ | refine blk_alloc ?_ _)); exact BK148.out)) (below_size (by repeat (first | (with_reducible first | exact HB.out | apply below_alloc | apply pw_below_drewN | apply below_drew1 | refine below_set ?_ GE147.out | refine below_set ?_ GE148.out) | exact HB.out))))
              have n9_ := Aside0.mk (blk_below (g := gb147) (o := .cells #[.string (⟨#[97]⟩ : ByteArray), .string (⟨#[49]⟩ : ByteArray)] 39 (0, 0)) (by (with_reducible repeat (first | refine blk_drewN ?_ _ | refine blk_drew ?_ | refine blk_alloc ?_ _)); exact BK147.out) hb)
              have n10_ := Aside0.mk (blk_below (g := gb148) (o := .cells #[.string (⟨#[99]⟩ : ByteArray), .string (⟨#[52]⟩ : ByteArray)] 39 (0, 0)) (by (with_reducible repeat (first | refine blk_drewN ?_ _ | refine blk_drew ?_ | refine blk_alloc ?_ _)); exact BK148.out) hb)
              have n11_ := Aside0.mk (below_step (by repeat (first | (with_reducible first | exact HB.out | apply below_alloc | apply pw_below_drewN | apply below_drew1 | refine below_set ?_ GE147.out | refine below_set ?_ GE148.out) | exact HB.out)) hb)
              clear HO136
              clear HO139
              clear HO142
              clear HO151
              clear HO155
              clear HO158
              clear HO162
              clear HO165
              clear BK147
              clear BK148
              clear HB
              have HO136 := n0_
              have HO139 := n1_
              have HO142 := n2_
              have HO151 := n3_
              have HO155 := n4_
              have HO158 := n5_
              have HO162 := n6_
              have HO165 := n7_
              have HO169 := n8_
              have BK147 := n9_
              have BK148 := n10_
              have HB := n11_
              clear n0_ n1_ n2_ n3_ n4_ n5_ n6_ n7_ n8_ n9_ n10_ n11_
              (try clear hb)
              (try clear hb2)
              (try clear hk)
              (try clear hi)
              (try clear ho0)
              obtain ⟨Ao48, co48, eo48⟩ := Kd.R_slice HO169.out
              (first | subst eo48 | (injection eo48 with f1_ f2_ f3_; have f4_ := f1_.symm; have f5_ := f3_.symm; clear f1_ f2_ f3_; subst f4_; subst f5_))
              refine hK.out _ _ ⟨(blk_cell BK147.out 0).trans rfl, (blk_cell BK147.out 1).trans rfl, (blk_cell BK148.out 0).trans rfl, (blk_cell BK148.out 1).trans rfl⟩ (fun hHeld => ?_)
              clear hK K
              refine norm_ (a' := ?_) ?_ ?_
              rotate_left
              · show Act.put _ (some 64) _ = _
                simp only [Act.put, List.setIfInBounds_toArray, List.set_cons_zero, List.set_cons_succ, i64_w, i32_w]
                rfl
              refine pure_ (i := 36) (N := some 65) (v := ?_) (a' := ?_) #[true, true, true, true, true, true, true, true, true, true, true, true, true, true, true, true, true, true, true, true, true, true, true, true, true, true, true, true, true, true, true, true, true, true, true, true, true, false, false, false] rfl rfl (any_of HT_.out (by kernel_rfl)) (fun _ _ _ h => h) (Or.inl ⟨by rfl, ?_⟩) ?_ ?_
              rotate_left
              · intro w'
                go_simp
                with_reducible rfl
              rotate_left
              · simp only [Act.put, List.setIfInBounds_toArray, List.set_cons_zero, List.set_cons_succ, i64_w, i32_w]
                rfl
              refine pure_ (i := 37) (N := some 66) (v := ?_) (a' := ?_) #[true, true, true, true, true, true, true, true, true, true, true, true, true, true, true, true, true, true, true, true, true, true, true, true, true, true, true, true, true, true, true, true, true, true, true, true, true, true, false, false] rfl rfl (any_of HT_.out (by kernel_rfl)) (fun _ _ _ h => h) (Or.inl ⟨by rfl, ?_⟩) ?_ ?_
              rotate_left
              · intro w'
                go_simp
                with_reducible rfl
              rotate_left
              · simp only [Act.put, List.setIfInBounds_toArray, List.set_cons_zero, List.set_cons_succ, i64_w, i32_w]
                rfl
              refine pure_ (i := 38) (N := some 67) (v := ?_) (a' := ?_) #[true, true, true, true, true, true, true, true, true, true, true, true, true, true, true, true, true, true, true, true, true, true, true, true, true, true, true, true, true, true, true, true, true, true, true, true, true, true, true, false] rfl rfl (any_of HT_.out (by kernel_rfl)) (fun _ _ _ h => h) (Or.inl ⟨by rfl, ?_⟩) ?_ ?_
              rotate_left
              · intro w'
                go_simp
                with_reducible rfl
              rotate_left
              · simp only [Act.put, List.setIfInBounds_toArray, List.set_cons_zero, List.set_cons_succ, i64_w, i32_w]
                rfl
              refine pure_ (i := 39) (N := some 0) (v := ?_) (a' := ?_) #[true, true, true, true, true, true, true, true, true, true, true, true, true, true, true, true, true, true, true, true, true, true, true, true, true, true, true, true, true, true, true, true, true, true, true, true, true, true, true, true] rfl rfl (any_of HT_.out (by kernel_rfl)) (fun _ _ _ h => h) (Or.inl ⟨by rfl, ?_⟩) ?_ ?_
              rotate_left
              · intro w'
                go_simp
                with_reducible rfl
              rotate_left
              · simp only [Act.put, List.setIfInBounds_toArray, List.set_cons_zero, List.set_cons_succ, i64_w, i32_w]
                rfl
              refine done_ (done_of HT_.out (by kernel_rfl)) ?_
              try go_wp2
              go_ret
              exact ⟨by first | rfl | (simp [errW_none, errW_some] <;> rfl) | (simp [*, errW_none, errW_some] <;> rfl), by repeat (first | (with_reducible first | exact HB.out | apply below_alloc | apply pw_below_drewN | apply below_drew1 | refine below_set ?_ GE147.out | refine below_set ?_ GE148.out) | exact HB.out)⟩
            · replace c14 := Bool.eq_false_iff.mpr c14
              subst c14
              have H1 : (none) = some r := by rw [if_neg (show ¬ (false = true) by decide)] at H; exact H
              clear H
              have H := H1
              clear H1
              exact absurd H (by simp)
          · replace c11 := Bool.eq_false_iff.mpr c11
            subst c11
            have H1 : (none) = some r := by rw [if_neg (show ¬ (false = true) by decide)] at H; exact H
            clear H
            have H := H1
            clear H1
            exact absurd H (by simp)
        · rw [if_neg c8] at H
          exact absurd H (by simp)
      · replace c7 := Bool.eq_false_iff.mpr c7
        subst c7
        have H1 : (none) = some r := by rw [if_neg (show ¬ (false = true) by decide)] at H; exact H
        clear H
        have H := H1
        clear H1
        exact absurd H (by simp)
  · replace c5 := Bool.eq_false_iff.mpr c5
    subst c5
    have H1 : (none) = some r := by rw [if_neg (show ¬ (false = true) by decide)] at H; exact H
    clear H
    have H := H1
    clear H1
    exact absurd H (by simp)

end Go.Proofs.Ytkncjpafehnmnaa.P

end

section
set_option linter.unusedVariables false
namespace Go.Proofs.YtkncjpafehnmnaaL
open Go Go.RowKit Go.Proofs.YtkncjpafehnmnaaG Go.Proofs.Ytkncjpafehnmnaa.P Go.Proofs.YtkncjpafehnmnaaW.PrintWords Go.Proofs.YtkncjpafehnmnaaW.PrintMore
theorem awake_ten : ratlinelaw12_awake.f 10 = some true := by kernel_rfl
theorem awake12 : Ev (fun k => ratlinelaw12_awake.f k) true := Ev.of ratlinelaw12_awake.mono awake_ten
end Go.Proofs.YtkncjpafehnmnaaL

end

section
set_option linter.unusedVariables false
set_option linter.unusedSimpArgs false
namespace Go.Proofs.YtkncjpafehnmnaaL
open Go Go.RowKit Go.Proofs.YtkncjpafehnmnaaR Go.Proofs.YtkncjpafehnmnaaG Go.Proofs.Ytkncjpafehnmnaa.P Go.Proofs.YtkncjpafehnmnaaW.PrintWords Go.Proofs.YtkncjpafehnmnaaW.PrintLast
attribute [local go_sem] str_geq str_gtr str_leq
theorem oDo_mem {m : List MPr} {o : MOp} {p : MPr} (h : p ∈ oDo m o) : p ∈ m ∨ p = ⟨o.f1, o.f2⟩ := by
  unfold oDo at h
  split at h
  · split at h
    · split at h
      · exact .inl (List.mem_of_mem_eraseIdx h)
      · exact .inl h
    · split at h
      · rcases List.mem_or_eq_of_mem_set h with h | h
        · exact .inl h
        · exact .inr h
      · by_cases hl : oAt m o.f1 ≤ m.length
        · rcases (List.mem_insertIdx hl).1 h with h | h
          · exact .inr h
          · exact .inl h
        · exact absurd (oAt_le m o.f1) hl
  · exact .inl h
end Go.Proofs.YtkncjpafehnmnaaL

end

section
set_option linter.unusedVariables false
set_option linter.unusedSimpArgs false
namespace Go.Proofs.YtkncjpafehnmnaaL
open Go Go.RowKit Go.Proofs.YtkncjpafehnmnaaG Go.Proofs.Ytkncjpafehnmnaa.P Go.Proofs.YtkncjpafehnmnaaW.PrintWords Go.Proofs.YtkncjpafehnmnaaW.PrintMore
theorem snoc_ind {α : Type} {P : List α → Prop} (h0 : P []) (h1 : ∀ l a, P l → P (l ++ [a])) (l : List α) : P l := by
  have : ∀ r : List α, P r.reverse := by
    intro r
    induction r with
    | nil => exact h0
    | cons a r ih => rw [List.reverse_cons]; exact h1 _ _ ih
  have h := this l.reverse
  rwa [List.reverse_reverse] at h
def opIs (o : MOp) (k : ByteArray) : Prop := OpK o ∧ o.f1 = k
instance (o : MOp) (k : ByteArray) : Decidable (opIs o k) := inferInstanceAs (Decidable (_ ∧ _))
/-- The place (from 1 on) of the last op of a key, or 0. -/
def lastFrom (k : ByteArray) : Nat → Nat → List MOp → Nat
  | _, acc, [] => acc
  | j, acc, o :: r => lastFrom k (j + 1) (if opIs o k then j + 1 else acc) r
def lastI (l : List MOp) (k : ByteArray) : Nat := lastFrom k 0 0 l
theorem lastFrom_snoc (k : ByteArray) (o : MOp) : ∀ (l : List MOp) (j acc : Nat), lastFrom k j acc (l ++ [o]) = if opIs o k then j + l.length + 1 else lastFrom k j acc l
  | [], j, acc => by simp [lastFrom]
  | x :: l, j, acc => by
    rw [List.cons_append, lastFrom, lastFrom_snoc k o l, lastFrom, List.length_cons]
    split
    · omega
    · rfl
theorem lastI_snoc (l : List MOp) (o : MOp) (k : ByteArray) : lastI (l ++ [o]) k = if opIs o k then l.length + 1 else lastI l k := by
  unfold lastI
  rw [lastFrom_snoc, Nat.zero_add]
def lastOp (l : List MOp) (k : ByteArray) : Option MOp := l.foldl (fun acc o => if opIs o k then some o else acc) none
theorem lastOp_snoc (l : List MOp) (o : MOp) (k : ByteArray) : lastOp (l ++ [o]) k = if opIs o k then some o else lastOp l k := by
  unfold lastOp
  rw [List.foldl_append]
  rfl
theorem last_both (k : ByteArray) (l : List MOp) : (lastI l k = 0 ∧ lastOp l k = none) ∨ ∃ j o, lastI l k = j + 1 ∧ l[j]? = some o ∧ lastOp l k = some o ∧ opIs o k := by
  refine snoc_ind (P := fun l => (lastI l k = 0 ∧ lastOp l k = none) ∨ ∃ j o, lastI l k = j + 1 ∧ l[j]? = some o ∧ lastOp l k = some o ∧ opIs o k) ?_ ?_ l
  · exact .inl ⟨rfl, rfl⟩
  · intro l a ih
    rw [lastI_snoc, lastOp_snoc]
    by_cases ha : opIs a k
    · rw [if_pos ha, if_pos ha]
      exact .inr ⟨l.length, a, rfl, by simp, rfl, ha⟩
    · rw [if_neg ha, if_neg ha]
      rcases ih with ih | ⟨j, o, h1, h2, h3, h4⟩
      · exact .inl ih
      · refine .inr ⟨j, o, h1, ?_, h3, h4⟩
        rw [List.getElem?_append_left (List.getElem?_eq_some_iff.1 h2).1]
        exact h2
theorem oAll_snoc (m : List MPr) (l : List MOp) (o : MOp) : oAll m (l ++ [o]) = oDo (oAll m l) o := by
  unfold oAll
  rw [List.foldl_append]
  rfl
def opVal (o : MOp) : Option ByteArray := if o.f0 = 0 then none else some o.f2
theorem val_all {m : List MPr} (hr : oRise m) (k : ByteArray) (l : List MOp) : oVal (oAll m l) k = match lastOp l k with | none => oVal m k | some o => opVal o := by
  refine snoc_ind (P := fun l => oVal (oAll m l) k = match lastOp l k with | none => oVal m k | some o => opVal o) rfl ?_ l
  intro l o ih
  rw [oAll_snoc, val_do (oAll_rise l hr), lastOp_snoc]
  by_cases h : opIs o k
  · rw [if_pos h, if_pos ⟨h.1, h.2.symm⟩]
    rfl
  · rw [if_neg h, if_neg (fun z => h ⟨z.1, z.2.symm⟩)]
    exact ih
def tK (l : List MOp) (i : Nat) : List MOp := match l[i]? with | none => [] | some o => if lastI l o.f1 = i + 1 then [o] else []
def tD (l : List MOp) : Nat → List MOp
  | 0 => []
  | i + 1 => tK l i ++ tD l i
theorem mem_tK {l : List MOp} {i : Nat} {x : MOp} : x ∈ tK l i ↔ l[i]? = some x ∧ lastI l x.f1 = i + 1 := by
  unfold tK
  cases h : l[i]? with
  | none => simp
  | some o =>
    by_cases h2 : lastI l o.f1 = i + 1
    · simp only [h2, if_true, List.mem_singleton, Option.some.injEq]
      exact ⟨fun e => by subst e; exact ⟨rfl, h2⟩, fun e => e.1.symm⟩
    · simp only [h2, if_false, List.not_mem_nil, Option.some.injEq, false_iff]
      rintro ⟨e, h3⟩
      subst e
      exact h2 h3
theorem mem_tD {l : List MOp} {x : MOp} : ∀ i, x ∈ tD l i ↔ ∃ j, j < i ∧ l[j]? = some x ∧ lastI l x.f1 = j + 1
  | 0 => by simp [tD]
  | i + 1 => by
    rw [tD, List.mem_append, mem_tK, mem_tD i]
    constructor
    · rintro (h | ⟨j, h1, h2⟩)
      · exact ⟨i, by omega, h⟩
      · exact ⟨j, by omega, h2⟩
    · rintro ⟨j, h1, h2⟩
      rcases Nat.lt_or_ge j i with h | h
      · exact .inr ⟨j, h, h2⟩
      · obtain rfl : j = i := by omega
        exact .inl h2
theorem tD_pair (l : List MOp) : ∀ i, (tD l i).Pairwise fun x y => x.f1 ≠ y.f1
  | 0 => List.Pairwise.nil
  | i + 1 => by
    rw [tD]
    refine List.pairwise_append.2 ⟨?_, tD_pair l i, fun x hx y hy e => ?_⟩
    · unfold tK
      cases l[i]? with
      | none => exact List.Pairwise.nil
      | some o =>
        show (if lastI l o.f1 = i + 1 then [o] else []).Pairwise _
        split
        · simp
        · exact List.Pairwise.nil
    · have h1 := (mem_tK.1 hx).2
      obtain ⟨j, hj, _, h2⟩ := (mem_tD i).1 hy
      rw [e, h2] at h1
      omega
theorem tD_len (l : List MOp) : ∀ i, (tD l i).length ≤ i
  | 0 => Nat.le_refl _
  | i + 1 => by
    rw [tD, List.length_append]
    have h1 := tD_len l i
    have h2 : (tK l i).length ≤ 1 := by
      unfold tK
      split
      · simp
      · split <;> simp
    omega
def turned (l : List MOp) : List MOp := tD l l.length
theorem turned_mem {l : List MOp} {x : MOp} (h : x ∈ turned l) : lastOp l x.f1 = some x ∧ opIs x x.f1 ∧ x ∈ l := by
  obtain ⟨j, hj, h1, h2⟩ := (mem_tD _).1 h
  rcases last_both x.f1 l with ⟨h3, _⟩ | ⟨j', o, h3, h4, h5, h6⟩
  · omega
  · obtain rfl : j' = j := by omega
    rw [h1] at h4
    injection h4 with h4
    subst h4
    exact ⟨h5, h6, List.mem_of_getElem? h1⟩
theorem turned_has {l : List MOp} {k : ByteArray} {o : MOp} (h : lastOp l k = some o) : o ∈ turned l ∧ opIs o k := by
  rcases last_both k l with ⟨_, h3⟩ | ⟨j, o', h3, h4, h5, h6⟩
  · rw [h] at h3; cases h3
  · rw [h] at h5
    injection h5 with h5
    subst h5
    refine ⟨(mem_tD _).2 ⟨j, (List.getElem?_eq_some_iff.1 h4).1, h4, by rw [h6.2]; exact h3⟩, h6⟩
theorem lastOp_of {t : List MOp} (hp : t.Pairwise fun x y => x.f1 ≠ y.f1) {o : MOp} {k : ByteArray} (ho : o ∈ t) (hk : opIs o k) : lastOp t k = some o := by
  have key : ∀ t : List MOp, t.Pairwise (fun x y => x.f1 ≠ y.f1) → o ∈ t → lastOp t k = some o := by
    refine snoc_ind ?_ ?_
    · intro _ h; simp at h
    · intro l a ih hp ho
      obtain ⟨h1, h2, h3⟩ := List.pairwise_append.1 hp
      rw [lastOp_snoc]
      rcases List.mem_append.1 ho with h | h
      · have hne := h3 o h a (by simp)
        rw [if_neg (fun z => hne (hk.2.trans z.2.symm)), ih h1 h]
      · rw [← List.mem_singleton.1 h, if_pos hk]
  exact key t hp ho
theorem lastOp_in {t : List MOp} {k : ByteArray} {o : MOp} : lastOp t k = some o → o ∈ t ∧ opIs o k := by
  refine snoc_ind (P := fun t => lastOp t k = some o → o ∈ t ∧ opIs o k) ?_ ?_ t
  · intro h; cases h
  · intro l a ih hn
    rw [lastOp_snoc] at hn
    by_cases ha : opIs a k
    · rw [if_pos ha] at hn
      injection hn with hn
      subst hn
      exact ⟨by simp, ha⟩
    · rw [if_neg ha] at hn
      exact ⟨by simp [(ih hn).1], (ih hn).2⟩
theorem turned_last (l : List MOp) (k : ByteArray) : lastOp (turned l) k = lastOp l k := by
  cases h : lastOp l k with
  | some o =>
    obtain ⟨h1, h2⟩ := turned_has h
    exact lastOp_of (tD_pair l _) h1 h2
  | none =>
    cases h2 : lastOp (turned l) k with
    | none => rfl
    | some o =>
      obtain ⟨h3, h4⟩ := lastOp_in h2
      obtain ⟨h5, _, _⟩ := turned_mem h3
      rw [h4.2, h] at h5
      cases h5
theorem turned_all {m : List MPr} (hr : oRise m) (l : List MOp) : oAll m (turned l) = oAll m l :=
  val_ext (oAll_rise _ hr) (oAll_rise _ hr) (fun k => by rw [val_all hr, val_all hr, turned_last])
theorem oDo_right {m : List MPr} (h : RightM m) (o : MOp) : RightM (oDo m o) := by
  refine ⟨fun p hp => ?_, oDo_rise o h.2⟩
  by_cases hk : OpK o
  · by_cases h0 : o.f0 = 0
    · unfold oDo at hp
      rw [if_pos hk, if_pos h0] at hp
      split at hp
      · exact h.1 p (List.mem_of_mem_eraseIdx hp)
      · exact h.1 p hp
    · rcases oDo_mem hp with hp | rfl
      · exact h.1 p hp
      · exact ⟨hk.1, hk.2.1, by have := hk.2.2.2; rw [if_neg h0] at this; show o.f2.size ≤ 256; omega⟩
  · unfold oDo at hp
    rw [if_neg hk] at hp
    exact h.1 p hp
theorem oAll_right : ∀ (l : List MOp) {m : List MPr}, RightM m → RightM (oAll m l)
  | [], _, h => h
  | o :: l, m, h => oAll_right l (oDo_right h o)
/-- What a key has behind all ops, asked of an op that is last. -/
theorem turned_val {m : List MPr} (hr : oRise m) {l : List MOp} {o : MOp} (h : o ∈ turned l) : oVal (oAll m l) o.f1 = opVal o := by
  rw [val_all hr, (turned_mem h).1]
theorem kept_val {m : List MPr} (hr : oRise m) {l : List MOp} {p : MPr} (hp : p ∈ m) (h : lastI l p.f0 = 0) : oVal (oAll m l) p.f0 = some p.f1 := by
  rw [val_all hr]
  rcases last_both p.f0 l with ⟨_, h3⟩ | ⟨j, o, h3, _⟩
  · rw [h3]
    exact (val_iff hr p).1 hp
  · omega
end Go.Proofs.YtkncjpafehnmnaaL

end

section
set_option linter.unusedVariables false
set_option linter.unusedSimpArgs false
namespace Go.Proofs.YtkncjpafehnmnaaL
open Go Go.RowKit Go.Maps Go.Proofs.YtkncjpafehnmnaaR Go.Proofs.YtkncjpafehnmnaaG Go.Proofs.Ytkncjpafehnmnaa.P Go.Proofs.YtkncjpafehnmnaaW.PrintWords
attribute [local go_sem] str_geq str_gtr str_leq
/-- The map of the last places. -/
def sLastF : Nat → DataW Nat → List MOp → DataW Nat
  | _, D, [] => D
  | j, D, o :: r => sLastF (j + 1) (if OpK o then D.put (.string o.f1.data.toList) (.lit (.int .i64 ((j + 1 : Nat) : Int))) else D) r
def sLast (l : List MOp) : DataW Nat := sLastF 0 (.map []) l
theorem sLastF_snoc (o : MOp) : ∀ (l : List MOp) (j : Nat) (D : DataW Nat), sLastF j D (l ++ [o]) = if OpK o then (sLastF j D l).put (.string o.f1.data.toList) (.lit (.int .i64 ((j + l.length + 1 : Nat) : Int))) else sLastF j D l
  | [], j, D => by simp [sLastF]
  | x :: l, j, D => by
    rw [List.cons_append, sLastF, sLastF_snoc o l, sLastF, List.length_cons, show j + 1 + l.length = j + (l.length + 1) by omega]
theorem sLast_snoc (l : List MOp) (o : MOp) : sLast (l ++ [o]) = if OpK o then (sLast l).put (.string o.f1.data.toList) (.lit (.int .i64 ((l.length + 1 : Nat) : Int))) else sLast l := by
  unfold sLast
  rw [sLastF_snoc, Nat.zero_add]
theorem sLast_map (l : List MOp) : IsMap (sLast l) := by
  refine snoc_ind (P := fun l => IsMap (sLast l)) isMap_empty ?_ l
  intro l o ih
  rw [sLast_snoc]
  split
  · exact ih.put _ _
  · exact ih
theorem sLast_at (s : ByteArray) (l : List MOp) : (sLast l).atKey (.string s.data.toList) (.lit (.int .i64 0)) = .lit (.int .i64 (lastI l s : Int)) := by
  refine snoc_ind (P := fun l => (sLast l).atKey (.string s.data.toList) (.lit (.int .i64 0)) = .lit (.int .i64 (lastI l s : Int))) rfl ?_ l
  intro l o ih
  rw [sLast_snoc, lastI_snoc]
  by_cases hk : OpK o
  · rw [if_pos hk]
    by_cases hs : o.f1 = s
    · rw [if_pos ⟨hk, hs⟩, hs, atKey_put_same (sLast_map l) (by trivial)]
    · have hne : (Lit.string s.data.toList) ≠ .string o.f1.data.toList := fun z => hs (by
        have h1 : s.data.toList = o.f1.data.toList := by injection z
        rw [← toList_data, ← toList_data] at h1
        exact (ba_ext h1).symm)
      rw [if_neg (fun z => hs z.2), atKey_put_other hne]
      exact ih
  · rw [if_neg hk, if_neg (fun z => hk z.1)]
    exact ih
theorem last_law : Keyed Try.prog 9 := string_keyed Try.underlying9
theorem last_zero (w : World) : (zeroValue 3).run Try.prog w = .ok (.int .i64 0) w := by kernel_rfl
theorem wf_small {a : Nat} (h : a < 1000000) : (Lit.int .i64 (a : Int)).wf = true := by simp [Lit.wf, IntKind.min, IntKind.max, IntKind.bits, IntKind.signed]; omega
theorem C_op1 {W : World} {b : Nat} {o : MOp} {t : TypeId} (h : W.heap[b]? = some (.cells #[.int .u8 o.f0, .string o.f1, .string o.f2] t)) : Kd.C k36 W (some ⟨b, 0, none⟩) ([o] : List MOp).length [o] := by
  obtain ⟨h0, h1, h2⟩ := box3 h
  exact ⟨rfl, by simp, fun _ => ⟨_, rfl, fun j q hj => by
    cases j with
    | succ j => simp at hj
    | zero =>
      obtain rfl : o = q := by simpa using hj
      refine ⟨[.int .u8 o.f0, .string o.f1, .string o.f2], rfl, k36_mk W o, fun i u hu => ?_⟩
      rw [Addr.add_lit, Nat.zero_add]
      simp only [Nat.zero_mul, Nat.zero_add]
      match i, hu with
      | 0, hu => rw [h0]; exact hu
      | 1, hu => rw [h1]; exact hu
      | 2, hu => rw [h2]; exact hu
      | i + 3, hu => simp at hu⟩⟩
theorem owns_up {w : World} {b n n' : Nat} {D : DataW Nat} (h : w.ownsMap Try.prog 9 (plainElem Try.prog 3) b n D) (hn : n ≤ n') : w.ownsMap Try.prog 9 (plainElem Try.prog 3) b n' D := by
  obtain ⟨es, clock, h1, h2, h3, h4⟩ := h
  exact ⟨es, clock, h1, h2, Nat.le_trans h3 hn, h4⟩
set_option maxRecDepth 100000 in
set_option maxHeartbeats 4000000 in
theorem last_calls (A0 A1 : Option Addr) (c0 c1 : Nat) (l0 : List MPr) (l1 : List MOp) (w : World) (hr0 : Kd.C k39 w A0 l0.length l0) (hc0 : l0.length ≤ c0) (hr1 : Kd.C k36 w A1 l1.length l1) (hc1 : l1.length ≤ c1) (hl0 : l0.length < 1000000000000000) (hl1 : l1.length < 1000000000000000) (hwf : ∀ o ∈ l1, 0 ≤ o.f0 ∧ o.f0 < 256) :
    Calls Try.prog 4 #[.slice A0 l0.length c0, .slice A1 l1.length c1] w fun e w' => e = .returned (.bool true) ∧ Below w.heap.size w w' := by
  obtain ⟨k1, hk1⟩ := Ev.rounds (pfew_f l0 60 (by omega))
  obtain ⟨k2, hk2⟩ := Ev.rounds (ofew_f l1 40 (by omega))
  obtain ⟨k3, hk3⟩ := Ev.rounds (oright_f l0 (by omega))
  obtain ⟨ka, hka⟩ := Ev.rounds awake12
  have HR0 := Aside0.mk hr0
  have HC0 := Aside0.mk hc0
  have HR1 := Aside0.mk hr1
  have HC1 := Aside0.mk hc1
  have HK1 := Aside0.mk hk1
  have HK2 := Aside0.mk hk2
  have HK3 := Aside0.mk hk3
  have HAW := Aside0.mk hka
  have HWF := Aside0.mk hwf
  clear hr0 hc0 hr1 hc1 hk1 hk2 hk3 hka hwf
  by_cases g1 : (∀ e ∈ l0, ShortP e) ∧ ((l0.length : Int) ≤ 60)
  · have e1 : (decide (∀ e ∈ l0, ShortP e) && decide ((l0.length : Int) ≤ 60)) = true := by simpa using g1
    rw [e1] at HK1
    by_cases g2 : (∀ e ∈ l1, ShortO e) ∧ ((l1.length : Int) ≤ 40)
    · have e2 : (decide (∀ e ∈ l1, ShortO e) && decide ((l1.length : Int) ≤ 40)) = true := by simpa using g2
      rw [e2] at HK2
      by_cases g3 : RightM l0
      · rw [decide_eq_true g3] at HK3
        have HG3 := Aside0.mk g3
        have HL0 : Aside0 (l0.length ≤ 60) := ⟨by omega⟩
        have HL1 : Aside0 (l1.length ≤ 40) := ⟨by omega⟩
        have HSH : Aside0 (∀ o ∈ l1, ShortO o) := ⟨g2.1⟩
        obtain ⟨nw, hnw⟩ : ∃ nw, nw = oAll l0 l1 := ⟨_, rfl⟩
        have HNW := Aside0.mk hnw
        have hnl : nw.length ≤ 100 := by have := oAll_len l1 l0; rw [hnw]; omega
        have HNL := Aside0.mk hnl
        have HAP1 : Aside0 (omap_Apply.f l0 l1 = some nw) := ⟨by rw [hnw]; exact oapply_f (by omega) g3.2 (by omega)⟩
        obtain ⟨td, htd⟩ : ∃ td, td = turned l1 := ⟨_, rfl⟩
        have HTD := Aside0.mk htd
        have htl : td.length ≤ 40 := by have := tD_len l1 l1.length; rw [htd]; unfold turned; omega
        have HTL := Aside0.mk htl
        have HAP2 : Aside0 (omap_Apply.f l0 td = some nw) := ⟨by rw [hnw, ← turned_all g3.2 l1, ← htd]; exact oapply_f (by omega) g3.2 (by omega)⟩
        obtain ⟨kp, hkp⟩ := Ev.rounds (pairs_same nw (by omega))
        have HKP := Aside0.mk hkp
        obtain ⟨kr, hkr⟩ := Ev.rounds (oright_f nw (by omega))
        rw [decide_eq_true (show RightM nw by rw [hnw]; exact oAll_right l1 g3)] at hkr
        have HKR := Aside0.mk hkr
        have HG4 : Aside0 (oRise nw) := ⟨by rw [hnw]; exact oAll_rise l1 g3.2⟩
        have hmm := @run_makeMap Try.prog
        clear g1 g2 g3 e1 e2 hl0 hl1 hkp hkr hnw htd hnl htl
        go_enter Try.func4, Try.ntmps4
        go_wp2_with (first | (go_at_call 13; refine (ratlinelaw12_few.calls k1 _ _ l0 60 true _ HR0.out HC0.out HK1.out).mono ?_; rintro e w1 ⟨rfl, hb1⟩; have HB := Aside0.mk hb1; clear hb1) | (go_at_call 14; refine (ratlinelaw04_Few.calls k2 _ _ l1 40 true _ (Kd.C_below HR1.out HB.out) HC1.out HK2.out).mono ?_; rintro e w2 ⟨rfl, hb2⟩; have HB := Aside0.mk (below_step HB.out hb2); clear hb2) | (go_at_call 16; refine (omap_Right.calls k3 _ _ l0 true _ (Kd.C_below HR0.out HB.out) HC0.out HK3.out).mono ?_; rintro e w3 ⟨rfl, hb3⟩; have HB := Aside0.mk (below_step HB.out hb3); clear hb3) | (go_at_call 21; (with_reducible refine (omap_Apply.calls A0 c0 l0 A1 c1 l1 nw _ (Kd.C_below HR0.out HB.out) HC0.out (Kd.C_below HR1.out HB.out) HC1.out HAP1.out).mono ?_); rintro e w5 ⟨v5, rfl, hr5, hb5⟩; obtain ⟨A5, c5, rfl, hc5, hC5⟩ := Kd.R_reads hr5; have HC5 := Aside0.mk hC5; have HD5 := Aside0.mk hc5; have HB5 := Aside0.mk (below_step HB.out hb5); clear hr5 hb5 hC5 hc5))
        go_loopg [40] l1.length (fun kq v40 wr => ∃ i : Nat, v40 = .int .i64 (i : Int) ∧ Aside0 (i + kq = l1.length) ∧ Aside0 (Below w5.heap.size w5 wr) ∧ Aside0 (wr.ownsMap Try.prog 9 (plainElem Try.prog 3) w5.heap.size i (sLast (l1.take i))))
        case atStart => exact ⟨0, rfl, ⟨by omega⟩, ⟨below_alloc (Below.refl _ _) _⟩, ⟨World.ownsMap_made _ _ _ _⟩⟩
        case round =>
          obtain ⟨i, rfl, HI, HBL, HO⟩ := hrel
          by_cases hi : i < l1.length
          · cases gk with
            | zero => exact absurd HI.out (by omega)
            | succ k1 =>
              have hib : decide ((i : Int) < (l1.length : Int)) = true := decide_eq_true (by omega)
              have hib2 : decide (i < l1.length) = true := decide_eq_true hi
              have hi1 : wrap64 ((i : Int) + 1) = ((i + 1 : Nat) : Int) := by have := HL1.out; unfold wrap64; omega
              obtain ⟨ad, hA, hx0, hx1, hx2⟩ := at_T36 (Kd.C_below HR1.out (below_step HB5.out HBL.out)) (i : Int) (by omega) (by omega)
              subst hA
              rw [rd_op l1 hi] at hx0 hx1 hx2
              obtain ⟨o, ho⟩ : ∃ o, o = l1[i] := ⟨_, rfl⟩
              rw [← ho] at hx0 hx1 hx2
              have ho2 : l1[i]? = some o := by rw [ho, List.getElem?_eq_getElem hi]
              simp only [Int.toNat_natCast] at hx0 hx1 hx2
              have hop := opK_f o
              have HOP := Aside0.mk hop
              have HO2 := Aside0.mk ho2
              have HKEY := Aside0.mk (Go.WideMaps.keyOf_string_mk Try.underlying9 (s := o.f1) (by have := (HSH.out o (List.mem_of_getElem? ho2)).1; unfold maxLen; omega))
              have hnx : sLast (l1.take (i + 1)) = if OpK o then (sLast (l1.take i)).put (.string o.f1.data.toList) (.lit (.int .i64 ((i + 1 : Nat) : Int))) else sLast (l1.take i) := by
                rw [List.take_add_one, ho2]
                show sLast (l1.take i ++ [o]) = _
                rw [sLast_snoc, List.length_take, Nat.min_eq_left (by omega)]
              clear ho ho2 hop
              by_cases hk : OpK o
              · rw [if_pos hk] at hnx
                have HNX := Aside0.mk hnx
                have HOT : Aside0 (batch_Op.f o.f0 o.f1 o.f2 = some true) := ⟨by rw [HOP.out, decide_eq_true hk]⟩
                clear hnx hk
                go_wp2_with (first | (go_at_call 25; refine (batch_Op.calls o.f0 o.f1 o.f2 true _ HOT.out).mono ?_; rintro e w6 ⟨rfl, hb6⟩; have HB6 := Aside0.mk (below_then (below_alloc (Below.refl wr.heap.size wr) _) (by simp) hb6); obtain ⟨ha6, hd6, he6⟩ := box3 ((hb6.block wr.heap.size (by simp)).trans (World.alloc_heap_new wr _)); have HM6 := Aside0.mk (World.ownsMap.kept HO.out (grown_of_below HB6.out none) (by simp)); clear hb6) | (at_mapUpdate; refine wpList_mapUpdate_own _ ?hgd (.tmp 47) (.tmp 49) (.tmp 51) 34 ?hop 9 3 last_law Try.underlying34 (plainElem Try.prog 3) w5.heap.size i (sLast (l1.take i)) ?hm ?hown (by have := HI.out; have := HL1.out; unfold maxLen; omega) (.string o.f1) (.int .i64 ((i + 1 : Nat) : Int)) (.string o.f1.data.toList) ?hx ?hv HKEY.out (.lit (.int .i64 ((i + 1 : Nat) : Int))) [] (plainElem_int Try.underlying3 (wf_small (by have := HI.out; have := HL1.out; omega))) ?_; (case hgd => rfl); (case hop => rfl); (case hm => rfl); (case hown => exact HM6.out); (case hx => rfl); (case hv => first | rfl | (rw [← hi1]; rfl)); intro w7 ho7 hg7; have HO7 := Aside0.mk ho7; have HG7 := Aside0.mk hg7; clear ho7 hg7))
                go_roundg k1
                case measure => exact Nat.lt_succ_self _
                case rel => exact ⟨i + 1, by rw [hi1], ⟨by have := HI.out; omega⟩, ⟨(below_then HBL.out HBL.out.size HB6.out).grown HG7.out (Nat.le_trans HBL.out.size HB6.out.size) (fun k hk => by injection hk with hk; omega)⟩, ⟨by rw [HNX.out]; exact HO7.out⟩⟩
              · rw [if_neg hk] at hnx
                have HNX := Aside0.mk hnx
                have HOT : Aside0 (batch_Op.f o.f0 o.f1 o.f2 = some false) := ⟨by rw [HOP.out, decide_eq_false hk]⟩
                clear hnx hk
                go_wp2_with (go_at_call 25; refine (batch_Op.calls o.f0 o.f1 o.f2 false _ HOT.out).mono ?_; rintro e w6 ⟨rfl, hb6⟩; have HB6 := Aside0.mk (below_then (below_alloc (Below.refl wr.heap.size wr) _) (by simp) hb6); have HM6 := Aside0.mk (World.ownsMap.kept HO.out (grown_of_below HB6.out none) (by simp)); clear hb6)
                go_roundg k1
                case measure => exact Nat.lt_succ_self _
                case rel => exact ⟨i + 1, by rw [hi1], ⟨by have := HI.out; omega⟩, ⟨below_then HBL.out HBL.out.size HB6.out⟩, ⟨by rw [HNX.out]; exact owns_up HM6.out (by omega)⟩⟩
          · have hib : decide ((i : Int) < (l1.length : Int)) = false := decide_eq_false (by omega)
            have hib2 : decide (i < l1.length) = false := decide_eq_false hi
            have he : l1.take i = l1 := List.take_of_length_le (by omega)
            have HM : Aside0 (wr.ownsMap Try.prog 9 (plainElem Try.prog 3) w5.heap.size i (sLast l1)) := ⟨by have := HO.out; rwa [he] at this⟩
            have HWR := Aside0.mk HBL.out
            have HIL : Aside0 (i ≤ 40) := ⟨by have := HI.out; have := HL1.out; omega⟩
            clear he HO HBL hi
            have HS1 : Aside0 (wrap64 ((l1.length : Int) - 1) = (l1.length : Int) - 1) := ⟨by have := HL1.out; unfold wrap64; omega⟩
            go_wp2
            obtain ⟨wA, hwA⟩ : ∃ wA, wA = wr := ⟨_, rfl⟩
            subst hwA
            go_loopg [9, 10] l1.length (fun kq v9 v10 wr => ∃ (z : Int) (out : List MOp), v10 = .int .i64 z ∧ Aside0 (z = (kq : Int) - 1) ∧ Aside0 (kq ≤ l1.length) ∧ Aside0 (Below wA.heap.size wA wr) ∧ Aside0 (Kd.R k36 36 wr wA.heap.size (fun _ => True) v9 out) ∧ Aside0 (out ++ tD l1 kq = td))
            case atStart => exact ⟨_, [], rfl, ⟨by rw [HS1.out]⟩, ⟨Nat.le_refl _⟩, ⟨Below.refl _ _⟩, ⟨Kd.R_nil _ _ _ _ _⟩, ⟨by rw [HTD.out]; rfl⟩⟩
            case round =>
              obtain ⟨z, out, rfl, HZ, HLE, HBQ, HOU, HD⟩ := hrel
              cases gk with
              | zero =>
                have hz : decide ((0 : Int) ≤ z) = false := decide_eq_false (by have := HZ.out; omega)
                have hz2 : decide (z ≥ (0 : Int)) = false := decide_eq_false (by have := HZ.out; omega)
                have hd : out = td := by have := HD.out; rw [show tD l1 0 = [] from rfl, List.append_nil] at this; exact this
                subst hd
                obtain ⟨A9, c9, e9⟩ := Kd.R_slice HOU.out
                subst e9
                have HRT := Aside0.mk (Kd.R_reads' HOU.out).2.2
                have HRD := Aside0.mk (Kd.R_reads' HOU.out).2.1
                have HBA := Aside0.mk (below_step HWR.out HBQ.out)
                have HMB := Aside0.mk (World.ownsMap.kept HM.out (grown_of_below HBQ.out none) (by simp))
                clear HOU
                go_wp2_with (first | (go_at_call 16; refine (omap_Right.calls kr _ _ nw true _ (Kd.C_below HC5.out HBA.out) HD5.out HKR.out).mono ?_; rintro e wb ⟨rfl, hbb⟩; have HX := Aside0.mk hbb; clear hbb) | (go_at_call 21; refine (omap_Apply.calls A0 c0 l0 A9 c9 out nw _ (Kd.C_below HR0.out (below_step HB5.out (below_step HBA.out HX.out))) HC0.out (Kd.C_below HRT.out HX.out) HRD.out HAP2.out).mono ?_; rintro e wc ⟨vc, rfl, hrc, hbc⟩; obtain ⟨Ac, cc, rfl, hcc, hCc⟩ := Kd.R_reads hrc; have HCc := Aside0.mk hCc; have HDc := Aside0.mk hcc; have HX := Aside0.mk (below_step HX.out hbc); clear hrc hbc hCc hcc) | (go_at_call 20; refine (ratlinelaw11_Pairs.calls kp _ _ nw _ _ nw true _ HCc.out HDc.out (Kd.C_below HC5.out (below_step HBA.out HX.out)) HD5.out HKP.out).mono ?_; rintro e wd ⟨rfl, hdd⟩; have HX := Aside0.mk (below_step HX.out hdd.below); clear hdd))
                obtain ⟨wB, hwB⟩ : ∃ wB, wB = wd := ⟨_, rfl⟩
                subst hwB
                go_loopg [88] out.length (fun kq v88 wr => ∃ j : Nat, v88 = .int .i64 (j : Int) ∧ Aside0 (j + kq = out.length) ∧ Aside0 (Below wB.heap.size wB wr))
                case atStart => exact ⟨0, rfl, ⟨by omega⟩, ⟨Below.refl _ _⟩⟩
                case round =>
                  obtain ⟨j, rfl, HJ, HBJ⟩ := hrel
                  by_cases hj : j < out.length
                  · cases gk with
                    | zero => exact absurd HJ.out (by omega)
                    | succ k7 =>
                      have hjb : decide ((j : Int) < (out.length : Int)) = true := decide_eq_true (by omega)
                      have hjb2 : decide (j < out.length) = true := decide_eq_true hj
                      have hj1 : wrap64 ((j : Int) + 1) = ((j + 1 : Nat) : Int) := by have := HTL.out; unfold wrap64; omega
                      obtain ⟨ad, hA, hx0, hx1, hx2⟩ := at_T36 (Kd.C_below HRT.out (below_step HX.out HBJ.out)) (j : Int) (by omega) (by omega)
                      subst hA
                      rw [rd_op out hj] at hx0 hx1 hx2
                      obtain ⟨o, ho⟩ : ∃ o, o = out[j] := ⟨_, rfl⟩
                      rw [← ho] at hx0 hx1 hx2
                      have ho2 : o ∈ turned l1 := by rw [ho, ← HTD.out]; exact List.getElem_mem _
                      simp only [Int.toNat_natCast] at hx0 hx1 hx2
                      have hgv : omap_Get.f nw o.f1 = some ((opVal o).getD ⟨#[]⟩, (opVal o).isSome) := by
                        rw [oget_f (by have := HNL.out; omega) HG4.out]
                        have := turned_val HG3.out.2 ho2
                        rw [← HNW.out] at this
                        rw [this]
                      have hk1 : o.f0 ≤ 1 ∧ 0 ≤ o.f0 := ⟨(turned_mem ho2).2.1.1.2.2.1, (HWF.out o (turned_mem ho2).2.2).1⟩
                      clear ho ho2
                      by_cases h0 : o.f0 = 0
                      · have hz : (o.f0 == 1) = false := by rw [h0]; rfl
                        have hz2 : ¬ (o.f0 = 1) := by omega
                        have HGV : Aside0 (omap_Get.f nw o.f1 = some (⟨#[]⟩, false)) := ⟨by rw [hgv]; unfold opVal; rw [if_pos h0]; rfl⟩
                        clear h0 hgv hk1
                        go_wp2_with (go_at_call 18; refine (omap_Get.calls _ _ nw o.f1 ⟨#[]⟩ false _ (Kd.C_alloc (Kd.C_below HC5.out (below_step HBA.out (below_step HX.out HBJ.out))) _) HD5.out HGV.out).mono ?_; rintro e we ⟨rfl, hbe⟩; have HBE := Aside0.mk (below_then (below_alloc HBJ.out _) (by have := HBJ.out.size; simp; omega) hbe); obtain ⟨ha6, hd6, he6⟩ := box3 ((hbe.block wr.heap.size (by simp)).trans (World.alloc_heap_new wr _)); clear hbe)
                        go_roundg k7
                        case measure => exact Nat.lt_succ_self _
                        case rel => exact ⟨j + 1, by rw [hj1], ⟨by have := HJ.out; omega⟩, ⟨HBE.out⟩⟩
                      · have hz : (o.f0 == 1) = true := by rw [show o.f0 = 1 by omega]; rfl
                        have HGV : Aside0 (omap_Get.f nw o.f1 = some (o.f2, true)) := ⟨by rw [hgv]; unfold opVal; rw [if_neg h0]; rfl⟩
                        clear h0 hgv hk1
                        go_wp2_with (go_at_call 18; refine (omap_Get.calls _ _ nw o.f1 o.f2 true _ (Kd.C_alloc (Kd.C_below HC5.out (below_step HBA.out (below_step HX.out HBJ.out))) _) HD5.out HGV.out).mono ?_; rintro e we ⟨rfl, hbe⟩; have HBE := Aside0.mk (below_then (below_alloc HBJ.out _) (by have := HBJ.out.size; simp; omega) hbe); obtain ⟨ha6, hd6, he6⟩ := box3 ((hbe.block wr.heap.size (by simp)).trans (World.alloc_heap_new wr _)); clear hbe)
                        go_roundg k7
                        case measure => exact Nat.lt_succ_self _
                        case rel => exact ⟨j + 1, by rw [hj1], ⟨by have := HJ.out; omega⟩, ⟨HBE.out⟩⟩
                  · have hjb : decide ((j : Int) < (out.length : Int)) = false := decide_eq_false (by omega)
                    have hjb2 : decide (j < out.length) = false := decide_eq_false hj
                    have HX2 := Aside0.mk (below_step HX.out HBJ.out)
                    clear HBJ
                    go_wp2
                    obtain ⟨wC, hwC⟩ : ∃ wC, wC = wr := ⟨_, rfl⟩
                    subst hwC
                    go_loopg [116] l0.length (fun kq v116 wr => ∃ j : Nat, v116 = .int .i64 (j : Int) ∧ Aside0 (j + kq = l0.length) ∧ Aside0 (Below wC.heap.size wC wr))
                    case atStart => exact ⟨0, rfl, ⟨by omega⟩, ⟨Below.refl _ _⟩⟩
                    case round =>
                      clear hjb hjb2 hj HJ
                      obtain ⟨j, rfl, HJ, HBJ⟩ := hrel
                      by_cases hj : j < l0.length
                      · cases gk with
                        | zero => exact absurd HJ.out (by omega)
                        | succ k8 =>
                          have hjb : decide ((j : Int) < (l0.length : Int)) = true := decide_eq_true (by omega)
                          have hjb2 : decide (j < l0.length) = true := decide_eq_true hj
                          have hj1 : wrap64 ((j : Int) + 1) = ((j + 1 : Nat) : Int) := by have := HL0.out; unfold wrap64; omega
                          obtain ⟨ad, hA, hx0, hx1⟩ := at_T39 (Kd.C_below HR0.out (below_step HB5.out (below_step HBA.out (below_step HX2.out HBJ.out)))) (j : Int) (by omega) (by omega)
                          subst hA
                          rw [rd_pr l0 hj] at hx0 hx1
                          obtain ⟨p, hp⟩ : ∃ p, p = l0[j] := ⟨_, rfl⟩
                          rw [← hp] at hx0 hx1
                          have hp2 : p ∈ l0 := by rw [hp]; exact List.getElem_mem _
                          simp only [Int.toNat_natCast] at hx0 hx1
                          have HKEY := Aside0.mk (Go.WideMaps.keyOf_string_mk Try.underlying9 (s := p.f0) (by have := (HG3.out.1 p hp2).2.1; unfold maxLen; omega))
                          have HCC : Aside0 (∀ c : Int, (sLast l1).atKey (.string p.f0.data.toList) (.lit (.int .i64 0)) = .lit (.int .i64 c) → c = (lastI l1 p.f0 : Int)) := ⟨fun c hc => by
                            rw [sLast_at] at hc
                            injection hc with hc
                            injection hc with _ hc
                            exact hc.symm⟩
                          have hgv : omap_Get.f nw p.f0 = some ((oVal nw p.f0).getD ⟨#[]⟩, (oVal nw p.f0).isSome) := oget_f (by have := HNL.out; omega) HG4.out _
                          have hkv : lastI l1 p.f0 = 0 → oVal nw p.f0 = some p.f1 := fun h => by have := kept_val HG3.out.2 hp2 h; rwa [← HNW.out] at this
                          clear hp hp2
                          by_cases hq : lastI l1 p.f0 = 0
                          · have HGV : Aside0 (omap_Get.f nw p.f0 = some (p.f1, true)) := ⟨by rw [hgv, hkv hq]; rfl⟩
                            have HCQ : Aside0 (∀ c : Int, c = (lastI l1 p.f0 : Int) → c = 0) := ⟨fun c hc => by rw [hc, hq]; rfl⟩
                            clear hgv hkv hq
                            go_wp2_with (first | (go_at_call 18; refine (omap_Get.calls _ _ nw p.f0 p.f1 true _ (Kd.C_alloc (Kd.C_below HC5.out (below_step HBA.out (below_step HX2.out HBJ.out))) _) HD5.out HGV.out).mono ?_; rintro e we ⟨rfl, hbe⟩; have HBE := Aside0.mk (below_then (below_alloc HBJ.out _) (by have := HBJ.out.size; simp; omega) hbe); obtain ⟨ha6, hd6⟩ := box2 ((hbe.block wr.heap.size (by simp)).trans (World.alloc_heap_new wr _)); have HM9 := Aside0.mk (World.ownsMap.kept HMB.out (grown_of_below (below_step HX2.out HBE.out) none) (by simp)); clear hbe) | (at_lookup; refine wpList_lookup_own_int _ ?hgd (.tmp 127) (.tmp 129) 34 ?hop 9 3 .i64 last_law Try.underlying34 Try.underlying3 (last_zero _) w5.heap.size i (sLast l1) ?hm HM9.out (.string p.f0) (.string p.f0.data.toList) ?hx HKEY.out ?_; (case hgd => rfl); (case hop => rfl); (case hm => rfl); (case hx => rfl); intro c hat hwc; have hc := HCQ.out c (HCC.out c hat); subst hc; clear hat hwc))
                            go_roundg k8
                            case measure => exact Nat.lt_succ_self _
                            case rel => exact ⟨j + 1, by rw [hj1], ⟨by have := HJ.out; omega⟩, ⟨HBE.out⟩⟩
                          · obtain ⟨gv, hgv1⟩ : ∃ gv, gv = (oVal nw p.f0).getD ⟨#[]⟩ := ⟨_, rfl⟩
                            obtain ⟨gb, hgb1⟩ : ∃ gb, gb = (oVal nw p.f0).isSome := ⟨_, rfl⟩
                            rw [← hgv1, ← hgb1] at hgv
                            have HGV := Aside0.mk hgv
                            have HCQ : Aside0 (∀ c : Int, c = (lastI l1 p.f0 : Int) → ¬ (c = 0)) := ⟨fun c hc => by omega⟩
                            clear hgv hkv hq hgv1 hgb1
                            go_wp2_with (first | (go_at_call 18; refine (omap_Get.calls _ _ nw p.f0 gv gb _ (Kd.C_alloc (Kd.C_below HC5.out (below_step HBA.out (below_step HX2.out HBJ.out))) _) HD5.out HGV.out).mono ?_; rintro e we ⟨rfl, hbe⟩; have HBE := Aside0.mk (below_then (below_alloc HBJ.out _) (by have := HBJ.out.size; simp; omega) hbe); obtain ⟨ha6, hd6⟩ := box2 ((hbe.block wr.heap.size (by simp)).trans (World.alloc_heap_new wr _)); have HM9 := Aside0.mk (World.ownsMap.kept HMB.out (grown_of_below (below_step HX2.out HBE.out) none) (by simp)); clear hbe) | (at_lookup; refine wpList_lookup_own_int _ ?hgd (.tmp 127) (.tmp 129) 34 ?hop 9 3 .i64 last_law Try.underlying34 Try.underlying3 (last_zero _) w5.heap.size i (sLast l1) ?hm HM9.out (.string p.f0) (.string p.f0.data.toList) ?hx HKEY.out ?_; (case hgd => rfl); (case hop => rfl); (case hm => rfl); (case hx => rfl); intro c hat hwc; have hn1 := HCQ.out c (HCC.out c hat); clear hat hwc))
                            go_roundg k8
                            case measure => exact Nat.lt_succ_self _
                            case rel => exact ⟨j + 1, by rw [hj1], ⟨by have := HJ.out; omega⟩, ⟨HBE.out⟩⟩
                      · have hjb : decide ((j : Int) < (l0.length : Int)) = false := decide_eq_false (by omega)
                        have hjb2 : decide (j < l0.length) = false := decide_eq_false hj
                        go_wp2_with (go_at_call 15; refine (ratlinelaw12_awake.calls ka true _ HAW.out).mono ?_; rintro e wy ⟨rfl, hby⟩)
                        go_ret
                        exact ⟨rfl, below_step HB5.out (below_step HBA.out (below_step HX2.out (below_step HBJ.out hby)))⟩
              | succ r =>
                obtain rfl : z = (r : Int) := by have := HZ.out; omega
                have hr : r < l1.length := by have := HLE.out; omega
                have hz : decide ((0 : Int) ≤ (r : Int)) = true := decide_eq_true (by omega)
                have hz2 : decide ((r : Int) ≥ (0 : Int)) = true := decide_eq_true (by omega)
                have hr1 : wrap64 ((r : Int) + 1) = ((r + 1 : Nat) : Int) := by have := HL1.out; unfold wrap64; omega
                have hr2 : wrap64 ((r : Int) - 1) = (r : Int) - 1 := by have := HL1.out; unfold wrap64; omega
                obtain ⟨ad, hA, hx0, hx1, hx2⟩ := at_T36 (Kd.C_below HR1.out (below_step HB5.out (below_step HWR.out HBQ.out))) (r : Int) (by omega) (by omega)
                subst hA
                rw [rd_op l1 hr] at hx0 hx1 hx2
                obtain ⟨o, ho⟩ : ∃ o, o = l1[r] := ⟨_, rfl⟩
                rw [← ho] at hx0 hx1 hx2
                have ho2 : l1[r]? = some o := by rw [ho, List.getElem?_eq_getElem hr]
                simp only [Int.toNat_natCast] at hx0 hx1 hx2
                have HKEY := Aside0.mk (Go.WideMaps.keyOf_string_mk Try.underlying9 (s := o.f1) (by have := (HSH.out o (List.mem_of_getElem? ho2)).1; unfold maxLen; omega))
                have htk : tK l1 r = if lastI l1 o.f1 = r + 1 then [o] else [] := by unfold tK; rw [ho2]
                have hdd : out ++ (tK l1 r ++ tD l1 r) = td := HD.out
                have HCC : Aside0 (∀ c : Int, (sLast l1).atKey (.string o.f1.data.toList) (.lit (.int .i64 0)) = .lit (.int .i64 c) → c = (lastI l1 o.f1 : Int)) := ⟨fun c hc => by
                  rw [sLast_at] at hc
                  injection hc with hc
                  injection hc with _ hc
                  exact hc.symm⟩
                obtain ⟨A9, c9, e9⟩ := Kd.R_slice HOU.out
                subst e9
                have HOL : Aside0 (out.length ≤ 40) := ⟨by have := HTL.out; have h := congrArg List.length hdd; rw [List.length_append] at h; omega⟩
                have HM8 : Aside0 ((wr.alloc (.cells #[.int .u8 o.f0, .string o.f1, .string o.f2] 36)).ownsMap Try.prog 9 (plainElem Try.prog 3) w5.heap.size i (sLast l1)) := ⟨World.ownsMap.kept HM.out (grown_of_below (below_alloc HBQ.out _) none) (by simp)⟩
                clear ho ho2 HD
                by_cases hq : lastI l1 o.f1 = r + 1
                · rw [if_pos hq] at htk
                  rw [htk, ← List.append_assoc] at hdd
                  have HDD := Aside0.mk hdd
                  have hcq : ∀ c : Int, c = (lastI l1 o.f1 : Int) → c = ((r + 1 : Nat) : Int) := fun c hc => by rw [hc, hq]
                  have HCQ := Aside0.mk hcq
                  clear hdd htk hq hcq
                  go_wp2_with (first | (at_lookup; refine wpList_lookup_own_int _ ?hgd (.tmp 64) (.tmp 66) 34 ?hop 9 3 .i64 last_law Try.underlying34 Try.underlying3 (last_zero _) w5.heap.size i (sLast l1) ?hm HM8.out (.string o.f1) (.string o.f1.data.toList) ?hx HKEY.out ?_; (case hgd => rfl); (case hop => rfl); (case hm => rfl); (case hx => rfl); intro c hat hwc; have hc := HCQ.out c (HCC.out c hat); subst hc; clear hat hwc) | ((with_reducible refine gate_builtin (b := .append) (xs := #[.tmp 71, .tmp 73]) rfl ?_); at_builtin; refine Kd.R_append_rows k36 (w0 := wA) wA.heap.size rfl (.tmp 71) (.tmp 73) 23 36 (.agg #[.int .u8 0, .string ⟨#[]⟩, .string ⟨#[]⟩]) 40 rfl Try.underlying23 info36 rfl (by decide) (by decide) (.slice A9 out.length c9) out [o] _ _ _ (fun _ => True) (fun _ => False) rfl rfl ?aO ?aR (fun _ _ h => h) (fun _ h => h.elim) ?aF ?aB ?aS ?aL ?_; (case aO => exact Kd.R_alloc (Kd.R_alloc HOU.out _) _); (case aR => exact C_op1 (t := 36) (by have h7 := World.alloc_heap_new (wr.alloc (.cells #[.int .u8 o.f0, .string o.f1, .string o.f2] 36)) (.cells #[.int .u8 o.f0, .string o.f1, .string o.f2] 36); rwa [World.size_alloc] at h7)); (case aF => exact (fun _ _ => trivial)); (case aB => exact below_alloc (below_alloc HBQ.out _) _); (case aS => have := HBQ.out.size; simp; omega); (case aL => have := HOL.out; omega); intro v1 w1 ho1 hb1 hg1 hat1; have HO9 := Aside0.mk ho1; have HB9 := Aside0.mk hb1; clear ho1 hb1 hg1 hat1))
                  go_roundg r
                  case measure => exact Nat.lt_succ_self _
                  case rel => exact ⟨_, out ++ [o], rfl, ⟨by rw [hr2]⟩, ⟨by omega⟩, ⟨HB9.out⟩, ⟨HO9.out⟩, HDD⟩
                · rw [if_neg hq] at htk
                  rw [htk, List.nil_append] at hdd
                  have HDD := Aside0.mk hdd
                  have hcq : ∀ c : Int, c = (lastI l1 o.f1 : Int) → ¬ (c = ((r + 1 : Nat) : Int)) ∧ ¬ (c = (r : Int) + 1) := fun c hc => by omega
                  have HCQ := Aside0.mk hcq
                  clear hdd htk hq hcq
                  go_wp2_with (at_lookup; refine wpList_lookup_own_int _ ?hgd (.tmp 64) (.tmp 66) 34 ?hop 9 3 .i64 last_law Try.underlying34 Try.underlying3 (last_zero _) w5.heap.size i (sLast l1) ?hm HM8.out (.string o.f1) (.string o.f1.data.toList) ?hx HKEY.out ?_; (case hgd => rfl); (case hop => rfl); (case hm => rfl); (case hx => rfl); intro c hat hwc; obtain ⟨hn1, hn2⟩ := HCQ.out c (HCC.out c hat); clear hat hwc)
                  go_roundg r
                  case measure => exact Nat.lt_succ_self _
                  case rel => exact ⟨_, out, rfl, ⟨by rw [hr2]⟩, ⟨by omega⟩, ⟨below_alloc HBQ.out _⟩, ⟨Kd.R_alloc HOU.out _⟩, HDD⟩
      · rw [decide_eq_false g3] at HK3
        go_enter Try.func4, Try.ntmps4
        go_wp2_with (first | (go_at_call 13; refine (ratlinelaw12_few.calls k1 _ _ l0 60 true _ HR0.out HC0.out HK1.out).mono ?_; rintro e w1 ⟨rfl, hb1⟩; have HB := Aside0.mk hb1; clear hb1) | (go_at_call 14; refine (ratlinelaw04_Few.calls k2 _ _ l1 40 true _ (Kd.C_below HR1.out HB.out) HC1.out HK2.out).mono ?_; rintro e w2 ⟨rfl, hb2⟩; have HB := Aside0.mk (below_step HB.out hb2); clear hb2) | (go_at_call 16; refine (omap_Right.calls k3 _ _ l0 false _ (Kd.C_below HR0.out HB.out) HC0.out HK3.out).mono ?_; rintro e w3 ⟨rfl, hb3⟩; have HB := Aside0.mk (below_step HB.out hb3); clear hb3) | (go_at_call 15; refine (ratlinelaw12_awake.calls ka true _ HAW.out).mono ?_; rintro e wy ⟨rfl, hby⟩))
        go_ret
        exact ⟨rfl, below_step HB.out hby⟩
    · have e2 : (decide (∀ e ∈ l1, ShortO e) && decide ((l1.length : Int) ≤ 40)) = false := by simpa using g2
      rw [e2] at HK2
      go_enter Try.func4, Try.ntmps4
      go_wp2_with (first | (go_at_call 13; refine (ratlinelaw12_few.calls k1 _ _ l0 60 true _ HR0.out HC0.out HK1.out).mono ?_; rintro e w1 ⟨rfl, hb1⟩; have HB := Aside0.mk hb1; clear hb1) | (go_at_call 14; refine (ratlinelaw04_Few.calls k2 _ _ l1 40 false _ (Kd.C_below HR1.out HB.out) HC1.out HK2.out).mono ?_; rintro e w2 ⟨rfl, hb2⟩; have HB := Aside0.mk (below_step HB.out hb2); clear hb2) | (go_at_call 15; refine (ratlinelaw12_awake.calls ka true _ HAW.out).mono ?_; rintro e wy ⟨rfl, hby⟩))
      go_ret
      exact ⟨rfl, below_step HB.out hby⟩
  · have e1 : (decide (∀ e ∈ l0, ShortP e) && decide ((l0.length : Int) ≤ 60)) = false := by simpa using g1
    rw [e1] at HK1
    go_enter Try.func4, Try.ntmps4
    go_wp2_with (first | (go_at_call 13; refine (ratlinelaw12_few.calls k1 _ _ l0 60 false _ HR0.out HC0.out HK1.out).mono ?_; rintro e w1 ⟨rfl, hb1⟩; have HB := Aside0.mk hb1; clear hb1) | (go_at_call 15; refine (ratlinelaw12_awake.calls ka true _ HAW.out).mono ?_; rintro e wy ⟨rfl, hby⟩))
    go_ret
    exact ⟨rfl, below_step HB.out hby⟩
end Go.Proofs.YtkncjpafehnmnaaL

end

section
set_option linter.unusedVariables false
namespace Go.Proofs.Ytkncjpafehnmnaa.P
open Go Go.RowKit Go.Proofs.YtkncjpafehnmnaaG Go.Proofs.YtkncjpafehnmnaaL Go.Proofs.YtkncjpafehnmnaaW.PrintWords
noncomputable def ratlinelaw12_OmapLast.f (_ : Nat) (l0 : List MPr) (l1 : List MOp) : Option Bool :=
  open Classical in if l0.length < 1000000000000000 ∧ l1.length < 1000000000000000 ∧ (∀ o ∈ l1, 0 ≤ o.f0 ∧ o.f0 < 256) then some true else none
theorem ratlinelaw12_OmapLast.calls (k : Nat) (A0 : Option Addr) (c0 : Nat) (l0 : List MPr) (A1 : Option Addr) (c1 : Nat) (l1 : List MOp) (r : Bool) (w : World)
    (hr0 : Kd.C k39 w A0 l0.length l0) (hc0 : l0.length ≤ c0) (hr1 : Kd.C k36 w A1 l1.length l1) (hc1 : l1.length ≤ c1) (h : ratlinelaw12_OmapLast.f k l0 l1 = some r) :
    Calls Try.prog 4 #[.slice A0 l0.length c0, .slice A1 l1.length c1] w fun e w' => e = .returned (.bool r) ∧ Below w.heap.size w w' := by
  unfold ratlinelaw12_OmapLast.f at h
  by_cases hc : l0.length < 1000000000000000 ∧ l1.length < 1000000000000000 ∧ (∀ o ∈ l1, 0 ≤ o.f0 ∧ o.f0 < 256)
  · rw [if_pos hc] at h
    obtain rfl := Option.some.inj h
    exact last_calls A0 A1 c0 c1 l0 l1 w hr0 hc0 hr1 hc1 hc.1 hc.2.1 hc.2.2
  · rw [if_neg hc] at h
    cases h
end Go.Proofs.Ytkncjpafehnmnaa.P

end

section
set_option linter.unusedVariables false
namespace Go.Proofs.Ytkncjpafehnmnaa.Pure
open Go Go.RowKit Go.Proofs.Ytkncjpafehnmnaa.P Go.Proofs.YtkncjpafehnmnaaG Go.Proofs.YtkncjpafehnmnaaL
theorem OmapLast (m : List MPr) (_ : m.length ≤ maxLen) (hm : m.length * 32 ≤ 140737488351232) (_ : ∀ p ∈ m, p.f0.size ≤ maxLen ∧ p.f1.size ≤ maxLen)
    (l : List MOp) (_ : l.length ≤ maxLen) (hl : l.length * 40 ≤ 140737488351232) (hw : ∀ o ∈ l, (Lit.int .u8 o.f0).wf = true ∧ o.f1.size ≤ maxLen ∧ o.f2.size ≤ maxLen) :
    ∃ k, ratlinelaw12_OmapLast.f k m l = some true := by
  refine ⟨0, ?_⟩
  unfold ratlinelaw12_OmapLast.f
  exact if_pos ⟨by omega, by omega, fun o ho => by
    have := (hw o ho).1
    simp [Lit.wf, IntKind.min, IntKind.max, IntKind.bits, IntKind.signed] at this
    omega⟩
end Go.Proofs.Ytkncjpafehnmnaa.Pure

end

section
set_option linter.unusedVariables false
namespace Go.Proofs.YtkncjpafehnmnaaG
open Go Go.RowKit Go.Proofs.YtkncjpafehnmnaaW.PrintWords

/-- What is trodden of this type is of this kind, and is right. -/
def Opens {α : Type} (P : Program) (t : TypeId) (d : Kd α) (wf : α → Prop) : Prop :=
  ∀ (H : Type) (enc : TypeId × Value → H) (w : World) (base : Nat) (sp : Nat → Bool) (held : Bool) (fuel : Nat) (cs : List Value) (x : DataW H × List MemPlace),
    DataW.trod enc P w base sp held fuel t cs = some x → ∃ a, d.K w a cs ∧ wf a
section
variable {P : Program} {t e : TypeId}
theorem opens_int {k : IntKind} (ht : P.underlying t = some (.int k)) : Opens P t (Kd.int k) (fun n => (Lit.int k n).wf = true) := by
  intro H enc w base sp held fuel cs x h
  obtain ⟨n, rfl, _, hw⟩ := DataW.trod_int ht h
  exact ⟨n, rfl, hw⟩
theorem opens_string (ht : P.underlying t = some .string) : Opens P t Kd.string (fun s => s.size ≤ maxLen) := by
  intro H enc w base sp held fuel cs x h
  obtain ⟨n, rfl, _, hm⟩ := DataW.trod_string ht h
  exact ⟨n, rfl, hm⟩
theorem build {α : Type} {Q : Nat → α → Prop} : ∀ n : Nat, (∀ i, i < n → ∃ a, Q i a) → ∃ l : List α, l.length = n ∧ ∀ i a, l[i]? = some a → Q i a := by
  intro n
  induction n with
  | zero => intro _; exact ⟨[], rfl, fun i a h => by simp at h⟩
  | succ n ih =>
    intro h
    obtain ⟨l, hl, hq⟩ := ih (fun i hi => h i (by omega))
    obtain ⟨a, ha⟩ := h n (by omega)
    refine ⟨l ++ [a], by simp [hl], fun i b hb => ?_⟩
    by_cases hi : i < n
    · rw [List.getElem?_append_left (by omega)] at hb
      exact hq i b hb
    · rw [List.getElem?_append_right (by omega)] at hb
      by_cases hin : i = n
      · subst hin
        rw [hl, Nat.sub_self] at hb
        simp at hb
        exact hb ▸ ha
      · rw [List.getElem?_eq_none (by simp; omega)] at hb
        cases hb
theorem opens_row {α : Type} {d : Kd α} {wf : α → Prop} (hc : P.cellsOf e = d.sz) (ht : P.underlying t = some (.slice e)) (he : Opens P e d wf)
    {H : Type} {enc : TypeId × Value → H} {w : World} {base : Nat} {sp : Nat → Bool} {held : Bool} {fuel : Nat} {cs : List Value} {x : DataW H × List MemPlace} (h : DataW.trod enc P w base sp held fuel t cs = some x) :
    ∃ (A : Option Addr) (c : Nat) (xs : List α), cs = [.slice A xs.length c] ∧ xs.length ≤ c ∧ c ≤ maxLen ∧ d.C w A xs.length xs ∧ ∀ a ∈ xs, wf a := by
  rcases DataW.trod_slice ht h with ⟨rfl, _⟩ | ⟨ad, len, cap, elems, rest, n, _, rfl, _, hb, hl, hm, hn, hel, _, _⟩
  · exact ⟨none, 0, [], rfl, Nat.le_refl _, by decide, Kd.C_nil d w, fun a ha => by cases ha⟩
  · obtain ⟨xs, hxl, hx⟩ := build (Q := fun i a => wf a ∧ ∃ c, c.length = d.sz ∧ d.K w a c ∧ ∀ j u, c[j]? = some u → w.cell? (ad.add (i * d.sz + j)) = some u) len (fun i hi => by
      have h1 := hel i hi
      rw [List.getElem?_eq_getElem (by omega)] at h1
      obtain ⟨cs', hcs, htr⟩ := Option.bind_eq_some_iff.1 h1
      obtain ⟨a, ha, hw⟩ := he H enc w base sp held n cs' _ htr
      have hlen := d.K_len ha
      obtain ⟨_, hlen2, hcell⟩ := World.cells?_some hcs
      refine ⟨a, hw, cs', hlen, ha, fun j u hj => ?_⟩
      have hjl : j < cs'.length := by
        by_cases hjl : j < cs'.length
        · exact hjl
        · rw [List.getElem?_eq_none (by omega)] at hj; cases hj
      have h2 := hcell j (by omega)
      rw [hc] at h2
      have hadd : (ad.add (i * d.sz)).add j = ad.add (i * d.sz + j) := Addr.add_add ad _ _
      rw [← hadd, h2, hj])
    have hmax : maxLen ≤ 9223372036854775807 := by decide
    refine ⟨some ad, cap, xs, by rw [hxl], by omega, hm, ⟨rfl, by omega, fun _ => ⟨ad, rfl, fun j p hp => (hx j p hp).2⟩⟩, fun a ha => ?_⟩
    obtain ⟨i, hi⟩ := List.mem_iff_getElem?.1 ha
    exact (hx i a hi).1
theorem Opens.iso {α β : Type} {d : Kd α} {wf : α → Prop} (h : Opens P t d wf) (f : β → α) (g : α → β) (hfg : ∀ a, f (g a) = a) : Opens P t (Kd.iso d f) (fun b => wf (f b)) := by
  intro H enc w base sp held fuel cs x htr
  obtain ⟨a, ha, hw⟩ := h H enc w base sp held fuel cs x htr
  exact ⟨g a, by show d.K w (f (g a)) cs; rw [hfg]; exact ha, by show wf (f (g a)); rw [hfg]; exact hw⟩
end

/-- A field of a struct. -/
theorem opens_field {α : Type} {P : Program} {t e : TypeId} {fs : Array Field} {d : Kd α} {wf : α → Prop} {off i : Nat} {f : Field} (ht : P.underlying t = some (.struct fs)) (hi : fs[i]? = some f) (hft : f.type = e) (hfo : f.offset = off) (hc : P.cellsOf e = d.sz) (he : Opens P e d wf)
    {H : Type} {enc : TypeId × Value → H} {w : World} {base : Nat} {sp : Nat → Bool} {held : Bool} {fuel : Nat} {cs : List Value} {x : DataW H × List MemPlace} (h : DataW.trod enc P w base sp held fuel t cs = some x) :
    ∃ a, d.K w a ((cs.drop off).take d.sz) ∧ wf a := by
  obtain ⟨xs, n, _, _, _, hn, hf⟩ := DataW.trod_struct ht h
  have h1 := hf i f hi
  have hil : i < xs.length := by
    rw [hn]
    exact (Array.getElem?_eq_some_iff.1 hi).1
  rw [List.getElem?_eq_getElem hil, hft, hfo, hc] at h1
  exact he H enc w base sp held n _ _ h1
theorem opens_cells {P : Program} {t : TypeId} {fs : Array Field} (ht : P.underlying t = some (.struct fs)) {H : Type} {enc : TypeId × Value → H} {w : World} {base : Nat} {sp : Nat → Bool} {held : Bool} {fuel : Nat} {cs : List Value} {x : DataW H × List MemPlace} (h : DataW.trod enc P w base sp held fuel t cs = some x) :
    cs.length = P.cellsOf t := by
  obtain ⟨xs, n, _, _, hl, _⟩ := DataW.trod_struct ht h
  exact hl
theorem opens_struct2 {α β : Type} {P : Program} {t ta tb : TypeId} {fs : Array Field} {a : Kd α} {b : Kd β} {wa : α → Prop} {wb : β → Prop} (ht : P.underlying t = some (.struct fs)) (hc : P.cellsOf t = a.sz + b.sz)
    (f0 : (fs[0]?).map (fun f => (f.type, f.offset)) = some (ta, 0)) (f1 : (fs[1]?).map (fun f => (f.type, f.offset)) = some (tb, a.sz)) (ca : P.cellsOf ta = a.sz) (cb : P.cellsOf tb = b.sz) (oa : Opens P ta a wa) (ob : Opens P tb b wb) :
    Opens P t (Kd.pair a b) (fun x => wa x.1 ∧ wb x.2) := by
  intro H enc w base sp held fuel cs x h
  obtain ⟨g0, e0, q0⟩ := Option.map_eq_some_iff.1 f0
  obtain ⟨g1, e1, q1⟩ := Option.map_eq_some_iff.1 f1
  simp only [Prod.mk.injEq] at q0 q1
  obtain ⟨x0, k0, w0⟩ := opens_field ht e0 q0.1 q0.2 ca oa h
  obtain ⟨x1, k1, w1⟩ := opens_field ht e1 q1.1 q1.2 cb ob h
  have hl := opens_cells ht h
  have hsp : (cs.drop a.sz).take b.sz = cs.drop a.sz := List.take_of_length_le (by rw [List.length_drop]; omega)
  rw [List.drop_zero] at k0
  rw [hsp] at k1
  exact ⟨(x0, x1), ⟨cs.take a.sz, cs.drop a.sz, (List.take_append_drop _ _).symm, k0, k1⟩, w0, w1⟩
theorem opens_struct3 {α β γ : Type} {P : Program} {t ta tb tc : TypeId} {fs : Array Field} {a : Kd α} {b : Kd β} {c : Kd γ} {wa : α → Prop} {wb : β → Prop} {wc : γ → Prop} (ht : P.underlying t = some (.struct fs)) (hc : P.cellsOf t = a.sz + (b.sz + c.sz))
    (f0 : (fs[0]?).map (fun f => (f.type, f.offset)) = some (ta, 0)) (f1 : (fs[1]?).map (fun f => (f.type, f.offset)) = some (tb, a.sz)) (f2 : (fs[2]?).map (fun f => (f.type, f.offset)) = some (tc, a.sz + b.sz)) (ca : P.cellsOf ta = a.sz) (cb : P.cellsOf tb = b.sz) (cc : P.cellsOf tc = c.sz) (oa : Opens P ta a wa) (ob : Opens P tb b wb) (oc : Opens P tc c wc) :
    Opens P t (Kd.pair a (Kd.pair b c)) (fun x => wa x.1 ∧ wb x.2.1 ∧ wc x.2.2) := by
  intro H enc w base sp held fuel cs x h
  obtain ⟨g0, e0, q0⟩ := Option.map_eq_some_iff.1 f0
  obtain ⟨g1, e1, q1⟩ := Option.map_eq_some_iff.1 f1
  obtain ⟨g2, e2, q2⟩ := Option.map_eq_some_iff.1 f2
  simp only [Prod.mk.injEq] at q0 q1 q2
  obtain ⟨x0, k0, w0⟩ := opens_field ht e0 q0.1 q0.2 ca oa h
  obtain ⟨x1, k1, w1⟩ := opens_field ht e1 q1.1 q1.2 cb ob h
  obtain ⟨x2, k2, w2⟩ := opens_field ht e2 q2.1 q2.2 cc oc h
  have hl := opens_cells ht h
  have hsp : (cs.drop (a.sz + b.sz)).take c.sz = (cs.drop a.sz).drop b.sz := by rw [List.take_of_length_le (by rw [List.length_drop]; omega), List.drop_drop]
  rw [List.drop_zero] at k0
  rw [hsp] at k2
  exact ⟨(x0, x1, x2), ⟨cs.take a.sz, cs.drop a.sz, (List.take_append_drop _ _).symm, k0, _, _, (List.take_append_drop b.sz _).symm, k1, k2⟩, w0, w1, w2⟩
/-- A row's slice is no longer than its weight allows. -/
theorem sized_row {H : Type} {enc : TypeId × Value → H} {P : Program} {W : World} {base : Nat} {spare : Nat → Bool} {held : Bool} {t e : TypeId} {a : Option Addr} {len cap : Nat} {d : DataW H} {ps : List MemPlace} {ts : List TypeId} {ds : List (DataW H)} {j : Nat}
    (hsz : (DataW.weightsEach P ts ds).all (· ≤ reachBytes) = true) (ht : ts[j]? = some t) (hd : ds[j]? = some d) (hu : P.underlying t = some (.slice e)) (B : Nat) (hB : P.bytesOf e = B)
    (h : DataW.Trod enc P W base spare held t (.slice a len cap) d ps) : len * B ≤ 140737488351232 := by
  obtain ⟨fuel, hf⟩ := h
  rcases DataW.trod_slice hu hf with ⟨hcs, _⟩ | ⟨ad, l, c, elems, rest, n, _, hcs, hx, _, _, _, hn, _⟩
  · simp only [Value.cells, List.cons.injEq, Value.slice.injEq, and_true] at hcs
    obtain ⟨rfl, rfl, rfl⟩ := hcs
    rw [Nat.zero_mul]; omega
  · simp only [Value.cells, List.cons.injEq, Value.slice.injEq, and_true] at hcs
    obtain ⟨rfl, rfl, rfl⟩ := hcs
    obtain ⟨hx, _⟩ := Prod.mk.inj hx
    subst hx
    have z := sized_slice hsz ht hd hu
    rw [hB, List.length_map, List.length_map] at z
    exact Nat.le_trans (Nat.mul_le_mul_right _ (by omega)) z
end Go.Proofs.YtkncjpafehnmnaaG

end

section
set_option linter.unusedVariables false
namespace Go.Proofs.Ytkncjpafehnmnaa.omapLast
open Go Go.ChangeShapes Go.WideShapes Go.ChangeAt Go.RowKit Go.Proofs.YtkncjpafehnmnaaG Go.Proofs.Ytkncjpafehnmnaa.P Go.Proofs.YtkncjpafehnmnaaW.PrintWords
open Go.ChangeMaps (open_string shut_string)
theorem own : ownKnob Try.prog.godebug = none := by kernel_rfl
theorem laidOut : laidOutB Try.prog = true := by kernel_rfl
set_option maxRecDepth 100000 in
theorem lifted (os : Os) (started : os.Started) (H : Type) (enc : TypeId × Value → H) :
    ReturnsInHanded {} Try.checked os 4 .any (Rows.omapLastSpec.pre6 enc Try.prog Try.f4 Rows.omapLastRow.domain false) (Rows.omapLastSpec.post enc Try.prog Try.f4 false true false false) := by
  refine returnsInHanded_of_change_sized (C := Try.checked) own started (by kernel_rfl) Try.func4
    (ChangeSpec.witness6 (enc := enc) (C := Try.checked) false ⟨#[], #[.slice none 0 0, .slice none 0 0], []⟩ 8 (by kernel_rfl) (by kernel_rfl) (by kernel_rfl) (by kernel_rfl)) ?_
  intro W base args ds gs before hval0 hW hcnd hsz0 _
  have hsz : (DataW.weightsEach Try.prog (Try.f4.params.toList ++ Rows.omapLastSpec.plain.varTypes Try.prog) (ds ++ gs)).all (· ≤ reachBytes) = true := hsz0
  have hval : ∀ (j : Nat) t v, Try.f4.params[j]? = some t → args[j]? = some v → Value.okWide Try.prog W .any base t v := hval0
  have hW' := hW
  obtain ⟨p, q, hA0, hV, rfl, hfz, hnd⟩ := hW
  have hA : DataW.TrodAll enc Try.prog W 0 (fun _ => true) true Try.f4.params.toList args.toList ds p := hA0
  rw [Try.params4] at hA hval hsz
  obtain ⟨v0, vs0, d0, ds0, p0, q0, hargs, rfl, rfl, h0, r0⟩ := trodAll_cons hA
  obtain ⟨v1, vs1, d1, ds1, p1, q1, rfl, rfl, rfl, h1, r1⟩ := trodAll_cons r0
  obtain ⟨rfl, rfl, rfl⟩ := trodAll_nil r1
  obtain rfl : args = #[v0, v1] := by cases args; simp_all
  obtain ⟨rfl, rfl⟩ := trodVars_none hV
  obtain ⟨a0, len0, cap0, rfl⟩ := okWide_slice Try.underlying22 (hval 0 22 v0 rfl rfl)
  have k0 := h0
  have y0 := sized_row hsz (j := 0) (t := 22) rfl rfl Try.underlying22 32 (by kernel_rfl) h0
  have lt0 : ∀ x ∈ p0, x.block < W.heap.size := by obtain ⟨m, hm⟩ := k0; exact DataW.trod_lt m _ _ _ hm
  obtain ⟨fuel0, hf0⟩ := h0
  obtain ⟨A0, c0, l0, hcs0, hl0, hm0, hC0, hw0⟩ := opens_row (by kernel_rfl) Try.underlying22 (show Opens Try.prog 39 k39 _ from Opens.iso (opens_struct2 (ta := 9) (tb := 9) Try.underlying39 (by kernel_rfl) (by kernel_rfl) (by kernel_rfl) (by kernel_rfl) (by kernel_rfl) (opens_string Try.underlying9) (opens_string Try.underlying9)) (fun x : S39 => (x.f0, x.f1)) (fun q => ⟨q.1, q.2⟩) (fun _ => rfl)) hf0
  simp only [Value.cells, List.cons.injEq, Value.slice.injEq, and_true] at hcs0
  obtain ⟨rfl, rfl, rfl⟩ := hcs0
  obtain ⟨a1, len1, cap1, rfl⟩ := okWide_slice Try.underlying23 (hval 1 23 v1 rfl rfl)
  have k1 := h1
  have y1 := sized_row hsz (j := 1) (t := 23) rfl rfl Try.underlying23 40 (by kernel_rfl) h1
  have lt1 : ∀ x ∈ p1, x.block < W.heap.size := by obtain ⟨m, hm⟩ := k1; exact DataW.trod_lt m _ _ _ hm
  obtain ⟨fuel1, hf1⟩ := h1
  obtain ⟨A1, c1, l1, hcs1, hl1, hm1, hC1, hw1⟩ := opens_row (by kernel_rfl) Try.underlying23 (show Opens Try.prog 36 k36 _ from Opens.iso (opens_struct3 (ta := 5) (tb := 9) (tc := 9) Try.underlying36 (by kernel_rfl) (by kernel_rfl) (by kernel_rfl) (by kernel_rfl) (by kernel_rfl) (by kernel_rfl) (by kernel_rfl) (opens_int Try.underlying5) (opens_string Try.underlying9) (opens_string Try.underlying9)) (fun x : S36 => (x.f0, x.f1, x.f2)) (fun q => ⟨q.1, q.2.1, q.2.2⟩) (fun _ => rfl)) hf1
  simp only [Value.cells, List.cons.injEq, Value.slice.injEq, and_true] at hcs1
  obtain ⟨rfl, rfl, rfl⟩ := hcs1
  obtain ⟨k, h⟩ := Pure.OmapLast l0 (Nat.le_trans hl0 hm0) y0 hw0 l1 (Nat.le_trans hl1 hm1) y1 hw1
  clear hA0 hval0 hsz0 hsz
  refine (P.ratlinelaw12_OmapLast.calls k _ _ l0 _ _ l1 true W hC0 hl0 hC1 hl1 h).mono fun e W' ⟨he, bel⟩ => ?_
  subst he
  exact ⟨_, rfl, _, _, _, [], _, [], hW', trodAll_mk1 (shut_bool Try.underlying4 _), (trodAll_cons_mk (Below.trod laidOut (by kernel_rfl) (of_decide_eq_true (by kernel_rfl)) k0 bel lt0) (trodAll_cons_mk (Below.trod laidOut (by kernel_rfl) (of_decide_eq_true (by kernel_rfl)) k1 bel lt1) trodAll_mk0)), rfl, bel.frame _, fun h => by cases h⟩
theorem over : Rows.omapLastRow.holds Try.pinned (OpenSpec.ofChange Rows.omapLastSpec) :=
  OpenClaim.holds_of_wide 4 Try.f4 rfl rfl rfl rfl rfl rfl rfl ⟨rfl, rfl, rfl, rfl, rfl⟩ rfl rfl rfl rfl rfl (by kernel_rfl) Try.func4 (by kernel_rfl)
    (of_decide_eq_true (by kernel_rfl)) (by unfold Func.isWrapper; first | (rw [if_pos (by decide +kernel)]; kernel_rfl) | (rw [if_neg (by decide +kernel)]; exact ⟨rfl, rfl⟩))
    (fun os started H enc _ => lifted os started H enc)
theorem proved : Rows.OmapLastSaid := over
#print axioms proved
end Go.Proofs.Ytkncjpafehnmnaa.omapLast
namespace Go.Proofs.Ytkncjpafehnmnaa
/-- The row, under a short name, for the claim. -/
theorem omapLast_holds : Rows.OmapLastSaid := omapLast.proved
end Go.Proofs.Ytkncjpafehnmnaa

end
