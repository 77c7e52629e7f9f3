/- Proved here: the row of MergeTells, and what it needs. Conditions: those of each theorem. Written for this claim by programs; what the claim does not use is left out. -/
import Derived.ChangeArms
import Derived.DataReads
import Derived.DataElems
import Derived.OpenShut
import Derived.SizedLaws
import Derived.Test.YtojemmipkpckbaaRows
import Derived.WalkKit
import Derived.ProofKit
import Derived.ShutString
import Derived.ChangeOld
import Derived.Below
import Derived.Test.YtojemmipkpckbaaSMergeTells4
section
namespace Go.Proofs.Ytojemmipkpckbaa.P
open Go.RowKit Go.Proofs.YtojemmipkpckbaaG Go.Proofs.YtojemmipkpckbaaW.PrintWords Go.Proofs.YtojemmipkpckbaaW.PrintLast Go.Proofs.YtojemmipkpckbaaW.PrintMore
attribute [local go_sem] str_gtr str_geq str_leq max2_int min2_int max_two min_two max_three min_three max_four min_four   -- for this text's walks alone
set_option linter.unusedVariables false
set_option linter.unusedSimpArgs false

mutual
def ratlineref11_Scan.l0 : Nat → List (List (S41)) → ByteArray → ByteArray → Int → Int → List (S37) → List (S41) → Int → Option ((List (S37)))
  | 0, _, _, _, _, _, _, _, _ => none
  | k + 1, x0, x1, x2, x3, x4, x11, x12, x13 => if x13 < (x12.length : Int) then (ratlineref11_Scan.j1 k x0 x1 x2 x3 x4 x11 x12 x13 (decide ((x11.length : Int) < x4))) else (ratlineref11_Scan.j1 k x0 x1 x2 x3 x4 x11 x12 x13 false)
def ratlineref11_Scan.j1 : Nat → List (List (S41)) → ByteArray → ByteArray → Int → Int → List (S37) → List (S41) → Int → Bool → Option ((List (S37)))
  | 0, _, _, _, _, _, _, _, _, _ => none
  | k + 1, x0, x1, x2, x3, x4, x11, x12, x13, x28 => if x28 = true then (if 0 ≤ x13 then (if x13 < (x12.length : Int) then (if x13 > 0 then (if 0 ≤ (wrap64 (x13 - 1)) then (if (wrap64 (x13 - 1)) < (x12.length : Int) then (if ((rd_T41 x12 (wrap64 (x13 - 1))).f0.f0).toList = ((rd_T41 x12 x13).f0.f0).toList then (ratlineref11_Scan.j2 k x0 x1 x2 x3 x4 x11 x12 x13 ((rd_T41 x12 x13).f0.f0) true) else (if (Op.bytesLess (((rd_T41 x12 x13).f0.f0).toList) x1.toList) = true then (ratlineref11_Scan.j2 k x0 x1 x2 x3 x4 x11 x12 x13 ((rd_T41 x12 x13).f0.f0) true) else (if x2.toList = ([] : List UInt8) then (ratlineref11_Scan.j2 k x0 x1 x2 x3 x4 x11 x12 x13 ((rd_T41 x12 x13).f0.f0) false) else (ratlineref11_Scan.j2 k x0 x1 x2 x3 x4 x11 x12 x13 ((rd_T41 x12 x13).f0.f0) (!(Op.bytesLess (((rd_T41 x12 x13).f0.f0).toList) x2.toList)))))) else (none)) else (none)) else (if (Op.bytesLess (((rd_T41 x12 x13).f0.f0).toList) x1.toList) = true then (ratlineref11_Scan.j2 k x0 x1 x2 x3 x4 x11 x12 x13 ((rd_T41 x12 x13).f0.f0) true) else (if x2.toList = ([] : List UInt8) then (ratlineref11_Scan.j2 k x0 x1 x2 x3 x4 x11 x12 x13 ((rd_T41 x12 x13).f0.f0) false) else (ratlineref11_Scan.j2 k x0 x1 x2 x3 x4 x11 x12 x13 ((rd_T41 x12 x13).f0.f0) (!(Op.bytesLess (((rd_T41 x12 x13).f0.f0).toList) x2.toList)))))) else (none)) else (none)) else (some x11)
def ratlineref11_Scan.j2 : Nat → List (List (S41)) → ByteArray → ByteArray → Int → Int → List (S37) → List (S41) → Int → ByteArray → Bool → Option ((List (S37)))
  | 0, _, _, _, _, _, _, _, _, _, _ => none
  | k + 1, x0, x1, x2, x3, x4, x11, x12, x13, x14, x63 => if x63 = true then (ratlineref11_Scan.l0 k x0 x1 x2 x3 x4 x11 x12 (wrap64 (x13 + 1))) else ((ratlineref11_Get.f k x0 x14 x3).bind fun bt247 => (if bt247.2 = true then (if x11.length < 4398046511104 then (ratlineref11_Scan.l0 k x0 x1 x2 x3 x4 (x11 ++ [(⟨x14, bt247.1⟩ : S37)]) x12 (wrap64 (x13 + 1))) else (none)) else (ratlineref11_Scan.l0 k x0 x1 x2 x3 x4 x11 x12 (wrap64 (x13 + 1)))))
end
def ratlineref11_Scan.f (k : Nat) (l0 : List (List (S41))) (a1 : ByteArray) (a2 : ByteArray) (a3 : Int) (a4 : Int) : Option ((List (S37))) := (ratlineref11_All.f k l0).bind fun t242 => (ratlineref11_Scan.l0 k l0 a1 a2 a3 a4 ([] : List (S37)) t242 0)
set_option maxHeartbeats 8000000 in
set_option maxRecDepth 100000 in
theorem ratlineref11_Scan.calls (k : Nat) (A0 : Option Addr) (c0 : Nat) (l0 : List (List (S41))) (a1 : ByteArray) (a2 : ByteArray) (a3 : Int) (a4 : Int) (r : List (S37)) (w : World) (hr0 : Kd.C (Kd.slice 41 k41) w A0 l0.length l0) (hc0 : l0.length ≤ c0) (h : ratlineref11_Scan.f k l0 a1 a2 a3 a4 = some r) :
    Calls Try.prog 23 #[.slice A0 l0.length c0, .string a1, .string a2, .int .u64 a3, .int .i64 a4] w fun e w' => ∃ v0_ : Value, e = .returned (v0_) ∧ Kd.R k37 37 w' w.heap.size (fun _ => True) v0_ r ∧ Below w.heap.size w w' := by
  have hu37 := Try.underlying37
  have HR0 := Aside0.mk hr0
  have HC0 := Aside0.mk hc0
  clear hr0 hc0
  have HB := Aside0.mk (Below.refl w.heap.size w)
  have H : ((ratlineref11_All.f k l0).bind fun t242 => (ratlineref11_Scan.l0 k l0 a1 a2 a3 a4 ([] : List (S37)) t242 0)) = some r := h
  clear h
  replace H := Option.bind_eq_some_iff.mp H
  obtain ⟨t242, A60, H⟩ := H
  replace H : (ratlineref11_Scan.l0 k l0 a1 a2 a3 a4 ([] : List (S37)) t242 0) = some r := H
  have A6 := Aside0.mk A60
  clear A60
  have H' := Aside0.mk H
  clear H
  go_enter Try.func23, Try.ntmps23
  go_wp2_with (first | ((with_reducible refine gate_callee (f := 20) rfl ?_); refine goesL_ (some 18) rfl rfl Try.func20 (by kernel_rfl) rfl #[.slice A0 l0.length c0] rfl (by (try simp only [List.map_toArray, List.map_cons, List.map_nil]); first | done | rfl | (simp only [List.length_drop, List.length_take]; rfl)) ?_; (with_reducible refine (ratlineref11_All.calls k _ _ l0 t242 _ ?side1 ?side2 A6.out).mono ?_); (case side1 => repeat (first | exact HR0.out | (with_reducible refine Kd.C_alloc ?_ _) | (with_reducible refine Kd.C_drewN ?_ _) | (with_reducible refine Kd.C_drew ?_))); (case side2 => exact HC0.out); rintro e w7 ⟨v243, rfl, ho0, hb⟩; refine ⟨_, rfl, ?_⟩; have n0_ := Aside0.mk (Kd.R_lower ho0 (below_size (by repeat (first | (with_reducible first | exact HB.out | apply below_alloc | apply pw_below_drewN | apply below_drew1) | exact HB.out)))); have n1_ := Aside0.mk (below_step (by repeat (first | (with_reducible first | exact HB.out | apply below_alloc | apply pw_below_drewN | apply below_drew1) | exact HB.out)) hb); clear HB; have HO244 := n0_; have HB := n1_; clear n0_ n1_; (try clear hb); (try clear hb2); (try clear hk); (try clear hi); (try clear ho0)))
  go_loopg [11, 13] k (fun kq v11 v13 w' => ∃ (x11_1 : List (S37)) (x13_1 : Int), v13 = .int .i64 x13_1 ∧ Aside0 (ratlineref11_Scan.l0 kq l0 a1 a2 a3 a4 x11_1 t242 x13_1 = some r) ∧ Aside0 (kq ≤ k) ∧ Aside0 (Kd.R k37 37 w' w.heap.size (fun _ => True) v11 x11_1) ∧ Aside0 (Kd.R k41 41 w' w.heap.size (fun _ => True) v243 t242) ∧ Aside0 (Below w.heap.size w w'))
  case atStart => exact ⟨(([] : List (S37))), (0), (by first | rfl | (simp; done) | (simp [*]; done)), H', ⟨Nat.le_refl _⟩, ⟨by first | exact Kd.R_nil _ _ _ _ _ | exact Kd.N_nil _ _ _ _ _ | exact Kd.V_nil _ _ _ _ _ | exact Kd.Q_nil _ _ _ _ _ | exact Kd.S_nil _ _ _ _ _⟩, ⟨by (with_reducible repeat (first | apply Kd.R_alloc | apply Kd.R_drewN | apply Kd.R_drew)); exact HO244.out⟩, ⟨by repeat (first | (with_reducible first | exact HB.out | apply below_alloc | apply pw_below_drewN | apply below_drew1) | exact HB.out)⟩⟩
  case round =>
    clear H'
    try clear c2
    try clear p2
    obtain ⟨x11_1, x13_1, rfl, HA, HK1, HO_11, HO_12, HB⟩ := hrel
    cases gk with
    | zero => exact absurd HA.out (by simp [ratlineref11_Scan.l0])
    | succ k1 =>
      have H := HA.out
      clear HA
      simp only [ratlineref11_Scan.l0] at H
      have HC8 := Aside0.mk H
      clear H
      go_upto_region 4 with (fail)
      go_cut [28] (fun v28 wc => ∃ (kq : Nat) (x28_7 : Bool), v28 = .bool x28_7 ∧ Aside0 (ratlineref11_Scan.j1 kq l0 a1 a2 a3 a4 x11_1 t242 x13_1 x28_7 = some r) ∧ Aside0 (kq ≤ k1) ∧ Aside0 (Kd.R k37 37 wc w.heap.size (fun _ => True) u11 x11_1) ∧ Aside0 (Kd.R k41 41 wc w.heap.size (fun _ => True) v243 t242) ∧ Aside0 (Below w.heap.size w wc))
      case first =>
        have H := HC8.out
        clear HC8
        by_cases c9 : x13_1 < (t242.length : Int)
        · rw [if_pos c9] at H
          have c9b0 : decide (x13_1 < (t242.length : Int)) = true := decide_eq_true c9
          clear c9
          (first | rw [c9b0] | (simp only [i64_w, i32_w]; rw [c9b0]) | skip)
          have H' := Aside0.mk H
          clear H
          obtain ⟨Ao10, co10, eo10⟩ := Kd.R_slice HO_12.out
          subst eo10
          obtain ⟨Ao11, co11, eo11⟩ := Kd.R_slice HO_11.out
          subst eo11
          go_wp2
          go_meet
          case rel => exact ⟨_, (decide ((x11_1.length : Int) < a4)), (by first | rfl | (simp; done) | (simp [*]; done)), H', ⟨by have := HK1.out; first | omega | exact Nat.le_refl _⟩, ⟨by (with_reducible repeat (first | apply Kd.R_alloc | apply Kd.R_drewN | apply Kd.R_drew)); exact HO_11.out⟩, ⟨by (with_reducible repeat (first | apply Kd.R_alloc | apply Kd.R_drewN | apply Kd.R_drew)); exact HO_12.out⟩, ⟨by repeat (first | (with_reducible first | exact HB.out | apply below_alloc | apply pw_below_drewN | apply below_drew1) | exact HB.out)⟩⟩
        · rw [if_neg c9] at H
          have c9b0 : decide (x13_1 < (t242.length : Int)) = false := decide_eq_false c9
          clear c9
          (first | rw [c9b0] | (simp only [i64_w, i32_w]; rw [c9b0]) | skip)
          have H' := Aside0.mk H
          clear H
          obtain ⟨Ao12, co12, eo12⟩ := Kd.R_slice HO_12.out
          subst eo12
          go_wp2
          go_meet
          case rel => exact ⟨_, (false), (by first | rfl | (simp; done) | (simp [*]; done)), H', ⟨by have := HK1.out; first | omega | exact Nat.le_refl _⟩, ⟨by (with_reducible repeat (first | apply Kd.R_alloc | apply Kd.R_drewN | apply Kd.R_drew)); exact HO_11.out⟩, ⟨by (with_reducible repeat (first | apply Kd.R_alloc | apply Kd.R_drewN | apply Kd.R_drew)); exact HO_12.out⟩, ⟨by repeat (first | (with_reducible first | exact HB.out | apply below_alloc | apply pw_below_drewN | apply below_drew1) | exact HB.out)⟩⟩
      case rest =>
        clear HC8
        try clear c2
        try clear p2
        try clear c9
        try clear c9b0
        try clear p2
        obtain ⟨kq, x28_7, rfl, HA, HJ7, HO_11, HO_12, HB⟩ := hcut
        cases kq with
        | zero => exact absurd HA.out (by simp [ratlineref11_Scan.j1])
        | succ kj7 =>
          have H := HA.out
          clear HA
          simp only [ratlineref11_Scan.j1] at H
          by_cases c13 : x28_7 = true
          · subst c13
            have H1 : (if 0 ≤ x13_1 then (if x13_1 < (t242.length : Int) then (if x13_1 > 0 then (if 0 ≤ (wrap64 (x13_1 - 1)) then (if (wrap64 (x13_1 - 1)) < (t242.length : Int) then (if ((rd_T41 t242 (wrap64 (x13_1 - 1))).f0.f0).toList = ((rd_T41 t242 x13_1).f0.f0).toList then (ratlineref11_Scan.j2 kj7 l0 a1 a2 a3 a4 x11_1 t242 x13_1 ((rd_T41 t242 x13_1).f0.f0) true) else (if (Op.bytesLess (((rd_T41 t242 x13_1).f0.f0).toList) a1.toList) = true then (ratlineref11_Scan.j2 kj7 l0 a1 a2 a3 a4 x11_1 t242 x13_1 ((rd_T41 t242 x13_1).f0.f0) true) else (if a2.toList = ([] : List UInt8) then (ratlineref11_Scan.j2 kj7 l0 a1 a2 a3 a4 x11_1 t242 x13_1 ((rd_T41 t242 x13_1).f0.f0) false) else (ratlineref11_Scan.j2 kj7 l0 a1 a2 a3 a4 x11_1 t242 x13_1 ((rd_T41 t242 x13_1).f0.f0) (!(Op.bytesLess (((rd_T41 t242 x13_1).f0.f0).toList) a2.toList)))))) else (none)) else (none)) else (if (Op.bytesLess (((rd_T41 t242 x13_1).f0.f0).toList) a1.toList) = true then (ratlineref11_Scan.j2 kj7 l0 a1 a2 a3 a4 x11_1 t242 x13_1 ((rd_T41 t242 x13_1).f0.f0) true) else (if a2.toList = ([] : List UInt8) then (ratlineref11_Scan.j2 kj7 l0 a1 a2 a3 a4 x11_1 t242 x13_1 ((rd_T41 t242 x13_1).f0.f0) false) else (ratlineref11_Scan.j2 kj7 l0 a1 a2 a3 a4 x11_1 t242 x13_1 ((rd_T41 t242 x13_1).f0.f0) (!(Op.bytesLess (((rd_T41 t242 x13_1).f0.f0).toList) a2.toList)))))) else (none)) else (none)) = some r := by rw [if_pos rfl] at H; exact H
            clear H
            have H := H1
            clear H1
            by_cases c14 : 0 ≤ x13_1
            · rw [if_pos c14] at H
              have c14b0 : decide (0 ≤ x13_1) = true := decide_eq_true c14
              clear c14
              by_cases c15 : x13_1 < (t242.length : Int)
              · rw [if_pos c15] at H
                have c15b0 : decide (x13_1 < (t242.length : Int)) = true := decide_eq_true c15
                clear c15
                have HC16 := Aside0.mk H
                clear H
                obtain ⟨Ao17, co17, eo17⟩ := Kd.R_slice HO_12.out
                subst eo17
                have p245 : 0 ≤ (x13_1 : Int) := of_decide_eq_true (by first | (with_reducible assumption) | assumption)
                have q245 : x13_1 < (t242.length : Int) := of_decide_eq_true (by first | (with_reducible assumption) | assumption)
                obtain ⟨ad245, e245, hx245_0, hx245_1, hx245_2, hx245_3⟩ := at_T41 (Kd.R_reads' HO_12.out).2.2 x13_1 p245 q245
                cases e245
                replace p245 := eq_true p245
                replace q245 := eq_true q245
                go_upto_region 7 with (fail)
                go_cut [63] (fun v63 wc => ∃ (kq : Nat) (x63_15 : Bool), v63 = .bool x63_15 ∧ Aside0 (ratlineref11_Scan.j2 kq l0 a1 a2 a3 a4 x11_1 t242 x13_1 ((rd_T41 t242 x13_1).f0.f0) x63_15 = some r) ∧ Aside0 (kq ≤ kj7) ∧ Aside0 (Kd.R k37 37 wc w.heap.size (fun _ => True) u11 x11_1) ∧ Aside0 (Kd.R k41 41 wc w.heap.size (fun _ => True) (.slice (some ad245) t242.length co17) t242) ∧ Aside0 (Below w.heap.size w wc))
                case first =>
                  have H := HC16.out
                  clear HC16
                  by_cases c18 : x13_1 > 0
                  · rw [if_pos c18] at H
                    have c18b0 : decide (0 < x13_1) = true := decide_eq_true c18
                    clear c18
                    (first | rw [c18b0] | (simp only [i64_w, i32_w]; rw [c18b0]) | skip)
                    obtain ⟨ji19, hji19⟩ : ∃ j_ : Int, (wrap64 (x13_1 - 1)) = j_ := ⟨_, rfl⟩
                    replace H : (if 0 ≤ (ji19) then (if (ji19) < (t242.length : Int) then (if ((rd_T41 t242 (ji19)).f0.f0).toList = ((rd_T41 t242 x13_1).f0.f0).toList then (ratlineref11_Scan.j2 kj7 l0 a1 a2 a3 a4 x11_1 t242 x13_1 ((rd_T41 t242 x13_1).f0.f0) true) else (if (Op.bytesLess (((rd_T41 t242 x13_1).f0.f0).toList) a1.toList) = true then (ratlineref11_Scan.j2 kj7 l0 a1 a2 a3 a4 x11_1 t242 x13_1 ((rd_T41 t242 x13_1).f0.f0) true) else (if a2.toList = ([] : List UInt8) then (ratlineref11_Scan.j2 kj7 l0 a1 a2 a3 a4 x11_1 t242 x13_1 ((rd_T41 t242 x13_1).f0.f0) false) else (ratlineref11_Scan.j2 kj7 l0 a1 a2 a3 a4 x11_1 t242 x13_1 ((rd_T41 t242 x13_1).f0.f0) (!(Op.bytesLess (((rd_T41 t242 x13_1).f0.f0).toList) a2.toList)))))) else (none)) else (none)) = some r := by first | (rw [hji19] at H; exact H) | (simp only [hji19] at H ⊢; exact H)
                    have hji19w : (IntKind.i64.wrap (x13_1 - 1)) = ji19 := (i64_w _).trans hji19
                    by_cases c20 : 0 ≤ (ji19)
                    · rw [if_pos c20] at H
                      have c20b0 : decide (0 ≤ (ji19)) = true := decide_eq_true c20
                      clear c20
                      by_cases c21 : (ji19) < (t242.length : Int)
                      · rw [if_pos c21] at H
                        have c21b0 : decide ((ji19) < (t242.length : Int)) = true := decide_eq_true c21
                        clear c21
                        by_cases c22 : ((rd_T41 t242 (ji19)).f0.f0).toList = ((rd_T41 t242 x13_1).f0.f0).toList
                        · rw [if_pos c22] at H
                          have c22b0 : (((rd_T41 t242 (ji19)).f0.f0).toList == ((rd_T41 t242 x13_1).f0.f0).toList) = true := beq_iff_eq.mpr c22
                          have c22b1 : (((rd_T41 t242 (ji19)).f0.f0).toList != ((rd_T41 t242 x13_1).f0.f0).toList) = false := bne_eq_false_iff_eq.mpr c22
                          clear c22
                          have H' := Aside0.mk H
                          clear H
                          have p246 : 0 ≤ ((ji19) : Int) := of_decide_eq_true (by first | (with_reducible assumption) | assumption)
                          have q246 : (ji19) < (t242.length : Int) := of_decide_eq_true (by first | (with_reducible assumption) | assumption)
                          obtain ⟨ad246, e246, hx246_0, hx246_1, hx246_2, hx246_3⟩ := at_T41 (Kd.R_reads' HO_12.out).2.2 (ji19) p246 q246
                          obtain rfl : ad245 = ad246 := (by injection e246)
                          replace p246 := eq_true p246
                          replace q246 := eq_true q246
                          go_wp2
                          go_meet
                          case rel => exact ⟨_, (true), (by first | rfl | (simp; done) | (simp [*]; done)), H', ⟨by have := HK1.out; have := HJ7.out; first | omega | exact Nat.le_refl _⟩, ⟨by (with_reducible repeat (first | apply Kd.R_alloc | apply Kd.R_drewN | apply Kd.R_drew)); exact HO_11.out⟩, ⟨by (with_reducible repeat (first | apply Kd.R_alloc | apply Kd.R_drewN | apply Kd.R_drew)); exact HO_12.out⟩, ⟨by repeat (first | (with_reducible first | exact HB.out | apply below_alloc | apply pw_below_drewN | apply below_drew1) | exact HB.out)⟩⟩
                        · rw [if_neg c22] at H
                          have c22b0 : (((rd_T41 t242 (ji19)).f0.f0).toList == ((rd_T41 t242 x13_1).f0.f0).toList) = false := beq_eq_false_iff_ne.mpr c22
                          have c22b1 : (((rd_T41 t242 (ji19)).f0.f0).toList != ((rd_T41 t242 x13_1).f0.f0).toList) = true := bne_iff_ne.mpr c22
                          by_cases c23 : (Op.bytesLess (((rd_T41 t242 x13_1).f0.f0).toList) a1.toList) = true
                          · rw [if_pos c23] at H
                            have c23b0 : (Op.bytesLess (((rd_T41 t242 x13_1).f0.f0).toList) a1.toList) = true := c23
                            clear c23
                            have H' := Aside0.mk H
                            clear H
                            have p246 : 0 ≤ ((ji19) : Int) := of_decide_eq_true (by first | (with_reducible assumption) | assumption)
                            have q246 : (ji19) < (t242.length : Int) := of_decide_eq_true (by first | (with_reducible assumption) | assumption)
                            obtain ⟨ad246, e246, hx246_0, hx246_1, hx246_2, hx246_3⟩ := at_T41 (Kd.R_reads' HO_12.out).2.2 (ji19) p246 q246
                            obtain rfl : ad245 = ad246 := (by injection e246)
                            replace p246 := eq_true p246
                            replace q246 := eq_true q246
                            go_wp2
                            go_meet
                            case rel => exact ⟨_, (true), (by first | rfl | (simp; done) | (simp [*]; done)), H', ⟨by have := HK1.out; have := HJ7.out; first | omega | exact Nat.le_refl _⟩, ⟨by (with_reducible repeat (first | apply Kd.R_alloc | apply Kd.R_drewN | apply Kd.R_drew)); exact HO_11.out⟩, ⟨by (with_reducible repeat (first | apply Kd.R_alloc | apply Kd.R_drewN | apply Kd.R_drew)); exact HO_12.out⟩, ⟨by repeat (first | (with_reducible first | exact HB.out | apply below_alloc | apply pw_below_drewN | apply below_drew1) | exact HB.out)⟩⟩
                          · rw [if_neg c23] at H
                            have c23b0 : (Op.bytesLess (((rd_T41 t242 x13_1).f0.f0).toList) a1.toList) = false := by simpa using c23
                            clear c23
                            by_cases c24 : a2.toList = ([] : List UInt8)
                            · rw [if_pos c24] at H
                              have c24b0 : (a2.toList == ([] : List UInt8)) = true := beq_iff_eq.mpr c24
                              have c24b1 : (a2.toList != ([] : List UInt8)) = false := bne_eq_false_iff_eq.mpr c24
                              clear c24
                              have H' := Aside0.mk H
                              clear H
                              have p246 : 0 ≤ ((ji19) : Int) := of_decide_eq_true (by first | (with_reducible assumption) | assumption)
                              have q246 : (ji19) < (t242.length : Int) := of_decide_eq_true (by first | (with_reducible assumption) | assumption)
                              obtain ⟨ad246, e246, hx246_0, hx246_1, hx246_2, hx246_3⟩ := at_T41 (Kd.R_reads' HO_12.out).2.2 (ji19) p246 q246
                              obtain rfl : ad245 = ad246 := (by injection e246)
                              replace p246 := eq_true p246
                              replace q246 := eq_true q246
                              go_wp2
                              go_meet
                              case rel => exact ⟨_, (false), (by first | rfl | (simp; done) | (simp [*]; done)), H', ⟨by have := HK1.out; have := HJ7.out; first | omega | exact Nat.le_refl _⟩, ⟨by (with_reducible repeat (first | apply Kd.R_alloc | apply Kd.R_drewN | apply Kd.R_drew)); exact HO_11.out⟩, ⟨by (with_reducible repeat (first | apply Kd.R_alloc | apply Kd.R_drewN | apply Kd.R_drew)); exact HO_12.out⟩, ⟨by repeat (first | (with_reducible first | exact HB.out | apply below_alloc | apply pw_below_drewN | apply below_drew1) | exact HB.out)⟩⟩
                            · rw [if_neg c24] at H
                              have c24b0 : (a2.toList == ([] : List UInt8)) = false := beq_eq_false_iff_ne.mpr c24
                              have c24b1 : (a2.toList != ([] : List UInt8)) = true := bne_iff_ne.mpr c24
                              have H' := Aside0.mk H
                              clear H
                              have p246 : 0 ≤ ((ji19) : Int) := of_decide_eq_true (by first | (with_reducible assumption) | assumption)
                              have q246 : (ji19) < (t242.length : Int) := of_decide_eq_true (by first | (with_reducible assumption) | assumption)
                              obtain ⟨ad246, e246, hx246_0, hx246_1, hx246_2, hx246_3⟩ := at_T41 (Kd.R_reads' HO_12.out).2.2 (ji19) p246 q246
                              obtain rfl : ad245 = ad246 := (by injection e246)
                              replace p246 := eq_true p246
                              replace q246 := eq_true q246
                              go_wp2
                              go_meet
                              case rel => exact ⟨_, (!(Op.bytesLess (((rd_T41 t242 x13_1).f0.f0).toList) a2.toList)), (by first | rfl | (simp; done) | (simp [*]; done)), H', ⟨by have := HK1.out; have := HJ7.out; first | omega | exact Nat.le_refl _⟩, ⟨by (with_reducible repeat (first | apply Kd.R_alloc | apply Kd.R_drewN | apply Kd.R_drew)); exact HO_11.out⟩, ⟨by (with_reducible repeat (first | apply Kd.R_alloc | apply Kd.R_drewN | apply Kd.R_drew)); exact HO_12.out⟩, ⟨by repeat (first | (with_reducible first | exact HB.out | apply below_alloc | apply pw_below_drewN | apply below_drew1) | exact HB.out)⟩⟩
                      · rw [if_neg c21] at H
                        exact absurd H (by simp)
                    · rw [if_neg c20] at H
                      exact absurd H (by simp)
                  · rw [if_neg c18] at H
                    have c18b0 : decide (0 < x13_1) = false := decide_eq_false c18
                    clear c18
                    (first | rw [c18b0] | (simp only [i64_w, i32_w]; rw [c18b0]) | skip)
                    by_cases c25 : (Op.bytesLess (((rd_T41 t242 x13_1).f0.f0).toList) a1.toList) = true
                    · rw [if_pos c25] at H
                      have c25b0 : (Op.bytesLess (((rd_T41 t242 x13_1).f0.f0).toList) a1.toList) = true := c25
                      clear c25
                      have H' := Aside0.mk H
                      clear H
                      go_wp2
                      go_meet
                      case rel => exact ⟨_, (true), (by first | rfl | (simp; done) | (simp [*]; done)), H', ⟨by have := HK1.out; have := HJ7.out; first | omega | exact Nat.le_refl _⟩, ⟨by (with_reducible repeat (first | apply Kd.R_alloc | apply Kd.R_drewN | apply Kd.R_drew)); exact HO_11.out⟩, ⟨by (with_reducible repeat (first | apply Kd.R_alloc | apply Kd.R_drewN | apply Kd.R_drew)); exact HO_12.out⟩, ⟨by repeat (first | (with_reducible first | exact HB.out | apply below_alloc | apply pw_below_drewN | apply below_drew1) | exact HB.out)⟩⟩
                    · rw [if_neg c25] at H
                      have c25b0 : (Op.bytesLess (((rd_T41 t242 x13_1).f0.f0).toList) a1.toList) = false := by simpa using c25
                      clear c25
                      by_cases c26 : a2.toList = ([] : List UInt8)
                      · rw [if_pos c26] at H
                        have c26b0 : (a2.toList == ([] : List UInt8)) = true := beq_iff_eq.mpr c26
                        have c26b1 : (a2.toList != ([] : List UInt8)) = false := bne_eq_false_iff_eq.mpr c26
                        clear c26
                        have H' := Aside0.mk H
                        clear H
                        go_wp2
                        go_meet
                        case rel => exact ⟨_, (false), (by first | rfl | (simp; done) | (simp [*]; done)), H', ⟨by have := HK1.out; have := HJ7.out; first | omega | exact Nat.le_refl _⟩, ⟨by (with_reducible repeat (first | apply Kd.R_alloc | apply Kd.R_drewN | apply Kd.R_drew)); exact HO_11.out⟩, ⟨by (with_reducible repeat (first | apply Kd.R_alloc | apply Kd.R_drewN | apply Kd.R_drew)); exact HO_12.out⟩, ⟨by repeat (first | (with_reducible first | exact HB.out | apply below_alloc | apply pw_below_drewN | apply below_drew1) | exact HB.out)⟩⟩
                      · rw [if_neg c26] at H
                        have c26b0 : (a2.toList == ([] : List UInt8)) = false := beq_eq_false_iff_ne.mpr c26
                        have c26b1 : (a2.toList != ([] : List UInt8)) = true := bne_iff_ne.mpr c26
                        have H' := Aside0.mk H
                        clear H
                        go_wp2
                        go_meet
                        case rel => exact ⟨_, (!(Op.bytesLess (((rd_T41 t242 x13_1).f0.f0).toList) a2.toList)), (by first | rfl | (simp; done) | (simp [*]; done)), H', ⟨by have := HK1.out; have := HJ7.out; first | omega | exact Nat.le_refl _⟩, ⟨by (with_reducible repeat (first | apply Kd.R_alloc | apply Kd.R_drewN | apply Kd.R_drew)); exact HO_11.out⟩, ⟨by (with_reducible repeat (first | apply Kd.R_alloc | apply Kd.R_drewN | apply Kd.R_drew)); exact HO_12.out⟩, ⟨by repeat (first | (with_reducible first | exact HB.out | apply below_alloc | apply pw_below_drewN | apply below_drew1) | exact HB.out)⟩⟩
                case rest =>
                  clear HC16
                  try clear c1
                  try clear c2
                  try clear p2
                  try clear q2
                  try clear hx2
                  try clear p6
                  try clear c9
                  try clear c9b0
                  try clear c13
                  try clear c14
                  try clear c14b0
                  try clear c15
                  try clear c15b0
                  try clear c18
                  try clear c18b0
                  try clear c20
                  try clear c20b0
                  try clear c21
                  try clear c21b0
                  try clear c22
                  try clear c22b0
                  try clear c22b1
                  try clear c23
                  try clear c23b0
                  try clear c24
                  try clear c24b0
                  try clear c24b1
                  try clear p24
                  try clear q24
                  try clear hx24
                  try clear c25
                  try clear c25b0
                  try clear c26
                  try clear c26b0
                  try clear c26b1
                  try clear hx245_0
                  try clear hx245_1
                  try clear hx245_2
                  try clear hx245_3
                  try clear hx246_0
                  try clear hx246_1
                  try clear hx246_2
                  try clear hx246_3
                  try clear p2
                  try clear p245
                  try clear p246
                  try clear q245
                  try clear q246
                  obtain ⟨kq, x63_15, rfl, HA, HJ15, HO_11, HO_12, HB⟩ := hcut
                  cases kq with
                  | zero => exact absurd HA.out (by simp [ratlineref11_Scan.j2])
                  | succ kj15 =>
                    have H := HA.out
                    clear HA
                    simp only [ratlineref11_Scan.j2] at H
                    by_cases c27 : x63_15 = true
                    · subst c27
                      have H1 : (ratlineref11_Scan.l0 kj15 l0 a1 a2 a3 a4 x11_1 t242 (wrap64 (x13_1 + 1))) = some r := by rw [if_pos rfl] at H; exact H
                      clear H
                      have H := H1
                      clear H1
                      have H' := Aside0.mk H
                      clear H
                      go_wp2
                      go_roundg kj15
                      case measure => have := HK1.out; have := HJ7.out; have := HJ15.out; omega
                      case rel => exact ⟨(x11_1), (wrap64 (x13_1 + 1)), (by first | rfl | (simp; done) | (simp [*]; done)), H', ⟨by have := HK1.out; have := HJ7.out; have := HJ15.out; omega⟩, ⟨by (with_reducible repeat (first | apply Kd.R_alloc | apply Kd.R_drewN | apply Kd.R_drew)); exact HO_11.out⟩, ⟨by (with_reducible repeat (first | apply Kd.R_alloc | apply Kd.R_drewN | apply Kd.R_drew)); exact HO_12.out⟩, ⟨by repeat (first | (with_reducible first | exact HB.out | apply below_alloc | apply pw_below_drewN | apply below_drew1) | exact HB.out)⟩⟩
                    · replace c27 := Bool.eq_false_iff.mpr c27
                      subst c27
                      have H1 : ((ratlineref11_Get.f kj15 l0 ((rd_T41 t242 x13_1).f0.f0) a3).bind fun bt247 => (if bt247.2 = true then (if x11_1.length < 4398046511104 then (ratlineref11_Scan.l0 kj15 l0 a1 a2 a3 a4 (x11_1 ++ [(⟨((rd_T41 t242 x13_1).f0.f0), bt247.1⟩ : S37)]) t242 (wrap64 (x13_1 + 1))) else (none)) else (ratlineref11_Scan.l0 kj15 l0 a1 a2 a3 a4 x11_1 t242 (wrap64 (x13_1 + 1))))) = some r := by rw [if_neg (show ¬ (false = true) by decide)] at H; exact H
                      clear H
                      have H := H1
                      clear H1
                      replace H := Option.bind_eq_some_iff.mp H
                      obtain ⟨⟨t247, t248⟩, A280, H⟩ := H
                      replace H : (if t248 = true then (if x11_1.length < 4398046511104 then (ratlineref11_Scan.l0 kj15 l0 a1 a2 a3 a4 (x11_1 ++ [(⟨((rd_T41 t242 x13_1).f0.f0), t247⟩ : S37)]) t242 (wrap64 (x13_1 + 1))) else (none)) else (ratlineref11_Scan.l0 kj15 l0 a1 a2 a3 a4 x11_1 t242 (wrap64 (x13_1 + 1)))) = some r := H
                      have A28 := Aside0.mk A280
                      clear A280
                      by_cases c29 : t248 = true
                      · subst c29
                        have H1 : (if x11_1.length < 4398046511104 then (ratlineref11_Scan.l0 kj15 l0 a1 a2 a3 a4 (x11_1 ++ [(⟨((rd_T41 t242 x13_1).f0.f0), t247⟩ : S37)]) t242 (wrap64 (x13_1 + 1))) else (none)) = some r := by rw [if_pos rfl] at H; exact H
                        clear H
                        have H := H1
                        clear H1
                        by_cases c30 : x11_1.length < 4398046511104
                        · rw [if_pos c30] at H
                          have LMc30 := Aside0.mk c30
                          clear c30
                          obtain ⟨y249, hy249⟩ : ∃ y_ : List (S37), y_ = (x11_1 ++ [(⟨((rd_T41 t242 x13_1).f0.f0), t247⟩ : S37)]) := ⟨_, rfl⟩
                          replace H : (ratlineref11_Scan.l0 kj15 l0 a1 a2 a3 a4 y249 t242 (wrap64 (x13_1 + 1))) = some r := by first | (rw [hy249]; with_reducible exact H) | (have H2_ := (Option.bind_some _ _).symm.trans H; rw [hy249]; with_reducible exact H2_) | (have H2_ := (Option.bind_some _ _).symm.trans H; with_reducible exact H2_) | with_reducible exact H | (rw [hy249]; exact H) | exact H
                          have Ny249 := Aside0.mk hy249
                          clear hy249
                          have H' := Aside0.mk H
                          clear H
                          go_wp2_with (first | ((with_reducible refine gate_callee (f := 17) rfl ?_); refine goesL_ (some 68) rfl rfl Try.func17 (by kernel_rfl) rfl #[.slice A0 l0.length c0, .string ((rd_T41 t242 x13_1).f0.f0), .int .u64 a3] rfl (by (try simp only [List.map_toArray, List.map_cons, List.map_nil]); first | done | rfl | (simp only [List.length_drop, List.length_take]; rfl)) ?_; (with_reducible refine (ratlineref11_Get.calls kj15 _ _ l0 ((rd_T41 t242 x13_1).f0.f0) a3 t247 true _ ?side1 ?side2 A28.out).mono ?_); (case side1 => repeat (first | exact (Kd.C_below HR0.out HB.out) | (with_reducible refine Kd.C_alloc ?_ _) | (with_reducible refine Kd.C_drewN ?_ _) | (with_reducible refine Kd.C_drew ?_))); (case side2 => exact HC0.out); rintro e w31 ⟨rfl, hb⟩; refine ⟨_, rfl, ?_⟩; have n0_ := Aside0.mk (Kd.R_below (by (with_reducible repeat (first | apply Kd.R_alloc | apply Kd.R_drewN | apply Kd.R_drew)); exact HO_11.out) hb); have n1_ := Aside0.mk (Kd.R_below (by (with_reducible repeat (first | apply Kd.R_alloc | apply Kd.R_drewN | apply Kd.R_drew)); exact HO_12.out) hb); have n2_ := Aside0.mk (below_step (by repeat (first | (with_reducible first | exact HB.out | apply below_alloc | apply pw_below_drewN | apply below_drew1) | exact HB.out)) hb); clear HO_11; clear HO_12; clear HB; have HO_11 := n0_; have HO_12 := n1_; have HB := n2_; clear n0_ n1_ n2_; (try clear hb); (try clear hb2); (try clear hk); (try clear hi)) | ((with_reducible refine gate_builtin (b := .append) (xs := #[.tmp 72, .tmp 76]) rfl ?_); (try (refine gate_guard (by rfl) ?_; dsimp only)); at_builtin; refine Kd.R_append k37 (w0 := w) w.heap.size rfl (.tmp 72) (.tmp 76) 32 37 (.agg #[(.string ⟨#[]⟩), (.string ⟨#[]⟩)]) 32 rfl Try.underlying32 info37 rfl (by decide) (by omega) u11 x11_1 (⟨((rd_T41 t242 x13_1).f0.f0), t247⟩ : S37) [.string ((rd_T41 t242 x13_1).f0.f0), .string t247] (fun _ => True) (fun _ => False) rfl rfl ?aP (fun _ hk => hk.elim) ?aF ?aO ?aB ?aS ?aL ?_; (case aP => exact k37_mkM _ _ _ (⟨((rd_T41 t242 x13_1).f0.f0), t247⟩ : S37)); (case aB => exact (by repeat (first | (with_reducible first | exact HB.out | apply below_alloc | apply pw_below_drewN | apply below_drew1) | exact HB.out))); (case aF => exact (fun _ _ => trivial)); (case aO => exact (by (with_reducible repeat (first | apply Kd.R_alloc | apply Kd.R_drewN | apply Kd.R_drew)); exact HO_11.out)); (case aS => exact (below_size (by repeat (first | (with_reducible first | exact HB.out | apply below_alloc | apply pw_below_drewN | apply below_drew1) | exact HB.out)))); (case aL => have := LMc30.out; omega); intro v250 w32 ho hb hg hat; rw [← Ny249.out] at ho; have n0_ := Aside0.mk (Kd.R_over' (by (with_reducible repeat (first | apply Kd.R_alloc | apply Kd.R_drewN | apply Kd.R_drew)); exact HO_12.out) (Kd.R_typed (by (with_reducible repeat (first | apply Kd.R_alloc | apply Kd.R_drewN | apply Kd.R_drew)); exact HO_11.out)) (by decide) hg); have n1_ := Aside0.mk (hb); have n2_ := Aside0.mk (ho); clear HO_12; clear HB; clear HO_11; have HO_12 := n0_; have HB := n1_; have HO251 := n2_; clear n0_ n1_ n2_; clear ho hb hg hat))
                          go_roundg kj15
                          case measure => have := HK1.out; have := HJ7.out; have := HJ15.out; omega
                          case rel => exact ⟨(y249), (wrap64 (x13_1 + 1)), (by first | rfl | (simp; done) | (simp [*]; done)), H', ⟨by have := HK1.out; have := HJ7.out; have := HJ15.out; omega⟩, ⟨by (with_reducible repeat (first | apply Kd.R_alloc | apply Kd.R_drewN | apply Kd.R_drew)); exact HO251.out⟩, ⟨by (with_reducible repeat (first | apply Kd.R_alloc | apply Kd.R_drewN | apply Kd.R_drew)); exact HO_12.out⟩, ⟨by repeat (first | (with_reducible first | exact HB.out | apply below_alloc | apply pw_below_drewN | apply below_drew1) | exact HB.out)⟩⟩
                        · rw [if_neg c30] at H
                          exact absurd H (by simp)
                      · replace c29 := Bool.eq_false_iff.mpr c29
                        subst c29
                        have H1 : (ratlineref11_Scan.l0 kj15 l0 a1 a2 a3 a4 x11_1 t242 (wrap64 (x13_1 + 1))) = some r := by rw [if_neg (show ¬ (false = true) by decide)] at H; exact H
                        clear H
                        have H := H1
                        clear H1
                        have H' := Aside0.mk H
                        clear H
                        go_wp2_with (first | ((with_reducible refine gate_callee (f := 17) rfl ?_); refine goesL_ (some 68) rfl rfl Try.func17 (by kernel_rfl) rfl #[.slice A0 l0.length c0, .string ((rd_T41 t242 x13_1).f0.f0), .int .u64 a3] rfl (by (try simp only [List.map_toArray, List.map_cons, List.map_nil]); first | done | rfl | (simp only [List.length_drop, List.length_take]; rfl)) ?_; (with_reducible refine (ratlineref11_Get.calls kj15 _ _ l0 ((rd_T41 t242 x13_1).f0.f0) a3 t247 false _ ?side1 ?side2 A28.out).mono ?_); (case side1 => repeat (first | exact (Kd.C_below HR0.out HB.out) | (with_reducible refine Kd.C_alloc ?_ _) | (with_reducible refine Kd.C_drewN ?_ _) | (with_reducible refine Kd.C_drew ?_))); (case side2 => exact HC0.out); rintro e w33 ⟨rfl, hb⟩; refine ⟨_, rfl, ?_⟩; have n0_ := Aside0.mk (Kd.R_below (by (with_reducible repeat (first | apply Kd.R_alloc | apply Kd.R_drewN | apply Kd.R_drew)); exact HO_11.out) hb); have n1_ := Aside0.mk (Kd.R_below (by (with_reducible repeat (first | apply Kd.R_alloc | apply Kd.R_drewN | apply Kd.R_drew)); exact HO_12.out) hb); have n2_ := Aside0.mk (below_step (by repeat (first | (with_reducible first | exact HB.out | apply below_alloc | apply pw_below_drewN | apply below_drew1) | exact HB.out)) hb); clear HO_11; clear HO_12; clear HB; have HO_11 := n0_; have HO_12 := n1_; have HB := n2_; clear n0_ n1_ n2_; (try clear hb); (try clear hb2); (try clear hk); (try clear hi)))
                        go_roundg kj15
                        case measure => have := HK1.out; have := HJ7.out; have := HJ15.out; omega
                        case rel => exact ⟨(x11_1), (wrap64 (x13_1 + 1)), (by first | rfl | (simp; done) | (simp [*]; done)), H', ⟨by have := HK1.out; have := HJ7.out; have := HJ15.out; omega⟩, ⟨by (with_reducible repeat (first | apply Kd.R_alloc | apply Kd.R_drewN | apply Kd.R_drew)); exact HO_11.out⟩, ⟨by (with_reducible repeat (first | apply Kd.R_alloc | apply Kd.R_drewN | apply Kd.R_drew)); exact HO_12.out⟩, ⟨by repeat (first | (with_reducible first | exact HB.out | apply below_alloc | apply pw_below_drewN | apply below_drew1) | exact HB.out)⟩⟩
              · rw [if_neg c15] at H
                exact absurd H (by simp)
            · rw [if_neg c14] at H
              exact absurd H (by simp)
          · replace c13 := Bool.eq_false_iff.mpr c13
            subst c13
            have H1 : (some x11_1) = some r := by rw [if_neg (show ¬ (false = true) by decide)] at H; exact H
            clear H
            have H := H1
            clear H1
            obtain rfl := Option.some.inj H
            go_wp2
            go_ret
            exact ⟨_, by first | rfl | (simp [errW_none, errW_some] <;> rfl) | (simp [*, errW_none, errW_some] <;> rfl), by (with_reducible repeat (first | apply Kd.R_alloc | apply Kd.R_drewN | apply Kd.R_drew)); exact HO_11.out, by repeat (first | (with_reducible first | exact HB.out | apply below_alloc | apply pw_below_drewN | apply below_drew1) | exact HB.out)⟩

end Go.Proofs.Ytojemmipkpckbaa.P

end

section
namespace Go.Proofs.Ytojemmipkpckbaa.P
open Go.RowKit Go.Proofs.YtojemmipkpckbaaG Go.Proofs.YtojemmipkpckbaaW.PrintWords Go.Proofs.YtojemmipkpckbaaW.PrintLast Go.Proofs.YtojemmipkpckbaaW.PrintMore
attribute [local go_sem] str_gtr str_geq str_leq max2_int min2_int max_two min_two max_three min_three max_four min_four   -- for this text's walks alone
set_option linter.unusedVariables false
set_option linter.unusedSimpArgs false

def ratlinelaw11_MergeTells.j0 : Nat → List (List (S41)) → ByteArray → ByteArray → Int → Int → Bool → Option (Bool)
  | 0, _, _, _, _, _, _ => none
  | k + 1, x0, x1, x2, x3, x4, x27 => if x27 = true then ((ratlinelaw11_awake.f k).bind fun t253 => (some t253)) else ((merge_Get.f x0 x1 x3).bind fun bt254 => ((ratlineref11_Get.f k x0 x1 x3).bind fun bt256 => ((merge_All.f x0).bind fun t258 => ((ratlineref11_All.f k x0).bind fun t261 => ((ratlinelaw04_Entries.f k t258 t261).bind fun t264 => (if t264 = true then (if bt254.1.toList = bt256.1.toList then (if (bt254.2 == bt256.2) = true then ((merge_Scan.f x0 x1 x2 x3 x4).bind fun t265 => ((ratlineref11_Scan.f k x0 x1 x2 x3 x4).bind fun t268 => ((ratlinelaw11_Pairs.f k t265 t268).bind fun t271 => (if t271 = true then ((ratlinelaw11_awake.f k).bind fun t272 => (some t272)) else (none))))) else (none)) else (none)) else (none)))))))
def ratlinelaw11_MergeTells.f (k : Nat) (l0 : List (List (S41))) (a1 : ByteArray) (a2 : ByteArray) (a3 : Int) (a4 : Int) : Option (Bool) := (ratlinelaw11_Fine.f k l0).bind fun t252 => (if t252 = true then (if (a1.size : Int) > 70 then (ratlinelaw11_MergeTells.j0 k l0 a1 a2 a3 a4 true) else (ratlinelaw11_MergeTells.j0 k l0 a1 a2 a3 a4 (decide ((a2.size : Int) > 70)))) else (ratlinelaw11_MergeTells.j0 k l0 a1 a2 a3 a4 true))
set_option maxHeartbeats 8000000 in
set_option maxRecDepth 100000 in
theorem ratlinelaw11_MergeTells.calls (k : Nat) (A0 : Option Addr) (c0 : Nat) (l0 : List (List (S41))) (a1 : ByteArray) (a2 : ByteArray) (a3 : Int) (a4 : Int) (r : Bool) (w : World) (hr0 : Kd.C (Kd.slice 41 k41) w A0 l0.length l0) (hc0 : l0.length ≤ c0) (h : ratlinelaw11_MergeTells.f k l0 a1 a2 a3 a4 = some r) :
    Calls Try.prog 3 #[.slice A0 l0.length c0, .string a1, .string a2, .int .u64 a3, .int .i64 a4] w fun e w' => e = .returned (.bool r) ∧ Below w.heap.size w w' := by
  have HR0 := Aside0.mk hr0
  have HC0 := Aside0.mk hc0
  clear hr0 hc0
  have HB := Aside0.mk (Below.refl w.heap.size w)
  have H : ((ratlinelaw11_Fine.f k l0).bind fun t252 => (if t252 = true then (if (a1.size : Int) > 70 then (ratlinelaw11_MergeTells.j0 k l0 a1 a2 a3 a4 true) else (ratlinelaw11_MergeTells.j0 k l0 a1 a2 a3 a4 (decide ((a2.size : Int) > 70)))) else (ratlinelaw11_MergeTells.j0 k l0 a1 a2 a3 a4 true))) = some r := h
  clear h
  have HC6 := Aside0.mk H
  clear H
  go_enter Try.func3, Try.ntmps3
  go_upto_region 1 with (fail)
  go_cut [27] (fun v27 wc => ∃ (kq : Nat) (x27_5 : Bool), v27 = .bool x27_5 ∧ Aside0 (ratlinelaw11_MergeTells.j0 kq l0 a1 a2 a3 a4 x27_5 = some r) ∧ Aside0 (kq ≤ k) ∧ Aside0 (Below w.heap.size w wc))
  case first =>
    have H := HC6.out
    clear HC6
    replace H := Option.bind_eq_some_iff.mp H
    obtain ⟨t252, A70, H⟩ := H
    replace H : (if t252 = true then (if (a1.size : Int) > 70 then (ratlinelaw11_MergeTells.j0 k l0 a1 a2 a3 a4 true) else (ratlinelaw11_MergeTells.j0 k l0 a1 a2 a3 a4 (decide ((a2.size : Int) > 70)))) else (ratlinelaw11_MergeTells.j0 k l0 a1 a2 a3 a4 true)) = some r := H
    have A7 := Aside0.mk A70
    clear A70
    by_cases c8 : t252 = true
    · subst c8
      have H1 : (if (a1.size : Int) > 70 then (ratlinelaw11_MergeTells.j0 k l0 a1 a2 a3 a4 true) else (ratlinelaw11_MergeTells.j0 k l0 a1 a2 a3 a4 (decide ((a2.size : Int) > 70)))) = some r := by rw [if_pos rfl] at H; exact H
      clear H
      have H := H1
      clear H1
      by_cases c9 : (a1.size : Int) > 70
      · rw [if_pos c9] at H
        have c9b0 : decide (70 < (a1.size : Int)) = true := decide_eq_true c9
        have c9b1 : decide (70 < a1.size) = true := decide_eq_true (by omega)
        clear c9
        (first | rw [c9b0] | (simp only [i64_w, i32_w]; rw [c9b0]) | skip)
        have H' := Aside0.mk H
        clear H
        go_wp2_with (first | ((with_reducible refine gate_callee (f := 14) rfl ?_); refine goesL_ (some 16) rfl rfl Try.func14 (by kernel_rfl) rfl #[.slice A0 l0.length c0] rfl (by (try simp only [List.map_toArray, List.map_cons, List.map_nil]); first | done | rfl | (simp only [List.length_drop, List.length_take]; rfl)) ?_; (with_reducible refine (ratlinelaw11_Fine.calls k _ _ l0 true _ ?side1 ?side2 A7.out).mono ?_); (case side1 => repeat (first | exact (Kd.C_below HR0.out HB.out) | (with_reducible refine Kd.C_alloc ?_ _) | (with_reducible refine Kd.C_drewN ?_ _) | (with_reducible refine Kd.C_drew ?_))); (case side2 => exact HC0.out); rintro e w10 ⟨rfl, hb⟩; refine ⟨_, rfl, ?_⟩; have n0_ := Aside0.mk (below_step (by repeat (first | (with_reducible first | exact HB.out | apply below_alloc | apply pw_below_drewN | apply below_drew1) | exact HB.out)) hb); clear HB; have HB := n0_; clear n0_; (try clear hb); (try clear hb2); (try clear hk); (try clear hi)))
        go_meet
        case rel => exact ⟨_, (true), (by first | rfl | (simp; done) | (simp [*]; done)), H', ⟨by first | omega | exact Nat.le_refl _⟩, ⟨by repeat (first | (with_reducible first | exact HB.out | apply below_alloc | apply pw_below_drewN | apply below_drew1) | exact HB.out)⟩⟩
      · rw [if_neg c9] at H
        have c9b0 : decide (70 < (a1.size : Int)) = false := decide_eq_false c9
        have c9b1 : decide (70 < a1.size) = false := decide_eq_false (by omega)
        clear c9
        (first | rw [c9b0] | (simp only [i64_w, i32_w]; rw [c9b0]) | skip)
        have H' := Aside0.mk H
        clear H
        go_wp2_with (first | ((with_reducible refine gate_callee (f := 14) rfl ?_); refine goesL_ (some 16) rfl rfl Try.func14 (by kernel_rfl) rfl #[.slice A0 l0.length c0] rfl (by (try simp only [List.map_toArray, List.map_cons, List.map_nil]); first | done | rfl | (simp only [List.length_drop, List.length_take]; rfl)) ?_; (with_reducible refine (ratlinelaw11_Fine.calls k _ _ l0 true _ ?side1 ?side2 A7.out).mono ?_); (case side1 => repeat (first | exact (Kd.C_below HR0.out HB.out) | (with_reducible refine Kd.C_alloc ?_ _) | (with_reducible refine Kd.C_drewN ?_ _) | (with_reducible refine Kd.C_drew ?_))); (case side2 => exact HC0.out); rintro e w11 ⟨rfl, hb⟩; refine ⟨_, rfl, ?_⟩; have n0_ := Aside0.mk (below_step (by repeat (first | (with_reducible first | exact HB.out | apply below_alloc | apply pw_below_drewN | apply below_drew1) | exact HB.out)) hb); clear HB; have HB := n0_; clear n0_; (try clear hb); (try clear hb2); (try clear hk); (try clear hi)))
        go_meet
        case rel => exact ⟨_, (decide ((a2.size : Int) > 70)), (by first | rfl | (simp; done) | (simp [*]; done)), H', ⟨by first | omega | exact Nat.le_refl _⟩, ⟨by repeat (first | (with_reducible first | exact HB.out | apply below_alloc | apply pw_below_drewN | apply below_drew1) | exact HB.out)⟩⟩
    · replace c8 := Bool.eq_false_iff.mpr c8
      subst c8
      have H1 : (ratlinelaw11_MergeTells.j0 k l0 a1 a2 a3 a4 true) = some r := by rw [if_neg (show ¬ (false = true) by decide)] at H; exact H
      clear H
      have H := H1
      clear H1
      have H' := Aside0.mk H
      clear H
      go_wp2_with (first | ((with_reducible refine gate_callee (f := 14) rfl ?_); refine goesL_ (some 16) rfl rfl Try.func14 (by kernel_rfl) rfl #[.slice A0 l0.length c0] rfl (by (try simp only [List.map_toArray, List.map_cons, List.map_nil]); first | done | rfl | (simp only [List.length_drop, List.length_take]; rfl)) ?_; (with_reducible refine (ratlinelaw11_Fine.calls k _ _ l0 false _ ?side1 ?side2 A7.out).mono ?_); (case side1 => repeat (first | exact (Kd.C_below HR0.out HB.out) | (with_reducible refine Kd.C_alloc ?_ _) | (with_reducible refine Kd.C_drewN ?_ _) | (with_reducible refine Kd.C_drew ?_))); (case side2 => exact HC0.out); rintro e w12 ⟨rfl, hb⟩; refine ⟨_, rfl, ?_⟩; have n0_ := Aside0.mk (below_step (by repeat (first | (with_reducible first | exact HB.out | apply below_alloc | apply pw_below_drewN | apply below_drew1) | exact HB.out)) hb); clear HB; have HB := n0_; clear n0_; (try clear hb); (try clear hb2); (try clear hk); (try clear hi)))
      go_meet
      case rel => exact ⟨_, (true), (by first | rfl | (simp; done) | (simp [*]; done)), H', ⟨by first | omega | exact Nat.le_refl _⟩, ⟨by repeat (first | (with_reducible first | exact HB.out | apply below_alloc | apply pw_below_drewN | apply below_drew1) | exact HB.out)⟩⟩
  case rest =>
    clear HC6
    try clear c1
    try clear p2
    try clear c3
    try clear c8
    try clear c9
    try clear c9b0
    try clear c9b1
    obtain ⟨kq, x27_5, rfl, HA, HJ5, HB⟩ := hcut
    cases kq with
    | zero => exact absurd HA.out (by simp [ratlinelaw11_MergeTells.j0])
    | succ kj5 =>
      have H := HA.out
      clear HA
      simp only [ratlinelaw11_MergeTells.j0] at H
      by_cases c13 : x27_5 = true
      · subst c13
        have H1 : ((ratlinelaw11_awake.f kj5).bind fun t253 => (some t253)) = some r := by rw [if_pos rfl] at H; exact H
        clear H
        have H := H1
        clear H1
        replace H := Option.bind_eq_some_iff.mp H
        obtain ⟨t253, A140, H⟩ := H
        replace H : (some t253) = some r := H
        have A14 := Aside0.mk A140
        clear A140
        obtain rfl := Option.some.inj H
        go_wp2_with (first | (go_at_call 15; (with_reducible refine (ratlinelaw11_awake.calls kj5  t253 _ A14.out).mono ?_); rintro e w15 ⟨rfl, hb⟩; have n0_ := Aside0.mk (below_step (by repeat (first | (with_reducible first | exact HB.out | apply below_alloc | apply pw_below_drewN | apply below_drew1) | exact HB.out)) hb); clear HB; have HB := n0_; clear n0_; (try clear hb); (try clear hb2); (try clear hk); (try clear hi); (try apply_assumption)))
        go_ret
        exact ⟨by first | rfl | (simp [errW_none, errW_some] <;> rfl) | (simp [*, errW_none, errW_some] <;> rfl), by repeat (first | (with_reducible first | exact HB.out | apply below_alloc | apply pw_below_drewN | apply below_drew1) | exact HB.out)⟩
      · replace c13 := Bool.eq_false_iff.mpr c13
        subst c13
        have H1 : ((merge_Get.f l0 a1 a3).bind fun bt254 => ((ratlineref11_Get.f kj5 l0 a1 a3).bind fun bt256 => ((merge_All.f l0).bind fun t258 => ((ratlineref11_All.f kj5 l0).bind fun t261 => ((ratlinelaw04_Entries.f kj5 t258 t261).bind fun t264 => (if t264 = true then (if bt254.1.toList = bt256.1.toList then (if (bt254.2 == bt256.2) = true then ((merge_Scan.f l0 a1 a2 a3 a4).bind fun t265 => ((ratlineref11_Scan.f kj5 l0 a1 a2 a3 a4).bind fun t268 => ((ratlinelaw11_Pairs.f kj5 t265 t268).bind fun t271 => (if t271 = true then ((ratlinelaw11_awake.f kj5).bind fun t272 => (some t272)) else (none))))) else (none)) else (none)) else (none))))))) = some r := by rw [if_neg (show ¬ (false = true) by decide)] at H; exact H
        clear H
        have H := H1
        clear H1
        replace H := Option.bind_eq_some_iff.mp H
        obtain ⟨⟨t254, t255⟩, A160, H⟩ := H
        replace H : ((ratlineref11_Get.f kj5 l0 a1 a3).bind fun bt256 => ((merge_All.f l0).bind fun t258 => ((ratlineref11_All.f kj5 l0).bind fun t261 => ((ratlinelaw04_Entries.f kj5 t258 t261).bind fun t264 => (if t264 = true then (if t254.toList = bt256.1.toList then (if (t255 == bt256.2) = true then ((merge_Scan.f l0 a1 a2 a3 a4).bind fun t265 => ((ratlineref11_Scan.f kj5 l0 a1 a2 a3 a4).bind fun t268 => ((ratlinelaw11_Pairs.f kj5 t265 t268).bind fun t271 => (if t271 = true then ((ratlinelaw11_awake.f kj5).bind fun t272 => (some t272)) else (none))))) else (none)) else (none)) else (none)))))) = some r := H
        have A16 := Aside0.mk A160
        clear A160
        replace H := Option.bind_eq_some_iff.mp H
        obtain ⟨⟨t256, t257⟩, A170, H⟩ := H
        replace H : ((merge_All.f l0).bind fun t258 => ((ratlineref11_All.f kj5 l0).bind fun t261 => ((ratlinelaw04_Entries.f kj5 t258 t261).bind fun t264 => (if t264 = true then (if t254.toList = t256.toList then (if (t255 == t257) = true then ((merge_Scan.f l0 a1 a2 a3 a4).bind fun t265 => ((ratlineref11_Scan.f kj5 l0 a1 a2 a3 a4).bind fun t268 => ((ratlinelaw11_Pairs.f kj5 t265 t268).bind fun t271 => (if t271 = true then ((ratlinelaw11_awake.f kj5).bind fun t272 => (some t272)) else (none))))) else (none)) else (none)) else (none))))) = some r := H
        have A17 := Aside0.mk A170
        clear A170
        replace H := Option.bind_eq_some_iff.mp H
        obtain ⟨t258, A180, H⟩ := H
        replace H : ((ratlineref11_All.f kj5 l0).bind fun t261 => ((ratlinelaw04_Entries.f kj5 t258 t261).bind fun t264 => (if t264 = true then (if t254.toList = t256.toList then (if (t255 == t257) = true then ((merge_Scan.f l0 a1 a2 a3 a4).bind fun t265 => ((ratlineref11_Scan.f kj5 l0 a1 a2 a3 a4).bind fun t268 => ((ratlinelaw11_Pairs.f kj5 t265 t268).bind fun t271 => (if t271 = true then ((ratlinelaw11_awake.f kj5).bind fun t272 => (some t272)) else (none))))) else (none)) else (none)) else (none)))) = some r := H
        have A18 := Aside0.mk A180
        clear A180
        replace H := Option.bind_eq_some_iff.mp H
        obtain ⟨t261, A190, H⟩ := H
        replace H : ((ratlinelaw04_Entries.f kj5 t258 t261).bind fun t264 => (if t264 = true then (if t254.toList = t256.toList then (if (t255 == t257) = true then ((merge_Scan.f l0 a1 a2 a3 a4).bind fun t265 => ((ratlineref11_Scan.f kj5 l0 a1 a2 a3 a4).bind fun t268 => ((ratlinelaw11_Pairs.f kj5 t265 t268).bind fun t271 => (if t271 = true then ((ratlinelaw11_awake.f kj5).bind fun t272 => (some t272)) else (none))))) else (none)) else (none)) else (none))) = some r := H
        have A19 := Aside0.mk A190
        clear A190
        replace H := Option.bind_eq_some_iff.mp H
        obtain ⟨t264, A200, H⟩ := H
        replace H : (if t264 = true then (if t254.toList = t256.toList then (if (t255 == t257) = true then ((merge_Scan.f l0 a1 a2 a3 a4).bind fun t265 => ((ratlineref11_Scan.f kj5 l0 a1 a2 a3 a4).bind fun t268 => ((ratlinelaw11_Pairs.f kj5 t265 t268).bind fun t271 => (if t271 = true then ((ratlinelaw11_awake.f kj5).bind fun t272 => (some t272)) else (none))))) else (none)) else (none)) else (none)) = some r := H
        have A20 := Aside0.mk A200
        clear A200
        by_cases c21 : t264 = true
        · subst c21
          have H1 : (if t254.toList = t256.toList then (if (t255 == t257) = true then ((merge_Scan.f l0 a1 a2 a3 a4).bind fun t265 => ((ratlineref11_Scan.f kj5 l0 a1 a2 a3 a4).bind fun t268 => ((ratlinelaw11_Pairs.f kj5 t265 t268).bind fun t271 => (if t271 = true then ((ratlinelaw11_awake.f kj5).bind fun t272 => (some t272)) else (none))))) else (none)) else (none)) = some r := by rw [if_pos rfl] at H; exact H
          clear H
          have H := H1
          clear H1
          by_cases c22 : t254.toList = t256.toList
          · rw [if_pos c22] at H
            have c22b0 : (t254.toList == t256.toList) = true := beq_iff_eq.mpr c22
            have c22b1 : (t254.toList != t256.toList) = false := bne_eq_false_iff_eq.mpr c22
            clear c22
            by_cases c23 : (t255 == t257) = true
            · rw [if_pos c23] at H
              have c23b0 : (t255 == t257) = true := c23
              (try (have c23b1 : decide (t255 = t257) = true := by simpa using c23))
              (try (have c23b2 : (t255 == t257) = true := by simpa using c23))
              clear c23
              replace H := Option.bind_eq_some_iff.mp H
              obtain ⟨t265, A240, H⟩ := H
              replace H : ((ratlineref11_Scan.f kj5 l0 a1 a2 a3 a4).bind fun t268 => ((ratlinelaw11_Pairs.f kj5 t265 t268).bind fun t271 => (if t271 = true then ((ratlinelaw11_awake.f kj5).bind fun t272 => (some t272)) else (none)))) = some r := H
              have A24 := Aside0.mk A240
              clear A240
              replace H := Option.bind_eq_some_iff.mp H
              obtain ⟨t268, A250, H⟩ := H
              replace H : ((ratlinelaw11_Pairs.f kj5 t265 t268).bind fun t271 => (if t271 = true then ((ratlinelaw11_awake.f kj5).bind fun t272 => (some t272)) else (none))) = some r := H
              have A25 := Aside0.mk A250
              clear A250
              replace H := Option.bind_eq_some_iff.mp H
              obtain ⟨t271, A260, H⟩ := H
              replace H : (if t271 = true then ((ratlinelaw11_awake.f kj5).bind fun t272 => (some t272)) else (none)) = some r := H
              have A26 := Aside0.mk A260
              clear A260
              by_cases c27 : t271 = true
              · subst c27
                have H1 : ((ratlinelaw11_awake.f kj5).bind fun t272 => (some t272)) = some r := by rw [if_pos rfl] at H; exact H
                clear H
                have H := H1
                clear H1
                replace H := Option.bind_eq_some_iff.mp H
                obtain ⟨t272, A280, H⟩ := H
                replace H : (some t272) = some r := H
                have A28 := Aside0.mk A280
                clear A280
                obtain rfl := Option.some.inj H
                go_wp2_with (first | ((with_reducible refine gate_callee (f := 16) rfl ?_); refine goesL_ (some 33) rfl rfl Try.func16 (by kernel_rfl) rfl #[.slice A0 l0.length c0, .string a1, .int .u64 a3] rfl (by (try simp only [List.map_toArray, List.map_cons, List.map_nil]); first | done | rfl | (simp only [List.length_drop, List.length_take]; rfl)) ?_; (with_reducible refine (merge_Get.calls _ _ l0 a1 a3 t254 t255 _ ?side1 ?side2 A16.out).mono ?_); (case side1 => repeat (first | exact (Kd.C_below HR0.out HB.out) | (with_reducible refine Kd.C_alloc ?_ _) | (with_reducible refine Kd.C_drewN ?_ _) | (with_reducible refine Kd.C_drew ?_))); (case side2 => exact HC0.out); rintro e w29 ⟨rfl, hb⟩; refine ⟨_, rfl, ?_⟩; have n0_ := Aside0.mk (below_step (by repeat (first | (with_reducible first | exact HB.out | apply below_alloc | apply pw_below_drewN | apply below_drew1) | exact HB.out)) hb); clear HB; have HB := n0_; clear n0_; (try clear hb); (try clear hb2); (try clear hk); (try clear hi)) | ((with_reducible refine gate_callee (f := 17) rfl ?_); refine goesL_ (some 40) rfl rfl Try.func17 (by kernel_rfl) rfl #[.slice A0 l0.length c0, .string a1, .int .u64 a3] rfl (by (try simp only [List.map_toArray, List.map_cons, List.map_nil]); first | done | rfl | (simp only [List.length_drop, List.length_take]; rfl)) ?_; (with_reducible refine (ratlineref11_Get.calls kj5 _ _ l0 a1 a3 t256 t257 _ ?side1 ?side2 A17.out).mono ?_); (case side1 => repeat (first | exact (Kd.C_below HR0.out HB.out) | (with_reducible refine Kd.C_alloc ?_ _) | (with_reducible refine Kd.C_drewN ?_ _) | (with_reducible refine Kd.C_drew ?_))); (case side2 => exact HC0.out); rintro e w30 ⟨rfl, hb⟩; refine ⟨_, rfl, ?_⟩; have n0_ := Aside0.mk (below_step (by repeat (first | (with_reducible first | exact HB.out | apply below_alloc | apply pw_below_drewN | apply below_drew1) | exact HB.out)) hb); clear HB; have HB := n0_; clear n0_; (try clear hb); (try clear hb2); (try clear hk); (try clear hi)) | ((with_reducible refine gate_callee (f := 19) rfl ?_); refine goesL_ (some 44) rfl rfl Try.func19 (by kernel_rfl) rfl #[.slice A0 l0.length c0] rfl (by (try simp only [List.map_toArray, List.map_cons, List.map_nil]); first | done | rfl | (simp only [List.length_drop, List.length_take]; rfl)) ?_; (with_reducible refine (merge_All.calls _ _ l0 t258 _ ?side1 ?side2 A18.out).mono ?_); (case side1 => repeat (first | exact (Kd.C_below HR0.out HB.out) | (with_reducible refine Kd.C_alloc ?_ _) | (with_reducible refine Kd.C_drewN ?_ _) | (with_reducible refine Kd.C_drew ?_))); (case side2 => exact HC0.out); rintro e w31 ⟨v259, rfl, ho0, hb⟩; refine ⟨_, rfl, ?_⟩; have n0_ := Aside0.mk (Kd.R_lower ho0 (below_size (by repeat (first | (with_reducible first | exact HB.out | apply below_alloc | apply pw_below_drewN | apply below_drew1) | exact HB.out)))); have n1_ := Aside0.mk (below_step (by repeat (first | (with_reducible first | exact HB.out | apply below_alloc | apply pw_below_drewN | apply below_drew1) | exact HB.out)) hb); clear HB; have HO260 := n0_; have HB := n1_; clear n0_ n1_; (try clear hb); (try clear hb2); (try clear hk); (try clear hi); (try clear ho0)) | ((with_reducible refine gate_callee (f := 20) rfl ?_); refine goesL_ (some 46) rfl rfl Try.func20 (by kernel_rfl) rfl #[.slice A0 l0.length c0] rfl (by (try simp only [List.map_toArray, List.map_cons, List.map_nil]); first | done | rfl | (simp only [List.length_drop, List.length_take]; rfl)) ?_; (with_reducible refine (ratlineref11_All.calls kj5 _ _ l0 t261 _ ?side1 ?side2 A19.out).mono ?_); (case side1 => repeat (first | exact (Kd.C_below HR0.out HB.out) | (with_reducible refine Kd.C_alloc ?_ _) | (with_reducible refine Kd.C_drewN ?_ _) | (with_reducible refine Kd.C_drew ?_))); (case side2 => exact HC0.out); rintro e w32 ⟨v262, rfl, ho0, hb⟩; refine ⟨_, rfl, ?_⟩; have n0_ := Aside0.mk (Kd.R_elder' (by (with_reducible repeat (first | apply Kd.R_alloc | apply Kd.R_drewN | apply Kd.R_drew)); exact HO260.out) (Kd.R_base ho0) hb); have n1_ := Aside0.mk (Kd.R_lower (Kd.R_new' ho0 (Kd.R_lt (by (with_reducible repeat (first | apply Kd.R_alloc | apply Kd.R_drewN | apply Kd.R_drew)); exact HO260.out))) (below_size (by repeat (first | (with_reducible first | exact HB.out | apply below_alloc | apply pw_below_drewN | apply below_drew1) | exact HB.out)))); have n2_ := Aside0.mk (below_step (by repeat (first | (with_reducible first | exact HB.out | apply below_alloc | apply pw_below_drewN | apply below_drew1) | exact HB.out)) hb); clear HO260; clear HB; have HO260 := n0_; have HO263 := n1_; have HB := n2_; clear n0_ n1_ n2_; (try clear hb); (try clear hb2); (try clear hk); (try clear hi); (try clear ho0); obtain ⟨Ao33, co33, eo33⟩ := Kd.R_slice HO260.out; subst eo33; obtain ⟨Ao34, co34, eo34⟩ := Kd.R_slice HO263.out; subst eo34) | ((with_reducible refine gate_callee (f := 18) rfl ?_); refine goesL_ (some 47) rfl rfl Try.func18 (by kernel_rfl) rfl #[.slice Ao33 t258.length co33, .slice Ao34 t261.length co34] rfl (by (try simp only [List.map_toArray, List.map_cons, List.map_nil]); first | done | rfl | (simp only [List.length_drop, List.length_take]; rfl)) ?_; (with_reducible refine (ratlinelaw04_Entries.calls kj5 _ _ t258 _ _ t261 true _ ?side1 ?side2 ?side3 ?side4 A20.out).mono ?_); (case side1 => repeat (first | exact (Kd.R_reads' HO260.out).2.2 | (with_reducible refine Kd.C_alloc ?_ _) | (with_reducible refine Kd.C_drewN ?_ _) | (with_reducible refine Kd.C_drew ?_))); (case side2 => exact (Kd.R_reads' HO260.out).2.1); (case side3 => repeat (first | exact (Kd.R_reads' HO263.out).2.2 | (with_reducible refine Kd.C_alloc ?_ _) | (with_reducible refine Kd.C_drewN ?_ _) | (with_reducible refine Kd.C_drew ?_))); (case side4 => exact (Kd.R_reads' HO263.out).2.1); rintro e w' ⟨rfl, ⟨nd, rfl⟩⟩; refine ⟨_, rfl, ?_⟩) | (go_at_call 22; (with_reducible refine (merge_Scan.calls _ _ l0 a1 a2 a3 a4 t265 _ ?side1 ?side2 A24.out).mono ?_); (case side1 => repeat (first | exact (Kd.C_below HR0.out (by repeat (first | (with_reducible first | exact HB.out | apply below_alloc | apply pw_below_drewN | apply below_drew1) | exact HB.out))) | (with_reducible refine Kd.C_alloc ?_ _) | (with_reducible refine Kd.C_drewN ?_ _) | (with_reducible refine Kd.C_drew ?_))); (case side2 => exact HC0.out); rintro e w35 ⟨v266, rfl, ho0, hb⟩; have n0_ := Aside0.mk (Kd.R_below (by (with_reducible repeat (first | apply Kd.R_alloc | apply Kd.R_drewN | apply Kd.R_drew)); exact HO260.out) hb); have n1_ := Aside0.mk (Kd.R_below (by (with_reducible repeat (first | apply Kd.R_alloc | apply Kd.R_drewN | apply Kd.R_drew)); exact HO263.out) hb); have n2_ := Aside0.mk (Kd.R_lower ho0 (below_size (by repeat (first | (with_reducible first | exact HB.out | apply below_alloc | apply pw_below_drewN | apply below_drew1) | exact HB.out)))); have n3_ := Aside0.mk (below_step (by repeat (first | (with_reducible first | exact HB.out | apply below_alloc | apply pw_below_drewN | apply below_drew1) | exact HB.out)) hb); clear HO260; clear HO263; clear HB; have HO260 := n0_; have HO263 := n1_; have HO267 := n2_; have HB := n3_; clear n0_ n1_ n2_ n3_; (try clear hb); (try clear hb2); (try clear hk); (try clear hi); (try clear ho0)) | (go_at_call 23; (with_reducible refine (ratlineref11_Scan.calls kj5 _ _ l0 a1 a2 a3 a4 t268 _ ?side1 ?side2 A25.out).mono ?_); (case side1 => repeat (first | exact (Kd.C_below HR0.out HB.out) | (with_reducible refine Kd.C_alloc ?_ _) | (with_reducible refine Kd.C_drewN ?_ _) | (with_reducible refine Kd.C_drew ?_))); (case side2 => exact HC0.out); rintro e w36 ⟨v269, rfl, ho0, hb⟩; have n0_ := Aside0.mk (Kd.R_below (by (with_reducible repeat (first | apply Kd.R_alloc | apply Kd.R_drewN | apply Kd.R_drew)); exact HO260.out) hb); have n1_ := Aside0.mk (Kd.R_below (by (with_reducible repeat (first | apply Kd.R_alloc | apply Kd.R_drewN | apply Kd.R_drew)); exact HO263.out) hb); have n2_ := Aside0.mk (Kd.R_elder' (by (with_reducible repeat (first | apply Kd.R_alloc | apply Kd.R_drewN | apply Kd.R_drew)); exact HO267.out) (Kd.R_base ho0) hb); have n3_ := Aside0.mk (Kd.R_lower (Kd.R_new' ho0 (Kd.R_lt (by (with_reducible repeat (first | apply Kd.R_alloc | apply Kd.R_drewN | apply Kd.R_drew)); exact HO267.out))) (below_size (by repeat (first | (with_reducible first | exact HB.out | apply below_alloc | apply pw_below_drewN | apply below_drew1) | exact HB.out)))); have n4_ := Aside0.mk (below_step (by repeat (first | (with_reducible first | exact HB.out | apply below_alloc | apply pw_below_drewN | apply below_drew1) | exact HB.out)) hb); clear HO260; clear HO263; clear HO267; clear HB; have HO260 := n0_; have HO263 := n1_; have HO267 := n2_; have HO270 := n3_; have HB := n4_; clear n0_ n1_ n2_ n3_ n4_; (try clear hb); (try clear hb2); (try clear hk); (try clear hi); (try clear ho0); obtain ⟨Ao37, co37, eo37⟩ := Kd.R_slice HO267.out; subst eo37; obtain ⟨Ao38, co38, eo38⟩ := Kd.R_slice HO270.out; subst eo38) | (go_at_call 21; (with_reducible refine (ratlinelaw11_Pairs.calls kj5 _ _ t265 _ _ t268 true _ ?side1 ?side2 ?side3 ?side4 A26.out).mono ?_); (case side1 => repeat (first | exact (Kd.R_reads' HO267.out).2.2 | (with_reducible refine Kd.C_alloc ?_ _) | (with_reducible refine Kd.C_drewN ?_ _) | (with_reducible refine Kd.C_drew ?_))); (case side2 => exact (Kd.R_reads' HO267.out).2.1); (case side3 => repeat (first | exact (Kd.R_reads' HO270.out).2.2 | (with_reducible refine Kd.C_alloc ?_ _) | (with_reducible refine Kd.C_drewN ?_ _) | (with_reducible refine Kd.C_drew ?_))); (case side4 => exact (Kd.R_reads' HO270.out).2.1); rintro e w' ⟨rfl, ⟨nd, rfl⟩⟩) | (go_at_call 15; (with_reducible refine (ratlinelaw11_awake.calls kj5  t272 _ A28.out).mono ?_); rintro e w39 ⟨rfl, hb⟩; have n0_ := Aside0.mk (Kd.R_below (by (with_reducible repeat (first | apply Kd.R_alloc | apply Kd.R_drewN | apply Kd.R_drew)); exact HO260.out) hb); have n1_ := Aside0.mk (Kd.R_below (by (with_reducible repeat (first | apply Kd.R_alloc | apply Kd.R_drewN | apply Kd.R_drew)); exact HO263.out) hb); have n2_ := Aside0.mk (Kd.R_below (by (with_reducible repeat (first | apply Kd.R_alloc | apply Kd.R_drewN | apply Kd.R_drew)); exact HO267.out) hb); have n3_ := Aside0.mk (Kd.R_below (by (with_reducible repeat (first | apply Kd.R_alloc | apply Kd.R_drewN | apply Kd.R_drew)); exact HO270.out) hb); have n4_ := Aside0.mk (below_step (by repeat (first | (with_reducible first | exact HB.out | apply below_alloc | apply pw_below_drewN | apply below_drew1) | exact HB.out)) hb); clear HO260; clear HO263; clear HO267; clear HO270; clear HB; have HO260 := n0_; have HO263 := n1_; have HO267 := n2_; have HO270 := n3_; have HB := n4_; clear n0_ n1_ n2_ n3_ n4_; (try clear hb); (try clear hb2); (try clear hk); (try clear hi)))
                go_ret
                exact ⟨by first | rfl | (simp [errW_none, errW_some] <;> rfl) | (simp [*, errW_none, errW_some] <;> rfl), by repeat (first | (with_reducible first | exact HB.out | apply below_alloc | apply pw_below_drewN | apply below_drew1) | exact HB.out)⟩
              · replace c27 := Bool.eq_false_iff.mpr c27
                subst c27
                have H1 : (none) = some r := by rw [if_neg (show ¬ (false = true) by decide)] at H; exact H
                clear H
                have H := H1
                clear H1
                exact absurd H (by simp)
            · rw [if_neg c23] at H
              exact absurd H (by simp)
          · rw [if_neg c22] at H
            exact absurd H (by simp)
        · replace c21 := Bool.eq_false_iff.mpr c21
          subst c21
          have H1 : (none) = some r := by rw [if_neg (show ¬ (false = true) by decide)] at H; exact H
          clear H
          have H := H1
          clear H1
          exact absurd H (by simp)

end Go.Proofs.Ytojemmipkpckbaa.P

end

section
set_option linter.unusedVariables false
namespace Go.Proofs.YtojemmipkpckbaaL
open Go Go.RowKit Go.Proofs.YtojemmipkpckbaaG Go.Proofs.Ytojemmipkpckbaa.P Go.Proofs.YtojemmipkpckbaaW.PrintWords Go.Proofs.YtojemmipkpckbaaW.PrintMore

def Short (e : En) : Prop := e.f0.f0.size ≤ 70 ∧ e.f1.size ≤ 300
instance (e : En) : Decidable (Short e) := inferInstanceAs (Decidable (_ ∧ _))
theorem rd_en (l : List En) {j : Nat} (h : j < l.length) : rd_T41 l (j : Int) = l[j] := by
  show l.getD ((j : Int)).toNat _ = _
  rw [Int.toNat_natCast, List.getD_eq_getElem?_getD, List.getElem?_eq_getElem h]
  rfl
theorem few_succ' {a : Nat} (h : a < 9223372036854775807) : wrap64 ((a : Int) + 1) = ((a + 1 : Nat) : Int) := by unfold wrap64; omega
theorem few_succ {a : Nat} (h : a < 9223372036854775800) : wrap64 ((a : Int) + 1) = ((a + 1 : Nat) : Int) := by unfold wrap64; omega
theorem few_loop (l : List En) (most : Int) (hl : l.length ≤ 9223372036854775807) (k : Nat) :
    ∀ (m j : Nat), j + m = l.length → ratlinelaw03_Few.l0 (m + k + 1) l most l (l.length : Int) (j : Int) = some (decide (∀ e ∈ l.drop j, Short e) && decide ((l.length : Int) ≤ most)) := by
  intro m
  induction m with
  | zero =>
    intro j hj
    obtain rfl : j = l.length := by omega
    simp only [ratlinelaw03_Few.l0]
    rw [if_neg (by omega), List.drop_length]
    simp
  | succ m ih =>
    intro j hj
    have hlt : j < l.length := by omega
    generalize hk : m + 1 + k = q
    have hj1 : j < 9223372036854775807 := by omega
    simp only [ratlinelaw03_Few.l0, few_succ' hj1]
    rw [if_pos (by omega), if_pos (by omega), if_pos (by omega), rd_en l hlt, ← hk, show m + 1 + k = m + k + 1 from by omega, ih (j + 1) (by omega), List.drop_eq_getElem_cons hlt]
    by_cases h1 : ((l[j].f0.f0.size : Nat) : Int) > 70
    · rw [if_pos h1, decide_eq_false (fun h => by have := (h l[j] (List.mem_cons_self ..)).1; omega)]
      rfl
    · rw [if_neg h1]
      by_cases h2 : ((l[j].f1.size : Nat) : Int) > 300
      · rw [if_pos h2, decide_eq_false (fun h => by have := (h l[j] (List.mem_cons_self ..)).2; omega)]
        rfl
      · rw [if_neg h2]
        congr 2
        refine decide_eq_decide.2 ⟨fun h e he => ?_, fun h e he => h e (List.mem_cons_of_mem _ he)⟩
        rcases List.mem_cons.1 he with rfl | he
        · exact ⟨by omega, by omega⟩
        · exact h e he
theorem few_f' (l : List En) (most : Int) (hl : l.length ≤ 9223372036854775807) (k : Nat) : ratlinelaw03_Few.f (l.length + k + 1) l most = some (decide (∀ e ∈ l, Short e) && decide ((l.length : Int) ≤ most)) := by
  have := few_loop l most hl k l.length 0 (by omega)
  rwa [List.drop_zero] at this
end Go.Proofs.YtojemmipkpckbaaL

end

section
set_option linter.unusedVariables false
namespace Go.Proofs.YtojemmipkpckbaaL
open Go Go.RowKit Go.Proofs.YtojemmipkpckbaaG Go.Proofs.Ytojemmipkpckbaa.P Go.Proofs.YtojemmipkpckbaaW.PrintWords Go.Proofs.YtojemmipkpckbaaW.PrintMore

def risesB : List En → Bool
  | a :: b :: r => decide (cmpI a.f0 b.f0 < 0) && risesB (b :: r)
  | _ => true
theorem rises_two (a b : En) (r : List En) : risesB (a :: b :: r) = (decide (cmpI a.f0 b.f0 < 0) && risesB (b :: r)) := rfl
theorem rcompare_f (x y : Ik) : ratlineref03_Compare.f x.f0 x.f1 x.f2 y.f0 y.f1 y.f2 = some (cmpI x y) := by
  unfold ratlineref03_Compare.f cmpI
  by_cases c1 : lt x.f0 y.f0
  · rw [if_pos c1, if_pos (show Op.bytesLess x.f0.toList y.f0.toList = true from c1)]
  · rw [if_neg c1, if_neg (show ¬ Op.bytesLess x.f0.toList y.f0.toList = true from c1)]
    by_cases c2 : lt y.f0 x.f0
    · rw [if_pos c2, if_pos (show Op.bytesLess y.f0.toList x.f0.toList = true from c2)]
    · rw [if_neg c2, if_neg (show ¬ Op.bytesLess y.f0.toList x.f0.toList = true from c2)]
      repeat' split
      all_goals rfl
theorem rrising_loop (l : List En) (hl : l.length < 9223372036854775800) (q : Nat) :
    ∀ (m j : Nat), j + m + 1 = l.length → ratlineref03_Rising.l0 (m + q + 1) l ((j + 1 : Nat) : Int) = some (risesB (l.drop j)) := by
  intro m
  induction m with
  | zero =>
    intro j hj
    simp only [ratlineref03_Rising.l0]
    rw [if_neg (by omega)]
    have : l.drop j = [l[j]'(by omega)] := by rw [List.drop_eq_getElem_cons (by omega), List.drop_of_length_le (by omega)]
    rw [this]
    rfl
  | succ m ih =>
    intro j hj
    have hlt : j < l.length := by omega
    have hlt2 : j + 1 < l.length := by omega
    generalize hk : m + 1 + q = k
    have hj1 : j + 1 < 9223372036854775800 := by omega
    have hm : wrap64 (((j + 1 : Nat) : Int) - 1) = (j : Int) := by unfold wrap64; omega
    simp only [ratlineref03_Rising.l0, few_succ hj1, hm]
    rw [if_pos (by omega), if_pos (by omega), if_pos (by omega), if_pos (by omega), rd_en l hlt, rd_en l hlt2]
    refine bind1 (rcompare_f _ _) ?_
    rw [List.drop_eq_getElem_cons hlt, List.drop_eq_getElem_cons hlt2, rises_two]
    by_cases h : cmpI l[j].f0 l[j + 1].f0 ≥ 0
    · rw [if_pos h, decide_eq_false (by omega), Bool.false_and]
    · rw [if_neg h, decide_eq_true (by omega), Bool.true_and, ← hk, show m + 1 + q = m + q + 1 from by omega, ih (j + 1) (by omega), List.drop_eq_getElem_cons hlt2]
theorem rrising_k {l : List En} (h : l.length ≤ 150) (k : Nat) : ratlineref03_Rising.f (k + 200) l = some (risesB l) := by
  unfold ratlineref03_Rising.f
  by_cases h0 : l.length = 0
  · obtain rfl : l = [] := List.eq_nil_of_length_eq_zero h0
    rw [show k + 200 = (k + 199) + 1 from rfl]
    generalize k + 199 = z
    simp only [ratlineref03_Rising.l0]
    rw [if_neg (by decide)]
    rfl
  · have := rrising_loop l (by omega) (k + 200 - l.length) (l.length - 1) 0 (by omega)
    rw [show l.length - 1 + (k + 200 - l.length) + 1 = k + 200 from by omega, List.drop_zero] at this
    exact this
end Go.Proofs.YtojemmipkpckbaaL

end

section
set_option linter.unusedVariables false
namespace Go.Proofs.YtojemmipkpckbaaL
open Go Go.RowKit Go.Proofs.YtojemmipkpckbaaG Go.Proofs.Ytojemmipkpckbaa.P Go.Proofs.YtojemmipkpckbaaW.PrintWords Go.Proofs.YtojemmipkpckbaaW.PrintMore

theorem mLess_no {x y : Ik} (h : ¬ mLess x y = true) : cmpI y x ≤ 0 := by
  have h1 := cmpI_neg y x
  have h2 : ¬ cmpI x y < 0 := fun z => h ((mLess_iff x y).2 z)
  omega
theorem mLeast_min : ∀ (rest : List (List MEn)) (i : Nat) (best : Option (Nat × MEn)) (j : Nat) (b : MEn), mLeast rest i best = some (j, b) →
    (∀ e r, (e :: r) ∈ rest → cmpI b.f0 e.f0 ≤ 0) ∧ (∀ i0 b0, best = some (i0, b0) → cmpI b.f0 b0.f0 ≤ 0)
  | [], i, best, j, b, h => by
    refine ⟨fun e r he => by simp at he, fun i0 b0 hb => ?_⟩
    rw [mLeast] at h
    rw [h] at hb
    obtain ⟨_, rfl⟩ := Prod.mk.inj (Option.some.inj hb)
    exact Int.le_of_eq ((cmpI_zero _ _).2 ⟨rfl, rfl, rfl⟩)
  | [] :: r, i, best, j, b, h => by
    have ih := mLeast_min r (i + 1) best j b h
    refine ⟨fun e q he => ?_, ih.2⟩
    rcases List.mem_cons.1 he with h0 | h0
    · cases h0
    · exact ih.1 e q h0
  | (x :: l) :: r, i, best, j, b, h => by
    have ih := mLeast_min r (i + 1) _ j b h
    cases best with
    | none =>
      have hx := ih.2 i x rfl
      refine ⟨fun e q he => ?_, fun i0 b0 hb => by cases hb⟩
      rcases List.mem_cons.1 he with h0 | h0
      · obtain ⟨rfl, _⟩ := List.cons.inj h0
        exact hx
      · exact ih.1 e q h0
    | some p =>
      obtain ⟨i1, b1⟩ := p
      by_cases hl : mLess x.f0 b1.f0 = true
      · have hx := ih.2 i x (if_pos hl)
        refine ⟨fun e q he => ?_, fun i0 b0 hb => ?_⟩
        · rcases List.mem_cons.1 he with h0 | h0
          · obtain ⟨rfl, _⟩ := List.cons.inj h0
            exact hx
          · exact ih.1 e q h0
        · obtain ⟨_, rfl⟩ := Prod.mk.inj (Option.some.inj hb)
          exact cmpI_trans hx (Int.le_of_lt ((mLess_iff _ _).1 hl))
      · have hx := ih.2 i1 b1 (if_neg hl)
        refine ⟨fun e q he => ?_, fun i0 b0 hb => ?_⟩
        · rcases List.mem_cons.1 he with h0 | h0
          · obtain ⟨rfl, _⟩ := List.cons.inj h0
            exact cmpI_trans hx (mLess_no hl)
          · exact ih.1 e q h0
        · obtain ⟨_, rfl⟩ := Prod.mk.inj (Option.some.inj hb)
          exact hx
theorem mLeast_none : ∀ (rest : List (List MEn)) (i : Nat) (best : Option (Nat × MEn)), mLeast rest i best = none → best = none ∧ ∀ l ∈ rest, l = []
  | [], i, best, h => ⟨by rw [mLeast] at h; exact h, fun l hl => by simp at hl⟩
  | [] :: r, i, best, h => by
    have ih := mLeast_none r (i + 1) best h
    refine ⟨ih.1, fun l hl => ?_⟩
    rcases List.mem_cons.1 hl with rfl | hl
    · rfl
    · exact ih.2 l hl
  | (x :: l) :: r, i, best, h => by
    have ih := (mLeast_none r (i + 1) _ h).1
    cases best with
    | none => cases ih
    | some p =>
      obtain ⟨i1, b1⟩ := p
      simp only at ih
      split at ih <;> cases ih
def pop (i : Nat) (cur : List (List MEn)) : List (List MEn) := cur.modify i List.tail
def sameLast (out : List MEn) (e : MEn) : Bool := match out.getLast? with | none => false | some k => mSame k.f0 e.f0
def rAll : Nat → List (List MEn) → List MEn → List MEn
  | 0, _, out => out
  | n + 1, cur, out => match mLeast cur 0 none with
    | none => out
    | some (i, e) => rAll n (pop i cur) (if sameLast out e = true then out else out ++ [e])
def Rises (cur : List (List MEn)) : Prop := ∀ l ∈ cur, risesB l = true
def lastDrop (out : List MEn) (cur : List (List MEn)) : List (List MEn) := match out.getLast? with | none => cur | some k => mDrop k.f0 cur
theorem mSame_iff {x y : Ik} : mSame x y = true ↔ x = y := by
  unfold mSame
  rw [Bool.and_eq_true, Bool.and_eq_true, beq_iff_eq, beq_iff_eq, beq_iff_eq, ba_eq_iff]
  constructor
  · rintro ⟨h1, h2, h3⟩
    cases x
    cases y
    simp_all
  · rintro rfl
    exact ⟨rfl, rfl, rfl⟩
theorem dropOne_not {k : Ik} {l : List MEn} (h : ∀ e r, l = e :: r → e.f0 ≠ k) : dropOne k l = l := by
  cases l with
  | nil => rfl
  | cons e r => rw [dropOne, if_neg (fun z => h e r rfl (mSame_iff.1 z))]
theorem rises_tail {e : MEn} {r : List MEn} (h : risesB (e :: r) = true) : risesB r = true ∧ ∀ x q, r = x :: q → cmpI e.f0 x.f0 < 0 := by
  cases r with
  | nil => exact ⟨rfl, fun x q h => by cases h⟩
  | cons x q =>
    rw [rises_two, Bool.and_eq_true] at h
    refine ⟨h.2, fun y z hy => ?_⟩
    obtain ⟨rfl, _⟩ := List.cons.inj hy
    exact of_decide_eq_true h.1
theorem pop_at {cur : List (List MEn)} {i : Nat} {l : List MEn} (h : cur[i]? = some l) (j : Nat) : (pop i cur)[j]? = if j = i then some l.tail else cur[j]? := by
  unfold pop
  rw [List.getElem?_modify]
  by_cases hj : j = i
  · subst hj
    rw [if_pos rfl, h]
    simp
  · rw [if_neg hj]
    have hj2 : ¬ i = j := fun e => hj e.symm
    cases cur[j]? <;> simp [hj2]
theorem pop_mem {cur : List (List MEn)} {i : Nat} {e : MEn} {r l : List MEn} (h : cur[i]? = some (e :: r)) (hl : l ∈ pop i cur) : l = r ∨ l ∈ cur := by
  obtain ⟨j, hj⟩ := List.mem_iff_getElem?.1 hl
  rw [pop_at h] at hj
  split at hj
  · exact .inl (Option.some.inj hj).symm
  · exact .inr (List.mem_of_getElem? hj)
theorem pop_rises {cur : List (List MEn)} {i : Nat} {e : MEn} {r : List MEn} (h : cur[i]? = some (e :: r)) (hr : Rises cur) : Rises (pop i cur) := fun l hl => by
  rcases pop_mem h hl with rfl | hl
  · exact (rises_tail (hr _ (List.mem_of_getElem? h))).1
  · exact hr l hl
theorem pop_drop {cur : List (List MEn)} {i : Nat} {e : MEn} {r : List MEn} (h : cur[i]? = some (e :: r)) (hr : Rises cur) : mDrop e.f0 (pop i cur) = mDrop e.f0 cur := by
  rw [mDrop_eq, mDrop_eq]
  apply List.ext_getElem?
  intro j
  rw [List.getElem?_map, List.getElem?_map, pop_at h]
  by_cases hj : j = i
  · subst hj
    rw [if_pos rfl, h]
    show some (dropOne e.f0 r) = some (dropOne e.f0 (e :: r))
    rw [show dropOne e.f0 (e :: r) = r from by rw [dropOne, if_pos (mSame_self e.f0)]]
    rw [dropOne_not]
    intro x q hx hk
    have := (rises_tail (hr _ (List.mem_of_getElem? h))).2 x q hx
    rw [hk, (cmpI_zero _ _).2 ⟨rfl, rfl, rfl⟩] at this
    omega
  · rw [if_neg hj]
theorem pop_size {cur : List (List MEn)} {i : Nat} {e : MEn} {r : List MEn} (h : cur[i]? = some (e :: r)) : mSize (pop i cur) + 1 = mSize cur := by
  unfold mSize pop
  induction cur generalizing i with
  | nil => simp at h
  | cons a q ih =>
    cases i with
    | zero =>
      simp at h
      subst h
      simp
      omega
    | succ i =>
      have := ih (by simpa using h)
      simp only [List.modify_succ_cons, List.map_cons, List.sum_cons]
      omega
theorem all_nil_drop {cur : List (List MEn)} (h : ∀ l ∈ cur, l = []) (k : Ik) : mDrop k cur = cur := by
  rw [mDrop_eq]
  conv => rhs; rw [← List.map_id cur]
  refine List.map_congr_left (fun l hl => ?_)
  rw [h l hl]
  rfl
theorem mAll_more : ∀ (n : Nat) (cur : List (List MEn)), mSize cur ≤ n → mAll (n + 1) cur = mAll n cur
  | 0, cur, h => by
    cases hl : mLeast cur 0 none with
    | none => rw [mAll_none hl, mAll_none hl]
    | some p =>
      obtain ⟨i, e⟩ := p
      obtain ⟨r, hr⟩ := mLeast_some hl
      have := mSize_pos hr
      omega
  | n + 1, cur, h => by
    cases hl : mLeast cur 0 none with
    | none => rw [mAll_none hl, mAll_none hl]
    | some p =>
      obtain ⟨i, e⟩ := p
      obtain ⟨r, hr⟩ := mLeast_some hl
      have := mDrop_less hr
      rw [mAll_cons (n + 1) hl, mAll_cons n hl, mAll_more n _ (by omega)]
theorem rAll_eq : ∀ (n : Nat) (cur : List (List MEn)) (out : List MEn), Rises cur → mSize cur ≤ n → (∀ k, out.getLast? = some k → ∀ e r, (e :: r) ∈ cur → cmpI k.f0 e.f0 ≤ 0) → rAll n cur out = out ++ mAll n (lastDrop out cur)
  | 0, cur, out, _, _, _ => by rw [rAll, mAll, List.append_nil]
  | n + 1, cur, out, hr, hs, hk => by
    cases hl : mLeast cur 0 none with
    | none =>
      rw [rAll, hl]
      have hn := (mLeast_none _ _ _ hl).2
      have : lastDrop out cur = cur := by
        unfold lastDrop
        split
        · rfl
        · exact all_nil_drop hn _
      rw [this, mAll_none hl, List.append_nil]
    | some p =>
      obtain ⟨i, e⟩ := p
      obtain ⟨r, hi⟩ := mLeast_some hl
      have hmin := (mLeast_min _ _ _ _ _ hl).1
      have hps := pop_size hi
      have hemem : (e :: r) ∈ cur := List.mem_of_getElem? hi
      have hge : ∀ x q, (x :: q) ∈ pop i cur → cmpI e.f0 x.f0 ≤ 0 := fun x q hx => by
        rcases pop_mem hi hx with h | h
        · exact Int.le_of_lt ((rises_tail (hr _ hemem)).2 x q h.symm)
        · exact hmin x q h
      rw [rAll, hl]
      simp only
      have take : sameLast out e = false → lastDrop out cur = cur → rAll n (pop i cur) (if sameLast out e = true then out else out ++ [e]) = out ++ mAll (n + 1) (lastDrop out cur) := fun h1 h2 => by
        rw [h1, if_neg (by decide), rAll_eq n (pop i cur) (out ++ [e]) (pop_rises hi hr) (by omega) (fun k hkk x q hx => by
          rw [List.getLast?_append, List.getLast?_singleton] at hkk
          obtain rfl := Option.some.inj hkk
          exact hge x q hx), h2, mAll_cons n hl]
        have : lastDrop (out ++ [e]) (pop i cur) = mDrop e.f0 cur := by
          unfold lastDrop
          rw [List.getLast?_append, List.getLast?_singleton]
          exact pop_drop hi hr
        rw [this, List.append_assoc]
        rfl
      cases hlast : out.getLast? with
      | none => exact take (by unfold sameLast; rw [hlast]) (by unfold lastDrop; rw [hlast])
      | some k =>
        by_cases hsm : mSame k.f0 e.f0 = true
        · have hke := mSame_iff.1 hsm
          rw [show sameLast out e = true from by unfold sameLast; rw [hlast]; exact hsm, if_pos rfl, rAll_eq n (pop i cur) out (pop_rises hi hr) (by omega) (fun k' hk' x q hx => by
            rw [hlast] at hk'
            obtain rfl := Option.some.inj hk'
            rw [hke]
            exact hge x q hx)]
          unfold lastDrop
          rw [hlast]
          simp only
          rw [hke, pop_drop hi hr]
          have := mDrop_less hi
          rw [mAll_more n _ (by omega)]
        · refine take (by unfold sameLast; rw [hlast]; simpa using hsm) ?_
          unfold lastDrop
          rw [hlast]
          simp only
          rw [mDrop_eq]
          conv => rhs; rw [← List.map_id cur]
          refine List.map_congr_left (fun l hl' => ?_)
          refine dropOne_not (fun x q hx hkx => hsm (mSame_iff.2 ?_))
          subst hx
          have h1 := hmin x q hl'
          have h2 := hk k hlast e r hemem
          rw [hkx] at h1
          have h3 := cmpI_neg e.f0 k.f0
          have h4 := (cmpI_zero e.f0 k.f0).1 (by omega)
          have : e.f0 = k.f0 := mSame_iff.1 (by unfold mSame; rw [h4.1, h4.2.1, h4.2.2]; simp)
          exact this.symm
end Go.Proofs.YtojemmipkpckbaaL

end

section
set_option linter.unusedVariables false
namespace Go.Proofs.YtojemmipkpckbaaL
open Go Go.RowKit Go.Proofs.YtojemmipkpckbaaG Go.Proofs.Ytojemmipkpckbaa.P Go.Proofs.YtojemmipkpckbaaW.PrintWords Go.Proofs.YtojemmipkpckbaaW.PrintMore

/-- What is left of lists, so many taken away of each. -/
def curOf (L : List (List MEn)) (A : List Nat) : List (List MEn) := List.zipWith (fun l a => l.drop a) L A
def ats (A : List Nat) : List Int := A.map Int.ofNat
theorem rd_ats {A : List Nat} {i a : Nat} (h : A[i]? = some a) : rd (ats A) (i : Int) = (a : Int) := by
  show (ats A).getD ((i : Int)).toNat 0 = _
  rw [Int.toNat_natCast, List.getD_eq_getElem?_getD, ats, List.getElem?_map, h]
  rfl
theorem ats_len (A : List Nat) : (ats A).length = A.length := List.length_map _
theorem cur_at {L : List (List MEn)} {A : List Nat} {i : Nat} {l : List MEn} {a : Nat} (hl : L[i]? = some l) (ha : A[i]? = some a) : (curOf L A)[i]? = some (l.drop a) := by
  unfold curOf
  rw [List.getElem?_zipWith, hl, ha]
theorem cur_len {L : List (List MEn)} {A : List Nat} (h : A.length = L.length) : (curOf L A).length = L.length := by
  unfold curOf
  rw [List.length_zipWith, h, Nat.min_self]
theorem rd_en' (l : List MEn) {a : Nat} {e : MEn} {r : List MEn} (h : l.drop a = e :: r) : rd_T41 l (a : Int) = e := by
  have hlt : a < l.length := by
    have := congrArg List.length h
    rw [List.length_drop, List.length_cons] at this
    omega
  rw [rd_en l hlt]
  rw [List.drop_eq_getElem_cons hlt] at h
  exact (List.cons.inj h).1
theorem drop_lt {l : List MEn} {a : Nat} {e : MEn} {r : List MEn} (h : l.drop a = e :: r) : a < l.length := by
  have := congrArg List.length h
  rw [List.length_drop, List.length_cons] at this
  omega
/-- What the document's function All asks of its lists. -/
structure Room (L : List (List MEn)) (A : List Nat) : Prop where
  len : A.length = L.length
  few : L.length < 1000000000
  short : ∀ l ∈ L, l.length < 1000000000
  le : ∀ (i : Nat) (l : List MEn) (a : Nat), L[i]? = some l → A[i]? = some a → a ≤ l.length
/-- The inner loop: from the place of the best one so far. -/
theorem inner {L : List (List MEn)} {A : List Nat} (hR : Room L A) (out r : List MEn) : ∀ (m j : Nat) (best : Option (Nat × MEn)), j + m = L.length → mIn (curOf L A) best →
    Ev (fun k => ratlineref11_All.l1 k L out (ats A) (mAt (mLeast ((curOf L A).drop j) j best)) (L.length : Int)) r → Ev (fun k => ratlineref11_All.l1 k L out (ats A) (mAt best) (j : Int)) r := by
  intro m
  induction m with
  | zero =>
    intro j best hj hb h
    obtain rfl : j = L.length := by omega
    rw [← cur_len hR.len, List.drop_length, cur_len hR.len] at h
    exact h
  | succ m ih =>
    intro j best hj hb h
    have hlt : j < L.length := by omega
    obtain ⟨l, hl⟩ : ∃ l, L[j]? = some l := ⟨_, List.getElem?_eq_getElem hlt⟩
    obtain ⟨a, ha⟩ : ∃ a, A[j]? = some a := ⟨_, List.getElem?_eq_getElem (by rw [hR.len]; exact hlt)⟩
    have hc := cur_at hl ha
    have hca := hR.le j l a hl ha
    have hdr : (curOf L A).drop j = l.drop a :: (curOf L A).drop (j + 1) := by
      have hjc : j < (curOf L A).length := by rw [cur_len hR.len]; exact hlt
      rw [List.drop_eq_getElem_cons hjc]
      congr 1
      rw [List.getElem?_eq_getElem hjc] at hc
      exact Option.some.inj hc
    rw [hdr] at h
    have hfew := hR.few
    refine ev_step (fun k => by rw [ratlineref11_All.l1, if_pos (by omega), if_pos (by omega), if_pos (by rw [ats_len, hR.len]; omega), rd_ls L hl, rd_ats ha, up1 (by omega)]) ?_
    cases hd : l.drop a with
    | nil =>
      have hle : l.length ≤ a := List.drop_eq_nil_iff.1 hd
      rw [hd] at h
      exact ev_neg (by omega) (ih (j + 1) best (by omega) hb h)
    | cons e q =>
      have hal := drop_lt hd
      rw [hd] at h hc
      refine ev_pos (by omega) ?_
      cases best with
      | none => exact ev_pos (by show (-1 : Int) < 0; omega) (ih (j + 1) (some (j, e)) (by omega) ⟨q, hc⟩ h)
      | some p =>
        obtain ⟨i, b⟩ := p
        obtain ⟨z, hz⟩ := hb
        have hiL : i < L.length := by
          have := (List.getElem?_eq_some_iff.1 hz).1
          rwa [cur_len hR.len] at this
        obtain ⟨li, hli⟩ : ∃ l, L[i]? = some l := ⟨_, List.getElem?_eq_getElem hiL⟩
        obtain ⟨ai, hai⟩ : ∃ a, A[i]? = some a := ⟨_, List.getElem?_eq_getElem (by rw [hR.len]; exact hiL)⟩
        have hci := cur_at hli hai
        rw [hz] at hci
        have hdi := (Option.some.inj hci).symm
        have hail := drop_lt hdi
        rw [show mAt (some (i, b)) = (i : Int) from rfl, rd_ls L hli, rd_ats hai, rd_en' l hd, rd_en' li hdi]
        refine ev_neg (by omega) (ev_pos (by omega) (ev_pos (by omega) (ev_pos (by omega) (ev_pos (by rw [ats_len, hR.len]; omega) (ev_pos (by omega) (ev_pos (by omega) ?_))))))
        refine ev_bind (rcompare_f e.f0 b.f0) ?_
        have h' : Ev (fun k => ratlineref11_All.l1 k L out (ats A) (mAt (mLeast ((curOf L A).drop (j + 1)) (j + 1) (if mLess e.f0 b.f0 = true then some (j, e) else some (i, b)))) (L.length : Int)) r := h
        by_cases hm : mLess e.f0 b.f0 = true
        · rw [if_pos hm] at h'
          exact ev_pos ((mLess_iff _ _).1 hm) (ih (j + 1) (some (j, e)) (by omega) ⟨q, hc⟩ h')
        · rw [if_neg hm] at h'
          exact ev_neg (fun z => hm ((mLess_iff _ _).2 z)) (ih (j + 1) (some (i, b)) (by omega) ⟨z, hz⟩ h')
theorem cur_pop {L : List (List MEn)} {A : List Nat} {i a : Nat} {l : List MEn} (hlen : A.length = L.length) (hl : L[i]? = some l) (ha : A[i]? = some a) : curOf L (A.set i (a + 1)) = pop i (curOf L A) := by
  apply List.ext_getElem?
  intro j
  rw [pop_at (cur_at hl ha)]
  unfold curOf
  rw [List.getElem?_zipWith, List.getElem?_zipWith]
  by_cases hj : j = i
  · subst hj
    rw [if_pos rfl, List.getElem?_set_self (List.getElem?_eq_some_iff.1 ha).1, hl]
    simp
  · rw [if_neg hj, List.getElem?_set_ne (fun e => hj e.symm)]
theorem room_step {L : List (List MEn)} {A : List Nat} {i a : Nat} {l : List MEn} (hR : Room L A) (hl : L[i]? = some l) (ha : A[i]? = some a) (hlt : a < l.length) : Room L (A.set i (a + 1)) := by
  refine ⟨by rw [List.length_set]; exact hR.len, hR.few, hR.short, fun j q b hq hb => ?_⟩
  by_cases hj : j = i
  · subst hj
    rw [List.getElem?_set_self (List.getElem?_eq_some_iff.1 ha).1] at hb
    rw [hl] at hq
    obtain rfl := Option.some.inj hq
    obtain rfl := Option.some.inj hb
    exact hlt
  · rw [List.getElem?_set_ne (fun e => hj e.symm)] at hb
    exact hR.le j q b hq hb
theorem ats_set (A : List Nat) (i a : Nat) : (ats A).set i ((a + 1 : Nat) : Int) = ats (A.set i (a + 1)) := by
  unfold ats
  rw [List.map_set]
  rfl
theorem last_rd {out : List MEn} (h : 0 < out.length) : ∃ k, out.getLast? = some k ∧ rd_T41 out ((out.length - 1 : Nat) : Int) = k := by
  refine ⟨out[out.length - 1]'(by omega), ?_, rd_en out (by omega)⟩
  rw [List.getLast?_eq_getElem?, List.getElem?_eq_getElem (by omega)]
/-- The outer loop. -/
theorem outer {L : List (List MEn)} : ∀ (n : Nat) (A : List Nat) (out : List MEn), Room L A → mSize (curOf L A) ≤ n → out.length + n < 1000000000 → Ev (fun k => ratlineref11_All.l0 k L out (ats A)) (rAll n (curOf L A) out) := by
  intro n
  induction n with
  | zero =>
    intro A out hR hn ho
    refine ev_step (fun k => by rw [ratlineref11_All.l0]) ?_
    have hln : mLeast (curOf L A) 0 none = none := by
      cases hl : mLeast (curOf L A) 0 none with
      | none => rfl
      | some p =>
        obtain ⟨i, e⟩ := p
        obtain ⟨r, hr⟩ := mLeast_some hl
        have := mSize_pos hr
        omega
    refine inner hR out _ L.length 0 none (by omega) trivial ?_
    rw [List.drop_zero, hln]
    refine ev_step (fun k => by rw [ratlineref11_All.l1, if_neg (Int.lt_irrefl _), if_pos (by show (-1 : Int) < 0; omega)]) ?_
    exact ev_some _
  | succ n ih =>
    intro A out hR hn ho
    refine ev_step (fun k => by rw [ratlineref11_All.l0]) ?_
    refine inner hR out _ L.length 0 none (by omega) trivial ?_
    rw [List.drop_zero, rAll]
    cases hl : mLeast (curOf L A) 0 none with
    | none =>
      refine ev_step (fun k => by rw [ratlineref11_All.l1, if_neg (Int.lt_irrefl _), if_pos (by show (-1 : Int) < 0; omega)]) ?_
      exact ev_some _
    | some p =>
      obtain ⟨i, e⟩ := p
      obtain ⟨q, hq⟩ := mLeast_some hl
      have hiL : i < L.length := by
        have := (List.getElem?_eq_some_iff.1 hq).1
        rwa [cur_len hR.len] at this
      obtain ⟨li, hli⟩ : ∃ l, L[i]? = some l := ⟨_, List.getElem?_eq_getElem hiL⟩
      obtain ⟨ai, hai⟩ : ∃ a, A[i]? = some a := ⟨_, List.getElem?_eq_getElem (by rw [hR.len]; exact hiL)⟩
      have hci := cur_at hli hai
      rw [hq] at hci
      have hdi := (Option.some.inj hci).symm
      have hail := drop_lt hdi
      have hsh := hR.short li (List.mem_of_getElem? hli)
      have hps := pop_size hq
      have hfew := hR.few
      have hR2 := room_step hR hli hai hail
      have hcp := cur_pop hR.len hli hai
      have step1 := ih (A.set i (ai + 1)) (out ++ [e]) hR2 (by rw [hcp]; omega) (by rw [List.length_append]; simp; omega)
      have step2 := ih (A.set i (ai + 1)) out hR2 (by rw [hcp]; omega) (by omega)
      rw [hcp] at step1 step2
      have hcl : e = ⟨⟨e.f0.f0, e.f0.f1, e.f0.f2⟩, e.f1⟩ := rfl
      refine ev_step (fun k => by rw [ratlineref11_All.l1, if_neg (Int.lt_irrefl _), show mAt (some (i, e)) = (i : Int) from rfl, if_neg (by omega), if_pos (by omega), if_pos (by omega), if_pos (by rw [ats_len, hR.len]; omega), rd_ls L hli, rd_ats hai, if_pos (by omega), if_pos (by omega), rd_en' li hdi, up1 (by omega), Int.toNat_natCast, ats_set]) ?_
      refine ev_bind rfl ?_
      simp only
      by_cases h0 : out.length = 0
      · obtain rfl : out = [] := List.eq_nil_of_length_eq_zero h0
        refine ev_pos rfl (ev_pos (by decide) ?_)
        exact step1
      · obtain ⟨k, hk, hrd⟩ := last_rd (by omega : 0 < out.length)
        have hw : wrap64 ((out.length : Int) - 1) = ((out.length - 1 : Nat) : Int) := by unfold wrap64; omega
        rw [hw, hrd]
        refine ev_neg (by omega) (ev_pos (by omega) (ev_pos (by omega) ?_))
        have hs : sameLast out e = mSame k.f0 e.f0 := by unfold sameLast; rw [hk]
        rw [hs]
        by_cases hm : mSame k.f0 e.f0 = true
        · rw [if_pos hm]
          refine ev_neg (fun z => ?_) step2
          rw [← Bool.not_and, ← Bool.not_and] at z
          unfold mSame at hm
          rw [hm] at z
          exact absurd z (by decide)
        · rw [if_neg hm]
          refine ev_pos ?_ (ev_pos (by omega) step1)
          rw [← Bool.not_and, ← Bool.not_and]
          unfold mSame at hm
          rw [Bool.eq_false_iff.2 hm]
          rfl
theorem zip_zero (L : List (List MEn)) : curOf L (List.replicate L.length 0) = L := by
  apply List.ext_getElem?
  intro j
  unfold curOf
  rw [List.getElem?_zipWith]
  by_cases h : j < L.length
  · rw [List.getElem?_eq_getElem h, List.getElem?_replicate, if_pos h]
    rfl
  · rw [List.getElem?_eq_none (by omega)]
/-- The document's function All tells what the program's does. -/
theorem refAll_ev {L : List (List MEn)} (hr : Rises L) (h1 : L.length ≤ 1000000) (h2 : mSize L ≤ 1000000) : Ev (fun k => ratlineref11_All.f k L) (mAll (mSize L) L) := by
  have hshort : ∀ l ∈ L, l.length < 1000000000 := fun l hl => by
    have : l.length ≤ mSize L := by
      unfold mSize
      clear h1 h2 hr
      induction L with
      | nil => cases hl
      | cons a q ih =>
        rw [List.map_cons, List.sum_cons]
        rcases List.mem_cons.1 hl with rfl | hl
        · omega
        · have := ih hl; omega
    omega
  have hR : Room L (List.replicate L.length 0) := ⟨List.length_replicate, by omega, hshort, fun i l a hl ha => by
    rw [List.getElem?_replicate] at ha
    split at ha
    · obtain rfl := Option.some.inj ha
      exact Nat.zero_le _
    · cases ha⟩
  have := outer (mSize L) (List.replicate L.length 0) [] hR (by rw [zip_zero]; exact Nat.le_refl _) (by simp; omega)
  rw [zip_zero, rAll_eq _ _ _ hr (Nat.le_refl _) (fun k hk => by cases hk), List.nil_append] at this
  have ha : ats (List.replicate L.length 0) = List.replicate ((L.length : Int)).toNat 0 := by
    unfold ats
    rw [List.map_replicate, Int.toNat_natCast]
    rfl
  rw [ha] at this
  unfold ratlineref11_All.f
  exact ev_pos (by omega) (ev_pos (by omega) this)
end Go.Proofs.YtojemmipkpckbaaL

end

section
set_option linter.unusedVariables false
namespace Go.Proofs.YtojemmipkpckbaaL
open Go Go.RowKit Go.Proofs.YtojemmipkpckbaaG Go.Proofs.Ytojemmipkpckbaa.P Go.Proofs.YtojemmipkpckbaaW.PrintWords Go.Proofs.YtojemmipkpckbaaW.PrintMore

def Up (l : List MEn) : Prop := l.Pairwise fun a b => cmpI a.f0 b.f0 < 0
theorem cmpI_lt_trans {x y z : Ik} (h : cmpI x y < 0) (h2 : cmpI y z ≤ 0) : cmpI x z < 0 := by
  have h3 := cmpI_trans (Int.le_of_lt h) h2
  refine Int.lt_iff_le_and_ne.2 ⟨h3, fun e => ?_⟩
  have := (cmpI_zero x z).1 e
  have hxz : x = z := mSame_iff.1 (by unfold mSame; rw [this.1, this.2.1, this.2.2]; simp)
  subst hxz
  have := cmpI_neg y x
  omega
theorem drop_rises {cur : List (List MEn)} (h : Rises cur) (k : Ik) : Rises (mDrop k cur) := by
  rw [mDrop_eq]
  intro l hl
  obtain ⟨q, hq, rfl⟩ := List.mem_map.1 hl
  have := h q hq
  cases q with
  | nil => exact this
  | cons e r =>
    rw [dropOne]
    split
    · exact (rises_tail this).1
    · exact this
theorem drop_heads {cur : List (List MEn)} {i : Nat} {e : MEn} (hr : Rises cur) (hl : mLeast cur 0 none = some (i, e)) : ∀ x q, (x :: q) ∈ mDrop e.f0 cur → cmpI e.f0 x.f0 < 0 := by
  rw [mDrop_eq]
  intro x q hx
  have hmin := (mLeast_min _ _ _ _ _ hl).1
  obtain ⟨l, hm, hd⟩ := List.mem_map.1 hx
  cases l with
  | nil => cases hd
  | cons y z =>
    rw [dropOne] at hd
    split at hd
    · rename_i hs
      rw [← mSame_iff.1 hs]
      exact (rises_tail (hr _ hm)).2 x q hd
    · rename_i hs
      obtain ⟨rfl, rfl⟩ := List.cons.inj hd
      refine Int.lt_iff_le_and_ne.2 ⟨hmin y z hm, fun h0 => hs ?_⟩
      have := (cmpI_zero _ _).1 h0
      unfold mSame
      rw [this.1, this.2.1, this.2.2]
      simp
theorem mAll_up : ∀ (n : Nat) (cur : List (List MEn)), Rises cur → Up (mAll n cur) ∧ ∀ k : Ik, (∀ x q, (x :: q) ∈ cur → cmpI k x.f0 < 0) → ∀ y ∈ mAll n cur, cmpI k y.f0 < 0
  | 0, cur, hr => ⟨List.Pairwise.nil, fun k _ y hy => by simp [mAll] at hy⟩
  | n + 1, cur, hr => by
    cases hl : mLeast cur 0 none with
    | none => rw [mAll_none hl]; exact ⟨List.Pairwise.nil, fun k _ y hy => by simp at hy⟩
    | some p =>
      obtain ⟨i, e⟩ := p
      obtain ⟨r, hi⟩ := mLeast_some hl
      have ih := mAll_up n (mDrop e.f0 cur) (drop_rises hr _)
      have hh := ih.2 e.f0 (drop_heads hr hl)
      rw [mAll_cons n hl]
      refine ⟨List.Pairwise.cons hh ih.1, fun k hk y hy => ?_⟩
      have hke := hk e r (List.mem_of_getElem? hi)
      rcases List.mem_cons.1 hy with rfl | hy
      · exact hke
      · exact cmpI_lt_trans hke (Int.le_of_lt (hh y hy))
/-- The users' keys do not fall. -/
def KeysUp (l : List MEn) : Prop := l.Pairwise fun a b => ¬ lt b.f0.f0 a.f0.f0
theorem keys_up {l : List MEn} (h : Up l) : KeysUp l := h.imp fun {a b} hab => by
  have := (cmpI_le a.f0 b.f0).1 (Int.le_of_lt hab)
  rcases this with h | ⟨h, _⟩
  · exact lt_asymm h
  · rw [h]; exact lt_irrefl _
def rGet (key : ByteArray) (seq : Int) : List MEn → ByteArray × Bool
  | [] => (⟨#[]⟩, false)
  | e :: r => if e.f0.f0 = key ∧ e.f0.f1 ≤ seq then (if e.f0.f2 = 1 then (e.f1, true) else (⟨#[]⟩, false)) else rGet key seq r
theorem rGet_none {key : ByteArray} {seq : Int} : ∀ {l : List MEn}, (∀ e ∈ l, e.f0.f0 ≠ key) → rGet key seq l = (⟨#[]⟩, false)
  | [], _ => rfl
  | e :: r, h => by
    rw [rGet, if_neg (fun z => h e (List.mem_cons_self ..) z.1)]
    exact rGet_none (fun x hx => h x (List.mem_cons_of_mem _ hx))
theorem skip_none (lo : ByteArray) (seq : Int) (e : MEn) : skipB lo seq none e = true ↔ lt e.f0.f0 lo ∨ seq < e.f0.f1 := by
  unfold skipB lt
  simp
theorem get_seen (key : ByteArray) (seq : Int) : ∀ l : List MEn, KeysUp l → mGet key (mSeen key seq none l) = rGet key seq l
  | [], _ => rfl
  | e :: r, h => by
    obtain ⟨h1, h2⟩ := List.pairwise_cons.1 h
    rw [mSeen_cons, rGet]
    by_cases hs : skipB key seq none e = true
    · rw [if_pos hs, List.nil_append, stepL, if_pos hs, get_seen key seq r h2, if_neg]
      rintro ⟨z1, z2⟩
      rcases (skip_none _ _ _).1 hs with h | h
      · rw [z1] at h; exact lt_irrefl _ h
      · omega
    · have hs' : ¬ (lt e.f0.f0 key ∨ seq < e.f0.f1) := fun z => hs ((skip_none _ _ _).2 z)
      rw [if_neg hs]
      show mGet key (e :: _) = _
      rw [mGet]
      by_cases hk : e.f0.f0 = key
      · have hle : e.f0.f1 ≤ seq := by have := fun z => hs' (.inr z); omega
        have hR : (if e.f0.f0 = key ∧ e.f0.f1 ≤ seq then (if e.f0.f2 = 1 then ((e.f1, true) : ByteArray × Bool) else (⟨#[]⟩, false)) else rGet key seq r) = (if e.f0.f2 = 1 then ((e.f1, true) : ByteArray × Bool) else (⟨#[]⟩, false)) := if_pos ⟨hk, hle⟩
        rw [hR]
        by_cases h3 : e.f0.f2 = 1
        · rw [if_pos h3, if_neg (by simp [hk, h3])]
        · rw [if_neg h3, if_pos (by simp [h3])]
      · have hR : (if e.f0.f0 = key ∧ e.f0.f1 ≤ seq then (if e.f0.f2 = 1 then ((e.f1, true) : ByteArray × Bool) else (⟨#[]⟩, false)) else rGet key seq r) = rGet key seq r := if_neg (fun z => hk z.1)
        have hkl : ¬ e.f0.f0.toList = key.toList := fun z => hk (ba_eq_iff.1 z)
        rw [hR, if_pos (by simp [hkl]), rGet_none]
        intro x hx hxk
        have h3 := h1 x hx
        rw [hxk] at h3
        rcases lt_tri e.f0.f0 key with h | h | h
        · exact hs' (.inl h)
        · exact hk h
        · exact h3 h
def Past (hi k : ByteArray) : Prop := ¬ hi.toList = [] ∧ ¬ lt k hi
instance (hi k : ByteArray) : Decidable (Past hi k) := inferInstanceAs (Decidable (_ ∧ ¬ (_ = true)))
def rScan (lo hi : ByteArray) (limit : Int) (G : ByteArray → ByteArray × Bool) : Option ByteArray → List MPr → List MEn → List MPr
  | _, out, [] => out
  | prev, out, e :: r => if (out.length : Int) < limit then
      (if prev = some e.f0.f0 ∨ lt e.f0.f0 lo ∨ Past hi e.f0.f0 then rScan lo hi limit G (some e.f0.f0) out r
       else if (G e.f0.f0).2 = true then rScan lo hi limit G (some e.f0.f0) (out ++ [⟨e.f0.f0, (G e.f0.f0).1⟩]) r else rScan lo hi limit G (some e.f0.f0) out r)
    else out
section
variable {lo hi : ByteArray} {limit seq : Int} {G : ByteArray → ByteArray × Bool}
theorem rScan_full {prev : Option ByteArray} {out : List MPr} {l : List MEn} (h : ¬ (out.length : Int) < limit) : rScan lo hi limit G prev out l = out := by
  cases l with
  | nil => rfl
  | cons e r => rw [rScan, if_neg h]
theorem rScan_same {k : ByteArray} {out : List MPr} : ∀ {g r : List MEn}, (∀ e ∈ g, e.f0.f0 = k) → rScan lo hi limit G (some k) out (g ++ r) = rScan lo hi limit G (some k) out r
  | [], r, _ => rfl
  | e :: g, r, h => by
    have he := h e (List.mem_cons_self ..)
    by_cases hl : (out.length : Int) < limit
    · rw [List.cons_append, rScan, if_pos hl, if_pos (.inl (by rw [he])), he]
      exact rScan_same (fun x hx => h x (List.mem_cons_of_mem _ hx))
    · rw [rScan_full hl, rScan_full hl]
theorem rScan_prev {k : ByteArray} {out : List MPr} : ∀ {r : List MEn}, (∀ e ∈ r, e.f0.f0 ≠ k) → rScan lo hi limit G (some k) out r = rScan lo hi limit G none out r
  | [], _ => rfl
  | e :: r, h => by
    have he := h e (List.mem_cons_self ..)
    rw [rScan, rScan]
    have h1 : (some k = some e.f0.f0 ∨ lt e.f0.f0 lo ∨ Past hi e.f0.f0) ↔ (none = some e.f0.f0 ∨ lt e.f0.f0 lo ∨ Past hi e.f0.f0) :=
      ⟨fun h => h.elim (fun z => absurd (Option.some.inj z).symm he) .inr, fun h => h.elim (fun z => by cases z) .inr⟩
    simp only [h1]
theorem rScan_past {out : List MPr} : ∀ {r : List MEn} (prev : Option ByteArray), (∀ e ∈ r, Past hi e.f0.f0) → rScan lo hi limit G prev out r = out
  | [], _, _ => rfl
  | e :: r, prev, h => by
    rw [rScan]
    split
    · rw [if_pos (.inr (.inr (h e (List.mem_cons_self ..))))]
      exact rScan_past _ (fun x hx => h x (List.mem_cons_of_mem _ hx))
    · rfl
/-- The first one of a key that is not newer. -/
def firstOf (seq : Int) : List MEn → Option MEn
  | [] => none
  | e :: r => if e.f0.f1 ≤ seq then some e else firstOf seq r
theorem seen_same {k : ByteArray} : ∀ {g r : List MEn}, (∀ e ∈ g, e.f0.f0 = k) → mSeen lo seq (some k) (g ++ r) = mSeen lo seq (some k) r
  | [], r, _ => rfl
  | e :: g, r, h => by
    have he := h e (List.mem_cons_self ..)
    have hs : skipB lo seq (some k) e = true := by unfold skipB; rw [he]; simp
    rw [List.cons_append, mSeen_cons, if_pos hs, List.nil_append, stepL, if_pos hs]
    exact seen_same (fun x hx => h x (List.mem_cons_of_mem _ hx))
theorem seen_prev {k : ByteArray} : ∀ {r : List MEn}, (∀ e ∈ r, e.f0.f0 ≠ k) → mSeen lo seq (some k) r = mSeen lo seq none r
  | [], _ => rfl
  | e :: r, h => by
    have he := h e (List.mem_cons_self ..)
    have hs : skipB lo seq (some k) e = skipB lo seq none e := by
      unfold skipB
      have : ¬ e.f0.f0.toList = k.toList := fun z => he (ba_eq_iff.1 z)
      simp [this]
    rw [mSeen_cons, mSeen_cons, hs, stepL, stepL, hs]
    congr 1
    split
    · exact seen_prev (fun x hx => h x (List.mem_cons_of_mem _ hx))
    · rfl
theorem seen_group {k : ByteArray} : ∀ {g r : List MEn}, (∀ e ∈ g, e.f0.f0 = k) → (∀ e ∈ r, e.f0.f0 ≠ k) → mSeen lo seq none (g ++ r) = (if lt k lo then [] else (firstOf seq g).toList) ++ mSeen lo seq none r
  | [], r, _, _ => by simp [firstOf]
  | e :: g, r, h, hr => by
    have he := h e (List.mem_cons_self ..)
    have hg : ∀ x ∈ g, x.f0.f0 = k := fun x hx => h x (List.mem_cons_of_mem _ hx)
    rw [List.cons_append, mSeen_cons]
    by_cases hs : skipB lo seq none e = true
    · rw [if_pos hs, List.nil_append, stepL, if_pos hs, seen_group hg hr]
      congr 1
      rcases (skip_none _ _ _).1 hs with h1 | h1
      · rw [he] at h1
        rw [if_pos h1, if_pos h1]
      · rw [show firstOf seq (e :: g) = firstOf seq g from by rw [firstOf, if_neg (by omega)]]
    · have hs' : ¬ (lt e.f0.f0 lo ∨ seq < e.f0.f1) := fun z => hs ((skip_none _ _ _).2 z)
      rw [he] at hs'
      rw [if_neg hs, stepL, if_neg hs, he, seen_same hg, seen_prev hr, if_neg (fun z => hs' (.inl z)), firstOf, if_pos (by have := fun z => hs' (.inr z); omega)]
      rfl
theorem rGet_group {k : ByteArray} : ∀ {g r : List MEn}, (∀ e ∈ g, e.f0.f0 = k) → (∀ e ∈ r, e.f0.f0 ≠ k) → rGet k seq (g ++ r) = (match firstOf seq g with | none => (⟨#[]⟩, false) | some e => if e.f0.f2 = 1 then (e.f1, true) else (⟨#[]⟩, false))
  | [], r, _, hr => rGet_none hr
  | e :: g, r, h, hr => by
    have he := h e (List.mem_cons_self ..)
    rw [List.cons_append, rGet, firstOf]
    by_cases hq : e.f0.f1 ≤ seq
    · rw [if_pos ⟨he, hq⟩, if_pos hq]
    · rw [if_neg (fun z => hq z.2), if_neg hq]
      exact rGet_group (fun x hx => h x (List.mem_cons_of_mem _ hx)) hr
theorem rGet_ahead {k : ByteArray} : ∀ {p r : List MEn}, (∀ e ∈ p, e.f0.f0 ≠ k) → rGet k seq (p ++ r) = rGet k seq r
  | [], r, _ => rfl
  | e :: p, r, h => by
    rw [List.cons_append, rGet, if_neg (fun z => h e (List.mem_cons_self ..) z.1)]
    exact rGet_ahead (fun x hx => h x (List.mem_cons_of_mem _ hx))
theorem firstOf_mem : ∀ {g : List MEn} {e : MEn}, firstOf seq g = some e → e ∈ g
  | [], e, h => by cases h
  | x :: g, e, h => by
    rw [firstOf] at h
    split at h
    · exact List.mem_cons.2 (.inl (Option.some.inj h).symm)
    · exact List.mem_cons_of_mem _ (firstOf_mem h)
theorem split_key (k : ByteArray) : ∀ l : List MEn, KeysUp l → (∀ e ∈ l, ¬ lt e.f0.f0 k) → ∃ g r, l = g ++ r ∧ (∀ e ∈ g, e.f0.f0 = k) ∧ (∀ e ∈ r, lt k e.f0.f0)
  | [], _, _ => ⟨[], [], rfl, fun e he => by simp at he, fun e he => by simp at he⟩
  | e :: l, h, hk => by
    obtain ⟨h1, h2⟩ := List.pairwise_cons.1 h
    by_cases he : e.f0.f0 = k
    · obtain ⟨g, r, rfl, hg, hr⟩ := split_key k l h2 (fun x hx => hk x (List.mem_cons_of_mem _ hx))
      refine ⟨e :: g, r, rfl, fun x hx => ?_, hr⟩
      rcases List.mem_cons.1 hx with rfl | hx
      · exact he
      · exact hg x hx
    · have hke : lt k e.f0.f0 := by
        rcases lt_tri e.f0.f0 k with h | h | h
        · exact absurd h (hk e (List.mem_cons_self ..))
        · exact absurd h he
        · exact h
      refine ⟨[], e :: l, rfl, fun x hx => by simp at hx, fun x hx => ?_⟩
      rcases List.mem_cons.1 hx with rfl | hx
      · exact hke
      · have h3 := h1 x hx
        rcases lt_tri k x.f0.f0 with h | h | h
        · exact h
        · rw [← h] at h3; exact absurd hke h3
        · exact absurd (lt_trans h hke) h3
theorem past_le {k x : ByteArray} (h : Past hi k) (hx : ¬ lt x k) : Past hi x := ⟨h.1, fun z => by
  rcases lt_tri x k with h1 | h1 | h1
  · exact hx h1
  · rw [h1] at z; exact h.2 z
  · exact h.2 (lt_trans h1 z)⟩
theorem over_iff {out : List MPr} {e : MEn} : mOver hi limit out e = true ↔ limit ≤ (out.length : Int) ∨ Past hi e.f0.f0 := by
  unfold mOver Past lt
  simp
theorem mScan_full {out : List MPr} {l : List MEn} (h : limit ≤ (out.length : Int)) : mScan hi limit out l = out := by
  cases l with
  | nil => rfl
  | cons e r => rw [mScan, if_pos (over_iff.2 (.inl h))]
end
theorem scan_seen (lo hi : ByteArray) (limit seq : Int) (all : List MEn) : ∀ (n : Nat) (p r : List MEn) (out : List MPr), r.length ≤ n → all = p ++ r → KeysUp all → (∀ e ∈ p, ∀ x ∈ r, e.f0.f0 ≠ x.f0.f0) →
    rScan lo hi limit (fun k => rGet k seq all) none out r = mScan hi limit out (mSeen lo seq none r) := by
  intro n
  induction n with
  | zero =>
    intro p r out hn ha hu hp
    obtain rfl : r = [] := List.eq_nil_of_length_eq_zero (by omega)
    rfl
  | succ n ih =>
    intro p r out hn ha hu hp
    cases r with
    | nil => rfl
    | cons e r =>
      have hu2 : KeysUp (e :: r) := by rw [ha] at hu; exact (List.pairwise_append.1 hu).2.1
      obtain ⟨h1, h2⟩ := List.pairwise_cons.1 hu2
      obtain ⟨g, q, rfl, hg, hq⟩ := split_key e.f0.f0 r h2 h1
      have hqne : ∀ x ∈ q, x.f0.f0 ≠ e.f0.f0 := fun x hx z => by have := hq x hx; rw [z] at this; exact lt_irrefl _ this
      have hg' : ∀ x ∈ e :: g, x.f0.f0 = e.f0.f0 := fun x hx => by
        rcases List.mem_cons.1 hx with rfl | hx
        · rfl
        · exact hg x hx
      have hG : rGet e.f0.f0 seq all = (match firstOf seq (e :: g) with | none => (⟨#[]⟩, false) | some e => if e.f0.f2 = 1 then (e.f1, true) else (⟨#[]⟩, false)) := by
        rw [ha, rGet_ahead (fun x hx => hp x hx e (List.mem_cons_self ..)), ← List.cons_append, rGet_group hg' hqne]
      have hnq : q.length ≤ n := by simp at hn; omega
      have next : ∀ o, rScan lo hi limit (fun k => rGet k seq all) (some e.f0.f0) o (g ++ q) = mScan hi limit o (mSeen lo seq none q) := fun o => by
        rw [rScan_same hg, rScan_prev hqne]
        refine ih (p ++ e :: g) q o hnq (by rw [ha]; simp) hu (fun x hx y hy => ?_)
        rcases List.mem_append.1 hx with hx | hx
        · exact hp x hx y (by simp [hy])
        · rw [hg' x hx]
          exact fun z => hqne y hy z.symm
      rw [← List.cons_append, seen_group hg' hqne, List.cons_append, rScan]
      by_cases hl : (out.length : Int) < limit
      · rw [if_pos hl]
        by_cases hlo : lt e.f0.f0 lo
        · rw [if_pos (.inr (.inl hlo)), if_pos hlo, List.nil_append]
          exact next out
        · rw [if_neg hlo]
          by_cases hpa : Past hi e.f0.f0
          · rw [if_pos (.inr (.inr hpa)), rScan_same hg, rScan_past _ (fun x hx => past_le hpa (lt_asymm (hq x hx)))]
            cases hf : firstOf seq (e :: g) with
            | none =>
              show out = mScan hi limit out (mSeen lo seq none q)
              rw [← next out, rScan_same hg, rScan_past _ (fun x hx => past_le hpa (lt_asymm (hq x hx)))]
            | some x =>
              have hx := hg' x (firstOf_mem hf)
              show out = mScan hi limit out (x :: _)
              rw [mScan, if_pos (over_iff.2 (.inr (by rw [hx]; exact hpa)))]
          · rw [if_neg (by rintro (h | h | h); · cases h
                           · exact hlo h
                           · exact hpa h)]
            simp only [hG]
            cases hf : firstOf seq (e :: g) with
            | none =>
              show (if false = true then _ else _) = mScan hi limit out (mSeen lo seq none q)
              rw [if_neg (by decide)]
              exact next out
            | some x =>
              have hx := hg' x (firstOf_mem hf)
              show (if (if x.f0.f2 = 1 then ((x.f1, true) : ByteArray × Bool) else (⟨#[]⟩, false)).2 = true then _ else _) = mScan hi limit out (x :: mSeen lo seq none q)
              rw [mScan, if_neg (fun z => (over_iff.1 z).elim (fun z => by omega) (fun z => hpa (by rw [← hx]; exact z)))]
              by_cases h3 : x.f0.f2 = 1
              · rw [if_pos h3, if_pos rfl, mStep, if_pos h3, next, hx]
                simp only [if_pos h3]
              · rw [if_neg h3, if_neg (by decide), mStep, if_neg h3, next]
      · rw [if_neg hl, mScan_full (by omega)]
end Go.Proofs.YtojemmipkpckbaaL

end

section
set_option linter.unusedVariables false
namespace Go.Proofs.YtojemmipkpckbaaL
open Go Go.RowKit Go.Proofs.YtojemmipkpckbaaG Go.Proofs.Ytojemmipkpckbaa.P Go.Proofs.YtojemmipkpckbaaW.PrintWords Go.Proofs.YtojemmipkpckbaaW.PrintMore

def okL (l : List MEn) : Bool := (decide (∀ e ∈ l, Short e) && decide ((l.length : Int) ≤ 60)) && risesB l
def fineB (L : List (List MEn)) : Bool := L.all okL && (decide (L.length ≤ 12) && decide (mSize L ≤ 120))
theorem fine_loop (L : List (List MEn)) (hl : L.length ≤ 10000000000000) (hin : ∀ l ∈ L, l.length ≤ 9223372036854775807) : ∀ (m j n : Nat), j + m = L.length → n ≤ 60 * j →
    Ev (fun k => ratlinelaw11_Fine.l0 k L (n : Int) L (L.length : Int) (j : Int)) ((L.drop j).all okL && (decide (L.length ≤ 12) && decide (n + mSize (L.drop j) ≤ 120))) := by
  intro m
  induction m with
  | zero =>
    intro j n hj hn
    obtain rfl : j = L.length := by omega
    refine ev_step (fun k => by rw [ratlinelaw11_Fine.l0, if_neg (Int.lt_irrefl _)]) ?_
    rw [List.drop_length]
    show Ev _ (decide (L.length ≤ 12) && decide (n + 0 ≤ 120))
    by_cases h : L.length ≤ 12
    · refine ev_pos (by omega) ?_
      rw [decide_eq_true h, Bool.true_and, show decide ((n : Int) ≤ 120) = decide (n + 0 ≤ 120) from decide_eq_decide.2 (by omega)]
      exact ev_some _
    · refine ev_neg (by omega) ?_
      rw [decide_eq_false h, Bool.false_and]
      exact ev_some _
  | succ m ih =>
    intro j n hj hn
    have hlt : j < L.length := by omega
    obtain ⟨l, hat⟩ : ∃ l, L[j]? = some l := ⟨_, List.getElem?_eq_getElem hlt⟩
    have hd : L.drop j = l :: L.drop (j + 1) := by
      rw [List.drop_eq_getElem_cons hlt]
      congr 1
      rw [List.getElem?_eq_getElem hlt] at hat
      exact Option.some.inj hat
    have hll := hin l (List.mem_of_getElem? hat)
    refine ev_step (fun k => by rw [ratlinelaw11_Fine.l0, if_pos (by omega), if_pos (by omega), if_pos (by omega), rd_ls L hat, up1 (by omega)]) ?_
    rw [hd, List.all_cons, show mSize (l :: L.drop (j + 1)) = l.length + mSize (L.drop (j + 1)) from rfl]
    refine ev_call (ev_of (l.length + 1) (fun k => by rw [show k + (l.length + 1) = l.length + k + 1 from by omega]; exact few_f' l 60 hll k)) ?_
    unfold okL
    by_cases hf : (decide (∀ e ∈ l, Short e) && decide ((l.length : Int) ≤ 60)) = true
    · rw [hf]
      have hs : l.length ≤ 60 := by
        have := (Bool.and_eq_true _ _ ▸ hf).2
        have := of_decide_eq_true this
        omega
      refine ev_pos rfl (ev_call (ev_of 200 (fun k => rrising_k (by omega) k)) ?_)
      by_cases hr : risesB l = true
      · rw [hr]
        refine ev_pos rfl ?_
        have hw : wrap64 ((n : Int) + (l.length : Int)) = ((n + l.length : Nat) : Int) := by unfold wrap64; omega
        rw [hw]
        have := ih (j + 1) (n + l.length) (by omega) (by omega)
        rw [Nat.add_assoc] at this
        exact this
      · rw [Bool.eq_false_iff.2 hr]
        exact ev_neg (by decide) (ev_some _)
    · rw [Bool.eq_false_iff.2 hf]
      exact ev_neg (by decide) (ev_some _)
theorem fine_ev (L : List (List MEn)) (hl : L.length ≤ 10000000000000) (hin : ∀ l ∈ L, l.length ≤ 9223372036854775807) : Ev (fun k => ratlinelaw11_Fine.f k L) (fineB L) := by
  have := fine_loop L hl hin L.length 0 0 (by omega) (by omega)
  rw [List.drop_zero, Nat.zero_add] at this
  exact this
theorem fine_fits {L : List (List MEn)} (h : fineB L = true) : Rises L ∧ L.length ≤ 12 ∧ mSize L ≤ 120 ∧ mFits L := by
  unfold fineB at h
  rw [Bool.and_eq_true, Bool.and_eq_true] at h
  obtain ⟨h1, h2, h3⟩ := h
  have h2 := of_decide_eq_true h2
  have h3 := of_decide_eq_true h3
  refine ⟨fun l hl => ?_, h2, h3, ⟨by omega, by omega⟩⟩
  have := List.all_eq_true.1 h1 l hl
  unfold okL at this
  rw [Bool.and_eq_true] at this
  exact this.2
theorem get_loop (key : ByteArray) (seq : Int) (l : List MEn) (hl : l.length < 1000000000) : ∀ (m j : Nat), j + m = l.length → Ev (fun k => ratlineref11_Get.l0 k key seq l (j : Int)) (rGet key seq (l.drop j)) := by
  intro m
  induction m with
  | zero =>
    intro j hj
    obtain rfl : j = l.length := by omega
    refine ev_step (fun k => by rw [ratlineref11_Get.l0, if_neg (Int.lt_irrefl _)]) ?_
    rw [List.drop_length]
    exact ev_some _
  | succ m ih =>
    intro j hj
    have hlt : j < l.length := by omega
    have ih := ih (j + 1) (by omega)
    refine ev_step (fun k => by rw [ratlineref11_Get.l0, if_pos (by omega), if_pos (by omega), rd_en l hlt]) ?_
    rw [List.drop_eq_getElem_cons hlt]
    by_cases hk : l[j].f0.f0 = key
    · refine ev_pos (ba_eq_iff.2 hk) (ev_step (fun k => by rw [ratlineref11_Get.j1, rd_en l hlt, up1 (by omega)]) ?_)
      by_cases hs : l[j].f0.f1 ≤ seq
      · have hR : rGet key seq (l[j] :: l.drop (j + 1)) = (if l[j].f0.f2 = 1 then (l[j].f1, true) else (⟨#[]⟩, false)) := by rw [rGet, if_pos ⟨hk, hs⟩]
        rw [hR]
        refine ev_pos (decide_eq_true hs) (ev_pos (by omega) (ev_pos (by omega) ?_))
        by_cases h1 : l[j].f0.f2 = 1
        · exact ev_pos h1 (by rw [if_pos h1]; exact ev_some _)
        · exact ev_neg h1 (by rw [if_neg h1]; exact ev_some _)
      · have hR : rGet key seq (l[j] :: l.drop (j + 1)) = rGet key seq (l.drop (j + 1)) := by rw [rGet, if_neg (fun z => hs z.2)]
        rw [hR]
        exact ev_neg (by simp [hs]) ih
    · have hR : rGet key seq (l[j] :: l.drop (j + 1)) = rGet key seq (l.drop (j + 1)) := by rw [rGet, if_neg (fun z => hk z.1)]
      rw [hR]
      refine ev_neg (fun z => hk (ba_eq_iff.1 z)) (ev_step (fun k => by rw [ratlineref11_Get.j1, up1 (by omega)]) ?_)
      exact ev_neg (by decide) ih
theorem refGet_ev {L : List (List MEn)} (hr : Rises L) (h1 : L.length ≤ 1000000) (h2 : mSize L ≤ 1000000) (key : ByteArray) (seq : Int) : Ev (fun k => ratlineref11_Get.f k L key seq) (rGet key seq (mAll (mSize L) L)) := by
  unfold ratlineref11_Get.f
  refine ev_call (refAll_ev hr h1 h2) ?_
  have hlen := mAll_len (mSize L) L
  have := get_loop key seq (mAll (mSize L) L) (by omega) (mAll (mSize L) L).length 0 (by omega)
  rw [List.drop_zero] at this
  exact this
def prevOf (l : List MEn) (j : Nat) : Option ByteArray := if j = 0 then none else (l[j - 1]?).map fun e => e.f0.f0
theorem scan_loop {L : List (List MEn)} (hr : Rises L) (h1 : L.length ≤ 1000000) (h2 : mSize L ≤ 1000000) (lo hi : ByteArray) (seq limit : Int) (l : List MEn) (hl : l.length ≤ 1000000) :
    ∀ (m j : Nat) (out : List MPr), j + m = l.length → out.length ≤ j → Ev (fun k => ratlineref11_Scan.l0 k L lo hi seq limit out l (j : Int)) (rScan lo hi limit (fun key => rGet key seq (mAll (mSize L) L)) (prevOf l j) out (l.drop j)) := by
  intro m
  induction m with
  | zero =>
    intro j out hj ho
    obtain rfl : j = l.length := by omega
    refine ev_step (fun k => by rw [ratlineref11_Scan.l0, if_neg (Int.lt_irrefl _)]) (ev_step (fun k => by rw [ratlineref11_Scan.j1]) ?_)
    rw [List.drop_length]
    exact ev_neg (by decide) (ev_some _)
  | succ m ih =>
    intro j out hj ho
    have hlt : j < l.length := by omega
    have hprev : prevOf l (j + 1) = some l[j].f0.f0 := by
      unfold prevOf
      rw [if_neg (by omega), Nat.add_sub_cancel, List.getElem?_eq_getElem hlt]
      rfl
    refine ev_step (fun k => by rw [ratlineref11_Scan.l0, if_pos (by omega)]) (ev_step (fun k => by rw [ratlineref11_Scan.j1, rd_en l hlt]) ?_)
    rw [List.drop_eq_getElem_cons hlt, rScan]
    by_cases hlim : (out.length : Int) < limit
    · rw [if_pos hlim]
      refine ev_pos (decide_eq_true hlim) (ev_pos (by omega) (ev_pos (by omega) ?_))
      have skip : Ev (fun k => ratlineref11_Scan.j2 k L lo hi seq limit out l (j : Int) l[j].f0.f0 true) (rScan lo hi limit (fun key => rGet key seq (mAll (mSize L) L)) (some l[j].f0.f0) out (l.drop (j + 1))) := by
        refine ev_step (fun k => by rw [ratlineref11_Scan.j2, up1 (by omega)]) (ev_pos rfl ?_)
        have := ih (j + 1) out (by omega) (by omega)
        rwa [hprev] at this
      have look : Ev (fun k => ratlineref11_Scan.j2 k L lo hi seq limit out l (j : Int) l[j].f0.f0 false) (if (rGet l[j].f0.f0 seq (mAll (mSize L) L)).2 = true then rScan lo hi limit (fun key => rGet key seq (mAll (mSize L) L)) (some l[j].f0.f0) (out ++ [⟨l[j].f0.f0, (rGet l[j].f0.f0 seq (mAll (mSize L) L)).1⟩]) (l.drop (j + 1)) else rScan lo hi limit (fun key => rGet key seq (mAll (mSize L) L)) (some l[j].f0.f0) out (l.drop (j + 1))) := by
        refine ev_step (fun k => by rw [ratlineref11_Scan.j2, up1 (by omega)]) (ev_neg (by decide) (ev_call (refGet_ev hr h1 h2 l[j].f0.f0 seq) ?_))
        by_cases hg : (rGet l[j].f0.f0 seq (mAll (mSize L) L)).2 = true
        · rw [if_pos hg]
          refine ev_pos hg (ev_pos (by omega) ?_)
          have := ih (j + 1) (out ++ [⟨l[j].f0.f0, (rGet l[j].f0.f0 seq (mAll (mSize L) L)).1⟩]) (by omega) (by simp; omega)
          rwa [hprev] at this
        · rw [if_neg hg]
          refine ev_neg hg ?_
          have := ih (j + 1) out (by omega) (by omega)
          rwa [hprev] at this
      have rest : ¬ prevOf l j = some l[j].f0.f0 → Ev (fun k => if Op.bytesLess l[j].f0.f0.toList lo.toList = true then ratlineref11_Scan.j2 k L lo hi seq limit out l (j : Int) l[j].f0.f0 true else (if hi.toList = ([] : List UInt8) then ratlineref11_Scan.j2 k L lo hi seq limit out l (j : Int) l[j].f0.f0 false else ratlineref11_Scan.j2 k L lo hi seq limit out l (j : Int) l[j].f0.f0 (!(Op.bytesLess l[j].f0.f0.toList hi.toList))))
          (if prevOf l j = some l[j].f0.f0 ∨ lt l[j].f0.f0 lo ∨ Past hi l[j].f0.f0 then rScan lo hi limit (fun key => rGet key seq (mAll (mSize L) L)) (some l[j].f0.f0) out (l.drop (j + 1)) else (if (rGet l[j].f0.f0 seq (mAll (mSize L) L)).2 = true then rScan lo hi limit (fun key => rGet key seq (mAll (mSize L) L)) (some l[j].f0.f0) (out ++ [⟨l[j].f0.f0, (rGet l[j].f0.f0 seq (mAll (mSize L) L)).1⟩]) (l.drop (j + 1)) else rScan lo hi limit (fun key => rGet key seq (mAll (mSize L) L)) (some l[j].f0.f0) out (l.drop (j + 1)))) := fun hp => by
        by_cases hlo : lt l[j].f0.f0 lo
        · rw [if_pos (.inr (.inl hlo))]
          exact ev_pos hlo skip
        · refine ev_neg hlo ?_
          by_cases hhi : hi.toList = ([] : List UInt8)
          · rw [if_neg (by rintro (h | h | h); · exact hp h
                           · exact hlo h
                           · exact h.1 hhi)]
            exact ev_pos hhi look
          · refine ev_neg hhi ?_
            by_cases hpa : lt l[j].f0.f0 hi
            · rw [if_neg (by rintro (h | h | h); · exact hp h
                             · exact hlo h
                             · exact h.2 hpa), show (!(Op.bytesLess l[j].f0.f0.toList hi.toList)) = false from by rw [show Op.bytesLess l[j].f0.f0.toList hi.toList = true from hpa]; rfl]
              exact look
            · rw [if_pos (.inr (.inr ⟨hhi, hpa⟩)), show (!(Op.bytesLess l[j].f0.f0.toList hi.toList)) = true from by rw [Bool.eq_false_iff.2 hpa]; rfl]
              exact skip
      by_cases h0 : j = 0
      · refine ev_neg (by omega) (rest ?_)
        unfold prevOf
        rw [if_pos h0]
        intro h
        cases h
      · have hw : wrap64 ((j : Int) - 1) = ((j - 1 : Nat) : Int) := by unfold wrap64; omega
        have hj1 : j - 1 < l.length := by omega
        have hpv : prevOf l j = some l[j - 1].f0.f0 := by
          unfold prevOf
          rw [if_neg h0, List.getElem?_eq_getElem hj1]
          rfl
        rw [hw, rd_en l hj1]
        refine ev_pos (by omega) (ev_pos (by omega) (ev_pos (by omega) ?_))
        by_cases hpk : l[j - 1].f0.f0 = l[j].f0.f0
        · rw [if_pos (.inl (by rw [hpv, hpk]))]
          exact ev_pos (ba_eq_iff.2 hpk) skip
        · exact ev_neg (fun z => hpk (ba_eq_iff.1 z)) (rest (by rw [hpv]; exact fun z => hpk (Option.some.inj z)))
    · rw [if_neg hlim]
      exact ev_neg (by simp [hlim]) (ev_some _)
theorem refScan_ev {L : List (List MEn)} (hr : Rises L) (h1 : L.length ≤ 1000000) (h2 : mSize L ≤ 1000000) (lo hi : ByteArray) (seq limit : Int) : Ev (fun k => ratlineref11_Scan.f k L lo hi seq limit) (mScan hi limit [] (mSeen lo seq none (mAll (mSize L) L))) := by
  unfold ratlineref11_Scan.f
  refine ev_call (refAll_ev hr h1 h2) ?_
  have hlen := mAll_len (mSize L) L
  have hu := keys_up (mAll_up (mSize L) L hr).1
  have := scan_loop hr h1 h2 lo hi seq limit (mAll (mSize L) L) (by omega) (mAll (mSize L) L).length 0 [] (by omega) (Nat.le_refl _)
  rw [List.drop_zero] at this
  rw [← scan_seen lo hi limit seq _ _ [] _ [] (Nat.le_refl _) rfl hu (fun e he => by simp at he)]
  exact this
theorem entries_loop (l : List MEn) (hl : l.length < 1000000000) : ∀ (m j : Nat), j + m = l.length → Ev (fun k => ratlinelaw04_Entries.l0 k l l (l.length : Int) (j : Int)) true := by
  intro m
  induction m with
  | zero =>
    intro j hj
    obtain rfl : j = l.length := by omega
    exact ev_step (fun k => by rw [ratlinelaw04_Entries.l0, if_neg (Int.lt_irrefl _)]) (ev_some _)
  | succ m ih =>
    intro j hj
    refine ev_step (fun k => by rw [ratlinelaw04_Entries.l0, if_pos (by omega), if_pos (by omega), if_pos (by omega), if_pos (by omega), up1 (by omega)]) ?_
    exact ev_neg (by simp) (ih (j + 1) (by omega))
theorem entries_same (l : List MEn) (hl : l.length < 1000000000) : Ev (fun k => ratlinelaw04_Entries.f k l l) true := by
  unfold ratlinelaw04_Entries.f
  exact ev_pos rfl (entries_loop l hl l.length 0 (by omega))
theorem pairs_loop (l : List MPr) (hl : l.length < 1000000000) : ∀ (m j : Nat), j + m = l.length → Ev (fun k => ratlinelaw11_Pairs.l0 k l l (l.length : Int) (j : Int)) true := by
  intro m
  induction m with
  | zero =>
    intro j hj
    obtain rfl : j = l.length := by omega
    exact ev_step (fun k => by rw [ratlinelaw11_Pairs.l0, if_neg (Int.lt_irrefl _)]) (ev_some _)
  | succ m ih =>
    intro j hj
    refine ev_step (fun k => by rw [ratlinelaw11_Pairs.l0, if_pos (by omega), if_pos (by omega), if_pos (by omega), if_pos (by omega), up1 (by omega)]) ?_
    exact ev_neg (by simp) (ih (j + 1) (by omega))
theorem pairs_same (l : List MPr) (hl : l.length < 1000000000) : Ev (fun k => ratlinelaw11_Pairs.f k l l) true := by
  unfold ratlinelaw11_Pairs.f
  exact ev_pos rfl (pairs_loop l hl l.length 0 (by omega))
theorem mScan_len (hi : ByteArray) (limit : Int) : ∀ (l : List MEn) (out : List MPr), (mScan hi limit out l).length ≤ out.length + l.length
  | [], out => by rw [mScan]; omega
  | e :: r, out => by
    rw [mScan, List.length_cons]
    split
    · omega
    · have := mScan_len hi limit r (mStep out e)
      have h2 : (mStep out e).length ≤ out.length + 1 := by unfold mStep; split <;> simp
      omega
end Go.Proofs.YtojemmipkpckbaaL

end

section
set_option linter.unusedVariables false
namespace Go.Proofs.YtojemmipkpckbaaL
open Go Go.RowKit Go.Proofs.YtojemmipkpckbaaG Go.Proofs.Ytojemmipkpckbaa.P Go.Proofs.YtojemmipkpckbaaW.PrintWords Go.Proofs.YtojemmipkpckbaaW.PrintMore

def wa : ByteArray := ⟨#[97]⟩
def wb : ByteArray := ⟨#[98]⟩
def wc : ByteArray := ⟨#[99]⟩
def wx : ByteArray := ⟨#[120]⟩
def wy : ByteArray := ⟨#[121]⟩
def wz : ByteArray := ⟨#[122]⟩
def e0 : MEn := ⟨⟨wa, 9, 0⟩, ⟨#[]⟩⟩
def e1 : MEn := ⟨⟨wb, 4, 1⟩, wy⟩
def e2 : MEn := ⟨⟨wa, 5, 1⟩, wx⟩
def e3 : MEn := ⟨⟨wb, 4, 1⟩, wz⟩
def exL : List (List MEn) := [[e0, e1], [e2, e3]]
theorem ex_fits : mFits exL := ⟨by decide, by decide⟩
theorem ex_all : mAll (mSize exL) exL = [e0, e2, e1] := by kernel_rfl
theorem all_ex : merge_All.f exL = some [e0, e2, e1] := by unfold merge_All.f; rw [if_pos ex_fits, ex_all]
theorem get_ex (k : ByteArray) (q : Int) : merge_Get.f exL k q = some (mGet k (mSeen k q none [e0, e2, e1])) := by unfold merge_Get.f; rw [if_pos ex_fits, ex_all]
theorem scan_ex (a b : ByteArray) (q l : Int) : merge_Scan.f exL a b q l = some (mScan b l [] (mSeen a q none [e0, e2, e1])) := by unfold merge_Scan.f; rw [if_pos ex_fits, ex_all]
theorem g1 : mGet wa (mSeen wa 9 none [e0, e2, e1]) = (⟨#[]⟩, false) := by kernel_rfl
theorem g2 : mGet wa (mSeen wa 8 none [e0, e2, e1]) = (wx, true) := by kernel_rfl
theorem g3 : mGet wa (mSeen wa 4 none [e0, e2, e1]) = (⟨#[]⟩, false) := by kernel_rfl
theorem g4 : mGet wb (mSeen wb 4 none [e0, e2, e1]) = (wy, true) := by kernel_rfl
theorem s1 : mScan wc 9 [] (mSeen wa 5 none [e0, e2, e1]) = [⟨wa, wx⟩, ⟨wb, wy⟩] := by kernel_rfl
theorem s2 : mScan wc 9 [] (mSeen wa 9 none [e0, e2, e1]) = [⟨wb, wy⟩] := by kernel_rfl
theorem s3 : mScan wc 1 [] (mSeen wa 5 none [e0, e2, e1]) = [⟨wa, wx⟩] := by kernel_rfl
theorem s4 : mScan wb 9 [] (mSeen wb 9 none [e0, e2, e1]) = [] := by kernel_rfl
theorem awake11 : Ev (fun k => ratlinelaw11_awake.f k) true := by
  unfold ratlinelaw11_awake.f
  refine ev_bind (a := (wa, 9, 0, ⟨#[]⟩)) rfl (ev_bind (a := (wb, 4, 1, wy)) rfl (ev_bind (a := (wa, 5, 1, wx)) rfl (ev_bind (a := (wb, 4, 1, wz)) rfl (ev_bind (a := exL) rfl ?_))))
  refine ev_bind ((get_ex wa 9).trans (by rw [g1])) (ev_bind ((get_ex wa 8).trans (by rw [g2])) (ev_bind ((get_ex wa 4).trans (by rw [g3])) (ev_bind ((get_ex wb 4).trans (by rw [g4])) (ev_bind all_ex ?_))))
  refine ev_pos (by decide) (ev_pos (by decide) (ev_pos (by decide) (ev_pos (by decide) (ev_pos (by decide) ?_))))
  refine ev_call (entries_same [e0, e2, e1] (by decide)) (ev_pos rfl (ev_neg (by decide) (ev_pos rfl (ev_pos (by kernel_rfl) (ev_neg (by decide) (ev_pos rfl (ev_pos (by kernel_rfl) ?_)))))))
  refine ev_bind ((scan_ex wa wc 5 9).trans (by rw [s1])) (ev_call (pairs_same [⟨wa, wx⟩, ⟨wb, wy⟩] (by decide)) (ev_pos rfl ?_))
  refine ev_bind ((scan_ex wa wc 9 9).trans (by rw [s2])) (ev_call (pairs_same [⟨wb, wy⟩] (by decide)) (ev_pos rfl ?_))
  refine ev_bind ((scan_ex wa wc 5 1).trans (by rw [s3])) (ev_call (pairs_same [⟨wa, wx⟩] (by decide)) (ev_pos rfl ?_))
  refine ev_bind ((scan_ex wb wb 9 9).trans (by rw [s4])) ?_
  exact ev_some _
end Go.Proofs.YtojemmipkpckbaaL

end

section
set_option linter.unusedVariables false
namespace Go.Proofs.Ytojemmipkpckbaa.Pure
open Go Go.RowKit Go.Proofs.Ytojemmipkpckbaa.P Go.Proofs.YtojemmipkpckbaaG Go.Proofs.YtojemmipkpckbaaL Go.Proofs.YtojemmipkpckbaaW.PrintWords Go.Proofs.YtojemmipkpckbaaW.PrintMore Go.Proofs.YtojemmipkpckbaaW.PrintLast

theorem mt_true (L : List (List MEn)) (key hi : ByteArray) (seq limit : Int) : Ev (fun k => ratlinelaw11_MergeTells.j0 k L key hi seq limit true) true :=
  ev_step (fun k => by rw [ratlinelaw11_MergeTells.j0]) (ev_pos rfl (ev_call awake11 (ev_some _)))
theorem mt_false {L : List (List MEn)} (h : fineB L = true) (key hi : ByteArray) (seq limit : Int) : Ev (fun k => ratlinelaw11_MergeTells.j0 k L key hi seq limit false) true := by
  obtain ⟨hr, h12, h120, hf⟩ := fine_fits h
  have hu := (mAll_up (mSize L) L hr).1
  have hlen := mAll_len (mSize L) L
  refine ev_step (fun k => by rw [ratlinelaw11_MergeTells.j0]) (ev_neg (by decide) ?_)
  have hg : merge_Get.f L key seq = some (rGet key seq (mAll (mSize L) L)) := by unfold merge_Get.f; rw [if_pos hf, get_seen _ _ _ (keys_up hu)]
  have ha : merge_All.f L = some (mAll (mSize L) L) := by unfold merge_All.f; rw [if_pos hf]
  have hs : merge_Scan.f L key hi seq limit = some (mScan hi limit [] (mSeen key seq none (mAll (mSize L) L))) := by unfold merge_Scan.f; rw [if_pos hf]
  have hsl := mScan_len hi limit (mSeen key seq none (mAll (mSize L) L)) []
  have hml := mSeen_len key seq (mAll (mSize L) L) none
  refine ev_bind hg (ev_call (refGet_ev hr (by omega) (by omega) key seq) (ev_bind ha (ev_call (refAll_ev hr (by omega) (by omega)) (ev_call (entries_same _ (by omega)) (ev_pos rfl (ev_pos rfl (ev_pos (by simp) ?_)))))))
  exact ev_bind hs (ev_call (refScan_ev hr (by omega) (by omega) key hi seq limit) (ev_call (pairs_same _ (by simp at hsl; omega)) (ev_pos rfl (ev_call awake11 (ev_some _)))))
theorem MergeTells (L : List (List MEn)) (_ : L.length ≤ maxLen) (hl : L.length * 24 ≤ 140737488351232) (hw : ∀ l ∈ L, l.length ≤ maxLen ∧ ∀ e ∈ l, (e.f0.f0.size ≤ maxLen ∧ (Lit.int .u64 e.f0.f1).wf = true ∧ (Lit.int .u8 e.f0.f2).wf = true) ∧ e.f1.size ≤ maxLen) (key : ByteArray) (_ : key.size ≤ maxLen) (hi : ByteArray) (_ : hi.size ≤ maxLen) (seq : Int) (_ : (Lit.int .u64 seq).wf = true) (limit : Int) (_ : (Lit.int .i64 limit).wf = true) :
    ∃ k, ratlinelaw11_MergeTells.f k L key hi seq limit = some true := by
  refine Ev.rounds (g := fun k => ratlinelaw11_MergeTells.f k L key hi seq limit) ?_
  unfold ratlinelaw11_MergeTells.f
  refine ev_call (fine_ev L (by omega) (fun l h => by have := (hw l h).1; simp only [maxLen] at this; omega)) ?_
  by_cases h : fineB L = true
  · rw [h]
    refine ev_pos rfl ?_
    by_cases h1 : (key.size : Int) > 70
    · exact ev_pos h1 (mt_true ..)
    · refine ev_neg h1 ?_
      by_cases h2 : (hi.size : Int) > 70
      · rw [decide_eq_true h2]
        exact mt_true ..
      · rw [decide_eq_false h2]
        exact mt_false h ..
  · rw [Bool.eq_false_iff.2 h]
    exact ev_neg (by decide) (mt_true ..)
end Go.Proofs.Ytojemmipkpckbaa.Pure

end

section
set_option linter.unusedVariables false
namespace Go.Proofs.YtojemmipkpckbaaG
open Go Go.RowKit Go.Proofs.YtojemmipkpckbaaW.PrintWords

/-- What is trodden of this type is of this kind, and is right. -/
def Opens {α : Type} (P : Program) (t : TypeId) (d : Kd α) (wf : α → Prop) : Prop :=
  ∀ (H : Type) (enc : TypeId × Value → H) (w : World) (base : Nat) (sp : Nat → Bool) (held : Bool) (fuel : Nat) (cs : List Value) (x : DataW H × List MemPlace),
    DataW.trod enc P w base sp held fuel t cs = some x → ∃ a, d.K w a cs ∧ wf a
section
variable {P : Program} {t e : TypeId}
theorem opens_int {k : IntKind} (ht : P.underlying t = some (.int k)) : Opens P t (Kd.int k) (fun n => (Lit.int k n).wf = true) := by
  intro H enc w base sp held fuel cs x h
  obtain ⟨n, rfl, _, hw⟩ := DataW.trod_int ht h
  exact ⟨n, rfl, hw⟩
theorem opens_string (ht : P.underlying t = some .string) : Opens P t Kd.string (fun s => s.size ≤ maxLen) := by
  intro H enc w base sp held fuel cs x h
  obtain ⟨n, rfl, _, hm⟩ := DataW.trod_string ht h
  exact ⟨n, rfl, hm⟩
theorem build {α : Type} {Q : Nat → α → Prop} : ∀ n : Nat, (∀ i, i < n → ∃ a, Q i a) → ∃ l : List α, l.length = n ∧ ∀ i a, l[i]? = some a → Q i a := by
  intro n
  induction n with
  | zero => intro _; exact ⟨[], rfl, fun i a h => by simp at h⟩
  | succ n ih =>
    intro h
    obtain ⟨l, hl, hq⟩ := ih (fun i hi => h i (by omega))
    obtain ⟨a, ha⟩ := h n (by omega)
    refine ⟨l ++ [a], by simp [hl], fun i b hb => ?_⟩
    by_cases hi : i < n
    · rw [List.getElem?_append_left (by omega)] at hb
      exact hq i b hb
    · rw [List.getElem?_append_right (by omega)] at hb
      by_cases hin : i = n
      · subst hin
        rw [hl, Nat.sub_self] at hb
        simp at hb
        exact hb ▸ ha
      · rw [List.getElem?_eq_none (by simp; omega)] at hb
        cases hb
theorem opens_row {α : Type} {d : Kd α} {wf : α → Prop} (hc : P.cellsOf e = d.sz) (ht : P.underlying t = some (.slice e)) (he : Opens P e d wf)
    {H : Type} {enc : TypeId × Value → H} {w : World} {base : Nat} {sp : Nat → Bool} {held : Bool} {fuel : Nat} {cs : List Value} {x : DataW H × List MemPlace} (h : DataW.trod enc P w base sp held fuel t cs = some x) :
    ∃ (A : Option Addr) (c : Nat) (xs : List α), cs = [.slice A xs.length c] ∧ xs.length ≤ c ∧ c ≤ maxLen ∧ d.C w A xs.length xs ∧ ∀ a ∈ xs, wf a := by
  rcases DataW.trod_slice ht h with ⟨rfl, _⟩ | ⟨ad, len, cap, elems, rest, n, _, rfl, _, hb, hl, hm, hn, hel, _, _⟩
  · exact ⟨none, 0, [], rfl, Nat.le_refl _, by decide, Kd.C_nil d w, fun a ha => by cases ha⟩
  · obtain ⟨xs, hxl, hx⟩ := build (Q := fun i a => wf a ∧ ∃ c, c.length = d.sz ∧ d.K w a c ∧ ∀ j u, c[j]? = some u → w.cell? (ad.add (i * d.sz + j)) = some u) len (fun i hi => by
      have h1 := hel i hi
      rw [List.getElem?_eq_getElem (by omega)] at h1
      obtain ⟨cs', hcs, htr⟩ := Option.bind_eq_some_iff.1 h1
      obtain ⟨a, ha, hw⟩ := he H enc w base sp held n cs' _ htr
      have hlen := d.K_len ha
      obtain ⟨_, hlen2, hcell⟩ := World.cells?_some hcs
      refine ⟨a, hw, cs', hlen, ha, fun j u hj => ?_⟩
      have hjl : j < cs'.length := by
        by_cases hjl : j < cs'.length
        · exact hjl
        · rw [List.getElem?_eq_none (by omega)] at hj; cases hj
      have h2 := hcell j (by omega)
      rw [hc] at h2
      have hadd : (ad.add (i * d.sz)).add j = ad.add (i * d.sz + j) := Addr.add_add ad _ _
      rw [← hadd, h2, hj])
    have hmax : maxLen ≤ 9223372036854775807 := by decide
    refine ⟨some ad, cap, xs, by rw [hxl], by omega, hm, ⟨rfl, by omega, fun _ => ⟨ad, rfl, fun j p hp => (hx j p hp).2⟩⟩, fun a ha => ?_⟩
    obtain ⟨i, hi⟩ := List.mem_iff_getElem?.1 ha
    exact (hx i a hi).1
theorem opens_slice {α : Type} {d : Kd α} {wf : α → Prop} (hc : P.cellsOf e = d.sz) (ht : P.underlying t = some (.slice e)) (he : Opens P e d wf) :
    Opens P t (Kd.slice e d) (fun l => l.length ≤ maxLen ∧ ∀ a ∈ l, wf a) := by
  intro H enc w base sp held fuel cs x h
  obtain ⟨A, c, xs, rfl, hl, hm, hC, hw⟩ := opens_row hc ht he h
  exact ⟨xs, ⟨A, c, rfl, hl, hC⟩, by omega, hw⟩
theorem Opens.iso {α β : Type} {d : Kd α} {wf : α → Prop} (h : Opens P t d wf) (f : β → α) (g : α → β) (hfg : ∀ a, f (g a) = a) : Opens P t (Kd.iso d f) (fun b => wf (f b)) := by
  intro H enc w base sp held fuel cs x htr
  obtain ⟨a, ha, hw⟩ := h H enc w base sp held fuel cs x htr
  exact ⟨g a, by show d.K w (f (g a)) cs; rw [hfg]; exact ha, by show wf (f (g a)); rw [hfg]; exact hw⟩
end

/-- A field of a struct. -/
theorem opens_field {α : Type} {P : Program} {t e : TypeId} {fs : Array Field} {d : Kd α} {wf : α → Prop} {off i : Nat} {f : Field} (ht : P.underlying t = some (.struct fs)) (hi : fs[i]? = some f) (hft : f.type = e) (hfo : f.offset = off) (hc : P.cellsOf e = d.sz) (he : Opens P e d wf)
    {H : Type} {enc : TypeId × Value → H} {w : World} {base : Nat} {sp : Nat → Bool} {held : Bool} {fuel : Nat} {cs : List Value} {x : DataW H × List MemPlace} (h : DataW.trod enc P w base sp held fuel t cs = some x) :
    ∃ a, d.K w a ((cs.drop off).take d.sz) ∧ wf a := by
  obtain ⟨xs, n, _, _, _, hn, hf⟩ := DataW.trod_struct ht h
  have h1 := hf i f hi
  have hil : i < xs.length := by
    rw [hn]
    exact (Array.getElem?_eq_some_iff.1 hi).1
  rw [List.getElem?_eq_getElem hil, hft, hfo, hc] at h1
  exact he H enc w base sp held n _ _ h1
theorem opens_cells {P : Program} {t : TypeId} {fs : Array Field} (ht : P.underlying t = some (.struct fs)) {H : Type} {enc : TypeId × Value → H} {w : World} {base : Nat} {sp : Nat → Bool} {held : Bool} {fuel : Nat} {cs : List Value} {x : DataW H × List MemPlace} (h : DataW.trod enc P w base sp held fuel t cs = some x) :
    cs.length = P.cellsOf t := by
  obtain ⟨xs, n, _, _, hl, _⟩ := DataW.trod_struct ht h
  exact hl
theorem opens_struct2 {α β : Type} {P : Program} {t ta tb : TypeId} {fs : Array Field} {a : Kd α} {b : Kd β} {wa : α → Prop} {wb : β → Prop} (ht : P.underlying t = some (.struct fs)) (hc : P.cellsOf t = a.sz + b.sz)
    (f0 : (fs[0]?).map (fun f => (f.type, f.offset)) = some (ta, 0)) (f1 : (fs[1]?).map (fun f => (f.type, f.offset)) = some (tb, a.sz)) (ca : P.cellsOf ta = a.sz) (cb : P.cellsOf tb = b.sz) (oa : Opens P ta a wa) (ob : Opens P tb b wb) :
    Opens P t (Kd.pair a b) (fun x => wa x.1 ∧ wb x.2) := by
  intro H enc w base sp held fuel cs x h
  obtain ⟨g0, e0, q0⟩ := Option.map_eq_some_iff.1 f0
  obtain ⟨g1, e1, q1⟩ := Option.map_eq_some_iff.1 f1
  simp only [Prod.mk.injEq] at q0 q1
  obtain ⟨x0, k0, w0⟩ := opens_field ht e0 q0.1 q0.2 ca oa h
  obtain ⟨x1, k1, w1⟩ := opens_field ht e1 q1.1 q1.2 cb ob h
  have hl := opens_cells ht h
  have hsp : (cs.drop a.sz).take b.sz = cs.drop a.sz := List.take_of_length_le (by rw [List.length_drop]; omega)
  rw [List.drop_zero] at k0
  rw [hsp] at k1
  exact ⟨(x0, x1), ⟨cs.take a.sz, cs.drop a.sz, (List.take_append_drop _ _).symm, k0, k1⟩, w0, w1⟩
theorem opens_struct3 {α β γ : Type} {P : Program} {t ta tb tc : TypeId} {fs : Array Field} {a : Kd α} {b : Kd β} {c : Kd γ} {wa : α → Prop} {wb : β → Prop} {wc : γ → Prop} (ht : P.underlying t = some (.struct fs)) (hc : P.cellsOf t = a.sz + (b.sz + c.sz))
    (f0 : (fs[0]?).map (fun f => (f.type, f.offset)) = some (ta, 0)) (f1 : (fs[1]?).map (fun f => (f.type, f.offset)) = some (tb, a.sz)) (f2 : (fs[2]?).map (fun f => (f.type, f.offset)) = some (tc, a.sz + b.sz)) (ca : P.cellsOf ta = a.sz) (cb : P.cellsOf tb = b.sz) (cc : P.cellsOf tc = c.sz) (oa : Opens P ta a wa) (ob : Opens P tb b wb) (oc : Opens P tc c wc) :
    Opens P t (Kd.pair a (Kd.pair b c)) (fun x => wa x.1 ∧ wb x.2.1 ∧ wc x.2.2) := by
  intro H enc w base sp held fuel cs x h
  obtain ⟨g0, e0, q0⟩ := Option.map_eq_some_iff.1 f0
  obtain ⟨g1, e1, q1⟩ := Option.map_eq_some_iff.1 f1
  obtain ⟨g2, e2, q2⟩ := Option.map_eq_some_iff.1 f2
  simp only [Prod.mk.injEq] at q0 q1 q2
  obtain ⟨x0, k0, w0⟩ := opens_field ht e0 q0.1 q0.2 ca oa h
  obtain ⟨x1, k1, w1⟩ := opens_field ht e1 q1.1 q1.2 cb ob h
  obtain ⟨x2, k2, w2⟩ := opens_field ht e2 q2.1 q2.2 cc oc h
  have hl := opens_cells ht h
  have hsp : (cs.drop (a.sz + b.sz)).take c.sz = (cs.drop a.sz).drop b.sz := by rw [List.take_of_length_le (by rw [List.length_drop]; omega), List.drop_drop]
  rw [List.drop_zero] at k0
  rw [hsp] at k2
  exact ⟨(x0, x1, x2), ⟨cs.take a.sz, cs.drop a.sz, (List.take_append_drop _ _).symm, k0, _, _, (List.take_append_drop b.sz _).symm, k1, k2⟩, w0, w1, w2⟩
/-- A row's slice is no longer than its weight allows. -/
theorem sized_row {H : Type} {enc : TypeId × Value → H} {P : Program} {W : World} {base : Nat} {spare : Nat → Bool} {held : Bool} {t e : TypeId} {a : Option Addr} {len cap : Nat} {d : DataW H} {ps : List MemPlace} {ts : List TypeId} {ds : List (DataW H)} {j : Nat}
    (hsz : (DataW.weightsEach P ts ds).all (· ≤ reachBytes) = true) (ht : ts[j]? = some t) (hd : ds[j]? = some d) (hu : P.underlying t = some (.slice e)) (B : Nat) (hB : P.bytesOf e = B)
    (h : DataW.Trod enc P W base spare held t (.slice a len cap) d ps) : len * B ≤ 140737488351232 := by
  obtain ⟨fuel, hf⟩ := h
  rcases DataW.trod_slice hu hf with ⟨hcs, _⟩ | ⟨ad, l, c, elems, rest, n, _, hcs, hx, _, _, _, hn, _⟩
  · simp only [Value.cells, List.cons.injEq, Value.slice.injEq, and_true] at hcs
    obtain ⟨rfl, rfl, rfl⟩ := hcs
    rw [Nat.zero_mul]; omega
  · simp only [Value.cells, List.cons.injEq, Value.slice.injEq, and_true] at hcs
    obtain ⟨rfl, rfl, rfl⟩ := hcs
    obtain ⟨hx, _⟩ := Prod.mk.inj hx
    subst hx
    have z := sized_slice hsz ht hd hu
    rw [hB, List.length_map, List.length_map] at z
    exact Nat.le_trans (Nat.mul_le_mul_right _ (by omega)) z
end Go.Proofs.YtojemmipkpckbaaG

end

section
set_option linter.unusedVariables false
namespace Go.Proofs.Ytojemmipkpckbaa.mergeTells
open Go Go.ChangeShapes Go.WideShapes Go.ChangeAt Go.RowKit Go.Proofs.YtojemmipkpckbaaG Go.Proofs.Ytojemmipkpckbaa.P Go.Proofs.YtojemmipkpckbaaW.PrintWords
open Go.ChangeMaps (open_string shut_string)
theorem own : ownKnob Try.prog.godebug = none := by kernel_rfl
theorem laidOut : laidOutB Try.prog = true := by kernel_rfl
set_option maxRecDepth 100000 in
theorem lifted (os : Os) (started : os.Started) (H : Type) (enc : TypeId × Value → H) :
    ReturnsInHanded {} Try.checked os 3 .any (Rows.mergeTellsSpec.pre6 enc Try.prog Try.f3 Rows.mergeTellsRow.domain false) (Rows.mergeTellsSpec.post enc Try.prog Try.f3 false true false false) := by
  refine returnsInHanded_of_change_sized (C := Try.checked) own started (by kernel_rfl) Try.func3
    (ChangeSpec.witness6 (enc := enc) (C := Try.checked) false ⟨#[], #[.slice none 0 0, .string ⟨#[]⟩, .string ⟨#[]⟩, .int .u64 0, .int .i64 0], []⟩ 8 (by kernel_rfl) (by kernel_rfl) (by kernel_rfl) (by kernel_rfl)) ?_
  intro W base args ds gs before hval0 hW hcnd hsz0 _
  have hsz : (DataW.weightsEach Try.prog (Try.f3.params.toList ++ Rows.mergeTellsSpec.plain.varTypes Try.prog) (ds ++ gs)).all (· ≤ reachBytes) = true := hsz0
  have hval : ∀ (j : Nat) t v, Try.f3.params[j]? = some t → args[j]? = some v → Value.okWide Try.prog W .any base t v := hval0
  have hW' := hW
  obtain ⟨p, q, hA0, hV, rfl, hfz, hnd⟩ := hW
  have hA : DataW.TrodAll enc Try.prog W 0 (fun _ => true) true Try.f3.params.toList args.toList ds p := hA0
  rw [Try.params3] at hA hval hsz
  obtain ⟨v0, vs0, d0, ds0, p0, q0, hargs, rfl, rfl, h0, r0⟩ := trodAll_cons hA
  obtain ⟨v1, vs1, d1, ds1, p1, q1, rfl, rfl, rfl, h1, r1⟩ := trodAll_cons r0
  obtain ⟨v2, vs2, d2, ds2, p2, q2, rfl, rfl, rfl, h2, r2⟩ := trodAll_cons r1
  obtain ⟨v3, vs3, d3, ds3, p3, q3, rfl, rfl, rfl, h3, r3⟩ := trodAll_cons r2
  obtain ⟨v4, vs4, d4, ds4, p4, q4, rfl, rfl, rfl, h4, r4⟩ := trodAll_cons r3
  obtain ⟨rfl, rfl, rfl⟩ := trodAll_nil r4
  obtain rfl : args = #[v0, v1, v2, v3, v4] := by cases args; simp_all
  obtain ⟨rfl, rfl⟩ := trodVars_none hV
  obtain ⟨a0, len0, cap0, rfl⟩ := okWide_slice Try.underlying22 (hval 0 22 v0 rfl rfl)
  have k0 := h0
  have y0 := sized_row hsz (j := 0) (t := 22) rfl rfl Try.underlying22 24 (by kernel_rfl) h0
  have lt0 : ∀ x ∈ p0, x.block < W.heap.size := by obtain ⟨m, hm⟩ := k0; exact DataW.trod_lt m _ _ _ hm
  obtain ⟨fuel0, hf0⟩ := h0
  obtain ⟨A0, c0, l0, hcs0, hl0, hm0, hC0, hw0⟩ := opens_row (by kernel_rfl) Try.underlying22 (opens_slice (by kernel_rfl) Try.underlying29 (show Opens Try.prog 41 k41 _ from Opens.iso (opens_struct2 (ta := 39) (tb := 9) Try.underlying41 (by kernel_rfl) (by kernel_rfl) (by kernel_rfl) (by kernel_rfl) (by kernel_rfl) (show Opens Try.prog 39 k39 _ from Opens.iso (opens_struct3 (ta := 9) (tb := 23) (tc := 5) Try.underlying39 (by kernel_rfl) (by kernel_rfl) (by kernel_rfl) (by kernel_rfl) (by kernel_rfl) (by kernel_rfl) (by kernel_rfl) (opens_string Try.underlying9) (opens_int Try.underlying23) (opens_int Try.underlying5)) (fun x : S39 => (x.f0, x.f1, x.f2)) (fun q => ⟨q.1, q.2.1, q.2.2⟩) (fun _ => rfl)) (opens_string Try.underlying9)) (fun x : S41 => (x.f0, x.f1)) (fun q => ⟨q.1, q.2⟩) (fun _ => rfl))) hf0
  simp only [Value.cells, List.cons.injEq, Value.slice.injEq, and_true] at hcs0
  obtain ⟨rfl, rfl, rfl⟩ := hcs0
  obtain ⟨a1, rfl, rfl, rfl, w1⟩ := open_string Try.underlying9 (hval 1 9 v1 rfl rfl) h1
  obtain ⟨a2, rfl, rfl, rfl, w2⟩ := open_string Try.underlying9 (hval 2 9 v2 rfl rfl) h2
  obtain ⟨a3, rfl, rfl, rfl, w3⟩ := open_int Try.underlying23 (hval 3 23 v3 rfl rfl) h3
  obtain ⟨a4, rfl, rfl, rfl, w4⟩ := open_int Try.underlying3 (hval 4 3 v4 rfl rfl) h4
  obtain ⟨k, h⟩ := Pure.MergeTells l0 (Nat.le_trans hl0 hm0) y0 hw0 a1 w1 a2 w2 a3 w3 a4 w4
  clear hA0 hval0 hsz0 hsz
  refine (P.ratlinelaw11_MergeTells.calls k _ _ l0 a1 a2 a3 a4 true W hC0 hl0 h).mono fun e W' ⟨he, bel⟩ => ?_
  subst he
  exact ⟨_, rfl, _, _, _, [], _, [], hW', trodAll_mk1 (shut_bool Try.underlying4 _), (trodAll_cons_mk (Below.trod laidOut (by kernel_rfl) (of_decide_eq_true (by kernel_rfl)) k0 bel lt0) (trodAll_cons_mk (shut_string Try.underlying9 w1) (trodAll_cons_mk (shut_string Try.underlying9 w2) (trodAll_cons_mk (shut_int Try.underlying23 w3) (trodAll_cons_mk (shut_int Try.underlying3 w4) trodAll_mk0))))), rfl, bel.frame _, fun h => by cases h⟩
theorem over : Rows.mergeTellsRow.holds Try.pinned (OpenSpec.ofChange Rows.mergeTellsSpec) :=
  OpenClaim.holds_of_wide 3 Try.f3 rfl rfl rfl rfl rfl rfl rfl ⟨rfl, rfl, rfl, rfl, rfl⟩ rfl rfl rfl rfl rfl (by kernel_rfl) Try.func3 (by kernel_rfl)
    (of_decide_eq_true (by kernel_rfl)) (by unfold Func.isWrapper; first | (rw [if_pos (by decide +kernel)]; kernel_rfl) | (rw [if_neg (by decide +kernel)]; exact ⟨rfl, rfl⟩))
    (fun os started H enc _ => lifted os started H enc)
theorem proved : Rows.MergeTellsSaid := over
#print axioms proved
end Go.Proofs.Ytojemmipkpckbaa.mergeTells
namespace Go.Proofs.Ytojemmipkpckbaa
/-- The row, under a short name, for the claim. -/
theorem mergeTells_holds : Rows.MergeTellsSaid := mergeTells.proved
end Go.Proofs.Ytojemmipkpckbaa

end
