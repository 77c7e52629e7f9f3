/- Proved here: functions of the program return what the Lean functions beside them say, or a law of the program holds. Conditions: those of each theorem. Written for this claim by a program: the printer of the kit, with some contracts given. -/
import Derived.Test.YtdppjknfhggpbaaPx0
import Derived.Test.YtdppjknfhggpbaaPx5
import Derived.Test.YtdppjknfhggpbaaPx8
namespace Go.Proofs.Ytdppjknfhggpbaa.P
open Go.RowKit Go.Proofs.YtdppjknfhggpbaaG Go.Proofs.YtdppjknfhggpbaaW.PrintWords Go.Proofs.YtdppjknfhggpbaaW.PrintLast Go.Proofs.YtdppjknfhggpbaaW.PrintMore
attribute [local go_sem] str_gtr str_geq str_leq max2_int min2_int max_two min_two max_three min_three max_four min_four   -- for this text's walks alone
set_option linter.unusedVariables false
set_option linter.unusedSimpArgs false

/-! ### ratlineref05_Take: function 21 -/
def ratlineref05_Take.j0 : Nat → List Int → Int → List Int → Bool → Option (List Int × List Int × Int)
  | 0, _, _, _, _ => none
  | k + 1, x0, x5, x6, x32 => if x32 = true then (some (([] : List Int), ([] : List Int), 50)) else (if 0 ≤ x5 then (if x5 ≤ (x6.length : Int) then ((some (x6.take (x5 : Int).toNat : List Int)).bind fun y237 => ((ratlineref02_TakeFour.f k (x6.drop (x5 : Int).toNat)).bind fun bt245 => (if 0 ≤ (wrap64 (4 + (wrap64 (x5)))) then (if (wrap64 (4 + (wrap64 (x5)))) ≤ (x0.length : Int) then ((ratlineref05_Sum.f k (x0.take ((wrap64 (4 + (wrap64 (x5)))) : Int).toNat)).bind fun t251 => (if bt245.1 = t251 then (if ([] : List Int).length + y237.length < 140737488355328 then (some ((([] : List Int) ++ y237), bt245.2.1, 0)) else (none)) else (some (([] : List Int), ([] : List Int), 50)))) else (none)) else (none)))) else (none)) else (none))
def ratlineref05_Take.f (k : Nat) (l0 : List Int) : Option (List Int × List Int × Int) := (ratlineref02_TakeFour.f k l0).bind fun bt232 => (if bt232.2.2 = true then (if bt232.1 > 1048576 then (ratlineref05_Take.j0 k l0 bt232.1 bt232.2.1 true) else (ratlineref05_Take.j0 k l0 bt232.1 bt232.2.1 (decide ((bt232.2.1.length : Int) < (wrap64 ((wrap64 (bt232.1)) + 4)))))) else (ratlineref05_Take.j0 k l0 bt232.1 bt232.2.1 true))
theorem ratlineref05_Take.mono_l : ∀ k, (∀ y0 y1 y2 y3, LeO (ratlineref05_Take.j0 k y0 y1 y2 y3) (ratlineref05_Take.j0 (k + 1) y0 y1 y2 y3))
  | 0 => fun _ _ _ _ r h => by simp [ratlineref05_Take.j0] at h
  | k + 1 => by
    have ih0 := ratlineref05_Take.mono_l k
    · intro y0 y1 y2 y3
      unfold ratlineref05_Take.j0
      repeat' first
      | (with_reducible exact ih0 _ _ _ _)
      | (with_reducible exact ratlineref02_TakeFour.mono _ _)
      | (with_reducible exact ratlineref05_Sum.mono _ _)
      | (with_reducible exact LeO.refl _)
      | (with_reducible exact LeO.none _)
      | (with_reducible refine LeO.ite ?_ ?_)
      | (with_reducible refine LeO.bind ?_ (fun _ => ?_))
      | exact ih0 _ _ _ _
      | exact ratlineref02_TakeFour.mono _ _
      | exact ratlineref05_Sum.mono _ _
      | exact LeO.none _
      | refine LeO.ite ?_ ?_
      | refine LeO.bind ?_ (fun _ => ?_)
theorem ratlineref05_Take.mono : ∀ a0 k, LeO (ratlineref05_Take.f k a0) (ratlineref05_Take.f (k + 1) a0) := by
  intro a0 k
  have ih0 := ratlineref05_Take.mono_l k
  unfold ratlineref05_Take.f
  repeat' first
      | (with_reducible exact ih0 _ _ _ _)
      | (with_reducible exact ratlineref02_TakeFour.mono _ _)
      | (with_reducible exact ratlineref05_Sum.mono _ _)
      | (with_reducible exact LeO.refl _)
      | (with_reducible exact LeO.none _)
      | (with_reducible refine LeO.ite ?_ ?_)
      | (with_reducible refine LeO.bind ?_ (fun _ => ?_))
      | exact ih0 _ _ _ _
      | exact ratlineref02_TakeFour.mono _ _
      | exact ratlineref05_Sum.mono _ _
      | exact LeO.none _
      | refine LeO.ite ?_ ?_
      | refine LeO.bind ?_ (fun _ => ?_)
set_option maxHeartbeats 8000000 in
set_option maxRecDepth 100000 in
theorem ratlineref05_Take.calls (k : Nat) (A0 : Option Addr) (c0 : Nat) (l0 : List Int) (r1 : List Int) (r2 : List Int) (r3 : Int) (w : World) (hr0 : Kd.C (Kd.int .u8) w A0 l0.length l0) (hc0 : l0.length ≤ c0) (h : ratlineref05_Take.f k l0 = some (r1, r2, r3)) :
    Calls Try.prog 21 #[.slice A0 l0.length c0] w fun e w' => ∃ v0_ v1_ : Value, e = .returned (.tuple #[v0_, v1_, .int .i64 r3]) ∧ Kd.R (Kd.int .u8) 5 w' w.heap.size (fun k_ => some k_ ≠ (v1_ : Value).ownBlock) v0_ r1 ∧ Kd.R (Kd.int .u8) 5 w' w.heap.size (fun k_ => some k_ ≠ (v0_ : Value).ownBlock) v1_ r2 ∧ Below w.heap.size w w' := by
  have HR0 := Aside0.mk hr0
  have HC0 := Aside0.mk hc0
  clear hr0 hc0
  have HB := Aside0.mk (Below.refl w.heap.size w)
  have H : ((ratlineref02_TakeFour.f k l0).bind fun bt232 => (if bt232.2.2 = true then (if bt232.1 > 1048576 then (ratlineref05_Take.j0 k l0 bt232.1 bt232.2.1 true) else (ratlineref05_Take.j0 k l0 bt232.1 bt232.2.1 (decide ((bt232.2.1.length : Int) < (wrap64 ((wrap64 (bt232.1)) + 4)))))) else (ratlineref05_Take.j0 k l0 bt232.1 bt232.2.1 true))) = some (r1, r2, r3) := h
  clear h
  replace H := Option.bind_eq_some_iff.mp H
  obtain ⟨⟨t232, t233, t234⟩, A20, H⟩ := H
  replace H : (if t234 = true then (if t232 > 1048576 then (ratlineref05_Take.j0 k l0 t232 t233 true) else (ratlineref05_Take.j0 k l0 t232 t233 (decide ((t233.length : Int) < (wrap64 ((wrap64 (t232)) + 4)))))) else (ratlineref05_Take.j0 k l0 t232 t233 true)) = some (r1, r2, r3) := H
  have A2 := Aside0.mk A20
  clear A20
  have HC3 := Aside0.mk H
  clear H
  go_enter Try.func21, Try.ntmps21
  go_upto_region 2 with (first | ((with_reducible refine gate_callee (f := 30) rfl ?_); refine goesL_ (some 15) rfl rfl Try.func30 (by kernel_rfl) rfl #[.slice A0 l0.length c0] rfl (by (try simp only [List.map_toArray, List.map_cons, List.map_nil]); first | done | rfl | (simp only [List.length_drop, List.length_take]; rfl)) ?_; (with_reducible refine (ratlineref02_TakeFour.calls k _ _ l0 t232 t233 t234 _ ?side1 ?side2 A2.out).mono ?_); (case side1 => repeat (first | exact HR0.out | (with_reducible refine Kd.C_alloc ?_ _) | (with_reducible refine Kd.C_drewN ?_ _) | (with_reducible refine Kd.C_drew ?_))); (case side2 => exact HC0.out); rintro e w4 ⟨v235, rfl, ho0, hb⟩; refine ⟨_, rfl, ?_⟩; have n0_ := Aside0.mk (Kd.R_lower ho0 (below_size (by repeat (first | (with_reducible first | exact HB.out | apply below_alloc | apply pw_below_drewN | apply below_drew1) | exact HB.out)))); have n1_ := Aside0.mk (below_step (by repeat (first | (with_reducible first | exact HB.out | apply below_alloc | apply pw_below_drewN | apply below_drew1) | exact HB.out)) hb); clear HB; have HO236 := n0_; have HB := n1_; clear n0_ n1_; (try clear hb); (try clear hb2); (try clear hk); (try clear hi); (try clear ho0)))
  (try simp only [Act.put, List.setIfInBounds_toArray, List.set_cons_zero, List.set_cons_succ])
  go_cut [32] (fun v32 wc => ∃ (kq : Nat) (x32_2 : Bool), v32 = .bool x32_2 ∧ Aside0 (ratlineref05_Take.j0 kq l0 t232 t233 x32_2 = some (r1, r2, r3)) ∧ Aside0 (kq ≤ k) ∧ Aside0 (Kd.R (Kd.int .u8) 5 wc w.heap.size (fun _ => True) v235 t233) ∧ Aside0 (Below w.heap.size w wc))
  case first =>
    have H := HC3.out
    clear HC3
    by_cases c5 : t234 = true
    · subst c5
      have H1 : (if t232 > 1048576 then (ratlineref05_Take.j0 k l0 t232 t233 true) else (ratlineref05_Take.j0 k l0 t232 t233 (decide ((t233.length : Int) < (wrap64 ((wrap64 (t232)) + 4)))))) = some (r1, r2, r3) := by rw [if_pos rfl] at H; exact H
      clear H
      have H := H1
      clear H1
      by_cases c6 : t232 > 1048576
      · rw [if_pos c6] at H
        have c6b0 : decide (1048576 < t232) = true := decide_eq_true c6
        clear c6
        (first | rw [c6b0] | (simp only [i64_w, i32_w]; rw [c6b0]) | skip)
        have H' := Aside0.mk H
        clear H
        go_wp2
        go_meet
        case rel => exact ⟨_, (true), (by first | rfl | (simp; done) | (simp [*]; done)), H', ⟨by first | omega | exact Nat.le_refl _⟩, ⟨by (with_reducible repeat (first | apply Kd.R_alloc | apply Kd.R_drewN | apply Kd.R_drew)); exact HO236.out⟩, ⟨by repeat (first | (with_reducible first | exact HB.out | apply below_alloc | apply pw_below_drewN | apply below_drew1) | exact HB.out)⟩⟩
      · rw [if_neg c6] at H
        have c6b0 : decide (1048576 < t232) = false := decide_eq_false c6
        clear c6
        (first | rw [c6b0] | (simp only [i64_w, i32_w]; rw [c6b0]) | skip)
        have H' := Aside0.mk H
        clear H
        obtain ⟨Ao7, co7, eo7⟩ := Kd.R_slice HO236.out
        subst eo7
        go_wp2
        go_meet
        case rel => exact ⟨_, (decide ((t233.length : Int) < (wrap64 ((wrap64 (t232)) + 4)))), (by first | rfl | (simp; done) | (simp [*]; done)), H', ⟨by first | omega | exact Nat.le_refl _⟩, ⟨by (with_reducible repeat (first | apply Kd.R_alloc | apply Kd.R_drewN | apply Kd.R_drew)); exact HO236.out⟩, ⟨by repeat (first | (with_reducible first | exact HB.out | apply below_alloc | apply pw_below_drewN | apply below_drew1) | exact HB.out)⟩⟩
    · replace c5 := Bool.eq_false_iff.mpr c5
      subst c5
      have H1 : (ratlineref05_Take.j0 k l0 t232 t233 true) = some (r1, r2, r3) := by rw [if_neg (show ¬ (false = true) by decide)] at H; exact H
      clear H
      have H := H1
      clear H1
      have H' := Aside0.mk H
      clear H
      go_wp2
      go_meet
      case rel => exact ⟨_, (true), (by first | rfl | (simp; done) | (simp [*]; done)), H', ⟨by first | omega | exact Nat.le_refl _⟩, ⟨by (with_reducible repeat (first | apply Kd.R_alloc | apply Kd.R_drewN | apply Kd.R_drew)); exact HO236.out⟩, ⟨by repeat (first | (with_reducible first | exact HB.out | apply below_alloc | apply pw_below_drewN | apply below_drew1) | exact HB.out)⟩⟩
  case rest =>
    clear HC3
    try clear c2
    try clear p2
    try clear c3
    try clear c5
    try clear c6
    try clear c6b0
    try clear p6
    obtain ⟨kq, x32_2, rfl, HA, HJ2, HO_6, HB⟩ := hcut
    cases kq with
    | zero => exact absurd HA.out (by simp [ratlineref05_Take.j0])
    | succ kj2 =>
      have H := HA.out
      clear HA
      simp only [ratlineref05_Take.j0] at H
      by_cases c8 : x32_2 = true
      · subst c8
        have H1 : (some (([] : List Int), ([] : List Int), 50)) = some (r1, r2, r3) := by rw [if_pos rfl] at H; exact H
        clear H
        have H := H1
        clear H1
        simp only [Option.some.injEq, Prod.mk.injEq] at H
        obtain ⟨rfl, rfl, rfl⟩ := H
        go_wp2
        go_ret3
        exact ⟨_, _, by first | rfl | (simp [errW_none, errW_some] <;> rfl) | (simp [*, errW_none, errW_some] <;> rfl), by first | exact Kd.R_nil _ _ _ _ _ | exact Kd.N_nil _ _ _ _ _ | exact Kd.V_nil _ _ _ _ _ | exact Kd.Q_nil _ _ _ _ _ | exact Kd.S_nil _ _ _ _ _, by first | exact Kd.R_nil _ _ _ _ _ | exact Kd.N_nil _ _ _ _ _ | exact Kd.V_nil _ _ _ _ _ | exact Kd.Q_nil _ _ _ _ _ | exact Kd.S_nil _ _ _ _ _, by repeat (first | (with_reducible first | exact HB.out | apply below_alloc | apply pw_below_drewN | apply below_drew1) | exact HB.out)⟩
      · replace c8 := Bool.eq_false_iff.mpr c8
        subst c8
        have H1 : (if 0 ≤ t232 then (if t232 ≤ (t233.length : Int) then ((some (t233.take (t232 : Int).toNat : List Int)).bind fun y237 => ((ratlineref02_TakeFour.f kj2 (t233.drop (t232 : Int).toNat)).bind fun bt245 => (if 0 ≤ (wrap64 (4 + (wrap64 (t232)))) then (if (wrap64 (4 + (wrap64 (t232)))) ≤ (l0.length : Int) then ((ratlineref05_Sum.f kj2 (l0.take ((wrap64 (4 + (wrap64 (t232)))) : Int).toNat)).bind fun t251 => (if bt245.1 = t251 then (if ([] : List Int).length + y237.length < 140737488355328 then (some ((([] : List Int) ++ y237), bt245.2.1, 0)) else (none)) else (some (([] : List Int), ([] : List Int), 50)))) else (none)) else (none)))) else (none)) else (none)) = some (r1, r2, r3) := by rw [if_neg (show ¬ (false = true) by decide)] at H; exact H
        clear H
        have H := H1
        clear H1
        by_cases c9 : 0 ≤ t232
        · rw [if_pos c9] at H
          have c9b0 := eq_true c9
          have c9b1 : decide (0 ≤ t232) = true := decide_eq_true c9
          clear c9
          by_cases c10 : t232 ≤ (t233.length : Int)
          · rw [if_pos c10] at H
            have c10b0 := eq_true c10
            have c10b1 : decide (t232 ≤ (t233.length : Int)) = true := decide_eq_true c10
            clear c10
            obtain ⟨y237, hy237⟩ : ∃ y_ : List Int, y_ = (t233.take (t232 : Int).toNat) := ⟨_, rfl⟩
            replace H : ((ratlineref02_TakeFour.f kj2 (t233.drop (t232 : Int).toNat)).bind fun bt245 => (if 0 ≤ (wrap64 (4 + (wrap64 (t232)))) then (if (wrap64 (4 + (wrap64 (t232)))) ≤ (l0.length : Int) then ((ratlineref05_Sum.f kj2 (l0.take ((wrap64 (4 + (wrap64 (t232)))) : Int).toNat)).bind fun t251 => (if bt245.1 = t251 then (if ([] : List Int).length + y237.length < 140737488355328 then (some ((([] : List Int) ++ y237), bt245.2.1, 0)) else (none)) else (some (([] : List Int), ([] : List Int), 50)))) else (none)) else (none))) = some (r1, r2, r3) := by first | (rw [hy237]; with_reducible exact H) | (have H2_ := (Option.bind_some _ _).symm.trans H; rw [hy237]; with_reducible exact H2_) | (have H2_ := (Option.bind_some _ _).symm.trans H; with_reducible exact H2_) | with_reducible exact H | (rw [hy237]; exact H) | exact H
            have Ny237 := Aside0.mk hy237
            clear hy237
            have c11b0 := eq_true (of_decide_eq_true (by first | (with_reducible assumption) | assumption) : 0 ≤ t232)
            have c12b0 := eq_true (of_decide_eq_true (by first | (with_reducible assumption) | assumption) : t232 ≤ (t233.length : Int))
            obtain ⟨y241, hy241⟩ : ∃ y_ : List Int, y_ = (t233.drop (t232 : Int).toNat) := ⟨_, rfl⟩
            replace H : ((ratlineref02_TakeFour.f kj2 y241).bind fun bt245 => (if 0 ≤ (wrap64 (4 + (wrap64 (t232)))) then (if (wrap64 (4 + (wrap64 (t232)))) ≤ (l0.length : Int) then ((ratlineref05_Sum.f kj2 (l0.take ((wrap64 (4 + (wrap64 (t232)))) : Int).toNat)).bind fun t251 => (if bt245.1 = t251 then (if ([] : List Int).length + y237.length < 140737488355328 then (some ((([] : List Int) ++ y237), bt245.2.1, 0)) else (none)) else (some (([] : List Int), ([] : List Int), 50)))) else (none)) else (none))) = some (r1, r2, r3) := by first | (rw [hy241]; with_reducible exact H) | (have H2_ := (Option.bind_some _ _).symm.trans H; rw [hy241]; with_reducible exact H2_) | (have H2_ := (Option.bind_some _ _).symm.trans H; with_reducible exact H2_) | with_reducible exact H | (rw [hy241]; exact H) | exact H
            have Ny241 := Aside0.mk hy241
            clear hy241
            replace H := Option.bind_eq_some_iff.mp H
            obtain ⟨⟨t245, t246, t247⟩, A130, H⟩ := H
            replace H : (if 0 ≤ (wrap64 (4 + (wrap64 (t232)))) then (if (wrap64 (4 + (wrap64 (t232)))) ≤ (l0.length : Int) then ((ratlineref05_Sum.f kj2 (l0.take ((wrap64 (4 + (wrap64 (t232)))) : Int).toNat)).bind fun t251 => (if t245 = t251 then (if ([] : List Int).length + y237.length < 140737488355328 then (some ((([] : List Int) ++ y237), t246, 0)) else (none)) else (some (([] : List Int), ([] : List Int), 50)))) else (none)) else (none)) = some (r1, r2, r3) := H
            have A13 := Aside0.mk A130
            clear A130
            obtain ⟨ji14, hji14⟩ : ∃ j_ : Int, (wrap64 (4 + (wrap64 (t232)))) = j_ := ⟨_, rfl⟩
            replace H : (if 0 ≤ (ji14) then (if (ji14) ≤ (l0.length : Int) then ((ratlineref05_Sum.f kj2 (l0.take ((ji14) : Int).toNat)).bind fun t251 => (if t245 = t251 then (if ([] : List Int).length + y237.length < 140737488355328 then (some ((([] : List Int) ++ y237), t246, 0)) else (none)) else (some (([] : List Int), ([] : List Int), 50)))) else (none)) else (none)) = some (r1, r2, r3) := by first | (rw [hji14] at H; exact H) | (simp only [hji14] at H ⊢; exact H)
            (try rw [hji14] at A13)
            have hji14w : (IntKind.i64.wrap (4 + (wrap64 (t232)))) = ji14 := (i64_w _).trans hji14
            by_cases c15 : 0 ≤ (ji14)
            · rw [if_pos c15] at H
              have c15b0 := eq_true c15
              have c15b1 : decide (0 ≤ (ji14)) = true := decide_eq_true c15
              clear c15
              by_cases c16 : (ji14) ≤ (l0.length : Int)
              · rw [if_pos c16] at H
                have c16b0 := eq_true c16
                have c16b1 : decide ((ji14) ≤ (l0.length : Int)) = true := decide_eq_true c16
                clear c16
                replace H := Option.bind_eq_some_iff.mp H
                obtain ⟨t251, A170, H⟩ := H
                replace H : (if t245 = t251 then (if ([] : List Int).length + y237.length < 140737488355328 then (some ((([] : List Int) ++ y237), t246, 0)) else (none)) else (some (([] : List Int), ([] : List Int), 50))) = some (r1, r2, r3) := H
                have A17 := Aside0.mk A170
                clear A170
                by_cases c18 : t245 = t251
                · rw [if_pos c18] at H
                  have c18b0 : (t245 == t251) = true := beq_iff_eq.mpr c18
                  have c18b1 : (t245 != t251) = false := bne_eq_false_iff_eq.mpr c18
                  clear c18
                  by_cases c19 : ([] : List Int).length + y237.length < 140737488355328
                  · rw [if_pos c19] at H
                    have LMc19 := Aside0.mk c19
                    clear c19
                    obtain ⟨y252, hy252⟩ : ∃ y_ : List Int, y_ = (([] : List Int) ++ y237) := ⟨_, rfl⟩
                    replace H : (some (y252, t246, 0)) = some (r1, r2, r3) := by first | (rw [hy252]; with_reducible exact H) | (have H2_ := (Option.bind_some _ _).symm.trans H; rw [hy252]; with_reducible exact H2_) | (have H2_ := (Option.bind_some _ _).symm.trans H; with_reducible exact H2_) | with_reducible exact H | (rw [hy252]; exact H) | exact H
                    have Ny252 := Aside0.mk hy252
                    clear hy252
                    simp only [Option.some.injEq, Prod.mk.injEq] at H
                    obtain ⟨rfl, rfl, rfl⟩ := H
                    obtain ⟨Ao21, co21, eo21⟩ := Kd.R_slice HO_6.out
                    subst eo21
                    have q20 : (t232 : Int) ≤ ((t233.length : Int) : Int) := of_decide_eq_true (by first | (with_reducible assumption) | assumption)
                    obtain ⟨i020, hi020, _, hsz20, _⟩ := info_parts info5
                    have hroom20 : t233.length ≤ co21 := (Kd.R_reads' HO_6.out).2.1
                    have hC20 : Kd.C (Kd.int .u8) _ Ao21 t233.length t233 := (Kd.R_reads' HO_6.out).2.2
                    have hcut20 := cut_to (P := Try.prog) 22 5 .u32 Try.underlying22 hi020 Ao21 t233.length co21 t232 (of_decide_eq_true (by first | (with_reducible assumption) | assumption)) q20 hroom20
                    have hr20 := Kd.C_take (m := (t232 : Int).toNat) hC20 (by omega)
                    have hy20 : y237.length = (t232 : Int).toNat := (by rw [Ny237.out, List.length_take]; omega)
                    rw [← Ny237.out] at hr20
                    rw [← hy20] at hcut20
                    have HR240 := Aside0.mk hr20
                    have HC240 := Aside0.mk (show y237.length ≤ co21 from by omega)
                    clear hr20 hC20 hroom20 hi020 hsz20
                    have KY20 := Aside0.mk hy20
                    clear hy20
                    have KL20 := Aside0.mk (show (t232 : Int).toNat ≤ t233.length from by omega)
                    replace q20 := eq_true q20
                    have q22 : (t232 : Int) ≤ ((t233.length : Int) : Int) := of_decide_eq_true (by first | (with_reducible assumption) | assumption)
                    obtain ⟨i022, hi022, _, hsz22, _⟩ := info_parts info5
                    have hroom22 : t233.length ≤ co21 := (Kd.R_reads' HO_6.out).2.1
                    have hC22 : Kd.C (Kd.int .u8) _ Ao21 t233.length t233 := (Kd.R_reads' HO_6.out).2.2
                    have q022 : (0 : Int) ≤ (t232 : Int) := of_decide_eq_true (by first | (with_reducible assumption) | assumption)
                    have hcut22 := cut_from (P := Try.prog) 22 5 .u32 Try.underlying22 hi022 1 hsz22 Ao21 t233.length co21 t232 q022 q22
                    have hr22 := Kd.C_drop (m := (t232 : Int).toNat) (c := co21) hC22 (by omega) hroom22
                    obtain ⟨A22, hA22⟩ : ∃ A1, A1 = (if co21 = (t232 : Int).toNat then Ao21 else (Ao21 : Option Addr).map (·.add ((t232 : Int).toNat * 1))) := ⟨_, rfl⟩
                    obtain ⟨c22, hc22⟩ : ∃ c1, c1 = co21 - (t232 : Int).toNat := ⟨_, rfl⟩
                    have hy22 : y241.length = t233.length - (t232 : Int).toNat := (by rw [Ny241.out, List.length_drop] <;> omega)
                    rw [show (t233).drop (t232 : Int).toNat = y241 from Ny241.out.symm] at hr22
                    replace hr22 : Kd.C (Kd.int .u8) _ A22 y241.length y241 := (by rw [hA22]; exact hr22)
                    rw [← hy22, ← hA22, ← hc22] at hcut22
                    have HR244 := Aside0.mk hr22
                    have HC244 := Aside0.mk (show y241.length ≤ c22 from by rw [hy22, hc22]; exact Nat.sub_le_sub_right hroom22 _)
                    clear hr22 hC22 hroom22 hi022 hsz22 hc22
                    have KY22 := Aside0.mk hy22
                    have KA22 := Aside0.mk hA22
                    clear hy22 hA22
                    have KL22 := Aside0.mk (show (t232 : Int).toNat ≤ t233.length from by omega)
                    replace q22 := eq_true q22
                    go_wp2_with (first | ((with_reducible refine gate_callee (f := 30) rfl ?_); refine goesL_ (some 40) rfl rfl Try.func30 (by kernel_rfl) rfl #[.slice A22 y241.length c22] rfl (by (try simp only [List.map_toArray, List.map_cons, List.map_nil]); first | done | rfl | (simp only [List.length_drop, List.length_take]; rfl)) ?_; (with_reducible refine (ratlineref02_TakeFour.calls kj2 _ _ y241 t245 t246 t247 _ ?side1 ?side2 A13.out).mono ?_); (case side1 => repeat (first | exact (by repeat (first | (with_reducible exact HR244.out) | (with_reducible refine Kd.C_alloc ?_ _) | (with_reducible refine Kd.C_drewN ?_ _) | (with_reducible refine Kd.C_drew ?_) | exact HR244.out)) | (with_reducible refine Kd.C_alloc ?_ _) | (with_reducible refine Kd.C_drewN ?_ _) | (with_reducible refine Kd.C_drew ?_))); (case side2 => exact HC244.out); rintro e w23 ⟨v248, rfl, ho0, hb⟩; refine ⟨_, rfl, ?_⟩; have n0_ := Aside0.mk (Kd.R_elder' (by (with_reducible repeat (first | apply Kd.R_alloc | apply Kd.R_drewN | apply Kd.R_drew)); exact HO_6.out) (Kd.R_base ho0) hb); have n1_ := Aside0.mk (Kd.R_lower (Kd.R_new' ho0 (Kd.R_lt (by (with_reducible repeat (first | apply Kd.R_alloc | apply Kd.R_drewN | apply Kd.R_drew)); exact HO_6.out))) (below_size (by repeat (first | (with_reducible first | exact HB.out | apply below_alloc | apply pw_below_drewN | apply below_drew1) | exact HB.out)))); have n2_ := Aside0.mk (Kd.C_below (by repeat (first | (with_reducible exact HR240.out) | (with_reducible refine Kd.C_alloc ?_ _) | (with_reducible refine Kd.C_drewN ?_ _) | (with_reducible refine Kd.C_drew ?_) | exact HR240.out)) hb); have n3_ := Aside0.mk (Kd.C_below (by repeat (first | (with_reducible exact HR244.out) | (with_reducible refine Kd.C_alloc ?_ _) | (with_reducible refine Kd.C_drewN ?_ _) | (with_reducible refine Kd.C_drew ?_) | exact HR244.out)) hb); have n4_ := Aside0.mk (below_step (by repeat (first | (with_reducible first | exact HB.out | apply below_alloc | apply pw_below_drewN | apply below_drew1) | exact HB.out)) hb); clear HO_6; clear HR240; clear HR244; clear HB; have HO_6 := n0_; have HO249 := n1_; have HR240 := n2_; have HR244 := n3_; have HB := n4_; clear n0_ n1_ n2_ n3_ n4_; (try clear hb); (try clear hb2); (try clear hk); (try clear hi); (try clear ho0); obtain ⟨i024, hi024, _, hsz24, _⟩ := info_parts info5; obtain ⟨hcut24, hA24, hC24⟩ := print_take_of (P := Try.prog) (Value.int .u8) 0 22 5 .i64 Try.underlying22 hi024 hsz24 A0 c0 l0 (ji14) (of_decide_eq_true (by first | (with_reducible assumption) | assumption)) (of_decide_eq_true (by first | (with_reducible assumption) | assumption)) HC0.out; have HR250 := Aside0.mk (Kd.C_of_reads (h1 := fun _ => rfl) (hA24 _ (Kd.reads_of_C HR0.out))); have HC250 := Aside0.mk hC24; clear hA24 hC24 hi024 hsz24) | ((with_reducible refine gate_callee (f := 17) rfl ?_); refine goesL_ (some 50) rfl rfl Try.func17 (by kernel_rfl) rfl #[.slice A0 (l0.take ((ji14) : Int).toNat).length c0] rfl (by (try simp only [List.map_toArray, List.map_cons, List.map_nil]); first | done | (rw [show (l0.take ((ji14) : Int).toNat).length = (ji14).toNat from (by rw [List.length_take]; have h_ : ((ji14) : Int) ≤ (l0.length : Int) := of_decide_eq_true (by first | (with_reducible assumption) | assumption); omega)] <;> rfl) | (simp only [hji14]; rfl) | rfl | (simp only [List.length_drop, List.length_take]; rfl)) ?_; (with_reducible refine (ratlineref05_Sum.calls kj2 _ _ (l0.take ((ji14) : Int).toNat) t251 _ ?side1 ?side2 A17.out).mono ?_); (case side1 => repeat (first | exact (Kd.C_below HR250.out HB.out) | (with_reducible refine Kd.C_alloc ?_ _) | (with_reducible refine Kd.C_drewN ?_ _) | (with_reducible refine Kd.C_drew ?_))); (case side2 => exact HC250.out); rintro e w' ⟨rfl, ⟨nd, rfl⟩⟩; refine ⟨_, rfl, ?_⟩) | ((with_reducible refine gate_builtin (b := .append) (xs := #[.tmp 52, .tmp 53]) rfl ?_); (try (refine gate_guard (by rfl) ?_; dsimp only)); at_builtin; refine Kd.R_append_rows (Kd.int .u8) (w0 := w) w.heap.size rfl (.tmp 52) (.tmp 53) 22 5 (.int .u8 0) 1 rfl Try.underlying22 info5 rfl (by decide) (by omega) (.slice none 0 0) ([] : List Int) y237 _ _ _ (fun k_ => some k_ ≠ (.slice Ao21 t233.length co21 : Value).ownBlock ∧ some k_ ≠ (v248 : Value).ownBlock) (fun _ => False) rfl rfl ?aO ?aR (fun _ _ h => h) (fun _ h => h.elim) ?aF ?aB ?aS ?aL ?_; (case aR => repeat (first | exact (by repeat (first | (with_reducible exact HR240.out) | (with_reducible refine Kd.C_alloc ?_ _) | (with_reducible refine Kd.C_drewN ?_ _) | (with_reducible refine Kd.C_drew ?_) | exact HR240.out)) | (with_reducible refine Kd.C_alloc ?_ _) | (with_reducible refine Kd.C_drewN ?_ _) | (with_reducible refine Kd.C_drew ?_))); (case aB => exact (by repeat (first | (with_reducible first | exact HB.out | apply below_alloc | apply pw_below_drewN | apply below_drew1) | exact HB.out))); (case aF => exact (fun k_ hk => ⟨Kd.fresh' (Kd.R_lt (by (with_reducible repeat (first | apply Kd.R_alloc | apply Kd.R_drewN | apply Kd.R_drew)); exact HO_6.out)) k_ hk, Kd.fresh' (Kd.R_lt (by (with_reducible repeat (first | apply Kd.R_alloc | apply Kd.R_drewN | apply Kd.R_drew)); exact HO249.out)) k_ hk⟩)); (case aO => exact ((Kd.R_nil _ _ _ _ (fun k_ => some k_ ≠ (.slice Ao21 t233.length co21 : Value).ownBlock ∧ some k_ ≠ (v248 : Value).ownBlock)))); (case aS => exact (below_size (by repeat (first | (with_reducible first | exact HB.out | apply below_alloc | apply pw_below_drewN | apply below_drew1) | exact HB.out)))); (case aL => have := LMc19.out; omega); intro v253 w25 ho hb hg hat; rw [← Ny252.out] at ho; have n0_ := Aside0.mk (Kd.R_after (Kd.R_apart_nil (by (with_reducible repeat (first | apply Kd.R_alloc | apply Kd.R_drewN | apply Kd.R_drew)); exact HO_6.out)) hg hat); have n1_ := Aside0.mk (Kd.R_after (Kd.R_apart_nil (by (with_reducible repeat (first | apply Kd.R_alloc | apply Kd.R_drewN | apply Kd.R_drew)); exact HO249.out)) hg hat); have n2_ := Aside0.mk (hb); have n3_ := Aside0.mk ((show Kd.C (Kd.int .u8) w25 Ao21 y237.length y237 from by rw [Ny237.out]; exact Kd.C_take (m := (t232 : Int).toNat) ((Kd.R_reads' (Kd.R_after (Kd.R_apart_nil (by (with_reducible repeat (first | apply Kd.R_alloc | apply Kd.R_drewN | apply Kd.R_drew)); exact HO_6.out)) hg hat)).2.2) KL20.out)); have n4_ := Aside0.mk (ho); clear HO_6; clear HO249; clear HB; clear HR240; have HO_6 := n0_; have HO249 := n1_; have HB := n2_; have HR240 := n3_; have HO254 := n4_; clear n0_ n1_ n2_ n3_ n4_; clear ho hb hg hat))
                    go_ret3
                    exact ⟨_, _, by first | rfl | (simp [errW_none, errW_some] <;> rfl) | (simp only [← hji14]; first | rfl | (simp [errW_none, errW_some] <;> rfl)) | (simp [*, errW_none, errW_some] <;> rfl), by (with_reducible repeat (first | apply Kd.R_alloc | apply Kd.R_drewN | apply Kd.R_drew)); exact Kd.R_mono HO254.out (fun _ hk => hk.2), by (with_reducible repeat (first | apply Kd.R_alloc | apply Kd.R_drewN | apply Kd.R_drew)); exact Kd.R_mono HO249.out (fun _ hk => hk.2), by repeat (first | (with_reducible first | exact HB.out | apply below_alloc | apply pw_below_drewN | apply below_drew1) | exact HB.out)⟩
                  · rw [if_neg c19] at H
                    exact absurd H (by simp)
                · rw [if_neg c18] at H
                  have c18b0 : (t245 == t251) = false := beq_eq_false_iff_ne.mpr c18
                  have c18b1 : (t245 != t251) = true := bne_iff_ne.mpr c18
                  simp only [Option.some.injEq, Prod.mk.injEq] at H
                  obtain ⟨rfl, rfl, rfl⟩ := H
                  obtain ⟨Ao27, co27, eo27⟩ := Kd.R_slice HO_6.out
                  subst eo27
                  have q26 : (t232 : Int) ≤ ((t233.length : Int) : Int) := of_decide_eq_true (by first | (with_reducible assumption) | assumption)
                  obtain ⟨i026, hi026, _, hsz26, _⟩ := info_parts info5
                  have hroom26 : t233.length ≤ co27 := (Kd.R_reads' HO_6.out).2.1
                  have hC26 : Kd.C (Kd.int .u8) _ Ao27 t233.length t233 := (Kd.R_reads' HO_6.out).2.2
                  have hcut26 := cut_to (P := Try.prog) 22 5 .u32 Try.underlying22 hi026 Ao27 t233.length co27 t232 (of_decide_eq_true (by first | (with_reducible assumption) | assumption)) q26 hroom26
                  have hr26 := Kd.C_take (m := (t232 : Int).toNat) hC26 (by omega)
                  have hy26 : y237.length = (t232 : Int).toNat := (by rw [Ny237.out, List.length_take]; omega)
                  rw [← Ny237.out] at hr26
                  rw [← hy26] at hcut26
                  have HR240 := Aside0.mk hr26
                  have HC240 := Aside0.mk (show y237.length ≤ co27 from by omega)
                  clear hr26 hC26 hroom26 hi026 hsz26
                  have KY26 := Aside0.mk hy26
                  clear hy26
                  have KL26 := Aside0.mk (show (t232 : Int).toNat ≤ t233.length from by omega)
                  replace q26 := eq_true q26
                  have q28 : (t232 : Int) ≤ ((t233.length : Int) : Int) := of_decide_eq_true (by first | (with_reducible assumption) | assumption)
                  obtain ⟨i028, hi028, _, hsz28, _⟩ := info_parts info5
                  have hroom28 : t233.length ≤ co27 := (Kd.R_reads' HO_6.out).2.1
                  have hC28 : Kd.C (Kd.int .u8) _ Ao27 t233.length t233 := (Kd.R_reads' HO_6.out).2.2
                  have q028 : (0 : Int) ≤ (t232 : Int) := of_decide_eq_true (by first | (with_reducible assumption) | assumption)
                  have hcut28 := cut_from (P := Try.prog) 22 5 .u32 Try.underlying22 hi028 1 hsz28 Ao27 t233.length co27 t232 q028 q28
                  have hr28 := Kd.C_drop (m := (t232 : Int).toNat) (c := co27) hC28 (by omega) hroom28
                  obtain ⟨A28, hA28⟩ : ∃ A1, A1 = (if co27 = (t232 : Int).toNat then Ao27 else (Ao27 : Option Addr).map (·.add ((t232 : Int).toNat * 1))) := ⟨_, rfl⟩
                  obtain ⟨c28, hc28⟩ : ∃ c1, c1 = co27 - (t232 : Int).toNat := ⟨_, rfl⟩
                  have hy28 : y241.length = t233.length - (t232 : Int).toNat := (by rw [Ny241.out, List.length_drop] <;> omega)
                  rw [show (t233).drop (t232 : Int).toNat = y241 from Ny241.out.symm] at hr28
                  replace hr28 : Kd.C (Kd.int .u8) _ A28 y241.length y241 := (by rw [hA28]; exact hr28)
                  rw [← hy28, ← hA28, ← hc28] at hcut28
                  have HR244 := Aside0.mk hr28
                  have HC244 := Aside0.mk (show y241.length ≤ c28 from by rw [hy28, hc28]; exact Nat.sub_le_sub_right hroom28 _)
                  clear hr28 hC28 hroom28 hi028 hsz28 hc28
                  have KY28 := Aside0.mk hy28
                  have KA28 := Aside0.mk hA28
                  clear hy28 hA28
                  have KL28 := Aside0.mk (show (t232 : Int).toNat ≤ t233.length from by omega)
                  replace q28 := eq_true q28
                  go_wp2_with (first | ((with_reducible refine gate_callee (f := 30) rfl ?_); refine goesL_ (some 40) rfl rfl Try.func30 (by kernel_rfl) rfl #[.slice A28 y241.length c28] rfl (by (try simp only [List.map_toArray, List.map_cons, List.map_nil]); first | done | rfl | (simp only [List.length_drop, List.length_take]; rfl)) ?_; (with_reducible refine (ratlineref02_TakeFour.calls kj2 _ _ y241 t245 t246 t247 _ ?side1 ?side2 A13.out).mono ?_); (case side1 => repeat (first | exact (by repeat (first | (with_reducible exact HR244.out) | (with_reducible refine Kd.C_alloc ?_ _) | (with_reducible refine Kd.C_drewN ?_ _) | (with_reducible refine Kd.C_drew ?_) | exact HR244.out)) | (with_reducible refine Kd.C_alloc ?_ _) | (with_reducible refine Kd.C_drewN ?_ _) | (with_reducible refine Kd.C_drew ?_))); (case side2 => exact HC244.out); rintro e w29 ⟨v248, rfl, ho0, hb⟩; refine ⟨_, rfl, ?_⟩; have n0_ := Aside0.mk (Kd.R_elder' (by (with_reducible repeat (first | apply Kd.R_alloc | apply Kd.R_drewN | apply Kd.R_drew)); exact HO_6.out) (Kd.R_base ho0) hb); have n1_ := Aside0.mk (Kd.R_lower (Kd.R_new' ho0 (Kd.R_lt (by (with_reducible repeat (first | apply Kd.R_alloc | apply Kd.R_drewN | apply Kd.R_drew)); exact HO_6.out))) (below_size (by repeat (first | (with_reducible first | exact HB.out | apply below_alloc | apply pw_below_drewN | apply below_drew1) | exact HB.out)))); have n2_ := Aside0.mk (Kd.C_below (by repeat (first | (with_reducible exact HR244.out) | (with_reducible refine Kd.C_alloc ?_ _) | (with_reducible refine Kd.C_drewN ?_ _) | (with_reducible refine Kd.C_drew ?_) | exact HR244.out)) hb); have n3_ := Aside0.mk (below_step (by repeat (first | (with_reducible first | exact HB.out | apply below_alloc | apply pw_below_drewN | apply below_drew1) | exact HB.out)) hb); clear HO_6; clear HR244; clear HB; have HO_6 := n0_; have HO249 := n1_; have HR244 := n2_; have HB := n3_; clear n0_ n1_ n2_ n3_; (try clear hb); (try clear hb2); (try clear hk); (try clear hi); (try clear ho0); obtain ⟨i030, hi030, _, hsz30, _⟩ := info_parts info5; obtain ⟨hcut30, hA30, hC30⟩ := print_take_of (P := Try.prog) (Value.int .u8) 0 22 5 .i64 Try.underlying22 hi030 hsz30 A0 c0 l0 (ji14) (of_decide_eq_true (by first | (with_reducible assumption) | assumption)) (of_decide_eq_true (by first | (with_reducible assumption) | assumption)) HC0.out; have HR250 := Aside0.mk (Kd.C_of_reads (h1 := fun _ => rfl) (hA30 _ (Kd.reads_of_C HR0.out))); have HC250 := Aside0.mk hC30; clear hA30 hC30 hi030 hsz30) | ((with_reducible refine gate_callee (f := 17) rfl ?_); refine goesL_ (some 50) rfl rfl Try.func17 (by kernel_rfl) rfl #[.slice A0 (l0.take ((ji14) : Int).toNat).length c0] rfl (by (try simp only [List.map_toArray, List.map_cons, List.map_nil]); first | done | (rw [show (l0.take ((ji14) : Int).toNat).length = (ji14).toNat from (by rw [List.length_take]; have h_ : ((ji14) : Int) ≤ (l0.length : Int) := of_decide_eq_true (by first | (with_reducible assumption) | assumption); omega)] <;> rfl) | (simp only [hji14]; rfl) | rfl | (simp only [List.length_drop, List.length_take]; rfl)) ?_; (with_reducible refine (ratlineref05_Sum.calls kj2 _ _ (l0.take ((ji14) : Int).toNat) t251 _ ?side1 ?side2 A17.out).mono ?_); (case side1 => repeat (first | exact (Kd.C_below HR250.out HB.out) | (with_reducible refine Kd.C_alloc ?_ _) | (with_reducible refine Kd.C_drewN ?_ _) | (with_reducible refine Kd.C_drew ?_))); (case side2 => exact HC250.out); rintro e w' ⟨rfl, ⟨nd, rfl⟩⟩; refine ⟨_, rfl, ?_⟩))
                  go_ret3
                  exact ⟨_, _, by first | rfl | (simp [errW_none, errW_some] <;> rfl) | (simp only [← hji14]; first | rfl | (simp [errW_none, errW_some] <;> rfl)) | (simp [*, errW_none, errW_some] <;> rfl), by first | exact Kd.R_nil _ _ _ _ _ | exact Kd.N_nil _ _ _ _ _ | exact Kd.V_nil _ _ _ _ _ | exact Kd.Q_nil _ _ _ _ _ | exact Kd.S_nil _ _ _ _ _, by first | exact Kd.R_nil _ _ _ _ _ | exact Kd.N_nil _ _ _ _ _ | exact Kd.V_nil _ _ _ _ _ | exact Kd.Q_nil _ _ _ _ _ | exact Kd.S_nil _ _ _ _ _, by repeat (first | (with_reducible first | exact HB.out | apply below_alloc | apply pw_below_drewN | apply below_drew1) | exact HB.out)⟩
              · rw [if_neg c16] at H
                exact absurd H (by simp)
            · rw [if_neg c15] at H
              exact absurd H (by simp)
          · rw [if_neg c10] at H
            exact absurd H (by simp)
        · rw [if_neg c9] at H
          exact absurd H (by simp)

end Go.Proofs.Ytdppjknfhggpbaa.P
