/- Proved here: functions of the program return what the Lean functions beside them say, or a law of the program holds. Conditions: those of each theorem. Written for this claim by a program: the printer of the kit, with some contracts given. -/
import Derived.Test.YtojemmipkpckbaaPx0
import Derived.Test.YtojemmipkpckbaaPx14
import Derived.Test.YtojemmipkpckbaaPx16
import Derived.Test.YtojemmipkpckbaaPx20
namespace Go.Proofs.Ytojemmipkpckbaa.P
open Go.RowKit Go.Proofs.YtojemmipkpckbaaG Go.Proofs.YtojemmipkpckbaaW.PrintWords Go.Proofs.YtojemmipkpckbaaW.PrintLast Go.Proofs.YtojemmipkpckbaaW.PrintMore
attribute [local go_sem] str_gtr str_geq str_leq max2_int min2_int max_two min_two max_three min_three max_four min_four   -- for this text's walks alone
set_option linter.unusedVariables false
set_option linter.unusedSimpArgs false

/-! ### ratlinelaw03_IkeyRising: function 13 -/
mutual
def ratlinelaw03_IkeyRising.j0 : Nat → List (S41) → Int → Bool → Option (Bool)
  | 0, _, _, _ => none
  | k + 1, x0, x1, x23 => if x23 = true then (none) else (if (x0.length : Int) = 0 then ((ratlinelaw03_awake.f k).bind fun t521 => (some t521)) else ((some (([] : List (S41)) : List (S41))).bind fun y522 => (if 0 ≤ (wrap64 ((Int.tmod (wrap64 (x1)) (x0.length : Int)) + 1)) then (if (wrap64 ((Int.tmod (wrap64 (x1)) (x0.length : Int)) + 1)) ≤ (x0.length : Int) then ((some (x0.take ((wrap64 ((Int.tmod (wrap64 (x1)) (x0.length : Int)) + 1)) : Int).toNat : List (S41))).bind fun y525 => (if y522.length + y525.length < 2932031007402 then ((some (y522 ++ y525 : List (S41))).bind fun y529 => (if 0 ≤ (Int.tmod (wrap64 (x1)) (x0.length : Int)) then (if (Int.tmod (wrap64 (x1)) (x0.length : Int)) < (x0.length : Int) then ((some (([(⟨(⟨(rd_T41 x0 (Int.tmod (wrap64 (x1)) (x0.length : Int))).f0.f0, (rd_T41 x0 (Int.tmod (wrap64 (x1)) (x0.length : Int))).f0.f1, (rd_T41 x0 (Int.tmod (wrap64 (x1)) (x0.length : Int))).f0.f2⟩ : S39), (rd_T41 x0 (Int.tmod (wrap64 (x1)) (x0.length : Int))).f1⟩ : S41)] : List (S41)) : List (S41))).bind fun y533 => (if y529.length + y533.length < 2932031007402 then ((some (y529 ++ y533 : List (S41))).bind fun y536 => ((some (x0.drop ((wrap64 ((Int.tmod (wrap64 (x1)) (x0.length : Int)) + 1)) : Int).toNat : List (S41))).bind fun y539 => (if y536.length + y539.length < 2932031007402 then ((ikey_Rising.f k (y536 ++ y539)).bind fun t546 => (if t546 = true then (ratlinelaw03_IkeyRising.j1 k x0 true) else ((ikey_Rising.f k x0).bind fun t547 => ((ikey_Rising.f k (x0.take ((wrap64 ((Int.tmod (wrap64 (x1)) (x0.length : Int)) + 1)) : Int).toNat)).bind fun t552 => (if t552 = true then (if (Int.tmod (wrap64 (x1)) (x0.length : Int)) ≤ (x0.length : Int) then ((ikey_Rising.f k (x0.drop ((Int.tmod (wrap64 (x1)) (x0.length : Int)) : Int).toNat)).bind fun t557 => (ratlinelaw03_IkeyRising.j1 k x0 (t547 != t557))) else (none)) else (ratlinelaw03_IkeyRising.j1 k x0 (t547 != false))))))) else (none)))) else (none))) else (none)) else (none))) else (none))) else (none)) else (none))))
def ratlinelaw03_IkeyRising.j1 : Nat → List (S41) → Bool → Option (Bool)
  | 0, _, _ => none
  | k + 1, x0, x67 => if x67 = true then (none) else (ratlinelaw03_IkeyRising.l0 k x0 ([] : List (S41)) (x0.length : Int) 0)
def ratlinelaw03_IkeyRising.l0 : Nat → List (S41) → List (S41) → Int → Int → Option (Bool)
  | 0, _, _, _, _ => none
  | k + 1, x0, x7, x69, x70 => if x70 < x69 then (if 0 ≤ (wrap64 ((wrap64 ((x0.length : Int) - 1)) - x70)) then (if (wrap64 ((wrap64 ((x0.length : Int) - 1)) - x70)) < (x0.length : Int) then ((some (([(⟨(⟨(rd_T41 x0 (wrap64 ((wrap64 ((x0.length : Int) - 1)) - x70))).f0.f0, (rd_T41 x0 (wrap64 ((wrap64 ((x0.length : Int) - 1)) - x70))).f0.f1, (rd_T41 x0 (wrap64 ((wrap64 ((x0.length : Int) - 1)) - x70))).f0.f2⟩ : S39), (rd_T41 x0 (wrap64 ((wrap64 ((x0.length : Int) - 1)) - x70))).f1⟩ : S41)] : List (S41)) : List (S41))).bind fun y559 => (if x7.length + y559.length < 2932031007402 then (ratlinelaw03_IkeyRising.l0 k x0 (x7 ++ y559) x69 (wrap64 (x70 + 1))) else (none))) else (none)) else (none)) else (if (x0.length : Int) < 2 then ((ratlinelaw03_awake.f k).bind fun t565 => (some t565)) else ((ikey_Rising.f k x0).bind fun t566 => (if t566 = true then ((ikey_Rising.f k x7).bind fun t567 => (if t567 = true then (none) else ((ratlinelaw03_awake.f k).bind fun t568 => (some t568)))) else ((ratlinelaw03_awake.f k).bind fun t569 => (some t569)))))
end
def ratlinelaw03_IkeyRising.f (k : Nat) (l0 : List (S41)) (a1 : Int) : Option (Bool) := (ratlinelaw03_Few.f k l0 60).bind fun t513 => (if t513 = true then ((ikey_Rising.f k ([] : List (S41))).bind fun t515 => (if t515 = true then (if 0 ≤ (mn (l0.length : Int) 1) then (if (mn (l0.length : Int) 1) ≤ (l0.length : Int) then ((ikey_Rising.f k (l0.take ((mn (l0.length : Int) 1) : Int).toNat)).bind fun t520 => (ratlinelaw03_IkeyRising.j0 k l0 a1 (!t520))) else (none)) else (none)) else (ratlinelaw03_IkeyRising.j0 k l0 a1 true))) else ((ratlinelaw03_awake.f k).bind fun t514 => (some t514)))
theorem ratlinelaw03_IkeyRising.mono_l : ∀ k, (∀ y0 y1 y2, LeO (ratlinelaw03_IkeyRising.j0 k y0 y1 y2) (ratlinelaw03_IkeyRising.j0 (k + 1) y0 y1 y2)) ∧ (∀ y0 y1, LeO (ratlinelaw03_IkeyRising.j1 k y0 y1) (ratlinelaw03_IkeyRising.j1 (k + 1) y0 y1)) ∧ (∀ y0 y1 y2 y3, LeO (ratlinelaw03_IkeyRising.l0 k y0 y1 y2 y3) (ratlinelaw03_IkeyRising.l0 (k + 1) y0 y1 y2 y3))
  | 0 => ⟨fun _ _ _ r h => by simp [ratlinelaw03_IkeyRising.j0] at h, fun _ _ r h => by simp [ratlinelaw03_IkeyRising.j1] at h, fun _ _ _ _ r h => by simp [ratlinelaw03_IkeyRising.l0] at h⟩
  | k + 1 => by
    obtain ⟨ih0, ih1, ih2⟩ := ratlinelaw03_IkeyRising.mono_l k
    refine ⟨?_, ?_, ?_⟩
    · intro y0 y1 y2
      unfold ratlinelaw03_IkeyRising.j0
      repeat' first
      | (with_reducible exact ih0 _ _ _)
      | (with_reducible exact ih1 _ _)
      | (with_reducible exact ih2 _ _ _ _)
      | (with_reducible exact ikey_Rising.mono _ _)
      | (with_reducible exact ratlinelaw03_Few.mono _ _ _)
      | (with_reducible exact ratlinelaw03_awake.mono _)
      | (with_reducible exact LeO.refl _)
      | (with_reducible exact LeO.none _)
      | (with_reducible refine LeO.ite ?_ ?_)
      | (with_reducible refine LeO.bind ?_ (fun _ => ?_))
      | exact ih0 _ _ _
      | exact ih1 _ _
      | exact ih2 _ _ _ _
      | exact ikey_Rising.mono _ _
      | exact ratlinelaw03_Few.mono _ _ _
      | exact ratlinelaw03_awake.mono _
      | exact LeO.none _
      | refine LeO.ite ?_ ?_
      | refine LeO.bind ?_ (fun _ => ?_)
    · intro y0 y1
      unfold ratlinelaw03_IkeyRising.j1
      repeat' first
      | (with_reducible exact ih0 _ _ _)
      | (with_reducible exact ih1 _ _)
      | (with_reducible exact ih2 _ _ _ _)
      | (with_reducible exact ikey_Rising.mono _ _)
      | (with_reducible exact ratlinelaw03_Few.mono _ _ _)
      | (with_reducible exact ratlinelaw03_awake.mono _)
      | (with_reducible exact LeO.refl _)
      | (with_reducible exact LeO.none _)
      | (with_reducible refine LeO.ite ?_ ?_)
      | (with_reducible refine LeO.bind ?_ (fun _ => ?_))
      | exact ih0 _ _ _
      | exact ih1 _ _
      | exact ih2 _ _ _ _
      | exact ikey_Rising.mono _ _
      | exact ratlinelaw03_Few.mono _ _ _
      | exact ratlinelaw03_awake.mono _
      | exact LeO.none _
      | refine LeO.ite ?_ ?_
      | refine LeO.bind ?_ (fun _ => ?_)
    · intro y0 y1 y2 y3
      unfold ratlinelaw03_IkeyRising.l0
      repeat' first
      | (with_reducible exact ih0 _ _ _)
      | (with_reducible exact ih1 _ _)
      | (with_reducible exact ih2 _ _ _ _)
      | (with_reducible exact ikey_Rising.mono _ _)
      | (with_reducible exact ratlinelaw03_Few.mono _ _ _)
      | (with_reducible exact ratlinelaw03_awake.mono _)
      | (with_reducible exact LeO.refl _)
      | (with_reducible exact LeO.none _)
      | (with_reducible refine LeO.ite ?_ ?_)
      | (with_reducible refine LeO.bind ?_ (fun _ => ?_))
      | exact ih0 _ _ _
      | exact ih1 _ _
      | exact ih2 _ _ _ _
      | exact ikey_Rising.mono _ _
      | exact ratlinelaw03_Few.mono _ _ _
      | exact ratlinelaw03_awake.mono _
      | exact LeO.none _
      | refine LeO.ite ?_ ?_
      | refine LeO.bind ?_ (fun _ => ?_)
theorem ratlinelaw03_IkeyRising.mono : ∀ a0 a1 k, LeO (ratlinelaw03_IkeyRising.f k a0 a1) (ratlinelaw03_IkeyRising.f (k + 1) a0 a1) := by
  intro a0 a1 k
  obtain ⟨ih0, ih1, ih2⟩ := ratlinelaw03_IkeyRising.mono_l k
  unfold ratlinelaw03_IkeyRising.f
  repeat' first
      | (with_reducible exact ih0 _ _ _)
      | (with_reducible exact ih1 _ _)
      | (with_reducible exact ih2 _ _ _ _)
      | (with_reducible exact ikey_Rising.mono _ _)
      | (with_reducible exact ratlinelaw03_Few.mono _ _ _)
      | (with_reducible exact ratlinelaw03_awake.mono _)
      | (with_reducible exact LeO.refl _)
      | (with_reducible exact LeO.none _)
      | (with_reducible refine LeO.ite ?_ ?_)
      | (with_reducible refine LeO.bind ?_ (fun _ => ?_))
      | exact ih0 _ _ _
      | exact ih1 _ _
      | exact ih2 _ _ _ _
      | exact ikey_Rising.mono _ _
      | exact ratlinelaw03_Few.mono _ _ _
      | exact ratlinelaw03_awake.mono _
      | exact LeO.none _
      | refine LeO.ite ?_ ?_
      | refine LeO.bind ?_ (fun _ => ?_)
def ratlinelaw03_IkeyRising.T8 : Bool × List (List Nat × List Nat) := (true, [([], []), ([], []), ([], []), ([2], [2]), ([1, 3], [1, 3]), ([0, 4], [0, 4]), ([], []), ([], []), ([6, 7], [6, 7]), ([8], [8]), ([9], [9]), ([5, 10, 5], [5, 10]), ([], []), ([], []), ([13], [13]), ([12, 14], [12, 14]), ([11, 15, 11], [11, 15]), ([16, 16, 0, 1, 2, 3, 4, 5, 6, 7, 8, 9, 10, 11, 12, 13, 14, 15, 16], [16])])
def ratlinelaw03_IkeyRising.B8 : List Nat := [0, 0, 0, 4, 14, 31, 0, 0, 192, 448, 960, 2047, 0, 0, 8192, 28672, 65535, 131071]
theorem ratlinelaw03_IkeyRising.tab8 : rtab .any (opsOf Try.f13 8) = ratlinelaw03_IkeyRising.T8 := by kernel_rfl
theorem ratlinelaw03_IkeyRising.bits8 : waitsOk ratlinelaw03_IkeyRising.T8.2 ratlinelaw03_IkeyRising.B8 = true := by kernel_rfl
def ratlinelaw03_IkeyRising.T9 : Bool × List (List Nat × List Nat) := (true, [([], []), ([0], [0]), ([1, 1], [1]), ([2], [2]), ([3, 2, 2], [2, 3]), ([2], [2]), ([2], [2]), ([6, 2], [2, 6]), ([5, 7, 2], [2, 5, 7]), ([8, 4, 2], [2, 8]), ([9, 9, 2], [2, 9]), ([10], [10]), ([10], [10]), ([11, 12, 10], [10, 11, 12]), ([13, 10, 10], [10, 13]), ([10, 14, 2], [2, 10, 14]), ([4, 15, 2], [2, 4, 15]), ([2, 16], [2, 16])])
def ratlinelaw03_IkeyRising.B9 : List Nat := [0, 1, 3, 7, 15, 7, 7, 71, 231, 511, 1023, 2047, 2047, 8191, 16383, 32767, 65535, 131071]
theorem ratlinelaw03_IkeyRising.tab9 : rtab .any (opsOf Try.f13 9) = ratlinelaw03_IkeyRising.T9 := by kernel_rfl
theorem ratlinelaw03_IkeyRising.bits9 : waitsOk ratlinelaw03_IkeyRising.T9.2 ratlinelaw03_IkeyRising.B9 = true := by kernel_rfl
set_option maxHeartbeats 8000000 in
set_option maxRecDepth 100000 in
theorem ratlinelaw03_IkeyRising.calls (k : Nat) (A0 : Option Addr) (c0 : Nat) (l0 : List (S41)) (a1 : Int) (r : Bool) (w : World) (hr0 : Kd.C k41 w A0 l0.length l0) (hc0 : l0.length ≤ c0) (h : ratlinelaw03_IkeyRising.f k l0 a1 = some r) :
    Calls Try.prog 13 #[.slice A0 l0.length c0, .int .u8 a1] w fun e w' => e = .returned (.bool r) ∧ Below w.heap.size w w' := by
  have hu41 := Try.underlying41
  have HR0 := Aside0.mk hr0
  have HC0 := Aside0.mk hc0
  clear hr0 hc0
  have HB := Aside0.mk (Below.refl w.heap.size w)
  have H : ((ratlinelaw03_Few.f k l0 60).bind fun t513 => (if t513 = true then ((ikey_Rising.f k ([] : List (S41))).bind fun t515 => (if t515 = true then (if 0 ≤ (mn (l0.length : Int) 1) then (if (mn (l0.length : Int) 1) ≤ (l0.length : Int) then ((ikey_Rising.f k (l0.take ((mn (l0.length : Int) 1) : Int).toNat)).bind fun t520 => (ratlinelaw03_IkeyRising.j0 k l0 a1 (!t520))) else (none)) else (none)) else (ratlinelaw03_IkeyRising.j0 k l0 a1 true))) else ((ratlinelaw03_awake.f k).bind fun t514 => (some t514)))) = some r := h
  clear h
  replace H := Option.bind_eq_some_iff.mp H
  obtain ⟨t513, A30, H⟩ := H
  replace H : (if t513 = true then ((ikey_Rising.f k ([] : List (S41))).bind fun t515 => (if t515 = true then (if 0 ≤ (mn (l0.length : Int) 1) then (if (mn (l0.length : Int) 1) ≤ (l0.length : Int) then ((ikey_Rising.f k (l0.take ((mn (l0.length : Int) 1) : Int).toNat)).bind fun t520 => (ratlinelaw03_IkeyRising.j0 k l0 a1 (!t520))) else (none)) else (none)) else (ratlinelaw03_IkeyRising.j0 k l0 a1 true))) else ((ratlinelaw03_awake.f k).bind fun t514 => (some t514))) = some r := H
  have A3 := Aside0.mk A30
  clear A30
  by_cases c4 : t513 = true
  · subst c4
    have H1 : ((ikey_Rising.f k ([] : List (S41))).bind fun t515 => (if t515 = true then (if 0 ≤ (mn (l0.length : Int) 1) then (if (mn (l0.length : Int) 1) ≤ (l0.length : Int) then ((ikey_Rising.f k (l0.take ((mn (l0.length : Int) 1) : Int).toNat)).bind fun t520 => (ratlinelaw03_IkeyRising.j0 k l0 a1 (!t520))) else (none)) else (none)) else (ratlinelaw03_IkeyRising.j0 k l0 a1 true))) = some r := by rw [if_pos rfl] at H; exact H
    clear H
    have H := H1
    clear H1
    have HC5 := Aside0.mk H
    clear H
    go_enter Try.func13, Try.ntmps13
    go_upto_region 3 with (first | ((with_reducible refine gate_callee (f := 25) rfl ?_); refine goesL_ (some 10) rfl rfl Try.func25 (by kernel_rfl) rfl #[.slice A0 l0.length c0, .int .i64 60] rfl (by (try simp only [List.map_toArray, List.map_cons, List.map_nil]); first | done | rfl | (simp only [List.length_drop, List.length_take]; rfl)) ?_; (with_reducible refine (ratlinelaw03_Few.calls k _ _ l0 60 true _ ?side1 ?side2 A3.out).mono ?_); (case side1 => repeat (first | exact HR0.out | (with_reducible refine Kd.C_alloc ?_ _) | (with_reducible refine Kd.C_drewN ?_ _) | (with_reducible refine Kd.C_drew ?_))); (case side2 => exact HC0.out); rintro e w6 ⟨rfl, hb⟩; refine ⟨_, rfl, ?_⟩; have n0_ := Aside0.mk (below_step (by repeat (first | (with_reducible first | exact HB.out | apply below_alloc | apply pw_below_drewN | apply below_drew1) | exact HB.out)) hb); clear HB; have HB := n0_; clear n0_; (try clear hb); (try clear hb2); (try clear hk); (try clear hi)))
    (try simp only [Act.put, List.setIfInBounds_toArray, List.set_cons_zero, List.set_cons_succ])
    go_cut [23] (fun v23 wc => ∃ (kq : Nat) (x23_4 : Bool), v23 = .bool x23_4 ∧ Aside0 (ratlinelaw03_IkeyRising.j0 kq l0 a1 x23_4 = some r) ∧ Aside0 (kq ≤ k) ∧ Aside0 (Below w.heap.size w wc))
    case first =>
      have H := HC5.out
      clear HC5
      replace H := Option.bind_eq_some_iff.mp H
      obtain ⟨t515, A70, H⟩ := H
      replace H : (if t515 = true then (if 0 ≤ (mn (l0.length : Int) 1) then (if (mn (l0.length : Int) 1) ≤ (l0.length : Int) then ((ikey_Rising.f k (l0.take ((mn (l0.length : Int) 1) : Int).toNat)).bind fun t520 => (ratlinelaw03_IkeyRising.j0 k l0 a1 (!t520))) else (none)) else (none)) else (ratlinelaw03_IkeyRising.j0 k l0 a1 true)) = some r := H
      have A7 := Aside0.mk A70
      clear A70
      by_cases c8 : t515 = true
      · subst c8
        have H1 : (if 0 ≤ (mn (l0.length : Int) 1) then (if (mn (l0.length : Int) 1) ≤ (l0.length : Int) then ((ikey_Rising.f k (l0.take ((mn (l0.length : Int) 1) : Int).toNat)).bind fun t520 => (ratlinelaw03_IkeyRising.j0 k l0 a1 (!t520))) else (none)) else (none)) = some r := by rw [if_pos rfl] at H; exact H
        clear H
        have H := H1
        clear H1
        obtain ⟨ji9, hji9⟩ : ∃ j_ : Int, (mn (l0.length : Int) 1) = j_ := ⟨_, rfl⟩
        replace H : (if 0 ≤ (ji9) then (if (ji9) ≤ (l0.length : Int) then ((ikey_Rising.f k (l0.take ((ji9) : Int).toNat)).bind fun t520 => (ratlinelaw03_IkeyRising.j0 k l0 a1 (!t520))) else (none)) else (none)) = some r := by first | (rw [hji9] at H; exact H) | (simp only [hji9] at H ⊢; exact H)
        (try rw [hji9] at A7)
        (try (have hji9h : ji9 ≤ 1 := by (rw [← hji9]; unfold mn; (repeat' split) <;> omega)))
        (try (have hji9g : ji9 ≤ 64 := by omega))
        (try (have hji9l : 0 ≤ ji9 := by (rw [← hji9]; unfold mn; (repeat' split) <;> omega)))
        (try (have hji9m : 0 ≤ ji9 := by omega))
        have hji9_ : (if 1 < (l0.length : Int) then 1 else (l0.length : Int)) = ji9 := hji9
        by_cases c10 : 0 ≤ (ji9)
        · rw [if_pos c10] at H
          have c10b0 := eq_true c10
          have c10b1 : decide (0 ≤ (ji9)) = true := decide_eq_true c10
          clear c10
          by_cases c11 : (ji9) ≤ (l0.length : Int)
          · rw [if_pos c11] at H
            have c11b0 := eq_true c11
            have c11b1 : decide ((ji9) ≤ (l0.length : Int)) = true := decide_eq_true c11
            clear c11
            obtain ⟨y516, hy516⟩ : ∃ y_ : List (S41), y_ = (l0.take ((ji9) : Int).toNat) := ⟨_, rfl⟩
            replace H : ((ikey_Rising.f k y516).bind fun t520 => (ratlinelaw03_IkeyRising.j0 k l0 a1 (!t520))) = some r := by first | (rw [hy516]; with_reducible exact H) | (have H2_ := (Option.bind_some _ _).symm.trans H; rw [hy516]; with_reducible exact H2_) | (have H2_ := (Option.bind_some _ _).symm.trans H; with_reducible exact H2_) | with_reducible exact H | (rw [hy516]; exact H) | exact H
            have Ny516 := Aside0.mk hy516
            clear hy516
            replace H := Option.bind_eq_some_iff.mp H
            obtain ⟨t520, A120, H⟩ := H
            replace H : (ratlinelaw03_IkeyRising.j0 k l0 a1 (!t520)) = some r := H
            have A12 := Aside0.mk A120
            clear A120
            have H' := Aside0.mk H
            clear H
            go_wp2_with (first | (go_at_call 24; (refine calls_of_args (args' := #[.slice none (([] : List (S41))).length 0]) (by rfl) ?_; with_reducible refine (ikey_Rising.calls k _ _ ([] : List (S41)) true _ ?side1 ?side2 A7.out).mono ?_); (case side1 => exact Kd.C_nil _ _); (case side2 => exact Nat.le_refl _); rintro e w13 ⟨rfl, hb⟩; have n0_ := Aside0.mk (below_step (by repeat (first | (with_reducible first | exact HB.out | apply below_alloc | apply pw_below_drewN | apply below_drew1) | exact HB.out)) hb); clear HB; have HB := n0_; clear n0_; (try clear hb); (try clear hb2); (try clear hk); (try clear hi); (try apply_assumption); have q14 : ((ji9) : Int) ≤ ((l0.length : Int) : Int) := of_decide_eq_true (by first | (with_reducible assumption) | assumption); obtain ⟨i014, hi014, _, hsz14, _⟩ := info_parts info41; have hroom14 : l0.length ≤ c0 := HC0.out; have hC14 : Kd.C k41 _ A0 l0.length l0 := HR0.out; have hcut14 := cut_to (P := Try.prog) 29 41 .i64 Try.underlying29 hi014 A0 l0.length c0 (ji9) (of_decide_eq_true (by first | (with_reducible assumption) | assumption)) q14 hroom14; have hr14 := Kd.C_take (m := ((ji9) : Int).toNat) hC14 (by omega); have hy14 : y516.length = ((ji9) : Int).toNat := (by rw [Ny516.out, List.length_take]; omega); rw [← Ny516.out] at hr14; rw [← hy14] at hcut14; have HR519 := Aside0.mk hr14; have HC519 := Aside0.mk (show y516.length ≤ c0 from by omega); clear hr14 hC14 hroom14 hi014 hsz14; have KY14 := Aside0.mk hy14; clear hy14; replace q14 := eq_true q14) | (go_at_call 24; (with_reducible refine (ikey_Rising.calls k _ _ y516 t520 _ ?side1 ?side2 A12.out).mono ?_); (case side1 => repeat (first | exact (Kd.C_below HR519.out HB.out) | (with_reducible refine Kd.C_alloc ?_ _) | (with_reducible refine Kd.C_drewN ?_ _) | (with_reducible refine Kd.C_drew ?_))); (case side2 => exact HC519.out); rintro e w15 ⟨rfl, hb⟩; have n0_ := Aside0.mk (below_step (by repeat (first | (with_reducible first | exact HB.out | apply below_alloc | apply pw_below_drewN | apply below_drew1) | exact HB.out)) hb); clear HB; have HB := n0_; clear n0_; (try clear hb); (try clear hb2); (try clear hk); (try clear hi)))
            go_meet
            case rel => exact ⟨_, (!t520), (by first | rfl | (simp; done) | (simp [*]; done)), H', ⟨by first | omega | exact Nat.le_refl _⟩, ⟨by repeat (first | (with_reducible first | exact HB.out | apply below_alloc | apply pw_below_drewN | apply below_drew1) | exact HB.out)⟩⟩
          · rw [if_neg c11] at H
            exact absurd H (by simp)
        · rw [if_neg c10] at H
          exact absurd H (by simp)
      · replace c8 := Bool.eq_false_iff.mpr c8
        subst c8
        have H1 : (ratlinelaw03_IkeyRising.j0 k l0 a1 true) = some r := by rw [if_neg (show ¬ (false = true) by decide)] at H; exact H
        clear H
        have H := H1
        clear H1
        have H' := Aside0.mk H
        clear H
        go_wp2_with (first | (go_at_call 24; (refine calls_of_args (args' := #[.slice none (([] : List (S41))).length 0]) (by rfl) ?_; with_reducible refine (ikey_Rising.calls k _ _ ([] : List (S41)) false _ ?side1 ?side2 A7.out).mono ?_); (case side1 => exact Kd.C_nil _ _); (case side2 => exact Nat.le_refl _); rintro e w16 ⟨rfl, hb⟩; have n0_ := Aside0.mk (below_step (by repeat (first | (with_reducible first | exact HB.out | apply below_alloc | apply pw_below_drewN | apply below_drew1) | exact HB.out)) hb); clear HB; have HB := n0_; clear n0_; (try clear hb); (try clear hb2); (try clear hk); (try clear hi); (try apply_assumption)))
        go_meet
        case rel => exact ⟨_, (true), (by first | rfl | (simp; done) | (simp [*]; done)), H', ⟨by first | omega | exact Nat.le_refl _⟩, ⟨by repeat (first | (with_reducible first | exact HB.out | apply below_alloc | apply pw_below_drewN | apply below_drew1) | exact HB.out)⟩⟩
    case rest =>
      clear HC5
      try clear c1
      try clear q1
      try clear c2
      try clear p2
      try clear c4
      try clear c8
      try clear c10
      try clear c10b0
      try clear c10b1
      try clear c11
      try clear c11b0
      try clear c11b1
      try clear c13
      try clear q14
      try clear q14
      obtain ⟨kq, x23_4, rfl, HA, HJ4, HB⟩ := hcut
      cases kq with
      | zero => exact absurd HA.out (by simp [ratlinelaw03_IkeyRising.j0])
      | succ kj4 =>
        have H := HA.out
        clear HA
        simp only [ratlinelaw03_IkeyRising.j0] at H
        by_cases c17 : x23_4 = true
        · subst c17
          have H1 : (none) = some r := by rw [if_pos rfl] at H; exact H
          clear H
          have H := H1
          clear H1
          exact absurd H (by simp)
        · replace c17 := Bool.eq_false_iff.mpr c17
          subst c17
          have H1 : (if (l0.length : Int) = 0 then ((ratlinelaw03_awake.f kj4).bind fun t521 => (some t521)) else ((some (([] : List (S41)) : List (S41))).bind fun y522 => (if 0 ≤ (wrap64 ((Int.tmod (wrap64 (a1)) (l0.length : Int)) + 1)) then (if (wrap64 ((Int.tmod (wrap64 (a1)) (l0.length : Int)) + 1)) ≤ (l0.length : Int) then ((some (l0.take ((wrap64 ((Int.tmod (wrap64 (a1)) (l0.length : Int)) + 1)) : Int).toNat : List (S41))).bind fun y525 => (if y522.length + y525.length < 2932031007402 then ((some (y522 ++ y525 : List (S41))).bind fun y529 => (if 0 ≤ (Int.tmod (wrap64 (a1)) (l0.length : Int)) then (if (Int.tmod (wrap64 (a1)) (l0.length : Int)) < (l0.length : Int) then ((some (([(⟨(⟨(rd_T41 l0 (Int.tmod (wrap64 (a1)) (l0.length : Int))).f0.f0, (rd_T41 l0 (Int.tmod (wrap64 (a1)) (l0.length : Int))).f0.f1, (rd_T41 l0 (Int.tmod (wrap64 (a1)) (l0.length : Int))).f0.f2⟩ : S39), (rd_T41 l0 (Int.tmod (wrap64 (a1)) (l0.length : Int))).f1⟩ : S41)] : List (S41)) : List (S41))).bind fun y533 => (if y529.length + y533.length < 2932031007402 then ((some (y529 ++ y533 : List (S41))).bind fun y536 => ((some (l0.drop ((wrap64 ((Int.tmod (wrap64 (a1)) (l0.length : Int)) + 1)) : Int).toNat : List (S41))).bind fun y539 => (if y536.length + y539.length < 2932031007402 then ((ikey_Rising.f kj4 (y536 ++ y539)).bind fun t546 => (if t546 = true then (ratlinelaw03_IkeyRising.j1 kj4 l0 true) else ((ikey_Rising.f kj4 l0).bind fun t547 => ((ikey_Rising.f kj4 (l0.take ((wrap64 ((Int.tmod (wrap64 (a1)) (l0.length : Int)) + 1)) : Int).toNat)).bind fun t552 => (if t552 = true then (if (Int.tmod (wrap64 (a1)) (l0.length : Int)) ≤ (l0.length : Int) then ((ikey_Rising.f kj4 (l0.drop ((Int.tmod (wrap64 (a1)) (l0.length : Int)) : Int).toNat)).bind fun t557 => (ratlinelaw03_IkeyRising.j1 kj4 l0 (t547 != t557))) else (none)) else (ratlinelaw03_IkeyRising.j1 kj4 l0 (t547 != false))))))) else (none)))) else (none))) else (none)) else (none))) else (none))) else (none)) else (none)))) = some r := by rw [if_neg (show ¬ (false = true) by decide)] at H; exact H
          clear H
          have H := H1
          clear H1
          by_cases c18 : (l0.length : Int) = 0
          · rw [if_pos c18] at H
            have c18b0 : ((l0.length : Int) == 0) = true := beq_iff_eq.mpr c18
            have c18b1 : ((l0.length : Int) != 0) = false := bne_eq_false_iff_eq.mpr c18
            clear c18
            replace H := Option.bind_eq_some_iff.mp H
            obtain ⟨t521, A190, H⟩ := H
            replace H : (some t521) = some r := H
            have A19 := Aside0.mk A190
            clear A190
            obtain rfl := Option.some.inj H
            go_wp2_with (first | (go_at_call 26; (with_reducible refine (ratlinelaw03_awake.calls kj4  t521 _ A19.out).mono ?_); rintro e w20 ⟨rfl, hb⟩; have n0_ := Aside0.mk (below_step (by repeat (first | (with_reducible first | exact HB.out | apply below_alloc | apply pw_below_drewN | apply below_drew1) | exact HB.out)) hb); clear HB; have HB := n0_; clear n0_; (try clear hb); (try clear hb2); (try clear hk); (try clear hi); (try apply_assumption)))
            go_ret
            exact ⟨by first | rfl | (simp [errW_none, errW_some] <;> rfl) | (simp [*, errW_none, errW_some] <;> rfl), by repeat (first | (with_reducible first | exact HB.out | apply below_alloc | apply pw_below_drewN | apply below_drew1) | exact HB.out)⟩
          · rw [if_neg c18] at H
            have c18b0 : ((l0.length : Int) == 0) = false := beq_eq_false_iff_ne.mpr c18
            have c18b1 : ((l0.length : Int) != 0) = true := bne_iff_ne.mpr c18
            have c18b2 : ¬ (l0 = []) := fun h_ => c18 (by rw [h_]; rfl)
            obtain ⟨y522, hy522⟩ : ∃ y_ : List (S41), y_ = (([] : List (S41))) := ⟨_, rfl⟩
            replace H : (if 0 ≤ (wrap64 ((Int.tmod (wrap64 (a1)) (l0.length : Int)) + 1)) then (if (wrap64 ((Int.tmod (wrap64 (a1)) (l0.length : Int)) + 1)) ≤ (l0.length : Int) then ((some (l0.take ((wrap64 ((Int.tmod (wrap64 (a1)) (l0.length : Int)) + 1)) : Int).toNat : List (S41))).bind fun y525 => (if y522.length + y525.length < 2932031007402 then ((some (y522 ++ y525 : List (S41))).bind fun y529 => (if 0 ≤ (Int.tmod (wrap64 (a1)) (l0.length : Int)) then (if (Int.tmod (wrap64 (a1)) (l0.length : Int)) < (l0.length : Int) then ((some (([(⟨(⟨(rd_T41 l0 (Int.tmod (wrap64 (a1)) (l0.length : Int))).f0.f0, (rd_T41 l0 (Int.tmod (wrap64 (a1)) (l0.length : Int))).f0.f1, (rd_T41 l0 (Int.tmod (wrap64 (a1)) (l0.length : Int))).f0.f2⟩ : S39), (rd_T41 l0 (Int.tmod (wrap64 (a1)) (l0.length : Int))).f1⟩ : S41)] : List (S41)) : List (S41))).bind fun y533 => (if y529.length + y533.length < 2932031007402 then ((some (y529 ++ y533 : List (S41))).bind fun y536 => ((some (l0.drop ((wrap64 ((Int.tmod (wrap64 (a1)) (l0.length : Int)) + 1)) : Int).toNat : List (S41))).bind fun y539 => (if y536.length + y539.length < 2932031007402 then ((ikey_Rising.f kj4 (y536 ++ y539)).bind fun t546 => (if t546 = true then (ratlinelaw03_IkeyRising.j1 kj4 l0 true) else ((ikey_Rising.f kj4 l0).bind fun t547 => ((ikey_Rising.f kj4 (l0.take ((wrap64 ((Int.tmod (wrap64 (a1)) (l0.length : Int)) + 1)) : Int).toNat)).bind fun t552 => (if t552 = true then (if (Int.tmod (wrap64 (a1)) (l0.length : Int)) ≤ (l0.length : Int) then ((ikey_Rising.f kj4 (l0.drop ((Int.tmod (wrap64 (a1)) (l0.length : Int)) : Int).toNat)).bind fun t557 => (ratlinelaw03_IkeyRising.j1 kj4 l0 (t547 != t557))) else (none)) else (ratlinelaw03_IkeyRising.j1 kj4 l0 (t547 != false))))))) else (none)))) else (none))) else (none)) else (none))) else (none))) else (none)) else (none)) = some r := by first | (rw [hy522]; with_reducible exact H) | (have H2_ := (Option.bind_some _ _).symm.trans H; rw [hy522]; with_reducible exact H2_) | (have H2_ := (Option.bind_some _ _).symm.trans H; with_reducible exact H2_) | with_reducible exact H | (rw [hy522]; exact H) | exact H
            have Ny522 := Aside0.mk hy522
            clear hy522
            obtain ⟨ji21, hji21⟩ : ∃ j_ : Int, (wrap64 ((Int.tmod (wrap64 (a1)) (l0.length : Int)) + 1)) = j_ := ⟨_, rfl⟩
            replace H : (if 0 ≤ (ji21) then (if (ji21) ≤ (l0.length : Int) then ((some (l0.take ((ji21) : Int).toNat : List (S41))).bind fun y525 => (if y522.length + y525.length < 2932031007402 then ((some (y522 ++ y525 : List (S41))).bind fun y529 => (if 0 ≤ (Int.tmod (wrap64 (a1)) (l0.length : Int)) then (if (Int.tmod (wrap64 (a1)) (l0.length : Int)) < (l0.length : Int) then ((some (([(⟨(⟨(rd_T41 l0 (Int.tmod (wrap64 (a1)) (l0.length : Int))).f0.f0, (rd_T41 l0 (Int.tmod (wrap64 (a1)) (l0.length : Int))).f0.f1, (rd_T41 l0 (Int.tmod (wrap64 (a1)) (l0.length : Int))).f0.f2⟩ : S39), (rd_T41 l0 (Int.tmod (wrap64 (a1)) (l0.length : Int))).f1⟩ : S41)] : List (S41)) : List (S41))).bind fun y533 => (if y529.length + y533.length < 2932031007402 then ((some (y529 ++ y533 : List (S41))).bind fun y536 => ((some (l0.drop ((ji21) : Int).toNat : List (S41))).bind fun y539 => (if y536.length + y539.length < 2932031007402 then ((ikey_Rising.f kj4 (y536 ++ y539)).bind fun t546 => (if t546 = true then (ratlinelaw03_IkeyRising.j1 kj4 l0 true) else ((ikey_Rising.f kj4 l0).bind fun t547 => ((ikey_Rising.f kj4 (l0.take ((ji21) : Int).toNat)).bind fun t552 => (if t552 = true then (if (Int.tmod (wrap64 (a1)) (l0.length : Int)) ≤ (l0.length : Int) then ((ikey_Rising.f kj4 (l0.drop ((Int.tmod (wrap64 (a1)) (l0.length : Int)) : Int).toNat)).bind fun t557 => (ratlinelaw03_IkeyRising.j1 kj4 l0 (t547 != t557))) else (none)) else (ratlinelaw03_IkeyRising.j1 kj4 l0 (t547 != false))))))) else (none)))) else (none))) else (none)) else (none))) else (none))) else (none)) else (none)) = some r := by first | (rw [hji21] at H; exact H) | (simp only [hji21] at H ⊢; exact H)
            have hji21w : (IntKind.i64.wrap ((Int.tmod (wrap64 (a1)) (l0.length : Int)) + 1)) = ji21 := (i64_w _).trans hji21
            by_cases c22 : 0 ≤ (ji21)
            · rw [if_pos c22] at H
              have c22b0 := eq_true c22
              have c22b1 : decide (0 ≤ (ji21)) = true := decide_eq_true c22
              clear c22
              by_cases c23 : (ji21) ≤ (l0.length : Int)
              · rw [if_pos c23] at H
                have c23b0 := eq_true c23
                have c23b1 : decide ((ji21) ≤ (l0.length : Int)) = true := decide_eq_true c23
                clear c23
                obtain ⟨y525, hy525⟩ : ∃ y_ : List (S41), y_ = (l0.take ((ji21) : Int).toNat) := ⟨_, rfl⟩
                replace H : (if y522.length + y525.length < 2932031007402 then ((some (y522 ++ y525 : List (S41))).bind fun y529 => (if 0 ≤ (Int.tmod (wrap64 (a1)) (l0.length : Int)) then (if (Int.tmod (wrap64 (a1)) (l0.length : Int)) < (l0.length : Int) then ((some (([(⟨(⟨(rd_T41 l0 (Int.tmod (wrap64 (a1)) (l0.length : Int))).f0.f0, (rd_T41 l0 (Int.tmod (wrap64 (a1)) (l0.length : Int))).f0.f1, (rd_T41 l0 (Int.tmod (wrap64 (a1)) (l0.length : Int))).f0.f2⟩ : S39), (rd_T41 l0 (Int.tmod (wrap64 (a1)) (l0.length : Int))).f1⟩ : S41)] : List (S41)) : List (S41))).bind fun y533 => (if y529.length + y533.length < 2932031007402 then ((some (y529 ++ y533 : List (S41))).bind fun y536 => ((some (l0.drop ((ji21) : Int).toNat : List (S41))).bind fun y539 => (if y536.length + y539.length < 2932031007402 then ((ikey_Rising.f kj4 (y536 ++ y539)).bind fun t546 => (if t546 = true then (ratlinelaw03_IkeyRising.j1 kj4 l0 true) else ((ikey_Rising.f kj4 l0).bind fun t547 => ((ikey_Rising.f kj4 (l0.take ((ji21) : Int).toNat)).bind fun t552 => (if t552 = true then (if (Int.tmod (wrap64 (a1)) (l0.length : Int)) ≤ (l0.length : Int) then ((ikey_Rising.f kj4 (l0.drop ((Int.tmod (wrap64 (a1)) (l0.length : Int)) : Int).toNat)).bind fun t557 => (ratlinelaw03_IkeyRising.j1 kj4 l0 (t547 != t557))) else (none)) else (ratlinelaw03_IkeyRising.j1 kj4 l0 (t547 != false))))))) else (none)))) else (none))) else (none)) else (none))) else (none)) = some r := by first | (rw [hy525]; with_reducible exact H) | (have H2_ := (Option.bind_some _ _).symm.trans H; rw [hy525]; with_reducible exact H2_) | (have H2_ := (Option.bind_some _ _).symm.trans H; with_reducible exact H2_) | with_reducible exact H | (rw [hy525]; exact H) | exact H
                have Ny525 := Aside0.mk hy525
                clear hy525
                by_cases c24 : y522.length + y525.length < 2932031007402
                · rw [if_pos c24] at H
                  have LMc24 := Aside0.mk c24
                  clear c24
                  obtain ⟨y529, hy529⟩ : ∃ y_ : List (S41), y_ = (y522 ++ y525) := ⟨_, rfl⟩
                  replace H : (if 0 ≤ (Int.tmod (wrap64 (a1)) (l0.length : Int)) then (if (Int.tmod (wrap64 (a1)) (l0.length : Int)) < (l0.length : Int) then ((some (([(⟨(⟨(rd_T41 l0 (Int.tmod (wrap64 (a1)) (l0.length : Int))).f0.f0, (rd_T41 l0 (Int.tmod (wrap64 (a1)) (l0.length : Int))).f0.f1, (rd_T41 l0 (Int.tmod (wrap64 (a1)) (l0.length : Int))).f0.f2⟩ : S39), (rd_T41 l0 (Int.tmod (wrap64 (a1)) (l0.length : Int))).f1⟩ : S41)] : List (S41)) : List (S41))).bind fun y533 => (if y529.length + y533.length < 2932031007402 then ((some (y529 ++ y533 : List (S41))).bind fun y536 => ((some (l0.drop ((ji21) : Int).toNat : List (S41))).bind fun y539 => (if y536.length + y539.length < 2932031007402 then ((ikey_Rising.f kj4 (y536 ++ y539)).bind fun t546 => (if t546 = true then (ratlinelaw03_IkeyRising.j1 kj4 l0 true) else ((ikey_Rising.f kj4 l0).bind fun t547 => ((ikey_Rising.f kj4 (l0.take ((ji21) : Int).toNat)).bind fun t552 => (if t552 = true then (if (Int.tmod (wrap64 (a1)) (l0.length : Int)) ≤ (l0.length : Int) then ((ikey_Rising.f kj4 (l0.drop ((Int.tmod (wrap64 (a1)) (l0.length : Int)) : Int).toNat)).bind fun t557 => (ratlinelaw03_IkeyRising.j1 kj4 l0 (t547 != t557))) else (none)) else (ratlinelaw03_IkeyRising.j1 kj4 l0 (t547 != false))))))) else (none)))) else (none))) else (none)) else (none)) = some r := by first | (rw [hy529]; with_reducible exact H) | (have H2_ := (Option.bind_some _ _).symm.trans H; rw [hy529]; with_reducible exact H2_) | (have H2_ := (Option.bind_some _ _).symm.trans H; with_reducible exact H2_) | with_reducible exact H | (rw [hy529]; exact H) | exact H
                  have Ny529 := Aside0.mk hy529
                  clear hy529
                  obtain ⟨ji25, hji25⟩ : ∃ j_ : Int, (Int.tmod (wrap64 (a1)) (l0.length : Int)) = j_ := ⟨_, rfl⟩
                  (try (have hji21xji25 : (wrap64 (ji25 + 1)) = ji21 := by rw [← hji25]; exact hji21))
                  replace H : (if 0 ≤ (ji25) then (if (ji25) < (l0.length : Int) then ((some (([(⟨(⟨(rd_T41 l0 (ji25)).f0.f0, (rd_T41 l0 (ji25)).f0.f1, (rd_T41 l0 (ji25)).f0.f2⟩ : S39), (rd_T41 l0 (ji25)).f1⟩ : S41)] : List (S41)) : List (S41))).bind fun y533 => (if y529.length + y533.length < 2932031007402 then ((some (y529 ++ y533 : List (S41))).bind fun y536 => ((some (l0.drop ((ji21) : Int).toNat : List (S41))).bind fun y539 => (if y536.length + y539.length < 2932031007402 then ((ikey_Rising.f kj4 (y536 ++ y539)).bind fun t546 => (if t546 = true then (ratlinelaw03_IkeyRising.j1 kj4 l0 true) else ((ikey_Rising.f kj4 l0).bind fun t547 => ((ikey_Rising.f kj4 (l0.take ((ji21) : Int).toNat)).bind fun t552 => (if t552 = true then (if (ji25) ≤ (l0.length : Int) then ((ikey_Rising.f kj4 (l0.drop ((ji25) : Int).toNat)).bind fun t557 => (ratlinelaw03_IkeyRising.j1 kj4 l0 (t547 != t557))) else (none)) else (ratlinelaw03_IkeyRising.j1 kj4 l0 (t547 != false))))))) else (none)))) else (none))) else (none)) else (none)) = some r := by first | (rw [hji25] at H; exact H) | (simp only [hji25] at H ⊢; exact H)
                  by_cases c26 : 0 ≤ (ji25)
                  · rw [if_pos c26] at H
                    have c26b0 : decide (0 ≤ (ji25)) = true := decide_eq_true c26
                    clear c26
                    by_cases c27 : (ji25) < (l0.length : Int)
                    · rw [if_pos c27] at H
                      have c27b0 : decide ((ji25) < (l0.length : Int)) = true := decide_eq_true c27
                      clear c27
                      obtain ⟨y533, hy533⟩ : ∃ y_ : List (S41), y_ = (([(⟨(⟨(rd_T41 l0 (ji25)).f0.f0, (rd_T41 l0 (ji25)).f0.f1, (rd_T41 l0 (ji25)).f0.f2⟩ : S39), (rd_T41 l0 (ji25)).f1⟩ : S41)] : List (S41))) := ⟨_, rfl⟩
                      replace H : (if y529.length + y533.length < 2932031007402 then ((some (y529 ++ y533 : List (S41))).bind fun y536 => ((some (l0.drop ((ji21) : Int).toNat : List (S41))).bind fun y539 => (if y536.length + y539.length < 2932031007402 then ((ikey_Rising.f kj4 (y536 ++ y539)).bind fun t546 => (if t546 = true then (ratlinelaw03_IkeyRising.j1 kj4 l0 true) else ((ikey_Rising.f kj4 l0).bind fun t547 => ((ikey_Rising.f kj4 (l0.take ((ji21) : Int).toNat)).bind fun t552 => (if t552 = true then (if (ji25) ≤ (l0.length : Int) then ((ikey_Rising.f kj4 (l0.drop ((ji25) : Int).toNat)).bind fun t557 => (ratlinelaw03_IkeyRising.j1 kj4 l0 (t547 != t557))) else (none)) else (ratlinelaw03_IkeyRising.j1 kj4 l0 (t547 != false))))))) else (none)))) else (none)) = some r := by first | (rw [hy533]; with_reducible exact H) | (have H2_ := (Option.bind_some _ _).symm.trans H; rw [hy533]; with_reducible exact H2_) | (have H2_ := (Option.bind_some _ _).symm.trans H; with_reducible exact H2_) | with_reducible exact H | (rw [hy533]; exact H) | exact H
                      have Ny533 := Aside0.mk hy533
                      clear hy533
                      by_cases c28 : y529.length + y533.length < 2932031007402
                      · rw [if_pos c28] at H
                        have LMc28 := Aside0.mk c28
                        clear c28
                        obtain ⟨y536, hy536⟩ : ∃ y_ : List (S41), y_ = (y529 ++ y533) := ⟨_, rfl⟩
                        replace H : ((some (l0.drop ((ji21) : Int).toNat : List (S41))).bind fun y539 => (if y536.length + y539.length < 2932031007402 then ((ikey_Rising.f kj4 (y536 ++ y539)).bind fun t546 => (if t546 = true then (ratlinelaw03_IkeyRising.j1 kj4 l0 true) else ((ikey_Rising.f kj4 l0).bind fun t547 => ((ikey_Rising.f kj4 (l0.take ((ji21) : Int).toNat)).bind fun t552 => (if t552 = true then (if (ji25) ≤ (l0.length : Int) then ((ikey_Rising.f kj4 (l0.drop ((ji25) : Int).toNat)).bind fun t557 => (ratlinelaw03_IkeyRising.j1 kj4 l0 (t547 != t557))) else (none)) else (ratlinelaw03_IkeyRising.j1 kj4 l0 (t547 != false))))))) else (none))) = some r := by first | (rw [hy536]; with_reducible exact H) | (have H2_ := (Option.bind_some _ _).symm.trans H; rw [hy536]; with_reducible exact H2_) | (have H2_ := (Option.bind_some _ _).symm.trans H; with_reducible exact H2_) | with_reducible exact H | (rw [hy536]; exact H) | exact H
                        have Ny536 := Aside0.mk hy536
                        clear hy536
                        have c29b0 := eq_true (of_decide_eq_true (by first | (with_reducible assumption) | assumption) : 0 ≤ (ji21))
                        have c30b0 := eq_true (of_decide_eq_true (by first | (with_reducible assumption) | assumption) : (ji21) ≤ (l0.length : Int))
                        obtain ⟨y539, hy539⟩ : ∃ y_ : List (S41), y_ = (l0.drop ((ji21) : Int).toNat) := ⟨_, rfl⟩
                        replace H : (if y536.length + y539.length < 2932031007402 then ((ikey_Rising.f kj4 (y536 ++ y539)).bind fun t546 => (if t546 = true then (ratlinelaw03_IkeyRising.j1 kj4 l0 true) else ((ikey_Rising.f kj4 l0).bind fun t547 => ((ikey_Rising.f kj4 (l0.take ((ji21) : Int).toNat)).bind fun t552 => (if t552 = true then (if (ji25) ≤ (l0.length : Int) then ((ikey_Rising.f kj4 (l0.drop ((ji25) : Int).toNat)).bind fun t557 => (ratlinelaw03_IkeyRising.j1 kj4 l0 (t547 != t557))) else (none)) else (ratlinelaw03_IkeyRising.j1 kj4 l0 (t547 != false))))))) else (none)) = some r := by first | (rw [hy539]; with_reducible exact H) | (have H2_ := (Option.bind_some _ _).symm.trans H; rw [hy539]; with_reducible exact H2_) | (have H2_ := (Option.bind_some _ _).symm.trans H; with_reducible exact H2_) | with_reducible exact H | (rw [hy539]; exact H) | exact H
                        have Ny539 := Aside0.mk hy539
                        clear hy539
                        by_cases c31 : y536.length + y539.length < 2932031007402
                        · rw [if_pos c31] at H
                          have LMc31 := Aside0.mk c31
                          clear c31
                          obtain ⟨y543, hy543⟩ : ∃ y_ : List (S41), y_ = (y536 ++ y539) := ⟨_, rfl⟩
                          replace H : ((ikey_Rising.f kj4 y543).bind fun t546 => (if t546 = true then (ratlinelaw03_IkeyRising.j1 kj4 l0 true) else ((ikey_Rising.f kj4 l0).bind fun t547 => ((ikey_Rising.f kj4 (l0.take ((ji21) : Int).toNat)).bind fun t552 => (if t552 = true then (if (ji25) ≤ (l0.length : Int) then ((ikey_Rising.f kj4 (l0.drop ((ji25) : Int).toNat)).bind fun t557 => (ratlinelaw03_IkeyRising.j1 kj4 l0 (t547 != t557))) else (none)) else (ratlinelaw03_IkeyRising.j1 kj4 l0 (t547 != false))))))) = some r := by first | (rw [hy543]; with_reducible exact H) | (have H2_ := (Option.bind_some _ _).symm.trans H; rw [hy543]; with_reducible exact H2_) | (have H2_ := (Option.bind_some _ _).symm.trans H; with_reducible exact H2_) | with_reducible exact H | (rw [hy543]; exact H) | exact H
                          have Ny543 := Aside0.mk hy543
                          clear hy543
                          have HC32 := Aside0.mk H
                          clear H
                          try go_wp2
                          have n0_ := Aside0.mk (below_drew1 HB.out)
                          clear HB
                          have HB := n0_
                          clear n0_
                          have q34 : ((ji21) : Int) ≤ ((l0.length : Int) : Int) := of_decide_eq_true (by first | (with_reducible assumption) | assumption)
                          obtain ⟨i034, hi034, _, hsz34, _⟩ := info_parts info41
                          have hroom34 : l0.length ≤ c0 := HC0.out
                          have hC34 : Kd.C k41 _ A0 l0.length l0 := HR0.out
                          have hcut34 := cut_to (P := Try.prog) 29 41 .i64 Try.underlying29 hi034 A0 l0.length c0 (ji21) (of_decide_eq_true (by first | (with_reducible assumption) | assumption)) q34 hroom34
                          have hr34 := Kd.C_take (m := ((ji21) : Int).toNat) hC34 (by omega)
                          have hy34 : y525.length = ((ji21) : Int).toNat := (by rw [Ny525.out, List.length_take]; omega)
                          rw [← Ny525.out] at hr34
                          rw [← hy34] at hcut34
                          have HR528 := Aside0.mk hr34
                          have HC528 := Aside0.mk (show y525.length ≤ c0 from by omega)
                          clear hr34 hC34 hroom34 hi034 hsz34
                          have KY34 := Aside0.mk hy34
                          clear hy34
                          replace q34 := eq_true q34
                          have p532 : 0 ≤ ((ji25) : Int) := of_decide_eq_true (by first | (with_reducible assumption) | assumption)
                          have q532 : (ji25) < (l0.length : Int) := of_decide_eq_true (by first | (with_reducible assumption) | assumption)
                          obtain ⟨ad532, e532, hx532_0, hx532_1, hx532_2, hx532_3⟩ := at_T41 HR0.out (ji25) p532 q532
                          have hw532_3 := hx532_3
                          have hw532_2 := hx532_2
                          have hw532_1 := hx532_1
                          have hw532_0 := hx532_0
                          cases e532
                          replace hx532_0 := (HB.out.cell (World.block_lt_of_cell? w _ hx532_0)).trans hx532_0
                          replace hx532_1 := (HB.out.cell (World.block_lt_of_cell? w _ hx532_1)).trans hx532_1
                          replace hx532_2 := (HB.out.cell (World.block_lt_of_cell? w _ hx532_2)).trans hx532_2
                          replace hx532_3 := (HB.out.cell (World.block_lt_of_cell? w _ hx532_3)).trans hx532_3
                          replace p532 := eq_true p532
                          replace q532 := eq_true q532
                          have q35 : ((ji21) : Int) ≤ ((l0.length : Int) : Int) := of_decide_eq_true (by first | (with_reducible assumption) | assumption)
                          obtain ⟨i035, hi035, _, hsz35, _⟩ := info_parts info41
                          have hroom35 : l0.length ≤ c0 := HC0.out
                          have hC35 : Kd.C k41 _ (some ad532) l0.length l0 := HR0.out
                          have q035 : (0 : Int) ≤ ((ji21) : Int) := of_decide_eq_true (by first | (with_reducible assumption) | assumption)
                          have hcut35 := cut_from (P := Try.prog) 29 41 .i64 Try.underlying29 hi035 4 hsz35 (some ad532) l0.length c0 (ji21) q035 q35
                          have hr35 := Kd.C_drop (m := ((ji21) : Int).toNat) (c := c0) hC35 (by omega) hroom35
                          obtain ⟨A35, hA35⟩ : ∃ A1, A1 = (if c0 = ((ji21) : Int).toNat then (some ad532) else ((some ad532) : Option Addr).map (·.add (((ji21) : Int).toNat * 4))) := ⟨_, rfl⟩
                          obtain ⟨c35, hc35⟩ : ∃ c1, c1 = c0 - ((ji21) : Int).toNat := ⟨_, rfl⟩
                          have hy35 : y539.length = l0.length - ((ji21) : Int).toNat := (by rw [Ny539.out, List.length_drop] <;> omega)
                          rw [show (l0).drop ((ji21) : Int).toNat = y539 from Ny539.out.symm] at hr35
                          replace hr35 : Kd.C k41 _ A35 y539.length y539 := (by rw [hA35]; exact hr35)
                          rw [← hy35, ← hA35, ← hc35] at hcut35
                          have HR542 := Aside0.mk hr35
                          have HC542 := Aside0.mk (show y539.length ≤ c35 from by rw [hy35, hc35]; exact Nat.sub_le_sub_right hroom35 _)
                          clear hr35 hC35 hroom35 hi035 hsz35 hc35
                          have KY35 := Aside0.mk hy35
                          have KA35 := Aside0.mk hA35
                          clear hy35 hA35
                          replace q35 := eq_true q35
                          refine start_ (n := 18) (S := fun w' => w'.cell? (ad532.add (((ji25)).toNat * 4)) = some (.string ((rd_T41 l0 (ji25)).f0.f0)) ∧ w'.cell? ⟨(ad532.add (((ji25)).toNat * 4)).block, (ad532.add (((ji25)).toNat * 4)).off + 1, none⟩ = some (.int .u64 ((rd_T41 l0 (ji25)).f0.f1)) ∧ w'.cell? ⟨(ad532.add (((ji25)).toNat * 4)).block, (ad532.add (((ji25)).toNat * 4)).off + 2, none⟩ = some (.int .u8 ((rd_T41 l0 (ji25)).f0.f2)) ∧ w'.cell? ⟨(ad532.add (((ji25)).toNat * 4)).block, (ad532.add (((ji25)).toNat * 4)).off + 3, none⟩ = some (.string ((rd_T41 l0 (ji25)).f1))) (ds := []) #[false, false, false, false, false, false, false, false, false, false, false, false, false, false, false, false, false, false] (by kernel_rfl) rfl rfl ⟨((HB.out.cell (World.block_lt_of_cell? w _ hw532_0)).trans hw532_0), ((HB.out.cell (World.block_lt_of_cell? w _ hw532_1)).trans hw532_1), ((HB.out.cell (World.block_lt_of_cell? w _ hw532_2)).trans hw532_2), ((HB.out.cell (World.block_lt_of_cell? w _ hw532_3)).trans hw532_3)⟩ (fun hHeld => ?_); refine with_tabW ratlinelaw03_IkeyRising.tab8 ratlinelaw03_IkeyRising.bits8 (fun HT_ HW_ => ?_)
                          generalize wc.drew = w33 at HB HR528 HR542 hx532_0 hx532_1 hx532_2 hx532_3 hHeld ⊢
                          refine pure_ (i := 1) (N := some 34) (v := ?_) (a' := ?_) #[false, true, false, false, false, false, false, false, false, false, false, false, false, false, false, false, false, false] rfl rfl (any_of HT_.out (by kernel_rfl)) (fun _ _ _ h => h) (Or.inl ⟨by rfl, ?_⟩) ?_ ?_
                          rotate_left
                          · intro w'
                            go_simp
                            with_reducible rfl
                          rotate_left
                          · simp only [Act.put, List.setIfInBounds_toArray, List.set_cons_zero, List.set_cons_succ, i64_w, i32_w]
                            rfl
                          refine pure_ (i := 2) (N := some 35) (v := ?_) (a' := ?_) #[false, true, true, false, false, false, false, false, false, false, false, false, false, false, false, false, false, false] rfl rfl (any_of HT_.out (by kernel_rfl)) (fun _ _ _ h => h) (Or.inl ⟨by rfl, ?_⟩) ?_ ?_
                          rotate_left
                          · intro w'
                            go_simp
                            with_reducible rfl
                          rotate_left
                          · simp only [Act.put, List.setIfInBounds_toArray, List.set_cons_zero, List.set_cons_succ, i64_w, i32_w]
                            rfl
                          refine pure_ (i := 3) (N := some 36) (v := ?_) (a' := ?_) #[false, true, true, true, false, false, false, false, false, false, false, false, false, false, false, false, false, false] rfl rfl (any_of HT_.out (by kernel_rfl)) (fun _ _ _ h => h) (Or.inl ⟨by rfl, ?_⟩) ?_ ?_
                          rotate_left
                          · intro w'
                            go_simp
                            with_reducible rfl
                          rotate_left
                          · simp only [Act.put, List.setIfInBounds_toArray, List.set_cons_zero, List.set_cons_succ, i64_w, i32_w]
                            rfl
                          refine pure_ (i := 4) (N := some 37) (v := ?_) (a' := ?_) #[false, true, true, true, true, false, false, false, false, false, false, false, false, false, false, false, false, false] rfl rfl (any_of HT_.out (by kernel_rfl)) (fun _ _ _ h => h) (Or.inl ⟨by rfl, ?_⟩) ?_ ?_
                          rotate_left
                          · intro w'
                            go_simp
                            with_reducible rfl
                          rotate_left
                          · simp only [Act.put, List.setIfInBounds_toArray, List.set_cons_zero, List.set_cons_succ, i64_w, i32_w]
                            rfl
                          refine pure_ (i := 6) (N := some 39) (v := ?_) (a' := ?_) #[false, true, true, true, true, false, true, false, false, false, false, false, false, false, false, false, false, false] rfl rfl (any_of HT_.out (by kernel_rfl)) (fun _ _ _ h => h) (Or.inl ⟨by rfl, ?_⟩) ?_ ?_
                          rotate_left
                          · intro w'
                            go_simp
                            with_reducible rfl
                          rotate_left
                          · simp only [Act.put, List.setIfInBounds_toArray, List.set_cons_zero, List.set_cons_succ, i64_w, i32_w]
                            rfl
                          refine pure_ (i := 7) (N := some 40) (v := ?_) (a' := ?_) #[false, true, true, true, true, false, true, true, false, false, false, false, false, false, false, false, false, false] rfl rfl (any_of HT_.out (by kernel_rfl)) (fun _ _ _ h => h) (Or.inl ⟨by rfl, ?_⟩) ?_ ?_
                          rotate_left
                          · intro w'
                            go_simp
                            with_reducible rfl
                          rotate_left
                          · simp only [Act.put, List.setIfInBounds_toArray, List.set_cons_zero, List.set_cons_succ, i64_w, i32_w]
                            rfl
                          refine pure_ (i := 8) (N := some 41) (v := ?_) (a' := ?_) #[false, true, true, true, true, false, true, true, true, false, false, false, false, false, false, false, false, false] rfl rfl (any_of HT_.out (by kernel_rfl)) (fun _ _ _ h => h) (Or.inl ⟨by rfl, ?_⟩) ?_ ?_
                          rotate_left
                          · intro w'
                            go_simp
                            with_reducible rfl
                          rotate_left
                          · simp only [Act.put, List.setIfInBounds_toArray, List.set_cons_zero, List.set_cons_succ, i64_w, i32_w]
                            rfl
                          refine pure_ (i := 12) (N := some 45) (v := ?_) (a' := ?_) #[false, true, true, true, true, false, true, true, true, false, false, false, true, false, false, false, false, false] rfl rfl (any_of HT_.out (by kernel_rfl)) (fun _ _ _ h => h) (Or.inl ⟨by rfl, ?_⟩) ?_ ?_
                          rotate_left
                          · intro w'
                            go_simp
                            with_reducible rfl
                          rotate_left
                          · simp only [Act.put, List.setIfInBounds_toArray, List.set_cons_zero, List.set_cons_succ, i64_w, i32_w]
                            rfl
                          refine pure_ (i := 13) (N := some 46) (v := ?_) (a' := ?_) #[false, true, true, true, true, false, true, true, true, false, false, false, true, true, false, false, false, false] rfl rfl (any_of HT_.out (by kernel_rfl)) (fun _ _ _ h => h) (Or.inl ⟨by rfl, ?_⟩) ?_ ?_
                          rotate_left
                          · intro w'
                            go_simp
                            with_reducible rfl
                          rotate_left
                          · simp only [Act.put, List.setIfInBounds_toArray, List.set_cons_zero, List.set_cons_succ, i64_w, i32_w]
                            rfl
                          refine pure_ (i := 14) (N := some 47) (v := ?_) (a' := ?_) #[false, true, true, true, true, false, true, true, true, false, false, false, true, true, true, false, false, false] rfl rfl (any_of HT_.out (by kernel_rfl)) (fun _ _ _ h => h) (Or.inl ⟨by rfl, ?_⟩) ?_ ?_
                          rotate_left
                          · intro w'
                            go_simp
                            with_reducible rfl
                          rotate_left
                          · simp only [Act.put, List.setIfInBounds_toArray, List.set_cons_zero, List.set_cons_succ, i64_w, i32_w]
                            rfl
                          refine pure_ (i := 15) (N := some 48) (v := ?_) (a' := ?_) #[false, true, true, true, true, false, true, true, true, false, false, false, true, true, true, true, false, false] rfl rfl (any_of HT_.out (by kernel_rfl)) (fun _ _ _ h => h) (Or.inl ⟨by rfl, ?_⟩) ?_ ?_
                          rotate_left
                          · intro w'
                            go_simp
                            with_reducible rfl
                          rotate_left
                          · simp only [Act.put, List.setIfInBounds_toArray, List.set_cons_zero, List.set_cons_succ, i64_w, i32_w]
                            rfl
                          refine take_ (i := 9) (N := some 42) (v := ?_) (a' := ?_) #[false, true, true, true, true, false, true, true, true, true, false, false, true, true, true, true, false, false] rfl rfl (take_ofW HT_.out HW_.out (by kernel_rfl)) (fun _ _ _ h => h) (Or.inl ⟨by rfl, ?_⟩) hHeld ?_ ?_
                          rotate_left
                          · rintro w' ⟨s0, s1, s2, s3⟩
                            go_simp
                            with_reducible rfl
                          rotate_left
                          · simp only [Act.put, List.setIfInBounds_toArray, List.set_cons_zero, List.set_cons_succ, i64_w, i32_w]
                            rfl
                          refine join_ (σ := Value × Value × Value) 3 #[true, true, true, true, true, true, true, true, true, true, true, false, true, true, true, true, false, false] (fun s_ => [(33, s_.1), (38, s_.2.1), (43, s_.2.2)]) (fun s_ w' => (w'.cell? (ad532.add (((ji25)).toNat * 4)) = some (.string ((rd_T41 l0 (ji25)).f0.f0)) ∧ w'.cell? ⟨(ad532.add (((ji25)).toNat * 4)).block, (ad532.add (((ji25)).toNat * 4)).off + 1, none⟩ = some (.int .u64 ((rd_T41 l0 (ji25)).f0.f1)) ∧ w'.cell? ⟨(ad532.add (((ji25)).toNat * 4)).block, (ad532.add (((ji25)).toNat * 4)).off + 2, none⟩ = some (.int .u8 ((rd_T41 l0 (ji25)).f0.f2)) ∧ w'.cell? ⟨(ad532.add (((ji25)).toNat * 4)).block, (ad532.add (((ji25)).toNat * 4)).off + 3, none⟩ = some (.string ((rd_T41 l0 (ji25)).f1))) ∧ (Kd.R k41 41 w' w.heap.size (fun k_ => some k_ ≠ (s_.2.2 : Value).ownBlock) s_.2.1 y529) ∧ (Kd.R k41 41 w' w.heap.size (fun k_ => some k_ ≠ (s_.2.1 : Value).ownBlock) s_.2.2 y533) ∧ (Below w.heap.size w w')) ?_ ?_
                          rotate_left
                          · intro hCont
                            refine two_ (i := 0) (j := 10) (Ni := some 33) (Nj := some 43) #[true, true, true, true, true, false, true, true, true, true, false, false, true, true, true, true, false, false] #[false, true, true, true, true, false, true, true, true, true, true, false, true, true, true, true, false, false] rfl rfl rfl rfl (two_of HT_.out (by kernel_rfl)) (by decide) (by decide) (fun K hK => ?_) (fun K hK => ?_)
                            · skip
                              refine Kd.R_lit_step k41 _ 41 ?hg (N := 33) ?hd (xs := ([] : List (S41))) (inner := []) (ok := fun _ => True) (okp := fun _ => True) ?hr ?hp (fun _ hk => hk) trivial (Below.refl _ _) (Nat.le_refl _) (by simp) ?_; (case hd => rfl); (case hg => rfl); (case hr => first | (go_simp; done) | (go_simp; rfl)); (case hp => exact (Reps.none _ _))
                              intro v523 w36 ho37 hb hg_ hnew_
                              clear hg_ hnew_
                              (first | rw [← Ny522.out] at ho37 | (simp only [Int.reduceToNat] at ho37; rw [← Ny522.out] at ho37))
                              have n0_ := Aside0.mk (Kd.R_lower ho37 (below_size (by repeat (first | (with_reducible first | exact HB.out | apply below_alloc | apply pw_below_drewN | apply below_drew1) | exact HB.out))))
                              have n1_ := Aside0.mk (below_step (by repeat (first | (with_reducible first | exact HB.out | apply below_alloc | apply pw_below_drewN | apply below_drew1) | exact HB.out)) hb)
                              clear HB
                              have HO524 := n0_
                              have HB := n1_
                              clear n0_ n1_
                              clear hb ho37
                              refine hK.out _ _ ⟨((HB.out.cell (World.block_lt_of_cell? w _ hw532_0)).trans hw532_0), ((HB.out.cell (World.block_lt_of_cell? w _ hw532_1)).trans hw532_1), ((HB.out.cell (World.block_lt_of_cell? w _ hw532_2)).trans hw532_2), ((HB.out.cell (World.block_lt_of_cell? w _ hw532_3)).trans hw532_3)⟩ (fun hHeld => ?_)
                              clear hK K
                              refine norm_ (a' := ?_) ?_ ?_
                              rotate_left
                              · show Act.put _ (some 33) _ = _
                                simp only [Act.put, List.setIfInBounds_toArray, List.set_cons_zero, List.set_cons_succ, i64_w, i32_w]
                                rfl
                              refine two_ (i := 5) (j := 10) (Ni := some 38) (Nj := some 43) #[true, true, true, true, true, true, true, true, true, true, false, false, true, true, true, true, false, false] #[true, true, true, true, true, false, true, true, true, true, true, false, true, true, true, true, false, false] rfl rfl rfl rfl (two_of HT_.out (by kernel_rfl)) (by decide) (by decide) (fun K hK => ?_) (fun K hK => ?_)
                              · skip
                                refine Kd.R_append_rows_step k41 (w0 := w) w.heap.size (by rfl) (.tmp 33) (.tmp 37) 29 41 (.agg #[(.string ⟨#[]⟩), (.int .u64 0), (.int .u8 0), (.string ⟨#[]⟩)]) 48 rfl Try.underlying29 info41 rfl (by decide) (by omega) v523 y522 y525 _ _ _ (fun _ => True) (fun _ => False) rfl rfl ?aO ?aR (fun _ _ h => h) (fun _ h => h.elim) ?aF ?aB ?aS ?aL ?_
                                (case aR => repeat (first | exact (Kd.C_below HR528.out HB.out) | (with_reducible refine Kd.C_alloc ?_ _) | (with_reducible refine Kd.C_drewN ?_ _) | (with_reducible refine Kd.C_drew ?_)))
                                (case aB => exact (by repeat (first | (with_reducible first | exact HB.out | apply below_alloc | apply pw_below_drewN | apply below_drew1) | exact HB.out)))
                                (case aF => exact (fun _ _ => trivial))
                                (case aO => exact (by (with_reducible repeat (first | apply Kd.R_alloc | apply Kd.R_drewN | apply Kd.R_drew)); exact HO524.out))
                                (case aS => exact (below_size (by repeat (first | (with_reducible first | exact HB.out | apply below_alloc | apply pw_below_drewN | apply below_drew1) | exact HB.out))))
                                (case aL => have := LMc24.out; omega)
                                intro v530 w38 ho hb hg hat
                                rw [← Ny529.out] at ho
                                have n0_ := Aside0.mk (hb)
                                have n1_ := Aside0.mk (ho)
                                clear HB
                                clear HO524
                                have HB := n0_
                                have HO531 := n1_
                                clear n0_ n1_
                                clear ho hb hg hat
                                refine hK.out _ _ ⟨((HB.out.cell (World.block_lt_of_cell? w _ hw532_0)).trans hw532_0), ((HB.out.cell (World.block_lt_of_cell? w _ hw532_1)).trans hw532_1), ((HB.out.cell (World.block_lt_of_cell? w _ hw532_2)).trans hw532_2), ((HB.out.cell (World.block_lt_of_cell? w _ hw532_3)).trans hw532_3)⟩ (fun hHeld => ?_)
                                clear hK K
                                refine norm_ (a' := ?_) ?_ ?_
                                rotate_left
                                · show Act.put _ (some 38) _ = _
                                  simp only [Act.put, List.setIfInBounds_toArray, List.set_cons_zero, List.set_cons_succ, i64_w, i32_w]
                                  rfl
                                refine one_ (i := 10) (N := some 43) #[true, true, true, true, true, true, true, true, true, true, true, false, true, true, true, true, false, false] rfl rfl (one_of HT_.out (by kernel_rfl)) (by decide) (fun K hK => ?_)
                                refine Kd.R_lit_step k41 _ 41 ?hg (N := 43) ?hd (xs := ([(⟨(⟨(rd_T41 l0 (ji25)).f0.f0, (rd_T41 l0 (ji25)).f0.f1, (rd_T41 l0 (ji25)).f0.f2⟩ : S39), (rd_T41 l0 (ji25)).f1⟩ : S41)] : List (S41))) (inner := [.string ((rd_T41 l0 (ji25)).f0.f0), .int .u64 ((rd_T41 l0 (ji25)).f0.f1), .int .u8 ((rd_T41 l0 (ji25)).f0.f2), .string ((rd_T41 l0 (ji25)).f1)]) (ok := fun _ => True) (okp := fun _ => True) ?hr ?hp (fun _ hk => hk) trivial (Below.refl _ _) (Nat.le_refl _) (by simp) ?_; (case hd => rfl); (case hg => rfl); (case hr => first | (go_simp; done) | (go_simp; rfl)); (case hp => exact (Reps.c4 (show Kd.M k41 _ _ _ (⟨(⟨(rd_T41 l0 (ji25)).f0.f0, (rd_T41 l0 (ji25)).f0.f1, (rd_T41 l0 (ji25)).f0.f2⟩ : S39), (rd_T41 l0 (ji25)).f1⟩ : S41) [.string ((rd_T41 l0 (ji25)).f0.f0), .int .u64 ((rd_T41 l0 (ji25)).f0.f1), .int .u8 ((rd_T41 l0 (ji25)).f0.f2), .string ((rd_T41 l0 (ji25)).f1)] from (k41_mkM _ _ _ (⟨(⟨(rd_T41 l0 (ji25)).f0.f0, (rd_T41 l0 (ji25)).f0.f1, (rd_T41 l0 (ji25)).f0.f2⟩ : S39), (rd_T41 l0 (ji25)).f1⟩ : S41) )) (Reps.none _ _)))
                                intro v534 w39 ho40 hb hg_ hnew_
                                clear hg_ hnew_
                                (first | rw [← Ny533.out] at ho40 | (simp only [Int.reduceToNat] at ho40; rw [← Ny533.out] at ho40))
                                have n0_ := Aside0.mk (Kd.R_elder' (by (with_reducible repeat (first | apply Kd.R_alloc | apply Kd.R_drewN | apply Kd.R_drew)); exact HO531.out) (Kd.R_base ho40) hb)
                                have n1_ := Aside0.mk (Kd.R_lower (Kd.R_new' ho40 (Kd.R_lt (by (with_reducible repeat (first | apply Kd.R_alloc | apply Kd.R_drewN | apply Kd.R_drew)); exact HO531.out))) (below_size (by repeat (first | (with_reducible first | exact HB.out | apply below_alloc | apply pw_below_drewN | apply below_drew1) | exact HB.out))))
                                have n2_ := Aside0.mk (below_step (by repeat (first | (with_reducible first | exact HB.out | apply below_alloc | apply pw_below_drewN | apply below_drew1) | exact HB.out)) hb)
                                clear HO531
                                clear HB
                                have HO531 := n0_
                                have HO535 := n1_
                                have HB := n2_
                                clear n0_ n1_ n2_
                                clear hb ho40
                                refine hK.out _ _ ⟨((HB.out.cell (World.block_lt_of_cell? w _ hw532_0)).trans hw532_0), ((HB.out.cell (World.block_lt_of_cell? w _ hw532_1)).trans hw532_1), ((HB.out.cell (World.block_lt_of_cell? w _ hw532_2)).trans hw532_2), ((HB.out.cell (World.block_lt_of_cell? w _ hw532_3)).trans hw532_3)⟩ (fun hHeld => ?_)
                                clear hK K
                                refine norm_ (a' := ?_) ?_ ?_
                                rotate_left
                                · show Act.put _ (some 43) _ = _
                                  simp only [Act.put, List.setIfInBounds_toArray, List.set_cons_zero, List.set_cons_succ, i64_w, i32_w]
                                  rfl
                                exact norm_ (by simp only [putAll, Act.put, List.setIfInBounds_toArray, List.set_cons_zero, List.set_cons_succ]) (hCont (v523, v530, v534) _ ⟨hHeld, (by (with_reducible repeat (first | apply Kd.R_alloc | apply Kd.R_drewN | apply Kd.R_drew)); exact Kd.R_mono HO531.out (fun _ hk => hk.2)), (by (with_reducible repeat (first | apply Kd.R_alloc | apply Kd.R_drewN | apply Kd.R_drew)); exact Kd.R_mono HO535.out (fun _ hk => hk.2)), (by repeat (first | (with_reducible first | exact HB.out | apply below_alloc | apply pw_below_drewN | apply below_drew1) | exact HB.out))⟩)
                              · skip
                                refine Kd.R_lit_step k41 _ 41 ?hg (N := 43) ?hd (xs := ([(⟨(⟨(rd_T41 l0 (ji25)).f0.f0, (rd_T41 l0 (ji25)).f0.f1, (rd_T41 l0 (ji25)).f0.f2⟩ : S39), (rd_T41 l0 (ji25)).f1⟩ : S41)] : List (S41))) (inner := [.string ((rd_T41 l0 (ji25)).f0.f0), .int .u64 ((rd_T41 l0 (ji25)).f0.f1), .int .u8 ((rd_T41 l0 (ji25)).f0.f2), .string ((rd_T41 l0 (ji25)).f1)]) (ok := fun _ => True) (okp := fun _ => True) ?hr ?hp (fun _ hk => hk) trivial (Below.refl _ _) (Nat.le_refl _) (by simp) ?_; (case hd => rfl); (case hg => rfl); (case hr => first | (go_simp; done) | (go_simp; rfl)); (case hp => exact (Reps.c4 (show Kd.M k41 _ _ _ (⟨(⟨(rd_T41 l0 (ji25)).f0.f0, (rd_T41 l0 (ji25)).f0.f1, (rd_T41 l0 (ji25)).f0.f2⟩ : S39), (rd_T41 l0 (ji25)).f1⟩ : S41) [.string ((rd_T41 l0 (ji25)).f0.f0), .int .u64 ((rd_T41 l0 (ji25)).f0.f1), .int .u8 ((rd_T41 l0 (ji25)).f0.f2), .string ((rd_T41 l0 (ji25)).f1)] from (k41_mkM _ _ _ (⟨(⟨(rd_T41 l0 (ji25)).f0.f0, (rd_T41 l0 (ji25)).f0.f1, (rd_T41 l0 (ji25)).f0.f2⟩ : S39), (rd_T41 l0 (ji25)).f1⟩ : S41) )) (Reps.none _ _)))
                                intro v534 w38 ho39 hb hg_ hnew_
                                clear hg_ hnew_
                                (first | rw [← Ny533.out] at ho39 | (simp only [Int.reduceToNat] at ho39; rw [← Ny533.out] at ho39))
                                have n0_ := Aside0.mk (Kd.R_elder' (by (with_reducible repeat (first | apply Kd.R_alloc | apply Kd.R_drewN | apply Kd.R_drew)); exact HO524.out) (Kd.R_base ho39) hb)
                                have n1_ := Aside0.mk (Kd.R_lower (Kd.R_new' ho39 (Kd.R_lt (by (with_reducible repeat (first | apply Kd.R_alloc | apply Kd.R_drewN | apply Kd.R_drew)); exact HO524.out))) (below_size (by repeat (first | (with_reducible first | exact HB.out | apply below_alloc | apply pw_below_drewN | apply below_drew1) | exact HB.out))))
                                have n2_ := Aside0.mk (below_step (by repeat (first | (with_reducible first | exact HB.out | apply below_alloc | apply pw_below_drewN | apply below_drew1) | exact HB.out)) hb)
                                clear HO524
                                clear HB
                                have HO524 := n0_
                                have HO535 := n1_
                                have HB := n2_
                                clear n0_ n1_ n2_
                                clear hb ho39
                                refine hK.out _ _ ⟨((HB.out.cell (World.block_lt_of_cell? w _ hw532_0)).trans hw532_0), ((HB.out.cell (World.block_lt_of_cell? w _ hw532_1)).trans hw532_1), ((HB.out.cell (World.block_lt_of_cell? w _ hw532_2)).trans hw532_2), ((HB.out.cell (World.block_lt_of_cell? w _ hw532_3)).trans hw532_3)⟩ (fun hHeld => ?_)
                                clear hK K
                                refine norm_ (a' := ?_) ?_ ?_
                                rotate_left
                                · show Act.put _ (some 43) _ = _
                                  simp only [Act.put, List.setIfInBounds_toArray, List.set_cons_zero, List.set_cons_succ, i64_w, i32_w]
                                  rfl
                                refine one_ (i := 5) (N := some 38) #[true, true, true, true, true, true, true, true, true, true, true, false, true, true, true, true, false, false] rfl rfl (one_of HT_.out (by kernel_rfl)) (by decide) (fun K hK => ?_)
                                refine Kd.R_append_rows_step k41 (w0 := w) w.heap.size (by rfl) (.tmp 33) (.tmp 37) 29 41 (.agg #[(.string ⟨#[]⟩), (.int .u64 0), (.int .u8 0), (.string ⟨#[]⟩)]) 48 rfl Try.underlying29 info41 rfl (by decide) (by omega) v523 y522 y525 _ _ _ (fun k_ => some k_ ≠ (v534 : Value).ownBlock) (fun _ => False) rfl rfl ?aO ?aR (fun _ _ h => h) (fun _ h => h.elim) ?aF ?aB ?aS ?aL ?_
                                (case aR => repeat (first | exact (Kd.C_below HR528.out HB.out) | (with_reducible refine Kd.C_alloc ?_ _) | (with_reducible refine Kd.C_drewN ?_ _) | (with_reducible refine Kd.C_drew ?_)))
                                (case aB => exact (by repeat (first | (with_reducible first | exact HB.out | apply below_alloc | apply pw_below_drewN | apply below_drew1) | exact HB.out)))
                                (case aF => exact (fun k_ hk => Kd.fresh' (Kd.R_lt (by (with_reducible repeat (first | apply Kd.R_alloc | apply Kd.R_drewN | apply Kd.R_drew)); exact HO535.out)) k_ hk))
                                (case aO => exact (by (with_reducible repeat (first | apply Kd.R_alloc | apply Kd.R_drewN | apply Kd.R_drew)); exact Kd.R_mono HO524.out (fun _ hk => hk.2)))
                                (case aS => exact (below_size (by repeat (first | (with_reducible first | exact HB.out | apply below_alloc | apply pw_below_drewN | apply below_drew1) | exact HB.out))))
                                (case aL => have := LMc24.out; omega)
                                intro v530 w40 ho hb hg hat
                                rw [← Ny529.out] at ho
                                have n0_ := Aside0.mk (Kd.R_after (ok := (fun _ => True)) (by (with_reducible repeat (first | apply Kd.R_alloc | apply Kd.R_drewN | apply Kd.R_drew)); exact HO535.out) hg hat)
                                have n1_ := Aside0.mk (hb)
                                have n2_ := Aside0.mk (ho)
                                clear HO535
                                clear HB
                                clear HO524
                                have HO535 := n0_
                                have HB := n1_
                                have HO531 := n2_
                                clear n0_ n1_ n2_
                                clear ho hb hg hat
                                refine hK.out _ _ ⟨((HB.out.cell (World.block_lt_of_cell? w _ hw532_0)).trans hw532_0), ((HB.out.cell (World.block_lt_of_cell? w _ hw532_1)).trans hw532_1), ((HB.out.cell (World.block_lt_of_cell? w _ hw532_2)).trans hw532_2), ((HB.out.cell (World.block_lt_of_cell? w _ hw532_3)).trans hw532_3)⟩ (fun hHeld => ?_)
                                clear hK K
                                refine norm_ (a' := ?_) ?_ ?_
                                rotate_left
                                · show Act.put _ (some 38) _ = _
                                  simp only [Act.put, List.setIfInBounds_toArray, List.set_cons_zero, List.set_cons_succ, i64_w, i32_w]
                                  rfl
                                exact norm_ (by simp only [putAll, Act.put, List.setIfInBounds_toArray, List.set_cons_zero, List.set_cons_succ]) (hCont (v523, v530, v534) _ ⟨hHeld, (by (with_reducible repeat (first | apply Kd.R_alloc | apply Kd.R_drewN | apply Kd.R_drew)); exact HO531.out), (by (with_reducible repeat (first | apply Kd.R_alloc | apply Kd.R_drewN | apply Kd.R_drew)); exact Kd.R_mono HO535.out (fun _ hk => hk.2)), (by repeat (first | (with_reducible first | exact HB.out | apply below_alloc | apply pw_below_drewN | apply below_drew1) | exact HB.out))⟩)
                            · skip
                              refine Kd.R_lit_step k41 _ 41 ?hg (N := 43) ?hd (xs := ([(⟨(⟨(rd_T41 l0 (ji25)).f0.f0, (rd_T41 l0 (ji25)).f0.f1, (rd_T41 l0 (ji25)).f0.f2⟩ : S39), (rd_T41 l0 (ji25)).f1⟩ : S41)] : List (S41))) (inner := [.string ((rd_T41 l0 (ji25)).f0.f0), .int .u64 ((rd_T41 l0 (ji25)).f0.f1), .int .u8 ((rd_T41 l0 (ji25)).f0.f2), .string ((rd_T41 l0 (ji25)).f1)]) (ok := fun _ => True) (okp := fun _ => True) ?hr ?hp (fun _ hk => hk) trivial (Below.refl _ _) (Nat.le_refl _) (by simp) ?_; (case hd => rfl); (case hg => rfl); (case hr => first | (go_simp; done) | (go_simp; rfl)); (case hp => exact (Reps.c4 (show Kd.M k41 _ _ _ (⟨(⟨(rd_T41 l0 (ji25)).f0.f0, (rd_T41 l0 (ji25)).f0.f1, (rd_T41 l0 (ji25)).f0.f2⟩ : S39), (rd_T41 l0 (ji25)).f1⟩ : S41) [.string ((rd_T41 l0 (ji25)).f0.f0), .int .u64 ((rd_T41 l0 (ji25)).f0.f1), .int .u8 ((rd_T41 l0 (ji25)).f0.f2), .string ((rd_T41 l0 (ji25)).f1)] from (k41_mkM _ _ _ (⟨(⟨(rd_T41 l0 (ji25)).f0.f0, (rd_T41 l0 (ji25)).f0.f1, (rd_T41 l0 (ji25)).f0.f2⟩ : S39), (rd_T41 l0 (ji25)).f1⟩ : S41) )) (Reps.none _ _)))
                              intro v534 w36 ho37 hb hg_ hnew_
                              clear hg_ hnew_
                              (first | rw [← Ny533.out] at ho37 | (simp only [Int.reduceToNat] at ho37; rw [← Ny533.out] at ho37))
                              have n0_ := Aside0.mk (Kd.R_lower ho37 (below_size (by repeat (first | (with_reducible first | exact HB.out | apply below_alloc | apply pw_below_drewN | apply below_drew1) | exact HB.out))))
                              have n1_ := Aside0.mk (below_step (by repeat (first | (with_reducible first | exact HB.out | apply below_alloc | apply pw_below_drewN | apply below_drew1) | exact HB.out)) hb)
                              clear HB
                              have HO535 := n0_
                              have HB := n1_
                              clear n0_ n1_
                              clear hb ho37
                              refine hK.out _ _ ⟨((HB.out.cell (World.block_lt_of_cell? w _ hw532_0)).trans hw532_0), ((HB.out.cell (World.block_lt_of_cell? w _ hw532_1)).trans hw532_1), ((HB.out.cell (World.block_lt_of_cell? w _ hw532_2)).trans hw532_2), ((HB.out.cell (World.block_lt_of_cell? w _ hw532_3)).trans hw532_3)⟩ (fun hHeld => ?_)
                              clear hK K
                              refine norm_ (a' := ?_) ?_ ?_
                              rotate_left
                              · show Act.put _ (some 43) _ = _
                                simp only [Act.put, List.setIfInBounds_toArray, List.set_cons_zero, List.set_cons_succ, i64_w, i32_w]
                                rfl
                              refine one_ (i := 0) (N := some 33) #[true, true, true, true, true, false, true, true, true, true, true, false, true, true, true, true, false, false] rfl rfl (one_of HT_.out (by kernel_rfl)) (by decide) (fun K hK => ?_)
                              refine Kd.R_lit_step k41 _ 41 ?hg (N := 33) ?hd (xs := ([] : List (S41))) (inner := []) (ok := fun _ => True) (okp := fun _ => True) ?hr ?hp (fun _ hk => hk) trivial (Below.refl _ _) (Nat.le_refl _) (by simp) ?_; (case hd => rfl); (case hg => rfl); (case hr => first | (go_simp; done) | (go_simp; rfl)); (case hp => exact (Reps.none _ _))
                              intro v523 w38 ho39 hb hg_ hnew_
                              clear hg_ hnew_
                              (first | rw [← Ny522.out] at ho39 | (simp only [Int.reduceToNat] at ho39; rw [← Ny522.out] at ho39))
                              have n0_ := Aside0.mk (Kd.R_elder' (by (with_reducible repeat (first | apply Kd.R_alloc | apply Kd.R_drewN | apply Kd.R_drew)); exact HO535.out) (Kd.R_base ho39) hb)
                              have n1_ := Aside0.mk (Kd.R_lower (Kd.R_new' ho39 (Kd.R_lt (by (with_reducible repeat (first | apply Kd.R_alloc | apply Kd.R_drewN | apply Kd.R_drew)); exact HO535.out))) (below_size (by repeat (first | (with_reducible first | exact HB.out | apply below_alloc | apply pw_below_drewN | apply below_drew1) | exact HB.out))))
                              have n2_ := Aside0.mk (below_step (by repeat (first | (with_reducible first | exact HB.out | apply below_alloc | apply pw_below_drewN | apply below_drew1) | exact HB.out)) hb)
                              clear HO535
                              clear HB
                              have HO535 := n0_
                              have HO524 := n1_
                              have HB := n2_
                              clear n0_ n1_ n2_
                              clear hb ho39
                              refine hK.out _ _ ⟨((HB.out.cell (World.block_lt_of_cell? w _ hw532_0)).trans hw532_0), ((HB.out.cell (World.block_lt_of_cell? w _ hw532_1)).trans hw532_1), ((HB.out.cell (World.block_lt_of_cell? w _ hw532_2)).trans hw532_2), ((HB.out.cell (World.block_lt_of_cell? w _ hw532_3)).trans hw532_3)⟩ (fun hHeld => ?_)
                              clear hK K
                              refine norm_ (a' := ?_) ?_ ?_
                              rotate_left
                              · show Act.put _ (some 33) _ = _
                                simp only [Act.put, List.setIfInBounds_toArray, List.set_cons_zero, List.set_cons_succ, i64_w, i32_w]
                                rfl
                              refine one_ (i := 5) (N := some 38) #[true, true, true, true, true, true, true, true, true, true, true, false, true, true, true, true, false, false] rfl rfl (one_of HT_.out (by kernel_rfl)) (by decide) (fun K hK => ?_)
                              refine Kd.R_append_rows_step k41 (w0 := w) w.heap.size (by rfl) (.tmp 33) (.tmp 37) 29 41 (.agg #[(.string ⟨#[]⟩), (.int .u64 0), (.int .u8 0), (.string ⟨#[]⟩)]) 48 rfl Try.underlying29 info41 rfl (by decide) (by omega) v523 y522 y525 _ _ _ (fun k_ => some k_ ≠ (v534 : Value).ownBlock) (fun _ => False) rfl rfl ?aO ?aR (fun _ _ h => h) (fun _ h => h.elim) ?aF ?aB ?aS ?aL ?_
                              (case aR => repeat (first | exact (Kd.C_below HR528.out HB.out) | (with_reducible refine Kd.C_alloc ?_ _) | (with_reducible refine Kd.C_drewN ?_ _) | (with_reducible refine Kd.C_drew ?_)))
                              (case aB => exact (by repeat (first | (with_reducible first | exact HB.out | apply below_alloc | apply pw_below_drewN | apply below_drew1) | exact HB.out)))
                              (case aF => exact (fun k_ hk => Kd.fresh' (Kd.R_lt (by (with_reducible repeat (first | apply Kd.R_alloc | apply Kd.R_drewN | apply Kd.R_drew)); exact HO535.out)) k_ hk))
                              (case aO => exact (by (with_reducible repeat (first | apply Kd.R_alloc | apply Kd.R_drewN | apply Kd.R_drew)); exact Kd.R_mono HO524.out (fun _ hk => hk.2)))
                              (case aS => exact (below_size (by repeat (first | (with_reducible first | exact HB.out | apply below_alloc | apply pw_below_drewN | apply below_drew1) | exact HB.out))))
                              (case aL => have := LMc24.out; omega)
                              intro v530 w40 ho hb hg hat
                              rw [← Ny529.out] at ho
                              have n0_ := Aside0.mk (Kd.R_after (ok := (fun _ => True)) (by (with_reducible repeat (first | apply Kd.R_alloc | apply Kd.R_drewN | apply Kd.R_drew)); exact HO535.out) hg hat)
                              have n1_ := Aside0.mk (hb)
                              have n2_ := Aside0.mk (ho)
                              clear HO535
                              clear HB
                              clear HO524
                              have HO535 := n0_
                              have HB := n1_
                              have HO531 := n2_
                              clear n0_ n1_ n2_
                              clear ho hb hg hat
                              refine hK.out _ _ ⟨((HB.out.cell (World.block_lt_of_cell? w _ hw532_0)).trans hw532_0), ((HB.out.cell (World.block_lt_of_cell? w _ hw532_1)).trans hw532_1), ((HB.out.cell (World.block_lt_of_cell? w _ hw532_2)).trans hw532_2), ((HB.out.cell (World.block_lt_of_cell? w _ hw532_3)).trans hw532_3)⟩ (fun hHeld => ?_)
                              clear hK K
                              refine norm_ (a' := ?_) ?_ ?_
                              rotate_left
                              · show Act.put _ (some 38) _ = _
                                simp only [Act.put, List.setIfInBounds_toArray, List.set_cons_zero, List.set_cons_succ, i64_w, i32_w]
                                rfl
                              exact norm_ (by simp only [putAll, Act.put, List.setIfInBounds_toArray, List.set_cons_zero, List.set_cons_succ]) (hCont (v523, v530, v534) _ ⟨hHeld, (by (with_reducible repeat (first | apply Kd.R_alloc | apply Kd.R_drewN | apply Kd.R_drew)); exact HO531.out), (by (with_reducible repeat (first | apply Kd.R_alloc | apply Kd.R_drewN | apply Kd.R_drew)); exact Kd.R_mono HO535.out (fun _ hk => hk.2)), (by repeat (first | (with_reducible first | exact HB.out | apply below_alloc | apply pw_below_drewN | apply below_drew1) | exact HB.out))⟩)
                          rintro ⟨v523, v530, v534⟩ w41 ⟨hS_, h0_, h1_, h2_⟩
                          have n0_ : Aside0 (Kd.R k41 41 w41 w.heap.size (fun k_ => some k_ ≠ (v534 : Value).ownBlock) v530 y529) := ⟨h0_⟩
                          have n1_ : Aside0 (Kd.R k41 41 w41 w.heap.size (fun k_ => some k_ ≠ (v530 : Value).ownBlock) v534 y533) := ⟨h1_⟩
                          have n2_ : Aside0 (Below w.heap.size w w41) := ⟨h2_⟩
                          clear HB
                          clear h0_ h1_ h2_
                          have HO531 := n0_
                          have HO535 := n1_
                          have HB := n2_
                          clear n0_ n1_ n2_
                          have hHeld : w41.cell? (ad532.add (((ji25)).toNat * 4)) = some (.string ((rd_T41 l0 (ji25)).f0.f0)) ∧ w41.cell? ⟨(ad532.add (((ji25)).toNat * 4)).block, (ad532.add (((ji25)).toNat * 4)).off + 1, none⟩ = some (.int .u64 ((rd_T41 l0 (ji25)).f0.f1)) ∧ w41.cell? ⟨(ad532.add (((ji25)).toNat * 4)).block, (ad532.add (((ji25)).toNat * 4)).off + 2, none⟩ = some (.int .u8 ((rd_T41 l0 (ji25)).f0.f2)) ∧ w41.cell? ⟨(ad532.add (((ji25)).toNat * 4)).block, (ad532.add (((ji25)).toNat * 4)).off + 3, none⟩ = some (.string ((rd_T41 l0 (ji25)).f1)) := hS_
                          obtain ⟨Ao43, co43, eo43⟩ := Kd.R_slice HO535.out
                          (first | subst eo43 | (injection eo43 with f1_ f2_ f3_; have f4_ := f1_.symm; have f5_ := f3_.symm; clear f1_ f2_ f3_; subst f4_; subst f5_))
                          refine norm_ (a' := ?_) ?_ ?_
                          rotate_left
                          · simp only [putAll, Act.put, List.setIfInBounds_toArray, List.set_cons_zero, List.set_cons_succ]
                            rfl
                          refine one_ (i := 11) (N := some 44) #[true, true, true, true, true, true, true, true, true, true, true, true, true, true, true, true, false, false] rfl rfl (one_of HT_.out (by kernel_rfl)) (by decide) (fun K hK => ?_)
                          refine Kd.R_append_rows_step k41 (w0 := w) w.heap.size (by rfl) (.tmp 38) (.tmp 43) 29 41 (.agg #[(.string ⟨#[]⟩), (.int .u64 0), (.int .u8 0), (.string ⟨#[]⟩)]) 48 rfl Try.underlying29 info41 rfl (by decide) (by omega) v530 y529 y533 _ _ _ (fun k_ => some k_ ≠ (.slice Ao43 y533.length co43 : Value).ownBlock) (fun _ => False) rfl rfl ?aO ?aR (fun _ _ h => h) (fun _ h => h.elim) ?aF ?aB ?aS ?aL ?_
                          (case aR => repeat (first | exact (Kd.R_reads' HO535.out).2.2 | (with_reducible refine Kd.C_alloc ?_ _) | (with_reducible refine Kd.C_drewN ?_ _) | (with_reducible refine Kd.C_drew ?_)))
                          (case aB => exact (by repeat (first | (with_reducible first | exact HB.out | apply below_alloc | apply pw_below_drewN | apply below_drew1) | exact HB.out)))
                          (case aF => exact (fun k_ hk => Kd.fresh' (Kd.R_lt (by (with_reducible repeat (first | apply Kd.R_alloc | apply Kd.R_drewN | apply Kd.R_drew)); exact HO535.out)) k_ hk))
                          (case aO => exact (by (with_reducible repeat (first | apply Kd.R_alloc | apply Kd.R_drewN | apply Kd.R_drew)); exact HO531.out))
                          (case aS => exact (below_size (by repeat (first | (with_reducible first | exact HB.out | apply below_alloc | apply pw_below_drewN | apply below_drew1) | exact HB.out))))
                          (case aL => have := LMc28.out; omega)
                          intro v537 w42 ho hb hg hat
                          rw [← Ny536.out] at ho
                          have n0_ := Aside0.mk (Kd.R_after (ok := (fun _ => True)) (by (with_reducible repeat (first | apply Kd.R_alloc | apply Kd.R_drewN | apply Kd.R_drew)); exact Kd.R_mono HO535.out (fun _ hk => ⟨trivial, hk⟩)) hg hat)
                          have n1_ := Aside0.mk (hb)
                          have n2_ := Aside0.mk (ho)
                          clear HO535
                          clear HB
                          clear HO531
                          have HO535 := n0_
                          have HB := n1_
                          have HO538 := n2_
                          clear n0_ n1_ n2_
                          clear ho hb hg hat
                          refine hK.out _ _ ⟨((HB.out.cell (World.block_lt_of_cell? w _ hw532_0)).trans hw532_0), ((HB.out.cell (World.block_lt_of_cell? w _ hw532_1)).trans hw532_1), ((HB.out.cell (World.block_lt_of_cell? w _ hw532_2)).trans hw532_2), ((HB.out.cell (World.block_lt_of_cell? w _ hw532_3)).trans hw532_3)⟩ (fun hHeld => ?_)
                          clear hK K
                          refine norm_ (a' := ?_) ?_ ?_
                          rotate_left
                          · show Act.put _ (some 44) _ = _
                            simp only [Act.put, List.setIfInBounds_toArray, List.set_cons_zero, List.set_cons_succ, i64_w, i32_w]
                            rfl
                          refine one_ (i := 16) (N := some 49) #[true, true, true, true, true, true, true, true, true, true, true, true, true, true, true, true, true, false] rfl rfl (one_of HT_.out (by kernel_rfl)) (by decide) (fun K hK => ?_)
                          refine Kd.R_append_rows_step k41 (w0 := w) w.heap.size (by rfl) (.tmp 44) (.tmp 48) 29 41 (.agg #[(.string ⟨#[]⟩), (.int .u64 0), (.int .u8 0), (.string ⟨#[]⟩)]) 48 rfl Try.underlying29 info41 rfl (by decide) (by omega) v537 y536 y539 _ _ _ (fun k_ => some k_ ≠ (.slice Ao43 y533.length co43 : Value).ownBlock) (fun _ => False) rfl rfl ?aO ?aR (fun _ _ h => h) (fun _ h => h.elim) ?aF ?aB ?aS ?aL ?_
                          (case aR => repeat (first | exact (Kd.C_below HR542.out HB.out) | (with_reducible refine Kd.C_alloc ?_ _) | (with_reducible refine Kd.C_drewN ?_ _) | (with_reducible refine Kd.C_drew ?_)))
                          (case aB => exact (by repeat (first | (with_reducible first | exact HB.out | apply below_alloc | apply pw_below_drewN | apply below_drew1) | exact HB.out)))
                          (case aF => exact (fun k_ hk => Kd.fresh' (Kd.R_lt (by (with_reducible repeat (first | apply Kd.R_alloc | apply Kd.R_drewN | apply Kd.R_drew)); exact HO535.out)) k_ hk))
                          (case aO => exact (by (with_reducible repeat (first | apply Kd.R_alloc | apply Kd.R_drewN | apply Kd.R_drew)); exact HO538.out))
                          (case aS => exact (below_size (by repeat (first | (with_reducible first | exact HB.out | apply below_alloc | apply pw_below_drewN | apply below_drew1) | exact HB.out))))
                          (case aL => have := LMc31.out; omega)
                          intro v544 w44 ho hb hg hat
                          rw [← Ny543.out] at ho
                          have n0_ := Aside0.mk (Kd.R_after (ok := (fun _ => True)) (by (with_reducible repeat (first | apply Kd.R_alloc | apply Kd.R_drewN | apply Kd.R_drew)); exact HO535.out) hg hat)
                          have n1_ := Aside0.mk (hb)
                          have n2_ := Aside0.mk (ho)
                          clear HO535
                          clear HB
                          clear HO538
                          have HO535 := n0_
                          have HB := n1_
                          have HO545 := n2_
                          clear n0_ n1_ n2_
                          clear ho hb hg hat
                          refine hK.out _ _ ⟨((HB.out.cell (World.block_lt_of_cell? w _ hw532_0)).trans hw532_0), ((HB.out.cell (World.block_lt_of_cell? w _ hw532_1)).trans hw532_1), ((HB.out.cell (World.block_lt_of_cell? w _ hw532_2)).trans hw532_2), ((HB.out.cell (World.block_lt_of_cell? w _ hw532_3)).trans hw532_3)⟩ (fun hHeld => ?_)
                          clear hK K
                          refine norm_ (a' := ?_) ?_ ?_
                          rotate_left
                          · show Act.put _ (some 49) _ = _
                            simp only [Act.put, List.setIfInBounds_toArray, List.set_cons_zero, List.set_cons_succ, i64_w, i32_w]
                            rfl
                          refine pure_ (i := 17) (N := some 6) (v := ?_) (a' := ?_) #[true, true, true, true, true, true, true, true, true, true, true, true, true, true, true, true, true, true] rfl rfl (any_of HT_.out (by kernel_rfl)) (fun _ _ _ h => h) (Or.inl ⟨by rfl, ?_⟩) ?_ ?_
                          rotate_left
                          · intro w'
                            go_simp
                            with_reducible rfl
                          rotate_left
                          · simp only [Act.put, List.setIfInBounds_toArray, List.set_cons_zero, List.set_cons_succ, i64_w, i32_w]
                            rfl
                          refine done_ (done_of HT_.out (by kernel_rfl)) ?_
                          go_upto_region 9 with (fail)
                          go_cut [67] (fun v67 wc => ∃ (kq : Nat) (x67_31 : Bool), v67 = .bool x67_31 ∧ Aside0 (ratlinelaw03_IkeyRising.j1 kq l0 x67_31 = some r) ∧ Aside0 (kq ≤ kj4) ∧ Aside0 (Below w.heap.size w wc))
                          case first =>
                            have H := HC32.out
                            clear HC32
                            replace H := Option.bind_eq_some_iff.mp H
                            obtain ⟨t546, A450, H⟩ := H
                            replace H : (if t546 = true then (ratlinelaw03_IkeyRising.j1 kj4 l0 true) else ((ikey_Rising.f kj4 l0).bind fun t547 => ((ikey_Rising.f kj4 (l0.take ((ji21) : Int).toNat)).bind fun t552 => (if t552 = true then (if (ji25) ≤ (l0.length : Int) then ((ikey_Rising.f kj4 (l0.drop ((ji25) : Int).toNat)).bind fun t557 => (ratlinelaw03_IkeyRising.j1 kj4 l0 (t547 != t557))) else (none)) else (ratlinelaw03_IkeyRising.j1 kj4 l0 (t547 != false)))))) = some r := H
                            have A45 := Aside0.mk A450
                            clear A450
                            by_cases c46 : t546 = true
                            · subst c46
                              have H1 : (ratlinelaw03_IkeyRising.j1 kj4 l0 true) = some r := by rw [if_pos rfl] at H; exact H
                              clear H
                              have H := H1
                              clear H1
                              have H' := Aside0.mk H
                              clear H
                              try go_wp2
                              have n0_ := Aside0.mk (Kd.R_drew HO535.out)
                              have n1_ := Aside0.mk (Kd.R_drew HO545.out)
                              have n2_ := Aside0.mk (below_drew1 HB.out)
                              clear HO535
                              clear HO545
                              clear HB
                              have HO535 := n0_
                              have HO545 := n1_
                              have HB := n2_
                              clear n0_ n1_ n2_
                              obtain ⟨Ao48, co48, eo48⟩ := Kd.R_slice HO545.out
                              (first | subst eo48 | (injection eo48 with f1_ f2_ f3_; have f4_ := f1_.symm; have f5_ := f3_.symm; clear f1_ f2_ f3_; subst f4_; subst f5_))
                              refine start_ (n := 18) (S := fun w' => True) (ds := []) #[false, false, false, false, false, false, false, false, false, false, false, false, false, false, false, false, false, false] (by kernel_rfl) rfl rfl trivial (fun hHeld => ?_); refine with_tabW ratlinelaw03_IkeyRising.tab9 ratlinelaw03_IkeyRising.bits9 (fun HT_ HW_ => ?_)
                              generalize w44.drew = w47 at HO535 HO545 HB hHeld ⊢
                              refine pure_ (i := 0) (N := some 50) (v := ?_) (a' := ?_) #[true, false, false, false, false, false, false, false, false, false, false, false, false, false, false, false, false, false] rfl rfl (any_of HT_.out (by kernel_rfl)) (fun _ _ _ h => h) (Or.inl ⟨by rfl, ?_⟩) ?_ ?_
                              rotate_left
                              · intro w'
                                go_simp
                                with_reducible rfl
                              rotate_left
                              · simp only [Act.put, List.setIfInBounds_toArray, List.set_cons_zero, List.set_cons_succ, i64_w, i32_w]
                                rfl
                              refine one_ (i := 1) (N := some 51) #[true, true, false, false, false, false, false, false, false, false, false, false, false, false, false, false, false, false] rfl rfl (one_of HT_.out (by kernel_rfl)) (by decide) (fun K hK => ?_)
                              refine goes_ Try.func24 (by kernel_rfl) rfl #[.slice Ao48 y543.length co48] (by rfl) rfl rfl (by (try simp only [List.map_toArray, List.map_cons, List.map_nil]); first | done | rfl | (simp only [List.length_drop, List.length_take]; rfl)) ?_
                              with_reducible refine (ikey_Rising.calls kj4 _ _ y543 true _ ?side1 ?side2 A45.out).mono ?_
                              (case side1 => repeat (first | exact (Kd.R_reads' HO545.out).2.2 | (with_reducible refine Kd.C_alloc ?_ _) | (with_reducible refine Kd.C_drewN ?_ _) | (with_reducible refine Kd.C_drew ?_)))
                              (case side2 => exact (Kd.R_reads' HO545.out).2.1)
                              rintro e w49 ⟨rfl, hb⟩
                              refine ⟨_, rfl, ?_⟩
                              have n0_ := Aside0.mk (Kd.R_below (by (with_reducible repeat (first | apply Kd.R_alloc | apply Kd.R_drewN | apply Kd.R_drew)); exact HO535.out) hb)
                              have n1_ := Aside0.mk (Kd.R_below (by (with_reducible repeat (first | apply Kd.R_alloc | apply Kd.R_drewN | apply Kd.R_drew)); exact HO545.out) hb)
                              have n2_ := Aside0.mk (below_step (by repeat (first | (with_reducible first | exact HB.out | apply below_alloc | apply pw_below_drewN | apply below_drew1) | exact HB.out)) hb)
                              clear HO535
                              clear HO545
                              clear HB
                              have HO535 := n0_
                              have HO545 := n1_
                              have HB := n2_
                              clear n0_ n1_ n2_
                              (try clear hb)
                              (try clear hb2)
                              (try clear hk)
                              (try clear hi)
                              refine hK.out _ _ trivial (fun hHeld => ?_)
                              clear hK K
                              refine norm_ (a' := ?_) ?_ ?_
                              rotate_left
                              · show Act.put _ (some 51) _ = _
                                simp only [Act.put, List.setIfInBounds_toArray, List.set_cons_zero, List.set_cons_succ, i64_w, i32_w]
                                rfl
                              refine pure_ (i := 2) (N := some 52) (v := ?_) (a' := ?_) #[true, true, true, false, false, false, false, false, false, false, false, false, false, false, false, false, false, false] rfl rfl (any_of HT_.out (by kernel_rfl)) (fun _ _ _ h => h) (Or.inl ⟨by rfl, ?_⟩) ?_ ?_
                              rotate_left
                              · intro w'
                                go_simp
                                with_reducible rfl
                              rotate_left
                              · simp only [Act.put, List.setIfInBounds_toArray, List.set_cons_zero, List.set_cons_succ, i64_w, i32_w]
                                rfl
                              refine pure_ (i := 3) (N := some 53) (v := undef) (a' := ?_) #[true, true, true, true, false, false, false, false, false, false, false, false, false, false, false, false, false, false] rfl rfl (any_of HT_.out (by kernel_rfl)) (fun _ _ _ h => h) (Or.inr ⟨by rfl, rfl⟩) ?_ ?_
                              rotate_left
                              · simp only [Act.put, List.setIfInBounds_toArray, List.set_cons_zero, List.set_cons_succ, i64_w, i32_w]
                                rfl
                              refine pure_ (i := 4) (N := some 54) (v := undef) (a' := ?_) #[true, true, true, true, true, false, false, false, false, false, false, false, false, false, false, false, false, false] rfl rfl (any_of HT_.out (by kernel_rfl)) (fun _ _ _ h => h) (Or.inr ⟨by rfl, rfl⟩) ?_ ?_
                              rotate_left
                              · simp only [Act.put, List.setIfInBounds_toArray, List.set_cons_zero, List.set_cons_succ, i64_w, i32_w]
                                rfl
                              refine pure_ (i := 5) (N := some 55) (v := undef) (a' := ?_) #[true, true, true, true, true, true, false, false, false, false, false, false, false, false, false, false, false, false] rfl rfl (any_of HT_.out (by kernel_rfl)) (fun _ _ _ h => h) (Or.inr ⟨by rfl, rfl⟩) ?_ ?_
                              rotate_left
                              · simp only [Act.put, List.setIfInBounds_toArray, List.set_cons_zero, List.set_cons_succ, i64_w, i32_w]
                                rfl
                              refine pure_ (i := 6) (N := some 56) (v := undef) (a' := ?_) #[true, true, true, true, true, true, true, false, false, false, false, false, false, false, false, false, false, false] rfl rfl (any_of HT_.out (by kernel_rfl)) (fun _ _ _ h => h) (Or.inr ⟨by rfl, rfl⟩) ?_ ?_
                              rotate_left
                              · simp only [Act.put, List.setIfInBounds_toArray, List.set_cons_zero, List.set_cons_succ, i64_w, i32_w]
                                rfl
                              refine pure_ (i := 7) (N := some 57) (v := undef) (a' := ?_) #[true, true, true, true, true, true, true, true, false, false, false, false, false, false, false, false, false, false] rfl rfl (any_of HT_.out (by kernel_rfl)) (fun _ _ _ h => h) (Or.inr ⟨by rfl, rfl⟩) ?_ ?_
                              rotate_left
                              · simp only [Act.put, List.setIfInBounds_toArray, List.set_cons_zero, List.set_cons_succ, i64_w, i32_w]
                                rfl
                              refine pure_ (i := 8) (N := some 58) (v := undef) (a' := ?_) #[true, true, true, true, true, true, true, true, true, false, false, false, false, false, false, false, false, false] rfl rfl (any_of HT_.out (by kernel_rfl)) (fun _ _ _ h => h) (Or.inr ⟨by rfl, rfl⟩) ?_ ?_
                              rotate_left
                              · simp only [Act.put, List.setIfInBounds_toArray, List.set_cons_zero, List.set_cons_succ, i64_w, i32_w]
                                rfl
                              refine pure_ (i := 9) (N := some 59) (v := undef) (a' := ?_) #[true, true, true, true, true, true, true, true, true, true, false, false, false, false, false, false, false, false] rfl rfl (any_of HT_.out (by kernel_rfl)) (fun _ _ _ h => h) (Or.inr ⟨by rfl, rfl⟩) ?_ ?_
                              rotate_left
                              · simp only [Act.put, List.setIfInBounds_toArray, List.set_cons_zero, List.set_cons_succ, i64_w, i32_w]
                                rfl
                              refine pure_ (i := 10) (N := some 60) (v := undef) (a' := ?_) #[true, true, true, true, true, true, true, true, true, true, true, false, false, false, false, false, false, false] rfl rfl (any_of HT_.out (by kernel_rfl)) (fun _ _ _ h => h) (Or.inr ⟨by rfl, rfl⟩) ?_ ?_
                              rotate_left
                              · simp only [Act.put, List.setIfInBounds_toArray, List.set_cons_zero, List.set_cons_succ, i64_w, i32_w]
                                rfl
                              refine pure_ (i := 11) (N := some 61) (v := undef) (a' := ?_) #[true, true, true, true, true, true, true, true, true, true, true, true, false, false, false, false, false, false] rfl rfl (any_of HT_.out (by kernel_rfl)) (fun _ _ _ h => h) (Or.inr ⟨by rfl, rfl⟩) ?_ ?_
                              rotate_left
                              · simp only [Act.put, List.setIfInBounds_toArray, List.set_cons_zero, List.set_cons_succ, i64_w, i32_w]
                                rfl
                              refine pure_ (i := 12) (N := some 62) (v := undef) (a' := ?_) #[true, true, true, true, true, true, true, true, true, true, true, true, true, false, false, false, false, false] rfl rfl (any_of HT_.out (by kernel_rfl)) (fun _ _ _ h => h) (Or.inr ⟨by rfl, rfl⟩) ?_ ?_
                              rotate_left
                              · simp only [Act.put, List.setIfInBounds_toArray, List.set_cons_zero, List.set_cons_succ, i64_w, i32_w]
                                rfl
                              refine pure_ (i := 13) (N := some 63) (v := undef) (a' := ?_) #[true, true, true, true, true, true, true, true, true, true, true, true, true, true, false, false, false, false] rfl rfl (any_of HT_.out (by kernel_rfl)) (fun _ _ _ h => h) (Or.inr ⟨by rfl, rfl⟩) ?_ ?_
                              rotate_left
                              · simp only [Act.put, List.setIfInBounds_toArray, List.set_cons_zero, List.set_cons_succ, i64_w, i32_w]
                                rfl
                              refine pure_ (i := 14) (N := some 64) (v := undef) (a' := ?_) #[true, true, true, true, true, true, true, true, true, true, true, true, true, true, true, false, false, false] rfl rfl (any_of HT_.out (by kernel_rfl)) (fun _ _ _ h => h) (Or.inr ⟨by rfl, rfl⟩) ?_ ?_
                              rotate_left
                              · simp only [Act.put, List.setIfInBounds_toArray, List.set_cons_zero, List.set_cons_succ, i64_w, i32_w]
                                rfl
                              refine pure_ (i := 15) (N := some 65) (v := undef) (a' := ?_) #[true, true, true, true, true, true, true, true, true, true, true, true, true, true, true, true, false, false] rfl rfl (any_of HT_.out (by kernel_rfl)) (fun _ _ _ h => h) (Or.inr ⟨by rfl, rfl⟩) ?_ ?_
                              rotate_left
                              · simp only [Act.put, List.setIfInBounds_toArray, List.set_cons_zero, List.set_cons_succ, i64_w, i32_w]
                                rfl
                              refine pure_ (i := 16) (N := some 66) (v := undef) (a' := ?_) #[true, true, true, true, true, true, true, true, true, true, true, true, true, true, true, true, true, false] rfl rfl (any_of HT_.out (by kernel_rfl)) (fun _ _ _ h => h) (Or.inr ⟨by rfl, rfl⟩) ?_ ?_
                              rotate_left
                              · simp only [Act.put, List.setIfInBounds_toArray, List.set_cons_zero, List.set_cons_succ, i64_w, i32_w]
                                rfl
                              refine pure_ (i := 17) (N := some 67) (v := ?_) (a' := ?_) #[true, true, true, true, true, true, true, true, true, true, true, true, true, true, true, true, true, true] rfl rfl (any_of HT_.out (by kernel_rfl)) (fun _ _ _ h => h) (Or.inl ⟨by rfl, ?_⟩) ?_ ?_
                              rotate_left
                              · intro w'
                                go_simp
                                with_reducible rfl
                              rotate_left
                              · simp only [Act.put, List.setIfInBounds_toArray, List.set_cons_zero, List.set_cons_succ, i64_w, i32_w]
                                rfl
                              refine done_ (done_of HT_.out (by kernel_rfl)) ?_
                              try go_wp2
                              go_meet
                              case rel => exact ⟨_, (true), (by first | rfl | (simp; done) | (simp [*]; done)), H', ⟨by have := HJ4.out; first | omega | exact Nat.le_refl _⟩, ⟨by repeat (first | (with_reducible first | exact HB.out | apply below_alloc | apply pw_below_drewN | apply below_drew1) | exact HB.out)⟩⟩
                            · replace c46 := Bool.eq_false_iff.mpr c46
                              subst c46
                              have H1 : ((ikey_Rising.f kj4 l0).bind fun t547 => ((ikey_Rising.f kj4 (l0.take ((ji21) : Int).toNat)).bind fun t552 => (if t552 = true then (if (ji25) ≤ (l0.length : Int) then ((ikey_Rising.f kj4 (l0.drop ((ji25) : Int).toNat)).bind fun t557 => (ratlinelaw03_IkeyRising.j1 kj4 l0 (t547 != t557))) else (none)) else (ratlinelaw03_IkeyRising.j1 kj4 l0 (t547 != false))))) = some r := by rw [if_neg (show ¬ (false = true) by decide)] at H; exact H
                              clear H
                              have H := H1
                              clear H1
                              replace H := Option.bind_eq_some_iff.mp H
                              obtain ⟨t547, A500, H⟩ := H
                              replace H : ((ikey_Rising.f kj4 (l0.take ((ji21) : Int).toNat)).bind fun t552 => (if t552 = true then (if (ji25) ≤ (l0.length : Int) then ((ikey_Rising.f kj4 (l0.drop ((ji25) : Int).toNat)).bind fun t557 => (ratlinelaw03_IkeyRising.j1 kj4 l0 (t547 != t557))) else (none)) else (ratlinelaw03_IkeyRising.j1 kj4 l0 (t547 != false)))) = some r := H
                              have A50 := Aside0.mk A500
                              clear A500
                              have c51b0 := eq_true (of_decide_eq_true (by first | (with_reducible assumption) | assumption) : 0 ≤ (ji21))
                              have c52b0 := eq_true (of_decide_eq_true (by first | (with_reducible assumption) | assumption) : (ji21) ≤ (l0.length : Int))
                              obtain ⟨y548, hy548⟩ : ∃ y_ : List (S41), y_ = (l0.take ((ji21) : Int).toNat) := ⟨_, rfl⟩
                              replace H : ((ikey_Rising.f kj4 y548).bind fun t552 => (if t552 = true then (if (ji25) ≤ (l0.length : Int) then ((ikey_Rising.f kj4 (l0.drop ((ji25) : Int).toNat)).bind fun t557 => (ratlinelaw03_IkeyRising.j1 kj4 l0 (t547 != t557))) else (none)) else (ratlinelaw03_IkeyRising.j1 kj4 l0 (t547 != false)))) = some r := by first | (rw [hy548]; with_reducible exact H) | (have H2_ := (Option.bind_some _ _).symm.trans H; rw [hy548]; with_reducible exact H2_) | (have H2_ := (Option.bind_some _ _).symm.trans H; with_reducible exact H2_) | with_reducible exact H | (rw [hy548]; exact H) | exact H
                              have Ny548 := Aside0.mk hy548
                              clear hy548
                              replace H := Option.bind_eq_some_iff.mp H
                              obtain ⟨t552, A530, H⟩ := H
                              replace H : (if t552 = true then (if (ji25) ≤ (l0.length : Int) then ((ikey_Rising.f kj4 (l0.drop ((ji25) : Int).toNat)).bind fun t557 => (ratlinelaw03_IkeyRising.j1 kj4 l0 (t547 != t557))) else (none)) else (ratlinelaw03_IkeyRising.j1 kj4 l0 (t547 != false))) = some r := H
                              have A53 := Aside0.mk A530
                              clear A530
                              by_cases c54 : t552 = true
                              · subst c54
                                have H1 : (if (ji25) ≤ (l0.length : Int) then ((ikey_Rising.f kj4 (l0.drop ((ji25) : Int).toNat)).bind fun t557 => (ratlinelaw03_IkeyRising.j1 kj4 l0 (t547 != t557))) else (none)) = some r := by rw [if_pos rfl] at H; exact H
                                clear H
                                have H := H1
                                clear H1
                                have c55b0 := eq_true (of_decide_eq_true (by first | (with_reducible assumption) | assumption) : 0 ≤ (ji25))
                                by_cases c56 : (ji25) ≤ (l0.length : Int)
                                · rw [if_pos c56] at H
                                  have c56b0 := eq_true c56
                                  have c56b1 : decide ((ji25) ≤ (l0.length : Int)) = true := decide_eq_true c56
                                  clear c56
                                  obtain ⟨y553, hy553⟩ : ∃ y_ : List (S41), y_ = (l0.drop ((ji25) : Int).toNat) := ⟨_, rfl⟩
                                  replace H : ((ikey_Rising.f kj4 y553).bind fun t557 => (ratlinelaw03_IkeyRising.j1 kj4 l0 (t547 != t557))) = some r := by first | (rw [hy553]; with_reducible exact H) | (have H2_ := (Option.bind_some _ _).symm.trans H; rw [hy553]; with_reducible exact H2_) | (have H2_ := (Option.bind_some _ _).symm.trans H; with_reducible exact H2_) | with_reducible exact H | (rw [hy553]; exact H) | exact H
                                  have Ny553 := Aside0.mk hy553
                                  clear hy553
                                  replace H := Option.bind_eq_some_iff.mp H
                                  obtain ⟨t557, A570, H⟩ := H
                                  replace H : (ratlinelaw03_IkeyRising.j1 kj4 l0 (t547 != t557)) = some r := H
                                  have A57 := Aside0.mk A570
                                  clear A570
                                  have H' := Aside0.mk H
                                  clear H
                                  try go_wp2
                                  have n0_ := Aside0.mk (Kd.R_drew HO535.out)
                                  have n1_ := Aside0.mk (Kd.R_drew HO545.out)
                                  have n2_ := Aside0.mk (below_drew1 HB.out)
                                  clear HO535
                                  clear HO545
                                  clear HB
                                  have HO535 := n0_
                                  have HO545 := n1_
                                  have HB := n2_
                                  clear n0_ n1_ n2_
                                  obtain ⟨Ao59, co59, eo59⟩ := Kd.R_slice HO545.out
                                  (first | subst eo59 | (injection eo59 with f1_ f2_ f3_; have f4_ := f1_.symm; have f5_ := f3_.symm; clear f1_ f2_ f3_; subst f4_; subst f5_))
                                  refine start_ (n := 18) (S := fun w' => True) (ds := []) #[false, false, false, false, false, false, false, false, false, false, false, false, false, false, false, false, false, false] (by kernel_rfl) rfl rfl trivial (fun hHeld => ?_); refine with_tabW ratlinelaw03_IkeyRising.tab9 ratlinelaw03_IkeyRising.bits9 (fun HT_ HW_ => ?_)
                                  generalize w44.drew = w58 at HO535 HO545 HB hHeld ⊢
                                  refine pure_ (i := 0) (N := some 50) (v := ?_) (a' := ?_) #[true, false, false, false, false, false, false, false, false, false, false, false, false, false, false, false, false, false] rfl rfl (any_of HT_.out (by kernel_rfl)) (fun _ _ _ h => h) (Or.inl ⟨by rfl, ?_⟩) ?_ ?_
                                  rotate_left
                                  · intro w'
                                    go_simp
                                    with_reducible rfl
                                  rotate_left
                                  · simp only [Act.put, List.setIfInBounds_toArray, List.set_cons_zero, List.set_cons_succ, i64_w, i32_w]
                                    rfl
                                  refine one_ (i := 1) (N := some 51) #[true, true, false, false, false, false, false, false, false, false, false, false, false, false, false, false, false, false] rfl rfl (one_of HT_.out (by kernel_rfl)) (by decide) (fun K hK => ?_)
                                  refine goes_ Try.func24 (by kernel_rfl) rfl #[.slice Ao59 y543.length co59] (by rfl) rfl rfl (by (try simp only [List.map_toArray, List.map_cons, List.map_nil]); first | done | rfl | (simp only [List.length_drop, List.length_take]; rfl)) ?_
                                  with_reducible refine (ikey_Rising.calls kj4 _ _ y543 false _ ?side1 ?side2 A45.out).mono ?_
                                  (case side1 => repeat (first | exact (Kd.R_reads' HO545.out).2.2 | (with_reducible refine Kd.C_alloc ?_ _) | (with_reducible refine Kd.C_drewN ?_ _) | (with_reducible refine Kd.C_drew ?_)))
                                  (case side2 => exact (Kd.R_reads' HO545.out).2.1)
                                  rintro e w60 ⟨rfl, hb⟩
                                  refine ⟨_, rfl, ?_⟩
                                  have n0_ := Aside0.mk (Kd.R_below (by (with_reducible repeat (first | apply Kd.R_alloc | apply Kd.R_drewN | apply Kd.R_drew)); exact HO535.out) hb)
                                  have n1_ := Aside0.mk (Kd.R_below (by (with_reducible repeat (first | apply Kd.R_alloc | apply Kd.R_drewN | apply Kd.R_drew)); exact HO545.out) hb)
                                  have n2_ := Aside0.mk (below_step (by repeat (first | (with_reducible first | exact HB.out | apply below_alloc | apply pw_below_drewN | apply below_drew1) | exact HB.out)) hb)
                                  clear HO535
                                  clear HO545
                                  clear HB
                                  have HO535 := n0_
                                  have HO545 := n1_
                                  have HB := n2_
                                  clear n0_ n1_ n2_
                                  (try clear hb)
                                  (try clear hb2)
                                  (try clear hk)
                                  (try clear hi)
                                  refine hK.out _ _ trivial (fun hHeld => ?_)
                                  clear hK K
                                  refine norm_ (a' := ?_) ?_ ?_
                                  rotate_left
                                  · show Act.put _ (some 51) _ = _
                                    simp only [Act.put, List.setIfInBounds_toArray, List.set_cons_zero, List.set_cons_succ, i64_w, i32_w]
                                    rfl
                                  refine pure_ (i := 2) (N := some 52) (v := ?_) (a' := ?_) #[true, true, true, false, false, false, false, false, false, false, false, false, false, false, false, false, false, false] rfl rfl (any_of HT_.out (by kernel_rfl)) (fun _ _ _ h => h) (Or.inl ⟨by rfl, ?_⟩) ?_ ?_
                                  rotate_left
                                  · intro w'
                                    go_simp
                                    with_reducible rfl
                                  rotate_left
                                  · simp only [Act.put, List.setIfInBounds_toArray, List.set_cons_zero, List.set_cons_succ, i64_w, i32_w]
                                    rfl
                                  refine pure_ (i := 3) (N := some 53) (v := ?_) (a' := ?_) #[true, true, true, true, false, false, false, false, false, false, false, false, false, false, false, false, false, false] rfl rfl (any_of HT_.out (by kernel_rfl)) (fun _ _ _ h => h) (Or.inl ⟨by rfl, ?_⟩) ?_ ?_
                                  rotate_left
                                  · intro w'
                                    go_simp
                                    with_reducible rfl
                                  rotate_left
                                  · simp only [Act.put, List.setIfInBounds_toArray, List.set_cons_zero, List.set_cons_succ, i64_w, i32_w]
                                    rfl
                                  refine pure_ (i := 5) (N := some 55) (v := ?_) (a' := ?_) #[true, true, true, true, false, true, false, false, false, false, false, false, false, false, false, false, false, false] rfl rfl (any_of HT_.out (by kernel_rfl)) (fun _ _ _ h => h) (Or.inl ⟨by rfl, ?_⟩) ?_ ?_
                                  rotate_left
                                  · intro w'
                                    go_simp
                                    with_reducible rfl
                                  rotate_left
                                  · simp only [Act.put, List.setIfInBounds_toArray, List.set_cons_zero, List.set_cons_succ, i64_w, i32_w]
                                    rfl
                                  refine pure_ (i := 6) (N := some 56) (v := ?_) (a' := ?_) #[true, true, true, true, false, true, true, false, false, false, false, false, false, false, false, false, false, false] rfl rfl (any_of HT_.out (by kernel_rfl)) (fun _ _ _ h => h) (Or.inl ⟨by rfl, ?_⟩) ?_ ?_
                                  rotate_left
                                  · intro w'
                                    go_simp
                                    with_reducible rfl
                                  rotate_left
                                  · simp only [Act.put, List.setIfInBounds_toArray, List.set_cons_zero, List.set_cons_succ, i64_w, i32_w]
                                    rfl
                                  refine pure_ (i := 7) (N := some 57) (v := ?_) (a' := ?_) #[true, true, true, true, false, true, true, true, false, false, false, false, false, false, false, false, false, false] rfl rfl (any_of HT_.out (by kernel_rfl)) (fun _ _ _ h => h) (Or.inl ⟨by rfl, ?_⟩) ?_ ?_
                                  rotate_left
                                  · intro w'
                                    go_simp
                                    with_reducible rfl
                                  rotate_left
                                  · simp only [Act.put, List.setIfInBounds_toArray, List.set_cons_zero, List.set_cons_succ, i64_w, i32_w]
                                    rfl
                                  refine pure_ (i := 8) (N := some 58) (v := ?_) (a' := ?_) #[true, true, true, true, false, true, true, true, true, false, false, false, false, false, false, false, false, false] rfl rfl (any_of HT_.out (by kernel_rfl)) (fun _ _ _ h => h) (Or.inl ⟨by rfl, ?_⟩) ?_ ?_
                                  rotate_left
                                  · intro w'
                                    go_simp
                                    with_reducible rfl
                                  rotate_left
                                  · simp only [Act.put, List.setIfInBounds_toArray, List.set_cons_zero, List.set_cons_succ, i64_w, i32_w]
                                    rfl
                                  refine one_ (i := 4) (N := some 54) #[true, true, true, true, true, true, true, true, true, false, false, false, false, false, false, false, false, false] rfl rfl (one_of HT_.out (by kernel_rfl)) (by decide) (fun K hK => ?_)
                                  refine goes_ Try.func24 (by kernel_rfl) rfl #[.slice (some ad532) l0.length c0] (by rfl) rfl rfl (by (try simp only [List.map_toArray, List.map_cons, List.map_nil]); first | done | rfl | (simp only [List.length_drop, List.length_take]; rfl)) ?_
                                  with_reducible refine (ikey_Rising.calls kj4 _ _ l0 t547 _ ?side1 ?side2 A50.out).mono ?_
                                  (case side1 => repeat (first | exact (Kd.C_below HR0.out HB.out) | (with_reducible refine Kd.C_alloc ?_ _) | (with_reducible refine Kd.C_drewN ?_ _) | (with_reducible refine Kd.C_drew ?_)))
                                  (case side2 => exact HC0.out)
                                  rintro e w61 ⟨rfl, hb⟩
                                  refine ⟨_, rfl, ?_⟩
                                  have n0_ := Aside0.mk (Kd.R_below (by (with_reducible repeat (first | apply Kd.R_alloc | apply Kd.R_drewN | apply Kd.R_drew)); exact HO535.out) hb)
                                  have n1_ := Aside0.mk (Kd.R_below (by (with_reducible repeat (first | apply Kd.R_alloc | apply Kd.R_drewN | apply Kd.R_drew)); exact HO545.out) hb)
                                  have n2_ := Aside0.mk (below_step (by repeat (first | (with_reducible first | exact HB.out | apply below_alloc | apply pw_below_drewN | apply below_drew1) | exact HB.out)) hb)
                                  clear HO535
                                  clear HO545
                                  clear HB
                                  have HO535 := n0_
                                  have HO545 := n1_
                                  have HB := n2_
                                  clear n0_ n1_ n2_
                                  (try clear hb)
                                  (try clear hb2)
                                  (try clear hk)
                                  (try clear hi)
                                  have q62 : ((ji21) : Int) ≤ ((l0.length : Int) : Int) := of_decide_eq_true (by first | (with_reducible assumption) | assumption)
                                  obtain ⟨i062, hi062, _, hsz62, _⟩ := info_parts info41
                                  have hroom62 : l0.length ≤ c0 := HC0.out
                                  have hC62 : Kd.C k41 _ (some ad532) l0.length l0 := HR0.out
                                  have hcut62 := cut_to (P := Try.prog) 29 41 .i64 Try.underlying29 hi062 (some ad532) l0.length c0 (ji21) (of_decide_eq_true (by first | (with_reducible assumption) | assumption)) q62 hroom62
                                  have hr62 := Kd.C_take (m := ((ji21) : Int).toNat) hC62 (by omega)
                                  have hy62 : y548.length = ((ji21) : Int).toNat := (by rw [Ny548.out, List.length_take]; omega)
                                  rw [← Ny548.out] at hr62
                                  rw [← hy62] at hcut62
                                  have HR551 := Aside0.mk hr62
                                  have HC551 := Aside0.mk (show y548.length ≤ c0 from by omega)
                                  clear hr62 hC62 hroom62 hi062 hsz62
                                  have KY62 := Aside0.mk hy62
                                  clear hy62
                                  replace q62 := eq_true q62
                                  refine hK.out _ _ trivial (fun hHeld => ?_)
                                  clear hK K
                                  refine norm_ (a' := ?_) ?_ ?_
                                  rotate_left
                                  · show Act.put _ (some 54) _ = _
                                    simp only [Act.put, List.setIfInBounds_toArray, List.set_cons_zero, List.set_cons_succ, i64_w, i32_w]
                                    rfl
                                  refine one_ (i := 9) (N := some 59) #[true, true, true, true, true, true, true, true, true, true, false, false, false, false, false, false, false, false] rfl rfl (one_of HT_.out (by kernel_rfl)) (by decide) (fun K hK => ?_)
                                  refine goes_ Try.func24 (by kernel_rfl) rfl #[.slice (some ad532) y548.length c0] (by rfl) rfl rfl (by (try simp only [List.map_toArray, List.map_cons, List.map_nil]); first | done | rfl | (rw [KY62.out, ← hji21xji25]; rfl) | (rw [KY62.out, ← KY34.out]; rfl) | (simp only [List.length_drop, List.length_take]; rfl)) ?_
                                  with_reducible refine (ikey_Rising.calls kj4 _ _ y548 true _ ?side1 ?side2 A53.out).mono ?_
                                  (case side1 => repeat (first | exact (Kd.C_below HR551.out HB.out) | (with_reducible refine Kd.C_alloc ?_ _) | (with_reducible refine Kd.C_drewN ?_ _) | (with_reducible refine Kd.C_drew ?_)))
                                  (case side2 => exact HC551.out)
                                  rintro e w63 ⟨rfl, hb⟩
                                  refine ⟨_, rfl, ?_⟩
                                  have n0_ := Aside0.mk (Kd.R_below (by (with_reducible repeat (first | apply Kd.R_alloc | apply Kd.R_drewN | apply Kd.R_drew)); exact HO535.out) hb)
                                  have n1_ := Aside0.mk (Kd.R_below (by (with_reducible repeat (first | apply Kd.R_alloc | apply Kd.R_drewN | apply Kd.R_drew)); exact HO545.out) hb)
                                  have n2_ := Aside0.mk (below_step (by repeat (first | (with_reducible first | exact HB.out | apply below_alloc | apply pw_below_drewN | apply below_drew1) | exact HB.out)) hb)
                                  clear HO535
                                  clear HO545
                                  clear HB
                                  have HO535 := n0_
                                  have HO545 := n1_
                                  have HB := n2_
                                  clear n0_ n1_ n2_
                                  (try clear hb)
                                  (try clear hb2)
                                  (try clear hk)
                                  (try clear hi)
                                  have q64 : ((ji25) : Int) ≤ ((l0.length : Int) : Int) := of_decide_eq_true (by first | (with_reducible assumption) | assumption)
                                  obtain ⟨i064, hi064, _, hsz64, _⟩ := info_parts info41
                                  have hroom64 : l0.length ≤ c0 := HC0.out
                                  have hC64 : Kd.C k41 _ (some ad532) l0.length l0 := HR0.out
                                  have q064 : (0 : Int) ≤ ((ji25) : Int) := of_decide_eq_true (by first | (with_reducible assumption) | assumption)
                                  have hcut64 := cut_from (P := Try.prog) 29 41 .i64 Try.underlying29 hi064 4 hsz64 (some ad532) l0.length c0 (ji25) q064 q64
                                  have hr64 := Kd.C_drop (m := ((ji25) : Int).toNat) (c := c0) hC64 (by omega) hroom64
                                  obtain ⟨A64, hA64⟩ : ∃ A1, A1 = (if c0 = ((ji25) : Int).toNat then (some ad532) else ((some ad532) : Option Addr).map (·.add (((ji25) : Int).toNat * 4))) := ⟨_, rfl⟩
                                  obtain ⟨c64, hc64⟩ : ∃ c1, c1 = c0 - ((ji25) : Int).toNat := ⟨_, rfl⟩
                                  have hy64 : y553.length = l0.length - ((ji25) : Int).toNat := (by rw [Ny553.out, List.length_drop] <;> omega)
                                  rw [show (l0).drop ((ji25) : Int).toNat = y553 from Ny553.out.symm] at hr64
                                  replace hr64 : Kd.C k41 _ A64 y553.length y553 := (by rw [hA64]; exact hr64)
                                  rw [← hy64, ← hA64, ← hc64] at hcut64
                                  have HR556 := Aside0.mk hr64
                                  have HC556 := Aside0.mk (show y553.length ≤ c64 from by rw [hy64, hc64]; exact Nat.sub_le_sub_right hroom64 _)
                                  clear hr64 hC64 hroom64 hi064 hsz64 hc64
                                  have KY64 := Aside0.mk hy64
                                  have KA64 := Aside0.mk hA64
                                  clear hy64 hA64
                                  replace q64 := eq_true q64
                                  refine hK.out _ _ trivial (fun hHeld => ?_)
                                  clear hK K
                                  refine norm_ (a' := ?_) ?_ ?_
                                  rotate_left
                                  · show Act.put _ (some 59) _ = _
                                    simp only [Act.put, List.setIfInBounds_toArray, List.set_cons_zero, List.set_cons_succ, i64_w, i32_w]
                                    rfl
                                  refine pure_ (i := 10) (N := some 60) (v := ?_) (a' := ?_) #[true, true, true, true, true, true, true, true, true, true, true, false, false, false, false, false, false, false] rfl rfl (any_of HT_.out (by kernel_rfl)) (fun _ _ _ h => h) (Or.inl ⟨by rfl, ?_⟩) ?_ ?_
                                  rotate_left
                                  · intro w'
                                    go_simp
                                    with_reducible rfl
                                  rotate_left
                                  · simp only [Act.put, List.setIfInBounds_toArray, List.set_cons_zero, List.set_cons_succ, i64_w, i32_w]
                                    rfl
                                  refine pure_ (i := 11) (N := some 61) (v := ?_) (a' := ?_) #[true, true, true, true, true, true, true, true, true, true, true, true, false, false, false, false, false, false] rfl rfl (any_of HT_.out (by kernel_rfl)) (fun _ _ _ h => h) (Or.inl ⟨by rfl, ?_⟩) ?_ ?_
                                  rotate_left
                                  · intro w'
                                    go_simp
                                    with_reducible rfl
                                  rotate_left
                                  · simp only [Act.put, List.setIfInBounds_toArray, List.set_cons_zero, List.set_cons_succ, i64_w, i32_w]
                                    rfl
                                  refine pure_ (i := 12) (N := some 62) (v := ?_) (a' := ?_) #[true, true, true, true, true, true, true, true, true, true, true, true, true, false, false, false, false, false] rfl rfl (any_of HT_.out (by kernel_rfl)) (fun _ _ _ h => h) (Or.inl ⟨by rfl, ?_⟩) ?_ ?_
                                  rotate_left
                                  · intro w'
                                    go_simp
                                    with_reducible rfl
                                  rotate_left
                                  · simp only [Act.put, List.setIfInBounds_toArray, List.set_cons_zero, List.set_cons_succ, i64_w, i32_w]
                                    rfl
                                  refine pure_ (i := 13) (N := some 63) (v := ?_) (a' := ?_) #[true, true, true, true, true, true, true, true, true, true, true, true, true, true, false, false, false, false] rfl rfl (any_of HT_.out (by kernel_rfl)) (fun _ _ _ h => h) (Or.inl ⟨by rfl, ?_⟩) ?_ ?_
                                  rotate_left
                                  · intro w'
                                    go_simp
                                    with_reducible rfl
                                  rotate_left
                                  · simp only [Act.put, List.setIfInBounds_toArray, List.set_cons_zero, List.set_cons_succ, i64_w, i32_w]
                                    rfl
                                  refine one_ (i := 14) (N := some 64) #[true, true, true, true, true, true, true, true, true, true, true, true, true, true, true, false, false, false] rfl rfl (one_of HT_.out (by kernel_rfl)) (by decide) (fun K hK => ?_)
                                  refine goes_ Try.func24 (by kernel_rfl) rfl #[.slice A64 y553.length c64] (by rfl) rfl rfl (by (try simp only [List.map_toArray, List.map_cons, List.map_nil]); first | done | rfl | (simp only [List.length_drop, List.length_take]; rfl)) ?_
                                  with_reducible refine (ikey_Rising.calls kj4 _ _ y553 t557 _ ?side1 ?side2 A57.out).mono ?_
                                  (case side1 => repeat (first | exact (Kd.C_below HR556.out HB.out) | (with_reducible refine Kd.C_alloc ?_ _) | (with_reducible refine Kd.C_drewN ?_ _) | (with_reducible refine Kd.C_drew ?_)))
                                  (case side2 => exact HC556.out)
                                  rintro e w65 ⟨rfl, hb⟩
                                  refine ⟨_, rfl, ?_⟩
                                  have n0_ := Aside0.mk (Kd.R_below (by (with_reducible repeat (first | apply Kd.R_alloc | apply Kd.R_drewN | apply Kd.R_drew)); exact HO535.out) hb)
                                  have n1_ := Aside0.mk (Kd.R_below (by (with_reducible repeat (first | apply Kd.R_alloc | apply Kd.R_drewN | apply Kd.R_drew)); exact HO545.out) hb)
                                  have n2_ := Aside0.mk (below_step (by repeat (first | (with_reducible first | exact HB.out | apply below_alloc | apply pw_below_drewN | apply below_drew1) | exact HB.out)) hb)
                                  clear HO535
                                  clear HO545
                                  clear HB
                                  have HO535 := n0_
                                  have HO545 := n1_
                                  have HB := n2_
                                  clear n0_ n1_ n2_
                                  (try clear hb)
                                  (try clear hb2)
                                  (try clear hk)
                                  (try clear hi)
                                  refine hK.out _ _ trivial (fun hHeld => ?_)
                                  clear hK K
                                  refine norm_ (a' := ?_) ?_ ?_
                                  rotate_left
                                  · show Act.put _ (some 64) _ = _
                                    simp only [Act.put, List.setIfInBounds_toArray, List.set_cons_zero, List.set_cons_succ, i64_w, i32_w]
                                    rfl
                                  refine pure_ (i := 15) (N := some 65) (v := ?_) (a' := ?_) #[true, true, true, true, true, true, true, true, true, true, true, true, true, true, true, true, false, false] rfl rfl (any_of HT_.out (by kernel_rfl)) (fun _ _ _ h => h) (Or.inl ⟨by rfl, ?_⟩) ?_ ?_
                                  rotate_left
                                  · intro w'
                                    go_simp
                                    with_reducible rfl
                                  rotate_left
                                  · simp only [Act.put, List.setIfInBounds_toArray, List.set_cons_zero, List.set_cons_succ, i64_w, i32_w]
                                    rfl
                                  refine pure_ (i := 16) (N := some 66) (v := ?_) (a' := ?_) #[true, true, true, true, true, true, true, true, true, true, true, true, true, true, true, true, true, false] rfl rfl (any_of HT_.out (by kernel_rfl)) (fun _ _ _ h => h) (Or.inl ⟨by rfl, ?_⟩) ?_ ?_
                                  rotate_left
                                  · intro w'
                                    go_simp
                                    with_reducible rfl
                                  rotate_left
                                  · simp only [Act.put, List.setIfInBounds_toArray, List.set_cons_zero, List.set_cons_succ, i64_w, i32_w]
                                    rfl
                                  refine pure_ (i := 17) (N := some 67) (v := ?_) (a' := ?_) #[true, true, true, true, true, true, true, true, true, true, true, true, true, true, true, true, true, true] rfl rfl (any_of HT_.out (by kernel_rfl)) (fun _ _ _ h => h) (Or.inl ⟨by rfl, ?_⟩) ?_ ?_
                                  rotate_left
                                  · intro w'
                                    go_simp
                                    with_reducible rfl
                                  rotate_left
                                  · simp only [Act.put, List.setIfInBounds_toArray, List.set_cons_zero, List.set_cons_succ, i64_w, i32_w]
                                    rfl
                                  refine done_ (done_of HT_.out (by kernel_rfl)) ?_
                                  try go_wp2
                                  go_meet
                                  case rel => exact ⟨_, ((t547 != t557)), (by first | rfl | (simp; done) | (simp [*]; done)), H', ⟨by have := HJ4.out; first | omega | exact Nat.le_refl _⟩, ⟨by repeat (first | (with_reducible first | exact HB.out | apply below_alloc | apply pw_below_drewN | apply below_drew1) | exact HB.out)⟩⟩
                                · rw [if_neg c56] at H
                                  exact absurd H (by simp)
                              · replace c54 := Bool.eq_false_iff.mpr c54
                                subst c54
                                have H1 : (ratlinelaw03_IkeyRising.j1 kj4 l0 (t547 != false)) = some r := by rw [if_neg (show ¬ (false = true) by decide)] at H; exact H
                                clear H
                                have H := H1
                                clear H1
                                have H' := Aside0.mk H
                                clear H
                                try go_wp2
                                have n0_ := Aside0.mk (Kd.R_drew HO535.out)
                                have n1_ := Aside0.mk (Kd.R_drew HO545.out)
                                have n2_ := Aside0.mk (below_drew1 HB.out)
                                clear HO535
                                clear HO545
                                clear HB
                                have HO535 := n0_
                                have HO545 := n1_
                                have HB := n2_
                                clear n0_ n1_ n2_
                                obtain ⟨Ao67, co67, eo67⟩ := Kd.R_slice HO545.out
                                (first | subst eo67 | (injection eo67 with f1_ f2_ f3_; have f4_ := f1_.symm; have f5_ := f3_.symm; clear f1_ f2_ f3_; subst f4_; subst f5_))
                                refine start_ (n := 18) (S := fun w' => True) (ds := []) #[false, false, false, false, false, false, false, false, false, false, false, false, false, false, false, false, false, false] (by kernel_rfl) rfl rfl trivial (fun hHeld => ?_); refine with_tabW ratlinelaw03_IkeyRising.tab9 ratlinelaw03_IkeyRising.bits9 (fun HT_ HW_ => ?_)
                                generalize w44.drew = w66 at HO535 HO545 HB hHeld ⊢
                                refine pure_ (i := 0) (N := some 50) (v := ?_) (a' := ?_) #[true, false, false, false, false, false, false, false, false, false, false, false, false, false, false, false, false, false] rfl rfl (any_of HT_.out (by kernel_rfl)) (fun _ _ _ h => h) (Or.inl ⟨by rfl, ?_⟩) ?_ ?_
                                rotate_left
                                · intro w'
                                  go_simp
                                  with_reducible rfl
                                rotate_left
                                · simp only [Act.put, List.setIfInBounds_toArray, List.set_cons_zero, List.set_cons_succ, i64_w, i32_w]
                                  rfl
                                refine one_ (i := 1) (N := some 51) #[true, true, false, false, false, false, false, false, false, false, false, false, false, false, false, false, false, false] rfl rfl (one_of HT_.out (by kernel_rfl)) (by decide) (fun K hK => ?_)
                                refine goes_ Try.func24 (by kernel_rfl) rfl #[.slice Ao67 y543.length co67] (by rfl) rfl rfl (by (try simp only [List.map_toArray, List.map_cons, List.map_nil]); first | done | rfl | (simp only [List.length_drop, List.length_take]; rfl)) ?_
                                with_reducible refine (ikey_Rising.calls kj4 _ _ y543 false _ ?side1 ?side2 A45.out).mono ?_
                                (case side1 => repeat (first | exact (Kd.R_reads' HO545.out).2.2 | (with_reducible refine Kd.C_alloc ?_ _) | (with_reducible refine Kd.C_drewN ?_ _) | (with_reducible refine Kd.C_drew ?_)))
                                (case side2 => exact (Kd.R_reads' HO545.out).2.1)
                                rintro e w68 ⟨rfl, hb⟩
                                refine ⟨_, rfl, ?_⟩
                                have n0_ := Aside0.mk (Kd.R_below (by (with_reducible repeat (first | apply Kd.R_alloc | apply Kd.R_drewN | apply Kd.R_drew)); exact HO535.out) hb)
                                have n1_ := Aside0.mk (Kd.R_below (by (with_reducible repeat (first | apply Kd.R_alloc | apply Kd.R_drewN | apply Kd.R_drew)); exact HO545.out) hb)
                                have n2_ := Aside0.mk (below_step (by repeat (first | (with_reducible first | exact HB.out | apply below_alloc | apply pw_below_drewN | apply below_drew1) | exact HB.out)) hb)
                                clear HO535
                                clear HO545
                                clear HB
                                have HO535 := n0_
                                have HO545 := n1_
                                have HB := n2_
                                clear n0_ n1_ n2_
                                (try clear hb)
                                (try clear hb2)
                                (try clear hk)
                                (try clear hi)
                                refine hK.out _ _ trivial (fun hHeld => ?_)
                                clear hK K
                                refine norm_ (a' := ?_) ?_ ?_
                                rotate_left
                                · show Act.put _ (some 51) _ = _
                                  simp only [Act.put, List.setIfInBounds_toArray, List.set_cons_zero, List.set_cons_succ, i64_w, i32_w]
                                  rfl
                                refine pure_ (i := 2) (N := some 52) (v := ?_) (a' := ?_) #[true, true, true, false, false, false, false, false, false, false, false, false, false, false, false, false, false, false] rfl rfl (any_of HT_.out (by kernel_rfl)) (fun _ _ _ h => h) (Or.inl ⟨by rfl, ?_⟩) ?_ ?_
                                rotate_left
                                · intro w'
                                  go_simp
                                  with_reducible rfl
                                rotate_left
                                · simp only [Act.put, List.setIfInBounds_toArray, List.set_cons_zero, List.set_cons_succ, i64_w, i32_w]
                                  rfl
                                refine pure_ (i := 3) (N := some 53) (v := ?_) (a' := ?_) #[true, true, true, true, false, false, false, false, false, false, false, false, false, false, false, false, false, false] rfl rfl (any_of HT_.out (by kernel_rfl)) (fun _ _ _ h => h) (Or.inl ⟨by rfl, ?_⟩) ?_ ?_
                                rotate_left
                                · intro w'
                                  go_simp
                                  with_reducible rfl
                                rotate_left
                                · simp only [Act.put, List.setIfInBounds_toArray, List.set_cons_zero, List.set_cons_succ, i64_w, i32_w]
                                  rfl
                                refine pure_ (i := 5) (N := some 55) (v := ?_) (a' := ?_) #[true, true, true, true, false, true, false, false, false, false, false, false, false, false, false, false, false, false] rfl rfl (any_of HT_.out (by kernel_rfl)) (fun _ _ _ h => h) (Or.inl ⟨by rfl, ?_⟩) ?_ ?_
                                rotate_left
                                · intro w'
                                  go_simp
                                  with_reducible rfl
                                rotate_left
                                · simp only [Act.put, List.setIfInBounds_toArray, List.set_cons_zero, List.set_cons_succ, i64_w, i32_w]
                                  rfl
                                refine pure_ (i := 6) (N := some 56) (v := ?_) (a' := ?_) #[true, true, true, true, false, true, true, false, false, false, false, false, false, false, false, false, false, false] rfl rfl (any_of HT_.out (by kernel_rfl)) (fun _ _ _ h => h) (Or.inl ⟨by rfl, ?_⟩) ?_ ?_
                                rotate_left
                                · intro w'
                                  go_simp
                                  with_reducible rfl
                                rotate_left
                                · simp only [Act.put, List.setIfInBounds_toArray, List.set_cons_zero, List.set_cons_succ, i64_w, i32_w]
                                  rfl
                                refine pure_ (i := 7) (N := some 57) (v := ?_) (a' := ?_) #[true, true, true, true, false, true, true, true, false, false, false, false, false, false, false, false, false, false] rfl rfl (any_of HT_.out (by kernel_rfl)) (fun _ _ _ h => h) (Or.inl ⟨by rfl, ?_⟩) ?_ ?_
                                rotate_left
                                · intro w'
                                  go_simp
                                  with_reducible rfl
                                rotate_left
                                · simp only [Act.put, List.setIfInBounds_toArray, List.set_cons_zero, List.set_cons_succ, i64_w, i32_w]
                                  rfl
                                refine pure_ (i := 8) (N := some 58) (v := ?_) (a' := ?_) #[true, true, true, true, false, true, true, true, true, false, false, false, false, false, false, false, false, false] rfl rfl (any_of HT_.out (by kernel_rfl)) (fun _ _ _ h => h) (Or.inl ⟨by rfl, ?_⟩) ?_ ?_
                                rotate_left
                                · intro w'
                                  go_simp
                                  with_reducible rfl
                                rotate_left
                                · simp only [Act.put, List.setIfInBounds_toArray, List.set_cons_zero, List.set_cons_succ, i64_w, i32_w]
                                  rfl
                                refine one_ (i := 4) (N := some 54) #[true, true, true, true, true, true, true, true, true, false, false, false, false, false, false, false, false, false] rfl rfl (one_of HT_.out (by kernel_rfl)) (by decide) (fun K hK => ?_)
                                refine goes_ Try.func24 (by kernel_rfl) rfl #[.slice (some ad532) l0.length c0] (by rfl) rfl rfl (by (try simp only [List.map_toArray, List.map_cons, List.map_nil]); first | done | rfl | (simp only [List.length_drop, List.length_take]; rfl)) ?_
                                with_reducible refine (ikey_Rising.calls kj4 _ _ l0 t547 _ ?side1 ?side2 A50.out).mono ?_
                                (case side1 => repeat (first | exact (Kd.C_below HR0.out HB.out) | (with_reducible refine Kd.C_alloc ?_ _) | (with_reducible refine Kd.C_drewN ?_ _) | (with_reducible refine Kd.C_drew ?_)))
                                (case side2 => exact HC0.out)
                                rintro e w69 ⟨rfl, hb⟩
                                refine ⟨_, rfl, ?_⟩
                                have n0_ := Aside0.mk (Kd.R_below (by (with_reducible repeat (first | apply Kd.R_alloc | apply Kd.R_drewN | apply Kd.R_drew)); exact HO535.out) hb)
                                have n1_ := Aside0.mk (Kd.R_below (by (with_reducible repeat (first | apply Kd.R_alloc | apply Kd.R_drewN | apply Kd.R_drew)); exact HO545.out) hb)
                                have n2_ := Aside0.mk (below_step (by repeat (first | (with_reducible first | exact HB.out | apply below_alloc | apply pw_below_drewN | apply below_drew1) | exact HB.out)) hb)
                                clear HO535
                                clear HO545
                                clear HB
                                have HO535 := n0_
                                have HO545 := n1_
                                have HB := n2_
                                clear n0_ n1_ n2_
                                (try clear hb)
                                (try clear hb2)
                                (try clear hk)
                                (try clear hi)
                                have q70 : ((ji21) : Int) ≤ ((l0.length : Int) : Int) := of_decide_eq_true (by first | (with_reducible assumption) | assumption)
                                obtain ⟨i070, hi070, _, hsz70, _⟩ := info_parts info41
                                have hroom70 : l0.length ≤ c0 := HC0.out
                                have hC70 : Kd.C k41 _ (some ad532) l0.length l0 := HR0.out
                                have hcut70 := cut_to (P := Try.prog) 29 41 .i64 Try.underlying29 hi070 (some ad532) l0.length c0 (ji21) (of_decide_eq_true (by first | (with_reducible assumption) | assumption)) q70 hroom70
                                have hr70 := Kd.C_take (m := ((ji21) : Int).toNat) hC70 (by omega)
                                have hy70 : y548.length = ((ji21) : Int).toNat := (by rw [Ny548.out, List.length_take]; omega)
                                rw [← Ny548.out] at hr70
                                rw [← hy70] at hcut70
                                have HR551 := Aside0.mk hr70
                                have HC551 := Aside0.mk (show y548.length ≤ c0 from by omega)
                                clear hr70 hC70 hroom70 hi070 hsz70
                                have KY70 := Aside0.mk hy70
                                clear hy70
                                replace q70 := eq_true q70
                                refine hK.out _ _ trivial (fun hHeld => ?_)
                                clear hK K
                                refine norm_ (a' := ?_) ?_ ?_
                                rotate_left
                                · show Act.put _ (some 54) _ = _
                                  simp only [Act.put, List.setIfInBounds_toArray, List.set_cons_zero, List.set_cons_succ, i64_w, i32_w]
                                  rfl
                                refine one_ (i := 9) (N := some 59) #[true, true, true, true, true, true, true, true, true, true, false, false, false, false, false, false, false, false] rfl rfl (one_of HT_.out (by kernel_rfl)) (by decide) (fun K hK => ?_)
                                refine goes_ Try.func24 (by kernel_rfl) rfl #[.slice (some ad532) y548.length c0] (by rfl) rfl rfl (by (try simp only [List.map_toArray, List.map_cons, List.map_nil]); first | done | rfl | (rw [KY70.out, ← hji21xji25]; rfl) | (rw [KY70.out, ← KY34.out]; rfl) | (simp only [List.length_drop, List.length_take]; rfl)) ?_
                                with_reducible refine (ikey_Rising.calls kj4 _ _ y548 false _ ?side1 ?side2 A53.out).mono ?_
                                (case side1 => repeat (first | exact (Kd.C_below HR551.out HB.out) | (with_reducible refine Kd.C_alloc ?_ _) | (with_reducible refine Kd.C_drewN ?_ _) | (with_reducible refine Kd.C_drew ?_)))
                                (case side2 => exact HC551.out)
                                rintro e w71 ⟨rfl, hb⟩
                                refine ⟨_, rfl, ?_⟩
                                have n0_ := Aside0.mk (Kd.R_below (by (with_reducible repeat (first | apply Kd.R_alloc | apply Kd.R_drewN | apply Kd.R_drew)); exact HO535.out) hb)
                                have n1_ := Aside0.mk (Kd.R_below (by (with_reducible repeat (first | apply Kd.R_alloc | apply Kd.R_drewN | apply Kd.R_drew)); exact HO545.out) hb)
                                have n2_ := Aside0.mk (below_step (by repeat (first | (with_reducible first | exact HB.out | apply below_alloc | apply pw_below_drewN | apply below_drew1) | exact HB.out)) hb)
                                clear HO535
                                clear HO545
                                clear HB
                                have HO535 := n0_
                                have HO545 := n1_
                                have HB := n2_
                                clear n0_ n1_ n2_
                                (try clear hb)
                                (try clear hb2)
                                (try clear hk)
                                (try clear hi)
                                refine hK.out _ _ trivial (fun hHeld => ?_)
                                clear hK K
                                refine norm_ (a' := ?_) ?_ ?_
                                rotate_left
                                · show Act.put _ (some 59) _ = _
                                  simp only [Act.put, List.setIfInBounds_toArray, List.set_cons_zero, List.set_cons_succ, i64_w, i32_w]
                                  rfl
                                refine pure_ (i := 10) (N := some 60) (v := ?_) (a' := ?_) #[true, true, true, true, true, true, true, true, true, true, true, false, false, false, false, false, false, false] rfl rfl (any_of HT_.out (by kernel_rfl)) (fun _ _ _ h => h) (Or.inl ⟨by rfl, ?_⟩) ?_ ?_
                                rotate_left
                                · intro w'
                                  go_simp
                                  with_reducible rfl
                                rotate_left
                                · simp only [Act.put, List.setIfInBounds_toArray, List.set_cons_zero, List.set_cons_succ, i64_w, i32_w]
                                  rfl
                                refine pure_ (i := 11) (N := some 61) (v := undef) (a' := ?_) #[true, true, true, true, true, true, true, true, true, true, true, true, false, false, false, false, false, false] rfl rfl (any_of HT_.out (by kernel_rfl)) (fun _ _ _ h => h) (Or.inr ⟨by rfl, rfl⟩) ?_ ?_
                                rotate_left
                                · simp only [Act.put, List.setIfInBounds_toArray, List.set_cons_zero, List.set_cons_succ, i64_w, i32_w]
                                  rfl
                                refine pure_ (i := 12) (N := some 62) (v := undef) (a' := ?_) #[true, true, true, true, true, true, true, true, true, true, true, true, true, false, false, false, false, false] rfl rfl (any_of HT_.out (by kernel_rfl)) (fun _ _ _ h => h) (Or.inr ⟨by rfl, rfl⟩) ?_ ?_
                                rotate_left
                                · simp only [Act.put, List.setIfInBounds_toArray, List.set_cons_zero, List.set_cons_succ, i64_w, i32_w]
                                  rfl
                                refine pure_ (i := 13) (N := some 63) (v := undef) (a' := ?_) #[true, true, true, true, true, true, true, true, true, true, true, true, true, true, false, false, false, false] rfl rfl (any_of HT_.out (by kernel_rfl)) (fun _ _ _ h => h) (Or.inr ⟨by rfl, rfl⟩) ?_ ?_
                                rotate_left
                                · simp only [Act.put, List.setIfInBounds_toArray, List.set_cons_zero, List.set_cons_succ, i64_w, i32_w]
                                  rfl
                                refine pure_ (i := 14) (N := some 64) (v := undef) (a' := ?_) #[true, true, true, true, true, true, true, true, true, true, true, true, true, true, true, false, false, false] rfl rfl (any_of HT_.out (by kernel_rfl)) (fun _ _ _ h => h) (Or.inr ⟨by rfl, rfl⟩) ?_ ?_
                                rotate_left
                                · simp only [Act.put, List.setIfInBounds_toArray, List.set_cons_zero, List.set_cons_succ, i64_w, i32_w]
                                  rfl
                                refine pure_ (i := 15) (N := some 65) (v := ?_) (a' := ?_) #[true, true, true, true, true, true, true, true, true, true, true, true, true, true, true, true, false, false] rfl rfl (any_of HT_.out (by kernel_rfl)) (fun _ _ _ h => h) (Or.inl ⟨by rfl, ?_⟩) ?_ ?_
                                rotate_left
                                · intro w'
                                  go_simp
                                  with_reducible rfl
                                rotate_left
                                · simp only [Act.put, List.setIfInBounds_toArray, List.set_cons_zero, List.set_cons_succ, i64_w, i32_w]
                                  rfl
                                refine pure_ (i := 16) (N := some 66) (v := ?_) (a' := ?_) #[true, true, true, true, true, true, true, true, true, true, true, true, true, true, true, true, true, false] rfl rfl (any_of HT_.out (by kernel_rfl)) (fun _ _ _ h => h) (Or.inl ⟨by rfl, ?_⟩) ?_ ?_
                                rotate_left
                                · intro w'
                                  go_simp
                                  with_reducible rfl
                                rotate_left
                                · simp only [Act.put, List.setIfInBounds_toArray, List.set_cons_zero, List.set_cons_succ, i64_w, i32_w]
                                  rfl
                                refine pure_ (i := 17) (N := some 67) (v := ?_) (a' := ?_) #[true, true, true, true, true, true, true, true, true, true, true, true, true, true, true, true, true, true] rfl rfl (any_of HT_.out (by kernel_rfl)) (fun _ _ _ h => h) (Or.inl ⟨by rfl, ?_⟩) ?_ ?_
                                rotate_left
                                · intro w'
                                  go_simp
                                  with_reducible rfl
                                rotate_left
                                · simp only [Act.put, List.setIfInBounds_toArray, List.set_cons_zero, List.set_cons_succ, i64_w, i32_w]
                                  rfl
                                refine done_ (done_of HT_.out (by kernel_rfl)) ?_
                                try go_wp2
                                go_meet
                                case rel => exact ⟨_, ((t547 != false)), (by first | rfl | (simp; done) | (simp [*]; done)), H', ⟨by have := HJ4.out; first | omega | exact Nat.le_refl _⟩, ⟨by repeat (first | (with_reducible first | exact HB.out | apply below_alloc | apply pw_below_drewN | apply below_drew1) | exact HB.out)⟩⟩
                          case rest =>
                            clear HC32
                            try clear c1
                            try clear c2
                            try clear p2
                            try clear c4
                            try clear c5
                            try clear c6
                            try clear q6
                            try clear q7
                            try clear c24
                            try clear c46
                            try clear c51
                            try clear c51b0
                            try clear c52
                            try clear c52b0
                            try clear c54
                            try clear c55
                            try clear c55b0
                            try clear c56
                            try clear c56b0
                            try clear c56b1
                            try clear q62
                            try clear c64
                            try clear q64
                            try clear q70
                            try clear q064
                            try clear q62
                            try clear q64
                            try clear q70
                            obtain ⟨kq, x67_31, rfl, HA, HJ31, HB⟩ := hcut
                            cases kq with
                            | zero => exact absurd HA.out (by simp [ratlinelaw03_IkeyRising.j1])
                            | succ kj31 =>
                              have H := HA.out
                              clear HA
                              simp only [ratlinelaw03_IkeyRising.j1] at H
                              by_cases c72 : x67_31 = true
                              · subst c72
                                have H1 : (none) = some r := by rw [if_pos rfl] at H; exact H
                                clear H
                                have H := H1
                                clear H1
                                exact absurd H (by simp)
                              · replace c72 := Bool.eq_false_iff.mpr c72
                                subst c72
                                have H1 : (ratlinelaw03_IkeyRising.l0 kj31 l0 ([] : List (S41)) (l0.length : Int) 0) = some r := by rw [if_neg (show ¬ (false = true) by decide)] at H; exact H
                                clear H
                                have H := H1
                                clear H1
                                have H' := Aside0.mk H
                                clear H
                                go_wp2
                                go_loopg [7, 70] kj31 (fun kq v7 v70 w' => ∃ (x7_3 : List (S41)) (x70_3 : Int), v70 = .int .i64 x70_3 ∧ Aside0 (ratlinelaw03_IkeyRising.l0 kq l0 x7_3 (l0.length : Int) x70_3 = some r) ∧ Aside0 (kq ≤ kj31) ∧ Aside0 (Kd.R k41 41 w' w.heap.size (fun _ => True) v7 x7_3) ∧ Aside0 (Below w.heap.size w w'))
                                case atStart => exact ⟨(([] : List (S41))), (0), (by first | rfl | (simp; done) | (simp [*]; done)), H', ⟨Nat.le_refl _⟩, ⟨by first | exact Kd.R_nil _ _ _ _ _ | exact Kd.N_nil _ _ _ _ _ | exact Kd.V_nil _ _ _ _ _ | exact Kd.Q_nil _ _ _ _ _ | exact Kd.S_nil _ _ _ _ _⟩, ⟨by repeat (first | (with_reducible first | exact HB.out | apply below_alloc | apply pw_below_drewN | apply below_drew1) | exact HB.out)⟩⟩
                                case round =>
                                  clear H'
                                  try clear c1
                                  try clear c2
                                  try clear p2
                                  try clear c4
                                  try clear c5
                                  try clear c6
                                  try clear q6
                                  try clear c7
                                  try clear q7
                                  try clear c24
                                  try clear c46
                                  try clear c51
                                  try clear c51b0
                                  try clear c52
                                  try clear c52b0
                                  try clear c54
                                  try clear c55
                                  try clear c55b0
                                  try clear c56
                                  try clear c56b0
                                  try clear c56b1
                                  try clear q62
                                  try clear c64
                                  try clear q64
                                  try clear q70
                                  try clear c72
                                  try clear p2
                                  try clear q064
                                  try clear q6
                                  try clear q62
                                  try clear q64
                                  try clear q7
                                  try clear q70
                                  obtain ⟨x7_3, x70_3, rfl, HA, HK3, HO_7, HB⟩ := hrel
                                  cases gk with
                                  | zero => exact absurd HA.out (by simp [ratlinelaw03_IkeyRising.l0])
                                  | succ k3 =>
                                    have H := HA.out
                                    clear HA
                                    simp only [ratlinelaw03_IkeyRising.l0] at H
                                    by_cases c73 : x70_3 < (l0.length : Int)
                                    · rw [if_pos c73] at H
                                      have c73b0 : decide (x70_3 < (l0.length : Int)) = true := decide_eq_true c73
                                      clear c73
                                      obtain ⟨ji74, hji74⟩ : ∃ j_ : Int, (wrap64 ((wrap64 ((l0.length : Int) - 1)) - x70_3)) = j_ := ⟨_, rfl⟩
                                      replace H : (if 0 ≤ (ji74) then (if (ji74) < (l0.length : Int) then ((some (([(⟨(⟨(rd_T41 l0 (ji74)).f0.f0, (rd_T41 l0 (ji74)).f0.f1, (rd_T41 l0 (ji74)).f0.f2⟩ : S39), (rd_T41 l0 (ji74)).f1⟩ : S41)] : List (S41)) : List (S41))).bind fun y559 => (if x7_3.length + y559.length < 2932031007402 then (ratlinelaw03_IkeyRising.l0 k3 l0 (x7_3 ++ y559) (l0.length : Int) (wrap64 (x70_3 + 1))) else (none))) else (none)) else (none)) = some r := by first | (rw [hji74] at H; exact H) | (simp only [hji74] at H ⊢; exact H)
                                      have hji74w : (IntKind.i64.wrap ((wrap64 ((l0.length : Int) - 1)) - x70_3)) = ji74 := (i64_w _).trans hji74
                                      by_cases c75 : 0 ≤ (ji74)
                                      · rw [if_pos c75] at H
                                        have c75b0 : decide (0 ≤ (ji74)) = true := decide_eq_true c75
                                        clear c75
                                        by_cases c76 : (ji74) < (l0.length : Int)
                                        · rw [if_pos c76] at H
                                          have c76b0 : decide ((ji74) < (l0.length : Int)) = true := decide_eq_true c76
                                          clear c76
                                          obtain ⟨y559, hy559⟩ : ∃ y_ : List (S41), y_ = (([(⟨(⟨(rd_T41 l0 (ji74)).f0.f0, (rd_T41 l0 (ji74)).f0.f1, (rd_T41 l0 (ji74)).f0.f2⟩ : S39), (rd_T41 l0 (ji74)).f1⟩ : S41)] : List (S41))) := ⟨_, rfl⟩
                                          replace H : (if x7_3.length + y559.length < 2932031007402 then (ratlinelaw03_IkeyRising.l0 k3 l0 (x7_3 ++ y559) (l0.length : Int) (wrap64 (x70_3 + 1))) else (none)) = some r := by first | (rw [hy559]; with_reducible exact H) | (have H2_ := (Option.bind_some _ _).symm.trans H; rw [hy559]; with_reducible exact H2_) | (have H2_ := (Option.bind_some _ _).symm.trans H; with_reducible exact H2_) | with_reducible exact H | (rw [hy559]; exact H) | exact H
                                          have Ny559 := Aside0.mk hy559
                                          clear hy559
                                          by_cases c77 : x7_3.length + y559.length < 2932031007402
                                          · rw [if_pos c77] at H
                                            have LMc77 := Aside0.mk c77
                                            clear c77
                                            obtain ⟨y562, hy562⟩ : ∃ y_ : List (S41), y_ = (x7_3 ++ y559) := ⟨_, rfl⟩
                                            replace H : (ratlinelaw03_IkeyRising.l0 k3 l0 y562 (l0.length : Int) (wrap64 (x70_3 + 1))) = some r := by first | (rw [hy562]; with_reducible exact H) | (have H2_ := (Option.bind_some _ _).symm.trans H; rw [hy562]; with_reducible exact H2_) | (have H2_ := (Option.bind_some _ _).symm.trans H; with_reducible exact H2_) | with_reducible exact H | (rw [hy562]; exact H) | exact H
                                            have Ny562 := Aside0.mk hy562
                                            clear hy562
                                            have H' := Aside0.mk H
                                            clear H
                                            have p558 : 0 ≤ ((ji74) : Int) := of_decide_eq_true (by first | (with_reducible assumption) | assumption)
                                            have q558 : (ji74) < (l0.length : Int) := of_decide_eq_true (by first | (with_reducible assumption) | assumption)
                                            obtain ⟨ad558, e558, hx558_0, hx558_1, hx558_2, hx558_3⟩ := at_T41 HR0.out (ji74) p558 q558
                                            obtain rfl : ad532 = ad558 := (by injection e558)
                                            replace hx558_0 := (HB.out.cell (World.block_lt_of_cell? w _ hx558_0)).trans hx558_0
                                            replace hx558_1 := (HB.out.cell (World.block_lt_of_cell? w _ hx558_1)).trans hx558_1
                                            replace hx558_2 := (HB.out.cell (World.block_lt_of_cell? w _ hx558_2)).trans hx558_2
                                            replace hx558_3 := (HB.out.cell (World.block_lt_of_cell? w _ hx558_3)).trans hx558_3
                                            replace p558 := eq_true p558
                                            replace q558 := eq_true q558
                                            go_wp2_with (first | ((with_reducible refine gate_dst (N := 82) rfl ?_); (try (refine gate_guard (by rfl) ?_; dsimp only)); refine Kd.R_lit k41 _ 41 ?hg (N := 82) ?hd (xs := ([(⟨(⟨(rd_T41 l0 (ji74)).f0.f0, (rd_T41 l0 (ji74)).f0.f1, (rd_T41 l0 (ji74)).f0.f2⟩ : S39), (rd_T41 l0 (ji74)).f1⟩ : S41)] : List (S41))) (inner := [.string ((rd_T41 l0 (ji74)).f0.f0), .int .u64 ((rd_T41 l0 (ji74)).f0.f1), .int .u8 ((rd_T41 l0 (ji74)).f0.f2), .string ((rd_T41 l0 (ji74)).f1)]) (ok := fun _ => True) (okp := fun _ => True) ?hr ?hp (fun _ hk => hk) trivial (Below.refl _ _) (Nat.le_refl _) (by simp) ?_; (case hd => rfl); (case hg => rfl); (case hr => first | (go_simp; done) | (go_simp; rfl)); (case hp => exact (Reps.c4 (show Kd.M k41 _ _ _ (⟨(⟨(rd_T41 l0 (ji74)).f0.f0, (rd_T41 l0 (ji74)).f0.f1, (rd_T41 l0 (ji74)).f0.f2⟩ : S39), (rd_T41 l0 (ji74)).f1⟩ : S41) [.string ((rd_T41 l0 (ji74)).f0.f0), .int .u64 ((rd_T41 l0 (ji74)).f0.f1), .int .u8 ((rd_T41 l0 (ji74)).f0.f2), .string ((rd_T41 l0 (ji74)).f1)] from (k41_mkM _ _ _ (⟨(⟨(rd_T41 l0 (ji74)).f0.f0, (rd_T41 l0 (ji74)).f0.f1, (rd_T41 l0 (ji74)).f0.f2⟩ : S39), (rd_T41 l0 (ji74)).f1⟩ : S41) )) (Reps.none _ _))); intro v560 w78 ho79 hb hg_ hnew_; clear hg_ hnew_; (first | rw [← Ny559.out] at ho79 | (simp only [Int.reduceToNat] at ho79; rw [← Ny559.out] at ho79)); have n0_ := Aside0.mk (Kd.R_elder' (by (with_reducible repeat (first | apply Kd.R_alloc | apply Kd.R_drewN | apply Kd.R_drew)); exact HO_7.out) (Kd.R_base ho79) hb); have n1_ := Aside0.mk (Kd.R_lower (Kd.R_new' ho79 (Kd.R_lt (by (with_reducible repeat (first | apply Kd.R_alloc | apply Kd.R_drewN | apply Kd.R_drew)); exact HO_7.out))) (below_size (by repeat (first | (with_reducible first | exact HB.out | apply below_alloc | apply pw_below_drewN | apply below_drew1) | exact HB.out)))); have n2_ := Aside0.mk (below_step (by repeat (first | (with_reducible first | exact HB.out | apply below_alloc | apply pw_below_drewN | apply below_drew1) | exact HB.out)) hb); clear HO_7; clear HB; have HO_7 := n0_; have HO561 := n1_; have HB := n2_; clear n0_ n1_ n2_; clear hb ho79; obtain ⟨Ao81, co81, eo81⟩ := Kd.R_slice HO561.out; subst eo81) | ((with_reducible refine gate_builtin (b := .append) (xs := #[.tmp 73, .tmp 82]) rfl ?_); (try (refine gate_guard (by rfl) ?_; dsimp only)); at_builtin; refine Kd.R_append_rows k41 (w0 := w) w.heap.size rfl (.tmp 73) (.tmp 82) 29 41 (.agg #[(.string ⟨#[]⟩), (.int .u64 0), (.int .u8 0), (.string ⟨#[]⟩)]) 48 rfl Try.underlying29 info41 rfl (by decide) (by omega) u7 x7_3 y559 _ _ _ (fun k_ => some k_ ≠ (.slice Ao81 y559.length co81 : Value).ownBlock) (fun _ => False) rfl rfl ?aO ?aR (fun _ _ h => h) (fun _ h => h.elim) ?aF ?aB ?aS ?aL ?_; (case aR => repeat (first | exact (Kd.R_reads' HO561.out).2.2 | (with_reducible refine Kd.C_alloc ?_ _) | (with_reducible refine Kd.C_drewN ?_ _) | (with_reducible refine Kd.C_drew ?_))); (case aB => exact (by repeat (first | (with_reducible first | exact HB.out | apply below_alloc | apply pw_below_drewN | apply below_drew1) | exact HB.out))); (case aF => exact (fun k_ hk => Kd.fresh' (Kd.R_lt (by (with_reducible repeat (first | apply Kd.R_alloc | apply Kd.R_drewN | apply Kd.R_drew)); exact HO561.out)) k_ hk)); (case aO => exact (by (with_reducible repeat (first | apply Kd.R_alloc | apply Kd.R_drewN | apply Kd.R_drew)); exact Kd.R_mono HO_7.out (fun _ hk => hk.2))); (case aS => exact (below_size (by repeat (first | (with_reducible first | exact HB.out | apply below_alloc | apply pw_below_drewN | apply below_drew1) | exact HB.out)))); (case aL => have := LMc77.out; omega); intro v563 w80 ho hb hg hat; rw [← Ny562.out] at ho; have n0_ := Aside0.mk (Kd.R_after (ok := (fun _ => True)) (by (with_reducible repeat (first | apply Kd.R_alloc | apply Kd.R_drewN | apply Kd.R_drew)); exact HO561.out) hg hat); have n1_ := Aside0.mk (hb); have n2_ := Aside0.mk (ho); clear HO561; clear HB; clear HO_7; have HO561 := n0_; have HB := n1_; have HO564 := n2_; clear n0_ n1_ n2_; clear ho hb hg hat))
                                            go_roundg k3
                                            case measure => have := HJ4.out; have := HJ31.out; have := HK3.out; omega
                                            case rel => exact ⟨(y562), (wrap64 (x70_3 + 1)), (by first | rfl | (simp; done) | (simp [*]; done)), H', ⟨by have := HJ4.out; have := HJ31.out; have := HK3.out; omega⟩, ⟨by (with_reducible repeat (first | apply Kd.R_alloc | apply Kd.R_drewN | apply Kd.R_drew)); exact Kd.R_mono HO564.out (fun _ hk => trivial)⟩, ⟨by repeat (first | (with_reducible first | exact HB.out | apply below_alloc | apply pw_below_drewN | apply below_drew1) | exact HB.out)⟩⟩
                                          · rw [if_neg c77] at H
                                            exact absurd H (by simp)
                                        · rw [if_neg c76] at H
                                          exact absurd H (by simp)
                                      · rw [if_neg c75] at H
                                        exact absurd H (by simp)
                                    · rw [if_neg c73] at H
                                      have c73b0 : decide (x70_3 < (l0.length : Int)) = false := decide_eq_false c73
                                      clear c73
                                      by_cases c82 : (l0.length : Int) < 2
                                      · rw [if_pos c82] at H
                                        have c82b0 : decide ((l0.length : Int) < 2) = true := decide_eq_true c82
                                        have c82b1 : decide (l0.length < 2) = true := decide_eq_true (by omega)
                                        clear c82
                                        replace H := Option.bind_eq_some_iff.mp H
                                        obtain ⟨t565, A830, H⟩ := H
                                        replace H : (some t565) = some r := H
                                        have A83 := Aside0.mk A830
                                        clear A830
                                        obtain rfl := Option.some.inj H
                                        go_wp2_with (first | (go_at_call 26; (with_reducible refine (ratlinelaw03_awake.calls k3  t565 _ A83.out).mono ?_); rintro e w84 ⟨rfl, hb⟩; have n0_ := Aside0.mk (Kd.R_below (by (with_reducible repeat (first | apply Kd.R_alloc | apply Kd.R_drewN | apply Kd.R_drew)); exact HO_7.out) hb); have n1_ := Aside0.mk (below_step (by repeat (first | (with_reducible first | exact HB.out | apply below_alloc | apply pw_below_drewN | apply below_drew1) | exact HB.out)) hb); clear HO_7; clear HB; have HO_7 := n0_; have HB := n1_; clear n0_ n1_; (try clear hb); (try clear hb2); (try clear hk); (try clear hi)))
                                        go_ret
                                        exact ⟨by first | rfl | (simp [errW_none, errW_some] <;> rfl) | (simp only [← hji21, ← hji25]; first | rfl | (simp [errW_none, errW_some] <;> rfl)) | (simp [*, errW_none, errW_some] <;> rfl), by repeat (first | (with_reducible first | exact HB.out | apply below_alloc | apply pw_below_drewN | apply below_drew1) | exact HB.out)⟩
                                      · rw [if_neg c82] at H
                                        have c82b0 : decide ((l0.length : Int) < 2) = false := decide_eq_false c82
                                        have c82b1 : decide (l0.length < 2) = false := decide_eq_false (by omega)
                                        clear c82
                                        replace H := Option.bind_eq_some_iff.mp H
                                        obtain ⟨t566, A850, H⟩ := H
                                        replace H : (if t566 = true then ((ikey_Rising.f k3 x7_3).bind fun t567 => (if t567 = true then (none) else ((ratlinelaw03_awake.f k3).bind fun t568 => (some t568)))) else ((ratlinelaw03_awake.f k3).bind fun t569 => (some t569))) = some r := H
                                        have A85 := Aside0.mk A850
                                        clear A850
                                        by_cases c86 : t566 = true
                                        · subst c86
                                          have H1 : ((ikey_Rising.f k3 x7_3).bind fun t567 => (if t567 = true then (none) else ((ratlinelaw03_awake.f k3).bind fun t568 => (some t568)))) = some r := by rw [if_pos rfl] at H; exact H
                                          clear H
                                          have H := H1
                                          clear H1
                                          replace H := Option.bind_eq_some_iff.mp H
                                          obtain ⟨t567, A870, H⟩ := H
                                          replace H : (if t567 = true then (none) else ((ratlinelaw03_awake.f k3).bind fun t568 => (some t568))) = some r := H
                                          have A87 := Aside0.mk A870
                                          clear A870
                                          by_cases c88 : t567 = true
                                          · subst c88
                                            have H1 : (none) = some r := by rw [if_pos rfl] at H; exact H
                                            clear H
                                            have H := H1
                                            clear H1
                                            exact absurd H (by simp)
                                          · replace c88 := Bool.eq_false_iff.mpr c88
                                            subst c88
                                            have H1 : ((ratlinelaw03_awake.f k3).bind fun t568 => (some t568)) = some r := by rw [if_neg (show ¬ (false = true) by decide)] at H; exact H
                                            clear H
                                            have H := H1
                                            clear H1
                                            replace H := Option.bind_eq_some_iff.mp H
                                            obtain ⟨t568, A890, H⟩ := H
                                            replace H : (some t568) = some r := H
                                            have A89 := Aside0.mk A890
                                            clear A890
                                            obtain rfl := Option.some.inj H
                                            go_wp2_with (first | (go_at_call 24; (with_reducible refine (ikey_Rising.calls k3 _ _ l0 true _ ?side1 ?side2 A85.out).mono ?_); (case side1 => repeat (first | exact (Kd.C_below HR0.out HB.out) | (with_reducible refine Kd.C_alloc ?_ _) | (with_reducible refine Kd.C_drewN ?_ _) | (with_reducible refine Kd.C_drew ?_))); (case side2 => exact HC0.out); rintro e w90 ⟨rfl, hb⟩; have n0_ := Aside0.mk (Kd.R_below (by (with_reducible repeat (first | apply Kd.R_alloc | apply Kd.R_drewN | apply Kd.R_drew)); exact HO_7.out) hb); have n1_ := Aside0.mk (below_step (by repeat (first | (with_reducible first | exact HB.out | apply below_alloc | apply pw_below_drewN | apply below_drew1) | exact HB.out)) hb); clear HO_7; clear HB; have HO_7 := n0_; have HB := n1_; clear n0_ n1_; (try clear hb); (try clear hb2); (try clear hk); (try clear hi); obtain ⟨Ao91, co91, eo91⟩ := Kd.R_slice HO_7.out; subst eo91) | (go_at_call 24; (with_reducible refine (ikey_Rising.calls k3 _ _ x7_3 false _ ?side1 ?side2 A87.out).mono ?_); (case side1 => repeat (first | exact (Kd.R_reads' HO_7.out).2.2 | (with_reducible refine Kd.C_alloc ?_ _) | (with_reducible refine Kd.C_drewN ?_ _) | (with_reducible refine Kd.C_drew ?_))); (case side2 => exact (Kd.R_reads' HO_7.out).2.1); rintro e w92 ⟨rfl, hb⟩; have n0_ := Aside0.mk (Kd.R_below (by (with_reducible repeat (first | apply Kd.R_alloc | apply Kd.R_drewN | apply Kd.R_drew)); exact HO_7.out) hb); have n1_ := Aside0.mk (below_step (by repeat (first | (with_reducible first | exact HB.out | apply below_alloc | apply pw_below_drewN | apply below_drew1) | exact HB.out)) hb); clear HO_7; clear HB; have HO_7 := n0_; have HB := n1_; clear n0_ n1_; (try clear hb); (try clear hb2); (try clear hk); (try clear hi)) | (go_at_call 26; (with_reducible refine (ratlinelaw03_awake.calls k3  t568 _ A89.out).mono ?_); rintro e w93 ⟨rfl, hb⟩; have n0_ := Aside0.mk (Kd.R_below (by (with_reducible repeat (first | apply Kd.R_alloc | apply Kd.R_drewN | apply Kd.R_drew)); exact HO_7.out) hb); have n1_ := Aside0.mk (below_step (by repeat (first | (with_reducible first | exact HB.out | apply below_alloc | apply pw_below_drewN | apply below_drew1) | exact HB.out)) hb); clear HO_7; clear HB; have HO_7 := n0_; have HB := n1_; clear n0_ n1_; (try clear hb); (try clear hb2); (try clear hk); (try clear hi)))
                                            go_ret
                                            exact ⟨by first | rfl | (simp [errW_none, errW_some] <;> rfl) | (simp only [← hji21, ← hji25]; first | rfl | (simp [errW_none, errW_some] <;> rfl)) | (simp [*, errW_none, errW_some] <;> rfl), by repeat (first | (with_reducible first | exact HB.out | apply below_alloc | apply pw_below_drewN | apply below_drew1) | exact HB.out)⟩
                                        · replace c86 := Bool.eq_false_iff.mpr c86
                                          subst c86
                                          have H1 : ((ratlinelaw03_awake.f k3).bind fun t569 => (some t569)) = some r := by rw [if_neg (show ¬ (false = true) by decide)] at H; exact H
                                          clear H
                                          have H := H1
                                          clear H1
                                          replace H := Option.bind_eq_some_iff.mp H
                                          obtain ⟨t569, A940, H⟩ := H
                                          replace H : (some t569) = some r := H
                                          have A94 := Aside0.mk A940
                                          clear A940
                                          obtain rfl := Option.some.inj H
                                          go_wp2_with (first | (go_at_call 24; (with_reducible refine (ikey_Rising.calls k3 _ _ l0 false _ ?side1 ?side2 A85.out).mono ?_); (case side1 => repeat (first | exact (Kd.C_below HR0.out HB.out) | (with_reducible refine Kd.C_alloc ?_ _) | (with_reducible refine Kd.C_drewN ?_ _) | (with_reducible refine Kd.C_drew ?_))); (case side2 => exact HC0.out); rintro e w95 ⟨rfl, hb⟩; have n0_ := Aside0.mk (Kd.R_below (by (with_reducible repeat (first | apply Kd.R_alloc | apply Kd.R_drewN | apply Kd.R_drew)); exact HO_7.out) hb); have n1_ := Aside0.mk (below_step (by repeat (first | (with_reducible first | exact HB.out | apply below_alloc | apply pw_below_drewN | apply below_drew1) | exact HB.out)) hb); clear HO_7; clear HB; have HO_7 := n0_; have HB := n1_; clear n0_ n1_; (try clear hb); (try clear hb2); (try clear hk); (try clear hi)) | (go_at_call 26; (with_reducible refine (ratlinelaw03_awake.calls k3  t569 _ A94.out).mono ?_); rintro e w96 ⟨rfl, hb⟩; have n0_ := Aside0.mk (Kd.R_below (by (with_reducible repeat (first | apply Kd.R_alloc | apply Kd.R_drewN | apply Kd.R_drew)); exact HO_7.out) hb); have n1_ := Aside0.mk (below_step (by repeat (first | (with_reducible first | exact HB.out | apply below_alloc | apply pw_below_drewN | apply below_drew1) | exact HB.out)) hb); clear HO_7; clear HB; have HO_7 := n0_; have HB := n1_; clear n0_ n1_; (try clear hb); (try clear hb2); (try clear hk); (try clear hi)))
                                          go_ret
                                          exact ⟨by first | rfl | (simp [errW_none, errW_some] <;> rfl) | (simp only [← hji21, ← hji25]; first | rfl | (simp [errW_none, errW_some] <;> rfl)) | (simp [*, errW_none, errW_some] <;> rfl), by repeat (first | (with_reducible first | exact HB.out | apply below_alloc | apply pw_below_drewN | apply below_drew1) | exact HB.out)⟩
                        · rw [if_neg c31] at H
                          exact absurd H (by simp)
                      · rw [if_neg c28] at H
                        exact absurd H (by simp)
                    · rw [if_neg c27] at H
                      exact absurd H (by simp)
                  · rw [if_neg c26] at H
                    exact absurd H (by simp)
                · rw [if_neg c24] at H
                  exact absurd H (by simp)
              · rw [if_neg c23] at H
                exact absurd H (by simp)
            · rw [if_neg c22] at H
              exact absurd H (by simp)
  · replace c4 := Bool.eq_false_iff.mpr c4
    subst c4
    have H1 : ((ratlinelaw03_awake.f k).bind fun t514 => (some t514)) = some r := by rw [if_neg (show ¬ (false = true) by decide)] at H; exact H
    clear H
    have H := H1
    clear H1
    replace H := Option.bind_eq_some_iff.mp H
    obtain ⟨t514, A970, H⟩ := H
    replace H : (some t514) = some r := H
    have A97 := Aside0.mk A970
    clear A970
    obtain rfl := Option.some.inj H
    go_enter Try.func13, Try.ntmps13
    go_wp2_with (first | ((with_reducible refine gate_callee (f := 25) rfl ?_); refine goesL_ (some 10) rfl rfl Try.func25 (by kernel_rfl) rfl #[.slice A0 l0.length c0, .int .i64 60] rfl (by (try simp only [List.map_toArray, List.map_cons, List.map_nil]); first | done | rfl | (simp only [List.length_drop, List.length_take]; rfl)) ?_; (with_reducible refine (ratlinelaw03_Few.calls k _ _ l0 60 false _ ?side1 ?side2 A3.out).mono ?_); (case side1 => repeat (first | exact HR0.out | (with_reducible refine Kd.C_alloc ?_ _) | (with_reducible refine Kd.C_drewN ?_ _) | (with_reducible refine Kd.C_drew ?_))); (case side2 => exact HC0.out); rintro e w98 ⟨rfl, hb⟩; refine ⟨_, rfl, ?_⟩; have n0_ := Aside0.mk (below_step (by repeat (first | (with_reducible first | exact HB.out | apply below_alloc | apply pw_below_drewN | apply below_drew1) | exact HB.out)) hb); clear HB; have HB := n0_; clear n0_; (try clear hb); (try clear hb2); (try clear hk); (try clear hi)) | (go_at_call 26; (with_reducible refine (ratlinelaw03_awake.calls k  t514 _ A97.out).mono ?_); rintro e w99 ⟨rfl, hb⟩; have n0_ := Aside0.mk (below_step (by repeat (first | (with_reducible first | exact HB.out | apply below_alloc | apply pw_below_drewN | apply below_drew1) | exact HB.out)) hb); clear HB; have HB := n0_; clear n0_; (try clear hb); (try clear hb2); (try clear hk); (try clear hi); (try apply_assumption)))
    go_ret
    exact ⟨by first | rfl | (simp [errW_none, errW_some] <;> rfl) | (simp [*, errW_none, errW_some] <;> rfl), by repeat (first | (with_reducible first | exact HB.out | apply below_alloc | apply pw_below_drewN | apply below_drew1) | exact HB.out)⟩

end Go.Proofs.Ytojemmipkpckbaa.P
