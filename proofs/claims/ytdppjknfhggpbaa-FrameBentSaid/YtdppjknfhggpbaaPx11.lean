/- Proved here: functions of the program return what the Lean functions beside them say, or a law of the program holds. Conditions: those of each theorem. Written for this claim by a program: the printer of the kit, with some contracts given. -/
import Derived.Test.YtdppjknfhggpbaaPx0
import Derived.Test.YtdppjknfhggpbaaPx1
import Derived.Test.YtdppjknfhggpbaaPx3
import Derived.Test.YtdppjknfhggpbaaPx4
namespace Go.Proofs.Ytdppjknfhggpbaa.P
open Go.RowKit Go.Proofs.YtdppjknfhggpbaaG Go.Proofs.YtdppjknfhggpbaaW.PrintWords Go.Proofs.YtdppjknfhggpbaaW.PrintLast Go.Proofs.YtdppjknfhggpbaaW.PrintMore
attribute [local go_sem] max2_int min2_int max_two min_two max_three min_three max_four min_four   -- for this text's walks alone
set_option linter.unusedVariables false
set_option linter.unusedSimpArgs false

/-! ### ratlinelaw05_FrameBent: function 4 -/
mutual
def ratlinelaw05_FrameBent.j0 : Nat → List Int → List Int → Int → Int → Bool → Option (Bool)
  | 0, _, _, _, _, _ => none
  | k + 1, x0, x1, x2, x3, x28 => if x28 = true then ((ratlinelaw05_awake.f k).bind fun t274 => (some t274)) else ((frame_Seal.f x0).bind fun t275 => ((some (([] : List Int) : List Int)).bind fun y278 => (if y278.length + t275.length < 140737488355328 then ((some (y278 ++ t275 : List Int)).bind fun y281 => (if y281.length + x1.length < 140737488355328 then ((frame_Take.f k (y281 ++ x1)).bind fun bt287 => (if bt287.2.2 = 0 then (if (t275.length : Int) = (wrap64 ((x0.length : Int) + 8)) then ((ratlinelaw02_Same.f bt287.1 x0).bind fun t294 => (if t294 = true then ((ratlinelaw02_Same.f bt287.2.1 x1).bind fun t295 => (ratlinelaw05_FrameBent.j1 k x2 x3 t275 (!t295))) else (ratlinelaw05_FrameBent.j1 k x2 x3 t275 true))) else (ratlinelaw05_FrameBent.j1 k x2 x3 t275 true)) else (ratlinelaw05_FrameBent.j1 k x2 x3 t275 true))) else (none))) else (none))))
def ratlinelaw05_FrameBent.j1 : Nat → Int → Int → List Int → Bool → Option (Bool)
  | 0, _, _, _, _ => none
  | k + 1, x2, x3, x9, x63 => if x63 = true then (none) else ((some (([] : List Int) : List Int)).bind fun y296 => (if y296.length + x9.length < 140737488355328 then (ratlinelaw05_FrameBent.l0 k x2 x3 (y296 ++ x9) (wrap64 (8 * (wrap64 ((x9.length : Int) - 4)))) false 0) else (none)))
def ratlinelaw05_FrameBent.l0 : Nat → Int → Int → List Int → Int → Bool → Int → Option (Bool)
  | 0, _, _, _, _, _, _ => none
  | k + 1, x2, x3, x13, x14, x15, x71 => if x71 < 32 then (if x14 = 0 then (none) else (if 0 ≤ x71 then (if (Go.bits .and .u32 (shr .u32 x3 x71) 1) = 1 then (if (wrap64 ((Int.tmod (wrap64 (x2)) x14) + x71)) < x14 then (if 0 ≤ (wrap64 (4 + (wrap64 (Int.tdiv (wrap64 ((Int.tmod (wrap64 (x2)) x14) + x71)) 8)))) then (if (wrap64 (4 + (wrap64 (Int.tdiv (wrap64 ((Int.tmod (wrap64 (x2)) x14) + x71)) 8)))) < (x13.length : Int) then (if 0 ≤ (Int.tmod (wrap64 ((Int.tmod (wrap64 (x2)) x14) + x71)) 8) then (ratlinelaw05_FrameBent.l0 k x2 x3 (x13.set ((wrap64 (4 + (wrap64 (Int.tdiv (wrap64 ((Int.tmod (wrap64 (x2)) x14) + x71)) 8)))) : Int).toNat (Go.bits .xor .u8 (rd x13 (wrap64 (4 + (wrap64 (Int.tdiv (wrap64 ((Int.tmod (wrap64 (x2)) x14) + x71)) 8))))) (shl .u8 1 (Int.tmod (wrap64 ((Int.tmod (wrap64 (x2)) x14) + x71)) 8)))) x14 true (wrap64 (x71 + 1))) else (none)) else (none)) else (none)) else (ratlinelaw05_FrameBent.l0 k x2 x3 x13 x14 x15 (wrap64 (x71 + 1)))) else (ratlinelaw05_FrameBent.l0 k x2 x3 x13 x14 x15 (wrap64 (x71 + 1)))) else (none))) else ((frame_Take.f k x13).bind fun bt304 => (if ((bt304.2.2 == 50) == x15) = true then (if x15 = true then (if (wrap64 ((bt304.1.length : Int) + (bt304.2.1.length : Int))) = 0 then ((ratlinelaw05_awake.f k).bind fun t311 => (some t311)) else (none)) else ((ratlinelaw05_awake.f k).bind fun t312 => (some t312))) else (none)))
end
def ratlinelaw05_FrameBent.f (k : Nat) (l0 : List Int) (l1 : List Int) (a2 : Int) (a3 : Int) : Option (Bool) := if (l0.length : Int) > 300 then (ratlinelaw05_FrameBent.j0 k l0 l1 a2 a3 true) else (ratlinelaw05_FrameBent.j0 k l0 l1 a2 a3 (decide ((l1.length : Int) > 60)))
theorem ratlinelaw05_FrameBent.mono_l : ∀ k, (∀ y0 y1 y2 y3 y4, LeO (ratlinelaw05_FrameBent.j0 k y0 y1 y2 y3 y4) (ratlinelaw05_FrameBent.j0 (k + 1) y0 y1 y2 y3 y4)) ∧ (∀ y0 y1 y2 y3, LeO (ratlinelaw05_FrameBent.j1 k y0 y1 y2 y3) (ratlinelaw05_FrameBent.j1 (k + 1) y0 y1 y2 y3)) ∧ (∀ y0 y1 y2 y3 y4 y5, LeO (ratlinelaw05_FrameBent.l0 k y0 y1 y2 y3 y4 y5) (ratlinelaw05_FrameBent.l0 (k + 1) y0 y1 y2 y3 y4 y5))
  | 0 => ⟨fun _ _ _ _ _ r h => by simp [ratlinelaw05_FrameBent.j0] at h, fun _ _ _ _ r h => by simp [ratlinelaw05_FrameBent.j1] at h, fun _ _ _ _ _ _ r h => by simp [ratlinelaw05_FrameBent.l0] at h⟩
  | k + 1 => by
    obtain ⟨ih0, ih1, ih2⟩ := ratlinelaw05_FrameBent.mono_l k
    refine ⟨?_, ?_, ?_⟩
    · intro y0 y1 y2 y3 y4
      unfold ratlinelaw05_FrameBent.j0
      repeat' first
      | (with_reducible exact ih0 _ _ _ _ _)
      | (with_reducible exact ih1 _ _ _ _)
      | (with_reducible exact ih2 _ _ _ _ _ _)
      | (with_reducible exact frame_Take.mono _ _)
      | (with_reducible exact ratlinelaw05_awake.mono _)
      | (with_reducible exact LeO.refl _)
      | (with_reducible exact LeO.none _)
      | (with_reducible refine LeO.ite ?_ ?_)
      | (with_reducible refine LeO.bind ?_ (fun _ => ?_))
      | exact ih0 _ _ _ _ _
      | exact ih1 _ _ _ _
      | exact ih2 _ _ _ _ _ _
      | exact frame_Take.mono _ _
      | exact ratlinelaw05_awake.mono _
      | exact LeO.none _
      | refine LeO.ite ?_ ?_
      | refine LeO.bind ?_ (fun _ => ?_)
    · intro y0 y1 y2 y3
      unfold ratlinelaw05_FrameBent.j1
      repeat' first
      | (with_reducible exact ih0 _ _ _ _ _)
      | (with_reducible exact ih1 _ _ _ _)
      | (with_reducible exact ih2 _ _ _ _ _ _)
      | (with_reducible exact frame_Take.mono _ _)
      | (with_reducible exact ratlinelaw05_awake.mono _)
      | (with_reducible exact LeO.refl _)
      | (with_reducible exact LeO.none _)
      | (with_reducible refine LeO.ite ?_ ?_)
      | (with_reducible refine LeO.bind ?_ (fun _ => ?_))
      | exact ih0 _ _ _ _ _
      | exact ih1 _ _ _ _
      | exact ih2 _ _ _ _ _ _
      | exact frame_Take.mono _ _
      | exact ratlinelaw05_awake.mono _
      | exact LeO.none _
      | refine LeO.ite ?_ ?_
      | refine LeO.bind ?_ (fun _ => ?_)
    · intro y0 y1 y2 y3 y4 y5
      unfold ratlinelaw05_FrameBent.l0
      repeat' first
      | (with_reducible exact ih0 _ _ _ _ _)
      | (with_reducible exact ih1 _ _ _ _)
      | (with_reducible exact ih2 _ _ _ _ _ _)
      | (with_reducible exact frame_Take.mono _ _)
      | (with_reducible exact ratlinelaw05_awake.mono _)
      | (with_reducible exact LeO.refl _)
      | (with_reducible exact LeO.none _)
      | (with_reducible refine LeO.ite ?_ ?_)
      | (with_reducible refine LeO.bind ?_ (fun _ => ?_))
      | exact ih0 _ _ _ _ _
      | exact ih1 _ _ _ _
      | exact ih2 _ _ _ _ _ _
      | exact frame_Take.mono _ _
      | exact ratlinelaw05_awake.mono _
      | exact LeO.none _
      | refine LeO.ite ?_ ?_
      | refine LeO.bind ?_ (fun _ => ?_)
theorem ratlinelaw05_FrameBent.mono : ∀ a0 a1 a2 a3 k, LeO (ratlinelaw05_FrameBent.f k a0 a1 a2 a3) (ratlinelaw05_FrameBent.f (k + 1) a0 a1 a2 a3) := by
  intro a0 a1 a2 a3 k
  obtain ⟨ih0, ih1, ih2⟩ := ratlinelaw05_FrameBent.mono_l k
  unfold ratlinelaw05_FrameBent.f
  repeat' first
      | (with_reducible exact ih0 _ _ _ _ _)
      | (with_reducible exact ih1 _ _ _ _)
      | (with_reducible exact ih2 _ _ _ _ _ _)
      | (with_reducible exact frame_Take.mono _ _)
      | (with_reducible exact ratlinelaw05_awake.mono _)
      | (with_reducible exact LeO.refl _)
      | (with_reducible exact LeO.none _)
      | (with_reducible refine LeO.ite ?_ ?_)
      | (with_reducible refine LeO.bind ?_ (fun _ => ?_))
      | exact ih0 _ _ _ _ _
      | exact ih1 _ _ _ _
      | exact ih2 _ _ _ _ _ _
      | exact frame_Take.mono _ _
      | exact ratlinelaw05_awake.mono _
      | exact LeO.none _
      | refine LeO.ite ?_ ?_
      | refine LeO.bind ?_ (fun _ => ?_)
def ratlinelaw05_FrameBent.T15 : Bool × List (List Nat × List Nat) := (true, [([], []), ([], []), ([1], [1]), ([2], [2]), ([0, 3], [0, 3]), ([4], [4]), ([], []), ([6], [6]), ([7], [7]), ([5, 8], [5, 8]), ([0, 3, 0, 1, 2, 3, 4, 5, 6, 7, 8, 9], [0, 3]), ([10, 9, 0, 1, 2, 3, 4, 5, 6, 7, 8, 9], [9, 10])])
def ratlinelaw05_FrameBent.B15 : List Nat := [0, 0, 2, 6, 15, 31, 0, 64, 192, 511, 1023, 2047]
theorem ratlinelaw05_FrameBent.tab15 : rtab .any (opsOf Try.f4 15) = ratlinelaw05_FrameBent.T15 := by kernel_rfl
theorem ratlinelaw05_FrameBent.bits15 : waitsOk ratlinelaw05_FrameBent.T15.2 ratlinelaw05_FrameBent.B15 = true := by kernel_rfl
set_option maxHeartbeats 8000000 in
set_option maxRecDepth 100000 in
theorem ratlinelaw05_FrameBent.calls (k : Nat) (A0 : Option Addr) (c0 : Nat) (l0 : List Int) (A1 : Option Addr) (c1 : Nat) (l1 : List Int) (a2 : Int) (a3 : Int) (r : Bool) (w : World) (hr0 : Kd.C (Kd.int .u8) w A0 l0.length l0) (hc0 : l0.length ≤ c0) (hr1 : Kd.C (Kd.int .u8) w A1 l1.length l1) (hc1 : l1.length ≤ c1) (h : ratlinelaw05_FrameBent.f k l0 l1 a2 a3 = some r) :
    Calls Try.prog 4 #[.slice A0 l0.length c0, .slice A1 l1.length c1, .int .u16 a2, .int .u32 a3] w fun e w' => e = .returned (.bool r) ∧ Below w.heap.size w w' := by
  have HR0 := Aside0.mk hr0
  have HC0 := Aside0.mk hc0
  clear hr0 hc0
  have HR1 := Aside0.mk hr1
  have HC1 := Aside0.mk hc1
  clear hr1 hc1
  have HB := Aside0.mk (Below.refl w.heap.size w)
  have H : (if (l0.length : Int) > 300 then (ratlinelaw05_FrameBent.j0 k l0 l1 a2 a3 true) else (ratlinelaw05_FrameBent.j0 k l0 l1 a2 a3 (decide ((l1.length : Int) > 60)))) = some r := h
  clear h
  have HC5 := Aside0.mk H
  clear H
  go_enter Try.func4, Try.ntmps4
  go_upto_region 1 with (fail)
  go_cut [28] (fun v28 wc => ∃ (kq : Nat) (x28_4 : Bool), v28 = .bool x28_4 ∧ Aside0 (ratlinelaw05_FrameBent.j0 kq l0 l1 a2 a3 x28_4 = some r) ∧ Aside0 (kq ≤ k) ∧ Aside0 (Below w.heap.size w wc))
  case first =>
    have H := HC5.out
    clear HC5
    by_cases c6 : (l0.length : Int) > 300
    · rw [if_pos c6] at H
      have c6b0 : decide (300 < (l0.length : Int)) = true := decide_eq_true c6
      have c6b1 : decide (300 < l0.length) = true := decide_eq_true (by omega)
      clear c6
      (first | rw [c6b0] | (simp only [i64_w, i32_w]; rw [c6b0]) | skip)
      have H' := Aside0.mk H
      clear H
      go_wp2
      go_meet
      case rel => exact ⟨_, (true), (by first | rfl | (simp; done) | (simp [*]; done)), H', ⟨by first | omega | exact Nat.le_refl _⟩, ⟨by repeat (first | (with_reducible first | exact HB.out | apply below_alloc | apply pw_below_drewN | apply below_drew1) | exact HB.out)⟩⟩
    · rw [if_neg c6] at H
      have c6b0 : decide (300 < (l0.length : Int)) = false := decide_eq_false c6
      have c6b1 : decide (300 < l0.length) = false := decide_eq_false (by omega)
      clear c6
      (first | rw [c6b0] | (simp only [i64_w, i32_w]; rw [c6b0]) | skip)
      have H' := Aside0.mk H
      clear H
      go_wp2
      go_meet
      case rel => exact ⟨_, (decide ((l1.length : Int) > 60)), (by first | rfl | (simp; done) | (simp [*]; done)), H', ⟨by first | omega | exact Nat.le_refl _⟩, ⟨by repeat (first | (with_reducible first | exact HB.out | apply below_alloc | apply pw_below_drewN | apply below_drew1) | exact HB.out)⟩⟩
  case rest =>
    clear HC5
    try clear c1
    try clear p2
    try clear c4
    try clear c6
    try clear c6b0
    try clear c6b1
    obtain ⟨kq, x28_4, rfl, HA, HJ4, HB⟩ := hcut
    cases kq with
    | zero => exact absurd HA.out (by simp [ratlinelaw05_FrameBent.j0])
    | succ kj4 =>
      have H := HA.out
      clear HA
      simp only [ratlinelaw05_FrameBent.j0] at H
      by_cases c7 : x28_4 = true
      · subst c7
        have H1 : ((ratlinelaw05_awake.f kj4).bind fun t274 => (some t274)) = some r := by rw [if_pos rfl] at H; exact H
        clear H
        have H := H1
        clear H1
        replace H := Option.bind_eq_some_iff.mp H
        obtain ⟨t274, A80, H⟩ := H
        replace H : (some t274) = some r := H
        have A8 := Aside0.mk A80
        clear A80
        obtain rfl := Option.some.inj H
        go_wp2_with (first | (go_at_call 14; (with_reducible refine (ratlinelaw05_awake.calls kj4  t274 _ A8.out).mono ?_); rintro e w9 ⟨rfl, hb⟩; have n0_ := Aside0.mk (below_step (by repeat (first | (with_reducible first | exact HB.out | apply below_alloc | apply pw_below_drewN | apply below_drew1) | exact HB.out)) hb); clear HB; have HB := n0_; clear n0_; (try clear hb); (try clear hb2); (try clear hk); (try clear hi); (try apply_assumption)))
        go_ret
        exact ⟨by first | rfl | (simp [errW_none, errW_some] <;> rfl) | (simp [*, errW_none, errW_some] <;> rfl), by repeat (first | (with_reducible first | exact HB.out | apply below_alloc | apply pw_below_drewN | apply below_drew1) | exact HB.out)⟩
      · replace c7 := Bool.eq_false_iff.mpr c7
        subst c7
        have H1 : ((frame_Seal.f l0).bind fun t275 => ((some (([] : List Int) : List Int)).bind fun y278 => (if y278.length + t275.length < 140737488355328 then ((some (y278 ++ t275 : List Int)).bind fun y281 => (if y281.length + l1.length < 140737488355328 then ((frame_Take.f kj4 (y281 ++ l1)).bind fun bt287 => (if bt287.2.2 = 0 then (if (t275.length : Int) = (wrap64 ((l0.length : Int) + 8)) then ((ratlinelaw02_Same.f bt287.1 l0).bind fun t294 => (if t294 = true then ((ratlinelaw02_Same.f bt287.2.1 l1).bind fun t295 => (ratlinelaw05_FrameBent.j1 kj4 a2 a3 t275 (!t295))) else (ratlinelaw05_FrameBent.j1 kj4 a2 a3 t275 true))) else (ratlinelaw05_FrameBent.j1 kj4 a2 a3 t275 true)) else (ratlinelaw05_FrameBent.j1 kj4 a2 a3 t275 true))) else (none))) else (none)))) = some r := by rw [if_neg (show ¬ (false = true) by decide)] at H; exact H
        clear H
        have H := H1
        clear H1
        replace H := Option.bind_eq_some_iff.mp H
        obtain ⟨t275, A100, H⟩ := H
        replace H : ((some (([] : List Int) : List Int)).bind fun y278 => (if y278.length + t275.length < 140737488355328 then ((some (y278 ++ t275 : List Int)).bind fun y281 => (if y281.length + l1.length < 140737488355328 then ((frame_Take.f kj4 (y281 ++ l1)).bind fun bt287 => (if bt287.2.2 = 0 then (if (t275.length : Int) = (wrap64 ((l0.length : Int) + 8)) then ((ratlinelaw02_Same.f bt287.1 l0).bind fun t294 => (if t294 = true then ((ratlinelaw02_Same.f bt287.2.1 l1).bind fun t295 => (ratlinelaw05_FrameBent.j1 kj4 a2 a3 t275 (!t295))) else (ratlinelaw05_FrameBent.j1 kj4 a2 a3 t275 true))) else (ratlinelaw05_FrameBent.j1 kj4 a2 a3 t275 true)) else (ratlinelaw05_FrameBent.j1 kj4 a2 a3 t275 true))) else (none))) else (none))) = some r := H
        have A10 := Aside0.mk A100
        clear A100
        obtain ⟨y278, hy278⟩ : ∃ y_ : List Int, y_ = (([] : List Int)) := ⟨_, rfl⟩
        replace H : (if y278.length + t275.length < 140737488355328 then ((some (y278 ++ t275 : List Int)).bind fun y281 => (if y281.length + l1.length < 140737488355328 then ((frame_Take.f kj4 (y281 ++ l1)).bind fun bt287 => (if bt287.2.2 = 0 then (if (t275.length : Int) = (wrap64 ((l0.length : Int) + 8)) then ((ratlinelaw02_Same.f bt287.1 l0).bind fun t294 => (if t294 = true then ((ratlinelaw02_Same.f bt287.2.1 l1).bind fun t295 => (ratlinelaw05_FrameBent.j1 kj4 a2 a3 t275 (!t295))) else (ratlinelaw05_FrameBent.j1 kj4 a2 a3 t275 true))) else (ratlinelaw05_FrameBent.j1 kj4 a2 a3 t275 true)) else (ratlinelaw05_FrameBent.j1 kj4 a2 a3 t275 true))) else (none))) else (none)) = some r := by first | (rw [hy278]; with_reducible exact H) | (have H2_ := (Option.bind_some _ _).symm.trans H; rw [hy278]; with_reducible exact H2_) | (have H2_ := (Option.bind_some _ _).symm.trans H; with_reducible exact H2_) | with_reducible exact H | (rw [hy278]; exact H) | exact H
        have Ny278 := Aside0.mk hy278
        clear hy278
        by_cases c11 : y278.length + t275.length < 140737488355328
        · rw [if_pos c11] at H
          have LMc11 := Aside0.mk c11
          clear c11
          obtain ⟨y281, hy281⟩ : ∃ y_ : List Int, y_ = (y278 ++ t275) := ⟨_, rfl⟩
          replace H : (if y281.length + l1.length < 140737488355328 then ((frame_Take.f kj4 (y281 ++ l1)).bind fun bt287 => (if bt287.2.2 = 0 then (if (t275.length : Int) = (wrap64 ((l0.length : Int) + 8)) then ((ratlinelaw02_Same.f bt287.1 l0).bind fun t294 => (if t294 = true then ((ratlinelaw02_Same.f bt287.2.1 l1).bind fun t295 => (ratlinelaw05_FrameBent.j1 kj4 a2 a3 t275 (!t295))) else (ratlinelaw05_FrameBent.j1 kj4 a2 a3 t275 true))) else (ratlinelaw05_FrameBent.j1 kj4 a2 a3 t275 true)) else (ratlinelaw05_FrameBent.j1 kj4 a2 a3 t275 true))) else (none)) = some r := by first | (rw [hy281]; with_reducible exact H) | (have H2_ := (Option.bind_some _ _).symm.trans H; rw [hy281]; with_reducible exact H2_) | (have H2_ := (Option.bind_some _ _).symm.trans H; with_reducible exact H2_) | with_reducible exact H | (rw [hy281]; exact H) | exact H
          have Ny281 := Aside0.mk hy281
          clear hy281
          by_cases c12 : y281.length + l1.length < 140737488355328
          · rw [if_pos c12] at H
            have LMc12 := Aside0.mk c12
            clear c12
            obtain ⟨y284, hy284⟩ : ∃ y_ : List Int, y_ = (y281 ++ l1) := ⟨_, rfl⟩
            replace H : ((frame_Take.f kj4 y284).bind fun bt287 => (if bt287.2.2 = 0 then (if (t275.length : Int) = (wrap64 ((l0.length : Int) + 8)) then ((ratlinelaw02_Same.f bt287.1 l0).bind fun t294 => (if t294 = true then ((ratlinelaw02_Same.f bt287.2.1 l1).bind fun t295 => (ratlinelaw05_FrameBent.j1 kj4 a2 a3 t275 (!t295))) else (ratlinelaw05_FrameBent.j1 kj4 a2 a3 t275 true))) else (ratlinelaw05_FrameBent.j1 kj4 a2 a3 t275 true)) else (ratlinelaw05_FrameBent.j1 kj4 a2 a3 t275 true))) = some r := by first | (rw [hy284]; with_reducible exact H) | (have H2_ := (Option.bind_some _ _).symm.trans H; rw [hy284]; with_reducible exact H2_) | (have H2_ := (Option.bind_some _ _).symm.trans H; with_reducible exact H2_) | with_reducible exact H | (rw [hy284]; exact H) | exact H
            have Ny284 := Aside0.mk hy284
            clear hy284
            replace H := Option.bind_eq_some_iff.mp H
            obtain ⟨⟨t287, t288, t289⟩, A130, H⟩ := H
            replace H : (if t289 = 0 then (if (t275.length : Int) = (wrap64 ((l0.length : Int) + 8)) then ((ratlinelaw02_Same.f t287 l0).bind fun t294 => (if t294 = true then ((ratlinelaw02_Same.f t288 l1).bind fun t295 => (ratlinelaw05_FrameBent.j1 kj4 a2 a3 t275 (!t295))) else (ratlinelaw05_FrameBent.j1 kj4 a2 a3 t275 true))) else (ratlinelaw05_FrameBent.j1 kj4 a2 a3 t275 true)) else (ratlinelaw05_FrameBent.j1 kj4 a2 a3 t275 true)) = some r := H
            have A13 := Aside0.mk A130
            clear A130
            have HC14 := Aside0.mk H
            clear H
            go_upto_region 5 with (first | ((with_reducible refine gate_callee (f := 19) rfl ?_); refine goesL_ (some 31) rfl rfl Try.func19 (by kernel_rfl) rfl #[.slice A0 l0.length c0] rfl (by (try simp only [List.map_toArray, List.map_cons, List.map_nil]); first | done | rfl | (simp only [List.length_drop, List.length_take]; rfl)) ?_; (with_reducible refine (frame_Seal.calls _ _ l0 t275 _ ?side1 ?side2 A10.out).mono ?_); (case side1 => repeat (first | exact (Kd.C_below HR0.out HB.out) | (with_reducible refine Kd.C_alloc ?_ _) | (with_reducible refine Kd.C_drewN ?_ _) | (with_reducible refine Kd.C_drew ?_))); (case side2 => exact HC0.out); rintro e w15 ⟨v276, rfl, ho0, hb⟩; refine ⟨_, rfl, ?_⟩; have n0_ := Aside0.mk (Kd.R_lower ho0 (below_size (by repeat (first | (with_reducible first | exact HB.out | apply below_alloc | apply pw_below_drewN | apply below_drew1) | exact HB.out)))); have n1_ := Aside0.mk (below_step (by repeat (first | (with_reducible first | exact HB.out | apply below_alloc | apply pw_below_drewN | apply below_drew1) | exact HB.out)) hb); clear HB; have HO277 := n0_; have HB := n1_; clear n0_ n1_; (try clear hb); (try clear hb2); (try clear hk); (try clear hi); (try clear ho0)) | ((with_reducible refine gate_dst (N := 33) rfl ?_); (try (refine gate_guard (by rfl) ?_; dsimp only)); refine Kd.R_lit (Kd.int .u8) _ 5 ?hg (N := 33) ?hd (xs := ([] : List Int)) (inner := []) (ok := fun _ => True) (okp := fun _ => True) ?hr ?hp (fun _ hk => hk) trivial (Below.refl _ _) (Nat.le_refl _) (by simp) ?_; (case hd => rfl); (case hg => rfl); (case hr => first | (go_simp; done) | (go_simp; rfl)); (case hp => exact (Reps.none _ _)); intro v279 w16 ho17 hb hg_ hnew_; clear hg_ hnew_; (first | rw [← Ny278.out] at ho17 | (simp only [Int.reduceToNat] at ho17; rw [← Ny278.out] at ho17)); have n0_ := Aside0.mk (Kd.R_elder' (by (with_reducible repeat (first | apply Kd.R_alloc | apply Kd.R_drewN | apply Kd.R_drew)); exact HO277.out) (Kd.R_base ho17) hb); have n1_ := Aside0.mk (Kd.R_lower (Kd.R_new' ho17 (Kd.R_lt (by (with_reducible repeat (first | apply Kd.R_alloc | apply Kd.R_drewN | apply Kd.R_drew)); exact HO277.out))) (below_size (by repeat (first | (with_reducible first | exact HB.out | apply below_alloc | apply pw_below_drewN | apply below_drew1) | exact HB.out)))); have n2_ := Aside0.mk (below_step (by repeat (first | (with_reducible first | exact HB.out | apply below_alloc | apply pw_below_drewN | apply below_drew1) | exact HB.out)) hb); clear HO277; clear HB; have HO277 := n0_; have HO280 := n1_; have HB := n2_; clear n0_ n1_ n2_; clear hb ho17; obtain ⟨Ao19, co19, eo19⟩ := Kd.R_slice HO277.out; subst eo19) | ((with_reducible refine gate_builtin (b := .append) (xs := #[.tmp 33, .tmp 34]) rfl ?_); (try (refine gate_guard (by rfl) ?_; dsimp only)); at_builtin; refine Kd.R_append_rows (Kd.int .u8) (w0 := w) w.heap.size rfl (.tmp 33) (.tmp 34) 22 5 (.int .u8 0) 1 rfl Try.underlying22 info5 rfl (by decide) (by omega) v279 y278 t275 _ _ _ (fun k_ => some k_ ≠ (.slice Ao19 t275.length co19 : Value).ownBlock) (fun _ => False) rfl rfl ?aO ?aR (fun _ _ h => h) (fun _ h => h.elim) ?aF ?aB ?aS ?aL ?_; (case aR => repeat (first | exact (Kd.R_reads' HO277.out).2.2 | (with_reducible refine Kd.C_alloc ?_ _) | (with_reducible refine Kd.C_drewN ?_ _) | (with_reducible refine Kd.C_drew ?_))); (case aB => exact (by repeat (first | (with_reducible first | exact HB.out | apply below_alloc | apply pw_below_drewN | apply below_drew1) | exact HB.out))); (case aF => exact (fun k_ hk => Kd.fresh' (Kd.R_lt (by (with_reducible repeat (first | apply Kd.R_alloc | apply Kd.R_drewN | apply Kd.R_drew)); exact HO277.out)) k_ hk)); (case aO => exact (by (with_reducible repeat (first | apply Kd.R_alloc | apply Kd.R_drewN | apply Kd.R_drew)); exact Kd.R_mono HO280.out (fun _ hk => hk.2))); (case aS => exact (below_size (by repeat (first | (with_reducible first | exact HB.out | apply below_alloc | apply pw_below_drewN | apply below_drew1) | exact HB.out)))); (case aL => have := LMc11.out; omega); intro v282 w18 ho hb hg hat; rw [← Ny281.out] at ho; have n0_ := Aside0.mk (Kd.R_after (ok := (fun _ => True)) (by (with_reducible repeat (first | apply Kd.R_alloc | apply Kd.R_drewN | apply Kd.R_drew)); exact HO277.out) hg hat); have n1_ := Aside0.mk (hb); have n2_ := Aside0.mk (ho); clear HO277; clear HB; clear HO280; have HO277 := n0_; have HB := n1_; have HO283 := n2_; clear n0_ n1_ n2_; clear ho hb hg hat) | ((with_reducible refine gate_builtin (b := .append) (xs := #[.tmp 35, .tmp 36]) rfl ?_); (try (refine gate_guard (by rfl) ?_; dsimp only)); at_builtin; refine Kd.R_append_rows (Kd.int .u8) (w0 := w) w.heap.size rfl (.tmp 35) (.tmp 36) 22 5 (.int .u8 0) 1 rfl Try.underlying22 info5 rfl (by decide) (by omega) v282 y281 l1 _ _ _ (fun k_ => some k_ ≠ (.slice Ao19 t275.length co19 : Value).ownBlock) (fun _ => False) rfl rfl ?aO ?aR (fun _ _ h => h) (fun _ h => h.elim) ?aF ?aB ?aS ?aL ?_; (case aR => repeat (first | exact (Kd.C_below HR1.out HB.out) | (with_reducible refine Kd.C_alloc ?_ _) | (with_reducible refine Kd.C_drewN ?_ _) | (with_reducible refine Kd.C_drew ?_))); (case aB => exact (by repeat (first | (with_reducible first | exact HB.out | apply below_alloc | apply pw_below_drewN | apply below_drew1) | exact HB.out))); (case aF => exact (fun k_ hk => Kd.fresh' (Kd.R_lt (by (with_reducible repeat (first | apply Kd.R_alloc | apply Kd.R_drewN | apply Kd.R_drew)); exact HO277.out)) k_ hk)); (case aO => exact (by (with_reducible repeat (first | apply Kd.R_alloc | apply Kd.R_drewN | apply Kd.R_drew)); exact HO283.out)); (case aS => exact (below_size (by repeat (first | (with_reducible first | exact HB.out | apply below_alloc | apply pw_below_drewN | apply below_drew1) | exact HB.out)))); (case aL => have := LMc12.out; omega); intro v285 w20 ho hb hg hat; rw [← Ny284.out] at ho; have n0_ := Aside0.mk (Kd.R_after (ok := (fun _ => True)) (by (with_reducible repeat (first | apply Kd.R_alloc | apply Kd.R_drewN | apply Kd.R_drew)); exact HO277.out) hg hat); have n1_ := Aside0.mk (hb); have n2_ := Aside0.mk (ho); clear HO277; clear HB; clear HO283; have HO277 := n0_; have HB := n1_; have HO286 := n2_; clear n0_ n1_ n2_; clear ho hb hg hat; obtain ⟨Ao21, co21, eo21⟩ := Kd.R_slice HO286.out; subst eo21) | ((with_reducible refine gate_callee (f := 20) rfl ?_); refine goesL_ (some 38) rfl rfl Try.func20 (by kernel_rfl) rfl #[.slice Ao21 y284.length co21] rfl (by (try simp only [List.map_toArray, List.map_cons, List.map_nil]); first | done | rfl | (simp only [List.length_drop, List.length_take]; rfl)) ?_; (with_reducible refine (frame_Take.calls kj4 _ _ y284 t287 t288 t289 _ ?side1 ?side2 A13.out).mono ?_); (case side1 => repeat (first | exact (Kd.R_reads' HO286.out).2.2 | (with_reducible refine Kd.C_alloc ?_ _) | (with_reducible refine Kd.C_drewN ?_ _) | (with_reducible refine Kd.C_drew ?_))); (case side2 => exact (Kd.R_reads' HO286.out).2.1); rintro e w22 ⟨v290, v292, rfl, ho0, ho1, hb⟩; refine ⟨_, rfl, ?_⟩; have n0_ := Aside0.mk (Kd.R_mono (Kd.R_told (Kd.R_told (Kd.R_old (by (with_reducible repeat (first | apply Kd.R_alloc | apply Kd.R_drewN | apply Kd.R_drew)); exact HO277.out) hb) (Kd.R_base ho0)) (Kd.R_base ho1)) (fun _ h_ => h_.1)); have n1_ := Aside0.mk (Kd.R_mono (Kd.R_told (Kd.R_told (Kd.R_old (by (with_reducible repeat (first | apply Kd.R_alloc | apply Kd.R_drewN | apply Kd.R_drew)); exact HO286.out) hb) (Kd.R_base ho0)) (Kd.R_base ho1)) (fun _ h_ => h_.1)); have n2_ := Aside0.mk (Kd.R_lower (Kd.R_new' (Kd.R_new' ho0 (Kd.R_lt (by (with_reducible repeat (first | apply Kd.R_alloc | apply Kd.R_drewN | apply Kd.R_drew)); exact HO277.out))) (Kd.R_lt (by (with_reducible repeat (first | apply Kd.R_alloc | apply Kd.R_drewN | apply Kd.R_drew)); exact HO286.out))) (below_size (by repeat (first | (with_reducible first | exact HB.out | apply below_alloc | apply pw_below_drewN | apply below_drew1) | exact HB.out)))); have n3_ := Aside0.mk (Kd.R_lower (Kd.R_new' (Kd.R_new' ho1 (Kd.R_lt (by (with_reducible repeat (first | apply Kd.R_alloc | apply Kd.R_drewN | apply Kd.R_drew)); exact HO277.out))) (Kd.R_lt (by (with_reducible repeat (first | apply Kd.R_alloc | apply Kd.R_drewN | apply Kd.R_drew)); exact HO286.out))) (below_size (by repeat (first | (with_reducible first | exact HB.out | apply below_alloc | apply pw_below_drewN | apply below_drew1) | exact HB.out)))); have n4_ := Aside0.mk (below_step (by repeat (first | (with_reducible first | exact HB.out | apply below_alloc | apply pw_below_drewN | apply below_drew1) | exact HB.out)) hb); clear HO277; clear HO286; clear HB; have HO277 := n0_; have HO286 := n1_; have HO291 := n2_; have HO293 := n3_; have HB := n4_; clear n0_ n1_ n2_ n3_ n4_; (try clear hb); (try clear hb2); (try clear hk); (try clear hi); (try clear ho0); (try clear ho1)))
            (try simp only [Act.put, List.setIfInBounds_toArray, List.set_cons_zero, List.set_cons_succ])
            go_cut [63] (fun v63 wc => ∃ (kq : Nat) (x63_13 : Bool), v63 = .bool x63_13 ∧ Aside0 (ratlinelaw05_FrameBent.j1 kq a2 a3 t275 x63_13 = some r) ∧ Aside0 (kq ≤ kj4) ∧ Aside0 (Kd.R (Kd.int .u8) 5 wc w.heap.size (fun _ => True) (.slice Ao19 t275.length co19) t275) ∧ Aside0 (Below w.heap.size w wc))
            case first =>
              have H := HC14.out
              clear HC14
              by_cases c23 : t289 = 0
              · rw [if_pos c23] at H
                have c23b0 : (t289 == 0) = true := beq_iff_eq.mpr c23
                have c23b1 : (t289 != 0) = false := bne_eq_false_iff_eq.mpr c23
                clear c23
                (first | rw [c23b0] | (simp only [i64_w, i32_w]; rw [c23b0]) | skip)
                by_cases c24 : (t275.length : Int) = (wrap64 ((l0.length : Int) + 8))
                · rw [if_pos c24] at H
                  have c24b0 : ((t275.length : Int) == (wrap64 ((l0.length : Int) + 8))) = true := beq_iff_eq.mpr c24
                  have c24b1 : ((t275.length : Int) != (wrap64 ((l0.length : Int) + 8))) = false := bne_eq_false_iff_eq.mpr c24
                  clear c24
                  replace H := Option.bind_eq_some_iff.mp H
                  obtain ⟨t294, A250, H⟩ := H
                  replace H : (if t294 = true then ((ratlinelaw02_Same.f t288 l1).bind fun t295 => (ratlinelaw05_FrameBent.j1 kj4 a2 a3 t275 (!t295))) else (ratlinelaw05_FrameBent.j1 kj4 a2 a3 t275 true)) = some r := H
                  have A25 := Aside0.mk A250
                  clear A250
                  by_cases c26 : t294 = true
                  · subst c26
                    have H1 : ((ratlinelaw02_Same.f t288 l1).bind fun t295 => (ratlinelaw05_FrameBent.j1 kj4 a2 a3 t275 (!t295))) = some r := by rw [if_pos rfl] at H; exact H
                    clear H
                    have H := H1
                    clear H1
                    replace H := Option.bind_eq_some_iff.mp H
                    obtain ⟨t295, A270, H⟩ := H
                    replace H : (ratlinelaw05_FrameBent.j1 kj4 a2 a3 t275 (!t295)) = some r := H
                    have A27 := Aside0.mk A270
                    clear A270
                    have H' := Aside0.mk H
                    clear H
                    obtain ⟨Ao28, co28, eo28⟩ := Kd.R_slice HO291.out
                    subst eo28
                    go_wp2_with (first | (go_at_call 18; (with_reducible refine (ratlinelaw02_Same.calls _ _ t287 _ _ l0 true _ ?side1 ?side2 ?side3 ?side4 A25.out).mono ?_); (case side1 => repeat (first | exact (Kd.R_reads' HO291.out).2.2 | (with_reducible refine Kd.C_alloc ?_ _) | (with_reducible refine Kd.C_drewN ?_ _) | (with_reducible refine Kd.C_drew ?_))); (case side2 => exact (Kd.R_reads' HO291.out).2.1); (case side3 => repeat (first | exact (Kd.C_below HR0.out HB.out) | (with_reducible refine Kd.C_alloc ?_ _) | (with_reducible refine Kd.C_drewN ?_ _) | (with_reducible refine Kd.C_drew ?_))); (case side4 => exact HC0.out); rintro e w' ⟨rfl, ⟨nd, rfl⟩⟩; obtain ⟨Ao29, co29, eo29⟩ := Kd.R_slice HO293.out; subst eo29) | (go_at_call 18; (with_reducible refine (ratlinelaw02_Same.calls _ _ t288 _ _ l1 t295 _ ?side1 ?side2 ?side3 ?side4 A27.out).mono ?_); (case side1 => repeat (first | exact (Kd.R_reads' HO293.out).2.2 | (with_reducible refine Kd.C_alloc ?_ _) | (with_reducible refine Kd.C_drewN ?_ _) | (with_reducible refine Kd.C_drew ?_))); (case side2 => exact (Kd.R_reads' HO293.out).2.1); (case side3 => repeat (first | exact (Kd.C_below HR1.out (by repeat (first | (with_reducible first | exact HB.out | apply below_alloc | apply pw_below_drewN | apply below_drew1) | exact HB.out))) | (with_reducible refine Kd.C_alloc ?_ _) | (with_reducible refine Kd.C_drewN ?_ _) | (with_reducible refine Kd.C_drew ?_))); (case side4 => exact HC1.out); rintro e w' ⟨rfl, ⟨nd, rfl⟩⟩))
                    go_meet
                    case rel => exact ⟨_, (!t295), (by first | rfl | (simp; done) | (simp [*]; done)), H', ⟨by have := HJ4.out; first | omega | exact Nat.le_refl _⟩, ⟨by (with_reducible repeat (first | apply Kd.R_alloc | apply Kd.R_drewN | apply Kd.R_drew)); exact Kd.R_mono HO277.out (fun _ hk => trivial)⟩, ⟨by repeat (first | (with_reducible first | exact HB.out | apply below_alloc | apply pw_below_drewN | apply below_drew1) | exact HB.out)⟩⟩
                  · replace c26 := Bool.eq_false_iff.mpr c26
                    subst c26
                    have H1 : (ratlinelaw05_FrameBent.j1 kj4 a2 a3 t275 true) = some r := by rw [if_neg (show ¬ (false = true) by decide)] at H; exact H
                    clear H
                    have H := H1
                    clear H1
                    have H' := Aside0.mk H
                    clear H
                    obtain ⟨Ao30, co30, eo30⟩ := Kd.R_slice HO291.out
                    subst eo30
                    go_wp2_with (first | (go_at_call 18; (with_reducible refine (ratlinelaw02_Same.calls _ _ t287 _ _ l0 false _ ?side1 ?side2 ?side3 ?side4 A25.out).mono ?_); (case side1 => repeat (first | exact (Kd.R_reads' HO291.out).2.2 | (with_reducible refine Kd.C_alloc ?_ _) | (with_reducible refine Kd.C_drewN ?_ _) | (with_reducible refine Kd.C_drew ?_))); (case side2 => exact (Kd.R_reads' HO291.out).2.1); (case side3 => repeat (first | exact (Kd.C_below HR0.out HB.out) | (with_reducible refine Kd.C_alloc ?_ _) | (with_reducible refine Kd.C_drewN ?_ _) | (with_reducible refine Kd.C_drew ?_))); (case side4 => exact HC0.out); rintro e w' ⟨rfl, ⟨nd, rfl⟩⟩))
                    go_meet
                    case rel => exact ⟨_, (true), (by first | rfl | (simp; done) | (simp [*]; done)), H', ⟨by have := HJ4.out; first | omega | exact Nat.le_refl _⟩, ⟨by (with_reducible repeat (first | apply Kd.R_alloc | apply Kd.R_drewN | apply Kd.R_drew)); exact Kd.R_mono HO277.out (fun _ hk => trivial)⟩, ⟨by repeat (first | (with_reducible first | exact HB.out | apply below_alloc | apply pw_below_drewN | apply below_drew1) | exact HB.out)⟩⟩
                · rw [if_neg c24] at H
                  have c24b0 : ((t275.length : Int) == (wrap64 ((l0.length : Int) + 8))) = false := beq_eq_false_iff_ne.mpr c24
                  have c24b1 : ((t275.length : Int) != (wrap64 ((l0.length : Int) + 8))) = true := bne_iff_ne.mpr c24
                  have H' := Aside0.mk H
                  clear H
                  go_wp2
                  go_meet
                  case rel => exact ⟨_, (true), (by first | rfl | (simp; done) | (simp [*]; done)), H', ⟨by have := HJ4.out; first | omega | exact Nat.le_refl _⟩, ⟨by (with_reducible repeat (first | apply Kd.R_alloc | apply Kd.R_drewN | apply Kd.R_drew)); exact Kd.R_mono HO277.out (fun _ hk => trivial)⟩, ⟨by repeat (first | (with_reducible first | exact HB.out | apply below_alloc | apply pw_below_drewN | apply below_drew1) | exact HB.out)⟩⟩
              · rw [if_neg c23] at H
                have c23b0 : (t289 == 0) = false := beq_eq_false_iff_ne.mpr c23
                have c23b1 : (t289 != 0) = true := bne_iff_ne.mpr c23
                (first | rw [c23b0] | (simp only [i64_w, i32_w]; rw [c23b0]) | skip)
                have H' := Aside0.mk H
                clear H
                go_wp2
                go_meet
                case rel => exact ⟨_, (true), (by first | rfl | (simp; done) | (simp [*]; done)), H', ⟨by have := HJ4.out; first | omega | exact Nat.le_refl _⟩, ⟨by (with_reducible repeat (first | apply Kd.R_alloc | apply Kd.R_drewN | apply Kd.R_drew)); exact Kd.R_mono HO277.out (fun _ hk => trivial)⟩, ⟨by repeat (first | (with_reducible first | exact HB.out | apply below_alloc | apply pw_below_drewN | apply below_drew1) | exact HB.out)⟩⟩
            case rest =>
              clear HC14
              try clear c1
              try clear c2
              try clear p2
              try clear c4
              try clear c6
              try clear c6b0
              try clear c6b1
              try clear p6
              try clear c7
              try clear c11
              try clear c12
              try clear c19
              try clear c20
              try clear c23
              try clear c23b0
              try clear c23b1
              try clear c24
              try clear c24b0
              try clear c24b1
              try clear c26
              try clear p2
              obtain ⟨kq, x63_13, rfl, HA, HJ13, HO_9, HB⟩ := hcut
              cases kq with
              | zero => exact absurd HA.out (by simp [ratlinelaw05_FrameBent.j1])
              | succ kj13 =>
                have H := HA.out
                clear HA
                simp only [ratlinelaw05_FrameBent.j1] at H
                by_cases c31 : x63_13 = true
                · subst c31
                  have H1 : (none) = some r := by rw [if_pos rfl] at H; exact H
                  clear H
                  have H := H1
                  clear H1
                  exact absurd H (by simp)
                · replace c31 := Bool.eq_false_iff.mpr c31
                  subst c31
                  have H1 : ((some (([] : List Int) : List Int)).bind fun y296 => (if y296.length + t275.length < 140737488355328 then (ratlinelaw05_FrameBent.l0 kj13 a2 a3 (y296 ++ t275) (wrap64 (8 * (wrap64 ((t275.length : Int) - 4)))) false 0) else (none))) = some r := by rw [if_neg (show ¬ (false = true) by decide)] at H; exact H
                  clear H
                  have H := H1
                  clear H1
                  obtain ⟨y296, hy296⟩ : ∃ y_ : List Int, y_ = (([] : List Int)) := ⟨_, rfl⟩
                  replace H : (if y296.length + t275.length < 140737488355328 then (ratlinelaw05_FrameBent.l0 kj13 a2 a3 (y296 ++ t275) (wrap64 (8 * (wrap64 ((t275.length : Int) - 4)))) false 0) else (none)) = some r := by first | (rw [hy296]; with_reducible exact H) | (have H2_ := (Option.bind_some _ _).symm.trans H; rw [hy296]; with_reducible exact H2_) | (have H2_ := (Option.bind_some _ _).symm.trans H; with_reducible exact H2_) | with_reducible exact H | (rw [hy296]; exact H) | exact H
                  have Ny296 := Aside0.mk hy296
                  clear hy296
                  by_cases c32 : y296.length + t275.length < 140737488355328
                  · rw [if_pos c32] at H
                    have LMc32 := Aside0.mk c32
                    clear c32
                    obtain ⟨y299, hy299⟩ : ∃ y_ : List Int, y_ = (y296 ++ t275) := ⟨_, rfl⟩
                    replace H : (ratlinelaw05_FrameBent.l0 kj13 a2 a3 y299 (wrap64 (8 * (wrap64 ((t275.length : Int) - 4)))) false 0) = some r := by first | (rw [hy299]; with_reducible exact H) | (have H2_ := (Option.bind_some _ _).symm.trans H; rw [hy299]; with_reducible exact H2_) | (have H2_ := (Option.bind_some _ _).symm.trans H; with_reducible exact H2_) | with_reducible exact H | (rw [hy299]; exact H) | exact H
                    have Ny299 := Aside0.mk hy299
                    clear hy299
                    have H' := Aside0.mk H
                    clear H
                    go_wp2_with (first | ((with_reducible refine gate_dst (N := 64) rfl ?_); (try (refine gate_guard (by rfl) ?_; dsimp only)); refine Kd.R_lit (Kd.int .u8) _ 5 ?hg (N := 64) ?hd (xs := ([] : List Int)) (inner := []) (ok := fun _ => True) (okp := fun _ => True) ?hr ?hp (fun _ hk => hk) trivial (Below.refl _ _) (Nat.le_refl _) (by simp) ?_; (case hd => rfl); (case hg => rfl); (case hr => first | (go_simp; done) | (go_simp; rfl)); (case hp => exact (Reps.none _ _)); intro v297 w33 ho34 hb hg_ hnew_; clear hg_ hnew_; (first | rw [← Ny296.out] at ho34 | (simp only [Int.reduceToNat] at ho34; rw [← Ny296.out] at ho34)); have n0_ := Aside0.mk (Kd.R_elder' (by (with_reducible repeat (first | apply Kd.R_alloc | apply Kd.R_drewN | apply Kd.R_drew)); exact HO_9.out) (Kd.R_base ho34) hb); have n1_ := Aside0.mk (Kd.R_lower (Kd.R_new' ho34 (Kd.R_lt (by (with_reducible repeat (first | apply Kd.R_alloc | apply Kd.R_drewN | apply Kd.R_drew)); exact HO_9.out))) (below_size (by repeat (first | (with_reducible first | exact HB.out | apply below_alloc | apply pw_below_drewN | apply below_drew1) | exact HB.out)))); have n2_ := Aside0.mk (below_step (by repeat (first | (with_reducible first | exact HB.out | apply below_alloc | apply pw_below_drewN | apply below_drew1) | exact HB.out)) hb); clear HO_9; clear HB; have HO_9 := n0_; have HO298 := n1_; have HB := n2_; clear n0_ n1_ n2_; clear hb ho34) | ((with_reducible refine gate_builtin (b := .append) (xs := #[.tmp 64, .tmp 65]) rfl ?_); (try (refine gate_guard (by rfl) ?_; dsimp only)); at_builtin; refine Kd.R_append_rows (Kd.int .u8) (w0 := w) w.heap.size rfl (.tmp 64) (.tmp 65) 22 5 (.int .u8 0) 1 rfl Try.underlying22 info5 rfl (by decide) (by omega) v297 y296 t275 _ _ _ (fun k_ => some k_ ≠ (.slice Ao19 t275.length co19 : Value).ownBlock) (fun _ => False) rfl rfl ?aO ?aR (fun _ _ h => h) (fun _ h => h.elim) ?aF ?aB ?aS ?aL ?_; (case aR => repeat (first | exact (Kd.R_reads' HO_9.out).2.2 | (with_reducible refine Kd.C_alloc ?_ _) | (with_reducible refine Kd.C_drewN ?_ _) | (with_reducible refine Kd.C_drew ?_))); (case aB => exact (by repeat (first | (with_reducible first | exact HB.out | apply below_alloc | apply pw_below_drewN | apply below_drew1) | exact HB.out))); (case aF => exact (fun k_ hk => Kd.fresh' (Kd.R_lt (by (with_reducible repeat (first | apply Kd.R_alloc | apply Kd.R_drewN | apply Kd.R_drew)); exact HO_9.out)) k_ hk)); (case aO => exact (by (with_reducible repeat (first | apply Kd.R_alloc | apply Kd.R_drewN | apply Kd.R_drew)); exact Kd.R_mono HO298.out (fun _ hk => hk.2))); (case aS => exact (below_size (by repeat (first | (with_reducible first | exact HB.out | apply below_alloc | apply pw_below_drewN | apply below_drew1) | exact HB.out)))); (case aL => have := LMc32.out; omega); intro v300 w35 ho hb hg hat; rw [← Ny299.out] at ho; have n0_ := Aside0.mk (Kd.R_after (ok := (fun _ => True)) (by (with_reducible repeat (first | apply Kd.R_alloc | apply Kd.R_drewN | apply Kd.R_drew)); exact HO_9.out) hg hat); have n1_ := Aside0.mk (hb); have n2_ := Aside0.mk (ho); clear HO_9; clear HB; clear HO298; have HO_9 := n0_; have HB := n1_; have HO301 := n2_; clear n0_ n1_ n2_; clear ho hb hg hat))
                    go_loopg [15, 71] kj13 (fun kq v15 v71 w' => ∃ (x13_3 : List Int) (x15_3 : Bool) (x71_3 : Int), v15 = .bool x15_3 ∧ v71 = .int .i64 x71_3 ∧ Aside0 (ratlinelaw05_FrameBent.l0 kq a2 a3 x13_3 (wrap64 (8 * (wrap64 ((t275.length : Int) - 4)))) x15_3 x71_3 = some r) ∧ Aside0 (kq ≤ kj13) ∧ Aside0 (Kd.R (Kd.int .u8) 5 w' w.heap.size (fun _ => True) v300 x13_3) ∧ Aside0 (Below w.heap.size w w'))
                    case atStart => exact ⟨(y299), (false), (0), (by first | rfl | (simp; done) | (simp [*]; done)), (by first | rfl | (simp; done) | (simp [*]; done)), H', ⟨Nat.le_refl _⟩, ⟨by (with_reducible repeat (first | apply Kd.R_alloc | apply Kd.R_drewN | apply Kd.R_drew)); exact Kd.R_mono HO301.out (fun _ hk => trivial)⟩, ⟨by repeat (first | (with_reducible first | exact HB.out | apply below_alloc | apply pw_below_drewN | apply below_drew1) | exact HB.out)⟩⟩
                    case round =>
                      clear H'
                      try clear c1
                      try clear c2
                      try clear p2
                      try clear c3
                      try clear c4
                      try clear c6
                      try clear c6b0
                      try clear c6b1
                      try clear p6
                      try clear c7
                      try clear c11
                      try clear c12
                      try clear c19
                      try clear c20
                      try clear c23
                      try clear c23b0
                      try clear c23b1
                      try clear c24
                      try clear c24b0
                      try clear c24b1
                      try clear c26
                      try clear c31
                      try clear c32
                      try clear p2
                      try clear p6
                      obtain ⟨x13_3, x15_3, x71_3, rfl, rfl, HA, HK3, HO_13, HB⟩ := hrel
                      cases gk with
                      | zero => exact absurd HA.out (by simp [ratlinelaw05_FrameBent.l0])
                      | succ k3 =>
                        have H := HA.out
                        clear HA
                        simp only [ratlinelaw05_FrameBent.l0] at H
                        by_cases c36 : x71_3 < 32
                        · rw [if_pos c36] at H
                          have c36b0 : decide (x71_3 < 32) = true := decide_eq_true c36
                          clear c36
                          by_cases c37 : (wrap64 (8 * (wrap64 ((t275.length : Int) - 4)))) = 0
                          · rw [if_pos c37] at H
                            exact absurd H (by simp)
                          · rw [if_neg c37] at H
                            have c37b0 : ((wrap64 (8 * (wrap64 ((t275.length : Int) - 4)))) == 0) = false := beq_eq_false_iff_ne.mpr c37
                            have c37b1 : ((wrap64 (8 * (wrap64 ((t275.length : Int) - 4)))) != 0) = true := bne_iff_ne.mpr c37
                            by_cases c38 : 0 ≤ x71_3
                            · rw [if_pos c38] at H
                              have c38b0 := eq_true c38
                              have c38b1 : decide (0 ≤ x71_3) = true := decide_eq_true c38
                              clear c38
                              obtain ⟨ji39, hji39⟩ : ∃ j_ : Int, (shr .u32 a3 x71_3) = j_ := ⟨_, rfl⟩
                              replace H : (if (Go.bits .and .u32 (ji39) 1) = 1 then (if (wrap64 ((Int.tmod (wrap64 (a2)) (wrap64 (8 * (wrap64 ((t275.length : Int) - 4))))) + x71_3)) < (wrap64 (8 * (wrap64 ((t275.length : Int) - 4)))) then (if 0 ≤ (wrap64 (4 + (wrap64 (Int.tdiv (wrap64 ((Int.tmod (wrap64 (a2)) (wrap64 (8 * (wrap64 ((t275.length : Int) - 4))))) + x71_3)) 8)))) then (if (wrap64 (4 + (wrap64 (Int.tdiv (wrap64 ((Int.tmod (wrap64 (a2)) (wrap64 (8 * (wrap64 ((t275.length : Int) - 4))))) + x71_3)) 8)))) < (x13_3.length : Int) then (if 0 ≤ (Int.tmod (wrap64 ((Int.tmod (wrap64 (a2)) (wrap64 (8 * (wrap64 ((t275.length : Int) - 4))))) + x71_3)) 8) then (ratlinelaw05_FrameBent.l0 k3 a2 a3 (x13_3.set ((wrap64 (4 + (wrap64 (Int.tdiv (wrap64 ((Int.tmod (wrap64 (a2)) (wrap64 (8 * (wrap64 ((t275.length : Int) - 4))))) + x71_3)) 8)))) : Int).toNat (Go.bits .xor .u8 (rd x13_3 (wrap64 (4 + (wrap64 (Int.tdiv (wrap64 ((Int.tmod (wrap64 (a2)) (wrap64 (8 * (wrap64 ((t275.length : Int) - 4))))) + x71_3)) 8))))) (shl .u8 1 (Int.tmod (wrap64 ((Int.tmod (wrap64 (a2)) (wrap64 (8 * (wrap64 ((t275.length : Int) - 4))))) + x71_3)) 8)))) (wrap64 (8 * (wrap64 ((t275.length : Int) - 4)))) true (wrap64 (x71_3 + 1))) else (none)) else (none)) else (none)) else (ratlinelaw05_FrameBent.l0 k3 a2 a3 x13_3 (wrap64 (8 * (wrap64 ((t275.length : Int) - 4)))) x15_3 (wrap64 (x71_3 + 1)))) else (ratlinelaw05_FrameBent.l0 k3 a2 a3 x13_3 (wrap64 (8 * (wrap64 ((t275.length : Int) - 4)))) x15_3 (wrap64 (x71_3 + 1)))) = some r := by first | (rw [hji39] at H; exact H) | (simp only [hji39] at H ⊢; exact H)
                              have hji39_ : (a3 / 2 ^ min x71_3.toNat 32) = ji39 := hji39
                              have hji39z : x71_3 ≤ 32 → (a3 / 2 ^ x71_3.toNat) = ji39 := shr_small hji39
                              by_cases c40 : (Go.bits .and .u32 (ji39) 1) = 1
                              · rw [if_pos c40] at H
                                have c40b0 : ((Go.bits .and .u32 (ji39) 1) == 1) = true := beq_iff_eq.mpr c40
                                have c40b1 : ((Go.bits .and .u32 (ji39) 1) != 1) = false := bne_eq_false_iff_eq.mpr c40
                                clear c40
                                by_cases c41 : (wrap64 ((Int.tmod (wrap64 (a2)) (wrap64 (8 * (wrap64 ((t275.length : Int) - 4))))) + x71_3)) < (wrap64 (8 * (wrap64 ((t275.length : Int) - 4))))
                                · rw [if_pos c41] at H
                                  have c41b0 : decide ((wrap64 ((Int.tmod (wrap64 (a2)) (wrap64 (8 * (wrap64 ((t275.length : Int) - 4))))) + x71_3)) < (wrap64 (8 * (wrap64 ((t275.length : Int) - 4))))) = true := decide_eq_true c41
                                  clear c41
                                  obtain ⟨ji42, hji42⟩ : ∃ j_ : Int, (wrap64 (4 + (wrap64 (Int.tdiv (wrap64 ((Int.tmod (wrap64 (a2)) (wrap64 (8 * (wrap64 ((t275.length : Int) - 4))))) + x71_3)) 8)))) = j_ := ⟨_, rfl⟩
                                  replace H : (if 0 ≤ (ji42) then (if (ji42) < (x13_3.length : Int) then (if 0 ≤ (Int.tmod (wrap64 ((Int.tmod (wrap64 (a2)) (wrap64 (8 * (wrap64 ((t275.length : Int) - 4))))) + x71_3)) 8) then (ratlinelaw05_FrameBent.l0 k3 a2 a3 (x13_3.set ((ji42) : Int).toNat (Go.bits .xor .u8 (rd x13_3 (ji42)) (shl .u8 1 (Int.tmod (wrap64 ((Int.tmod (wrap64 (a2)) (wrap64 (8 * (wrap64 ((t275.length : Int) - 4))))) + x71_3)) 8)))) (wrap64 (8 * (wrap64 ((t275.length : Int) - 4)))) true (wrap64 (x71_3 + 1))) else (none)) else (none)) else (none)) = some r := by first | (rw [hji42] at H; exact H) | (simp only [hji42] at H ⊢; exact H)
                                  have hji42w : (IntKind.i64.wrap (4 + (wrap64 (Int.tdiv (wrap64 ((Int.tmod (wrap64 (a2)) (wrap64 (8 * (wrap64 ((t275.length : Int) - 4))))) + x71_3)) 8)))) = ji42 := (i64_w _).trans hji42
                                  by_cases c43 : 0 ≤ (ji42)
                                  · rw [if_pos c43] at H
                                    have c43b0 : decide (0 ≤ (ji42)) = true := decide_eq_true c43
                                    clear c43
                                    by_cases c44 : (ji42) < (x13_3.length : Int)
                                    · rw [if_pos c44] at H
                                      have c44b0 : decide ((ji42) < (x13_3.length : Int)) = true := decide_eq_true c44
                                      clear c44
                                      obtain ⟨ji45, hji45⟩ : ∃ j_ : Int, (Int.tmod (wrap64 ((Int.tmod (wrap64 (a2)) (wrap64 (8 * (wrap64 ((t275.length : Int) - 4))))) + x71_3)) 8) = j_ := ⟨_, rfl⟩
                                      replace H : (if 0 ≤ (ji45) then (ratlinelaw05_FrameBent.l0 k3 a2 a3 (x13_3.set ((ji42) : Int).toNat (Go.bits .xor .u8 (rd x13_3 (ji42)) (shl .u8 1 (ji45)))) (wrap64 (8 * (wrap64 ((t275.length : Int) - 4)))) true (wrap64 (x71_3 + 1))) else (none)) = some r := by first | (rw [hji45] at H; exact H) | (simp only [hji45] at H ⊢; exact H)
                                      by_cases c46 : 0 ≤ (ji45)
                                      · rw [if_pos c46] at H
                                        have c46b0 := eq_true c46
                                        have c46b1 : decide (0 ≤ (ji45)) = true := decide_eq_true c46
                                        clear c46
                                        obtain ⟨ji47, hji47⟩ : ∃ j_ : Int, (shl .u8 1 (ji45)) = j_ := ⟨_, rfl⟩
                                        replace H : (ratlinelaw05_FrameBent.l0 k3 a2 a3 (x13_3.set ((ji42) : Int).toNat (Go.bits .xor .u8 (rd x13_3 (ji42)) (ji47))) (wrap64 (8 * (wrap64 ((t275.length : Int) - 4)))) true (wrap64 (x71_3 + 1))) = some r := by first | (rw [hji47] at H; exact H) | (simp only [hji47] at H ⊢; exact H)
                                        have hji47_ : (IntKind.u8.wrap (1 * 2 ^ min (ji45).toNat 8)) = ji47 := hji47
                                        have hji47z : (ji45) ≤ 8 → (IntKind.u8.wrap (1 * 2 ^ (ji45).toNat)) = ji47 := shl_small hji47
                                        have hji47u : (IntKind.u8.wrap (2 ^ min (ji45).toNat 8)) = ji47 := by have h_ := hji47_; rw [Int.one_mul] at h_; exact h_
                                        have hji47v : (ji45) ≤ 8 → (IntKind.u8.wrap (2 ^ (ji45).toNat)) = ji47 := fun hle_ => by have h_ := hji47z hle_; rw [Int.one_mul] at h_; exact h_
                                        obtain ⟨y303, hy303⟩ : ∃ y_ : List Int, y_ = (x13_3.set ((ji42) : Int).toNat (Go.bits .xor .u8 (rd x13_3 (ji42)) (ji47))) := ⟨_, rfl⟩
                                        replace H : (ratlinelaw05_FrameBent.l0 k3 a2 a3 y303 (wrap64 (8 * (wrap64 ((t275.length : Int) - 4)))) true (wrap64 (x71_3 + 1))) = some r := by first | (rw [hy303]; with_reducible exact H) | (have H2_ := (Option.bind_some _ _).symm.trans H; rw [hy303]; with_reducible exact H2_) | (have H2_ := (Option.bind_some _ _).symm.trans H; with_reducible exact H2_) | with_reducible exact H | (rw [hy303]; exact H) | exact H
                                        have Ny303 := Aside0.mk hy303
                                        clear hy303
                                        have H' := Aside0.mk H
                                        clear H
                                        try go_wp2
                                        have n0_ := Aside0.mk (Kd.R_drew HO_13.out)
                                        have n1_ := Aside0.mk (below_drew1 HB.out)
                                        clear HO_13
                                        clear HB
                                        have HO_13 := n0_
                                        have HB := n1_
                                        clear n0_ n1_
                                        obtain ⟨Ao50, co50, eo50⟩ := Kd.R_slice HO_13.out
                                        (first | subst eo50 | (injection eo50 with f1_ f2_ f3_; have f4_ := f1_.symm; have f5_ := f3_.symm; clear f1_ f2_ f3_; subst f4_; subst f5_))
                                        have p302 : 0 ≤ ((ji42) : Int) := of_decide_eq_true (by first | (with_reducible assumption) | assumption)
                                        have q302 : (ji42) < (x13_3.length : Int) := of_decide_eq_true (by first | (with_reducible assumption) | assumption)
                                        obtain ⟨ad302, e302, hx302_0⟩ := Kd.at_int (Kd.R_reads' HO_13.out).2.2 (ji42) p302 q302
                                        cases e302
                                        replace p302 := eq_true p302
                                        replace q302 := eq_true q302
                                        have p48 : 0 ≤ ((ji42) : Int) := of_decide_eq_true (by first | (with_reducible assumption) | assumption)
                                        have q48 : ((ji42) : Int) < ((x13_3.length : Int) : Int) := of_decide_eq_true (by first | (with_reducible assumption) | assumption)
                                        obtain ⟨go48, co48, eo48, gb48, gl48, cl48, HG48⟩ := Kd.R_form HO_13.out (by omega)
                                        (first | cases eo48 | (injection eo48 with ea_ en_ ec_; (first | subst ea_ | (injection ea_ with ea_; subst ea_)); subst ec_; clear en_))
                                        have GB48 := Aside0.mk gb48
                                        have GG48 := Aside0.mk HG48
                                        clear gb48 gl48 HG48
                                        (first | simp only [add_plain] at hx302_0 | skip)
                                        obtain ⟨hx48_0, hf48_0⟩ := Kd.R_celln 0 HO_13.out ((ji42) : Int) p48 q48
                                        replace p48 := eq_true p48
                                        replace q48 := eq_true q48
                                        have HP51 := Kd.R_putn HO_13.out ((ji42) : Int) (Go.bits .xor .u8 (rd x13_3 (ji42)) (ji47))
                                        rw [← Ny303.out] at HP51
                                        have HQ51 := Aside0.mk HP51
                                        clear HP51
                                        refine start_ (n := 12) (S := fun w' => w'.cell? ⟨go48, ((ji42)).toNat, none⟩ = some (.int .u8 (rd x13_3 (ji42)))) (ds := [11]) #[false, false, false, false, false, false, false, false, false, false, false, false] (by kernel_rfl) rfl rfl (hx302_0) (fun hHeld => ?_); refine with_tabW ratlinelaw05_FrameBent.tab15 ratlinelaw05_FrameBent.bits15 (fun HT_ HW_ => ?_)
                                        generalize wr.drew = w49 at HO_13 HB GG48 HQ51 hf48_0 hx302_0 hx48_0 hHeld ⊢
                                        refine pure_ (i := 0) (N := some 90) (v := ?_) (a' := ?_) #[true, false, false, false, false, false, false, false, false, false, false, false] rfl rfl (any_of HT_.out (by kernel_rfl)) (fun _ _ _ h => h) (Or.inl ⟨by rfl, ?_⟩) ?_ ?_
                                        rotate_left
                                        · intro w'
                                          go_simp
                                          with_reducible rfl
                                        rotate_left
                                        · simp only [Act.put, List.setIfInBounds_toArray, List.set_cons_zero, List.set_cons_succ, i64_w, i32_w]
                                          rfl
                                        refine pure_ (i := 1) (N := some 91) (v := ?_) (a' := ?_) #[true, true, false, false, false, false, false, false, false, false, false, false] rfl rfl (any_of HT_.out (by kernel_rfl)) (fun _ _ _ h => h) (Or.inl ⟨by rfl, ?_⟩) ?_ ?_
                                        rotate_left
                                        · intro w'
                                          go_simp
                                          with_reducible rfl
                                        rotate_left
                                        · simp only [Act.put, List.setIfInBounds_toArray, List.set_cons_zero, List.set_cons_succ, i64_w, i32_w]
                                          rfl
                                        refine pure_ (i := 2) (N := some 92) (v := ?_) (a' := ?_) #[true, true, true, false, false, false, false, false, false, false, false, false] rfl rfl (any_of HT_.out (by kernel_rfl)) (fun _ _ _ h => h) (Or.inl ⟨by rfl, ?_⟩) ?_ ?_
                                        rotate_left
                                        · intro w'
                                          go_simp
                                          with_reducible rfl
                                        rotate_left
                                        · simp only [Act.put, List.setIfInBounds_toArray, List.set_cons_zero, List.set_cons_succ, i64_w, i32_w]
                                          rfl
                                        refine pure_ (i := 3) (N := some 93) (v := ?_) (a' := ?_) #[true, true, true, true, false, false, false, false, false, false, false, false] rfl rfl (any_of HT_.out (by kernel_rfl)) (fun _ _ _ h => h) (Or.inl ⟨by rfl, ?_⟩) ?_ ?_
                                        rotate_left
                                        · intro w'
                                          go_simp
                                          with_reducible rfl
                                        rotate_left
                                        · simp only [Act.put, List.setIfInBounds_toArray, List.set_cons_zero, List.set_cons_succ, i64_w, i32_w]
                                          rfl
                                        refine pure_ (i := 4) (N := some 94) (v := ?_) (a' := ?_) #[true, true, true, true, true, false, false, false, false, false, false, false] rfl rfl (any_of HT_.out (by kernel_rfl)) (fun _ _ _ h => h) (Or.inl ⟨by rfl, ?_⟩) ?_ ?_
                                        rotate_left
                                        · intro w'
                                          go_simp
                                          with_reducible rfl
                                        rotate_left
                                        · simp only [Act.put, List.setIfInBounds_toArray, List.set_cons_zero, List.set_cons_succ, i64_w, i32_w]
                                          rfl
                                        refine pure_ (i := 6) (N := some 96) (v := ?_) (a' := ?_) #[true, true, true, true, true, false, true, false, false, false, false, false] rfl rfl (any_of HT_.out (by kernel_rfl)) (fun _ _ _ h => h) (Or.inl ⟨by rfl, ?_⟩) ?_ ?_
                                        rotate_left
                                        · intro w'
                                          go_simp
                                          with_reducible rfl
                                        rotate_left
                                        · simp only [Act.put, List.setIfInBounds_toArray, List.set_cons_zero, List.set_cons_succ, i64_w, i32_w]
                                          rfl
                                        refine pure_ (i := 7) (N := some 97) (v := ?_) (a' := ?_) #[true, true, true, true, true, false, true, true, false, false, false, false] rfl rfl (any_of HT_.out (by kernel_rfl)) (fun _ _ _ h => h) (Or.inl ⟨by rfl, ?_⟩) ?_ ?_
                                        rotate_left
                                        · intro w'
                                          go_simp
                                          with_reducible rfl
                                        rotate_left
                                        · simp only [Act.put, List.setIfInBounds_toArray, List.set_cons_zero, List.set_cons_succ, i64_w, i32_w]
                                          rfl
                                        refine pure_ (i := 8) (N := some 98) (v := ?_) (a' := ?_) #[true, true, true, true, true, false, true, true, true, false, false, false] rfl rfl (any_of HT_.out (by kernel_rfl)) (fun _ _ _ h => h) (Or.inl ⟨by rfl, ?_⟩) ?_ ?_
                                        rotate_left
                                        · intro w'
                                          go_simp
                                          with_reducible rfl
                                        rotate_left
                                        · simp only [Act.put, List.setIfInBounds_toArray, List.set_cons_zero, List.set_cons_succ, i64_w, i32_w]
                                          rfl
                                        refine take_ (i := 5) (N := some 95) (v := ?_) (a' := ?_) #[true, true, true, true, true, true, true, true, true, false, false, false] rfl rfl (take_ofW HT_.out HW_.out (by kernel_rfl)) (fun _ _ _ h => h) (Or.inl ⟨by rfl, ?_⟩) hHeld ?_ ?_
                                        rotate_left
                                        · intro w' s0
                                          go_simp
                                          with_reducible rfl
                                        rotate_left
                                        · simp only [Act.put, List.setIfInBounds_toArray, List.set_cons_zero, List.set_cons_succ, i64_w, i32_w]
                                          rfl
                                        refine pure_ (i := 9) (N := some 99) (v := ?_) (a' := ?_) #[true, true, true, true, true, true, true, true, true, true, false, false] rfl rfl (any_of HT_.out (by kernel_rfl)) (fun _ _ _ h => h) (Or.inl ⟨by rfl, ?_⟩) ?_ ?_
                                        rotate_left
                                        · intro w'
                                          go_simp
                                          with_reducible rfl
                                        rotate_left
                                        · simp only [Act.put, List.setIfInBounds_toArray, List.set_cons_zero, List.set_cons_succ, i64_w, i32_w]
                                          rfl
                                        refine pure_ (i := 10) (N := some 100) (v := ?_) (a' := ?_) #[true, true, true, true, true, true, true, true, true, true, true, false] rfl rfl (any_of HT_.out (by kernel_rfl)) (fun _ _ _ h => h) (Or.inl ⟨by rfl, ?_⟩) ?_ ?_
                                        rotate_left
                                        · intro w'
                                          go_simp
                                          with_reducible rfl
                                        rotate_left
                                        · simp only [Act.put, List.setIfInBounds_toArray, List.set_cons_zero, List.set_cons_succ, i64_w, i32_w]
                                          rfl
                                        refine last_ (i := 11) (N := none) #[true, true, true, true, true, true, true, true, true, true, true, true] rfl rfl (one_of HT_.out (by kernel_rfl)) (by decide) (fun K hK => ?_)
                                        refine skip_ (w1 := ?_) (by rfl) rfl ?_ ?_
                                        rotate_left
                                        · go_simp
                                          rfl
                                        refine hK.out _ _ ?_
                                        clear hK K
                                        refine done_ (done_of HT_.out (by kernel_rfl)) ?_
                                        try go_wp2
                                        go_roundg k3
                                        case measure => have := HJ4.out; have := HJ13.out; have := HK3.out; omega
                                        case rel => exact ⟨(y303), (true), (wrap64 (x71_3 + 1)), (by first | rfl | (simp; done) | (simp [*]; done)), (by first | rfl | (simp; done) | (simp [*]; done)), H', ⟨by have := HJ4.out; have := HJ13.out; have := HK3.out; omega⟩, ⟨by (with_reducible repeat (first | apply Kd.R_alloc | apply Kd.R_drewN | apply Kd.R_drew)); exact HQ51.out⟩, ⟨by repeat (first | (with_reducible first | exact HB.out | apply below_alloc | apply pw_below_drewN | apply below_drew1 | refine below_set ?_ GB48.out) | exact HB.out)⟩⟩
                                      · rw [if_neg c46] at H
                                        exact absurd H (by simp)
                                    · rw [if_neg c44] at H
                                      exact absurd H (by simp)
                                  · rw [if_neg c43] at H
                                    exact absurd H (by simp)
                                · rw [if_neg c41] at H
                                  have c41b0 : decide ((wrap64 ((Int.tmod (wrap64 (a2)) (wrap64 (8 * (wrap64 ((t275.length : Int) - 4))))) + x71_3)) < (wrap64 (8 * (wrap64 ((t275.length : Int) - 4))))) = false := decide_eq_false c41
                                  clear c41
                                  have H' := Aside0.mk H
                                  clear H
                                  go_wp2
                                  go_roundg k3
                                  case measure => have := HJ4.out; have := HJ13.out; have := HK3.out; omega
                                  case rel => exact ⟨(x13_3), (x15_3), (wrap64 (x71_3 + 1)), (by first | rfl | (simp; done) | (simp [*]; done)), (by first | rfl | (simp; done) | (simp [*]; done)), H', ⟨by have := HJ4.out; have := HJ13.out; have := HK3.out; omega⟩, ⟨by (with_reducible repeat (first | apply Kd.R_alloc | apply Kd.R_drewN | apply Kd.R_drew)); exact HO_13.out⟩, ⟨by repeat (first | (with_reducible first | exact HB.out | apply below_alloc | apply pw_below_drewN | apply below_drew1) | exact HB.out)⟩⟩
                              · rw [if_neg c40] at H
                                have c40b0 : ((Go.bits .and .u32 (ji39) 1) == 1) = false := beq_eq_false_iff_ne.mpr c40
                                have c40b1 : ((Go.bits .and .u32 (ji39) 1) != 1) = true := bne_iff_ne.mpr c40
                                have H' := Aside0.mk H
                                clear H
                                go_wp2
                                go_roundg k3
                                case measure => have := HJ4.out; have := HJ13.out; have := HK3.out; omega
                                case rel => exact ⟨(x13_3), (x15_3), (wrap64 (x71_3 + 1)), (by first | rfl | (simp; done) | (simp [*]; done)), (by first | rfl | (simp; done) | (simp [*]; done)), H', ⟨by have := HJ4.out; have := HJ13.out; have := HK3.out; omega⟩, ⟨by (with_reducible repeat (first | apply Kd.R_alloc | apply Kd.R_drewN | apply Kd.R_drew)); exact HO_13.out⟩, ⟨by repeat (first | (with_reducible first | exact HB.out | apply below_alloc | apply pw_below_drewN | apply below_drew1) | exact HB.out)⟩⟩
                            · rw [if_neg c38] at H
                              exact absurd H (by simp)
                        · rw [if_neg c36] at H
                          have c36b0 : decide (x71_3 < 32) = false := decide_eq_false c36
                          clear c36
                          replace H := Option.bind_eq_some_iff.mp H
                          obtain ⟨⟨t304, t305, t306⟩, A520, H⟩ := H
                          replace H : (if ((t306 == 50) == x15_3) = true then (if x15_3 = true then (if (wrap64 ((t304.length : Int) + (t305.length : Int))) = 0 then ((ratlinelaw05_awake.f k3).bind fun t311 => (some t311)) else (none)) else ((ratlinelaw05_awake.f k3).bind fun t312 => (some t312))) else (none)) = some r := H
                          have A52 := Aside0.mk A520
                          clear A520
                          by_cases c53 : ((t306 == 50) == x15_3) = true
                          · rw [if_pos c53] at H
                            have c53b0 : ((t306 == 50) == x15_3) = true := c53
                            (try (have c53b1 : decide ((t306 == 50) = x15_3) = true := by simpa using c53))
                            (try (have c53b2 : ((t306 == 50) == x15_3) = true := by simpa using c53))
                            clear c53
                            by_cases c54 : x15_3 = true
                            · subst c54
                              have H1 : (if (wrap64 ((t304.length : Int) + (t305.length : Int))) = 0 then ((ratlinelaw05_awake.f k3).bind fun t311 => (some t311)) else (none)) = some r := by rw [if_pos rfl] at H; exact H
                              clear H
                              have H := H1
                              clear H1
                              by_cases c55 : (wrap64 ((t304.length : Int) + (t305.length : Int))) = 0
                              · rw [if_pos c55] at H
                                have c55b0 : ((wrap64 ((t304.length : Int) + (t305.length : Int))) == 0) = true := beq_iff_eq.mpr c55
                                have c55b1 : ((wrap64 ((t304.length : Int) + (t305.length : Int))) != 0) = false := bne_eq_false_iff_eq.mpr c55
                                clear c55
                                replace H := Option.bind_eq_some_iff.mp H
                                obtain ⟨t311, A560, H⟩ := H
                                replace H : (some t311) = some r := H
                                have A56 := Aside0.mk A560
                                clear A560
                                obtain rfl := Option.some.inj H
                                obtain ⟨Ao57, co57, eo57⟩ := Kd.R_slice HO_13.out
                                subst eo57
                                go_wp2_with (first | ((with_reducible refine gate_callee (f := 20) rfl ?_); refine goesL_ (some 104) rfl rfl Try.func20 (by kernel_rfl) rfl #[.slice Ao57 x13_3.length co57] rfl (by (try simp only [List.map_toArray, List.map_cons, List.map_nil]); first | done | rfl | (simp only [List.length_drop, List.length_take]; rfl)) ?_; (with_reducible refine (frame_Take.calls k3 _ _ x13_3 t304 t305 t306 _ ?side1 ?side2 A52.out).mono ?_); (case side1 => repeat (first | exact (Kd.R_reads' HO_13.out).2.2 | (with_reducible refine Kd.C_alloc ?_ _) | (with_reducible refine Kd.C_drewN ?_ _) | (with_reducible refine Kd.C_drew ?_))); (case side2 => exact (Kd.R_reads' HO_13.out).2.1); rintro e w58 ⟨v307, v309, rfl, ho0, ho1, hb⟩; refine ⟨_, rfl, ?_⟩; have n0_ := Aside0.mk (Kd.R_mono (Kd.R_told (Kd.R_told (Kd.R_old (by (with_reducible repeat (first | apply Kd.R_alloc | apply Kd.R_drewN | apply Kd.R_drew)); exact HO_13.out) hb) (Kd.R_base ho0)) (Kd.R_base ho1)) (fun _ h_ => h_.1)); have n1_ := Aside0.mk (Kd.R_lower (Kd.R_new' ho0 (Kd.R_lt (by (with_reducible repeat (first | apply Kd.R_alloc | apply Kd.R_drewN | apply Kd.R_drew)); exact HO_13.out))) (below_size (by repeat (first | (with_reducible first | exact HB.out | apply below_alloc | apply pw_below_drewN | apply below_drew1) | exact HB.out)))); have n2_ := Aside0.mk (Kd.R_lower (Kd.R_new' ho1 (Kd.R_lt (by (with_reducible repeat (first | apply Kd.R_alloc | apply Kd.R_drewN | apply Kd.R_drew)); exact HO_13.out))) (below_size (by repeat (first | (with_reducible first | exact HB.out | apply below_alloc | apply pw_below_drewN | apply below_drew1) | exact HB.out)))); have n3_ := Aside0.mk (below_step (by repeat (first | (with_reducible first | exact HB.out | apply below_alloc | apply pw_below_drewN | apply below_drew1) | exact HB.out)) hb); clear HO_13; clear HB; have HO_13 := n0_; have HO308 := n1_; have HO310 := n2_; have HB := n3_; clear n0_ n1_ n2_ n3_; (try clear hb); (try clear hb2); (try clear hk); (try clear hi); (try clear ho0); (try clear ho1); obtain ⟨Ao59, co59, eo59⟩ := Kd.R_slice HO308.out; subst eo59; obtain ⟨Ao60, co60, eo60⟩ := Kd.R_slice HO310.out; subst eo60) | (go_at_call 14; (with_reducible refine (ratlinelaw05_awake.calls k3  t311 _ A56.out).mono ?_); rintro e w61 ⟨rfl, hb⟩; have n0_ := Aside0.mk (Kd.R_below (by (with_reducible repeat (first | apply Kd.R_alloc | apply Kd.R_drewN | apply Kd.R_drew)); exact HO_13.out) hb); have n1_ := Aside0.mk (Kd.R_below (by (with_reducible repeat (first | apply Kd.R_alloc | apply Kd.R_drewN | apply Kd.R_drew)); exact HO308.out) hb); have n2_ := Aside0.mk (Kd.R_below (by (with_reducible repeat (first | apply Kd.R_alloc | apply Kd.R_drewN | apply Kd.R_drew)); exact HO310.out) hb); have n3_ := Aside0.mk (below_step (by repeat (first | (with_reducible first | exact HB.out | apply below_alloc | apply pw_below_drewN | apply below_drew1) | exact HB.out)) hb); clear HO_13; clear HO308; clear HO310; clear HB; have HO_13 := n0_; have HO308 := n1_; have HO310 := n2_; have HB := n3_; clear n0_ n1_ n2_ n3_; (try clear hb); (try clear hb2); (try clear hk); (try clear hi)))
                                go_ret
                                exact ⟨by first | rfl | (simp [errW_none, errW_some] <;> rfl) | (simp [*, errW_none, errW_some] <;> rfl), by repeat (first | (with_reducible first | exact HB.out | apply below_alloc | apply pw_below_drewN | apply below_drew1) | exact HB.out)⟩
                              · rw [if_neg c55] at H
                                exact absurd H (by simp)
                            · replace c54 := Bool.eq_false_iff.mpr c54
                              subst c54
                              have H1 : ((ratlinelaw05_awake.f k3).bind fun t312 => (some t312)) = some r := by rw [if_neg (show ¬ (false = true) by decide)] at H; exact H
                              clear H
                              have H := H1
                              clear H1
                              replace H := Option.bind_eq_some_iff.mp H
                              obtain ⟨t312, A620, H⟩ := H
                              replace H : (some t312) = some r := H
                              have A62 := Aside0.mk A620
                              clear A620
                              obtain rfl := Option.some.inj H
                              obtain ⟨Ao63, co63, eo63⟩ := Kd.R_slice HO_13.out
                              subst eo63
                              go_wp2_with (first | ((with_reducible refine gate_callee (f := 20) rfl ?_); refine goesL_ (some 104) rfl rfl Try.func20 (by kernel_rfl) rfl #[.slice Ao63 x13_3.length co63] rfl (by (try simp only [List.map_toArray, List.map_cons, List.map_nil]); first | done | rfl | (simp only [List.length_drop, List.length_take]; rfl)) ?_; (with_reducible refine (frame_Take.calls k3 _ _ x13_3 t304 t305 t306 _ ?side1 ?side2 A52.out).mono ?_); (case side1 => repeat (first | exact (Kd.R_reads' HO_13.out).2.2 | (with_reducible refine Kd.C_alloc ?_ _) | (with_reducible refine Kd.C_drewN ?_ _) | (with_reducible refine Kd.C_drew ?_))); (case side2 => exact (Kd.R_reads' HO_13.out).2.1); rintro e w64 ⟨v307, v309, rfl, ho0, ho1, hb⟩; refine ⟨_, rfl, ?_⟩; have n0_ := Aside0.mk (Kd.R_mono (Kd.R_told (Kd.R_told (Kd.R_old (by (with_reducible repeat (first | apply Kd.R_alloc | apply Kd.R_drewN | apply Kd.R_drew)); exact HO_13.out) hb) (Kd.R_base ho0)) (Kd.R_base ho1)) (fun _ h_ => h_.1)); have n1_ := Aside0.mk (Kd.R_lower (Kd.R_new' ho0 (Kd.R_lt (by (with_reducible repeat (first | apply Kd.R_alloc | apply Kd.R_drewN | apply Kd.R_drew)); exact HO_13.out))) (below_size (by repeat (first | (with_reducible first | exact HB.out | apply below_alloc | apply pw_below_drewN | apply below_drew1) | exact HB.out)))); have n2_ := Aside0.mk (Kd.R_lower (Kd.R_new' ho1 (Kd.R_lt (by (with_reducible repeat (first | apply Kd.R_alloc | apply Kd.R_drewN | apply Kd.R_drew)); exact HO_13.out))) (below_size (by repeat (first | (with_reducible first | exact HB.out | apply below_alloc | apply pw_below_drewN | apply below_drew1) | exact HB.out)))); have n3_ := Aside0.mk (below_step (by repeat (first | (with_reducible first | exact HB.out | apply below_alloc | apply pw_below_drewN | apply below_drew1) | exact HB.out)) hb); clear HO_13; clear HB; have HO_13 := n0_; have HO308 := n1_; have HO310 := n2_; have HB := n3_; clear n0_ n1_ n2_ n3_; (try clear hb); (try clear hb2); (try clear hk); (try clear hi); (try clear ho0); (try clear ho1)) | (go_at_call 14; (with_reducible refine (ratlinelaw05_awake.calls k3  t312 _ A62.out).mono ?_); rintro e w65 ⟨rfl, hb⟩; have n0_ := Aside0.mk (Kd.R_below (by (with_reducible repeat (first | apply Kd.R_alloc | apply Kd.R_drewN | apply Kd.R_drew)); exact HO_13.out) hb); have n1_ := Aside0.mk (Kd.R_below (by (with_reducible repeat (first | apply Kd.R_alloc | apply Kd.R_drewN | apply Kd.R_drew)); exact HO308.out) hb); have n2_ := Aside0.mk (Kd.R_below (by (with_reducible repeat (first | apply Kd.R_alloc | apply Kd.R_drewN | apply Kd.R_drew)); exact HO310.out) hb); have n3_ := Aside0.mk (below_step (by repeat (first | (with_reducible first | exact HB.out | apply below_alloc | apply pw_below_drewN | apply below_drew1) | exact HB.out)) hb); clear HO_13; clear HO308; clear HO310; clear HB; have HO_13 := n0_; have HO308 := n1_; have HO310 := n2_; have HB := n3_; clear n0_ n1_ n2_ n3_; (try clear hb); (try clear hb2); (try clear hk); (try clear hi)))
                              go_ret
                              exact ⟨by first | rfl | (simp [errW_none, errW_some] <;> rfl) | (simp [*, errW_none, errW_some] <;> rfl), by repeat (first | (with_reducible first | exact HB.out | apply below_alloc | apply pw_below_drewN | apply below_drew1) | exact HB.out)⟩
                          · rw [if_neg c53] at H
                            exact absurd H (by simp)
                  · rw [if_neg c32] at H
                    exact absurd H (by simp)
          · rw [if_neg c12] at H
            exact absurd H (by simp)
        · rw [if_neg c11] at H
          exact absurd H (by simp)

/-- THE ONE PURE STATEMENT of ratlinelaw05_FrameBent: yours. -/
def ratlinelaw05_FrameBent.Pure : Prop := ∀ (l0 : List Int) (l1 : List Int) (a2 : Int) (a3 : Int), l0.length ≤ maxLen → l0.length * 1 ≤ 140737488351232 → (∀ x ∈ l0, (Lit.int .u8 x).wf = true) → l1.length ≤ maxLen → l1.length * 1 ≤ 140737488351232 → (∀ x ∈ l1, (Lit.int .u8 x).wf = true) → (Lit.int .u16 a2).wf = true → (Lit.int .u32 a3).wf = true → ∃ k, ratlinelaw05_FrameBent.f k l0 l1 a2 a3 = some true
theorem ratlinelaw05_FrameBent.walk (P : ratlinelaw05_FrameBent.Pure) (a0 : Option Addr) (len0 cap0 : Nat) (z0 : List Int) (a1 : Option Addr) (len1 cap1 : Nat) (z1 : List Int) (a2 : Int) (a3 : Int) (w : World) (w0 : (a0 = none ∧ len0 = 0 ∧ cap0 = 0 ∧ z0 = []) ∨ ∃ x, a0 = some x ∧ len0 ≤ cap0 ∧ cap0 ≤ maxLen ∧ z0.length = cap0 ∧ (∀ i, i < z0.length → w.cell? (x.add i) = some (.int .u8 (z0.getD i 0))) ∧ ∀ n ∈ z0, (Lit.int .u8 n).wf = true) (y0 : len0 * 1 ≤ 140737488351232) (w1 : (a1 = none ∧ len1 = 0 ∧ cap1 = 0 ∧ z1 = []) ∨ ∃ x, a1 = some x ∧ len1 ≤ cap1 ∧ cap1 ≤ maxLen ∧ z1.length = cap1 ∧ (∀ i, i < z1.length → w.cell? (x.add i) = some (.int .u8 (z1.getD i 0))) ∧ ∀ n ∈ z1, (Lit.int .u8 n).wf = true) (y1 : len1 * 1 ≤ 140737488351232) (w2 : (Lit.int .u16 a2).wf = true) (w3 : (Lit.int .u32 a3).wf = true) :
    Calls Try.prog 4 #[.slice a0 len0 cap0, .slice a1 len1 cap1, .int .u16 a2, .int .u32 a3] w fun e w' => e = .returned (.bool true) ∧ Below w.heap.size w w' := by
  obtain ⟨l0, rfl, hr0, hm0, hw0, hc0⟩ := ReadsInt.ofRowC w0
  obtain ⟨l1, rfl, hr1, hm1, hw1, hc1⟩ := ReadsInt.ofRowC w1
  obtain ⟨k, h⟩ := P l0 l1 a2 a3 hm0 y0 hw0 hm1 y1 hw1 w2 w3
  refine (ratlinelaw05_FrameBent.calls k _ _ l0 _ _ l1 a2 a3 true w (Kd.C_of_reads (d := (0 : Int)) (h1 := fun _ => rfl) hr0) hc0 (Kd.C_of_reads (d := (0 : Int)) (h1 := fun _ => rfl) hr1) hc1 h).mono ?_
  rintro e w' ⟨rfl, hd⟩
  exact ⟨rfl, hd⟩

end Go.Proofs.Ytdppjknfhggpbaa.P
