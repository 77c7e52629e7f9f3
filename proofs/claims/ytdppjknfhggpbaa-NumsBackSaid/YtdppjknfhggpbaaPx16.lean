/- Proved here: functions of the program return what the Lean functions beside them say, or a law of the program holds. Conditions: those of each theorem. Written for this claim by a program: the printer of the kit, with some contracts given. -/
import Derived.Test.YtdppjknfhggpbaaPx0
import Derived.Test.YtdppjknfhggpbaaPx1
import Derived.Test.YtdppjknfhggpbaaPx2
import Derived.Test.YtdppjknfhggpbaaPx3
import Derived.Test.YtdppjknfhggpbaaPx4
import Derived.Test.YtdppjknfhggpbaaPx11
namespace Go.Proofs.Ytdppjknfhggpbaa.P
open Go.RowKit Go.Proofs.YtdppjknfhggpbaaG Go.Proofs.YtdppjknfhggpbaaW.PrintWords Go.Proofs.YtdppjknfhggpbaaW.PrintLast Go.Proofs.YtdppjknfhggpbaaW.PrintMore
attribute [local go_sem] max2_int min2_int max_two min_two max_three min_three max_four min_four   -- for this text's walks alone
set_option linter.unusedVariables false
set_option linter.unusedSimpArgs false

/-! ### ratlinelaw02_NumsBack: function 12 -/
mutual
def ratlinelaw02_NumsBack.j0 : Nat → Int → ByteArray → List Int → List Int → Bool → Option (Bool)
  | 0, _, _, _, _, _ => none
  | k + 1, x0, x1, x2, x3, x39 => if x39 = true then ((ratlinelaw02_awake.f).bind fun t397 => (some t397)) else ((nums_Put.f ([] : List Int) x0).bind fun t398 => (if t398.length + x2.length < 140737488355328 then ((nums_Take.f (t398 ++ x2)).bind fun bt404 => ((nums_PutText.f ([] : List Int) x1).bind fun t409 => (if t409.length + x2.length < 140737488355328 then ((nums_TakeText.f (t409 ++ x2) 300).bind fun bt415 => ((nums_PutFour.f ([] : List Int) ((x0) % 4294967296)).bind fun t420 => (if t420.length + x2.length < 140737488355328 then ((nums_TakeFour.f (t420 ++ x2)).bind fun bt426 => (if bt404.2.2 = true then (if bt404.1 = x0 then ((ratlinelaw02_Same.f bt404.2.1 x2).bind fun t431 => (if t431 = true then (if bt415.2.2 = true then (if bt415.1.toList = x1.toList then ((ratlinelaw02_Same.f bt415.2.1 x2).bind fun t432 => (if t432 = true then (if bt426.2.2 = true then (if bt426.1 = ((x0) % 4294967296) then ((ratlinelaw02_Same.f bt426.2.1 x2).bind fun t433 => (ratlinelaw02_NumsBack.j1 k x3 (!t433))) else (ratlinelaw02_NumsBack.j1 k x3 true)) else (ratlinelaw02_NumsBack.j1 k x3 true)) else (ratlinelaw02_NumsBack.j1 k x3 true))) else (ratlinelaw02_NumsBack.j1 k x3 true)) else (ratlinelaw02_NumsBack.j1 k x3 true)) else (ratlinelaw02_NumsBack.j1 k x3 true))) else (ratlinelaw02_NumsBack.j1 k x3 true)) else (ratlinelaw02_NumsBack.j1 k x3 true))) else (none)))) else (none)))) else (none)))
def ratlinelaw02_NumsBack.j1 : Nat → List Int → Bool → Option (Bool)
  | 0, _, _ => none
  | k + 1, x3, x112 => if x112 = true then (none) else ((nums_Take.f x3).bind fun bt434 => (if bt434.2.2 = true then ((nums_Put.f ([] : List Int) bt434.1).bind fun t439 => (if t439.length + bt434.2.1.length < 140737488355328 then ((ratlinelaw02_Same.f (t439 ++ bt434.2.1) x3).bind fun t445 => (ratlinelaw02_NumsBack.j2 k x3 (!t445))) else (none))) else (ratlinelaw02_NumsBack.j2 k x3 false)))
def ratlinelaw02_NumsBack.j2 : Nat → List Int → Bool → Option (Bool)
  | 0, _, _ => none
  | k + 1, x3, x128 => if x128 = true then (none) else ((nums_TakeText.f x3 300).bind fun bt446 => (if bt446.2.2 = true then ((nums_PutText.f ([] : List Int) bt446.1).bind fun t451 => (if t451.length + bt446.2.1.length < 140737488355328 then ((ratlinelaw02_Same.f (t451 ++ bt446.2.1) x3).bind fun t457 => (ratlinelaw02_NumsBack.j3 k x3 (!t457))) else (none))) else (ratlinelaw02_NumsBack.j3 k x3 false)))
def ratlinelaw02_NumsBack.j3 : Nat → List Int → Bool → Option (Bool)
  | 0, _, _ => none
  | k + 1, x3, x144 => if x144 = true then (none) else ((nums_TakeFour.f x3).bind fun bt458 => (if (bt458.2.2 == (decide ((x3.length : Int) ≥ 4))) = true then (if bt458.2.2 = true then ((nums_PutFour.f ([] : List Int) bt458.1).bind fun t463 => (if t463.length + bt458.2.1.length < 140737488355328 then ((ratlinelaw02_Same.f (t463 ++ bt458.2.1) x3).bind fun t469 => (if t469 = true then ((ratlinelaw02_awake.f).bind fun t470 => (some t470)) else (none))) else (none))) else ((ratlinelaw02_awake.f).bind fun t471 => (some t471))) else (none)))
end
def ratlinelaw02_NumsBack.f (k : Nat) (a0 : Int) (a1 : ByteArray) (l2 : List Int) (l3 : List Int) : Option (Bool) := if (a1.size : Int) > 300 then (ratlinelaw02_NumsBack.j0 k a0 a1 l2 l3 true) else (if (l2.length : Int) > 100 then (ratlinelaw02_NumsBack.j0 k a0 a1 l2 l3 true) else (ratlinelaw02_NumsBack.j0 k a0 a1 l2 l3 (decide ((l3.length : Int) > 200))))
theorem ratlinelaw02_NumsBack.mono_l : ∀ k, (∀ y0 y1 y2 y3 y4, LeO (ratlinelaw02_NumsBack.j0 k y0 y1 y2 y3 y4) (ratlinelaw02_NumsBack.j0 (k + 1) y0 y1 y2 y3 y4)) ∧ (∀ y0 y1, LeO (ratlinelaw02_NumsBack.j1 k y0 y1) (ratlinelaw02_NumsBack.j1 (k + 1) y0 y1)) ∧ (∀ y0 y1, LeO (ratlinelaw02_NumsBack.j2 k y0 y1) (ratlinelaw02_NumsBack.j2 (k + 1) y0 y1)) ∧ (∀ y0 y1, LeO (ratlinelaw02_NumsBack.j3 k y0 y1) (ratlinelaw02_NumsBack.j3 (k + 1) y0 y1))
  | 0 => ⟨fun _ _ _ _ _ r h => by simp [ratlinelaw02_NumsBack.j0] at h, fun _ _ r h => by simp [ratlinelaw02_NumsBack.j1] at h, fun _ _ r h => by simp [ratlinelaw02_NumsBack.j2] at h, fun _ _ r h => by simp [ratlinelaw02_NumsBack.j3] at h⟩
  | k + 1 => by
    obtain ⟨ih0, ih1, ih2, ih3⟩ := ratlinelaw02_NumsBack.mono_l k
    refine ⟨?_, ?_, ?_, ?_⟩
    · intro y0 y1 y2 y3 y4
      unfold ratlinelaw02_NumsBack.j0
      repeat' first
      | (with_reducible exact ih0 _ _ _ _ _)
      | (with_reducible exact ih1 _ _)
      | (with_reducible exact ih2 _ _)
      | (with_reducible exact ih3 _ _)
      | (with_reducible exact LeO.refl _)
      | (with_reducible exact LeO.none _)
      | (with_reducible refine LeO.ite ?_ ?_)
      | (with_reducible refine LeO.bind ?_ (fun _ => ?_))
      | exact ih0 _ _ _ _ _
      | exact ih1 _ _
      | exact ih2 _ _
      | exact ih3 _ _
      | exact LeO.none _
      | refine LeO.ite ?_ ?_
      | refine LeO.bind ?_ (fun _ => ?_)
    · intro y0 y1
      unfold ratlinelaw02_NumsBack.j1
      repeat' first
      | (with_reducible exact ih0 _ _ _ _ _)
      | (with_reducible exact ih1 _ _)
      | (with_reducible exact ih2 _ _)
      | (with_reducible exact ih3 _ _)
      | (with_reducible exact LeO.refl _)
      | (with_reducible exact LeO.none _)
      | (with_reducible refine LeO.ite ?_ ?_)
      | (with_reducible refine LeO.bind ?_ (fun _ => ?_))
      | exact ih0 _ _ _ _ _
      | exact ih1 _ _
      | exact ih2 _ _
      | exact ih3 _ _
      | exact LeO.none _
      | refine LeO.ite ?_ ?_
      | refine LeO.bind ?_ (fun _ => ?_)
    · intro y0 y1
      unfold ratlinelaw02_NumsBack.j2
      repeat' first
      | (with_reducible exact ih0 _ _ _ _ _)
      | (with_reducible exact ih1 _ _)
      | (with_reducible exact ih2 _ _)
      | (with_reducible exact ih3 _ _)
      | (with_reducible exact LeO.refl _)
      | (with_reducible exact LeO.none _)
      | (with_reducible refine LeO.ite ?_ ?_)
      | (with_reducible refine LeO.bind ?_ (fun _ => ?_))
      | exact ih0 _ _ _ _ _
      | exact ih1 _ _
      | exact ih2 _ _
      | exact ih3 _ _
      | exact LeO.none _
      | refine LeO.ite ?_ ?_
      | refine LeO.bind ?_ (fun _ => ?_)
    · intro y0 y1
      unfold ratlinelaw02_NumsBack.j3
      repeat' first
      | (with_reducible exact ih0 _ _ _ _ _)
      | (with_reducible exact ih1 _ _)
      | (with_reducible exact ih2 _ _)
      | (with_reducible exact ih3 _ _)
      | (with_reducible exact LeO.refl _)
      | (with_reducible exact LeO.none _)
      | (with_reducible refine LeO.ite ?_ ?_)
      | (with_reducible refine LeO.bind ?_ (fun _ => ?_))
      | exact ih0 _ _ _ _ _
      | exact ih1 _ _
      | exact ih2 _ _
      | exact ih3 _ _
      | exact LeO.none _
      | refine LeO.ite ?_ ?_
      | refine LeO.bind ?_ (fun _ => ?_)
theorem ratlinelaw02_NumsBack.mono : ∀ a0 a1 a2 a3 k, LeO (ratlinelaw02_NumsBack.f k a0 a1 a2 a3) (ratlinelaw02_NumsBack.f (k + 1) a0 a1 a2 a3) := by
  intro a0 a1 a2 a3 k
  obtain ⟨ih0, ih1, ih2, ih3⟩ := ratlinelaw02_NumsBack.mono_l k
  unfold ratlinelaw02_NumsBack.f
  repeat' first
      | (with_reducible exact ih0 _ _ _ _ _)
      | (with_reducible exact ih1 _ _)
      | (with_reducible exact ih2 _ _)
      | (with_reducible exact ih3 _ _)
      | (with_reducible exact LeO.refl _)
      | (with_reducible exact LeO.none _)
      | (with_reducible refine LeO.ite ?_ ?_)
      | (with_reducible refine LeO.bind ?_ (fun _ => ?_))
      | exact ih0 _ _ _ _ _
      | exact ih1 _ _
      | exact ih2 _ _
      | exact ih3 _ _
      | exact LeO.none _
      | refine LeO.ite ?_ ?_
      | refine LeO.bind ?_ (fun _ => ?_)
set_option maxHeartbeats 8000000 in
set_option maxRecDepth 100000 in
theorem ratlinelaw02_NumsBack.calls (k : Nat) (a0 : Int) (a1 : ByteArray) (A2 : Option Addr) (c2 : Nat) (l2 : List Int) (A3 : Option Addr) (c3 : Nat) (l3 : List Int) (r : Bool) (w : World) (hr2 : Kd.C (Kd.int .u8) w A2 l2.length l2) (hc2 : l2.length ≤ c2) (hr3 : Kd.C (Kd.int .u8) w A3 l3.length l3) (hc3 : l3.length ≤ c3) (h : ratlinelaw02_NumsBack.f k a0 a1 l2 l3 = some r) :
    Calls Try.prog 12 #[.int .u64 a0, .string a1, .slice A2 l2.length c2, .slice A3 l3.length c3] w fun e w' => e = .returned (.bool r) ∧ Below w.heap.size w w' := by
  have HR2 := Aside0.mk hr2
  have HC2 := Aside0.mk hc2
  clear hr2 hc2
  have HR3 := Aside0.mk hr3
  have HC3 := Aside0.mk hc3
  clear hr3 hc3
  have HB := Aside0.mk (Below.refl w.heap.size w)
  have H : (if (a1.size : Int) > 300 then (ratlinelaw02_NumsBack.j0 k a0 a1 l2 l3 true) else (if (l2.length : Int) > 100 then (ratlinelaw02_NumsBack.j0 k a0 a1 l2 l3 true) else (ratlinelaw02_NumsBack.j0 k a0 a1 l2 l3 (decide ((l3.length : Int) > 200))))) = some r := h
  clear h
  have HC5 := Aside0.mk H
  clear H
  go_enter Try.func12, Try.ntmps12
  go_upto_region 1 with (fail)
  go_cut [39] (fun v39 wc => ∃ (kq : Nat) (x39_4 : Bool), v39 = .bool x39_4 ∧ Aside0 (ratlinelaw02_NumsBack.j0 kq a0 a1 l2 l3 x39_4 = some r) ∧ Aside0 (kq ≤ k) ∧ Aside0 (Below w.heap.size w wc))
  case first =>
    have H := HC5.out
    clear HC5
    by_cases c6 : (a1.size : Int) > 300
    · rw [if_pos c6] at H
      have c6b0 : decide (300 < (a1.size : Int)) = true := decide_eq_true c6
      have c6b1 : decide (300 < a1.size) = true := decide_eq_true (by omega)
      clear c6
      (first | rw [c6b0] | (simp only [i64_w, i32_w]; rw [c6b0]) | skip)
      have H' := Aside0.mk H
      clear H
      go_wp2
      go_meet
      case rel => exact ⟨_, (true), (by first | rfl | (simp; done) | (simp [*]; done)), H', ⟨by first | omega | exact Nat.le_refl _⟩, ⟨by repeat (first | (with_reducible first | exact HB.out | apply below_alloc | apply pw_below_drewN | apply below_drew1) | exact HB.out)⟩⟩
    · rw [if_neg c6] at H
      have c6b0 : decide (300 < (a1.size : Int)) = false := decide_eq_false c6
      have c6b1 : decide (300 < a1.size) = false := decide_eq_false (by omega)
      clear c6
      (first | rw [c6b0] | (simp only [i64_w, i32_w]; rw [c6b0]) | skip)
      by_cases c7 : (l2.length : Int) > 100
      · rw [if_pos c7] at H
        have c7b0 : decide (100 < (l2.length : Int)) = true := decide_eq_true c7
        have c7b1 : decide (100 < l2.length) = true := decide_eq_true (by omega)
        clear c7
        have H' := Aside0.mk H
        clear H
        go_wp2
        go_meet
        case rel => exact ⟨_, (true), (by first | rfl | (simp; done) | (simp [*]; done)), H', ⟨by first | omega | exact Nat.le_refl _⟩, ⟨by repeat (first | (with_reducible first | exact HB.out | apply below_alloc | apply pw_below_drewN | apply below_drew1) | exact HB.out)⟩⟩
      · rw [if_neg c7] at H
        have c7b0 : decide (100 < (l2.length : Int)) = false := decide_eq_false c7
        have c7b1 : decide (100 < l2.length) = false := decide_eq_false (by omega)
        clear c7
        have H' := Aside0.mk H
        clear H
        go_wp2
        go_meet
        case rel => exact ⟨_, (decide ((l3.length : Int) > 200)), (by first | rfl | (simp; done) | (simp [*]; done)), H', ⟨by first | omega | exact Nat.le_refl _⟩, ⟨by repeat (first | (with_reducible first | exact HB.out | apply below_alloc | apply pw_below_drewN | apply below_drew1) | exact HB.out)⟩⟩
  case rest =>
    clear HC5
    try clear c1
    try clear c2
    try clear p2
    try clear c3
    try clear c6
    try clear c6b0
    try clear c6b1
    try clear c7
    try clear c7b0
    try clear c7b1
    obtain ⟨kq, x39_4, rfl, HA, HJ4, HB⟩ := hcut
    cases kq with
    | zero => exact absurd HA.out (by simp [ratlinelaw02_NumsBack.j0])
    | succ kj4 =>
      have H := HA.out
      clear HA
      simp only [ratlinelaw02_NumsBack.j0] at H
      by_cases c8 : x39_4 = true
      · subst c8
        have H1 : ((ratlinelaw02_awake.f).bind fun t397 => (some t397)) = some r := by rw [if_pos rfl] at H; exact H
        clear H
        have H := H1
        clear H1
        replace H := Option.bind_eq_some_iff.mp H
        obtain ⟨t397, A90, H⟩ := H
        replace H : (some t397) = some r := H
        have A9 := Aside0.mk A90
        clear A90
        obtain rfl := Option.some.inj H
        go_wp2_with (first | (go_at_call 24; (with_reducible refine (ratlinelaw02_awake.calls  t397 _ A9.out).mono ?_); rintro e w10 ⟨rfl, hb⟩; have n0_ := Aside0.mk (below_step (by repeat (first | (with_reducible first | exact HB.out | apply below_alloc | apply pw_below_drewN | apply below_drew1) | exact HB.out)) hb); clear HB; have HB := n0_; clear n0_; (try clear hb); (try clear hb2); (try clear hk); (try clear hi); (try apply_assumption)))
        go_ret
        exact ⟨by first | rfl | (simp [errW_none, errW_some] <;> rfl) | (simp [*, errW_none, errW_some] <;> rfl), by repeat (first | (with_reducible first | exact HB.out | apply below_alloc | apply pw_below_drewN | apply below_drew1) | exact HB.out)⟩
      · replace c8 := Bool.eq_false_iff.mpr c8
        subst c8
        have H1 : ((nums_Put.f ([] : List Int) a0).bind fun t398 => (if t398.length + l2.length < 140737488355328 then ((nums_Take.f (t398 ++ l2)).bind fun bt404 => ((nums_PutText.f ([] : List Int) a1).bind fun t409 => (if t409.length + l2.length < 140737488355328 then ((nums_TakeText.f (t409 ++ l2) 300).bind fun bt415 => ((nums_PutFour.f ([] : List Int) ((a0) % 4294967296)).bind fun t420 => (if t420.length + l2.length < 140737488355328 then ((nums_TakeFour.f (t420 ++ l2)).bind fun bt426 => (if bt404.2.2 = true then (if bt404.1 = a0 then ((ratlinelaw02_Same.f bt404.2.1 l2).bind fun t431 => (if t431 = true then (if bt415.2.2 = true then (if bt415.1.toList = a1.toList then ((ratlinelaw02_Same.f bt415.2.1 l2).bind fun t432 => (if t432 = true then (if bt426.2.2 = true then (if bt426.1 = ((a0) % 4294967296) then ((ratlinelaw02_Same.f bt426.2.1 l2).bind fun t433 => (ratlinelaw02_NumsBack.j1 kj4 l3 (!t433))) else (ratlinelaw02_NumsBack.j1 kj4 l3 true)) else (ratlinelaw02_NumsBack.j1 kj4 l3 true)) else (ratlinelaw02_NumsBack.j1 kj4 l3 true))) else (ratlinelaw02_NumsBack.j1 kj4 l3 true)) else (ratlinelaw02_NumsBack.j1 kj4 l3 true)) else (ratlinelaw02_NumsBack.j1 kj4 l3 true))) else (ratlinelaw02_NumsBack.j1 kj4 l3 true)) else (ratlinelaw02_NumsBack.j1 kj4 l3 true))) else (none)))) else (none)))) else (none))) = some r := by rw [if_neg (show ¬ (false = true) by decide)] at H; exact H
        clear H
        have H := H1
        clear H1
        replace H := Option.bind_eq_some_iff.mp H
        obtain ⟨t398, A110, H⟩ := H
        replace H : (if t398.length + l2.length < 140737488355328 then ((nums_Take.f (t398 ++ l2)).bind fun bt404 => ((nums_PutText.f ([] : List Int) a1).bind fun t409 => (if t409.length + l2.length < 140737488355328 then ((nums_TakeText.f (t409 ++ l2) 300).bind fun bt415 => ((nums_PutFour.f ([] : List Int) ((a0) % 4294967296)).bind fun t420 => (if t420.length + l2.length < 140737488355328 then ((nums_TakeFour.f (t420 ++ l2)).bind fun bt426 => (if bt404.2.2 = true then (if bt404.1 = a0 then ((ratlinelaw02_Same.f bt404.2.1 l2).bind fun t431 => (if t431 = true then (if bt415.2.2 = true then (if bt415.1.toList = a1.toList then ((ratlinelaw02_Same.f bt415.2.1 l2).bind fun t432 => (if t432 = true then (if bt426.2.2 = true then (if bt426.1 = ((a0) % 4294967296) then ((ratlinelaw02_Same.f bt426.2.1 l2).bind fun t433 => (ratlinelaw02_NumsBack.j1 kj4 l3 (!t433))) else (ratlinelaw02_NumsBack.j1 kj4 l3 true)) else (ratlinelaw02_NumsBack.j1 kj4 l3 true)) else (ratlinelaw02_NumsBack.j1 kj4 l3 true))) else (ratlinelaw02_NumsBack.j1 kj4 l3 true)) else (ratlinelaw02_NumsBack.j1 kj4 l3 true)) else (ratlinelaw02_NumsBack.j1 kj4 l3 true))) else (ratlinelaw02_NumsBack.j1 kj4 l3 true)) else (ratlinelaw02_NumsBack.j1 kj4 l3 true))) else (none)))) else (none)))) else (none)) = some r := H
        have A11 := Aside0.mk A110
        clear A110
        by_cases c12 : t398.length + l2.length < 140737488355328
        · rw [if_pos c12] at H
          have LMc12 := Aside0.mk c12
          clear c12
          obtain ⟨y401, hy401⟩ : ∃ y_ : List Int, y_ = (t398 ++ l2) := ⟨_, rfl⟩
          replace H : ((nums_Take.f y401).bind fun bt404 => ((nums_PutText.f ([] : List Int) a1).bind fun t409 => (if t409.length + l2.length < 140737488355328 then ((nums_TakeText.f (t409 ++ l2) 300).bind fun bt415 => ((nums_PutFour.f ([] : List Int) ((a0) % 4294967296)).bind fun t420 => (if t420.length + l2.length < 140737488355328 then ((nums_TakeFour.f (t420 ++ l2)).bind fun bt426 => (if bt404.2.2 = true then (if bt404.1 = a0 then ((ratlinelaw02_Same.f bt404.2.1 l2).bind fun t431 => (if t431 = true then (if bt415.2.2 = true then (if bt415.1.toList = a1.toList then ((ratlinelaw02_Same.f bt415.2.1 l2).bind fun t432 => (if t432 = true then (if bt426.2.2 = true then (if bt426.1 = ((a0) % 4294967296) then ((ratlinelaw02_Same.f bt426.2.1 l2).bind fun t433 => (ratlinelaw02_NumsBack.j1 kj4 l3 (!t433))) else (ratlinelaw02_NumsBack.j1 kj4 l3 true)) else (ratlinelaw02_NumsBack.j1 kj4 l3 true)) else (ratlinelaw02_NumsBack.j1 kj4 l3 true))) else (ratlinelaw02_NumsBack.j1 kj4 l3 true)) else (ratlinelaw02_NumsBack.j1 kj4 l3 true)) else (ratlinelaw02_NumsBack.j1 kj4 l3 true))) else (ratlinelaw02_NumsBack.j1 kj4 l3 true)) else (ratlinelaw02_NumsBack.j1 kj4 l3 true))) else (none)))) else (none)))) = some r := by first | (rw [hy401]; with_reducible exact H) | (have H2_ := (Option.bind_some _ _).symm.trans H; rw [hy401]; with_reducible exact H2_) | (have H2_ := (Option.bind_some _ _).symm.trans H; with_reducible exact H2_) | with_reducible exact H | (rw [hy401]; exact H) | exact H
          have Ny401 := Aside0.mk hy401
          clear hy401
          replace H := Option.bind_eq_some_iff.mp H
          obtain ⟨⟨t404, t405, t406⟩, A130, H⟩ := H
          replace H : ((nums_PutText.f ([] : List Int) a1).bind fun t409 => (if t409.length + l2.length < 140737488355328 then ((nums_TakeText.f (t409 ++ l2) 300).bind fun bt415 => ((nums_PutFour.f ([] : List Int) ((a0) % 4294967296)).bind fun t420 => (if t420.length + l2.length < 140737488355328 then ((nums_TakeFour.f (t420 ++ l2)).bind fun bt426 => (if t406 = true then (if t404 = a0 then ((ratlinelaw02_Same.f t405 l2).bind fun t431 => (if t431 = true then (if bt415.2.2 = true then (if bt415.1.toList = a1.toList then ((ratlinelaw02_Same.f bt415.2.1 l2).bind fun t432 => (if t432 = true then (if bt426.2.2 = true then (if bt426.1 = ((a0) % 4294967296) then ((ratlinelaw02_Same.f bt426.2.1 l2).bind fun t433 => (ratlinelaw02_NumsBack.j1 kj4 l3 (!t433))) else (ratlinelaw02_NumsBack.j1 kj4 l3 true)) else (ratlinelaw02_NumsBack.j1 kj4 l3 true)) else (ratlinelaw02_NumsBack.j1 kj4 l3 true))) else (ratlinelaw02_NumsBack.j1 kj4 l3 true)) else (ratlinelaw02_NumsBack.j1 kj4 l3 true)) else (ratlinelaw02_NumsBack.j1 kj4 l3 true))) else (ratlinelaw02_NumsBack.j1 kj4 l3 true)) else (ratlinelaw02_NumsBack.j1 kj4 l3 true))) else (none)))) else (none))) = some r := H
          have A13 := Aside0.mk A130
          clear A130
          replace H := Option.bind_eq_some_iff.mp H
          obtain ⟨t409, A140, H⟩ := H
          replace H : (if t409.length + l2.length < 140737488355328 then ((nums_TakeText.f (t409 ++ l2) 300).bind fun bt415 => ((nums_PutFour.f ([] : List Int) ((a0) % 4294967296)).bind fun t420 => (if t420.length + l2.length < 140737488355328 then ((nums_TakeFour.f (t420 ++ l2)).bind fun bt426 => (if t406 = true then (if t404 = a0 then ((ratlinelaw02_Same.f t405 l2).bind fun t431 => (if t431 = true then (if bt415.2.2 = true then (if bt415.1.toList = a1.toList then ((ratlinelaw02_Same.f bt415.2.1 l2).bind fun t432 => (if t432 = true then (if bt426.2.2 = true then (if bt426.1 = ((a0) % 4294967296) then ((ratlinelaw02_Same.f bt426.2.1 l2).bind fun t433 => (ratlinelaw02_NumsBack.j1 kj4 l3 (!t433))) else (ratlinelaw02_NumsBack.j1 kj4 l3 true)) else (ratlinelaw02_NumsBack.j1 kj4 l3 true)) else (ratlinelaw02_NumsBack.j1 kj4 l3 true))) else (ratlinelaw02_NumsBack.j1 kj4 l3 true)) else (ratlinelaw02_NumsBack.j1 kj4 l3 true)) else (ratlinelaw02_NumsBack.j1 kj4 l3 true))) else (ratlinelaw02_NumsBack.j1 kj4 l3 true)) else (ratlinelaw02_NumsBack.j1 kj4 l3 true))) else (none)))) else (none)) = some r := H
          have A14 := Aside0.mk A140
          clear A140
          by_cases c15 : t409.length + l2.length < 140737488355328
          · rw [if_pos c15] at H
            have LMc15 := Aside0.mk c15
            clear c15
            obtain ⟨y412, hy412⟩ : ∃ y_ : List Int, y_ = (t409 ++ l2) := ⟨_, rfl⟩
            replace H : ((nums_TakeText.f y412 300).bind fun bt415 => ((nums_PutFour.f ([] : List Int) ((a0) % 4294967296)).bind fun t420 => (if t420.length + l2.length < 140737488355328 then ((nums_TakeFour.f (t420 ++ l2)).bind fun bt426 => (if t406 = true then (if t404 = a0 then ((ratlinelaw02_Same.f t405 l2).bind fun t431 => (if t431 = true then (if bt415.2.2 = true then (if bt415.1.toList = a1.toList then ((ratlinelaw02_Same.f bt415.2.1 l2).bind fun t432 => (if t432 = true then (if bt426.2.2 = true then (if bt426.1 = ((a0) % 4294967296) then ((ratlinelaw02_Same.f bt426.2.1 l2).bind fun t433 => (ratlinelaw02_NumsBack.j1 kj4 l3 (!t433))) else (ratlinelaw02_NumsBack.j1 kj4 l3 true)) else (ratlinelaw02_NumsBack.j1 kj4 l3 true)) else (ratlinelaw02_NumsBack.j1 kj4 l3 true))) else (ratlinelaw02_NumsBack.j1 kj4 l3 true)) else (ratlinelaw02_NumsBack.j1 kj4 l3 true)) else (ratlinelaw02_NumsBack.j1 kj4 l3 true))) else (ratlinelaw02_NumsBack.j1 kj4 l3 true)) else (ratlinelaw02_NumsBack.j1 kj4 l3 true))) else (none)))) = some r := by first | (rw [hy412]; with_reducible exact H) | (have H2_ := (Option.bind_some _ _).symm.trans H; rw [hy412]; with_reducible exact H2_) | (have H2_ := (Option.bind_some _ _).symm.trans H; with_reducible exact H2_) | with_reducible exact H | (rw [hy412]; exact H) | exact H
            have Ny412 := Aside0.mk hy412
            clear hy412
            replace H := Option.bind_eq_some_iff.mp H
            obtain ⟨⟨t415, t416, t417⟩, A160, H⟩ := H
            replace H : ((nums_PutFour.f ([] : List Int) ((a0) % 4294967296)).bind fun t420 => (if t420.length + l2.length < 140737488355328 then ((nums_TakeFour.f (t420 ++ l2)).bind fun bt426 => (if t406 = true then (if t404 = a0 then ((ratlinelaw02_Same.f t405 l2).bind fun t431 => (if t431 = true then (if t417 = true then (if t415.toList = a1.toList then ((ratlinelaw02_Same.f t416 l2).bind fun t432 => (if t432 = true then (if bt426.2.2 = true then (if bt426.1 = ((a0) % 4294967296) then ((ratlinelaw02_Same.f bt426.2.1 l2).bind fun t433 => (ratlinelaw02_NumsBack.j1 kj4 l3 (!t433))) else (ratlinelaw02_NumsBack.j1 kj4 l3 true)) else (ratlinelaw02_NumsBack.j1 kj4 l3 true)) else (ratlinelaw02_NumsBack.j1 kj4 l3 true))) else (ratlinelaw02_NumsBack.j1 kj4 l3 true)) else (ratlinelaw02_NumsBack.j1 kj4 l3 true)) else (ratlinelaw02_NumsBack.j1 kj4 l3 true))) else (ratlinelaw02_NumsBack.j1 kj4 l3 true)) else (ratlinelaw02_NumsBack.j1 kj4 l3 true))) else (none))) = some r := H
            have A16 := Aside0.mk A160
            clear A160
            replace H := Option.bind_eq_some_iff.mp H
            obtain ⟨t420, A170, H⟩ := H
            replace H : (if t420.length + l2.length < 140737488355328 then ((nums_TakeFour.f (t420 ++ l2)).bind fun bt426 => (if t406 = true then (if t404 = a0 then ((ratlinelaw02_Same.f t405 l2).bind fun t431 => (if t431 = true then (if t417 = true then (if t415.toList = a1.toList then ((ratlinelaw02_Same.f t416 l2).bind fun t432 => (if t432 = true then (if bt426.2.2 = true then (if bt426.1 = ((a0) % 4294967296) then ((ratlinelaw02_Same.f bt426.2.1 l2).bind fun t433 => (ratlinelaw02_NumsBack.j1 kj4 l3 (!t433))) else (ratlinelaw02_NumsBack.j1 kj4 l3 true)) else (ratlinelaw02_NumsBack.j1 kj4 l3 true)) else (ratlinelaw02_NumsBack.j1 kj4 l3 true))) else (ratlinelaw02_NumsBack.j1 kj4 l3 true)) else (ratlinelaw02_NumsBack.j1 kj4 l3 true)) else (ratlinelaw02_NumsBack.j1 kj4 l3 true))) else (ratlinelaw02_NumsBack.j1 kj4 l3 true)) else (ratlinelaw02_NumsBack.j1 kj4 l3 true))) else (none)) = some r := H
            have A17 := Aside0.mk A170
            clear A170
            by_cases c18 : t420.length + l2.length < 140737488355328
            · rw [if_pos c18] at H
              have LMc18 := Aside0.mk c18
              clear c18
              obtain ⟨y423, hy423⟩ : ∃ y_ : List Int, y_ = (t420 ++ l2) := ⟨_, rfl⟩
              replace H : ((nums_TakeFour.f y423).bind fun bt426 => (if t406 = true then (if t404 = a0 then ((ratlinelaw02_Same.f t405 l2).bind fun t431 => (if t431 = true then (if t417 = true then (if t415.toList = a1.toList then ((ratlinelaw02_Same.f t416 l2).bind fun t432 => (if t432 = true then (if bt426.2.2 = true then (if bt426.1 = ((a0) % 4294967296) then ((ratlinelaw02_Same.f bt426.2.1 l2).bind fun t433 => (ratlinelaw02_NumsBack.j1 kj4 l3 (!t433))) else (ratlinelaw02_NumsBack.j1 kj4 l3 true)) else (ratlinelaw02_NumsBack.j1 kj4 l3 true)) else (ratlinelaw02_NumsBack.j1 kj4 l3 true))) else (ratlinelaw02_NumsBack.j1 kj4 l3 true)) else (ratlinelaw02_NumsBack.j1 kj4 l3 true)) else (ratlinelaw02_NumsBack.j1 kj4 l3 true))) else (ratlinelaw02_NumsBack.j1 kj4 l3 true)) else (ratlinelaw02_NumsBack.j1 kj4 l3 true))) = some r := by first | (rw [hy423]; with_reducible exact H) | (have H2_ := (Option.bind_some _ _).symm.trans H; rw [hy423]; with_reducible exact H2_) | (have H2_ := (Option.bind_some _ _).symm.trans H; with_reducible exact H2_) | with_reducible exact H | (rw [hy423]; exact H) | exact H
              have Ny423 := Aside0.mk hy423
              clear hy423
              replace H := Option.bind_eq_some_iff.mp H
              obtain ⟨⟨t426, t427, t428⟩, A190, H⟩ := H
              replace H : (if t406 = true then (if t404 = a0 then ((ratlinelaw02_Same.f t405 l2).bind fun t431 => (if t431 = true then (if t417 = true then (if t415.toList = a1.toList then ((ratlinelaw02_Same.f t416 l2).bind fun t432 => (if t432 = true then (if t428 = true then (if t426 = ((a0) % 4294967296) then ((ratlinelaw02_Same.f t427 l2).bind fun t433 => (ratlinelaw02_NumsBack.j1 kj4 l3 (!t433))) else (ratlinelaw02_NumsBack.j1 kj4 l3 true)) else (ratlinelaw02_NumsBack.j1 kj4 l3 true)) else (ratlinelaw02_NumsBack.j1 kj4 l3 true))) else (ratlinelaw02_NumsBack.j1 kj4 l3 true)) else (ratlinelaw02_NumsBack.j1 kj4 l3 true)) else (ratlinelaw02_NumsBack.j1 kj4 l3 true))) else (ratlinelaw02_NumsBack.j1 kj4 l3 true)) else (ratlinelaw02_NumsBack.j1 kj4 l3 true)) = some r := H
              have A19 := Aside0.mk A190
              clear A190
              have HC20 := Aside0.mk H
              clear H
              go_upto_region 6 with (first | ((with_reducible refine gate_callee (f := 22) rfl ?_); refine goesL_ (some 43) rfl rfl Try.func22 (by kernel_rfl) rfl #[.slice none 0 0, .int .u64 a0] rfl (by (try simp only [List.map_toArray, List.map_cons, List.map_nil]); first | done | rfl | (simp only [List.length_drop, List.length_take]; rfl)) ?_; (refine (nums_Put.calls _ _ ([] : List Int) a0 t398 _ ?side1 ?side2 A11.out).mono ?_); (case side1 => exact Kd.C_nil _ _); (case side2 => exact Nat.le_refl _); rintro e w21 ⟨v399, rfl, ho0, hb⟩; refine ⟨_, rfl, ?_⟩; have n0_ := Aside0.mk (Kd.R_lower ho0 (below_size (by repeat (first | (with_reducible first | exact HB.out | apply below_alloc | apply pw_below_drewN | apply below_drew1) | exact HB.out)))); have n1_ := Aside0.mk (below_step (by repeat (first | (with_reducible first | exact HB.out | apply below_alloc | apply pw_below_drewN | apply below_drew1) | exact HB.out)) hb); clear HB; have HO400 := n0_; have HB := n1_; clear n0_ n1_; (try clear hb); (try clear hb2); (try clear hk); (try clear hi); (try clear ho0)) | ((with_reducible refine gate_builtin (b := .append) (xs := #[.tmp 43, .tmp 44]) rfl ?_); (try (refine gate_guard (by rfl) ?_; dsimp only)); at_builtin; refine Kd.R_append_rows (Kd.int .u8) (w0 := w) w.heap.size rfl (.tmp 43) (.tmp 44) 22 5 (.int .u8 0) 1 rfl Try.underlying22 info5 rfl (by decide) (by omega) v399 t398 l2 _ _ _ (fun _ => True) (fun _ => False) rfl rfl ?aO ?aR (fun _ _ h => h) (fun _ h => h.elim) ?aF ?aB ?aS ?aL ?_; (case aR => repeat (first | exact (Kd.C_below HR2.out HB.out) | (with_reducible refine Kd.C_alloc ?_ _) | (with_reducible refine Kd.C_drewN ?_ _) | (with_reducible refine Kd.C_drew ?_))); (case aB => exact (by repeat (first | (with_reducible first | exact HB.out | apply below_alloc | apply pw_below_drewN | apply below_drew1) | exact HB.out))); (case aF => exact (fun _ _ => trivial)); (case aO => exact (by (with_reducible repeat (first | apply Kd.R_alloc | apply Kd.R_drewN | apply Kd.R_drew)); exact HO400.out)); (case aS => exact (below_size (by repeat (first | (with_reducible first | exact HB.out | apply below_alloc | apply pw_below_drewN | apply below_drew1) | exact HB.out)))); (case aL => have := LMc12.out; omega); intro v402 w22 ho hb hg hat; rw [← Ny401.out] at ho; have n0_ := Aside0.mk (hb); have n1_ := Aside0.mk (ho); clear HB; clear HO400; have HB := n0_; have HO403 := n1_; clear n0_ n1_; clear ho hb hg hat; obtain ⟨Ao23, co23, eo23⟩ := Kd.R_slice HO403.out; subst eo23) | ((with_reducible refine gate_callee (f := 23) rfl ?_); refine goesL_ (some 46) rfl rfl Try.func23 (by kernel_rfl) rfl #[.slice Ao23 y401.length co23] rfl (by (try simp only [List.map_toArray, List.map_cons, List.map_nil]); first | done | rfl | (simp only [List.length_drop, List.length_take]; rfl)) ?_; (with_reducible refine (nums_Take.calls _ _ y401 t404 t405 t406 _ ?side1 ?side2 A13.out).mono ?_); (case side1 => repeat (first | exact (Kd.R_reads' HO403.out).2.2 | (with_reducible refine Kd.C_alloc ?_ _) | (with_reducible refine Kd.C_drewN ?_ _) | (with_reducible refine Kd.C_drew ?_))); (case side2 => exact (Kd.R_reads' HO403.out).2.1); rintro e w24 ⟨v407, rfl, ho0, hb⟩; refine ⟨_, rfl, ?_⟩; have n0_ := Aside0.mk (Kd.R_elder' (by (with_reducible repeat (first | apply Kd.R_alloc | apply Kd.R_drewN | apply Kd.R_drew)); exact HO403.out) (Kd.R_base ho0) hb); have n1_ := Aside0.mk (Kd.R_lower (Kd.R_new' ho0 (Kd.R_lt (by (with_reducible repeat (first | apply Kd.R_alloc | apply Kd.R_drewN | apply Kd.R_drew)); exact HO403.out))) (below_size (by repeat (first | (with_reducible first | exact HB.out | apply below_alloc | apply pw_below_drewN | apply below_drew1) | exact HB.out)))); have n2_ := Aside0.mk (below_step (by repeat (first | (with_reducible first | exact HB.out | apply below_alloc | apply pw_below_drewN | apply below_drew1) | exact HB.out)) hb); clear HO403; clear HB; have HO403 := n0_; have HO408 := n1_; have HB := n2_; clear n0_ n1_ n2_; (try clear hb); (try clear hb2); (try clear hk); (try clear hi); (try clear ho0)) | ((with_reducible refine gate_callee (f := 25) rfl ?_); refine goesL_ (some 52) rfl rfl Try.func25 (by kernel_rfl) rfl #[.slice none 0 0, .string a1] rfl (by (try simp only [List.map_toArray, List.map_cons, List.map_nil]); first | done | rfl | (simp only [List.length_drop, List.length_take]; rfl)) ?_; (refine (nums_PutText.calls _ _ ([] : List Int) a1 t409 _ ?side1 ?side2 A14.out).mono ?_); (case side1 => exact Kd.C_nil _ _); (case side2 => exact Nat.le_refl _); rintro e w25 ⟨v410, rfl, ho0, hb⟩; refine ⟨_, rfl, ?_⟩; have n0_ := Aside0.mk (Kd.R_elder' (by (with_reducible repeat (first | apply Kd.R_alloc | apply Kd.R_drewN | apply Kd.R_drew)); exact HO403.out) (Kd.R_base ho0) hb); have n1_ := Aside0.mk (Kd.R_elder' (by (with_reducible repeat (first | apply Kd.R_alloc | apply Kd.R_drewN | apply Kd.R_drew)); exact HO408.out) (Kd.R_base ho0) hb); have n2_ := Aside0.mk (Kd.R_lower (Kd.R_new' (Kd.R_new' ho0 (Kd.R_lt (by (with_reducible repeat (first | apply Kd.R_alloc | apply Kd.R_drewN | apply Kd.R_drew)); exact HO403.out))) (Kd.R_lt (by (with_reducible repeat (first | apply Kd.R_alloc | apply Kd.R_drewN | apply Kd.R_drew)); exact HO408.out))) (below_size (by repeat (first | (with_reducible first | exact HB.out | apply below_alloc | apply pw_below_drewN | apply below_drew1) | exact HB.out)))); have n3_ := Aside0.mk (below_step (by repeat (first | (with_reducible first | exact HB.out | apply below_alloc | apply pw_below_drewN | apply below_drew1) | exact HB.out)) hb); clear HO403; clear HO408; clear HB; have HO403 := n0_; have HO408 := n1_; have HO411 := n2_; have HB := n3_; clear n0_ n1_ n2_ n3_; (try clear hb); (try clear hb2); (try clear hk); (try clear hi); (try clear ho0)) | ((with_reducible refine gate_builtin (b := .append) (xs := #[.tmp 52, .tmp 53]) rfl ?_); (try (refine gate_guard (by rfl) ?_; dsimp only)); at_builtin; refine Kd.R_append_rows (Kd.int .u8) (w0 := w) w.heap.size rfl (.tmp 52) (.tmp 53) 22 5 (.int .u8 0) 1 rfl Try.underlying22 info5 rfl (by decide) (by omega) v410 t409 l2 _ _ _ (fun k_ => some k_ ≠ (.slice Ao23 y401.length co23 : Value).ownBlock ∧ some k_ ≠ (v407 : Value).ownBlock) (fun _ => False) rfl rfl ?aO ?aR (fun _ _ h => h) (fun _ h => h.elim) ?aF ?aB ?aS ?aL ?_; (case aR => repeat (first | exact (Kd.C_below HR2.out HB.out) | (with_reducible refine Kd.C_alloc ?_ _) | (with_reducible refine Kd.C_drewN ?_ _) | (with_reducible refine Kd.C_drew ?_))); (case aB => exact (by repeat (first | (with_reducible first | exact HB.out | apply below_alloc | apply pw_below_drewN | apply below_drew1) | exact HB.out))); (case aF => exact (fun k_ hk => ⟨Kd.fresh' (Kd.R_lt (by (with_reducible repeat (first | apply Kd.R_alloc | apply Kd.R_drewN | apply Kd.R_drew)); exact HO403.out)) k_ hk, Kd.fresh' (Kd.R_lt (by (with_reducible repeat (first | apply Kd.R_alloc | apply Kd.R_drewN | apply Kd.R_drew)); exact HO408.out)) k_ hk⟩)); (case aO => exact (by (with_reducible repeat (first | apply Kd.R_alloc | apply Kd.R_drewN | apply Kd.R_drew)); exact Kd.R_mono HO411.out (fun _ hk => ⟨hk.1.2, hk.2⟩))); (case aS => exact (below_size (by repeat (first | (with_reducible first | exact HB.out | apply below_alloc | apply pw_below_drewN | apply below_drew1) | exact HB.out)))); (case aL => have := LMc15.out; omega); intro v413 w26 ho hb hg hat; rw [← Ny412.out] at ho; have n0_ := Aside0.mk (Kd.R_after (ok := (fun k_ => some k_ ≠ (v407 : Value).ownBlock)) (by (with_reducible repeat (first | apply Kd.R_alloc | apply Kd.R_drewN | apply Kd.R_drew)); exact Kd.R_mono HO403.out (fun _ hk => ⟨hk.1.2, hk.2⟩)) hg hat); have n1_ := Aside0.mk (Kd.R_after (ok := (fun k_ => some k_ ≠ (.slice Ao23 y401.length co23 : Value).ownBlock)) (by (with_reducible repeat (first | apply Kd.R_alloc | apply Kd.R_drewN | apply Kd.R_drew)); exact Kd.R_mono HO408.out (fun _ hk => ⟨hk.1.2, hk.2⟩)) hg hat); have n2_ := Aside0.mk (hb); have n3_ := Aside0.mk (ho); clear HO403; clear HO408; clear HB; clear HO411; have HO403 := n0_; have HO408 := n1_; have HB := n2_; have HO414 := n3_; clear n0_ n1_ n2_ n3_; clear ho hb hg hat; obtain ⟨Ao27, co27, eo27⟩ := Kd.R_slice HO414.out; subst eo27) | ((with_reducible refine gate_callee (f := 26) rfl ?_); refine goesL_ (some 55) rfl rfl Try.func26 (by kernel_rfl) rfl #[.slice Ao27 y412.length co27, .int .i64 300] rfl (by (try simp only [List.map_toArray, List.map_cons, List.map_nil]); first | done | rfl | (simp only [List.length_drop, List.length_take]; rfl)) ?_; (with_reducible refine (nums_TakeText.calls _ _ y412 300 t415 t416 t417 _ ?side1 ?side2 A16.out).mono ?_); (case side1 => repeat (first | exact (Kd.R_reads' HO414.out).2.2 | (with_reducible refine Kd.C_alloc ?_ _) | (with_reducible refine Kd.C_drewN ?_ _) | (with_reducible refine Kd.C_drew ?_))); (case side2 => exact (Kd.R_reads' HO414.out).2.1); rintro e w28 ⟨v418, rfl, ho0, hb⟩; refine ⟨_, rfl, ?_⟩; have n0_ := Aside0.mk (Kd.R_elder' (by (with_reducible repeat (first | apply Kd.R_alloc | apply Kd.R_drewN | apply Kd.R_drew)); exact HO403.out) (Kd.R_base ho0) hb); have n1_ := Aside0.mk (Kd.R_elder' (by (with_reducible repeat (first | apply Kd.R_alloc | apply Kd.R_drewN | apply Kd.R_drew)); exact HO408.out) (Kd.R_base ho0) hb); have n2_ := Aside0.mk (Kd.R_elder' (by (with_reducible repeat (first | apply Kd.R_alloc | apply Kd.R_drewN | apply Kd.R_drew)); exact HO414.out) (Kd.R_base ho0) hb); have n3_ := Aside0.mk (Kd.R_lower (Kd.R_new' (Kd.R_new' (Kd.R_new' ho0 (Kd.R_lt (by (with_reducible repeat (first | apply Kd.R_alloc | apply Kd.R_drewN | apply Kd.R_drew)); exact HO403.out))) (Kd.R_lt (by (with_reducible repeat (first | apply Kd.R_alloc | apply Kd.R_drewN | apply Kd.R_drew)); exact HO408.out))) (Kd.R_lt (by (with_reducible repeat (first | apply Kd.R_alloc | apply Kd.R_drewN | apply Kd.R_drew)); exact HO414.out))) (below_size (by repeat (first | (with_reducible first | exact HB.out | apply below_alloc | apply pw_below_drewN | apply below_drew1) | exact HB.out)))); have n4_ := Aside0.mk (below_step (by repeat (first | (with_reducible first | exact HB.out | apply below_alloc | apply pw_below_drewN | apply below_drew1) | exact HB.out)) hb); clear HO403; clear HO408; clear HO414; clear HB; have HO403 := n0_; have HO408 := n1_; have HO414 := n2_; have HO419 := n3_; have HB := n4_; clear n0_ n1_ n2_ n3_ n4_; (try clear hb); (try clear hb2); (try clear hk); (try clear hi); (try clear ho0)) | ((with_reducible refine gate_callee (f := 33) rfl ?_); refine goesL_ (some 62) rfl rfl Try.func33 (by kernel_rfl) rfl #[.slice none 0 0, .int .u32 ((a0) % 4294967296)] rfl (by (try simp only [List.map_toArray, List.map_cons, List.map_nil]); first | done | rfl | (simp only [List.length_drop, List.length_take]; rfl)) ?_; (refine (nums_PutFour.calls _ _ ([] : List Int) ((a0) % 4294967296) t420 _ ?side1 ?side2 A17.out).mono ?_); (case side1 => exact Kd.C_nil _ _); (case side2 => exact Nat.le_refl _); rintro e w29 ⟨v421, rfl, ho0, hb⟩; refine ⟨_, rfl, ?_⟩; have n0_ := Aside0.mk (Kd.R_elder' (by (with_reducible repeat (first | apply Kd.R_alloc | apply Kd.R_drewN | apply Kd.R_drew)); exact HO403.out) (Kd.R_base ho0) hb); have n1_ := Aside0.mk (Kd.R_elder' (by (with_reducible repeat (first | apply Kd.R_alloc | apply Kd.R_drewN | apply Kd.R_drew)); exact HO408.out) (Kd.R_base ho0) hb); have n2_ := Aside0.mk (Kd.R_elder' (by (with_reducible repeat (first | apply Kd.R_alloc | apply Kd.R_drewN | apply Kd.R_drew)); exact HO414.out) (Kd.R_base ho0) hb); have n3_ := Aside0.mk (Kd.R_elder' (by (with_reducible repeat (first | apply Kd.R_alloc | apply Kd.R_drewN | apply Kd.R_drew)); exact HO419.out) (Kd.R_base ho0) hb); have n4_ := Aside0.mk (Kd.R_lower (Kd.R_new' (Kd.R_new' (Kd.R_new' (Kd.R_new' ho0 (Kd.R_lt (by (with_reducible repeat (first | apply Kd.R_alloc | apply Kd.R_drewN | apply Kd.R_drew)); exact HO403.out))) (Kd.R_lt (by (with_reducible repeat (first | apply Kd.R_alloc | apply Kd.R_drewN | apply Kd.R_drew)); exact HO408.out))) (Kd.R_lt (by (with_reducible repeat (first | apply Kd.R_alloc | apply Kd.R_drewN | apply Kd.R_drew)); exact HO414.out))) (Kd.R_lt (by (with_reducible repeat (first | apply Kd.R_alloc | apply Kd.R_drewN | apply Kd.R_drew)); exact HO419.out))) (below_size (by repeat (first | (with_reducible first | exact HB.out | apply below_alloc | apply pw_below_drewN | apply below_drew1) | exact HB.out)))); have n5_ := Aside0.mk (below_step (by repeat (first | (with_reducible first | exact HB.out | apply below_alloc | apply pw_below_drewN | apply below_drew1) | exact HB.out)) hb); clear HO403; clear HO408; clear HO414; clear HO419; clear HB; have HO403 := n0_; have HO408 := n1_; have HO414 := n2_; have HO419 := n3_; have HO422 := n4_; have HB := n5_; clear n0_ n1_ n2_ n3_ n4_ n5_; (try clear hb); (try clear hb2); (try clear hk); (try clear hi); (try clear ho0)) | ((with_reducible refine gate_builtin (b := .append) (xs := #[.tmp 62, .tmp 63]) rfl ?_); (try (refine gate_guard (by rfl) ?_; dsimp only)); at_builtin; refine Kd.R_append_rows (Kd.int .u8) (w0 := w) w.heap.size rfl (.tmp 62) (.tmp 63) 22 5 (.int .u8 0) 1 rfl Try.underlying22 info5 rfl (by decide) (by omega) v421 t420 l2 _ _ _ (fun k_ => some k_ ≠ (.slice Ao23 y401.length co23 : Value).ownBlock ∧ some k_ ≠ (v407 : Value).ownBlock ∧ some k_ ≠ (.slice Ao27 y412.length co27 : Value).ownBlock ∧ some k_ ≠ (v418 : Value).ownBlock) (fun _ => False) rfl rfl ?aO ?aR (fun _ _ h => h) (fun _ h => h.elim) ?aF ?aB ?aS ?aL ?_; (case aR => repeat (first | exact (Kd.C_below HR2.out HB.out) | (with_reducible refine Kd.C_alloc ?_ _) | (with_reducible refine Kd.C_drewN ?_ _) | (with_reducible refine Kd.C_drew ?_))); (case aB => exact (by repeat (first | (with_reducible first | exact HB.out | apply below_alloc | apply pw_below_drewN | apply below_drew1) | exact HB.out))); (case aF => exact (fun k_ hk => ⟨Kd.fresh' (Kd.R_lt (by (with_reducible repeat (first | apply Kd.R_alloc | apply Kd.R_drewN | apply Kd.R_drew)); exact HO403.out)) k_ hk, Kd.fresh' (Kd.R_lt (by (with_reducible repeat (first | apply Kd.R_alloc | apply Kd.R_drewN | apply Kd.R_drew)); exact HO408.out)) k_ hk, Kd.fresh' (Kd.R_lt (by (with_reducible repeat (first | apply Kd.R_alloc | apply Kd.R_drewN | apply Kd.R_drew)); exact HO414.out)) k_ hk, Kd.fresh' (Kd.R_lt (by (with_reducible repeat (first | apply Kd.R_alloc | apply Kd.R_drewN | apply Kd.R_drew)); exact HO419.out)) k_ hk⟩)); (case aO => exact (by (with_reducible repeat (first | apply Kd.R_alloc | apply Kd.R_drewN | apply Kd.R_drew)); exact Kd.R_mono HO422.out (fun _ hk => ⟨hk.1.1.1.2, ⟨hk.1.1.2, ⟨hk.1.2, hk.2⟩⟩⟩))); (case aS => exact (below_size (by repeat (first | (with_reducible first | exact HB.out | apply below_alloc | apply pw_below_drewN | apply below_drew1) | exact HB.out)))); (case aL => have := LMc18.out; omega); intro v424 w30 ho hb hg hat; rw [← Ny423.out] at ho; have n0_ := Aside0.mk (Kd.R_after (ok := (fun k_ => some k_ ≠ (v407 : Value).ownBlock ∧ some k_ ≠ (.slice Ao27 y412.length co27 : Value).ownBlock ∧ some k_ ≠ (v418 : Value).ownBlock)) (by (with_reducible repeat (first | apply Kd.R_alloc | apply Kd.R_drewN | apply Kd.R_drew)); exact Kd.R_mono HO403.out (fun _ hk => ⟨⟨hk.1.1.1, ⟨hk.1.1.2, hk.1.2⟩⟩, hk.2⟩)) hg hat); have n1_ := Aside0.mk (Kd.R_after (ok := (fun k_ => some k_ ≠ (.slice Ao23 y401.length co23 : Value).ownBlock ∧ some k_ ≠ (.slice Ao27 y412.length co27 : Value).ownBlock ∧ some k_ ≠ (v418 : Value).ownBlock)) (by (with_reducible repeat (first | apply Kd.R_alloc | apply Kd.R_drewN | apply Kd.R_drew)); exact Kd.R_mono HO408.out (fun _ hk => ⟨⟨hk.1.1.1, ⟨hk.1.1.2, hk.1.2⟩⟩, hk.2⟩)) hg hat); have n2_ := Aside0.mk (Kd.R_after (ok := (fun k_ => some k_ ≠ (.slice Ao23 y401.length co23 : Value).ownBlock ∧ some k_ ≠ (v407 : Value).ownBlock ∧ some k_ ≠ (v418 : Value).ownBlock)) (by (with_reducible repeat (first | apply Kd.R_alloc | apply Kd.R_drewN | apply Kd.R_drew)); exact Kd.R_mono HO414.out (fun _ hk => ⟨⟨hk.1.1.1, ⟨hk.1.1.2, hk.1.2⟩⟩, hk.2⟩)) hg hat); have n3_ := Aside0.mk (Kd.R_after (ok := (fun k_ => some k_ ≠ (.slice Ao23 y401.length co23 : Value).ownBlock ∧ some k_ ≠ (v407 : Value).ownBlock ∧ some k_ ≠ (.slice Ao27 y412.length co27 : Value).ownBlock)) (by (with_reducible repeat (first | apply Kd.R_alloc | apply Kd.R_drewN | apply Kd.R_drew)); exact Kd.R_mono HO419.out (fun _ hk => ⟨⟨hk.1.1.1.2, ⟨hk.1.1.2, hk.1.2⟩⟩, hk.2⟩)) hg hat); have n4_ := Aside0.mk (hb); have n5_ := Aside0.mk (ho); clear HO403; clear HO408; clear HO414; clear HO419; clear HB; clear HO422; have HO403 := n0_; have HO408 := n1_; have HO414 := n2_; have HO419 := n3_; have HB := n4_; have HO425 := n5_; clear n0_ n1_ n2_ n3_ n4_ n5_; clear ho hb hg hat; obtain ⟨Ao31, co31, eo31⟩ := Kd.R_slice HO425.out; subst eo31) | ((with_reducible refine gate_callee (f := 29) rfl ?_); refine goesL_ (some 65) rfl rfl Try.func29 (by kernel_rfl) rfl #[.slice Ao31 y423.length co31] rfl (by (try simp only [List.map_toArray, List.map_cons, List.map_nil]); first | done | rfl | (simp only [List.length_drop, List.length_take]; rfl)) ?_; (with_reducible refine (nums_TakeFour.calls _ _ y423 t426 t427 t428 _ ?side1 ?side2 A19.out).mono ?_); (case side1 => repeat (first | exact (Kd.R_reads' HO425.out).2.2 | (with_reducible refine Kd.C_alloc ?_ _) | (with_reducible refine Kd.C_drewN ?_ _) | (with_reducible refine Kd.C_drew ?_))); (case side2 => exact (Kd.R_reads' HO425.out).2.1); rintro e w32 ⟨v429, rfl, ho0, hb⟩; refine ⟨_, rfl, ?_⟩; have n0_ := Aside0.mk (Kd.R_elder' (by (with_reducible repeat (first | apply Kd.R_alloc | apply Kd.R_drewN | apply Kd.R_drew)); exact HO403.out) (Kd.R_base ho0) hb); have n1_ := Aside0.mk (Kd.R_elder' (by (with_reducible repeat (first | apply Kd.R_alloc | apply Kd.R_drewN | apply Kd.R_drew)); exact HO408.out) (Kd.R_base ho0) hb); have n2_ := Aside0.mk (Kd.R_elder' (by (with_reducible repeat (first | apply Kd.R_alloc | apply Kd.R_drewN | apply Kd.R_drew)); exact HO414.out) (Kd.R_base ho0) hb); have n3_ := Aside0.mk (Kd.R_elder' (by (with_reducible repeat (first | apply Kd.R_alloc | apply Kd.R_drewN | apply Kd.R_drew)); exact HO419.out) (Kd.R_base ho0) hb); have n4_ := Aside0.mk (Kd.R_elder' (by (with_reducible repeat (first | apply Kd.R_alloc | apply Kd.R_drewN | apply Kd.R_drew)); exact HO425.out) (Kd.R_base ho0) hb); have n5_ := Aside0.mk (Kd.R_lower (Kd.R_new' (Kd.R_new' (Kd.R_new' (Kd.R_new' (Kd.R_new' ho0 (Kd.R_lt (by (with_reducible repeat (first | apply Kd.R_alloc | apply Kd.R_drewN | apply Kd.R_drew)); exact HO403.out))) (Kd.R_lt (by (with_reducible repeat (first | apply Kd.R_alloc | apply Kd.R_drewN | apply Kd.R_drew)); exact HO408.out))) (Kd.R_lt (by (with_reducible repeat (first | apply Kd.R_alloc | apply Kd.R_drewN | apply Kd.R_drew)); exact HO414.out))) (Kd.R_lt (by (with_reducible repeat (first | apply Kd.R_alloc | apply Kd.R_drewN | apply Kd.R_drew)); exact HO419.out))) (Kd.R_lt (by (with_reducible repeat (first | apply Kd.R_alloc | apply Kd.R_drewN | apply Kd.R_drew)); exact HO425.out))) (below_size (by repeat (first | (with_reducible first | exact HB.out | apply below_alloc | apply pw_below_drewN | apply below_drew1) | exact HB.out)))); have n6_ := Aside0.mk (below_step (by repeat (first | (with_reducible first | exact HB.out | apply below_alloc | apply pw_below_drewN | apply below_drew1) | exact HB.out)) hb); clear HO403; clear HO408; clear HO414; clear HO419; clear HO425; clear HB; have HO403 := n0_; have HO408 := n1_; have HO414 := n2_; have HO419 := n3_; have HO425 := n4_; have HO430 := n5_; have HB := n6_; clear n0_ n1_ n2_ n3_ n4_ n5_ n6_; (try clear hb); (try clear hb2); (try clear hk); (try clear hi); (try clear ho0)))
              (try simp only [Act.put, List.setIfInBounds_toArray, List.set_cons_zero, List.set_cons_succ])
              go_cut [112] (fun v112 wc => ∃ (kq : Nat) (x112_19 : Bool), v112 = .bool x112_19 ∧ Aside0 (ratlinelaw02_NumsBack.j1 kq l3 x112_19 = some r) ∧ Aside0 (kq ≤ kj4) ∧ Aside0 (Below w.heap.size w wc))
              case first =>
                have H := HC20.out
                clear HC20
                by_cases c33 : t406 = true
                · subst c33
                  have H1 : (if t404 = a0 then ((ratlinelaw02_Same.f t405 l2).bind fun t431 => (if t431 = true then (if t417 = true then (if t415.toList = a1.toList then ((ratlinelaw02_Same.f t416 l2).bind fun t432 => (if t432 = true then (if t428 = true then (if t426 = ((a0) % 4294967296) then ((ratlinelaw02_Same.f t427 l2).bind fun t433 => (ratlinelaw02_NumsBack.j1 kj4 l3 (!t433))) else (ratlinelaw02_NumsBack.j1 kj4 l3 true)) else (ratlinelaw02_NumsBack.j1 kj4 l3 true)) else (ratlinelaw02_NumsBack.j1 kj4 l3 true))) else (ratlinelaw02_NumsBack.j1 kj4 l3 true)) else (ratlinelaw02_NumsBack.j1 kj4 l3 true)) else (ratlinelaw02_NumsBack.j1 kj4 l3 true))) else (ratlinelaw02_NumsBack.j1 kj4 l3 true)) = some r := by rw [if_pos rfl] at H; exact H
                  clear H
                  have H := H1
                  clear H1
                  by_cases c34 : t404 = a0
                  · rw [if_pos c34] at H
                    have c34b0 : (t404 == a0) = true := beq_iff_eq.mpr c34
                    have c34b1 : (t404 != a0) = false := bne_eq_false_iff_eq.mpr c34
                    clear c34
                    (first | rw [c34b0] | (simp only [i64_w, i32_w]; rw [c34b0]) | skip)
                    replace H := Option.bind_eq_some_iff.mp H
                    obtain ⟨t431, A350, H⟩ := H
                    replace H : (if t431 = true then (if t417 = true then (if t415.toList = a1.toList then ((ratlinelaw02_Same.f t416 l2).bind fun t432 => (if t432 = true then (if t428 = true then (if t426 = ((a0) % 4294967296) then ((ratlinelaw02_Same.f t427 l2).bind fun t433 => (ratlinelaw02_NumsBack.j1 kj4 l3 (!t433))) else (ratlinelaw02_NumsBack.j1 kj4 l3 true)) else (ratlinelaw02_NumsBack.j1 kj4 l3 true)) else (ratlinelaw02_NumsBack.j1 kj4 l3 true))) else (ratlinelaw02_NumsBack.j1 kj4 l3 true)) else (ratlinelaw02_NumsBack.j1 kj4 l3 true)) else (ratlinelaw02_NumsBack.j1 kj4 l3 true)) = some r := H
                    have A35 := Aside0.mk A350
                    clear A350
                    by_cases c36 : t431 = true
                    · subst c36
                      have H1 : (if t417 = true then (if t415.toList = a1.toList then ((ratlinelaw02_Same.f t416 l2).bind fun t432 => (if t432 = true then (if t428 = true then (if t426 = ((a0) % 4294967296) then ((ratlinelaw02_Same.f t427 l2).bind fun t433 => (ratlinelaw02_NumsBack.j1 kj4 l3 (!t433))) else (ratlinelaw02_NumsBack.j1 kj4 l3 true)) else (ratlinelaw02_NumsBack.j1 kj4 l3 true)) else (ratlinelaw02_NumsBack.j1 kj4 l3 true))) else (ratlinelaw02_NumsBack.j1 kj4 l3 true)) else (ratlinelaw02_NumsBack.j1 kj4 l3 true)) = some r := by rw [if_pos rfl] at H; exact H
                      clear H
                      have H := H1
                      clear H1
                      by_cases c37 : t417 = true
                      · subst c37
                        have H1 : (if t415.toList = a1.toList then ((ratlinelaw02_Same.f t416 l2).bind fun t432 => (if t432 = true then (if t428 = true then (if t426 = ((a0) % 4294967296) then ((ratlinelaw02_Same.f t427 l2).bind fun t433 => (ratlinelaw02_NumsBack.j1 kj4 l3 (!t433))) else (ratlinelaw02_NumsBack.j1 kj4 l3 true)) else (ratlinelaw02_NumsBack.j1 kj4 l3 true)) else (ratlinelaw02_NumsBack.j1 kj4 l3 true))) else (ratlinelaw02_NumsBack.j1 kj4 l3 true)) = some r := by rw [if_pos rfl] at H; exact H
                        clear H
                        have H := H1
                        clear H1
                        by_cases c38 : t415.toList = a1.toList
                        · rw [if_pos c38] at H
                          have c38b0 : (t415.toList == a1.toList) = true := beq_iff_eq.mpr c38
                          have c38b1 : (t415.toList != a1.toList) = false := bne_eq_false_iff_eq.mpr c38
                          clear c38
                          replace H := Option.bind_eq_some_iff.mp H
                          obtain ⟨t432, A390, H⟩ := H
                          replace H : (if t432 = true then (if t428 = true then (if t426 = ((a0) % 4294967296) then ((ratlinelaw02_Same.f t427 l2).bind fun t433 => (ratlinelaw02_NumsBack.j1 kj4 l3 (!t433))) else (ratlinelaw02_NumsBack.j1 kj4 l3 true)) else (ratlinelaw02_NumsBack.j1 kj4 l3 true)) else (ratlinelaw02_NumsBack.j1 kj4 l3 true)) = some r := H
                          have A39 := Aside0.mk A390
                          clear A390
                          by_cases c40 : t432 = true
                          · subst c40
                            have H1 : (if t428 = true then (if t426 = ((a0) % 4294967296) then ((ratlinelaw02_Same.f t427 l2).bind fun t433 => (ratlinelaw02_NumsBack.j1 kj4 l3 (!t433))) else (ratlinelaw02_NumsBack.j1 kj4 l3 true)) else (ratlinelaw02_NumsBack.j1 kj4 l3 true)) = some r := by rw [if_pos rfl] at H; exact H
                            clear H
                            have H := H1
                            clear H1
                            by_cases c41 : t428 = true
                            · subst c41
                              have H1 : (if t426 = ((a0) % 4294967296) then ((ratlinelaw02_Same.f t427 l2).bind fun t433 => (ratlinelaw02_NumsBack.j1 kj4 l3 (!t433))) else (ratlinelaw02_NumsBack.j1 kj4 l3 true)) = some r := by rw [if_pos rfl] at H; exact H
                              clear H
                              have H := H1
                              clear H1
                              by_cases c42 : t426 = ((a0) % 4294967296)
                              · rw [if_pos c42] at H
                                have c42b0 : (t426 == ((a0) % 4294967296)) = true := beq_iff_eq.mpr c42
                                have c42b1 : (t426 != ((a0) % 4294967296)) = false := bne_eq_false_iff_eq.mpr c42
                                clear c42
                                replace H := Option.bind_eq_some_iff.mp H
                                obtain ⟨t433, A430, H⟩ := H
                                replace H : (ratlinelaw02_NumsBack.j1 kj4 l3 (!t433)) = some r := H
                                have A43 := Aside0.mk A430
                                clear A430
                                have H' := Aside0.mk H
                                clear H
                                obtain ⟨Ao44, co44, eo44⟩ := Kd.R_slice HO408.out
                                subst eo44
                                go_wp2_with (first | (go_at_call 18; (with_reducible refine (ratlinelaw02_Same.calls _ _ t405 _ _ l2 true _ ?side1 ?side2 ?side3 ?side4 A35.out).mono ?_); (case side1 => repeat (first | exact (Kd.R_reads' HO408.out).2.2 | (with_reducible refine Kd.C_alloc ?_ _) | (with_reducible refine Kd.C_drewN ?_ _) | (with_reducible refine Kd.C_drew ?_))); (case side2 => exact (Kd.R_reads' HO408.out).2.1); (case side3 => repeat (first | exact (Kd.C_below HR2.out HB.out) | (with_reducible refine Kd.C_alloc ?_ _) | (with_reducible refine Kd.C_drewN ?_ _) | (with_reducible refine Kd.C_drew ?_))); (case side4 => exact HC2.out); rintro e w' ⟨rfl, ⟨nd, rfl⟩⟩; obtain ⟨Ao45, co45, eo45⟩ := Kd.R_slice HO419.out; subst eo45) | (go_at_call 18; (with_reducible refine (ratlinelaw02_Same.calls _ _ t416 _ _ l2 true _ ?side1 ?side2 ?side3 ?side4 A39.out).mono ?_); (case side1 => repeat (first | exact (Kd.R_reads' HO419.out).2.2 | (with_reducible refine Kd.C_alloc ?_ _) | (with_reducible refine Kd.C_drewN ?_ _) | (with_reducible refine Kd.C_drew ?_))); (case side2 => exact (Kd.R_reads' HO419.out).2.1); (case side3 => repeat (first | exact (Kd.C_below HR2.out (by repeat (first | (with_reducible first | exact HB.out | apply below_alloc | apply pw_below_drewN | apply below_drew1) | exact HB.out))) | (with_reducible refine Kd.C_alloc ?_ _) | (with_reducible refine Kd.C_drewN ?_ _) | (with_reducible refine Kd.C_drew ?_))); (case side4 => exact HC2.out); rintro e w' ⟨rfl, ⟨nd, rfl⟩⟩; obtain ⟨Ao46, co46, eo46⟩ := Kd.R_slice HO430.out; subst eo46) | (go_at_call 18; (with_reducible refine (ratlinelaw02_Same.calls _ _ t427 _ _ l2 t433 _ ?side1 ?side2 ?side3 ?side4 A43.out).mono ?_); (case side1 => repeat (first | exact (Kd.R_reads' HO430.out).2.2 | (with_reducible refine Kd.C_alloc ?_ _) | (with_reducible refine Kd.C_drewN ?_ _) | (with_reducible refine Kd.C_drew ?_))); (case side2 => exact (Kd.R_reads' HO430.out).2.1); (case side3 => repeat (first | exact (Kd.C_below HR2.out (by repeat (first | (with_reducible first | exact HB.out | apply below_alloc | apply pw_below_drewN | apply below_drew1) | exact HB.out))) | (with_reducible refine Kd.C_alloc ?_ _) | (with_reducible refine Kd.C_drewN ?_ _) | (with_reducible refine Kd.C_drew ?_))); (case side4 => exact HC2.out); rintro e w' ⟨rfl, ⟨nd, rfl⟩⟩))
                                go_meet
                                case rel => exact ⟨_, (!t433), (by first | rfl | (simp; done) | (simp [*]; done)), H', ⟨by have := HJ4.out; first | omega | exact Nat.le_refl _⟩, ⟨by repeat (first | (with_reducible first | exact HB.out | apply below_alloc | apply pw_below_drewN | apply below_drew1) | exact HB.out)⟩⟩
                              · rw [if_neg c42] at H
                                have c42b0 : (t426 == ((a0) % 4294967296)) = false := beq_eq_false_iff_ne.mpr c42
                                have c42b1 : (t426 != ((a0) % 4294967296)) = true := bne_iff_ne.mpr c42
                                have H' := Aside0.mk H
                                clear H
                                obtain ⟨Ao47, co47, eo47⟩ := Kd.R_slice HO408.out
                                subst eo47
                                go_wp2_with (first | (go_at_call 18; (with_reducible refine (ratlinelaw02_Same.calls _ _ t405 _ _ l2 true _ ?side1 ?side2 ?side3 ?side4 A35.out).mono ?_); (case side1 => repeat (first | exact (Kd.R_reads' HO408.out).2.2 | (with_reducible refine Kd.C_alloc ?_ _) | (with_reducible refine Kd.C_drewN ?_ _) | (with_reducible refine Kd.C_drew ?_))); (case side2 => exact (Kd.R_reads' HO408.out).2.1); (case side3 => repeat (first | exact (Kd.C_below HR2.out HB.out) | (with_reducible refine Kd.C_alloc ?_ _) | (with_reducible refine Kd.C_drewN ?_ _) | (with_reducible refine Kd.C_drew ?_))); (case side4 => exact HC2.out); rintro e w' ⟨rfl, ⟨nd, rfl⟩⟩; obtain ⟨Ao48, co48, eo48⟩ := Kd.R_slice HO419.out; subst eo48) | (go_at_call 18; (with_reducible refine (ratlinelaw02_Same.calls _ _ t416 _ _ l2 true _ ?side1 ?side2 ?side3 ?side4 A39.out).mono ?_); (case side1 => repeat (first | exact (Kd.R_reads' HO419.out).2.2 | (with_reducible refine Kd.C_alloc ?_ _) | (with_reducible refine Kd.C_drewN ?_ _) | (with_reducible refine Kd.C_drew ?_))); (case side2 => exact (Kd.R_reads' HO419.out).2.1); (case side3 => repeat (first | exact (Kd.C_below HR2.out (by repeat (first | (with_reducible first | exact HB.out | apply below_alloc | apply pw_below_drewN | apply below_drew1) | exact HB.out))) | (with_reducible refine Kd.C_alloc ?_ _) | (with_reducible refine Kd.C_drewN ?_ _) | (with_reducible refine Kd.C_drew ?_))); (case side4 => exact HC2.out); rintro e w' ⟨rfl, ⟨nd, rfl⟩⟩))
                                go_meet
                                case rel => exact ⟨_, (true), (by first | rfl | (simp; done) | (simp [*]; done)), H', ⟨by have := HJ4.out; first | omega | exact Nat.le_refl _⟩, ⟨by repeat (first | (with_reducible first | exact HB.out | apply below_alloc | apply pw_below_drewN | apply below_drew1) | exact HB.out)⟩⟩
                            · replace c41 := Bool.eq_false_iff.mpr c41
                              subst c41
                              have H1 : (ratlinelaw02_NumsBack.j1 kj4 l3 true) = some r := by rw [if_neg (show ¬ (false = true) by decide)] at H; exact H
                              clear H
                              have H := H1
                              clear H1
                              have H' := Aside0.mk H
                              clear H
                              obtain ⟨Ao49, co49, eo49⟩ := Kd.R_slice HO408.out
                              subst eo49
                              go_wp2_with (first | (go_at_call 18; (with_reducible refine (ratlinelaw02_Same.calls _ _ t405 _ _ l2 true _ ?side1 ?side2 ?side3 ?side4 A35.out).mono ?_); (case side1 => repeat (first | exact (Kd.R_reads' HO408.out).2.2 | (with_reducible refine Kd.C_alloc ?_ _) | (with_reducible refine Kd.C_drewN ?_ _) | (with_reducible refine Kd.C_drew ?_))); (case side2 => exact (Kd.R_reads' HO408.out).2.1); (case side3 => repeat (first | exact (Kd.C_below HR2.out HB.out) | (with_reducible refine Kd.C_alloc ?_ _) | (with_reducible refine Kd.C_drewN ?_ _) | (with_reducible refine Kd.C_drew ?_))); (case side4 => exact HC2.out); rintro e w' ⟨rfl, ⟨nd, rfl⟩⟩; obtain ⟨Ao50, co50, eo50⟩ := Kd.R_slice HO419.out; subst eo50) | (go_at_call 18; (with_reducible refine (ratlinelaw02_Same.calls _ _ t416 _ _ l2 true _ ?side1 ?side2 ?side3 ?side4 A39.out).mono ?_); (case side1 => repeat (first | exact (Kd.R_reads' HO419.out).2.2 | (with_reducible refine Kd.C_alloc ?_ _) | (with_reducible refine Kd.C_drewN ?_ _) | (with_reducible refine Kd.C_drew ?_))); (case side2 => exact (Kd.R_reads' HO419.out).2.1); (case side3 => repeat (first | exact (Kd.C_below HR2.out (by repeat (first | (with_reducible first | exact HB.out | apply below_alloc | apply pw_below_drewN | apply below_drew1) | exact HB.out))) | (with_reducible refine Kd.C_alloc ?_ _) | (with_reducible refine Kd.C_drewN ?_ _) | (with_reducible refine Kd.C_drew ?_))); (case side4 => exact HC2.out); rintro e w' ⟨rfl, ⟨nd, rfl⟩⟩))
                              go_meet
                              case rel => exact ⟨_, (true), (by first | rfl | (simp; done) | (simp [*]; done)), H', ⟨by have := HJ4.out; first | omega | exact Nat.le_refl _⟩, ⟨by repeat (first | (with_reducible first | exact HB.out | apply below_alloc | apply pw_below_drewN | apply below_drew1) | exact HB.out)⟩⟩
                          · replace c40 := Bool.eq_false_iff.mpr c40
                            subst c40
                            have H1 : (ratlinelaw02_NumsBack.j1 kj4 l3 true) = some r := by rw [if_neg (show ¬ (false = true) by decide)] at H; exact H
                            clear H
                            have H := H1
                            clear H1
                            have H' := Aside0.mk H
                            clear H
                            obtain ⟨Ao51, co51, eo51⟩ := Kd.R_slice HO408.out
                            subst eo51
                            go_wp2_with (first | (go_at_call 18; (with_reducible refine (ratlinelaw02_Same.calls _ _ t405 _ _ l2 true _ ?side1 ?side2 ?side3 ?side4 A35.out).mono ?_); (case side1 => repeat (first | exact (Kd.R_reads' HO408.out).2.2 | (with_reducible refine Kd.C_alloc ?_ _) | (with_reducible refine Kd.C_drewN ?_ _) | (with_reducible refine Kd.C_drew ?_))); (case side2 => exact (Kd.R_reads' HO408.out).2.1); (case side3 => repeat (first | exact (Kd.C_below HR2.out HB.out) | (with_reducible refine Kd.C_alloc ?_ _) | (with_reducible refine Kd.C_drewN ?_ _) | (with_reducible refine Kd.C_drew ?_))); (case side4 => exact HC2.out); rintro e w' ⟨rfl, ⟨nd, rfl⟩⟩; obtain ⟨Ao52, co52, eo52⟩ := Kd.R_slice HO419.out; subst eo52) | (go_at_call 18; (with_reducible refine (ratlinelaw02_Same.calls _ _ t416 _ _ l2 false _ ?side1 ?side2 ?side3 ?side4 A39.out).mono ?_); (case side1 => repeat (first | exact (Kd.R_reads' HO419.out).2.2 | (with_reducible refine Kd.C_alloc ?_ _) | (with_reducible refine Kd.C_drewN ?_ _) | (with_reducible refine Kd.C_drew ?_))); (case side2 => exact (Kd.R_reads' HO419.out).2.1); (case side3 => repeat (first | exact (Kd.C_below HR2.out (by repeat (first | (with_reducible first | exact HB.out | apply below_alloc | apply pw_below_drewN | apply below_drew1) | exact HB.out))) | (with_reducible refine Kd.C_alloc ?_ _) | (with_reducible refine Kd.C_drewN ?_ _) | (with_reducible refine Kd.C_drew ?_))); (case side4 => exact HC2.out); rintro e w' ⟨rfl, ⟨nd, rfl⟩⟩))
                            go_meet
                            case rel => exact ⟨_, (true), (by first | rfl | (simp; done) | (simp [*]; done)), H', ⟨by have := HJ4.out; first | omega | exact Nat.le_refl _⟩, ⟨by repeat (first | (with_reducible first | exact HB.out | apply below_alloc | apply pw_below_drewN | apply below_drew1) | exact HB.out)⟩⟩
                        · rw [if_neg c38] at H
                          have c38b0 : (t415.toList == a1.toList) = false := beq_eq_false_iff_ne.mpr c38
                          have c38b1 : (t415.toList != a1.toList) = true := bne_iff_ne.mpr c38
                          have H' := Aside0.mk H
                          clear H
                          obtain ⟨Ao53, co53, eo53⟩ := Kd.R_slice HO408.out
                          subst eo53
                          go_wp2_with (first | (go_at_call 18; (with_reducible refine (ratlinelaw02_Same.calls _ _ t405 _ _ l2 true _ ?side1 ?side2 ?side3 ?side4 A35.out).mono ?_); (case side1 => repeat (first | exact (Kd.R_reads' HO408.out).2.2 | (with_reducible refine Kd.C_alloc ?_ _) | (with_reducible refine Kd.C_drewN ?_ _) | (with_reducible refine Kd.C_drew ?_))); (case side2 => exact (Kd.R_reads' HO408.out).2.1); (case side3 => repeat (first | exact (Kd.C_below HR2.out HB.out) | (with_reducible refine Kd.C_alloc ?_ _) | (with_reducible refine Kd.C_drewN ?_ _) | (with_reducible refine Kd.C_drew ?_))); (case side4 => exact HC2.out); rintro e w' ⟨rfl, ⟨nd, rfl⟩⟩))
                          go_meet
                          case rel => exact ⟨_, (true), (by first | rfl | (simp; done) | (simp [*]; done)), H', ⟨by have := HJ4.out; first | omega | exact Nat.le_refl _⟩, ⟨by repeat (first | (with_reducible first | exact HB.out | apply below_alloc | apply pw_below_drewN | apply below_drew1) | exact HB.out)⟩⟩
                      · replace c37 := Bool.eq_false_iff.mpr c37
                        subst c37
                        have H1 : (ratlinelaw02_NumsBack.j1 kj4 l3 true) = some r := by rw [if_neg (show ¬ (false = true) by decide)] at H; exact H
                        clear H
                        have H := H1
                        clear H1
                        have H' := Aside0.mk H
                        clear H
                        obtain ⟨Ao54, co54, eo54⟩ := Kd.R_slice HO408.out
                        subst eo54
                        go_wp2_with (first | (go_at_call 18; (with_reducible refine (ratlinelaw02_Same.calls _ _ t405 _ _ l2 true _ ?side1 ?side2 ?side3 ?side4 A35.out).mono ?_); (case side1 => repeat (first | exact (Kd.R_reads' HO408.out).2.2 | (with_reducible refine Kd.C_alloc ?_ _) | (with_reducible refine Kd.C_drewN ?_ _) | (with_reducible refine Kd.C_drew ?_))); (case side2 => exact (Kd.R_reads' HO408.out).2.1); (case side3 => repeat (first | exact (Kd.C_below HR2.out HB.out) | (with_reducible refine Kd.C_alloc ?_ _) | (with_reducible refine Kd.C_drewN ?_ _) | (with_reducible refine Kd.C_drew ?_))); (case side4 => exact HC2.out); rintro e w' ⟨rfl, ⟨nd, rfl⟩⟩))
                        go_meet
                        case rel => exact ⟨_, (true), (by first | rfl | (simp; done) | (simp [*]; done)), H', ⟨by have := HJ4.out; first | omega | exact Nat.le_refl _⟩, ⟨by repeat (first | (with_reducible first | exact HB.out | apply below_alloc | apply pw_below_drewN | apply below_drew1) | exact HB.out)⟩⟩
                    · replace c36 := Bool.eq_false_iff.mpr c36
                      subst c36
                      have H1 : (ratlinelaw02_NumsBack.j1 kj4 l3 true) = some r := by rw [if_neg (show ¬ (false = true) by decide)] at H; exact H
                      clear H
                      have H := H1
                      clear H1
                      have H' := Aside0.mk H
                      clear H
                      obtain ⟨Ao55, co55, eo55⟩ := Kd.R_slice HO408.out
                      subst eo55
                      go_wp2_with (first | (go_at_call 18; (with_reducible refine (ratlinelaw02_Same.calls _ _ t405 _ _ l2 false _ ?side1 ?side2 ?side3 ?side4 A35.out).mono ?_); (case side1 => repeat (first | exact (Kd.R_reads' HO408.out).2.2 | (with_reducible refine Kd.C_alloc ?_ _) | (with_reducible refine Kd.C_drewN ?_ _) | (with_reducible refine Kd.C_drew ?_))); (case side2 => exact (Kd.R_reads' HO408.out).2.1); (case side3 => repeat (first | exact (Kd.C_below HR2.out HB.out) | (with_reducible refine Kd.C_alloc ?_ _) | (with_reducible refine Kd.C_drewN ?_ _) | (with_reducible refine Kd.C_drew ?_))); (case side4 => exact HC2.out); rintro e w' ⟨rfl, ⟨nd, rfl⟩⟩))
                      go_meet
                      case rel => exact ⟨_, (true), (by first | rfl | (simp; done) | (simp [*]; done)), H', ⟨by have := HJ4.out; first | omega | exact Nat.le_refl _⟩, ⟨by repeat (first | (with_reducible first | exact HB.out | apply below_alloc | apply pw_below_drewN | apply below_drew1) | exact HB.out)⟩⟩
                  · rw [if_neg c34] at H
                    have c34b0 : (t404 == a0) = false := beq_eq_false_iff_ne.mpr c34
                    have c34b1 : (t404 != a0) = true := bne_iff_ne.mpr c34
                    (first | rw [c34b0] | (simp only [i64_w, i32_w]; rw [c34b0]) | skip)
                    have H' := Aside0.mk H
                    clear H
                    go_wp2
                    go_meet
                    case rel => exact ⟨_, (true), (by first | rfl | (simp; done) | (simp [*]; done)), H', ⟨by have := HJ4.out; first | omega | exact Nat.le_refl _⟩, ⟨by repeat (first | (with_reducible first | exact HB.out | apply below_alloc | apply pw_below_drewN | apply below_drew1) | exact HB.out)⟩⟩
                · replace c33 := Bool.eq_false_iff.mpr c33
                  subst c33
                  have H1 : (ratlinelaw02_NumsBack.j1 kj4 l3 true) = some r := by rw [if_neg (show ¬ (false = true) by decide)] at H; exact H
                  clear H
                  have H := H1
                  clear H1
                  have H' := Aside0.mk H
                  clear H
                  go_wp2
                  go_meet
                  case rel => exact ⟨_, (true), (by first | rfl | (simp; done) | (simp [*]; done)), H', ⟨by have := HJ4.out; first | omega | exact Nat.le_refl _⟩, ⟨by repeat (first | (with_reducible first | exact HB.out | apply below_alloc | apply pw_below_drewN | apply below_drew1) | exact HB.out)⟩⟩
              case rest =>
                clear HC20
                try clear c1
                try clear c2
                try clear p2
                try clear c3
                try clear c4
                try clear c6
                try clear c6b0
                try clear c6b1
                try clear c7
                try clear c7b0
                try clear c7b1
                try clear c8
                try clear c12
                try clear c15
                try clear c18
                try clear c22
                try clear c23
                try clear c25
                try clear c26
                try clear c29
                try clear c33
                try clear c34
                try clear c34b0
                try clear c34b1
                try clear c36
                try clear c37
                try clear c38
                try clear c38b0
                try clear c38b1
                try clear c40
                try clear c41
                try clear c42
                try clear c42b0
                try clear c42b1
                try clear p2
                obtain ⟨kq, x112_19, rfl, HA, HJ19, HB⟩ := hcut
                cases kq with
                | zero => exact absurd HA.out (by simp [ratlinelaw02_NumsBack.j1])
                | succ kj19 =>
                  have H := HA.out
                  clear HA
                  simp only [ratlinelaw02_NumsBack.j1] at H
                  by_cases c56 : x112_19 = true
                  · subst c56
                    have H1 : (none) = some r := by rw [if_pos rfl] at H; exact H
                    clear H
                    have H := H1
                    clear H1
                    exact absurd H (by simp)
                  · replace c56 := Bool.eq_false_iff.mpr c56
                    subst c56
                    have H1 : ((nums_Take.f l3).bind fun bt434 => (if bt434.2.2 = true then ((nums_Put.f ([] : List Int) bt434.1).bind fun t439 => (if t439.length + bt434.2.1.length < 140737488355328 then ((ratlinelaw02_Same.f (t439 ++ bt434.2.1) l3).bind fun t445 => (ratlinelaw02_NumsBack.j2 kj19 l3 (!t445))) else (none))) else (ratlinelaw02_NumsBack.j2 kj19 l3 false))) = some r := by rw [if_neg (show ¬ (false = true) by decide)] at H; exact H
                    clear H
                    have H := H1
                    clear H1
                    replace H := Option.bind_eq_some_iff.mp H
                    obtain ⟨⟨t434, t435, t436⟩, A570, H⟩ := H
                    replace H : (if t436 = true then ((nums_Put.f ([] : List Int) t434).bind fun t439 => (if t439.length + t435.length < 140737488355328 then ((ratlinelaw02_Same.f (t439 ++ t435) l3).bind fun t445 => (ratlinelaw02_NumsBack.j2 kj19 l3 (!t445))) else (none))) else (ratlinelaw02_NumsBack.j2 kj19 l3 false)) = some r := H
                    have A57 := Aside0.mk A570
                    clear A570
                    have HC58 := Aside0.mk H
                    clear H
                    go_upto_region 9 with (first | ((with_reducible refine gate_callee (f := 23) rfl ?_); refine goesL_ (some 115) rfl rfl Try.func23 (by kernel_rfl) rfl #[.slice A3 l3.length c3] rfl (by (try simp only [List.map_toArray, List.map_cons, List.map_nil]); first | done | rfl | (simp only [List.length_drop, List.length_take]; rfl)) ?_; (with_reducible refine (nums_Take.calls _ _ l3 t434 t435 t436 _ ?side1 ?side2 A57.out).mono ?_); (case side1 => repeat (first | exact (Kd.C_below HR3.out HB.out) | (with_reducible refine Kd.C_alloc ?_ _) | (with_reducible refine Kd.C_drewN ?_ _) | (with_reducible refine Kd.C_drew ?_))); (case side2 => exact HC3.out); rintro e w59 ⟨v437, rfl, ho0, hb⟩; refine ⟨_, rfl, ?_⟩; have n0_ := Aside0.mk (Kd.R_lower ho0 (below_size (by repeat (first | (with_reducible first | exact HB.out | apply below_alloc | apply pw_below_drewN | apply below_drew1) | exact HB.out)))); have n1_ := Aside0.mk (below_step (by repeat (first | (with_reducible first | exact HB.out | apply below_alloc | apply pw_below_drewN | apply below_drew1) | exact HB.out)) hb); clear HB; have HO438 := n0_; have HB := n1_; clear n0_ n1_; (try clear hb); (try clear hb2); (try clear hk); (try clear hi); (try clear ho0)))
                    (try simp only [Act.put, List.setIfInBounds_toArray, List.set_cons_zero, List.set_cons_succ])
                    go_cut [128] (fun v128 wc => ∃ (kq : Nat) (x128_57 : Bool), v128 = .bool x128_57 ∧ Aside0 (ratlinelaw02_NumsBack.j2 kq l3 x128_57 = some r) ∧ Aside0 (kq ≤ kj19) ∧ Aside0 (Below w.heap.size w wc))
                    case first =>
                      have H := HC58.out
                      clear HC58
                      by_cases c60 : t436 = true
                      · subst c60
                        have H1 : ((nums_Put.f ([] : List Int) t434).bind fun t439 => (if t439.length + t435.length < 140737488355328 then ((ratlinelaw02_Same.f (t439 ++ t435) l3).bind fun t445 => (ratlinelaw02_NumsBack.j2 kj19 l3 (!t445))) else (none))) = some r := by rw [if_pos rfl] at H; exact H
                        clear H
                        have H := H1
                        clear H1
                        replace H := Option.bind_eq_some_iff.mp H
                        obtain ⟨t439, A610, H⟩ := H
                        replace H : (if t439.length + t435.length < 140737488355328 then ((ratlinelaw02_Same.f (t439 ++ t435) l3).bind fun t445 => (ratlinelaw02_NumsBack.j2 kj19 l3 (!t445))) else (none)) = some r := H
                        have A61 := Aside0.mk A610
                        clear A610
                        by_cases c62 : t439.length + t435.length < 140737488355328
                        · rw [if_pos c62] at H
                          have LMc62 := Aside0.mk c62
                          clear c62
                          obtain ⟨y442, hy442⟩ : ∃ y_ : List Int, y_ = (t439 ++ t435) := ⟨_, rfl⟩
                          replace H : ((ratlinelaw02_Same.f y442 l3).bind fun t445 => (ratlinelaw02_NumsBack.j2 kj19 l3 (!t445))) = some r := by first | (rw [hy442]; with_reducible exact H) | (have H2_ := (Option.bind_some _ _).symm.trans H; rw [hy442]; with_reducible exact H2_) | (have H2_ := (Option.bind_some _ _).symm.trans H; with_reducible exact H2_) | with_reducible exact H | (rw [hy442]; exact H) | exact H
                          have Ny442 := Aside0.mk hy442
                          clear hy442
                          replace H := Option.bind_eq_some_iff.mp H
                          obtain ⟨t445, A630, H⟩ := H
                          replace H : (ratlinelaw02_NumsBack.j2 kj19 l3 (!t445)) = some r := H
                          have A63 := Aside0.mk A630
                          clear A630
                          have H' := Aside0.mk H
                          clear H
                          go_wp2_with (first | (go_at_call 22; (refine (nums_Put.calls _ _ ([] : List Int) t434 t439 _ ?side1 ?side2 A61.out).mono ?_); (case side1 => exact Kd.C_nil _ _); (case side2 => exact Nat.le_refl _); rintro e w64 ⟨v440, rfl, ho0, hb⟩; have n0_ := Aside0.mk (Kd.R_elder' (by (with_reducible repeat (first | apply Kd.R_alloc | apply Kd.R_drewN | apply Kd.R_drew)); exact HO438.out) (Kd.R_base ho0) hb); have n1_ := Aside0.mk (Kd.R_lower (Kd.R_new' ho0 (Kd.R_lt (by (with_reducible repeat (first | apply Kd.R_alloc | apply Kd.R_drewN | apply Kd.R_drew)); exact HO438.out))) (below_size (by repeat (first | (with_reducible first | exact HB.out | apply below_alloc | apply pw_below_drewN | apply below_drew1) | exact HB.out)))); have n2_ := Aside0.mk (below_step (by repeat (first | (with_reducible first | exact HB.out | apply below_alloc | apply pw_below_drewN | apply below_drew1) | exact HB.out)) hb); clear HO438; clear HB; have HO438 := n0_; have HO441 := n1_; have HB := n2_; clear n0_ n1_ n2_; (try clear hb); (try clear hb2); (try clear hk); (try clear hi); (try clear ho0); obtain ⟨Ao66, co66, eo66⟩ := Kd.R_slice HO438.out; subst eo66) | ((with_reducible refine gate_builtin (b := .append) (xs := #[.tmp 122, .tmp 123]) rfl ?_); (try (refine gate_guard (by rfl) ?_; dsimp only)); at_builtin; refine Kd.R_append_rows (Kd.int .u8) (w0 := w) w.heap.size rfl (.tmp 122) (.tmp 123) 22 5 (.int .u8 0) 1 rfl Try.underlying22 info5 rfl (by decide) (by omega) v440 t439 t435 _ _ _ (fun k_ => some k_ ≠ (.slice Ao66 t435.length co66 : Value).ownBlock) (fun _ => False) rfl rfl ?aO ?aR (fun _ _ h => h) (fun _ h => h.elim) ?aF ?aB ?aS ?aL ?_; (case aR => repeat (first | exact (Kd.R_reads' HO438.out).2.2 | (with_reducible refine Kd.C_alloc ?_ _) | (with_reducible refine Kd.C_drewN ?_ _) | (with_reducible refine Kd.C_drew ?_))); (case aB => exact (by repeat (first | (with_reducible first | exact HB.out | apply below_alloc | apply pw_below_drewN | apply below_drew1) | exact HB.out))); (case aF => exact (fun k_ hk => Kd.fresh' (Kd.R_lt (by (with_reducible repeat (first | apply Kd.R_alloc | apply Kd.R_drewN | apply Kd.R_drew)); exact HO438.out)) k_ hk)); (case aO => exact (by (with_reducible repeat (first | apply Kd.R_alloc | apply Kd.R_drewN | apply Kd.R_drew)); exact Kd.R_mono HO441.out (fun _ hk => hk.2))); (case aS => exact (below_size (by repeat (first | (with_reducible first | exact HB.out | apply below_alloc | apply pw_below_drewN | apply below_drew1) | exact HB.out)))); (case aL => have := LMc62.out; omega); intro v443 w65 ho hb hg hat; rw [← Ny442.out] at ho; have n0_ := Aside0.mk (Kd.R_after (ok := (fun _ => True)) (by (with_reducible repeat (first | apply Kd.R_alloc | apply Kd.R_drewN | apply Kd.R_drew)); exact HO438.out) hg hat); have n1_ := Aside0.mk (hb); have n2_ := Aside0.mk (ho); clear HO438; clear HB; clear HO441; have HO438 := n0_; have HB := n1_; have HO444 := n2_; clear n0_ n1_ n2_; clear ho hb hg hat; obtain ⟨Ao67, co67, eo67⟩ := Kd.R_slice HO444.out; subst eo67) | (go_at_call 18; (with_reducible refine (ratlinelaw02_Same.calls _ _ y442 _ _ l3 t445 _ ?side1 ?side2 ?side3 ?side4 A63.out).mono ?_); (case side1 => repeat (first | exact (Kd.R_reads' HO444.out).2.2 | (with_reducible refine Kd.C_alloc ?_ _) | (with_reducible refine Kd.C_drewN ?_ _) | (with_reducible refine Kd.C_drew ?_))); (case side2 => exact (Kd.R_reads' HO444.out).2.1); (case side3 => repeat (first | exact (Kd.C_below HR3.out HB.out) | (with_reducible refine Kd.C_alloc ?_ _) | (with_reducible refine Kd.C_drewN ?_ _) | (with_reducible refine Kd.C_drew ?_))); (case side4 => exact HC3.out); rintro e w' ⟨rfl, ⟨nd, rfl⟩⟩))
                          go_meet
                          case rel => exact ⟨_, (!t445), (by first | rfl | (simp; done) | (simp [*]; done)), H', ⟨by have := HJ4.out; have := HJ19.out; first | omega | exact Nat.le_refl _⟩, ⟨by repeat (first | (with_reducible first | exact HB.out | apply below_alloc | apply pw_below_drewN | apply below_drew1) | exact HB.out)⟩⟩
                        · rw [if_neg c62] at H
                          exact absurd H (by simp)
                      · replace c60 := Bool.eq_false_iff.mpr c60
                        subst c60
                        have H1 : (ratlinelaw02_NumsBack.j2 kj19 l3 false) = some r := by rw [if_neg (show ¬ (false = true) by decide)] at H; exact H
                        clear H
                        have H := H1
                        clear H1
                        have H' := Aside0.mk H
                        clear H
                        go_wp2
                        go_meet
                        case rel => exact ⟨_, (false), (by first | rfl | (simp; done) | (simp [*]; done)), H', ⟨by have := HJ4.out; have := HJ19.out; first | omega | exact Nat.le_refl _⟩, ⟨by repeat (first | (with_reducible first | exact HB.out | apply below_alloc | apply pw_below_drewN | apply below_drew1) | exact HB.out)⟩⟩
                    case rest =>
                      clear HC58
                      try clear c1
                      try clear c2
                      try clear p2
                      try clear c3
                      try clear c4
                      try clear c5
                      try clear c6
                      try clear c6b0
                      try clear c6b1
                      try clear c7
                      try clear c7b0
                      try clear c7b1
                      try clear c8
                      try clear c12
                      try clear c15
                      try clear c18
                      try clear c22
                      try clear c23
                      try clear c25
                      try clear c26
                      try clear c29
                      try clear c33
                      try clear c34
                      try clear c34b0
                      try clear c34b1
                      try clear c36
                      try clear c37
                      try clear c38
                      try clear c38b0
                      try clear c38b1
                      try clear c40
                      try clear c41
                      try clear c42
                      try clear c42b0
                      try clear c42b1
                      try clear c56
                      try clear c60
                      try clear c62
                      try clear p2
                      obtain ⟨kq, x128_57, rfl, HA, HJ57, HB⟩ := hcut
                      cases kq with
                      | zero => exact absurd HA.out (by simp [ratlinelaw02_NumsBack.j2])
                      | succ kj57 =>
                        have H := HA.out
                        clear HA
                        simp only [ratlinelaw02_NumsBack.j2] at H
                        by_cases c68 : x128_57 = true
                        · subst c68
                          have H1 : (none) = some r := by rw [if_pos rfl] at H; exact H
                          clear H
                          have H := H1
                          clear H1
                          exact absurd H (by simp)
                        · replace c68 := Bool.eq_false_iff.mpr c68
                          subst c68
                          have H1 : ((nums_TakeText.f l3 300).bind fun bt446 => (if bt446.2.2 = true then ((nums_PutText.f ([] : List Int) bt446.1).bind fun t451 => (if t451.length + bt446.2.1.length < 140737488355328 then ((ratlinelaw02_Same.f (t451 ++ bt446.2.1) l3).bind fun t457 => (ratlinelaw02_NumsBack.j3 kj57 l3 (!t457))) else (none))) else (ratlinelaw02_NumsBack.j3 kj57 l3 false))) = some r := by rw [if_neg (show ¬ (false = true) by decide)] at H; exact H
                          clear H
                          have H := H1
                          clear H1
                          replace H := Option.bind_eq_some_iff.mp H
                          obtain ⟨⟨t446, t447, t448⟩, A690, H⟩ := H
                          replace H : (if t448 = true then ((nums_PutText.f ([] : List Int) t446).bind fun t451 => (if t451.length + t447.length < 140737488355328 then ((ratlinelaw02_Same.f (t451 ++ t447) l3).bind fun t457 => (ratlinelaw02_NumsBack.j3 kj57 l3 (!t457))) else (none))) else (ratlinelaw02_NumsBack.j3 kj57 l3 false)) = some r := H
                          have A69 := Aside0.mk A690
                          clear A690
                          have HC70 := Aside0.mk H
                          clear H
                          go_upto_region 12 with (first | ((with_reducible refine gate_callee (f := 26) rfl ?_); refine goesL_ (some 131) rfl rfl Try.func26 (by kernel_rfl) rfl #[.slice A3 l3.length c3, .int .i64 300] rfl (by (try simp only [List.map_toArray, List.map_cons, List.map_nil]); first | done | rfl | (simp only [List.length_drop, List.length_take]; rfl)) ?_; (with_reducible refine (nums_TakeText.calls _ _ l3 300 t446 t447 t448 _ ?side1 ?side2 A69.out).mono ?_); (case side1 => repeat (first | exact (Kd.C_below HR3.out HB.out) | (with_reducible refine Kd.C_alloc ?_ _) | (with_reducible refine Kd.C_drewN ?_ _) | (with_reducible refine Kd.C_drew ?_))); (case side2 => exact HC3.out); rintro e w71 ⟨v449, rfl, ho0, hb⟩; refine ⟨_, rfl, ?_⟩; have n0_ := Aside0.mk (Kd.R_lower ho0 (below_size (by repeat (first | (with_reducible first | exact HB.out | apply below_alloc | apply pw_below_drewN | apply below_drew1) | exact HB.out)))); have n1_ := Aside0.mk (below_step (by repeat (first | (with_reducible first | exact HB.out | apply below_alloc | apply pw_below_drewN | apply below_drew1) | exact HB.out)) hb); clear HB; have HO450 := n0_; have HB := n1_; clear n0_ n1_; (try clear hb); (try clear hb2); (try clear hk); (try clear hi); (try clear ho0)))
                          (try simp only [Act.put, List.setIfInBounds_toArray, List.set_cons_zero, List.set_cons_succ])
                          go_cut [144] (fun v144 wc => ∃ (kq : Nat) (x144_69 : Bool), v144 = .bool x144_69 ∧ Aside0 (ratlinelaw02_NumsBack.j3 kq l3 x144_69 = some r) ∧ Aside0 (kq ≤ kj57) ∧ Aside0 (Below w.heap.size w wc))
                          case first =>
                            have H := HC70.out
                            clear HC70
                            by_cases c72 : t448 = true
                            · subst c72
                              have H1 : ((nums_PutText.f ([] : List Int) t446).bind fun t451 => (if t451.length + t447.length < 140737488355328 then ((ratlinelaw02_Same.f (t451 ++ t447) l3).bind fun t457 => (ratlinelaw02_NumsBack.j3 kj57 l3 (!t457))) else (none))) = some r := by rw [if_pos rfl] at H; exact H
                              clear H
                              have H := H1
                              clear H1
                              replace H := Option.bind_eq_some_iff.mp H
                              obtain ⟨t451, A730, H⟩ := H
                              replace H : (if t451.length + t447.length < 140737488355328 then ((ratlinelaw02_Same.f (t451 ++ t447) l3).bind fun t457 => (ratlinelaw02_NumsBack.j3 kj57 l3 (!t457))) else (none)) = some r := H
                              have A73 := Aside0.mk A730
                              clear A730
                              by_cases c74 : t451.length + t447.length < 140737488355328
                              · rw [if_pos c74] at H
                                have LMc74 := Aside0.mk c74
                                clear c74
                                obtain ⟨y454, hy454⟩ : ∃ y_ : List Int, y_ = (t451 ++ t447) := ⟨_, rfl⟩
                                replace H : ((ratlinelaw02_Same.f y454 l3).bind fun t457 => (ratlinelaw02_NumsBack.j3 kj57 l3 (!t457))) = some r := by first | (rw [hy454]; with_reducible exact H) | (have H2_ := (Option.bind_some _ _).symm.trans H; rw [hy454]; with_reducible exact H2_) | (have H2_ := (Option.bind_some _ _).symm.trans H; with_reducible exact H2_) | with_reducible exact H | (rw [hy454]; exact H) | exact H
                                have Ny454 := Aside0.mk hy454
                                clear hy454
                                replace H := Option.bind_eq_some_iff.mp H
                                obtain ⟨t457, A750, H⟩ := H
                                replace H : (ratlinelaw02_NumsBack.j3 kj57 l3 (!t457)) = some r := H
                                have A75 := Aside0.mk A750
                                clear A750
                                have H' := Aside0.mk H
                                clear H
                                go_wp2_with (first | (go_at_call 25; (refine (nums_PutText.calls _ _ ([] : List Int) t446 t451 _ ?side1 ?side2 A73.out).mono ?_); (case side1 => exact Kd.C_nil _ _); (case side2 => exact Nat.le_refl _); rintro e w76 ⟨v452, rfl, ho0, hb⟩; have n0_ := Aside0.mk (Kd.R_elder' (by (with_reducible repeat (first | apply Kd.R_alloc | apply Kd.R_drewN | apply Kd.R_drew)); exact HO450.out) (Kd.R_base ho0) hb); have n1_ := Aside0.mk (Kd.R_lower (Kd.R_new' ho0 (Kd.R_lt (by (with_reducible repeat (first | apply Kd.R_alloc | apply Kd.R_drewN | apply Kd.R_drew)); exact HO450.out))) (below_size (by repeat (first | (with_reducible first | exact HB.out | apply below_alloc | apply pw_below_drewN | apply below_drew1) | exact HB.out)))); have n2_ := Aside0.mk (below_step (by repeat (first | (with_reducible first | exact HB.out | apply below_alloc | apply pw_below_drewN | apply below_drew1) | exact HB.out)) hb); clear HO450; clear HB; have HO450 := n0_; have HO453 := n1_; have HB := n2_; clear n0_ n1_ n2_; (try clear hb); (try clear hb2); (try clear hk); (try clear hi); (try clear ho0); obtain ⟨Ao78, co78, eo78⟩ := Kd.R_slice HO450.out; subst eo78) | ((with_reducible refine gate_builtin (b := .append) (xs := #[.tmp 138, .tmp 139]) rfl ?_); (try (refine gate_guard (by rfl) ?_; dsimp only)); at_builtin; refine Kd.R_append_rows (Kd.int .u8) (w0 := w) w.heap.size rfl (.tmp 138) (.tmp 139) 22 5 (.int .u8 0) 1 rfl Try.underlying22 info5 rfl (by decide) (by omega) v452 t451 t447 _ _ _ (fun k_ => some k_ ≠ (.slice Ao78 t447.length co78 : Value).ownBlock) (fun _ => False) rfl rfl ?aO ?aR (fun _ _ h => h) (fun _ h => h.elim) ?aF ?aB ?aS ?aL ?_; (case aR => repeat (first | exact (Kd.R_reads' HO450.out).2.2 | (with_reducible refine Kd.C_alloc ?_ _) | (with_reducible refine Kd.C_drewN ?_ _) | (with_reducible refine Kd.C_drew ?_))); (case aB => exact (by repeat (first | (with_reducible first | exact HB.out | apply below_alloc | apply pw_below_drewN | apply below_drew1) | exact HB.out))); (case aF => exact (fun k_ hk => Kd.fresh' (Kd.R_lt (by (with_reducible repeat (first | apply Kd.R_alloc | apply Kd.R_drewN | apply Kd.R_drew)); exact HO450.out)) k_ hk)); (case aO => exact (by (with_reducible repeat (first | apply Kd.R_alloc | apply Kd.R_drewN | apply Kd.R_drew)); exact Kd.R_mono HO453.out (fun _ hk => hk.2))); (case aS => exact (below_size (by repeat (first | (with_reducible first | exact HB.out | apply below_alloc | apply pw_below_drewN | apply below_drew1) | exact HB.out)))); (case aL => have := LMc74.out; omega); intro v455 w77 ho hb hg hat; rw [← Ny454.out] at ho; have n0_ := Aside0.mk (Kd.R_after (ok := (fun _ => True)) (by (with_reducible repeat (first | apply Kd.R_alloc | apply Kd.R_drewN | apply Kd.R_drew)); exact HO450.out) hg hat); have n1_ := Aside0.mk (hb); have n2_ := Aside0.mk (ho); clear HO450; clear HB; clear HO453; have HO450 := n0_; have HB := n1_; have HO456 := n2_; clear n0_ n1_ n2_; clear ho hb hg hat; obtain ⟨Ao79, co79, eo79⟩ := Kd.R_slice HO456.out; subst eo79) | (go_at_call 18; (with_reducible refine (ratlinelaw02_Same.calls _ _ y454 _ _ l3 t457 _ ?side1 ?side2 ?side3 ?side4 A75.out).mono ?_); (case side1 => repeat (first | exact (Kd.R_reads' HO456.out).2.2 | (with_reducible refine Kd.C_alloc ?_ _) | (with_reducible refine Kd.C_drewN ?_ _) | (with_reducible refine Kd.C_drew ?_))); (case side2 => exact (Kd.R_reads' HO456.out).2.1); (case side3 => repeat (first | exact (Kd.C_below HR3.out HB.out) | (with_reducible refine Kd.C_alloc ?_ _) | (with_reducible refine Kd.C_drewN ?_ _) | (with_reducible refine Kd.C_drew ?_))); (case side4 => exact HC3.out); rintro e w' ⟨rfl, ⟨nd, rfl⟩⟩))
                                go_meet
                                case rel => exact ⟨_, (!t457), (by first | rfl | (simp; done) | (simp [*]; done)), H', ⟨by have := HJ4.out; have := HJ19.out; have := HJ57.out; first | omega | exact Nat.le_refl _⟩, ⟨by repeat (first | (with_reducible first | exact HB.out | apply below_alloc | apply pw_below_drewN | apply below_drew1) | exact HB.out)⟩⟩
                              · rw [if_neg c74] at H
                                exact absurd H (by simp)
                            · replace c72 := Bool.eq_false_iff.mpr c72
                              subst c72
                              have H1 : (ratlinelaw02_NumsBack.j3 kj57 l3 false) = some r := by rw [if_neg (show ¬ (false = true) by decide)] at H; exact H
                              clear H
                              have H := H1
                              clear H1
                              have H' := Aside0.mk H
                              clear H
                              go_wp2
                              go_meet
                              case rel => exact ⟨_, (false), (by first | rfl | (simp; done) | (simp [*]; done)), H', ⟨by have := HJ4.out; have := HJ19.out; have := HJ57.out; first | omega | exact Nat.le_refl _⟩, ⟨by repeat (first | (with_reducible first | exact HB.out | apply below_alloc | apply pw_below_drewN | apply below_drew1) | exact HB.out)⟩⟩
                          case rest =>
                            clear HC70
                            try clear c1
                            try clear c2
                            try clear p2
                            try clear c3
                            try clear c4
                            try clear c5
                            try clear c6
                            try clear c6b0
                            try clear c6b1
                            try clear c7
                            try clear c7b0
                            try clear c7b1
                            try clear c8
                            try clear c12
                            try clear c15
                            try clear c18
                            try clear c22
                            try clear c23
                            try clear c25
                            try clear c26
                            try clear c29
                            try clear c33
                            try clear c34
                            try clear c34b0
                            try clear c34b1
                            try clear c36
                            try clear c37
                            try clear c38
                            try clear c38b0
                            try clear c38b1
                            try clear c40
                            try clear c41
                            try clear c42
                            try clear c42b0
                            try clear c42b1
                            try clear c56
                            try clear c60
                            try clear c62
                            try clear c68
                            try clear c72
                            try clear c74
                            try clear p2
                            obtain ⟨kq, x144_69, rfl, HA, HJ69, HB⟩ := hcut
                            cases kq with
                            | zero => exact absurd HA.out (by simp [ratlinelaw02_NumsBack.j3])
                            | succ kj69 =>
                              have H := HA.out
                              clear HA
                              simp only [ratlinelaw02_NumsBack.j3] at H
                              by_cases c80 : x144_69 = true
                              · subst c80
                                have H1 : (none) = some r := by rw [if_pos rfl] at H; exact H
                                clear H
                                have H := H1
                                clear H1
                                exact absurd H (by simp)
                              · replace c80 := Bool.eq_false_iff.mpr c80
                                subst c80
                                have H1 : ((nums_TakeFour.f l3).bind fun bt458 => (if (bt458.2.2 == (decide ((l3.length : Int) ≥ 4))) = true then (if bt458.2.2 = true then ((nums_PutFour.f ([] : List Int) bt458.1).bind fun t463 => (if t463.length + bt458.2.1.length < 140737488355328 then ((ratlinelaw02_Same.f (t463 ++ bt458.2.1) l3).bind fun t469 => (if t469 = true then ((ratlinelaw02_awake.f).bind fun t470 => (some t470)) else (none))) else (none))) else ((ratlinelaw02_awake.f).bind fun t471 => (some t471))) else (none))) = some r := by rw [if_neg (show ¬ (false = true) by decide)] at H; exact H
                                clear H
                                have H := H1
                                clear H1
                                replace H := Option.bind_eq_some_iff.mp H
                                obtain ⟨⟨t458, t459, t460⟩, A810, H⟩ := H
                                replace H : (if (t460 == (decide ((l3.length : Int) ≥ 4))) = true then (if t460 = true then ((nums_PutFour.f ([] : List Int) t458).bind fun t463 => (if t463.length + t459.length < 140737488355328 then ((ratlinelaw02_Same.f (t463 ++ t459) l3).bind fun t469 => (if t469 = true then ((ratlinelaw02_awake.f).bind fun t470 => (some t470)) else (none))) else (none))) else ((ratlinelaw02_awake.f).bind fun t471 => (some t471))) else (none)) = some r := H
                                have A81 := Aside0.mk A810
                                clear A810
                                by_cases c82 : (t460 == (decide ((l3.length : Int) ≥ 4))) = true
                                · rw [if_pos c82] at H
                                  have c82b0 : (t460 == (decide ((l3.length : Int) ≥ 4))) = true := c82
                                  (try (have c82b1 : decide (t460 = (decide ((l3.length : Int) ≥ 4))) = true := by simpa using c82))
                                  (try (have c82b2 : (t460 == (decide ((l3.length : Int) ≥ 4))) = true := by simpa using c82))
                                  clear c82
                                  by_cases c83 : t460 = true
                                  · subst c83
                                    have H1 : ((nums_PutFour.f ([] : List Int) t458).bind fun t463 => (if t463.length + t459.length < 140737488355328 then ((ratlinelaw02_Same.f (t463 ++ t459) l3).bind fun t469 => (if t469 = true then ((ratlinelaw02_awake.f).bind fun t470 => (some t470)) else (none))) else (none))) = some r := by rw [if_pos rfl] at H; exact H
                                    clear H
                                    have H := H1
                                    clear H1
                                    replace H := Option.bind_eq_some_iff.mp H
                                    obtain ⟨t463, A840, H⟩ := H
                                    replace H : (if t463.length + t459.length < 140737488355328 then ((ratlinelaw02_Same.f (t463 ++ t459) l3).bind fun t469 => (if t469 = true then ((ratlinelaw02_awake.f).bind fun t470 => (some t470)) else (none))) else (none)) = some r := H
                                    have A84 := Aside0.mk A840
                                    clear A840
                                    by_cases c85 : t463.length + t459.length < 140737488355328
                                    · rw [if_pos c85] at H
                                      have LMc85 := Aside0.mk c85
                                      clear c85
                                      obtain ⟨y466, hy466⟩ : ∃ y_ : List Int, y_ = (t463 ++ t459) := ⟨_, rfl⟩
                                      replace H : ((ratlinelaw02_Same.f y466 l3).bind fun t469 => (if t469 = true then ((ratlinelaw02_awake.f).bind fun t470 => (some t470)) else (none))) = some r := by first | (rw [hy466]; with_reducible exact H) | (have H2_ := (Option.bind_some _ _).symm.trans H; rw [hy466]; with_reducible exact H2_) | (have H2_ := (Option.bind_some _ _).symm.trans H; with_reducible exact H2_) | with_reducible exact H | (rw [hy466]; exact H) | exact H
                                      have Ny466 := Aside0.mk hy466
                                      clear hy466
                                      replace H := Option.bind_eq_some_iff.mp H
                                      obtain ⟨t469, A860, H⟩ := H
                                      replace H : (if t469 = true then ((ratlinelaw02_awake.f).bind fun t470 => (some t470)) else (none)) = some r := H
                                      have A86 := Aside0.mk A860
                                      clear A860
                                      by_cases c87 : t469 = true
                                      · subst c87
                                        have H1 : ((ratlinelaw02_awake.f).bind fun t470 => (some t470)) = some r := by rw [if_pos rfl] at H; exact H
                                        clear H
                                        have H := H1
                                        clear H1
                                        replace H := Option.bind_eq_some_iff.mp H
                                        obtain ⟨t470, A880, H⟩ := H
                                        replace H : (some t470) = some r := H
                                        have A88 := Aside0.mk A880
                                        clear A880
                                        obtain rfl := Option.some.inj H
                                        go_wp2_with (first | ((with_reducible refine gate_callee (f := 29) rfl ?_); refine goesL_ (some 147) rfl rfl Try.func29 (by kernel_rfl) rfl #[.slice A3 l3.length c3] rfl (by (try simp only [List.map_toArray, List.map_cons, List.map_nil]); first | done | rfl | (simp only [List.length_drop, List.length_take]; rfl)) ?_; (with_reducible refine (nums_TakeFour.calls _ _ l3 t458 t459 true _ ?side1 ?side2 A81.out).mono ?_); (case side1 => repeat (first | exact (Kd.C_below HR3.out HB.out) | (with_reducible refine Kd.C_alloc ?_ _) | (with_reducible refine Kd.C_drewN ?_ _) | (with_reducible refine Kd.C_drew ?_))); (case side2 => exact HC3.out); rintro e w89 ⟨v461, rfl, ho0, hb⟩; refine ⟨_, rfl, ?_⟩; have n0_ := Aside0.mk (Kd.R_lower ho0 (below_size (by repeat (first | (with_reducible first | exact HB.out | apply below_alloc | apply pw_below_drewN | apply below_drew1) | exact HB.out)))); have n1_ := Aside0.mk (below_step (by repeat (first | (with_reducible first | exact HB.out | apply below_alloc | apply pw_below_drewN | apply below_drew1) | exact HB.out)) hb); clear HB; have HO462 := n0_; have HB := n1_; clear n0_ n1_; (try clear hb); (try clear hb2); (try clear hk); (try clear hi); (try clear ho0)) | (go_at_call 33; (refine (nums_PutFour.calls _ _ ([] : List Int) t458 t463 _ ?side1 ?side2 A84.out).mono ?_); (case side1 => exact Kd.C_nil _ _); (case side2 => exact Nat.le_refl _); rintro e w90 ⟨v464, rfl, ho0, hb⟩; have n0_ := Aside0.mk (Kd.R_elder' (by (with_reducible repeat (first | apply Kd.R_alloc | apply Kd.R_drewN | apply Kd.R_drew)); exact HO462.out) (Kd.R_base ho0) hb); have n1_ := Aside0.mk (Kd.R_lower (Kd.R_new' ho0 (Kd.R_lt (by (with_reducible repeat (first | apply Kd.R_alloc | apply Kd.R_drewN | apply Kd.R_drew)); exact HO462.out))) (below_size (by repeat (first | (with_reducible first | exact HB.out | apply below_alloc | apply pw_below_drewN | apply below_drew1) | exact HB.out)))); have n2_ := Aside0.mk (below_step (by repeat (first | (with_reducible first | exact HB.out | apply below_alloc | apply pw_below_drewN | apply below_drew1) | exact HB.out)) hb); clear HO462; clear HB; have HO462 := n0_; have HO465 := n1_; have HB := n2_; clear n0_ n1_ n2_; (try clear hb); (try clear hb2); (try clear hk); (try clear hi); (try clear ho0); obtain ⟨Ao92, co92, eo92⟩ := Kd.R_slice HO462.out; subst eo92) | ((with_reducible refine gate_builtin (b := .append) (xs := #[.tmp 161, .tmp 162]) rfl ?_); (try (refine gate_guard (by rfl) ?_; dsimp only)); at_builtin; refine Kd.R_append_rows (Kd.int .u8) (w0 := w) w.heap.size rfl (.tmp 161) (.tmp 162) 22 5 (.int .u8 0) 1 rfl Try.underlying22 info5 rfl (by decide) (by omega) v464 t463 t459 _ _ _ (fun k_ => some k_ ≠ (.slice Ao92 t459.length co92 : Value).ownBlock) (fun _ => False) rfl rfl ?aO ?aR (fun _ _ h => h) (fun _ h => h.elim) ?aF ?aB ?aS ?aL ?_; (case aR => repeat (first | exact (Kd.R_reads' HO462.out).2.2 | (with_reducible refine Kd.C_alloc ?_ _) | (with_reducible refine Kd.C_drewN ?_ _) | (with_reducible refine Kd.C_drew ?_))); (case aB => exact (by repeat (first | (with_reducible first | exact HB.out | apply below_alloc | apply pw_below_drewN | apply below_drew1) | exact HB.out))); (case aF => exact (fun k_ hk => Kd.fresh' (Kd.R_lt (by (with_reducible repeat (first | apply Kd.R_alloc | apply Kd.R_drewN | apply Kd.R_drew)); exact HO462.out)) k_ hk)); (case aO => exact (by (with_reducible repeat (first | apply Kd.R_alloc | apply Kd.R_drewN | apply Kd.R_drew)); exact Kd.R_mono HO465.out (fun _ hk => hk.2))); (case aS => exact (below_size (by repeat (first | (with_reducible first | exact HB.out | apply below_alloc | apply pw_below_drewN | apply below_drew1) | exact HB.out)))); (case aL => have := LMc85.out; omega); intro v467 w91 ho hb hg hat; rw [← Ny466.out] at ho; have n0_ := Aside0.mk (Kd.R_after (ok := (fun _ => True)) (by (with_reducible repeat (first | apply Kd.R_alloc | apply Kd.R_drewN | apply Kd.R_drew)); exact HO462.out) hg hat); have n1_ := Aside0.mk (hb); have n2_ := Aside0.mk (ho); clear HO462; clear HB; clear HO465; have HO462 := n0_; have HB := n1_; have HO468 := n2_; clear n0_ n1_ n2_; clear ho hb hg hat; obtain ⟨Ao93, co93, eo93⟩ := Kd.R_slice HO468.out; subst eo93) | (go_at_call 18; (with_reducible refine (ratlinelaw02_Same.calls _ _ y466 _ _ l3 true _ ?side1 ?side2 ?side3 ?side4 A86.out).mono ?_); (case side1 => repeat (first | exact (Kd.R_reads' HO468.out).2.2 | (with_reducible refine Kd.C_alloc ?_ _) | (with_reducible refine Kd.C_drewN ?_ _) | (with_reducible refine Kd.C_drew ?_))); (case side2 => exact (Kd.R_reads' HO468.out).2.1); (case side3 => repeat (first | exact (Kd.C_below HR3.out HB.out) | (with_reducible refine Kd.C_alloc ?_ _) | (with_reducible refine Kd.C_drewN ?_ _) | (with_reducible refine Kd.C_drew ?_))); (case side4 => exact HC3.out); rintro e w' ⟨rfl, ⟨nd, rfl⟩⟩) | (go_at_call 24; (with_reducible refine (ratlinelaw02_awake.calls  t470 _ A88.out).mono ?_); rintro e w94 ⟨rfl, hb⟩; have n0_ := Aside0.mk (Kd.R_below (by (with_reducible repeat (first | apply Kd.R_alloc | apply Kd.R_drewN | apply Kd.R_drew)); exact HO462.out) hb); have n1_ := Aside0.mk (Kd.R_below (by (with_reducible repeat (first | apply Kd.R_alloc | apply Kd.R_drewN | apply Kd.R_drew)); exact HO468.out) hb); have n2_ := Aside0.mk (below_step (by repeat (first | (with_reducible first | exact HB.out | apply below_alloc | apply pw_below_drewN | apply below_drew1) | exact HB.out)) hb); clear HO462; clear HO468; clear HB; have HO462 := n0_; have HO468 := n1_; have HB := n2_; clear n0_ n1_ n2_; (try clear hb); (try clear hb2); (try clear hk); (try clear hi)))
                                        go_ret
                                        exact ⟨by first | rfl | (simp [errW_none, errW_some] <;> rfl) | (simp [*, errW_none, errW_some] <;> rfl), by repeat (first | (with_reducible first | exact HB.out | apply below_alloc | apply pw_below_drewN | apply below_drew1) | exact HB.out)⟩
                                      · replace c87 := Bool.eq_false_iff.mpr c87
                                        subst c87
                                        have H1 : (none) = some r := by rw [if_neg (show ¬ (false = true) by decide)] at H; exact H
                                        clear H
                                        have H := H1
                                        clear H1
                                        exact absurd H (by simp)
                                    · rw [if_neg c85] at H
                                      exact absurd H (by simp)
                                  · replace c83 := Bool.eq_false_iff.mpr c83
                                    subst c83
                                    have H1 : ((ratlinelaw02_awake.f).bind fun t471 => (some t471)) = some r := by rw [if_neg (show ¬ (false = true) by decide)] at H; exact H
                                    clear H
                                    have H := H1
                                    clear H1
                                    replace H := Option.bind_eq_some_iff.mp H
                                    obtain ⟨t471, A950, H⟩ := H
                                    replace H : (some t471) = some r := H
                                    have A95 := Aside0.mk A950
                                    clear A950
                                    obtain rfl := Option.some.inj H
                                    go_wp2_with (first | ((with_reducible refine gate_callee (f := 29) rfl ?_); refine goesL_ (some 147) rfl rfl Try.func29 (by kernel_rfl) rfl #[.slice A3 l3.length c3] rfl (by (try simp only [List.map_toArray, List.map_cons, List.map_nil]); first | done | rfl | (simp only [List.length_drop, List.length_take]; rfl)) ?_; (with_reducible refine (nums_TakeFour.calls _ _ l3 t458 t459 false _ ?side1 ?side2 A81.out).mono ?_); (case side1 => repeat (first | exact (Kd.C_below HR3.out HB.out) | (with_reducible refine Kd.C_alloc ?_ _) | (with_reducible refine Kd.C_drewN ?_ _) | (with_reducible refine Kd.C_drew ?_))); (case side2 => exact HC3.out); rintro e w96 ⟨v461, rfl, ho0, hb⟩; refine ⟨_, rfl, ?_⟩; have n0_ := Aside0.mk (Kd.R_lower ho0 (below_size (by repeat (first | (with_reducible first | exact HB.out | apply below_alloc | apply pw_below_drewN | apply below_drew1) | exact HB.out)))); have n1_ := Aside0.mk (below_step (by repeat (first | (with_reducible first | exact HB.out | apply below_alloc | apply pw_below_drewN | apply below_drew1) | exact HB.out)) hb); clear HB; have HO462 := n0_; have HB := n1_; clear n0_ n1_; (try clear hb); (try clear hb2); (try clear hk); (try clear hi); (try clear ho0)) | (go_at_call 24; (with_reducible refine (ratlinelaw02_awake.calls  t471 _ A95.out).mono ?_); rintro e w97 ⟨rfl, hb⟩; have n0_ := Aside0.mk (Kd.R_below (by (with_reducible repeat (first | apply Kd.R_alloc | apply Kd.R_drewN | apply Kd.R_drew)); exact HO462.out) hb); have n1_ := Aside0.mk (below_step (by repeat (first | (with_reducible first | exact HB.out | apply below_alloc | apply pw_below_drewN | apply below_drew1) | exact HB.out)) hb); clear HO462; clear HB; have HO462 := n0_; have HB := n1_; clear n0_ n1_; (try clear hb); (try clear hb2); (try clear hk); (try clear hi)))
                                    go_ret
                                    exact ⟨by first | rfl | (simp [errW_none, errW_some] <;> rfl) | (simp [*, errW_none, errW_some] <;> rfl), by repeat (first | (with_reducible first | exact HB.out | apply below_alloc | apply pw_below_drewN | apply below_drew1) | exact HB.out)⟩
                                · rw [if_neg c82] at H
                                  exact absurd H (by simp)
            · rw [if_neg c18] at H
              exact absurd H (by simp)
          · rw [if_neg c15] at H
            exact absurd H (by simp)
        · rw [if_neg c12] at H
          exact absurd H (by simp)

/-- THE ONE PURE STATEMENT of ratlinelaw02_NumsBack: yours. -/
def ratlinelaw02_NumsBack.Pure : Prop := ∀ (a0 : Int) (a1 : ByteArray) (l2 : List Int) (l3 : List Int), (Lit.int .u64 a0).wf = true → a1.size ≤ 140737488351232 → l2.length ≤ maxLen → l2.length * 1 ≤ 140737488351232 → (∀ x ∈ l2, (Lit.int .u8 x).wf = true) → l3.length ≤ maxLen → l3.length * 1 ≤ 140737488351232 → (∀ x ∈ l3, (Lit.int .u8 x).wf = true) → ∃ k, ratlinelaw02_NumsBack.f k a0 a1 l2 l3 = some true
theorem ratlinelaw02_NumsBack.walk (P : ratlinelaw02_NumsBack.Pure) (a0 : Int) (a1 : ByteArray) (a2 : Option Addr) (len2 cap2 : Nat) (z2 : List Int) (a3 : Option Addr) (len3 cap3 : Nat) (z3 : List Int) (w : World) (w0 : (Lit.int .u64 a0).wf = true) (w1 : a1.size ≤ 140737488351232) (w2 : (a2 = none ∧ len2 = 0 ∧ cap2 = 0 ∧ z2 = []) ∨ ∃ x, a2 = some x ∧ len2 ≤ cap2 ∧ cap2 ≤ maxLen ∧ z2.length = cap2 ∧ (∀ i, i < z2.length → w.cell? (x.add i) = some (.int .u8 (z2.getD i 0))) ∧ ∀ n ∈ z2, (Lit.int .u8 n).wf = true) (y2 : len2 * 1 ≤ 140737488351232) (w3 : (a3 = none ∧ len3 = 0 ∧ cap3 = 0 ∧ z3 = []) ∨ ∃ x, a3 = some x ∧ len3 ≤ cap3 ∧ cap3 ≤ maxLen ∧ z3.length = cap3 ∧ (∀ i, i < z3.length → w.cell? (x.add i) = some (.int .u8 (z3.getD i 0))) ∧ ∀ n ∈ z3, (Lit.int .u8 n).wf = true) (y3 : len3 * 1 ≤ 140737488351232) :
    Calls Try.prog 12 #[.int .u64 a0, .string a1, .slice a2 len2 cap2, .slice a3 len3 cap3] w fun e w' => e = .returned (.bool true) ∧ Below w.heap.size w w' := by
  obtain ⟨l2, rfl, hr2, hm2, hw2, hc2⟩ := ReadsInt.ofRowC w2
  obtain ⟨l3, rfl, hr3, hm3, hw3, hc3⟩ := ReadsInt.ofRowC w3
  obtain ⟨k, h⟩ := P a0 a1 l2 l3 w0 w1 hm2 y2 hw2 hm3 y3 hw3
  refine (ratlinelaw02_NumsBack.calls k a0 a1 _ _ l2 _ _ l3 true w (Kd.C_of_reads (d := (0 : Int)) (h1 := fun _ => rfl) hr2) hc2 (Kd.C_of_reads (d := (0 : Int)) (h1 := fun _ => rfl) hr3) hc3 h).mono ?_
  rintro e w' ⟨rfl, hd⟩
  exact ⟨rfl, hd⟩

end Go.Proofs.Ytdppjknfhggpbaa.P
