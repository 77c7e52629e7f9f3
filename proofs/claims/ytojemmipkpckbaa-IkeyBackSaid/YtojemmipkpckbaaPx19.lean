/- Proved here: functions of the program return what the Lean functions beside them say, or a law of the program holds. Conditions: those of each theorem. Written for this claim by a program: the printer of the kit, with some contracts given. -/
import Derived.Test.YtojemmipkpckbaaPx0
import Derived.Test.YtojemmipkpckbaaPx1
import Derived.Test.YtojemmipkpckbaaPx7
import Derived.Test.YtojemmipkpckbaaPx8
import Derived.Test.YtojemmipkpckbaaPx9
import Derived.Test.YtojemmipkpckbaaPx12
import Derived.Test.YtojemmipkpckbaaPx14
namespace Go.Proofs.Ytojemmipkpckbaa.P
open Go.RowKit Go.Proofs.YtojemmipkpckbaaG Go.Proofs.YtojemmipkpckbaaW.PrintWords Go.Proofs.YtojemmipkpckbaaW.PrintLast Go.Proofs.YtojemmipkpckbaaW.PrintMore
attribute [local go_sem] str_gtr str_geq str_leq max2_int min2_int max_two min_two max_three min_three max_four min_four   -- for this text's walks alone
set_option linter.unusedVariables false
set_option linter.unusedSimpArgs false

attribute [local go_sem high] eqA39
/-! ### ratlinelaw03_IkeyBack: function 10 -/
mutual
def ratlinelaw03_IkeyBack.j0 : Nat → List Int → List Int → Bool → ByteArray → Int → Int → Option (Bool)
  | 0, _, _, _, _, _, _ => none
  | k + 1, x1, x2, x32, x322000, x322001, x322002 => if x32 = true then ((ratlinelaw03_awake.f k).bind fun t322 => (some t322)) else ((ikey_Put.f ([] : List Int) x322000 x322001 x322002).bind fun t323 => ((ikey_Right.f x322000 x322001 x322002).bind fun t326 => (if t326 = true then ((some (([] : List Int) : List Int)).bind fun y327 => (if y327.length + t323.length < 140737488355328 then ((some (y327 ++ t323 : List Int)).bind fun y330 => (if y330.length + x1.length < 140737488355328 then ((ikey_Take.f (y330 ++ x1)).bind fun bt336 => (if bt336.2.2.2.2 = true then (if (!(bt336.1.toList == x322000.toList) || (!(bt336.2.1 == x322001) || (!(bt336.2.2.1 == x322002)))) = true then (none) else ((ratlinelaw02_Same.f bt336.2.2.2.1 x1).bind fun t344 => (if t344 = true then (ratlinelaw03_IkeyBack.j1 k x2 t323) else (none)))) else (none))) else (none))) else (none))) else (if (t323.length : Int) = 0 then ((ikey_Put.f x1 x322000 x322001 x322002).bind fun t345 => ((ratlinelaw02_Same.f t345 x1).bind fun t348 => (if t348 = true then (ratlinelaw03_IkeyBack.j1 k x2 t323) else (none)))) else (none)))))
def ratlinelaw03_IkeyBack.j1 : Nat → List Int → List Int → Option (Bool)
  | 0, _, _ => none
  | k + 1, x2, x8 => ratlinelaw03_IkeyBack.l0 k x2 x8 (x8.length : Int) 0
def ratlinelaw03_IkeyBack.l0 : Nat → List Int → List Int → Int → Int → Option (Bool)
  | 0, _, _, _, _ => none
  | k + 1, x2, x8, x76, x77 => if x77 < x76 then (if 0 ≤ x77 then (if x77 ≤ (x8.length : Int) then ((ikey_Take.f (x8.take (x77 : Int).toNat)).bind fun bt353 => (if bt353.2.2.2.2 = true then (none) else (ratlinelaw03_IkeyBack.l0 k x2 x8 x76 (wrap64 (x77 + 1))))) else (none)) else (none)) else ((ikey_Take.f x2).bind fun bt361 => (if bt361.2.2.2.2 = true then ((ikey_Right.f bt361.1 bt361.2.1 bt361.2.2.1).bind fun t370 => (if t370 = true then ((ikey_Put.f ([] : List Int) bt361.1 bt361.2.1 bt361.2.2.1).bind fun t371 => (if t371.length + bt361.2.2.2.1.length < 140737488355328 then ((ratlinelaw02_Same.f (t371 ++ bt361.2.2.2.1) x2).bind fun t377 => (if t377 = true then ((ratlinelaw03_awake.f k).bind fun t378 => (some t378)) else (none))) else (none))) else (none))) else (if (bt361.1.toList == ([] : List UInt8) && (bt361.2.1 == 0 && (bt361.2.2.1 == 0))) = true then (if (bt361.2.2.2.1.length : Int) = 0 then ((ratlinelaw03_awake.f k).bind fun t369 => (some t369)) else (none)) else (none))))
end
def ratlinelaw03_IkeyBack.f (k : Nat) (a0_0 : ByteArray) (a0_1 : Int) (a0_2 : Int) (l1 : List Int) (l2 : List Int) : Option (Bool) := if (a0_0.size : Int) > 70 then (ratlinelaw03_IkeyBack.j0 k l1 l2 true a0_0 a0_1 a0_2) else (if (l1.length : Int) > 100 then (ratlinelaw03_IkeyBack.j0 k l1 l2 true a0_0 a0_1 a0_2) else (ratlinelaw03_IkeyBack.j0 k l1 l2 (decide ((l2.length : Int) > 200)) a0_0 a0_1 a0_2))
theorem ratlinelaw03_IkeyBack.mono_l : ∀ k, (∀ y0 y1 y2 y3 y4 y5, LeO (ratlinelaw03_IkeyBack.j0 k y0 y1 y2 y3 y4 y5) (ratlinelaw03_IkeyBack.j0 (k + 1) y0 y1 y2 y3 y4 y5)) ∧ (∀ y0 y1, LeO (ratlinelaw03_IkeyBack.j1 k y0 y1) (ratlinelaw03_IkeyBack.j1 (k + 1) y0 y1)) ∧ (∀ y0 y1 y2 y3, LeO (ratlinelaw03_IkeyBack.l0 k y0 y1 y2 y3) (ratlinelaw03_IkeyBack.l0 (k + 1) y0 y1 y2 y3))
  | 0 => ⟨fun _ _ _ _ _ _ r h => by simp [ratlinelaw03_IkeyBack.j0] at h, fun _ _ r h => by simp [ratlinelaw03_IkeyBack.j1] at h, fun _ _ _ _ r h => by simp [ratlinelaw03_IkeyBack.l0] at h⟩
  | k + 1 => by
    obtain ⟨ih0, ih1, ih2⟩ := ratlinelaw03_IkeyBack.mono_l k
    refine ⟨?_, ?_, ?_⟩
    · intro y0 y1 y2 y3 y4 y5
      unfold ratlinelaw03_IkeyBack.j0
      repeat' first
      | (with_reducible exact ih0 _ _ _ _ _ _)
      | (with_reducible exact ih1 _ _)
      | (with_reducible exact ih2 _ _ _ _)
      | (with_reducible exact ratlinelaw03_awake.mono _)
      | (with_reducible exact LeO.refl _)
      | (with_reducible exact LeO.none _)
      | (with_reducible refine LeO.ite ?_ ?_)
      | (with_reducible refine LeO.bind ?_ (fun _ => ?_))
      | exact ih0 _ _ _ _ _ _
      | exact ih1 _ _
      | exact ih2 _ _ _ _
      | exact ratlinelaw03_awake.mono _
      | exact LeO.none _
      | refine LeO.ite ?_ ?_
      | refine LeO.bind ?_ (fun _ => ?_)
    · intro y0 y1
      unfold ratlinelaw03_IkeyBack.j1
      repeat' first
      | (with_reducible exact ih0 _ _ _ _ _ _)
      | (with_reducible exact ih1 _ _)
      | (with_reducible exact ih2 _ _ _ _)
      | (with_reducible exact ratlinelaw03_awake.mono _)
      | (with_reducible exact LeO.refl _)
      | (with_reducible exact LeO.none _)
      | (with_reducible refine LeO.ite ?_ ?_)
      | (with_reducible refine LeO.bind ?_ (fun _ => ?_))
      | exact ih0 _ _ _ _ _ _
      | exact ih1 _ _
      | exact ih2 _ _ _ _
      | exact ratlinelaw03_awake.mono _
      | exact LeO.none _
      | refine LeO.ite ?_ ?_
      | refine LeO.bind ?_ (fun _ => ?_)
    · intro y0 y1 y2 y3
      unfold ratlinelaw03_IkeyBack.l0
      repeat' first
      | (with_reducible exact ih0 _ _ _ _ _ _)
      | (with_reducible exact ih1 _ _)
      | (with_reducible exact ih2 _ _ _ _)
      | (with_reducible exact ratlinelaw03_awake.mono _)
      | (with_reducible exact LeO.refl _)
      | (with_reducible exact LeO.none _)
      | (with_reducible refine LeO.ite ?_ ?_)
      | (with_reducible refine LeO.bind ?_ (fun _ => ?_))
      | exact ih0 _ _ _ _ _ _
      | exact ih1 _ _
      | exact ih2 _ _ _ _
      | exact ratlinelaw03_awake.mono _
      | exact LeO.none _
      | refine LeO.ite ?_ ?_
      | refine LeO.bind ?_ (fun _ => ?_)
theorem ratlinelaw03_IkeyBack.mono : ∀ a0 a1 a2 a3 a4 k, LeO (ratlinelaw03_IkeyBack.f k a0 a1 a2 a3 a4) (ratlinelaw03_IkeyBack.f (k + 1) a0 a1 a2 a3 a4) := by
  intro a0 a1 a2 a3 a4 k
  obtain ⟨ih0, ih1, ih2⟩ := ratlinelaw03_IkeyBack.mono_l k
  unfold ratlinelaw03_IkeyBack.f
  repeat' first
      | (with_reducible exact ih0 _ _ _ _ _ _)
      | (with_reducible exact ih1 _ _)
      | (with_reducible exact ih2 _ _ _ _)
      | (with_reducible exact ratlinelaw03_awake.mono _)
      | (with_reducible exact LeO.refl _)
      | (with_reducible exact LeO.none _)
      | (with_reducible refine LeO.ite ?_ ?_)
      | (with_reducible refine LeO.bind ?_ (fun _ => ?_))
      | exact ih0 _ _ _ _ _ _
      | exact ih1 _ _
      | exact ih2 _ _ _ _
      | exact ratlinelaw03_awake.mono _
      | exact LeO.none _
      | refine LeO.ite ?_ ?_
      | refine LeO.bind ?_ (fun _ => ?_)
set_option maxHeartbeats 8000000 in
set_option maxRecDepth 100000 in
theorem ratlinelaw03_IkeyBack.calls (k : Nat) (a0_0 : ByteArray) (a0_1 : Int) (a0_2 : Int) (A1 : Option Addr) (c1 : Nat) (l1 : List Int) (A2 : Option Addr) (c2 : Nat) (l2 : List Int) (r : Bool) (w : World) (hr1 : Kd.C (Kd.int .u8) w A1 l1.length l1) (hc1 : l1.length ≤ c1) (hr2 : Kd.C (Kd.int .u8) w A2 l2.length l2) (hc2 : l2.length ≤ c2) (h : ratlinelaw03_IkeyBack.f k a0_0 a0_1 a0_2 l1 l2 = some r) :
    Calls Try.prog 10 #[.agg #[.string a0_0, .int .u64 a0_1, .int .u8 a0_2], .slice A1 l1.length c1, .slice A2 l2.length c2] w fun e w' => e = .returned (.bool r) ∧ Below w.heap.size w w' := by
  have hu39 := Try.underlying39
  have HR1 := Aside0.mk hr1
  have HC1 := Aside0.mk hc1
  clear hr1 hc1
  have HR2 := Aside0.mk hr2
  have HC2 := Aside0.mk hc2
  clear hr2 hc2
  have HB := Aside0.mk (Below.refl w.heap.size w)
  have H : (if (a0_0.size : Int) > 70 then (ratlinelaw03_IkeyBack.j0 k l1 l2 true a0_0 a0_1 a0_2) else (if (l1.length : Int) > 100 then (ratlinelaw03_IkeyBack.j0 k l1 l2 true a0_0 a0_1 a0_2) else (ratlinelaw03_IkeyBack.j0 k l1 l2 (decide ((l2.length : Int) > 200)) a0_0 a0_1 a0_2))) = some r := h
  clear h
  have HC4 := Aside0.mk H
  clear H
  go_enter Try.func10, Try.ntmps10
  go_upto_region 1 with (first | ((with_reducible refine gate_dst (N := 3) rfl ?_); (try (refine gate_guard (by rfl) ?_; dsimp only)); refine box_event ?hg (N := 3) ?hd (cs := #[.string a0_0, .int .u64 a0_1, .int .u8 a0_2]) (t := 39) ?hr ?_; (case hd => rfl); (case hg => rfl); (case hr => first | (go_simp; done) | (go_simp; rfl)); intro gb321 hg w5 hbox hb; have n0_ := Aside0.mk (below_step (by repeat (first | (with_reducible first | exact HB.out | apply below_alloc | apply pw_below_drewN | apply below_drew1) | exact HB.out)) hb); have n1_ := Aside0.mk (hbox); have n2_ := Aside0.mk ((by rw [hg]; exact (below_size (by repeat (first | (with_reducible first | exact HB.out | apply below_alloc | apply pw_below_drewN | apply below_drew1) | exact HB.out))) : w.heap.size ≤ gb321)); have n3_ := Aside0.mk ((by rw [hg]; exact (below_size (by repeat (first | (with_reducible first | exact HB.out | apply below_alloc | apply pw_below_drewN | apply below_drew1) | exact HB.out))) : w.heap.size ≤ gb321)); clear HB; have HB := n0_; have BK321 := n1_; have GW321 := n2_; have GE321 := n3_; clear n0_ n1_ n2_ n3_; clear hb hbox hg))
  (try simp only [Act.put, List.setIfInBounds_toArray, List.set_cons_zero, List.set_cons_succ])
  go_cut [32] (fun v32 wc => ∃ (kq : Nat) (x32_3 : Bool), v32 = .bool x32_3 ∧ Aside0 (ratlinelaw03_IkeyBack.j0 kq l1 l2 x32_3 a0_0 a0_1 a0_2 = some r) ∧ Aside0 (kq ≤ k) ∧ Aside0 (wc.heap[gb321]? = some (.cells #[.string a0_0, .int .u64 a0_1, .int .u8 a0_2] 39 (0, 0))) ∧ Aside0 (Below w.heap.size w wc))
  case first =>
    have H := HC4.out
    clear HC4
    by_cases c6 : (a0_0.size : Int) > 70
    · rw [if_pos c6] at H
      have c6b0 : decide (70 < (a0_0.size : Int)) = true := decide_eq_true c6
      have c6b1 : decide (70 < a0_0.size) = true := decide_eq_true (by omega)
      clear c6
      (first | rw [c6b0] | (simp only [i64_w, i32_w]; rw [c6b0]) | skip)
      have H' := Aside0.mk H
      clear H
      have hcz7_0 : w5.cell? ⟨gb321, 0, none⟩ = some (.string a0_0) := (blk_cell BK321.out 0).trans rfl
      have hcz7_1 : w5.cell? ⟨gb321, 1, none⟩ = some (.int .u64 a0_1) := (blk_cell BK321.out 1).trans rfl
      have hcz7_2 : w5.cell? ⟨gb321, 2, none⟩ = some (.int .u8 a0_2) := (blk_cell BK321.out 2).trans rfl
      have hfz7_0 := blk_frozen BK321.out 0
      have hfz7_1 := blk_frozen BK321.out 1
      have hfz7_2 := blk_frozen BK321.out 2
      go_wp2
      go_meet
      case rel => exact ⟨_, (true), (by first | rfl | (simp; done) | (simp [*]; done)), H', ⟨by first | omega | exact Nat.le_refl _⟩, ⟨by (with_reducible repeat (first | refine blk_drewN ?_ _ | refine blk_drew ?_ | refine blk_alloc ?_ _)); exact BK321.out⟩, ⟨by repeat (first | (with_reducible first | exact HB.out | apply below_alloc | apply pw_below_drewN | apply below_drew1 | refine below_set ?_ GE321.out) | exact HB.out)⟩⟩
    · rw [if_neg c6] at H
      have c6b0 : decide (70 < (a0_0.size : Int)) = false := decide_eq_false c6
      have c6b1 : decide (70 < a0_0.size) = false := decide_eq_false (by omega)
      clear c6
      (first | rw [c6b0] | (simp only [i64_w, i32_w]; rw [c6b0]) | skip)
      by_cases c8 : (l1.length : Int) > 100
      · rw [if_pos c8] at H
        have c8b0 : decide (100 < (l1.length : Int)) = true := decide_eq_true c8
        have c8b1 : decide (100 < l1.length) = true := decide_eq_true (by omega)
        clear c8
        have H' := Aside0.mk H
        clear H
        have hcz9_0 : w5.cell? ⟨gb321, 0, none⟩ = some (.string a0_0) := (blk_cell BK321.out 0).trans rfl
        have hcz9_1 : w5.cell? ⟨gb321, 1, none⟩ = some (.int .u64 a0_1) := (blk_cell BK321.out 1).trans rfl
        have hcz9_2 : w5.cell? ⟨gb321, 2, none⟩ = some (.int .u8 a0_2) := (blk_cell BK321.out 2).trans rfl
        have hfz9_0 := blk_frozen BK321.out 0
        have hfz9_1 := blk_frozen BK321.out 1
        have hfz9_2 := blk_frozen BK321.out 2
        go_wp2
        go_meet
        case rel => exact ⟨_, (true), (by first | rfl | (simp; done) | (simp [*]; done)), H', ⟨by first | omega | exact Nat.le_refl _⟩, ⟨by (with_reducible repeat (first | refine blk_drewN ?_ _ | refine blk_drew ?_ | refine blk_alloc ?_ _)); exact BK321.out⟩, ⟨by repeat (first | (with_reducible first | exact HB.out | apply below_alloc | apply pw_below_drewN | apply below_drew1 | refine below_set ?_ GE321.out) | exact HB.out)⟩⟩
      · rw [if_neg c8] at H
        have c8b0 : decide (100 < (l1.length : Int)) = false := decide_eq_false c8
        have c8b1 : decide (100 < l1.length) = false := decide_eq_false (by omega)
        clear c8
        have H' := Aside0.mk H
        clear H
        have hcz10_0 : w5.cell? ⟨gb321, 0, none⟩ = some (.string a0_0) := (blk_cell BK321.out 0).trans rfl
        have hcz10_1 : w5.cell? ⟨gb321, 1, none⟩ = some (.int .u64 a0_1) := (blk_cell BK321.out 1).trans rfl
        have hcz10_2 : w5.cell? ⟨gb321, 2, none⟩ = some (.int .u8 a0_2) := (blk_cell BK321.out 2).trans rfl
        have hfz10_0 := blk_frozen BK321.out 0
        have hfz10_1 := blk_frozen BK321.out 1
        have hfz10_2 := blk_frozen BK321.out 2
        go_wp2
        go_meet
        case rel => exact ⟨_, (decide ((l2.length : Int) > 200)), (by first | rfl | (simp; done) | (simp [*]; done)), H', ⟨by first | omega | exact Nat.le_refl _⟩, ⟨by (with_reducible repeat (first | refine blk_drewN ?_ _ | refine blk_drew ?_ | refine blk_alloc ?_ _)); exact BK321.out⟩, ⟨by repeat (first | (with_reducible first | exact HB.out | apply below_alloc | apply pw_below_drewN | apply below_drew1 | refine below_set ?_ GE321.out) | exact HB.out)⟩⟩
  case rest =>
    clear HC4
    try clear c1
    try clear c2
    try clear p2
    try clear c6
    try clear c6b0
    try clear c6b1
    try clear c8
    try clear c8b0
    try clear c8b1
    try clear c10
    try clear hcz10_0
    try clear hcz10_1
    try clear hcz10_2
    try clear hcz7_0
    try clear hcz7_1
    try clear hcz7_2
    try clear hcz9_0
    try clear hcz9_1
    try clear hcz9_2
    try clear hfz10_0
    try clear hfz10_1
    try clear hfz10_2
    try clear hfz7_0
    try clear hfz7_1
    try clear hfz7_2
    try clear hfz9_0
    try clear hfz9_1
    try clear hfz9_2
    obtain ⟨kq, x32_3, rfl, HA, HJ3, BK321, HB⟩ := hcut
    cases kq with
    | zero => exact absurd HA.out (by simp [ratlinelaw03_IkeyBack.j0])
    | succ kj3 =>
      have H := HA.out
      clear HA
      simp only [ratlinelaw03_IkeyBack.j0] at H
      by_cases c11 : x32_3 = true
      · subst c11
        have H1 : ((ratlinelaw03_awake.f kj3).bind fun t322 => (some t322)) = some r := by rw [if_pos rfl] at H; exact H
        clear H
        have H := H1
        clear H1
        replace H := Option.bind_eq_some_iff.mp H
        obtain ⟨t322, A120, H⟩ := H
        replace H : (some t322) = some r := H
        have A12 := Aside0.mk A120
        clear A120
        obtain rfl := Option.some.inj H
        go_wp2_with (first | (go_at_call 26; (with_reducible refine (ratlinelaw03_awake.calls kj3  t322 _ A12.out).mono ?_); rintro e w13 ⟨rfl, hb⟩; have n0_ := Aside0.mk (blk_below (g := gb321) (o := .cells #[.string a0_0, .int .u64 a0_1, .int .u8 a0_2] 39 (0, 0)) (by (with_reducible repeat (first | refine blk_drewN ?_ _ | refine blk_drew ?_ | refine blk_alloc ?_ _)); exact BK321.out) hb); have n1_ := Aside0.mk (below_step (by repeat (first | (with_reducible first | exact HB.out | apply below_alloc | apply pw_below_drewN | apply below_drew1 | refine below_set ?_ GE321.out) | exact HB.out)) hb); clear BK321; clear HB; have BK321 := n0_; have HB := n1_; clear n0_ n1_; (try clear hb); (try clear hb2); (try clear hk); (try clear hi); (try apply_assumption)))
        go_ret
        exact ⟨by first | rfl | (simp [errW_none, errW_some] <;> rfl) | (simp [*, errW_none, errW_some] <;> rfl), by repeat (first | (with_reducible first | exact HB.out | apply below_alloc | apply pw_below_drewN | apply below_drew1 | refine below_set ?_ GE321.out) | exact HB.out)⟩
      · replace c11 := Bool.eq_false_iff.mpr c11
        subst c11
        have H1 : ((ikey_Put.f ([] : List Int) a0_0 a0_1 a0_2).bind fun t323 => ((ikey_Right.f a0_0 a0_1 a0_2).bind fun t326 => (if t326 = true then ((some (([] : List Int) : List Int)).bind fun y327 => (if y327.length + t323.length < 140737488355328 then ((some (y327 ++ t323 : List Int)).bind fun y330 => (if y330.length + l1.length < 140737488355328 then ((ikey_Take.f (y330 ++ l1)).bind fun bt336 => (if bt336.2.2.2.2 = true then (if (!(bt336.1.toList == a0_0.toList) || (!(bt336.2.1 == a0_1) || (!(bt336.2.2.1 == a0_2)))) = true then (none) else ((ratlinelaw02_Same.f bt336.2.2.2.1 l1).bind fun t344 => (if t344 = true then (ratlinelaw03_IkeyBack.j1 kj3 l2 t323) else (none)))) else (none))) else (none))) else (none))) else (if (t323.length : Int) = 0 then ((ikey_Put.f l1 a0_0 a0_1 a0_2).bind fun t345 => ((ratlinelaw02_Same.f t345 l1).bind fun t348 => (if t348 = true then (ratlinelaw03_IkeyBack.j1 kj3 l2 t323) else (none)))) else (none))))) = some r := by rw [if_neg (show ¬ (false = true) by decide)] at H; exact H
        clear H
        have H := H1
        clear H1
        replace H := Option.bind_eq_some_iff.mp H
        obtain ⟨t323, A140, H⟩ := H
        replace H : ((ikey_Right.f a0_0 a0_1 a0_2).bind fun t326 => (if t326 = true then ((some (([] : List Int) : List Int)).bind fun y327 => (if y327.length + t323.length < 140737488355328 then ((some (y327 ++ t323 : List Int)).bind fun y330 => (if y330.length + l1.length < 140737488355328 then ((ikey_Take.f (y330 ++ l1)).bind fun bt336 => (if bt336.2.2.2.2 = true then (if (!(bt336.1.toList == a0_0.toList) || (!(bt336.2.1 == a0_1) || (!(bt336.2.2.1 == a0_2)))) = true then (none) else ((ratlinelaw02_Same.f bt336.2.2.2.1 l1).bind fun t344 => (if t344 = true then (ratlinelaw03_IkeyBack.j1 kj3 l2 t323) else (none)))) else (none))) else (none))) else (none))) else (if (t323.length : Int) = 0 then ((ikey_Put.f l1 a0_0 a0_1 a0_2).bind fun t345 => ((ratlinelaw02_Same.f t345 l1).bind fun t348 => (if t348 = true then (ratlinelaw03_IkeyBack.j1 kj3 l2 t323) else (none)))) else (none)))) = some r := H
        have A14 := Aside0.mk A140
        clear A140
        replace H := Option.bind_eq_some_iff.mp H
        obtain ⟨t326, A150, H⟩ := H
        replace H : (if t326 = true then ((some (([] : List Int) : List Int)).bind fun y327 => (if y327.length + t323.length < 140737488355328 then ((some (y327 ++ t323 : List Int)).bind fun y330 => (if y330.length + l1.length < 140737488355328 then ((ikey_Take.f (y330 ++ l1)).bind fun bt336 => (if bt336.2.2.2.2 = true then (if (!(bt336.1.toList == a0_0.toList) || (!(bt336.2.1 == a0_1) || (!(bt336.2.2.1 == a0_2)))) = true then (none) else ((ratlinelaw02_Same.f bt336.2.2.2.1 l1).bind fun t344 => (if t344 = true then (ratlinelaw03_IkeyBack.j1 kj3 l2 t323) else (none)))) else (none))) else (none))) else (none))) else (if (t323.length : Int) = 0 then ((ikey_Put.f l1 a0_0 a0_1 a0_2).bind fun t345 => ((ratlinelaw02_Same.f t345 l1).bind fun t348 => (if t348 = true then (ratlinelaw03_IkeyBack.j1 kj3 l2 t323) else (none)))) else (none))) = some r := H
        have A15 := Aside0.mk A150
        clear A150
        have HC16 := Aside0.mk H
        clear H
        have hcz17_0 : wc.cell? ⟨gb321, 0, none⟩ = some (.string a0_0) := (blk_cell BK321.out 0).trans rfl
        have hcz17_1 : wc.cell? ⟨gb321, 1, none⟩ = some (.int .u64 a0_1) := (blk_cell BK321.out 1).trans rfl
        have hcz17_2 : wc.cell? ⟨gb321, 2, none⟩ = some (.int .u8 a0_2) := (blk_cell BK321.out 2).trans rfl
        have hfz17_0 := blk_frozen BK321.out 0
        have hfz17_1 := blk_frozen BK321.out 1
        have hfz17_2 := blk_frozen BK321.out 2
        go_upto_if 38 with (first | ((with_reducible refine gate_callee (f := 31) rfl ?_); refine goesL_ (some 35) rfl rfl Try.func31 (by kernel_rfl) rfl #[.slice none 0 0, .agg #[.string a0_0, .int .u64 a0_1, .int .u8 a0_2]] rfl (by (try simp only [List.map_toArray, List.map_cons, List.map_nil]); first | done | rfl | (simp only [List.length_drop, List.length_take]; rfl)) ?_; (refine calls_of_args (args' := #[.slice none (([] : List Int)).length 0, .agg #[.string a0_0, .int .u64 a0_1, .int .u8 a0_2]]) (by rfl) ?_; with_reducible refine (ikey_Put.calls _ _ ([] : List Int) a0_0 a0_1 a0_2 t323 _ ?side1 ?side2 A14.out).mono ?_); (case side1 => exact Kd.C_nil _ _); (case side2 => exact Nat.le_refl _); rintro e w18 ⟨v324, rfl, ho0, hb⟩; refine ⟨_, rfl, ?_⟩; have n0_ := Aside0.mk (Kd.R_lower ho0 (below_size (by repeat (first | (with_reducible first | exact HB.out | apply below_alloc | apply pw_below_drewN | apply below_drew1 | refine below_set ?_ GE321.out) | exact HB.out)))); have n1_ := Aside0.mk (blk_below (g := gb321) (o := .cells #[.string a0_0, .int .u64 a0_1, .int .u8 a0_2] 39 (0, 0)) (by (with_reducible repeat (first | refine blk_drewN ?_ _ | refine blk_drew ?_ | refine blk_alloc ?_ _)); exact BK321.out) hb); have n2_ := Aside0.mk (below_step (by repeat (first | (with_reducible first | exact HB.out | apply below_alloc | apply pw_below_drewN | apply below_drew1 | refine below_set ?_ GE321.out) | exact HB.out)) hb); clear BK321; clear HB; have HO325 := n0_; have BK321 := n1_; have HB := n2_; clear n0_ n1_ n2_; (try clear hb); (try clear hb2); (try clear hk); (try clear hi); (try clear ho0); have hcz19_0 : w18.cell? ⟨gb321, 0, none⟩ = some (.string a0_0) := (blk_cell BK321.out 0).trans rfl; have hcz19_1 : w18.cell? ⟨gb321, 1, none⟩ = some (.int .u64 a0_1) := (blk_cell BK321.out 1).trans rfl; have hcz19_2 : w18.cell? ⟨gb321, 2, none⟩ = some (.int .u8 a0_2) := (blk_cell BK321.out 2).trans rfl; have hfz19_0 := blk_frozen BK321.out 0; have hfz19_1 := blk_frozen BK321.out 1; have hfz19_2 := blk_frozen BK321.out 2) | ((with_reducible refine gate_callee (f := 29) rfl ?_); refine goesL_ (some 37) rfl rfl Try.func29 (by kernel_rfl) rfl #[.agg #[.string a0_0, .int .u64 a0_1, .int .u8 a0_2]] rfl (by (try simp only [List.map_toArray, List.map_cons, List.map_nil]); first | done | rfl | (simp only [List.length_drop, List.length_take]; rfl)) ?_; (with_reducible refine (ikey_Right.calls a0_0 a0_1 a0_2 t326 _ A15.out).mono ?_); rintro e w20 ⟨rfl, hb⟩; refine ⟨_, rfl, ?_⟩; have n0_ := Aside0.mk (Kd.R_below (by (with_reducible repeat (first | apply Kd.R_alloc | apply Kd.R_drewN | apply Kd.R_drew)); exact HO325.out) hb); have n1_ := Aside0.mk (blk_below (g := gb321) (o := .cells #[.string a0_0, .int .u64 a0_1, .int .u8 a0_2] 39 (0, 0)) (by (with_reducible repeat (first | refine blk_drewN ?_ _ | refine blk_drew ?_ | refine blk_alloc ?_ _)); exact BK321.out) hb); have n2_ := Aside0.mk (below_step (by repeat (first | (with_reducible first | exact HB.out | apply below_alloc | apply pw_below_drewN | apply below_drew1 | refine below_set ?_ GE321.out) | exact HB.out)) hb); clear HO325; clear BK321; clear HB; have HO325 := n0_; have BK321 := n1_; have HB := n2_; clear n0_ n1_ n2_; (try clear hb); (try clear hb2); (try clear hk); (try clear hi)))
        (try simp only [Act.put, List.setIfInBounds_toArray, List.set_cons_zero, List.set_cons_succ])
        go_cut [] (fun wc => ∃ (kq : Nat), Aside0 (ratlinelaw03_IkeyBack.j1 kq l2 t323 = some r) ∧ Aside0 (kq ≤ kj3) ∧ Aside0 (Kd.R (Kd.int .u8) 5 wc w.heap.size (fun _ => True) v324 t323) ∧ Aside0 (wc.heap[gb321]? = some (.cells #[.string a0_0, .int .u64 a0_1, .int .u8 a0_2] 39 (0, 0))) ∧ Aside0 (Below w.heap.size w wc))
        case first =>
          have H := HC16.out
          clear HC16
          by_cases c21 : t326 = true
          · subst c21
            have H1 : ((some (([] : List Int) : List Int)).bind fun y327 => (if y327.length + t323.length < 140737488355328 then ((some (y327 ++ t323 : List Int)).bind fun y330 => (if y330.length + l1.length < 140737488355328 then ((ikey_Take.f (y330 ++ l1)).bind fun bt336 => (if bt336.2.2.2.2 = true then (if (!(bt336.1.toList == a0_0.toList) || (!(bt336.2.1 == a0_1) || (!(bt336.2.2.1 == a0_2)))) = true then (none) else ((ratlinelaw02_Same.f bt336.2.2.2.1 l1).bind fun t344 => (if t344 = true then (ratlinelaw03_IkeyBack.j1 kj3 l2 t323) else (none)))) else (none))) else (none))) else (none))) = some r := by rw [if_pos rfl] at H; exact H
            clear H
            have H := H1
            clear H1
            obtain ⟨y327, hy327⟩ : ∃ y_ : List Int, y_ = (([] : List Int)) := ⟨_, rfl⟩
            replace H : (if y327.length + t323.length < 140737488355328 then ((some (y327 ++ t323 : List Int)).bind fun y330 => (if y330.length + l1.length < 140737488355328 then ((ikey_Take.f (y330 ++ l1)).bind fun bt336 => (if bt336.2.2.2.2 = true then (if (!(bt336.1.toList == a0_0.toList) || (!(bt336.2.1 == a0_1) || (!(bt336.2.2.1 == a0_2)))) = true then (none) else ((ratlinelaw02_Same.f bt336.2.2.2.1 l1).bind fun t344 => (if t344 = true then (ratlinelaw03_IkeyBack.j1 kj3 l2 t323) else (none)))) else (none))) else (none))) else (none)) = some r := by first | (rw [hy327]; with_reducible exact H) | (have H2_ := (Option.bind_some _ _).symm.trans H; rw [hy327]; with_reducible exact H2_) | (have H2_ := (Option.bind_some _ _).symm.trans H; with_reducible exact H2_) | with_reducible exact H | (rw [hy327]; exact H) | exact H
            have Ny327 := Aside0.mk hy327
            clear hy327
            by_cases c22 : y327.length + t323.length < 140737488355328
            · rw [if_pos c22] at H
              have LMc22 := Aside0.mk c22
              clear c22
              obtain ⟨y330, hy330⟩ : ∃ y_ : List Int, y_ = (y327 ++ t323) := ⟨_, rfl⟩
              replace H : (if y330.length + l1.length < 140737488355328 then ((ikey_Take.f (y330 ++ l1)).bind fun bt336 => (if bt336.2.2.2.2 = true then (if (!(bt336.1.toList == a0_0.toList) || (!(bt336.2.1 == a0_1) || (!(bt336.2.2.1 == a0_2)))) = true then (none) else ((ratlinelaw02_Same.f bt336.2.2.2.1 l1).bind fun t344 => (if t344 = true then (ratlinelaw03_IkeyBack.j1 kj3 l2 t323) else (none)))) else (none))) else (none)) = some r := by first | (rw [hy330]; with_reducible exact H) | (have H2_ := (Option.bind_some _ _).symm.trans H; rw [hy330]; with_reducible exact H2_) | (have H2_ := (Option.bind_some _ _).symm.trans H; with_reducible exact H2_) | with_reducible exact H | (rw [hy330]; exact H) | exact H
              have Ny330 := Aside0.mk hy330
              clear hy330
              by_cases c23 : y330.length + l1.length < 140737488355328
              · rw [if_pos c23] at H
                have LMc23 := Aside0.mk c23
                clear c23
                obtain ⟨y333, hy333⟩ : ∃ y_ : List Int, y_ = (y330 ++ l1) := ⟨_, rfl⟩
                replace H : ((ikey_Take.f y333).bind fun bt336 => (if bt336.2.2.2.2 = true then (if (!(bt336.1.toList == a0_0.toList) || (!(bt336.2.1 == a0_1) || (!(bt336.2.2.1 == a0_2)))) = true then (none) else ((ratlinelaw02_Same.f bt336.2.2.2.1 l1).bind fun t344 => (if t344 = true then (ratlinelaw03_IkeyBack.j1 kj3 l2 t323) else (none)))) else (none))) = some r := by first | (rw [hy333]; with_reducible exact H) | (have H2_ := (Option.bind_some _ _).symm.trans H; rw [hy333]; with_reducible exact H2_) | (have H2_ := (Option.bind_some _ _).symm.trans H; with_reducible exact H2_) | with_reducible exact H | (rw [hy333]; exact H) | exact H
                have Ny333 := Aside0.mk hy333
                clear hy333
                replace H := Option.bind_eq_some_iff.mp H
                obtain ⟨⟨t336, t337, t338, t339, t342⟩, A240, H⟩ := H
                replace H : (if t342 = true then (if (!(t336.toList == a0_0.toList) || (!(t337 == a0_1) || (!(t338 == a0_2)))) = true then (none) else ((ratlinelaw02_Same.f t339 l1).bind fun t344 => (if t344 = true then (ratlinelaw03_IkeyBack.j1 kj3 l2 t323) else (none)))) else (none)) = some r := H
                have A24 := Aside0.mk A240
                clear A240
                by_cases c25 : t342 = true
                · subst c25
                  have H1 : (if (!(t336.toList == a0_0.toList) || (!(t337 == a0_1) || (!(t338 == a0_2)))) = true then (none) else ((ratlinelaw02_Same.f t339 l1).bind fun t344 => (if t344 = true then (ratlinelaw03_IkeyBack.j1 kj3 l2 t323) else (none)))) = some r := by rw [if_pos rfl] at H; exact H
                  clear H
                  have H := H1
                  clear H1
                  by_cases c26 : (!(t336.toList == a0_0.toList) || (!(t337 == a0_1) || (!(t338 == a0_2)))) = true
                  · rw [if_pos c26] at H
                    exact absurd H (by simp)
                  · rw [if_neg c26] at H
                    have c26b0 : (!(t336.toList == a0_0.toList) || (!(t337 == a0_1) || (!(t338 == a0_2)))) = false := by simpa using c26
                    clear c26
                    (first | rw [c26b0] | (simp only [i64_w, i32_w]; rw [c26b0]) | skip)
                    replace H := Option.bind_eq_some_iff.mp H
                    obtain ⟨t344, A270, H⟩ := H
                    replace H : (if t344 = true then (ratlinelaw03_IkeyBack.j1 kj3 l2 t323) else (none)) = some r := H
                    have A27 := Aside0.mk A270
                    clear A270
                    by_cases c28 : t344 = true
                    · subst c28
                      have H1 : (ratlinelaw03_IkeyBack.j1 kj3 l2 t323) = some r := by rw [if_pos rfl] at H; exact H
                      clear H
                      have H := H1
                      clear H1
                      have H' := Aside0.mk H
                      clear H
                      go_wp2_with (first | ((with_reducible refine gate_dst (N := 52) rfl ?_); (try (refine gate_guard (by rfl) ?_; dsimp only)); refine Kd.R_lit (Kd.int .u8) _ 5 ?hg (N := 52) ?hd (xs := ([] : List Int)) (inner := []) (ok := fun _ => True) (okp := fun _ => True) ?hr ?hp (fun _ hk => hk) trivial (Below.refl _ _) (Nat.le_refl _) (by simp) ?_; (case hd => rfl); (case hg => rfl); (case hr => first | (go_simp; done) | (go_simp; rfl)); (case hp => exact (Reps.none _ _)); intro v328 w29 ho30 hb hg_ hnew_; clear hg_ hnew_; (first | rw [← Ny327.out] at ho30 | (simp only [Int.reduceToNat] at ho30; rw [← Ny327.out] at ho30)); have n0_ := Aside0.mk (Kd.R_elder' (by (with_reducible repeat (first | apply Kd.R_alloc | apply Kd.R_drewN | apply Kd.R_drew)); exact HO325.out) (Kd.R_base ho30) hb); have n1_ := Aside0.mk (Kd.R_lower (Kd.R_new' ho30 (Kd.R_lt (by (with_reducible repeat (first | apply Kd.R_alloc | apply Kd.R_drewN | apply Kd.R_drew)); exact HO325.out))) (below_size (by repeat (first | (with_reducible first | exact HB.out | apply below_alloc | apply pw_below_drewN | apply below_drew1 | refine below_set ?_ GE321.out) | exact HB.out)))); have n2_ := Aside0.mk (blk_below (g := gb321) (o := .cells #[.string a0_0, .int .u64 a0_1, .int .u8 a0_2] 39 (0, 0)) (by (with_reducible repeat (first | refine blk_drewN ?_ _ | refine blk_drew ?_ | refine blk_alloc ?_ _)); exact BK321.out) hb); have n3_ := Aside0.mk (below_step (by repeat (first | (with_reducible first | exact HB.out | apply below_alloc | apply pw_below_drewN | apply below_drew1 | refine below_set ?_ GE321.out) | exact HB.out)) hb); clear HO325; clear BK321; clear HB; have HO325 := n0_; have HO329 := n1_; have BK321 := n2_; have HB := n3_; clear n0_ n1_ n2_ n3_; clear hb ho30; obtain ⟨Ao32, co32, eo32⟩ := Kd.R_slice HO325.out; subst eo32) | ((with_reducible refine gate_builtin (b := .append) (xs := #[.tmp 52, .tmp 53]) rfl ?_); (try (refine gate_guard (by rfl) ?_; dsimp only)); at_builtin; refine Kd.R_append_rows (Kd.int .u8) (w0 := w) w.heap.size rfl (.tmp 52) (.tmp 53) 44 5 (.int .u8 0) 1 rfl Try.underlying44 info5 rfl (by decide) (by omega) v328 y327 t323 _ _ _ (fun k_ => some k_ ≠ (.slice Ao32 t323.length co32 : Value).ownBlock) (fun _ => False) rfl rfl ?aO ?aR (fun _ _ h => h) (fun _ h => h.elim) ?aF ?aB ?aS ?aL ?_; (case aR => repeat (first | exact (Kd.R_reads' HO325.out).2.2 | (with_reducible refine Kd.C_alloc ?_ _) | (with_reducible refine Kd.C_drewN ?_ _) | (with_reducible refine Kd.C_drew ?_))); (case aB => exact (by repeat (first | (with_reducible first | exact HB.out | apply below_alloc | apply pw_below_drewN | apply below_drew1 | refine below_set ?_ GE321.out) | exact HB.out))); (case aF => exact (fun k_ hk => Kd.fresh' (Kd.R_lt (by (with_reducible repeat (first | apply Kd.R_alloc | apply Kd.R_drewN | apply Kd.R_drew)); exact HO325.out)) k_ hk)); (case aO => exact (by (with_reducible repeat (first | apply Kd.R_alloc | apply Kd.R_drewN | apply Kd.R_drew)); exact Kd.R_mono HO329.out (fun _ hk => hk.2))); (case aS => exact (below_size (by repeat (first | (with_reducible first | exact HB.out | apply below_alloc | apply pw_below_drewN | apply below_drew1 | refine below_set ?_ GE321.out) | exact HB.out)))); (case aL => have := LMc22.out; omega); intro v331 w31 ho hb hg hat; rw [← Ny330.out] at ho; have n0_ := Aside0.mk (blk_grown (g := gb321) (o := .cells #[.string a0_0, .int .u64 a0_1, .int .u8 a0_2] 39 (0, 0)) (by (with_reducible repeat (first | refine blk_drewN ?_ _ | refine blk_drew ?_ | refine blk_alloc ?_ _)); exact BK321.out) hg (Kd.R_ne HO329.out BK321.out (by decide))); have n1_ := Aside0.mk (Kd.R_after (ok := (fun _ => True)) (by (with_reducible repeat (first | apply Kd.R_alloc | apply Kd.R_drewN | apply Kd.R_drew)); exact HO325.out) hg hat); have n2_ := Aside0.mk (hb); have n3_ := Aside0.mk (ho); clear BK321; clear HO325; clear HB; clear HO329; have BK321 := n0_; have HO325 := n1_; have HB := n2_; have HO332 := n3_; clear n0_ n1_ n2_ n3_; clear ho hb hg hat) | ((with_reducible refine gate_builtin (b := .append) (xs := #[.tmp 54, .tmp 55]) rfl ?_); (try (refine gate_guard (by rfl) ?_; dsimp only)); at_builtin; refine Kd.R_append_rows (Kd.int .u8) (w0 := w) w.heap.size rfl (.tmp 54) (.tmp 55) 44 5 (.int .u8 0) 1 rfl Try.underlying44 info5 rfl (by decide) (by omega) v331 y330 l1 _ _ _ (fun k_ => some k_ ≠ (.slice Ao32 t323.length co32 : Value).ownBlock) (fun _ => False) rfl rfl ?aO ?aR (fun _ _ h => h) (fun _ h => h.elim) ?aF ?aB ?aS ?aL ?_; (case aR => repeat (first | exact (Kd.C_below HR1.out HB.out) | (with_reducible refine Kd.C_alloc ?_ _) | (with_reducible refine Kd.C_drewN ?_ _) | (with_reducible refine Kd.C_drew ?_))); (case aB => exact (by repeat (first | (with_reducible first | exact HB.out | apply below_alloc | apply pw_below_drewN | apply below_drew1 | refine below_set ?_ GE321.out) | exact HB.out))); (case aF => exact (fun k_ hk => Kd.fresh' (Kd.R_lt (by (with_reducible repeat (first | apply Kd.R_alloc | apply Kd.R_drewN | apply Kd.R_drew)); exact HO325.out)) k_ hk)); (case aO => exact (by (with_reducible repeat (first | apply Kd.R_alloc | apply Kd.R_drewN | apply Kd.R_drew)); exact HO332.out)); (case aS => exact (below_size (by repeat (first | (with_reducible first | exact HB.out | apply below_alloc | apply pw_below_drewN | apply below_drew1 | refine below_set ?_ GE321.out) | exact HB.out)))); (case aL => have := LMc23.out; omega); intro v334 w33 ho hb hg hat; rw [← Ny333.out] at ho; have n0_ := Aside0.mk (blk_grown (g := gb321) (o := .cells #[.string a0_0, .int .u64 a0_1, .int .u8 a0_2] 39 (0, 0)) (by (with_reducible repeat (first | refine blk_drewN ?_ _ | refine blk_drew ?_ | refine blk_alloc ?_ _)); exact BK321.out) hg (Kd.R_ne HO332.out BK321.out (by decide))); have n1_ := Aside0.mk (Kd.R_after (ok := (fun _ => True)) (by (with_reducible repeat (first | apply Kd.R_alloc | apply Kd.R_drewN | apply Kd.R_drew)); exact HO325.out) hg hat); have n2_ := Aside0.mk (hb); have n3_ := Aside0.mk (ho); clear BK321; clear HO325; clear HB; clear HO332; have BK321 := n0_; have HO325 := n1_; have HB := n2_; have HO335 := n3_; clear n0_ n1_ n2_ n3_; clear ho hb hg hat; obtain ⟨Ao34, co34, eo34⟩ := Kd.R_slice HO335.out; subst eo34) | ((with_reducible refine gate_callee (f := 32) rfl ?_); refine goesL_ (some 57) rfl rfl Try.func32 (by kernel_rfl) rfl #[.slice Ao34 y333.length co34] rfl (by (try simp only [List.map_toArray, List.map_cons, List.map_nil]); first | done | rfl | (simp only [List.length_drop, List.length_take]; rfl)) ?_; (with_reducible refine (ikey_Take.calls _ _ y333 t336 t337 t338 t339 true _ ?side1 ?side2 A24.out).mono ?_); (case side1 => repeat (first | exact (Kd.R_reads' HO335.out).2.2 | (with_reducible refine Kd.C_alloc ?_ _) | (with_reducible refine Kd.C_drewN ?_ _) | (with_reducible refine Kd.C_drew ?_))); (case side2 => exact (Kd.R_reads' HO335.out).2.1); rintro e w35 ⟨v340, rfl, ho0, hb⟩; refine ⟨_, rfl, ?_⟩; have n0_ := Aside0.mk (Kd.R_elder' (by (with_reducible repeat (first | apply Kd.R_alloc | apply Kd.R_drewN | apply Kd.R_drew)); exact HO325.out) (Kd.R_base ho0) hb); have n1_ := Aside0.mk (Kd.R_elder' (by (with_reducible repeat (first | apply Kd.R_alloc | apply Kd.R_drewN | apply Kd.R_drew)); exact HO335.out) (Kd.R_base ho0) hb); have n2_ := Aside0.mk (Kd.R_lower (Kd.R_new' (Kd.R_new' ho0 (Kd.R_lt (by (with_reducible repeat (first | apply Kd.R_alloc | apply Kd.R_drewN | apply Kd.R_drew)); exact HO325.out))) (Kd.R_lt (by (with_reducible repeat (first | apply Kd.R_alloc | apply Kd.R_drewN | apply Kd.R_drew)); exact HO335.out))) (below_size (by repeat (first | (with_reducible first | exact HB.out | apply below_alloc | apply pw_below_drewN | apply below_drew1 | refine below_set ?_ GE321.out) | exact HB.out)))); have n3_ := Aside0.mk (blk_below (g := gb321) (o := .cells #[.string a0_0, .int .u64 a0_1, .int .u8 a0_2] 39 (0, 0)) (by (with_reducible repeat (first | refine blk_drewN ?_ _ | refine blk_drew ?_ | refine blk_alloc ?_ _)); exact BK321.out) hb); have n4_ := Aside0.mk (below_step (by repeat (first | (with_reducible first | exact HB.out | apply below_alloc | apply pw_below_drewN | apply below_drew1 | refine below_set ?_ GE321.out) | exact HB.out)) hb); clear HO325; clear HO335; clear BK321; clear HB; have HO325 := n0_; have HO335 := n1_; have HO341 := n2_; have BK321 := n3_; have HB := n4_; clear n0_ n1_ n2_ n3_ n4_; (try clear hb); (try clear hb2); (try clear hk); (try clear hi); (try clear ho0)) | ((with_reducible refine gate_dst (N := 9) rfl ?_); (try (refine gate_guard (by rfl) ?_; dsimp only)); refine box_event ?hg (N := 9) ?hd (cs := #[.string (⟨#[]⟩ : ByteArray), .int .u64 0, .int .u8 0]) (t := 39) ?hr ?_; (case hd => rfl); (case hg => rfl); (case hr => first | (go_simp; done) | (go_simp; rfl)); intro gb343 hg w36 hbox hb; have n0_ := Aside0.mk (Kd.R_below (by (with_reducible repeat (first | apply Kd.R_alloc | apply Kd.R_drewN | apply Kd.R_drew)); exact HO325.out) hb); have n1_ := Aside0.mk (Kd.R_below (by (with_reducible repeat (first | apply Kd.R_alloc | apply Kd.R_drewN | apply Kd.R_drew)); exact HO335.out) hb); have n2_ := Aside0.mk (Kd.R_below (by (with_reducible repeat (first | apply Kd.R_alloc | apply Kd.R_drewN | apply Kd.R_drew)); exact HO341.out) hb); have n3_ := Aside0.mk (blk_below (g := gb321) (o := .cells #[.string a0_0, .int .u64 a0_1, .int .u8 a0_2] 39 (0, 0)) (by (with_reducible repeat (first | refine blk_drewN ?_ _ | refine blk_drew ?_ | refine blk_alloc ?_ _)); exact BK321.out) hb); have n4_ := Aside0.mk (below_step (by repeat (first | (with_reducible first | exact HB.out | apply below_alloc | apply pw_below_drewN | apply below_drew1 | refine below_set ?_ GE321.out) | exact HB.out)) hb); have n5_ := Aside0.mk (hbox); have n6_ := Aside0.mk ((by rw [hg]; exact (below_size (by repeat (first | (with_reducible first | exact HB.out | apply below_alloc | apply pw_below_drewN | apply below_drew1 | refine below_set ?_ GE321.out) | exact HB.out))) : w.heap.size ≤ gb343)); have n7_ := Aside0.mk ((by rw [hg]; exact (below_size (by repeat (first | (with_reducible first | exact HB.out | apply below_alloc | apply pw_below_drewN | apply below_drew1 | refine below_set ?_ GE321.out) | exact HB.out))) : w.heap.size ≤ gb343)); have n8_ := Aside0.mk ((by rw [hg]; exact Nat.ne_of_lt (blk_lt (g := gb321) (o := .cells #[.string a0_0, .int .u64 a0_1, .int .u8 a0_2] 39 (0, 0)) (by (with_reducible repeat (first | refine blk_drewN ?_ _ | refine blk_drew ?_ | refine blk_alloc ?_ _)); exact BK321.out)) : gb321 ≠ gb343)); have n9_ := Aside0.mk ((by rw [hg]; exact Nat.ne_of_gt (blk_lt (g := gb321) (o := .cells #[.string a0_0, .int .u64 a0_1, .int .u8 a0_2] 39 (0, 0)) (by (with_reducible repeat (first | refine blk_drewN ?_ _ | refine blk_drew ?_ | refine blk_alloc ?_ _)); exact BK321.out)) : gb343 ≠ gb321)); clear HO325; clear HO335; clear HO341; clear BK321; clear HB; have HO325 := n0_; have HO335 := n1_; have HO341 := n2_; have BK321 := n3_; have HB := n4_; have BK343 := n5_; have GW343 := n6_; have GE343 := n7_; have NB321_343 := n8_; have NB343_321 := n9_; clear n0_ n1_ n2_ n3_ n4_ n5_ n6_ n7_ n8_ n9_; clear hb hbox hg; have hnb37 := NB343_321.out; have hnc37 := NB321_343.out; have hcz38_0 : w36.cell? ⟨gb343, 0, none⟩ = some (.string (⟨#[]⟩ : ByteArray)) := (blk_cell BK343.out 0).trans rfl; have hcz38_1 : w36.cell? ⟨gb343, 1, none⟩ = some (.int .u64 0) := (blk_cell BK343.out 1).trans rfl; have hcz38_2 : w36.cell? ⟨gb343, 2, none⟩ = some (.int .u8 0) := (blk_cell BK343.out 2).trans rfl; have hfz38_0 := blk_frozen BK343.out 0; have hfz38_1 := blk_frozen BK343.out 1; have hfz38_2 := blk_frozen BK343.out 2; have hcz39_0 : w36.cell? ⟨gb321, 0, none⟩ = some (.string a0_0) := (blk_cell BK321.out 0).trans rfl; have hcz39_1 : w36.cell? ⟨gb321, 1, none⟩ = some (.int .u64 a0_1) := (blk_cell BK321.out 1).trans rfl; have hcz39_2 : w36.cell? ⟨gb321, 2, none⟩ = some (.int .u8 a0_2) := (blk_cell BK321.out 2).trans rfl; have hfz39_0 := blk_frozen BK321.out 0; have hfz39_1 := blk_frozen BK321.out 1; have hfz39_2 := blk_frozen BK321.out 2; obtain ⟨Ao40, co40, eo40⟩ := Kd.R_slice HO341.out; subst eo40) | (go_at_call 30; (with_reducible refine (ratlinelaw02_Same.calls _ _ t339 _ _ l1 true _ ?side1 ?side2 ?side3 ?side4 A27.out).mono ?_); (case side1 => refine (Kd.R_reads' (e := 5) (base := w.heap.size) (ok := fun k_ => ((True ∧ some k_ ≠ (.slice Ao32 t323.length co32 : Value).ownBlock) ∧ some k_ ≠ (.slice Ao34 y333.length co34 : Value).ownBlock)) (n := t339.length) (c := co40) ?_).2.2; exact (by (with_reducible repeat (first | apply Kd.R_alloc | apply Kd.R_drewN | apply Kd.R_drew)); exact (Kd.R_mono (Kd.R_far (p := ⟨gb343, 2, none⟩) (Kd.R_far (p := ⟨gb343, 1, none⟩) (Kd.R_far (p := ⟨gb343, 0, none⟩) (Kd.R_types HO341.out BK343.out (by decide)) (fun _ hk => hk.2) (.string t336)) (fun _ hk => hk.2) (.int .u64 t337)) (fun _ hk => hk.2) (.int .u8 t338)) (fun _ h_ => h_.1)))); (case side2 => exact (Kd.R_reads' HO341.out).2.1); (case side3 => exact Kd.C_below HR1.out (by repeat (first | (with_reducible first | exact HB.out | apply below_alloc | apply pw_below_drewN | apply below_drew1 | refine below_set ?_ GE321.out | refine below_set ?_ GE343.out) | exact HB.out))); (case side4 => exact HC1.out); rintro e w' ⟨rfl, ⟨nd, rfl⟩⟩))
                      go_meet
                      case rel => exact ⟨_, H', ⟨by have := HJ3.out; first | omega | exact Nat.le_refl _⟩, ⟨by (with_reducible repeat (first | apply Kd.R_alloc | apply Kd.R_drewN | apply Kd.R_drew)); exact Kd.R_mono (Kd.R_far (p := ⟨gb343, 2, none⟩) (Kd.R_far (p := ⟨gb343, 1, none⟩) (Kd.R_far (p := ⟨gb343, 0, none⟩) (Kd.R_types HO325.out BK343.out (by decide)) (fun _ hk => hk.2) (.string t336)) (fun _ hk => hk.2) (.int .u64 t337)) (fun _ hk => hk.2) (.int .u8 t338)) (fun _ hk => trivial)⟩, ⟨by (with_reducible repeat (first | refine blk_drewN ?_ _ | refine blk_drew ?_ | refine blk_alloc ?_ _)); refine blk_far ?_ NB321_343.out _; (with_reducible repeat (first | refine blk_drewN ?_ _ | refine blk_drew ?_ | refine blk_alloc ?_ _)); refine blk_far ?_ NB321_343.out _; (with_reducible repeat (first | refine blk_drewN ?_ _ | refine blk_drew ?_ | refine blk_alloc ?_ _)); refine blk_far ?_ NB321_343.out _; (with_reducible repeat (first | refine blk_drewN ?_ _ | refine blk_drew ?_ | refine blk_alloc ?_ _)); exact BK321.out⟩, ⟨by repeat (first | (with_reducible first | exact HB.out | apply below_alloc | apply pw_below_drewN | apply below_drew1 | refine below_set ?_ GE321.out | refine below_set ?_ GE343.out) | exact HB.out)⟩⟩
                    · replace c28 := Bool.eq_false_iff.mpr c28
                      subst c28
                      have H1 : (none) = some r := by rw [if_neg (show ¬ (false = true) by decide)] at H; exact H
                      clear H
                      have H := H1
                      clear H1
                      exact absurd H (by simp)
                · replace c25 := Bool.eq_false_iff.mpr c25
                  subst c25
                  have H1 : (none) = some r := by rw [if_neg (show ¬ (false = true) by decide)] at H; exact H
                  clear H
                  have H := H1
                  clear H1
                  exact absurd H (by simp)
              · rw [if_neg c23] at H
                exact absurd H (by simp)
            · rw [if_neg c22] at H
              exact absurd H (by simp)
          · replace c21 := Bool.eq_false_iff.mpr c21
            subst c21
            have H1 : (if (t323.length : Int) = 0 then ((ikey_Put.f l1 a0_0 a0_1 a0_2).bind fun t345 => ((ratlinelaw02_Same.f t345 l1).bind fun t348 => (if t348 = true then (ratlinelaw03_IkeyBack.j1 kj3 l2 t323) else (none)))) else (none)) = some r := by rw [if_neg (show ¬ (false = true) by decide)] at H; exact H
            clear H
            have H := H1
            clear H1
            by_cases c41 : (t323.length : Int) = 0
            · rw [if_pos c41] at H
              have c41b0 : ((t323.length : Int) == 0) = true := beq_iff_eq.mpr c41
              have c41b1 : ((t323.length : Int) != 0) = false := bne_eq_false_iff_eq.mpr c41
              clear c41
              replace H := Option.bind_eq_some_iff.mp H
              obtain ⟨t345, A420, H⟩ := H
              replace H : ((ratlinelaw02_Same.f t345 l1).bind fun t348 => (if t348 = true then (ratlinelaw03_IkeyBack.j1 kj3 l2 t323) else (none))) = some r := H
              have A42 := Aside0.mk A420
              clear A420
              replace H := Option.bind_eq_some_iff.mp H
              obtain ⟨t348, A430, H⟩ := H
              replace H : (if t348 = true then (ratlinelaw03_IkeyBack.j1 kj3 l2 t323) else (none)) = some r := H
              have A43 := Aside0.mk A430
              clear A430
              by_cases c44 : t348 = true
              · subst c44
                have H1 : (ratlinelaw03_IkeyBack.j1 kj3 l2 t323) = some r := by rw [if_pos rfl] at H; exact H
                clear H
                have H := H1
                clear H1
                have H' := Aside0.mk H
                clear H
                obtain ⟨Ao45, co45, eo45⟩ := Kd.R_slice HO325.out
                subst eo45
                have hcz46_0 : w20.cell? ⟨gb321, 0, none⟩ = some (.string a0_0) := (blk_cell BK321.out 0).trans rfl
                have hcz46_1 : w20.cell? ⟨gb321, 1, none⟩ = some (.int .u64 a0_1) := (blk_cell BK321.out 1).trans rfl
                have hcz46_2 : w20.cell? ⟨gb321, 2, none⟩ = some (.int .u8 a0_2) := (blk_cell BK321.out 2).trans rfl
                have hfz46_0 := blk_frozen BK321.out 0
                have hfz46_1 := blk_frozen BK321.out 1
                have hfz46_2 := blk_frozen BK321.out 2
                go_wp2_with (first | (go_at_call 31; (with_reducible refine (ikey_Put.calls _ _ l1 a0_0 a0_1 a0_2 t345 _ ?side1 ?side2 A42.out).mono ?_); (case side1 => repeat (first | exact (Kd.C_below HR1.out HB.out) | (with_reducible refine Kd.C_alloc ?_ _) | (with_reducible refine Kd.C_drewN ?_ _) | (with_reducible refine Kd.C_drew ?_))); (case side2 => exact HC1.out); rintro e w47 ⟨v346, rfl, ho0, hb⟩; have n0_ := Aside0.mk (Kd.R_elder' (by (with_reducible repeat (first | apply Kd.R_alloc | apply Kd.R_drewN | apply Kd.R_drew)); exact HO325.out) (Kd.R_base ho0) hb); have n1_ := Aside0.mk (Kd.R_lower (Kd.R_new' ho0 (Kd.R_lt (by (with_reducible repeat (first | apply Kd.R_alloc | apply Kd.R_drewN | apply Kd.R_drew)); exact HO325.out))) (below_size (by repeat (first | (with_reducible first | exact HB.out | apply below_alloc | apply pw_below_drewN | apply below_drew1 | refine below_set ?_ GE321.out) | exact HB.out)))); have n2_ := Aside0.mk (blk_below (g := gb321) (o := .cells #[.string a0_0, .int .u64 a0_1, .int .u8 a0_2] 39 (0, 0)) (by (with_reducible repeat (first | refine blk_drewN ?_ _ | refine blk_drew ?_ | refine blk_alloc ?_ _)); exact BK321.out) hb); have n3_ := Aside0.mk (below_step (by repeat (first | (with_reducible first | exact HB.out | apply below_alloc | apply pw_below_drewN | apply below_drew1 | refine below_set ?_ GE321.out) | exact HB.out)) hb); clear HO325; clear BK321; clear HB; have HO325 := n0_; have HO347 := n1_; have BK321 := n2_; have HB := n3_; clear n0_ n1_ n2_ n3_; (try clear hb); (try clear hb2); (try clear hk); (try clear hi); (try clear ho0); obtain ⟨Ao48, co48, eo48⟩ := Kd.R_slice HO347.out; subst eo48) | (go_at_call 30; (with_reducible refine (ratlinelaw02_Same.calls _ _ t345 _ _ l1 true _ ?side1 ?side2 ?side3 ?side4 A43.out).mono ?_); (case side1 => repeat (first | exact (Kd.R_reads' HO347.out).2.2 | (with_reducible refine Kd.C_alloc ?_ _) | (with_reducible refine Kd.C_drewN ?_ _) | (with_reducible refine Kd.C_drew ?_))); (case side2 => exact (Kd.R_reads' HO347.out).2.1); (case side3 => repeat (first | exact (Kd.C_below HR1.out HB.out) | (with_reducible refine Kd.C_alloc ?_ _) | (with_reducible refine Kd.C_drewN ?_ _) | (with_reducible refine Kd.C_drew ?_))); (case side4 => exact HC1.out); rintro e w' ⟨rfl, ⟨nd, rfl⟩⟩))
                go_meet
                case rel => exact ⟨_, H', ⟨by have := HJ3.out; first | omega | exact Nat.le_refl _⟩, ⟨by (with_reducible repeat (first | apply Kd.R_alloc | apply Kd.R_drewN | apply Kd.R_drew)); exact Kd.R_mono HO325.out (fun _ hk => trivial)⟩, ⟨by (with_reducible repeat (first | refine blk_drewN ?_ _ | refine blk_drew ?_ | refine blk_alloc ?_ _)); exact BK321.out⟩, ⟨by repeat (first | (with_reducible first | exact HB.out | apply below_alloc | apply pw_below_drewN | apply below_drew1 | refine below_set ?_ GE321.out) | exact HB.out)⟩⟩
              · replace c44 := Bool.eq_false_iff.mpr c44
                subst c44
                have H1 : (none) = some r := by rw [if_neg (show ¬ (false = true) by decide)] at H; exact H
                clear H
                have H := H1
                clear H1
                exact absurd H (by simp)
            · rw [if_neg c41] at H
              exact absurd H (by simp)
        case rest =>
          clear HC16
          try clear c1
          try clear c2
          try clear p2
          try clear c3
          try clear c4
          try clear c6
          try clear c6b0
          try clear c6b1
          try clear c8
          try clear c8b0
          try clear c8b1
          try clear c10
          try clear c11
          try clear c21
          try clear c22
          try clear c23
          try clear c25
          try clear c26
          try clear c26b0
          try clear c28
          try clear c29
          try clear c31
          try clear c32
          try clear c37
          try clear c41
          try clear c41b0
          try clear c41b1
          try clear c44
          try clear hcz10_0
          try clear hcz10_1
          try clear hcz10_2
          try clear hcz17_0
          try clear hcz17_1
          try clear hcz17_2
          try clear hcz19_0
          try clear hcz19_1
          try clear hcz19_2
          try clear hcz38_0
          try clear hcz38_1
          try clear hcz38_2
          try clear hcz39_0
          try clear hcz39_1
          try clear hcz39_2
          try clear hcz46_0
          try clear hcz46_1
          try clear hcz46_2
          try clear hcz7_0
          try clear hcz7_1
          try clear hcz7_2
          try clear hcz9_0
          try clear hcz9_1
          try clear hcz9_2
          try clear hfz10_0
          try clear hfz10_1
          try clear hfz10_2
          try clear hfz17_0
          try clear hfz17_1
          try clear hfz17_2
          try clear hfz19_0
          try clear hfz19_1
          try clear hfz19_2
          try clear hfz38_0
          try clear hfz38_1
          try clear hfz38_2
          try clear hfz39_0
          try clear hfz39_1
          try clear hfz39_2
          try clear hfz46_0
          try clear hfz46_1
          try clear hfz46_2
          try clear hfz7_0
          try clear hfz7_1
          try clear hfz7_2
          try clear hfz9_0
          try clear hfz9_1
          try clear hfz9_2
          try clear p2
          obtain ⟨kq, HA, HJ15, HO_8, BK321, HB⟩ := hcut
          cases kq with
          | zero => exact absurd HA.out (by simp [ratlinelaw03_IkeyBack.j1])
          | succ kj15 =>
            have H := HA.out
            clear HA
            simp only [ratlinelaw03_IkeyBack.j1] at H
            have H' := Aside0.mk H
            clear H
            obtain ⟨Ao49, co49, eo49⟩ := Kd.R_slice HO_8.out
            subst eo49
            go_wp2
            go_loopg [77] kj15 (fun kq v77 w' => ∃ (x77_3 : Int), v77 = .int .i64 x77_3 ∧ Aside0 (ratlinelaw03_IkeyBack.l0 kq l2 t323 (t323.length : Int) x77_3 = some r) ∧ Aside0 (kq ≤ kj15) ∧ Aside0 (Kd.R (Kd.int .u8) 5 w' w.heap.size (fun _ => True) (.slice Ao49 t323.length co49) t323) ∧ Aside0 (w'.heap[gb321]? = some (.cells #[.string a0_0, .int .u64 a0_1, .int .u8 a0_2] 39 (0, 0))) ∧ Aside0 (Below w.heap.size w w'))
            case atStart => exact ⟨(0), (by first | rfl | (simp; done) | (simp [*]; done)), H', ⟨Nat.le_refl _⟩, ⟨by (with_reducible repeat (first | apply Kd.R_alloc | apply Kd.R_drewN | apply Kd.R_drew)); exact HO_8.out⟩, ⟨by (with_reducible repeat (first | refine blk_drewN ?_ _ | refine blk_drew ?_ | refine blk_alloc ?_ _)); exact BK321.out⟩, ⟨by repeat (first | (with_reducible first | exact HB.out | apply below_alloc | apply pw_below_drewN | apply below_drew1 | refine below_set ?_ GE321.out) | exact HB.out)⟩⟩
            case round =>
              clear H'
              try clear c1
              try clear c2
              try clear p2
              try clear c3
              try clear c4
              try clear c6
              try clear c6b0
              try clear c6b1
              try clear c8
              try clear c8b0
              try clear c8b1
              try clear c10
              try clear c11
              try clear c21
              try clear c22
              try clear c23
              try clear c25
              try clear c26
              try clear c26b0
              try clear c28
              try clear c29
              try clear c31
              try clear c32
              try clear c37
              try clear c41
              try clear c41b0
              try clear c41b1
              try clear c44
              try clear hcz10_0
              try clear hcz10_1
              try clear hcz10_2
              try clear hcz17_0
              try clear hcz17_1
              try clear hcz17_2
              try clear hcz19_0
              try clear hcz19_1
              try clear hcz19_2
              try clear hcz38_0
              try clear hcz38_1
              try clear hcz38_2
              try clear hcz39_0
              try clear hcz39_1
              try clear hcz39_2
              try clear hcz46_0
              try clear hcz46_1
              try clear hcz46_2
              try clear hcz7_0
              try clear hcz7_1
              try clear hcz7_2
              try clear hcz9_0
              try clear hcz9_1
              try clear hcz9_2
              try clear hfz10_0
              try clear hfz10_1
              try clear hfz10_2
              try clear hfz17_0
              try clear hfz17_1
              try clear hfz17_2
              try clear hfz19_0
              try clear hfz19_1
              try clear hfz19_2
              try clear hfz38_0
              try clear hfz38_1
              try clear hfz38_2
              try clear hfz39_0
              try clear hfz39_1
              try clear hfz39_2
              try clear hfz46_0
              try clear hfz46_1
              try clear hfz46_2
              try clear hfz7_0
              try clear hfz7_1
              try clear hfz7_2
              try clear hfz9_0
              try clear hfz9_1
              try clear hfz9_2
              try clear p2
              obtain ⟨x77_3, rfl, HA, HK3, HO_8, BK321, HB⟩ := hrel
              cases gk with
              | zero => exact absurd HA.out (by simp [ratlinelaw03_IkeyBack.l0])
              | succ k3 =>
                have H := HA.out
                clear HA
                simp only [ratlinelaw03_IkeyBack.l0] at H
                by_cases c50 : x77_3 < (t323.length : Int)
                · rw [if_pos c50] at H
                  have c50b0 : decide (x77_3 < (t323.length : Int)) = true := decide_eq_true c50
                  clear c50
                  by_cases c51 : 0 ≤ x77_3
                  · rw [if_pos c51] at H
                    have c51b0 := eq_true c51
                    have c51b1 : decide (0 ≤ x77_3) = true := decide_eq_true c51
                    clear c51
                    by_cases c52 : x77_3 ≤ (t323.length : Int)
                    · rw [if_pos c52] at H
                      have c52b0 := eq_true c52
                      have c52b1 : decide (x77_3 ≤ (t323.length : Int)) = true := decide_eq_true c52
                      clear c52
                      obtain ⟨y349, hy349⟩ : ∃ y_ : List Int, y_ = (t323.take (x77_3 : Int).toNat) := ⟨_, rfl⟩
                      replace H : ((ikey_Take.f y349).bind fun bt353 => (if bt353.2.2.2.2 = true then (none) else (ratlinelaw03_IkeyBack.l0 k3 l2 t323 (t323.length : Int) (wrap64 (x77_3 + 1))))) = some r := by first | (rw [hy349]; with_reducible exact H) | (have H2_ := (Option.bind_some _ _).symm.trans H; rw [hy349]; with_reducible exact H2_) | (have H2_ := (Option.bind_some _ _).symm.trans H; with_reducible exact H2_) | with_reducible exact H | (rw [hy349]; exact H) | exact H
                      have Ny349 := Aside0.mk hy349
                      clear hy349
                      replace H := Option.bind_eq_some_iff.mp H
                      obtain ⟨⟨t353, t354, t355, t356, t359⟩, A530, H⟩ := H
                      replace H : (if t359 = true then (none) else (ratlinelaw03_IkeyBack.l0 k3 l2 t323 (t323.length : Int) (wrap64 (x77_3 + 1)))) = some r := H
                      have A53 := Aside0.mk A530
                      clear A530
                      by_cases c54 : t359 = true
                      · subst c54
                        have H1 : (none) = some r := by rw [if_pos rfl] at H; exact H
                        clear H
                        have H := H1
                        clear H1
                        exact absurd H (by simp)
                      · replace c54 := Bool.eq_false_iff.mpr c54
                        subst c54
                        have H1 : (ratlinelaw03_IkeyBack.l0 k3 l2 t323 (t323.length : Int) (wrap64 (x77_3 + 1))) = some r := by rw [if_neg (show ¬ (false = true) by decide)] at H; exact H
                        clear H
                        have H := H1
                        clear H1
                        have H' := Aside0.mk H
                        clear H
                        have q55 : (x77_3 : Int) ≤ ((t323.length : Int) : Int) := of_decide_eq_true (by first | (with_reducible assumption) | assumption)
                        obtain ⟨i055, hi055, _, hsz55, _⟩ := info_parts info5
                        have hroom55 : t323.length ≤ co49 := (Kd.R_reads' HO_8.out).2.1
                        have hC55 : Kd.C (Kd.int .u8) _ Ao49 t323.length t323 := (Kd.R_reads' HO_8.out).2.2
                        have hcut55 := cut_to (P := Try.prog) 44 5 .i64 Try.underlying44 hi055 Ao49 t323.length co49 x77_3 (of_decide_eq_true (by first | (with_reducible assumption) | assumption)) q55 hroom55
                        have hr55 := Kd.C_take (m := (x77_3 : Int).toNat) hC55 (by omega)
                        have hy55 : y349.length = (x77_3 : Int).toNat := (by rw [Ny349.out, List.length_take]; omega)
                        rw [← Ny349.out] at hr55
                        rw [← hy55] at hcut55
                        have HR352 := Aside0.mk hr55
                        have HC352 := Aside0.mk (show y349.length ≤ co49 from by omega)
                        clear hr55 hC55 hroom55 hi055 hsz55
                        have KY55 := Aside0.mk hy55
                        clear hy55
                        have KL55 := Aside0.mk (show (x77_3 : Int).toNat ≤ t323.length from by omega)
                        replace q55 := eq_true q55
                        go_wp2_with (first | ((with_reducible refine gate_callee (f := 32) rfl ?_); refine goesL_ (some 84) rfl rfl Try.func32 (by kernel_rfl) rfl #[.slice Ao49 y349.length co49] rfl (by (try simp only [List.map_toArray, List.map_cons, List.map_nil]); first | done | rfl | (simp only [List.length_drop, List.length_take]; rfl)) ?_; (with_reducible refine (ikey_Take.calls _ _ y349 t353 t354 t355 t356 false _ ?side1 ?side2 A53.out).mono ?_); (case side1 => repeat (first | exact (by repeat (first | (with_reducible exact HR352.out) | (with_reducible refine Kd.C_alloc ?_ _) | (with_reducible refine Kd.C_drewN ?_ _) | (with_reducible refine Kd.C_drew ?_) | exact HR352.out)) | (with_reducible refine Kd.C_alloc ?_ _) | (with_reducible refine Kd.C_drewN ?_ _) | (with_reducible refine Kd.C_drew ?_))); (case side2 => exact HC352.out); rintro e w56 ⟨v357, rfl, ho0, hb⟩; refine ⟨_, rfl, ?_⟩; have n0_ := Aside0.mk (Kd.R_elder' (by (with_reducible repeat (first | apply Kd.R_alloc | apply Kd.R_drewN | apply Kd.R_drew)); exact HO_8.out) (Kd.R_base ho0) hb); have n1_ := Aside0.mk (Kd.R_lower (Kd.R_new' ho0 (Kd.R_lt (by (with_reducible repeat (first | apply Kd.R_alloc | apply Kd.R_drewN | apply Kd.R_drew)); exact HO_8.out))) (below_size (by repeat (first | (with_reducible first | exact HB.out | apply below_alloc | apply pw_below_drewN | apply below_drew1 | refine below_set ?_ GE321.out) | exact HB.out)))); have n2_ := Aside0.mk (blk_below (g := gb321) (o := .cells #[.string a0_0, .int .u64 a0_1, .int .u8 a0_2] 39 (0, 0)) (by (with_reducible repeat (first | refine blk_drewN ?_ _ | refine blk_drew ?_ | refine blk_alloc ?_ _)); exact BK321.out) hb); have n3_ := Aside0.mk (Kd.C_below (by repeat (first | (with_reducible exact HR352.out) | (with_reducible refine Kd.C_alloc ?_ _) | (with_reducible refine Kd.C_drewN ?_ _) | (with_reducible refine Kd.C_drew ?_) | exact HR352.out)) hb); have n4_ := Aside0.mk (below_step (by repeat (first | (with_reducible first | exact HB.out | apply below_alloc | apply pw_below_drewN | apply below_drew1 | refine below_set ?_ GE321.out) | exact HB.out)) hb); clear HO_8; clear BK321; clear HR352; clear HB; have HO_8 := n0_; have HO358 := n1_; have BK321 := n2_; have HR352 := n3_; have HB := n4_; clear n0_ n1_ n2_ n3_ n4_; (try clear hb); (try clear hb2); (try clear hk); (try clear hi); (try clear ho0)) | ((with_reducible refine gate_dst (N := 13) rfl ?_); (try (refine gate_guard (by rfl) ?_; dsimp only)); refine box_event ?hg (N := 13) ?hd (cs := #[.string (⟨#[]⟩ : ByteArray), .int .u64 0, .int .u8 0]) (t := 39) ?hr ?_; (case hd => rfl); (case hg => rfl); (case hr => first | (go_simp; done) | (go_simp; rfl)); intro gb360 hg w57 hbox hb; have n0_ := Aside0.mk (Kd.R_below (by (with_reducible repeat (first | apply Kd.R_alloc | apply Kd.R_drewN | apply Kd.R_drew)); exact HO_8.out) hb); have n1_ := Aside0.mk (Kd.R_below (by (with_reducible repeat (first | apply Kd.R_alloc | apply Kd.R_drewN | apply Kd.R_drew)); exact HO358.out) hb); have n2_ := Aside0.mk (blk_below (g := gb321) (o := .cells #[.string a0_0, .int .u64 a0_1, .int .u8 a0_2] 39 (0, 0)) (by (with_reducible repeat (first | refine blk_drewN ?_ _ | refine blk_drew ?_ | refine blk_alloc ?_ _)); exact BK321.out) hb); have n3_ := Aside0.mk (below_step (by repeat (first | (with_reducible first | exact HB.out | apply below_alloc | apply pw_below_drewN | apply below_drew1 | refine below_set ?_ GE321.out) | exact HB.out)) hb); have n4_ := Aside0.mk (hbox); have n5_ := Aside0.mk ((by rw [hg]; exact (below_size (by repeat (first | (with_reducible first | exact HB.out | apply below_alloc | apply pw_below_drewN | apply below_drew1 | refine below_set ?_ GE321.out) | exact HB.out))) : w.heap.size ≤ gb360)); have n6_ := Aside0.mk ((by rw [hg]; exact (below_size (by repeat (first | (with_reducible first | exact HB.out | apply below_alloc | apply pw_below_drewN | apply below_drew1 | refine below_set ?_ GE321.out) | exact HB.out))) : w.heap.size ≤ gb360)); have n7_ := Aside0.mk ((by rw [hg]; exact Nat.ne_of_lt (blk_lt (g := gb321) (o := .cells #[.string a0_0, .int .u64 a0_1, .int .u8 a0_2] 39 (0, 0)) (by (with_reducible repeat (first | refine blk_drewN ?_ _ | refine blk_drew ?_ | refine blk_alloc ?_ _)); exact BK321.out)) : gb321 ≠ gb360)); have n8_ := Aside0.mk ((by rw [hg]; exact Nat.ne_of_gt (blk_lt (g := gb321) (o := .cells #[.string a0_0, .int .u64 a0_1, .int .u8 a0_2] 39 (0, 0)) (by (with_reducible repeat (first | refine blk_drewN ?_ _ | refine blk_drew ?_ | refine blk_alloc ?_ _)); exact BK321.out)) : gb360 ≠ gb321)); clear HO_8; clear HO358; clear BK321; clear HB; have HO_8 := n0_; have HO358 := n1_; have BK321 := n2_; have HB := n3_; have BK360 := n4_; have GW360 := n5_; have GE360 := n6_; have NB321_360 := n7_; have NB360_321 := n8_; clear n0_ n1_ n2_ n3_ n4_ n5_ n6_ n7_ n8_; clear hb hbox hg; have hnb58 := NB360_321.out; have hnc58 := NB321_360.out; have hcz59_0 : w57.cell? ⟨gb360, 0, none⟩ = some (.string (⟨#[]⟩ : ByteArray)) := (blk_cell BK360.out 0).trans rfl; have hcz59_1 : w57.cell? ⟨gb360, 1, none⟩ = some (.int .u64 0) := (blk_cell BK360.out 1).trans rfl; have hcz59_2 : w57.cell? ⟨gb360, 2, none⟩ = some (.int .u8 0) := (blk_cell BK360.out 2).trans rfl; have hfz59_0 := blk_frozen BK360.out 0; have hfz59_1 := blk_frozen BK360.out 1; have hfz59_2 := blk_frozen BK360.out 2))
                        go_roundg k3
                        case measure => have := HJ3.out; have := HJ15.out; have := HK3.out; omega
                        case rel => exact ⟨(wrap64 (x77_3 + 1)), (by first | rfl | (simp; done) | (simp [*]; done)), H', ⟨by have := HJ3.out; have := HJ15.out; have := HK3.out; omega⟩, ⟨by (with_reducible repeat (first | apply Kd.R_alloc | apply Kd.R_drewN | apply Kd.R_drew)); exact Kd.R_mono (Kd.R_far (p := ⟨gb360, 2, none⟩) (Kd.R_far (p := ⟨gb360, 1, none⟩) (Kd.R_far (p := ⟨gb360, 0, none⟩) (Kd.R_types HO_8.out BK360.out (by decide)) (fun _ hk => hk.2) (.string t353)) (fun _ hk => hk.2) (.int .u64 t354)) (fun _ hk => hk.2) (.int .u8 t355)) (fun _ hk => trivial)⟩, ⟨by (with_reducible repeat (first | refine blk_drewN ?_ _ | refine blk_drew ?_ | refine blk_alloc ?_ _)); refine blk_far ?_ NB321_360.out _; (with_reducible repeat (first | refine blk_drewN ?_ _ | refine blk_drew ?_ | refine blk_alloc ?_ _)); refine blk_far ?_ NB321_360.out _; (with_reducible repeat (first | refine blk_drewN ?_ _ | refine blk_drew ?_ | refine blk_alloc ?_ _)); refine blk_far ?_ NB321_360.out _; (with_reducible repeat (first | refine blk_drewN ?_ _ | refine blk_drew ?_ | refine blk_alloc ?_ _)); exact BK321.out⟩, ⟨by repeat (first | (with_reducible first | exact HB.out | apply below_alloc | apply pw_below_drewN | apply below_drew1 | refine below_set ?_ GE321.out | refine below_set ?_ GE360.out) | exact HB.out)⟩⟩
                    · rw [if_neg c52] at H
                      exact absurd H (by simp)
                  · rw [if_neg c51] at H
                    exact absurd H (by simp)
                · rw [if_neg c50] at H
                  have c50b0 : decide (x77_3 < (t323.length : Int)) = false := decide_eq_false c50
                  clear c50
                  replace H := Option.bind_eq_some_iff.mp H
                  obtain ⟨⟨t361, t362, t363, t364, t367⟩, A600, H⟩ := H
                  replace H : (if t367 = true then ((ikey_Right.f t361 t362 t363).bind fun t370 => (if t370 = true then ((ikey_Put.f ([] : List Int) t361 t362 t363).bind fun t371 => (if t371.length + t364.length < 140737488355328 then ((ratlinelaw02_Same.f (t371 ++ t364) l2).bind fun t377 => (if t377 = true then ((ratlinelaw03_awake.f k3).bind fun t378 => (some t378)) else (none))) else (none))) else (none))) else (if (t361.toList == ([] : List UInt8) && (t362 == 0 && (t363 == 0))) = true then (if (t364.length : Int) = 0 then ((ratlinelaw03_awake.f k3).bind fun t369 => (some t369)) else (none)) else (none))) = some r := H
                  have A60 := Aside0.mk A600
                  clear A600
                  by_cases c61 : t367 = true
                  · subst c61
                    have H1 : ((ikey_Right.f t361 t362 t363).bind fun t370 => (if t370 = true then ((ikey_Put.f ([] : List Int) t361 t362 t363).bind fun t371 => (if t371.length + t364.length < 140737488355328 then ((ratlinelaw02_Same.f (t371 ++ t364) l2).bind fun t377 => (if t377 = true then ((ratlinelaw03_awake.f k3).bind fun t378 => (some t378)) else (none))) else (none))) else (none))) = some r := by rw [if_pos rfl] at H; exact H
                    clear H
                    have H := H1
                    clear H1
                    replace H := Option.bind_eq_some_iff.mp H
                    obtain ⟨t370, A620, H⟩ := H
                    replace H : (if t370 = true then ((ikey_Put.f ([] : List Int) t361 t362 t363).bind fun t371 => (if t371.length + t364.length < 140737488355328 then ((ratlinelaw02_Same.f (t371 ++ t364) l2).bind fun t377 => (if t377 = true then ((ratlinelaw03_awake.f k3).bind fun t378 => (some t378)) else (none))) else (none))) else (none)) = some r := H
                    have A62 := Aside0.mk A620
                    clear A620
                    by_cases c63 : t370 = true
                    · subst c63
                      have H1 : ((ikey_Put.f ([] : List Int) t361 t362 t363).bind fun t371 => (if t371.length + t364.length < 140737488355328 then ((ratlinelaw02_Same.f (t371 ++ t364) l2).bind fun t377 => (if t377 = true then ((ratlinelaw03_awake.f k3).bind fun t378 => (some t378)) else (none))) else (none))) = some r := by rw [if_pos rfl] at H; exact H
                      clear H
                      have H := H1
                      clear H1
                      replace H := Option.bind_eq_some_iff.mp H
                      obtain ⟨t371, A640, H⟩ := H
                      replace H : (if t371.length + t364.length < 140737488355328 then ((ratlinelaw02_Same.f (t371 ++ t364) l2).bind fun t377 => (if t377 = true then ((ratlinelaw03_awake.f k3).bind fun t378 => (some t378)) else (none))) else (none)) = some r := H
                      have A64 := Aside0.mk A640
                      clear A640
                      by_cases c65 : t371.length + t364.length < 140737488355328
                      · rw [if_pos c65] at H
                        have LMc65 := Aside0.mk c65
                        clear c65
                        obtain ⟨y374, hy374⟩ : ∃ y_ : List Int, y_ = (t371 ++ t364) := ⟨_, rfl⟩
                        replace H : ((ratlinelaw02_Same.f y374 l2).bind fun t377 => (if t377 = true then ((ratlinelaw03_awake.f k3).bind fun t378 => (some t378)) else (none))) = some r := by first | (rw [hy374]; with_reducible exact H) | (have H2_ := (Option.bind_some _ _).symm.trans H; rw [hy374]; with_reducible exact H2_) | (have H2_ := (Option.bind_some _ _).symm.trans H; with_reducible exact H2_) | with_reducible exact H | (rw [hy374]; exact H) | exact H
                        have Ny374 := Aside0.mk hy374
                        clear hy374
                        replace H := Option.bind_eq_some_iff.mp H
                        obtain ⟨t377, A660, H⟩ := H
                        replace H : (if t377 = true then ((ratlinelaw03_awake.f k3).bind fun t378 => (some t378)) else (none)) = some r := H
                        have A66 := Aside0.mk A660
                        clear A660
                        by_cases c67 : t377 = true
                        · subst c67
                          have H1 : ((ratlinelaw03_awake.f k3).bind fun t378 => (some t378)) = some r := by rw [if_pos rfl] at H; exact H
                          clear H
                          have H := H1
                          clear H1
                          replace H := Option.bind_eq_some_iff.mp H
                          obtain ⟨t378, A680, H⟩ := H
                          replace H : (some t378) = some r := H
                          have A68 := Aside0.mk A680
                          clear A680
                          obtain rfl := Option.some.inj H
                          go_wp2_with (first | ((with_reducible refine gate_callee (f := 32) rfl ?_); refine goesL_ (some 92) rfl rfl Try.func32 (by kernel_rfl) rfl #[.slice A2 l2.length c2] rfl (by (try simp only [List.map_toArray, List.map_cons, List.map_nil]); first | done | rfl | (simp only [List.length_drop, List.length_take]; rfl)) ?_; (with_reducible refine (ikey_Take.calls _ _ l2 t361 t362 t363 t364 true _ ?side1 ?side2 A60.out).mono ?_); (case side1 => repeat (first | exact (Kd.C_below HR2.out HB.out) | (with_reducible refine Kd.C_alloc ?_ _) | (with_reducible refine Kd.C_drewN ?_ _) | (with_reducible refine Kd.C_drew ?_))); (case side2 => exact HC2.out); rintro e w69 ⟨v365, rfl, ho0, hb⟩; refine ⟨_, rfl, ?_⟩; have n0_ := Aside0.mk (Kd.R_elder' (by (with_reducible repeat (first | apply Kd.R_alloc | apply Kd.R_drewN | apply Kd.R_drew)); exact HO_8.out) (Kd.R_base ho0) hb); have n1_ := Aside0.mk (Kd.R_lower (Kd.R_new' ho0 (Kd.R_lt (by (with_reducible repeat (first | apply Kd.R_alloc | apply Kd.R_drewN | apply Kd.R_drew)); exact HO_8.out))) (below_size (by repeat (first | (with_reducible first | exact HB.out | apply below_alloc | apply pw_below_drewN | apply below_drew1 | refine below_set ?_ GE321.out) | exact HB.out)))); have n2_ := Aside0.mk (blk_below (g := gb321) (o := .cells #[.string a0_0, .int .u64 a0_1, .int .u8 a0_2] 39 (0, 0)) (by (with_reducible repeat (first | refine blk_drewN ?_ _ | refine blk_drew ?_ | refine blk_alloc ?_ _)); exact BK321.out) hb); have n3_ := Aside0.mk (below_step (by repeat (first | (with_reducible first | exact HB.out | apply below_alloc | apply pw_below_drewN | apply below_drew1 | refine below_set ?_ GE321.out) | exact HB.out)) hb); clear HO_8; clear BK321; clear HB; have HO_8 := n0_; have HO366 := n1_; have BK321 := n2_; have HB := n3_; clear n0_ n1_ n2_ n3_; (try clear hb); (try clear hb2); (try clear hk); (try clear hi); (try clear ho0)) | ((with_reducible refine gate_dst (N := 16) rfl ?_); (try (refine gate_guard (by rfl) ?_; dsimp only)); refine box_event ?hg (N := 16) ?hd (cs := #[.string (⟨#[]⟩ : ByteArray), .int .u64 0, .int .u8 0]) (t := 39) ?hr ?_; (case hd => rfl); (case hg => rfl); (case hr => first | (go_simp; done) | (go_simp; rfl)); intro gb368 hg w70 hbox hb; have n0_ := Aside0.mk (Kd.R_below (by (with_reducible repeat (first | apply Kd.R_alloc | apply Kd.R_drewN | apply Kd.R_drew)); exact HO_8.out) hb); have n1_ := Aside0.mk (Kd.R_below (by (with_reducible repeat (first | apply Kd.R_alloc | apply Kd.R_drewN | apply Kd.R_drew)); exact HO366.out) hb); have n2_ := Aside0.mk (blk_below (g := gb321) (o := .cells #[.string a0_0, .int .u64 a0_1, .int .u8 a0_2] 39 (0, 0)) (by (with_reducible repeat (first | refine blk_drewN ?_ _ | refine blk_drew ?_ | refine blk_alloc ?_ _)); exact BK321.out) hb); have n3_ := Aside0.mk (below_step (by repeat (first | (with_reducible first | exact HB.out | apply below_alloc | apply pw_below_drewN | apply below_drew1 | refine below_set ?_ GE321.out) | exact HB.out)) hb); have n4_ := Aside0.mk (hbox); have n5_ := Aside0.mk ((by rw [hg]; exact (below_size (by repeat (first | (with_reducible first | exact HB.out | apply below_alloc | apply pw_below_drewN | apply below_drew1 | refine below_set ?_ GE321.out) | exact HB.out))) : w.heap.size ≤ gb368)); have n6_ := Aside0.mk ((by rw [hg]; exact (below_size (by repeat (first | (with_reducible first | exact HB.out | apply below_alloc | apply pw_below_drewN | apply below_drew1 | refine below_set ?_ GE321.out) | exact HB.out))) : w.heap.size ≤ gb368)); have n7_ := Aside0.mk ((by rw [hg]; exact Nat.ne_of_lt (blk_lt (g := gb321) (o := .cells #[.string a0_0, .int .u64 a0_1, .int .u8 a0_2] 39 (0, 0)) (by (with_reducible repeat (first | refine blk_drewN ?_ _ | refine blk_drew ?_ | refine blk_alloc ?_ _)); exact BK321.out)) : gb321 ≠ gb368)); have n8_ := Aside0.mk ((by rw [hg]; exact Nat.ne_of_gt (blk_lt (g := gb321) (o := .cells #[.string a0_0, .int .u64 a0_1, .int .u8 a0_2] 39 (0, 0)) (by (with_reducible repeat (first | refine blk_drewN ?_ _ | refine blk_drew ?_ | refine blk_alloc ?_ _)); exact BK321.out)) : gb368 ≠ gb321)); clear HO_8; clear HO366; clear BK321; clear HB; have HO_8 := n0_; have HO366 := n1_; have BK321 := n2_; have HB := n3_; have BK368 := n4_; have GW368 := n5_; have GE368 := n6_; have NB321_368 := n7_; have NB368_321 := n8_; clear n0_ n1_ n2_ n3_ n4_ n5_ n6_ n7_ n8_; clear hb hbox hg; have hnb71 := NB368_321.out; have hnc71 := NB321_368.out; have hcz72_0 : w70.cell? ⟨gb368, 0, none⟩ = some (.string (⟨#[]⟩ : ByteArray)) := (blk_cell BK368.out 0).trans rfl; have hcz72_1 : w70.cell? ⟨gb368, 1, none⟩ = some (.int .u64 0) := (blk_cell BK368.out 1).trans rfl; have hcz72_2 : w70.cell? ⟨gb368, 2, none⟩ = some (.int .u8 0) := (blk_cell BK368.out 2).trans rfl; have hfz72_0 := blk_frozen BK368.out 0; have hfz72_1 := blk_frozen BK368.out 1; have hfz72_2 := blk_frozen BK368.out 2) | ((with_reducible refine gate_callee (f := 29) rfl ?_); refine goesL_ (some 110) rfl rfl Try.func29 (by kernel_rfl) rfl #[.agg #[.string t361, .int .u64 t362, .int .u8 t363]] rfl (by (try simp only [List.map_toArray, List.map_cons, List.map_nil]); first | done | rfl | (simp only [List.length_drop, List.length_take]; rfl)) ?_; (with_reducible refine (ikey_Right.calls t361 t362 t363 true _ A62.out).mono ?_); rintro e w73 ⟨rfl, hb⟩; refine ⟨_, rfl, ?_⟩; have n0_ := Aside0.mk (Kd.R_below (by (with_reducible repeat (first | apply Kd.R_alloc | apply Kd.R_drewN | apply Kd.R_drew)); exact (Kd.R_mono (Kd.R_far (p := ⟨gb368, 2, none⟩) (Kd.R_far (p := ⟨gb368, 1, none⟩) (Kd.R_far (p := ⟨gb368, 0, none⟩) (Kd.R_types HO_8.out BK368.out (by decide)) (fun _ hk => hk.2) (.string t361)) (fun _ hk => hk.2) (.int .u64 t362)) (fun _ hk => hk.2) (.int .u8 t363)) (fun _ h_ => h_.1))) hb); have n1_ := Aside0.mk (Kd.R_below (by (with_reducible repeat (first | apply Kd.R_alloc | apply Kd.R_drewN | apply Kd.R_drew)); exact (Kd.R_mono (Kd.R_far (p := ⟨gb368, 2, none⟩) (Kd.R_far (p := ⟨gb368, 1, none⟩) (Kd.R_far (p := ⟨gb368, 0, none⟩) (Kd.R_types HO366.out BK368.out (by decide)) (fun _ hk => hk.2) (.string t361)) (fun _ hk => hk.2) (.int .u64 t362)) (fun _ hk => hk.2) (.int .u8 t363)) (fun _ h_ => h_.1))) hb); have n2_ := Aside0.mk (blk_below (g := gb321) (o := .cells #[.string a0_0, .int .u64 a0_1, .int .u8 a0_2] 39 (0, 0)) (by (with_reducible repeat (first | refine blk_drewN ?_ _ | refine blk_drew ?_ | refine blk_alloc ?_ _)); refine blk_far ?_ NB321_368.out _; (with_reducible repeat (first | refine blk_drewN ?_ _ | refine blk_drew ?_ | refine blk_alloc ?_ _)); refine blk_far ?_ NB321_368.out _; (with_reducible repeat (first | refine blk_drewN ?_ _ | refine blk_drew ?_ | refine blk_alloc ?_ _)); refine blk_far ?_ NB321_368.out _; (with_reducible repeat (first | refine blk_drewN ?_ _ | refine blk_drew ?_ | refine blk_alloc ?_ _)); exact BK321.out) hb); have n3_ := Aside0.mk (blk_below (g := gb368) (o := .cells #[.string t361, .int .u64 t362, .int .u8 t363] 39 (0, 0)) (by (with_reducible repeat (first | refine blk_drewN ?_ _ | refine blk_drew ?_ | refine blk_alloc ?_ _)); refine blk_put (cs := #[.string t361, .int .u64 t362, .int .u8 0]) ?_ 2 _ rfl; (with_reducible repeat (first | refine blk_drewN ?_ _ | refine blk_drew ?_ | refine blk_alloc ?_ _)); refine blk_put (cs := #[.string t361, .int .u64 0, .int .u8 0]) ?_ 1 _ rfl; (with_reducible repeat (first | refine blk_drewN ?_ _ | refine blk_drew ?_ | refine blk_alloc ?_ _)); refine blk_put (cs := #[.string (⟨#[]⟩ : ByteArray), .int .u64 0, .int .u8 0]) ?_ 0 _ rfl; (with_reducible repeat (first | refine blk_drewN ?_ _ | refine blk_drew ?_ | refine blk_alloc ?_ _)); exact BK368.out) hb); have n4_ := Aside0.mk (below_step (by repeat (first | (with_reducible first | exact HB.out | apply below_alloc | apply pw_below_drewN | apply below_drew1 | refine below_set ?_ GE321.out | refine below_set ?_ GE368.out) | exact HB.out)) hb); clear HO_8; clear HO366; clear BK321; clear BK368; clear HB; have HO_8 := n0_; have HO366 := n1_; have BK321 := n2_; have BK368 := n3_; have HB := n4_; clear n0_ n1_ n2_ n3_ n4_; (try clear hb); (try clear hb2); (try clear hk); (try clear hi); have hcz74_0 : w73.cell? ⟨gb368, 0, none⟩ = some (.string t361) := (blk_cell BK368.out 0).trans rfl; have hcz74_1 : w73.cell? ⟨gb368, 1, none⟩ = some (.int .u64 t362) := (blk_cell BK368.out 1).trans rfl; have hcz74_2 : w73.cell? ⟨gb368, 2, none⟩ = some (.int .u8 t363) := (blk_cell BK368.out 2).trans rfl; have hfz74_0 := blk_frozen BK368.out 0; have hfz74_1 := blk_frozen BK368.out 1; have hfz74_2 := blk_frozen BK368.out 2) | (go_at_call 31; (refine calls_of_args (args' := #[.slice none (([] : List Int)).length 0, .agg #[.string t361, .int .u64 t362, .int .u8 t363]]) (by rfl) ?_; with_reducible refine (ikey_Put.calls _ _ ([] : List Int) t361 t362 t363 t371 _ ?side1 ?side2 A64.out).mono ?_); (case side1 => exact Kd.C_nil _ _); (case side2 => exact Nat.le_refl _); rintro e w75 ⟨v372, rfl, ho0, hb⟩; have n0_ := Aside0.mk (Kd.R_elder' (by (with_reducible repeat (first | apply Kd.R_alloc | apply Kd.R_drewN | apply Kd.R_drew)); exact HO_8.out) (Kd.R_base ho0) hb); have n1_ := Aside0.mk (Kd.R_elder' (by (with_reducible repeat (first | apply Kd.R_alloc | apply Kd.R_drewN | apply Kd.R_drew)); exact HO366.out) (Kd.R_base ho0) hb); have n2_ := Aside0.mk (Kd.R_lower (Kd.R_new' (Kd.R_new' ho0 (Kd.R_lt (by (with_reducible repeat (first | apply Kd.R_alloc | apply Kd.R_drewN | apply Kd.R_drew)); exact HO_8.out))) (Kd.R_lt (by (with_reducible repeat (first | apply Kd.R_alloc | apply Kd.R_drewN | apply Kd.R_drew)); exact HO366.out))) (below_size (by repeat (first | (with_reducible first | exact HB.out | apply below_alloc | apply pw_below_drewN | apply below_drew1 | refine below_set ?_ GE321.out | refine below_set ?_ GE368.out) | exact HB.out)))); have n3_ := Aside0.mk (blk_below (g := gb321) (o := .cells #[.string a0_0, .int .u64 a0_1, .int .u8 a0_2] 39 (0, 0)) (by (with_reducible repeat (first | refine blk_drewN ?_ _ | refine blk_drew ?_ | refine blk_alloc ?_ _)); exact BK321.out) hb); have n4_ := Aside0.mk (blk_below (g := gb368) (o := .cells #[.string t361, .int .u64 t362, .int .u8 t363] 39 (0, 0)) (by (with_reducible repeat (first | refine blk_drewN ?_ _ | refine blk_drew ?_ | refine blk_alloc ?_ _)); exact BK368.out) hb); have n5_ := Aside0.mk (below_step (by repeat (first | (with_reducible first | exact HB.out | apply below_alloc | apply pw_below_drewN | apply below_drew1 | refine below_set ?_ GE321.out | refine below_set ?_ GE368.out) | exact HB.out)) hb); clear HO_8; clear HO366; clear BK321; clear BK368; clear HB; have HO_8 := n0_; have HO366 := n1_; have HO373 := n2_; have BK321 := n3_; have BK368 := n4_; have HB := n5_; clear n0_ n1_ n2_ n3_ n4_ n5_; (try clear hb); (try clear hb2); (try clear hk); (try clear hi); (try clear ho0); obtain ⟨Ao77, co77, eo77⟩ := Kd.R_slice HO366.out; subst eo77) | ((with_reducible refine gate_builtin (b := .append) (xs := #[.tmp 114, .tmp 115]) rfl ?_); (try (refine gate_guard (by rfl) ?_; dsimp only)); at_builtin; refine Kd.R_append_rows (Kd.int .u8) (w0 := w) w.heap.size rfl (.tmp 114) (.tmp 115) 44 5 (.int .u8 0) 1 rfl Try.underlying44 info5 rfl (by decide) (by omega) v372 t371 t364 _ _ _ (fun k_ => some k_ ≠ (.slice Ao49 t323.length co49 : Value).ownBlock ∧ some k_ ≠ (.slice Ao77 t364.length co77 : Value).ownBlock) (fun _ => False) rfl rfl ?aO ?aR (fun _ _ h => h) (fun _ h => h.elim) ?aF ?aB ?aS ?aL ?_; (case aR => repeat (first | exact (Kd.R_reads' HO366.out).2.2 | (with_reducible refine Kd.C_alloc ?_ _) | (with_reducible refine Kd.C_drewN ?_ _) | (with_reducible refine Kd.C_drew ?_))); (case aB => exact (by repeat (first | (with_reducible first | exact HB.out | apply below_alloc | apply pw_below_drewN | apply below_drew1 | refine below_set ?_ GE321.out | refine below_set ?_ GE368.out) | exact HB.out))); (case aF => exact (fun k_ hk => ⟨Kd.fresh' (Kd.R_lt (by (with_reducible repeat (first | apply Kd.R_alloc | apply Kd.R_drewN | apply Kd.R_drew)); exact HO_8.out)) k_ hk, Kd.fresh' (Kd.R_lt (by (with_reducible repeat (first | apply Kd.R_alloc | apply Kd.R_drewN | apply Kd.R_drew)); exact HO366.out)) k_ hk⟩)); (case aO => exact (by (with_reducible repeat (first | apply Kd.R_alloc | apply Kd.R_drewN | apply Kd.R_drew)); exact Kd.R_mono HO373.out (fun _ hk => ⟨hk.1.2, hk.2⟩))); (case aS => exact (below_size (by repeat (first | (with_reducible first | exact HB.out | apply below_alloc | apply pw_below_drewN | apply below_drew1 | refine below_set ?_ GE321.out | refine below_set ?_ GE368.out) | exact HB.out)))); (case aL => have := LMc65.out; omega); intro v375 w76 ho hb hg hat; rw [← Ny374.out] at ho; have n0_ := Aside0.mk (Kd.R_after (ok := (fun k_ => some k_ ≠ (.slice Ao77 t364.length co77 : Value).ownBlock)) (by (with_reducible repeat (first | apply Kd.R_alloc | apply Kd.R_drewN | apply Kd.R_drew)); exact Kd.R_mono HO_8.out (fun _ hk => ⟨hk.1.2, hk.2⟩)) hg hat); have n1_ := Aside0.mk (blk_grown (g := gb321) (o := .cells #[.string a0_0, .int .u64 a0_1, .int .u8 a0_2] 39 (0, 0)) (by (with_reducible repeat (first | refine blk_drewN ?_ _ | refine blk_drew ?_ | refine blk_alloc ?_ _)); exact BK321.out) hg (Kd.R_ne HO373.out BK321.out (by decide))); have n2_ := Aside0.mk (Kd.R_after (ok := (fun k_ => some k_ ≠ (.slice Ao49 t323.length co49 : Value).ownBlock)) (by (with_reducible repeat (first | apply Kd.R_alloc | apply Kd.R_drewN | apply Kd.R_drew)); exact Kd.R_mono HO366.out (fun _ hk => ⟨hk.1.2, hk.2⟩)) hg hat); have n3_ := Aside0.mk (blk_grown (g := gb368) (o := .cells #[.string t361, .int .u64 t362, .int .u8 t363] 39 (0, 0)) (by (with_reducible repeat (first | refine blk_drewN ?_ _ | refine blk_drew ?_ | refine blk_alloc ?_ _)); exact BK368.out) hg (Kd.R_ne HO373.out BK368.out (by decide))); have n4_ := Aside0.mk (hb); have n5_ := Aside0.mk (ho); clear HO_8; clear BK321; clear HO366; clear BK368; clear HB; clear HO373; have HO_8 := n0_; have BK321 := n1_; have HO366 := n2_; have BK368 := n3_; have HB := n4_; have HO376 := n5_; clear n0_ n1_ n2_ n3_ n4_ n5_; clear ho hb hg hat; obtain ⟨Ao78, co78, eo78⟩ := Kd.R_slice HO376.out; subst eo78) | (go_at_call 30; (with_reducible refine (ratlinelaw02_Same.calls _ _ y374 _ _ l2 true _ ?side1 ?side2 ?side3 ?side4 A66.out).mono ?_); (case side1 => repeat (first | exact (Kd.R_reads' HO376.out).2.2 | (with_reducible refine Kd.C_alloc ?_ _) | (with_reducible refine Kd.C_drewN ?_ _) | (with_reducible refine Kd.C_drew ?_))); (case side2 => exact (Kd.R_reads' HO376.out).2.1); (case side3 => repeat (first | exact (Kd.C_below HR2.out HB.out) | (with_reducible refine Kd.C_alloc ?_ _) | (with_reducible refine Kd.C_drewN ?_ _) | (with_reducible refine Kd.C_drew ?_))); (case side4 => exact HC2.out); rintro e w' ⟨rfl, ⟨nd, rfl⟩⟩) | (go_at_call 26; (with_reducible refine (ratlinelaw03_awake.calls k3  t378 _ A68.out).mono ?_); rintro e w79 ⟨rfl, hb⟩; have n0_ := Aside0.mk (Kd.R_below (by (with_reducible repeat (first | apply Kd.R_alloc | apply Kd.R_drewN | apply Kd.R_drew)); exact HO_8.out) hb); have n1_ := Aside0.mk (Kd.R_below (by (with_reducible repeat (first | apply Kd.R_alloc | apply Kd.R_drewN | apply Kd.R_drew)); exact HO366.out) hb); have n2_ := Aside0.mk (Kd.R_below (by (with_reducible repeat (first | apply Kd.R_alloc | apply Kd.R_drewN | apply Kd.R_drew)); exact HO376.out) hb); have n3_ := Aside0.mk (blk_below (g := gb321) (o := .cells #[.string a0_0, .int .u64 a0_1, .int .u8 a0_2] 39 (0, 0)) (by (with_reducible repeat (first | refine blk_drewN ?_ _ | refine blk_drew ?_ | refine blk_alloc ?_ _)); exact BK321.out) hb); have n4_ := Aside0.mk (blk_below (g := gb368) (o := .cells #[.string t361, .int .u64 t362, .int .u8 t363] 39 (0, 0)) (by (with_reducible repeat (first | refine blk_drewN ?_ _ | refine blk_drew ?_ | refine blk_alloc ?_ _)); exact BK368.out) hb); have n5_ := Aside0.mk (below_step (by repeat (first | (with_reducible first | exact HB.out | apply below_alloc | apply pw_below_drewN | apply below_drew1 | refine below_set ?_ GE321.out | refine below_set ?_ GE368.out) | exact HB.out)) hb); clear HO_8; clear HO366; clear HO376; clear BK321; clear BK368; clear HB; have HO_8 := n0_; have HO366 := n1_; have HO376 := n2_; have BK321 := n3_; have BK368 := n4_; have HB := n5_; clear n0_ n1_ n2_ n3_ n4_ n5_; (try clear hb); (try clear hb2); (try clear hk); (try clear hi)))
                          go_ret
                          exact ⟨by first | rfl | (simp [errW_none, errW_some] <;> rfl) | (simp [*, errW_none, errW_some] <;> rfl), by repeat (first | (with_reducible first | exact HB.out | apply below_alloc | apply pw_below_drewN | apply below_drew1 | refine below_set ?_ GE321.out | refine below_set ?_ GE368.out) | exact HB.out)⟩
                        · replace c67 := Bool.eq_false_iff.mpr c67
                          subst c67
                          have H1 : (none) = some r := by rw [if_neg (show ¬ (false = true) by decide)] at H; exact H
                          clear H
                          have H := H1
                          clear H1
                          exact absurd H (by simp)
                      · rw [if_neg c65] at H
                        exact absurd H (by simp)
                    · replace c63 := Bool.eq_false_iff.mpr c63
                      subst c63
                      have H1 : (none) = some r := by rw [if_neg (show ¬ (false = true) by decide)] at H; exact H
                      clear H
                      have H := H1
                      clear H1
                      exact absurd H (by simp)
                  · replace c61 := Bool.eq_false_iff.mpr c61
                    subst c61
                    have H1 : (if (t361.toList == ([] : List UInt8) && (t362 == 0 && (t363 == 0))) = true then (if (t364.length : Int) = 0 then ((ratlinelaw03_awake.f k3).bind fun t369 => (some t369)) else (none)) else (none)) = some r := by rw [if_neg (show ¬ (false = true) by decide)] at H; exact H
                    clear H
                    have H := H1
                    clear H1
                    by_cases c80 : (t361.toList == ([] : List UInt8) && (t362 == 0 && (t363 == 0))) = true
                    · rw [if_pos c80] at H
                      have c80b0 : (t361.toList == ([] : List UInt8) && (t362 == 0 && (t363 == 0))) = true := c80
                      (try (have c80e : (t361.toList = ([] : List UInt8) ∧ (t362 = 0 ∧ (t363 = 0))) = True := eq_true (by simpa using c80b0)))
                      (try (have c80b1 : decide (t361.toList = ([] : List UInt8) && (t362 == 0 && (t363 == 0))) = true := by simpa using c80))
                      (try (have c80b2 : (t361.toList == ([] : List UInt8) && (t362 == 0 && (t363 == 0))) = true := by simpa using c80))
                      clear c80
                      by_cases c81 : (t364.length : Int) = 0
                      · rw [if_pos c81] at H
                        have c81b0 : ((t364.length : Int) == 0) = true := beq_iff_eq.mpr c81
                        have c81b1 : ((t364.length : Int) != 0) = false := bne_eq_false_iff_eq.mpr c81
                        clear c81
                        replace H := Option.bind_eq_some_iff.mp H
                        obtain ⟨t369, A820, H⟩ := H
                        replace H : (some t369) = some r := H
                        have A82 := Aside0.mk A820
                        clear A820
                        obtain rfl := Option.some.inj H
                        go_wp2_with (first | ((with_reducible refine gate_callee (f := 32) rfl ?_); refine goesL_ (some 92) rfl rfl Try.func32 (by kernel_rfl) rfl #[.slice A2 l2.length c2] rfl (by (try simp only [List.map_toArray, List.map_cons, List.map_nil]); first | done | rfl | (simp only [List.length_drop, List.length_take]; rfl)) ?_; (with_reducible refine (ikey_Take.calls _ _ l2 t361 t362 t363 t364 false _ ?side1 ?side2 A60.out).mono ?_); (case side1 => repeat (first | exact (Kd.C_below HR2.out HB.out) | (with_reducible refine Kd.C_alloc ?_ _) | (with_reducible refine Kd.C_drewN ?_ _) | (with_reducible refine Kd.C_drew ?_))); (case side2 => exact HC2.out); rintro e w83 ⟨v365, rfl, ho0, hb⟩; refine ⟨_, rfl, ?_⟩; have n0_ := Aside0.mk (Kd.R_elder' (by (with_reducible repeat (first | apply Kd.R_alloc | apply Kd.R_drewN | apply Kd.R_drew)); exact HO_8.out) (Kd.R_base ho0) hb); have n1_ := Aside0.mk (Kd.R_lower (Kd.R_new' ho0 (Kd.R_lt (by (with_reducible repeat (first | apply Kd.R_alloc | apply Kd.R_drewN | apply Kd.R_drew)); exact HO_8.out))) (below_size (by repeat (first | (with_reducible first | exact HB.out | apply below_alloc | apply pw_below_drewN | apply below_drew1 | refine below_set ?_ GE321.out) | exact HB.out)))); have n2_ := Aside0.mk (blk_below (g := gb321) (o := .cells #[.string a0_0, .int .u64 a0_1, .int .u8 a0_2] 39 (0, 0)) (by (with_reducible repeat (first | refine blk_drewN ?_ _ | refine blk_drew ?_ | refine blk_alloc ?_ _)); exact BK321.out) hb); have n3_ := Aside0.mk (below_step (by repeat (first | (with_reducible first | exact HB.out | apply below_alloc | apply pw_below_drewN | apply below_drew1 | refine below_set ?_ GE321.out) | exact HB.out)) hb); clear HO_8; clear BK321; clear HB; have HO_8 := n0_; have HO366 := n1_; have BK321 := n2_; have HB := n3_; clear n0_ n1_ n2_ n3_; (try clear hb); (try clear hb2); (try clear hk); (try clear hi); (try clear ho0)) | ((with_reducible refine gate_dst (N := 16) rfl ?_); (try (refine gate_guard (by rfl) ?_; dsimp only)); refine box_event ?hg (N := 16) ?hd (cs := #[.string (⟨#[]⟩ : ByteArray), .int .u64 0, .int .u8 0]) (t := 39) ?hr ?_; (case hd => rfl); (case hg => rfl); (case hr => first | (go_simp; done) | (go_simp; rfl)); intro gb368 hg w84 hbox hb; have n0_ := Aside0.mk (Kd.R_below (by (with_reducible repeat (first | apply Kd.R_alloc | apply Kd.R_drewN | apply Kd.R_drew)); exact HO_8.out) hb); have n1_ := Aside0.mk (Kd.R_below (by (with_reducible repeat (first | apply Kd.R_alloc | apply Kd.R_drewN | apply Kd.R_drew)); exact HO366.out) hb); have n2_ := Aside0.mk (blk_below (g := gb321) (o := .cells #[.string a0_0, .int .u64 a0_1, .int .u8 a0_2] 39 (0, 0)) (by (with_reducible repeat (first | refine blk_drewN ?_ _ | refine blk_drew ?_ | refine blk_alloc ?_ _)); exact BK321.out) hb); have n3_ := Aside0.mk (below_step (by repeat (first | (with_reducible first | exact HB.out | apply below_alloc | apply pw_below_drewN | apply below_drew1 | refine below_set ?_ GE321.out) | exact HB.out)) hb); have n4_ := Aside0.mk (hbox); have n5_ := Aside0.mk ((by rw [hg]; exact (below_size (by repeat (first | (with_reducible first | exact HB.out | apply below_alloc | apply pw_below_drewN | apply below_drew1 | refine below_set ?_ GE321.out) | exact HB.out))) : w.heap.size ≤ gb368)); have n6_ := Aside0.mk ((by rw [hg]; exact (below_size (by repeat (first | (with_reducible first | exact HB.out | apply below_alloc | apply pw_below_drewN | apply below_drew1 | refine below_set ?_ GE321.out) | exact HB.out))) : w.heap.size ≤ gb368)); have n7_ := Aside0.mk ((by rw [hg]; exact Nat.ne_of_lt (blk_lt (g := gb321) (o := .cells #[.string a0_0, .int .u64 a0_1, .int .u8 a0_2] 39 (0, 0)) (by (with_reducible repeat (first | refine blk_drewN ?_ _ | refine blk_drew ?_ | refine blk_alloc ?_ _)); exact BK321.out)) : gb321 ≠ gb368)); have n8_ := Aside0.mk ((by rw [hg]; exact Nat.ne_of_gt (blk_lt (g := gb321) (o := .cells #[.string a0_0, .int .u64 a0_1, .int .u8 a0_2] 39 (0, 0)) (by (with_reducible repeat (first | refine blk_drewN ?_ _ | refine blk_drew ?_ | refine blk_alloc ?_ _)); exact BK321.out)) : gb368 ≠ gb321)); clear HO_8; clear HO366; clear BK321; clear HB; have HO_8 := n0_; have HO366 := n1_; have BK321 := n2_; have HB := n3_; have BK368 := n4_; have GW368 := n5_; have GE368 := n6_; have NB321_368 := n7_; have NB368_321 := n8_; clear n0_ n1_ n2_ n3_ n4_ n5_ n6_ n7_ n8_; clear hb hbox hg; have hnb85 := NB368_321.out; have hnc85 := NB321_368.out; have hcz86_0 : w84.cell? ⟨gb368, 0, none⟩ = some (.string (⟨#[]⟩ : ByteArray)) := (blk_cell BK368.out 0).trans rfl; have hcz86_1 : w84.cell? ⟨gb368, 1, none⟩ = some (.int .u64 0) := (blk_cell BK368.out 1).trans rfl; have hcz86_2 : w84.cell? ⟨gb368, 2, none⟩ = some (.int .u8 0) := (blk_cell BK368.out 2).trans rfl; have hfz86_0 := blk_frozen BK368.out 0; have hfz86_1 := blk_frozen BK368.out 1; have hfz86_2 := blk_frozen BK368.out 2; obtain ⟨Ao87, co87, eo87⟩ := Kd.R_slice HO366.out; subst eo87) | (go_at_call 26; (with_reducible refine (ratlinelaw03_awake.calls k3  t369 _ A82.out).mono ?_); rintro e w88 ⟨rfl, hb⟩; have n0_ := Aside0.mk (Kd.R_below (by (with_reducible repeat (first | apply Kd.R_alloc | apply Kd.R_drewN | apply Kd.R_drew)); exact (Kd.R_mono (Kd.R_far (p := ⟨gb368, 2, none⟩) (Kd.R_far (p := ⟨gb368, 1, none⟩) (Kd.R_far (p := ⟨gb368, 0, none⟩) (Kd.R_types HO_8.out BK368.out (by decide)) (fun _ hk => hk.2) (.string t361)) (fun _ hk => hk.2) (.int .u64 t362)) (fun _ hk => hk.2) (.int .u8 t363)) (fun _ h_ => h_.1))) hb); have n1_ := Aside0.mk (Kd.R_below (by (with_reducible repeat (first | apply Kd.R_alloc | apply Kd.R_drewN | apply Kd.R_drew)); exact (Kd.R_mono (Kd.R_far (p := ⟨gb368, 2, none⟩) (Kd.R_far (p := ⟨gb368, 1, none⟩) (Kd.R_far (p := ⟨gb368, 0, none⟩) (Kd.R_types HO366.out BK368.out (by decide)) (fun _ hk => hk.2) (.string t361)) (fun _ hk => hk.2) (.int .u64 t362)) (fun _ hk => hk.2) (.int .u8 t363)) (fun _ h_ => h_.1))) hb); have n2_ := Aside0.mk (blk_below (g := gb321) (o := .cells #[.string a0_0, .int .u64 a0_1, .int .u8 a0_2] 39 (0, 0)) (by (with_reducible repeat (first | refine blk_drewN ?_ _ | refine blk_drew ?_ | refine blk_alloc ?_ _)); refine blk_far ?_ NB321_368.out _; (with_reducible repeat (first | refine blk_drewN ?_ _ | refine blk_drew ?_ | refine blk_alloc ?_ _)); refine blk_far ?_ NB321_368.out _; (with_reducible repeat (first | refine blk_drewN ?_ _ | refine blk_drew ?_ | refine blk_alloc ?_ _)); refine blk_far ?_ NB321_368.out _; (with_reducible repeat (first | refine blk_drewN ?_ _ | refine blk_drew ?_ | refine blk_alloc ?_ _)); exact BK321.out) hb); have n3_ := Aside0.mk (blk_below (g := gb368) (o := .cells #[.string t361, .int .u64 t362, .int .u8 t363] 39 (0, 0)) (by (with_reducible repeat (first | refine blk_drewN ?_ _ | refine blk_drew ?_ | refine blk_alloc ?_ _)); refine blk_put (cs := #[.string t361, .int .u64 t362, .int .u8 0]) ?_ 2 _ rfl; (with_reducible repeat (first | refine blk_drewN ?_ _ | refine blk_drew ?_ | refine blk_alloc ?_ _)); refine blk_put (cs := #[.string t361, .int .u64 0, .int .u8 0]) ?_ 1 _ rfl; (with_reducible repeat (first | refine blk_drewN ?_ _ | refine blk_drew ?_ | refine blk_alloc ?_ _)); refine blk_put (cs := #[.string (⟨#[]⟩ : ByteArray), .int .u64 0, .int .u8 0]) ?_ 0 _ rfl; (with_reducible repeat (first | refine blk_drewN ?_ _ | refine blk_drew ?_ | refine blk_alloc ?_ _)); exact BK368.out) hb); have n4_ := Aside0.mk (below_step (by repeat (first | (with_reducible first | exact HB.out | apply below_alloc | apply pw_below_drewN | apply below_drew1 | refine below_set ?_ GE321.out | refine below_set ?_ GE368.out) | exact HB.out)) hb); clear HO_8; clear HO366; clear BK321; clear BK368; clear HB; have HO_8 := n0_; have HO366 := n1_; have BK321 := n2_; have BK368 := n3_; have HB := n4_; clear n0_ n1_ n2_ n3_ n4_; (try clear hb); (try clear hb2); (try clear hk); (try clear hi)))
                        go_ret
                        exact ⟨by first | rfl | (simp [errW_none, errW_some] <;> rfl) | (simp [*, errW_none, errW_some] <;> rfl), by repeat (first | (with_reducible first | exact HB.out | apply below_alloc | apply pw_below_drewN | apply below_drew1 | refine below_set ?_ GE321.out | refine below_set ?_ GE368.out) | exact HB.out)⟩
                      · rw [if_neg c81] at H
                        exact absurd H (by simp)
                    · rw [if_neg c80] at H
                      exact absurd H (by simp)

end Go.Proofs.Ytojemmipkpckbaa.P
