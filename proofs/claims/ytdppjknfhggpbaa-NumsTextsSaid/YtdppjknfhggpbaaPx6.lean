/- Proved here: functions of the program return what the Lean functions beside them say, or a law of the program holds. Conditions: those of each theorem. Written for this claim by a program: the printer of the kit, with some contracts given. -/
import Derived.Test.YtdppjknfhggpbaaPx0
import Derived.Test.YtdppjknfhggpbaaPx1
import Derived.Test.YtdppjknfhggpbaaPx2
import Derived.Test.YtdppjknfhggpbaaPx4
namespace Go.Proofs.Ytdppjknfhggpbaa.P
open Go.RowKit Go.Proofs.YtdppjknfhggpbaaG Go.Proofs.YtdppjknfhggpbaaW.PrintWords Go.Proofs.YtdppjknfhggpbaaW.PrintLast Go.Proofs.YtdppjknfhggpbaaW.PrintMore
attribute [local go_sem] max2_int min2_int max_two min_two max_three min_three max_four min_four   -- for this text's walks alone
set_option linter.unusedVariables false
set_option linter.unusedSimpArgs false

/-! ### ratlinelaw02_NumsTexts: function 10 -/
def ratlinelaw02_NumsTexts.j0 : Nat → ByteArray → Int → List Int → Bool → Option (Bool)
  | 0, _, _, _, _ => none
  | k + 1, x0, x2, x7, x58 => if x58 = true then (none) else ((nums_Put.f ([] : List Int) (IntKind.u64.wrap ((x0.size : Int)))).bind fun t266 => (if (x7.length : Int) = (wrap64 ((t266.length : Int) + (x0.size : Int))) then (if (x7.length : Int) = 0 then (none) else (if 0 ≤ (Int.tmod (wrap64 (x2)) (x7.length : Int)) then (if (Int.tmod (wrap64 (x2)) (x7.length : Int)) ≤ (x7.length : Int) then ((nums_TakeText.f (x7.take ((Int.tmod (wrap64 (x2)) (x7.length : Int)) : Int).toNat) 300).bind fun bt273 => (if bt273.2.2 = true then (none) else (if bt273.1.toList = ([] : List UInt8) then (if (bt273.2.1.length : Int) = 0 then ((ratlinelaw02_awake.f).bind fun t278 => (some t278)) else (none)) else (none)))) else (none)) else (none))) else (none)))
def ratlinelaw02_NumsTexts.f (k : Nat) (a0 : ByteArray) (a1 : Int) (a2 : Int) : Option (Bool) := if (a0.size : Int) > 300 then ((ratlinelaw02_awake.f).bind fun t257 => (some t257)) else ((nums_PutText.f ([] : List Int) a0).bind fun t258 => ((nums_TakeText.f t258 a1).bind fun bt261 => (if (bt261.2.2 != (decide (a1 ≥ (a0.size : Int)))) = true then (ratlinelaw02_NumsTexts.j0 k a0 a2 t258 true) else (if bt261.2.2 = true then (if bt261.1.toList = a0.toList then (if (bt261.2.1.length : Int) = 0 then (ratlinelaw02_NumsTexts.j0 k a0 a2 t258 false) else (ratlinelaw02_NumsTexts.j0 k a0 a2 t258 true)) else (ratlinelaw02_NumsTexts.j0 k a0 a2 t258 true)) else (if bt261.1.toList = ([] : List UInt8) then (ratlinelaw02_NumsTexts.j0 k a0 a2 t258 ((bt261.2.1.length : Int) != 0)) else (ratlinelaw02_NumsTexts.j0 k a0 a2 t258 true))))))
theorem ratlinelaw02_NumsTexts.mono_l : ∀ k, (∀ y0 y1 y2 y3, LeO (ratlinelaw02_NumsTexts.j0 k y0 y1 y2 y3) (ratlinelaw02_NumsTexts.j0 (k + 1) y0 y1 y2 y3))
  | 0 => fun _ _ _ _ r h => by simp [ratlinelaw02_NumsTexts.j0] at h
  | k + 1 => by
    have ih0 := ratlinelaw02_NumsTexts.mono_l k
    · intro y0 y1 y2 y3
      unfold ratlinelaw02_NumsTexts.j0
      repeat' first
      | (with_reducible exact ih0 _ _ _ _)
      | (with_reducible exact LeO.refl _)
      | (with_reducible exact LeO.none _)
      | (with_reducible refine LeO.ite ?_ ?_)
      | (with_reducible refine LeO.bind ?_ (fun _ => ?_))
      | exact ih0 _ _ _ _
      | exact LeO.none _
      | refine LeO.ite ?_ ?_
      | refine LeO.bind ?_ (fun _ => ?_)
theorem ratlinelaw02_NumsTexts.mono : ∀ a0 a1 a2 k, LeO (ratlinelaw02_NumsTexts.f k a0 a1 a2) (ratlinelaw02_NumsTexts.f (k + 1) a0 a1 a2) := by
  intro a0 a1 a2 k
  have ih0 := ratlinelaw02_NumsTexts.mono_l k
  unfold ratlinelaw02_NumsTexts.f
  repeat' first
      | (with_reducible exact ih0 _ _ _ _)
      | (with_reducible exact LeO.refl _)
      | (with_reducible exact LeO.none _)
      | (with_reducible refine LeO.ite ?_ ?_)
      | (with_reducible refine LeO.bind ?_ (fun _ => ?_))
      | exact ih0 _ _ _ _
      | exact LeO.none _
      | refine LeO.ite ?_ ?_
      | refine LeO.bind ?_ (fun _ => ?_)
set_option maxHeartbeats 8000000 in
set_option maxRecDepth 100000 in
theorem ratlinelaw02_NumsTexts.calls (k : Nat) (a0 : ByteArray) (a1 : Int) (a2 : Int) (r : Bool) (w : World) (h : ratlinelaw02_NumsTexts.f k a0 a1 a2 = some r) :
    Calls Try.prog 10 #[.string a0, .int .i64 a1, .int .u16 a2] w fun e w' => e = .returned (.bool r) ∧ Below w.heap.size w w' := by
  have HB := Aside0.mk (Below.refl w.heap.size w)
  have H : (if (a0.size : Int) > 300 then ((ratlinelaw02_awake.f).bind fun t257 => (some t257)) else ((nums_PutText.f ([] : List Int) a0).bind fun t258 => ((nums_TakeText.f t258 a1).bind fun bt261 => (if (bt261.2.2 != (decide (a1 ≥ (a0.size : Int)))) = true then (ratlinelaw02_NumsTexts.j0 k a0 a2 t258 true) else (if bt261.2.2 = true then (if bt261.1.toList = a0.toList then (if (bt261.2.1.length : Int) = 0 then (ratlinelaw02_NumsTexts.j0 k a0 a2 t258 false) else (ratlinelaw02_NumsTexts.j0 k a0 a2 t258 true)) else (ratlinelaw02_NumsTexts.j0 k a0 a2 t258 true)) else (if bt261.1.toList = ([] : List UInt8) then (ratlinelaw02_NumsTexts.j0 k a0 a2 t258 ((bt261.2.1.length : Int) != 0)) else (ratlinelaw02_NumsTexts.j0 k a0 a2 t258 true))))))) = some r := h
  clear h
  by_cases c4 : (a0.size : Int) > 300
  · rw [if_pos c4] at H
    have c4b0 : decide (300 < (a0.size : Int)) = true := decide_eq_true c4
    have c4b1 : decide (300 < a0.size) = true := decide_eq_true (by omega)
    clear c4
    replace H := Option.bind_eq_some_iff.mp H
    obtain ⟨t257, A50, H⟩ := H
    replace H : (some t257) = some r := H
    have A5 := Aside0.mk A50
    clear A50
    obtain rfl := Option.some.inj H
    go_enter Try.func10, Try.ntmps10
    go_wp2_with (first | (go_at_call 24; (with_reducible refine (ratlinelaw02_awake.calls  t257 _ A5.out).mono ?_); rintro e w6 ⟨rfl, hb⟩; have n0_ := Aside0.mk (below_step (by repeat (first | (with_reducible first | exact HB.out | apply below_alloc | apply pw_below_drewN | apply below_drew1) | exact HB.out)) hb); clear HB; have HB := n0_; clear n0_; (try clear hb); (try clear hb2); (try clear hk); (try clear hi); (try apply_assumption)))
    go_ret
    exact ⟨by first | rfl | (simp [errW_none, errW_some] <;> rfl) | (simp [*, errW_none, errW_some] <;> rfl), by repeat (first | (with_reducible first | exact HB.out | apply below_alloc | apply pw_below_drewN | apply below_drew1) | exact HB.out)⟩
  · rw [if_neg c4] at H
    have c4b0 : decide (300 < (a0.size : Int)) = false := decide_eq_false c4
    have c4b1 : decide (300 < a0.size) = false := decide_eq_false (by omega)
    clear c4
    replace H := Option.bind_eq_some_iff.mp H
    obtain ⟨t258, A70, H⟩ := H
    replace H : ((nums_TakeText.f t258 a1).bind fun bt261 => (if (bt261.2.2 != (decide (a1 ≥ (a0.size : Int)))) = true then (ratlinelaw02_NumsTexts.j0 k a0 a2 t258 true) else (if bt261.2.2 = true then (if bt261.1.toList = a0.toList then (if (bt261.2.1.length : Int) = 0 then (ratlinelaw02_NumsTexts.j0 k a0 a2 t258 false) else (ratlinelaw02_NumsTexts.j0 k a0 a2 t258 true)) else (ratlinelaw02_NumsTexts.j0 k a0 a2 t258 true)) else (if bt261.1.toList = ([] : List UInt8) then (ratlinelaw02_NumsTexts.j0 k a0 a2 t258 ((bt261.2.1.length : Int) != 0)) else (ratlinelaw02_NumsTexts.j0 k a0 a2 t258 true))))) = some r := H
    have A7 := Aside0.mk A70
    clear A70
    replace H := Option.bind_eq_some_iff.mp H
    obtain ⟨⟨t261, t262, t263⟩, A80, H⟩ := H
    replace H : (if (t263 != (decide (a1 ≥ (a0.size : Int)))) = true then (ratlinelaw02_NumsTexts.j0 k a0 a2 t258 true) else (if t263 = true then (if t261.toList = a0.toList then (if (t262.length : Int) = 0 then (ratlinelaw02_NumsTexts.j0 k a0 a2 t258 false) else (ratlinelaw02_NumsTexts.j0 k a0 a2 t258 true)) else (ratlinelaw02_NumsTexts.j0 k a0 a2 t258 true)) else (if t261.toList = ([] : List UInt8) then (ratlinelaw02_NumsTexts.j0 k a0 a2 t258 ((t262.length : Int) != 0)) else (ratlinelaw02_NumsTexts.j0 k a0 a2 t258 true)))) = some r := H
    have A8 := Aside0.mk A80
    clear A80
    have HC9 := Aside0.mk H
    clear H
    go_enter Try.func10, Try.ntmps10
    go_upto_region 5 with (first | ((with_reducible refine gate_callee (f := 25) rfl ?_); refine goesL_ (some 19) rfl rfl Try.func25 (by kernel_rfl) rfl #[.slice none 0 0, .string a0] rfl (by (try simp only [List.map_toArray, List.map_cons, List.map_nil]); first | done | rfl | (simp only [List.length_drop, List.length_take]; rfl)) ?_; (refine (nums_PutText.calls _ _ ([] : List Int) a0 t258 _ ?side1 ?side2 A7.out).mono ?_); (case side1 => exact Kd.C_nil _ _); (case side2 => exact Nat.le_refl _); rintro e w10 ⟨v259, rfl, ho0, hb⟩; refine ⟨_, rfl, ?_⟩; have n0_ := Aside0.mk (Kd.R_lower ho0 (below_size (by repeat (first | (with_reducible first | exact HB.out | apply below_alloc | apply pw_below_drewN | apply below_drew1) | exact HB.out)))); have n1_ := Aside0.mk (below_step (by repeat (first | (with_reducible first | exact HB.out | apply below_alloc | apply pw_below_drewN | apply below_drew1) | exact HB.out)) hb); clear HB; have HO260 := n0_; have HB := n1_; clear n0_ n1_; (try clear hb); (try clear hb2); (try clear hk); (try clear hi); (try clear ho0); obtain ⟨Ao11, co11, eo11⟩ := Kd.R_slice HO260.out; subst eo11) | ((with_reducible refine gate_callee (f := 26) rfl ?_); refine goesL_ (some 23) rfl rfl Try.func26 (by kernel_rfl) rfl #[.slice Ao11 t258.length co11, .int .i64 a1] rfl (by (try simp only [List.map_toArray, List.map_cons, List.map_nil]); first | done | rfl | (simp only [List.length_drop, List.length_take]; rfl)) ?_; (with_reducible refine (nums_TakeText.calls _ _ t258 a1 t261 t262 t263 _ ?side1 ?side2 A8.out).mono ?_); (case side1 => repeat (first | exact (Kd.R_reads' HO260.out).2.2 | (with_reducible refine Kd.C_alloc ?_ _) | (with_reducible refine Kd.C_drewN ?_ _) | (with_reducible refine Kd.C_drew ?_))); (case side2 => exact (Kd.R_reads' HO260.out).2.1); rintro e w12 ⟨v264, rfl, ho0, hb⟩; refine ⟨_, rfl, ?_⟩; have n0_ := Aside0.mk (Kd.R_elder' (by (with_reducible repeat (first | apply Kd.R_alloc | apply Kd.R_drewN | apply Kd.R_drew)); exact HO260.out) (Kd.R_base ho0) hb); have n1_ := Aside0.mk (Kd.R_lower (Kd.R_new' ho0 (Kd.R_lt (by (with_reducible repeat (first | apply Kd.R_alloc | apply Kd.R_drewN | apply Kd.R_drew)); exact HO260.out))) (below_size (by repeat (first | (with_reducible first | exact HB.out | apply below_alloc | apply pw_below_drewN | apply below_drew1) | exact HB.out)))); have n2_ := Aside0.mk (below_step (by repeat (first | (with_reducible first | exact HB.out | apply below_alloc | apply pw_below_drewN | apply below_drew1) | exact HB.out)) hb); clear HO260; clear HB; have HO260 := n0_; have HO265 := n1_; have HB := n2_; clear n0_ n1_ n2_; (try clear hb); (try clear hb2); (try clear hk); (try clear hi); (try clear ho0)))
    (try simp only [Act.put, List.setIfInBounds_toArray, List.set_cons_zero, List.set_cons_succ])
    go_cut [58] (fun v58 wc => ∃ (kq : Nat) (x58_8 : Bool), v58 = .bool x58_8 ∧ Aside0 (ratlinelaw02_NumsTexts.j0 kq a0 a2 t258 x58_8 = some r) ∧ Aside0 (kq ≤ k) ∧ Aside0 (Kd.R (Kd.int .u8) 5 wc w.heap.size (fun _ => True) (.slice Ao11 t258.length co11) t258) ∧ Aside0 (Below w.heap.size w wc))
    case first =>
      have H := HC9.out
      clear HC9
      by_cases c13 : (t263 != (decide (a1 ≥ (a0.size : Int)))) = true
      · rw [if_pos c13] at H
        have c13b0 : (t263 != (decide (a1 ≥ (a0.size : Int)))) = true := c13
        (try (have c13b1 : decide (t263 = (decide (a1 ≥ (a0.size : Int)))) = false := by simpa using c13))
        (try (have c13b2 : (t263 == (decide (a1 ≥ (a0.size : Int)))) = false := by simpa using c13))
        (try (have c13b3 : ¬ (t263 = (decide (a1 ≥ (a0.size : Int)))) := by simpa using c13))
        clear c13
        (first | rw [c13b0] | (simp only [i64_w, i32_w]; rw [c13b0]) | skip)
        have H' := Aside0.mk H
        clear H
        go_wp2
        go_meet
        case rel => exact ⟨_, (true), (by first | rfl | (simp; done) | (simp [*]; done)), H', ⟨by first | omega | exact Nat.le_refl _⟩, ⟨by (with_reducible repeat (first | apply Kd.R_alloc | apply Kd.R_drewN | apply Kd.R_drew)); exact Kd.R_mono HO260.out (fun _ hk => trivial)⟩, ⟨by repeat (first | (with_reducible first | exact HB.out | apply below_alloc | apply pw_below_drewN | apply below_drew1) | exact HB.out)⟩⟩
      · rw [if_neg c13] at H
        have c13b0 : (t263 != (decide (a1 ≥ (a0.size : Int)))) = false := by simpa using c13
        (try (have c13b1 : decide (t263 = (decide (a1 ≥ (a0.size : Int)))) = true := by simpa using c13))
        (try (have c13b2 : (t263 == (decide (a1 ≥ (a0.size : Int)))) = true := by simpa using c13))
        clear c13
        (first | rw [c13b0] | (simp only [i64_w, i32_w]; rw [c13b0]) | skip)
        by_cases c14 : t263 = true
        · subst c14
          have H1 : (if t261.toList = a0.toList then (if (t262.length : Int) = 0 then (ratlinelaw02_NumsTexts.j0 k a0 a2 t258 false) else (ratlinelaw02_NumsTexts.j0 k a0 a2 t258 true)) else (ratlinelaw02_NumsTexts.j0 k a0 a2 t258 true)) = some r := by rw [if_pos rfl] at H; exact H
          clear H
          have H := H1
          clear H1
          by_cases c15 : t261.toList = a0.toList
          · rw [if_pos c15] at H
            have c15b0 : (t261.toList == a0.toList) = true := beq_iff_eq.mpr c15
            have c15b1 : (t261.toList != a0.toList) = false := bne_eq_false_iff_eq.mpr c15
            clear c15
            by_cases c16 : (t262.length : Int) = 0
            · rw [if_pos c16] at H
              have c16b0 : ((t262.length : Int) == 0) = true := beq_iff_eq.mpr c16
              have c16b1 : ((t262.length : Int) != 0) = false := bne_eq_false_iff_eq.mpr c16
              clear c16
              have H' := Aside0.mk H
              clear H
              obtain ⟨Ao17, co17, eo17⟩ := Kd.R_slice HO265.out
              subst eo17
              go_wp2
              go_meet
              case rel => exact ⟨_, (false), (by first | rfl | (simp; done) | (simp [*]; done)), H', ⟨by first | omega | exact Nat.le_refl _⟩, ⟨by (with_reducible repeat (first | apply Kd.R_alloc | apply Kd.R_drewN | apply Kd.R_drew)); exact Kd.R_mono HO260.out (fun _ hk => trivial)⟩, ⟨by repeat (first | (with_reducible first | exact HB.out | apply below_alloc | apply pw_below_drewN | apply below_drew1) | exact HB.out)⟩⟩
            · rw [if_neg c16] at H
              have c16b0 : ((t262.length : Int) == 0) = false := beq_eq_false_iff_ne.mpr c16
              have c16b1 : ((t262.length : Int) != 0) = true := bne_iff_ne.mpr c16
              have c16b2 : ¬ (t262 = []) := fun h_ => c16 (by rw [h_]; rfl)
              have H' := Aside0.mk H
              clear H
              obtain ⟨Ao18, co18, eo18⟩ := Kd.R_slice HO265.out
              subst eo18
              go_wp2
              go_meet
              case rel => exact ⟨_, (true), (by first | rfl | (simp; done) | (simp [*]; done)), H', ⟨by first | omega | exact Nat.le_refl _⟩, ⟨by (with_reducible repeat (first | apply Kd.R_alloc | apply Kd.R_drewN | apply Kd.R_drew)); exact Kd.R_mono HO260.out (fun _ hk => trivial)⟩, ⟨by repeat (first | (with_reducible first | exact HB.out | apply below_alloc | apply pw_below_drewN | apply below_drew1) | exact HB.out)⟩⟩
          · rw [if_neg c15] at H
            have c15b0 : (t261.toList == a0.toList) = false := beq_eq_false_iff_ne.mpr c15
            have c15b1 : (t261.toList != a0.toList) = true := bne_iff_ne.mpr c15
            have H' := Aside0.mk H
            clear H
            go_wp2
            go_meet
            case rel => exact ⟨_, (true), (by first | rfl | (simp; done) | (simp [*]; done)), H', ⟨by first | omega | exact Nat.le_refl _⟩, ⟨by (with_reducible repeat (first | apply Kd.R_alloc | apply Kd.R_drewN | apply Kd.R_drew)); exact Kd.R_mono HO260.out (fun _ hk => trivial)⟩, ⟨by repeat (first | (with_reducible first | exact HB.out | apply below_alloc | apply pw_below_drewN | apply below_drew1) | exact HB.out)⟩⟩
        · replace c14 := Bool.eq_false_iff.mpr c14
          subst c14
          have H1 : (if t261.toList = ([] : List UInt8) then (ratlinelaw02_NumsTexts.j0 k a0 a2 t258 ((t262.length : Int) != 0)) else (ratlinelaw02_NumsTexts.j0 k a0 a2 t258 true)) = some r := by rw [if_neg (show ¬ (false = true) by decide)] at H; exact H
          clear H
          have H := H1
          clear H1
          by_cases c19 : t261.toList = ([] : List UInt8)
          · rw [if_pos c19] at H
            have c19b0 : (t261.toList == ([] : List UInt8)) = true := beq_iff_eq.mpr c19
            have c19b1 : (t261.toList != ([] : List UInt8)) = false := bne_eq_false_iff_eq.mpr c19
            clear c19
            have H' := Aside0.mk H
            clear H
            obtain ⟨Ao20, co20, eo20⟩ := Kd.R_slice HO265.out
            subst eo20
            go_wp2
            go_meet
            case rel => exact ⟨_, (((t262.length : Int) != 0)), (by first | rfl | (simp; done) | (simp [*]; done)), H', ⟨by first | omega | exact Nat.le_refl _⟩, ⟨by (with_reducible repeat (first | apply Kd.R_alloc | apply Kd.R_drewN | apply Kd.R_drew)); exact Kd.R_mono HO260.out (fun _ hk => trivial)⟩, ⟨by repeat (first | (with_reducible first | exact HB.out | apply below_alloc | apply pw_below_drewN | apply below_drew1) | exact HB.out)⟩⟩
          · rw [if_neg c19] at H
            have c19b0 : (t261.toList == ([] : List UInt8)) = false := beq_eq_false_iff_ne.mpr c19
            have c19b1 : (t261.toList != ([] : List UInt8)) = true := bne_iff_ne.mpr c19
            have H' := Aside0.mk H
            clear H
            go_wp2
            go_meet
            case rel => exact ⟨_, (true), (by first | rfl | (simp; done) | (simp [*]; done)), H', ⟨by first | omega | exact Nat.le_refl _⟩, ⟨by (with_reducible repeat (first | apply Kd.R_alloc | apply Kd.R_drewN | apply Kd.R_drew)); exact Kd.R_mono HO260.out (fun _ hk => trivial)⟩, ⟨by repeat (first | (with_reducible first | exact HB.out | apply below_alloc | apply pw_below_drewN | apply below_drew1) | exact HB.out)⟩⟩
    case rest =>
      clear HC9
      try clear c1
      try clear c2
      try clear p2
      try clear c4
      try clear c4b0
      try clear c4b1
      try clear c10
      try clear c13
      try clear c13b0
      try clear c13b1
      try clear c13b2
      try clear c14
      try clear c15
      try clear c15b0
      try clear c15b1
      try clear c16
      try clear c16b0
      try clear c16b1
      try clear c16b2
      try clear c19
      try clear c19b0
      try clear c19b1
      obtain ⟨kq, x58_8, rfl, HA, HJ8, HO_7, HB⟩ := hcut
      cases kq with
      | zero => exact absurd HA.out (by simp [ratlinelaw02_NumsTexts.j0])
      | succ kj8 =>
        have H := HA.out
        clear HA
        simp only [ratlinelaw02_NumsTexts.j0] at H
        by_cases c21 : x58_8 = true
        · subst c21
          have H1 : (none) = some r := by rw [if_pos rfl] at H; exact H
          clear H
          have H := H1
          clear H1
          exact absurd H (by simp)
        · replace c21 := Bool.eq_false_iff.mpr c21
          subst c21
          have H1 : ((nums_Put.f ([] : List Int) (IntKind.u64.wrap ((a0.size : Int)))).bind fun t266 => (if (t258.length : Int) = (wrap64 ((t266.length : Int) + (a0.size : Int))) then (if (t258.length : Int) = 0 then (none) else (if 0 ≤ (Int.tmod (wrap64 (a2)) (t258.length : Int)) then (if (Int.tmod (wrap64 (a2)) (t258.length : Int)) ≤ (t258.length : Int) then ((nums_TakeText.f (t258.take ((Int.tmod (wrap64 (a2)) (t258.length : Int)) : Int).toNat) 300).bind fun bt273 => (if bt273.2.2 = true then (none) else (if bt273.1.toList = ([] : List UInt8) then (if (bt273.2.1.length : Int) = 0 then ((ratlinelaw02_awake.f).bind fun t278 => (some t278)) else (none)) else (none)))) else (none)) else (none))) else (none))) = some r := by rw [if_neg (show ¬ (false = true) by decide)] at H; exact H
          clear H
          have H := H1
          clear H1
          replace H := Option.bind_eq_some_iff.mp H
          obtain ⟨t266, A220, H⟩ := H
          replace H : (if (t258.length : Int) = (wrap64 ((t266.length : Int) + (a0.size : Int))) then (if (t258.length : Int) = 0 then (none) else (if 0 ≤ (Int.tmod (wrap64 (a2)) (t258.length : Int)) then (if (Int.tmod (wrap64 (a2)) (t258.length : Int)) ≤ (t258.length : Int) then ((nums_TakeText.f (t258.take ((Int.tmod (wrap64 (a2)) (t258.length : Int)) : Int).toNat) 300).bind fun bt273 => (if bt273.2.2 = true then (none) else (if bt273.1.toList = ([] : List UInt8) then (if (bt273.2.1.length : Int) = 0 then ((ratlinelaw02_awake.f).bind fun t278 => (some t278)) else (none)) else (none)))) else (none)) else (none))) else (none)) = some r := H
          have A22 := Aside0.mk A220
          clear A220
          by_cases c23 : (t258.length : Int) = (wrap64 ((t266.length : Int) + (a0.size : Int)))
          · rw [if_pos c23] at H
            have c23b0 : ((t258.length : Int) == (wrap64 ((t266.length : Int) + (a0.size : Int)))) = true := beq_iff_eq.mpr c23
            have c23b1 : ((t258.length : Int) != (wrap64 ((t266.length : Int) + (a0.size : Int)))) = false := bne_eq_false_iff_eq.mpr c23
            clear c23
            by_cases c24 : (t258.length : Int) = 0
            · rw [if_pos c24] at H
              exact absurd H (by simp)
            · rw [if_neg c24] at H
              have c24b0 : ((t258.length : Int) == 0) = false := beq_eq_false_iff_ne.mpr c24
              have c24b1 : ((t258.length : Int) != 0) = true := bne_iff_ne.mpr c24
              have c24b2 : ¬ (t258 = []) := fun h_ => c24 (by rw [h_]; rfl)
              obtain ⟨ji25, hji25⟩ : ∃ j_ : Int, (Int.tmod (wrap64 (a2)) (t258.length : Int)) = j_ := ⟨_, rfl⟩
              replace H : (if 0 ≤ (ji25) then (if (ji25) ≤ (t258.length : Int) then ((nums_TakeText.f (t258.take ((ji25) : Int).toNat) 300).bind fun bt273 => (if bt273.2.2 = true then (none) else (if bt273.1.toList = ([] : List UInt8) then (if (bt273.2.1.length : Int) = 0 then ((ratlinelaw02_awake.f).bind fun t278 => (some t278)) else (none)) else (none)))) else (none)) else (none)) = some r := by first | (rw [hji25] at H; exact H) | (simp only [hji25] at H ⊢; exact H)
              (try rw [hji25] at A22)
              by_cases c26 : 0 ≤ (ji25)
              · rw [if_pos c26] at H
                have c26b0 := eq_true c26
                have c26b1 : decide (0 ≤ (ji25)) = true := decide_eq_true c26
                clear c26
                by_cases c27 : (ji25) ≤ (t258.length : Int)
                · rw [if_pos c27] at H
                  have c27b0 := eq_true c27
                  have c27b1 : decide ((ji25) ≤ (t258.length : Int)) = true := decide_eq_true c27
                  clear c27
                  obtain ⟨y269, hy269⟩ : ∃ y_ : List Int, y_ = (t258.take ((ji25) : Int).toNat) := ⟨_, rfl⟩
                  replace H : ((nums_TakeText.f y269 300).bind fun bt273 => (if bt273.2.2 = true then (none) else (if bt273.1.toList = ([] : List UInt8) then (if (bt273.2.1.length : Int) = 0 then ((ratlinelaw02_awake.f).bind fun t278 => (some t278)) else (none)) else (none)))) = some r := by first | (rw [hy269]; with_reducible exact H) | (have H2_ := (Option.bind_some _ _).symm.trans H; rw [hy269]; with_reducible exact H2_) | (have H2_ := (Option.bind_some _ _).symm.trans H; with_reducible exact H2_) | with_reducible exact H | (rw [hy269]; exact H) | exact H
                  have Ny269 := Aside0.mk hy269
                  clear hy269
                  replace H := Option.bind_eq_some_iff.mp H
                  obtain ⟨⟨t273, t274, t275⟩, A280, H⟩ := H
                  replace H : (if t275 = true then (none) else (if t273.toList = ([] : List UInt8) then (if (t274.length : Int) = 0 then ((ratlinelaw02_awake.f).bind fun t278 => (some t278)) else (none)) else (none))) = some r := H
                  have A28 := Aside0.mk A280
                  clear A280
                  by_cases c29 : t275 = true
                  · subst c29
                    have H1 : (none) = some r := by rw [if_pos rfl] at H; exact H
                    clear H
                    have H := H1
                    clear H1
                    exact absurd H (by simp)
                  · replace c29 := Bool.eq_false_iff.mpr c29
                    subst c29
                    have H1 : (if t273.toList = ([] : List UInt8) then (if (t274.length : Int) = 0 then ((ratlinelaw02_awake.f).bind fun t278 => (some t278)) else (none)) else (none)) = some r := by rw [if_neg (show ¬ (false = true) by decide)] at H; exact H
                    clear H
                    have H := H1
                    clear H1
                    by_cases c30 : t273.toList = ([] : List UInt8)
                    · rw [if_pos c30] at H
                      have c30b0 : (t273.toList == ([] : List UInt8)) = true := beq_iff_eq.mpr c30
                      have c30b1 : (t273.toList != ([] : List UInt8)) = false := bne_eq_false_iff_eq.mpr c30
                      clear c30
                      by_cases c31 : (t274.length : Int) = 0
                      · rw [if_pos c31] at H
                        have c31b0 : ((t274.length : Int) == 0) = true := beq_iff_eq.mpr c31
                        have c31b1 : ((t274.length : Int) != 0) = false := bne_eq_false_iff_eq.mpr c31
                        clear c31
                        replace H := Option.bind_eq_some_iff.mp H
                        obtain ⟨t278, A320, H⟩ := H
                        replace H : (some t278) = some r := H
                        have A32 := Aside0.mk A320
                        clear A320
                        obtain rfl := Option.some.inj H
                        go_wp2_with (first | ((with_reducible refine gate_callee (f := 22) rfl ?_); refine goesL_ (some 64) rfl rfl Try.func22 (by kernel_rfl) rfl #[.slice none 0 0, .int .u64 (IntKind.u64.wrap ((a0.size : Int)))] rfl (by (try simp only [List.map_toArray, List.map_cons, List.map_nil]); first | done | rfl | (simp only [List.length_drop, List.length_take]; rfl)) ?_; (refine (nums_Put.calls _ _ ([] : List Int) (IntKind.u64.wrap ((a0.size : Int))) t266 _ ?side1 ?side2 A22.out).mono ?_); (case side1 => exact Kd.C_nil _ _); (case side2 => exact Nat.le_refl _); rintro e w33 ⟨v267, rfl, ho0, hb⟩; refine ⟨_, rfl, ?_⟩; have n0_ := Aside0.mk (Kd.R_elder' (by (with_reducible repeat (first | apply Kd.R_alloc | apply Kd.R_drewN | apply Kd.R_drew)); exact HO_7.out) (Kd.R_base ho0) hb); have n1_ := Aside0.mk (Kd.R_lower (Kd.R_new' ho0 (Kd.R_lt (by (with_reducible repeat (first | apply Kd.R_alloc | apply Kd.R_drewN | apply Kd.R_drew)); exact HO_7.out))) (below_size (by repeat (first | (with_reducible first | exact HB.out | apply below_alloc | apply pw_below_drewN | apply below_drew1) | exact HB.out)))); have n2_ := Aside0.mk (below_step (by repeat (first | (with_reducible first | exact HB.out | apply below_alloc | apply pw_below_drewN | apply below_drew1) | exact HB.out)) hb); clear HO_7; clear HB; have HO_7 := n0_; have HO268 := n1_; have HB := n2_; clear n0_ n1_ n2_; (try clear hb); (try clear hb2); (try clear hk); (try clear hi); (try clear ho0); obtain ⟨Ao34, co34, eo34⟩ := Kd.R_slice HO268.out; subst eo34; have q35 : ((ji25) : Int) ≤ ((t258.length : Int) : Int) := of_decide_eq_true (by first | (with_reducible assumption) | assumption); obtain ⟨i035, hi035, _, hsz35, _⟩ := info_parts info5; have hroom35 : t258.length ≤ co11 := (Kd.R_reads' HO_7.out).2.1; have hC35 : Kd.C (Kd.int .u8) _ Ao11 t258.length t258 := (Kd.R_reads' HO_7.out).2.2; have hcut35 := cut_to (P := Try.prog) 22 5 .i64 Try.underlying22 hi035 Ao11 t258.length co11 (ji25) (of_decide_eq_true (by first | (with_reducible assumption) | assumption)) q35 hroom35; have hr35 := Kd.C_take (m := ((ji25) : Int).toNat) hC35 (by omega); have hy35 : y269.length = ((ji25) : Int).toNat := (by rw [Ny269.out, List.length_take]; omega); rw [← Ny269.out] at hr35; rw [← hy35] at hcut35; have HR272 := Aside0.mk hr35; have HC272 := Aside0.mk (show y269.length ≤ co11 from by omega); clear hr35 hC35 hroom35 hi035 hsz35; have KY35 := Aside0.mk hy35; clear hy35; have KL35 := Aside0.mk (show ((ji25) : Int).toNat ≤ t258.length from by omega); replace q35 := eq_true q35) | ((with_reducible refine gate_callee (f := 26) rfl ?_); refine goesL_ (some 78) rfl rfl Try.func26 (by kernel_rfl) rfl #[.slice Ao11 y269.length co11, .int .i64 300] rfl (by (try simp only [List.map_toArray, List.map_cons, List.map_nil]); first | done | rfl | (simp only [List.length_drop, List.length_take]; rfl)) ?_; (with_reducible refine (nums_TakeText.calls _ _ y269 300 t273 t274 false _ ?side1 ?side2 A28.out).mono ?_); (case side1 => repeat (first | exact (by repeat (first | (with_reducible exact HR272.out) | (with_reducible refine Kd.C_alloc ?_ _) | (with_reducible refine Kd.C_drewN ?_ _) | (with_reducible refine Kd.C_drew ?_) | exact HR272.out)) | (with_reducible refine Kd.C_alloc ?_ _) | (with_reducible refine Kd.C_drewN ?_ _) | (with_reducible refine Kd.C_drew ?_))); (case side2 => exact HC272.out); rintro e w36 ⟨v276, rfl, ho0, hb⟩; refine ⟨_, rfl, ?_⟩; have n0_ := Aside0.mk (Kd.R_elder' (by (with_reducible repeat (first | apply Kd.R_alloc | apply Kd.R_drewN | apply Kd.R_drew)); exact HO_7.out) (Kd.R_base ho0) hb); have n1_ := Aside0.mk (Kd.R_elder' (by (with_reducible repeat (first | apply Kd.R_alloc | apply Kd.R_drewN | apply Kd.R_drew)); exact HO268.out) (Kd.R_base ho0) hb); have n2_ := Aside0.mk (Kd.R_lower (Kd.R_new' (Kd.R_new' ho0 (Kd.R_lt (by (with_reducible repeat (first | apply Kd.R_alloc | apply Kd.R_drewN | apply Kd.R_drew)); exact HO_7.out))) (Kd.R_lt (by (with_reducible repeat (first | apply Kd.R_alloc | apply Kd.R_drewN | apply Kd.R_drew)); exact HO268.out))) (below_size (by repeat (first | (with_reducible first | exact HB.out | apply below_alloc | apply pw_below_drewN | apply below_drew1) | exact HB.out)))); have n3_ := Aside0.mk (Kd.C_below (by repeat (first | (with_reducible exact HR272.out) | (with_reducible refine Kd.C_alloc ?_ _) | (with_reducible refine Kd.C_drewN ?_ _) | (with_reducible refine Kd.C_drew ?_) | exact HR272.out)) hb); have n4_ := Aside0.mk (below_step (by repeat (first | (with_reducible first | exact HB.out | apply below_alloc | apply pw_below_drewN | apply below_drew1) | exact HB.out)) hb); clear HO_7; clear HO268; clear HR272; clear HB; have HO_7 := n0_; have HO268 := n1_; have HO277 := n2_; have HR272 := n3_; have HB := n4_; clear n0_ n1_ n2_ n3_ n4_; (try clear hb); (try clear hb2); (try clear hk); (try clear hi); (try clear ho0); obtain ⟨Ao37, co37, eo37⟩ := Kd.R_slice HO277.out; subst eo37) | (go_at_call 24; (with_reducible refine (ratlinelaw02_awake.calls  t278 _ A32.out).mono ?_); rintro e w38 ⟨rfl, hb⟩; have n0_ := Aside0.mk (Kd.R_below (by (with_reducible repeat (first | apply Kd.R_alloc | apply Kd.R_drewN | apply Kd.R_drew)); exact HO_7.out) hb); have n1_ := Aside0.mk (Kd.R_below (by (with_reducible repeat (first | apply Kd.R_alloc | apply Kd.R_drewN | apply Kd.R_drew)); exact HO268.out) hb); have n2_ := Aside0.mk (Kd.R_below (by (with_reducible repeat (first | apply Kd.R_alloc | apply Kd.R_drewN | apply Kd.R_drew)); exact HO277.out) hb); have n3_ := Aside0.mk (Kd.C_below (by repeat (first | (with_reducible exact HR272.out) | (with_reducible refine Kd.C_alloc ?_ _) | (with_reducible refine Kd.C_drewN ?_ _) | (with_reducible refine Kd.C_drew ?_) | exact HR272.out)) hb); have n4_ := Aside0.mk (below_step (by repeat (first | (with_reducible first | exact HB.out | apply below_alloc | apply pw_below_drewN | apply below_drew1) | exact HB.out)) hb); clear HO_7; clear HO268; clear HO277; clear HR272; clear HB; have HO_7 := n0_; have HO268 := n1_; have HO277 := n2_; have HR272 := n3_; have HB := n4_; clear n0_ n1_ n2_ n3_ n4_; (try clear hb); (try clear hb2); (try clear hk); (try clear hi)))
                        go_ret
                        exact ⟨by first | rfl | (simp [errW_none, errW_some] <;> rfl) | (simp only [← hji25]; first | rfl | (simp [errW_none, errW_some] <;> rfl)) | (simp [*, errW_none, errW_some] <;> rfl), by repeat (first | (with_reducible first | exact HB.out | apply below_alloc | apply pw_below_drewN | apply below_drew1) | exact HB.out)⟩
                      · rw [if_neg c31] at H
                        exact absurd H (by simp)
                    · rw [if_neg c30] at H
                      exact absurd H (by simp)
                · rw [if_neg c27] at H
                  exact absurd H (by simp)
              · rw [if_neg c26] at H
                exact absurd H (by simp)
          · rw [if_neg c23] at H
            exact absurd H (by simp)

/-- THE ONE PURE STATEMENT of ratlinelaw02_NumsTexts: yours. -/
def ratlinelaw02_NumsTexts.Pure : Prop := ∀ (a0 : ByteArray) (a1 : Int) (a2 : Int), a0.size ≤ 140737488351232 → (Lit.int .i64 a1).wf = true → (Lit.int .u16 a2).wf = true → ∃ k, ratlinelaw02_NumsTexts.f k a0 a1 a2 = some true
theorem ratlinelaw02_NumsTexts.walk (P : ratlinelaw02_NumsTexts.Pure) (a0 : ByteArray) (a1 : Int) (a2 : Int) (w : World) (w0 : a0.size ≤ 140737488351232) (w1 : (Lit.int .i64 a1).wf = true) (w2 : (Lit.int .u16 a2).wf = true) :
    Calls Try.prog 10 #[.string a0, .int .i64 a1, .int .u16 a2] w fun e w' => e = .returned (.bool true) ∧ Below w.heap.size w w' := by
  obtain ⟨k, h⟩ := P a0 a1 a2 w0 w1 w2
  refine (ratlinelaw02_NumsTexts.calls k a0 a1 a2 true w h).mono ?_
  rintro e w' ⟨rfl, hd⟩
  exact ⟨rfl, hd⟩

end Go.Proofs.Ytdppjknfhggpbaa.P
