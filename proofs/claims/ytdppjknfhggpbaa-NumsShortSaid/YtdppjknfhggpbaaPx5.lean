/- Proved here: functions of the program return what the Lean functions beside them say, or a law of the program holds. Conditions: those of each theorem. Written for this claim by a program: the printer of the kit, with some contracts given. -/
import Derived.Test.YtdppjknfhggpbaaPx0
import Derived.Test.YtdppjknfhggpbaaPx1
import Derived.Test.YtdppjknfhggpbaaPx4
namespace Go.Proofs.Ytdppjknfhggpbaa.P
open Go.RowKit Go.Proofs.YtdppjknfhggpbaaG Go.Proofs.YtdppjknfhggpbaaW.PrintWords Go.Proofs.YtdppjknfhggpbaaW.PrintLast Go.Proofs.YtdppjknfhggpbaaW.PrintMore
attribute [local go_sem] max2_int min2_int max_two min_two max_three min_three max_four min_four   -- for this text's walks alone
set_option linter.unusedVariables false
set_option linter.unusedSimpArgs false

/-! ### ratlinelaw02_NumsShort: function 9 -/
mutual
def ratlinelaw02_NumsShort.l0 : Nat → Int → Int → List Int → List Int → Int → Int → Option (Bool)
  | 0, _, _, _, _, _, _ => none
  | k + 1, x0, x1, x5, x6, x7, x8 => if x8 > 0 then (ratlinelaw02_NumsShort.l0 k x0 x1 x5 x6 (wrap64 (x7 + 1)) (x8 / 128)) else (if (x5.length : Int) = x7 then (if x0 ≤ x1 then (if (x5.length : Int) > (x6.length : Int) then (ratlinelaw02_NumsShort.j1 k x5 true) else (if x0 = x1 then (ratlinelaw02_NumsShort.j1 k x5 false) else (if (x5.length : Int) ≤ (x6.length : Int) then (if 0 ≤ (x5.length : Int) then ((ratlinelaw02_Same.f (x6.take ((x5.length : Int) : Int).toNat) x5).bind fun t240 => (ratlinelaw02_NumsShort.j1 k x5 t240)) else (none)) else (ratlinelaw02_NumsShort.j1 k x5 false)))) else (if x0 = x1 then (ratlinelaw02_NumsShort.j1 k x5 false) else (if (x5.length : Int) ≤ (x6.length : Int) then (if 0 ≤ (x5.length : Int) then ((ratlinelaw02_Same.f (x6.take ((x5.length : Int) : Int).toNat) x5).bind fun t245 => (ratlinelaw02_NumsShort.j1 k x5 t245)) else (none)) else (ratlinelaw02_NumsShort.j1 k x5 false)))) else (ratlinelaw02_NumsShort.j1 k x5 true))
def ratlinelaw02_NumsShort.j1 : Nat → List Int → Bool → Option (Bool)
  | 0, _, _ => none
  | k + 1, x5, x60 => if x60 = true then (none) else (ratlinelaw02_NumsShort.l1 k x5 (x5.length : Int) 0)
def ratlinelaw02_NumsShort.l1 : Nat → List Int → Int → Int → Option (Bool)
  | 0, _, _, _ => none
  | k + 1, x5, x62, x63 => if x63 < x62 then (if 0 ≤ x63 then (if x63 ≤ (x5.length : Int) then ((nums_Take.f (x5.take (x63 : Int).toNat)).bind fun bt251 => (if bt251.2.2 = true then (ratlinelaw02_NumsShort.j3 k x5 x63 x62 x63 true) else (if bt251.1 = 0 then (ratlinelaw02_NumsShort.j3 k x5 x63 x62 x63 ((bt251.2.1.length : Int) != 0)) else (ratlinelaw02_NumsShort.j3 k x5 x63 x62 x63 true)))) else (none)) else (none)) else ((ratlinelaw02_awake.f).bind fun t246 => (some t246))
def ratlinelaw02_NumsShort.j3 : Nat → List Int → Int → Int → Int → Bool → Option (Bool)
  | 0, _, _, _, _, _ => none
  | k + 1, x5, x9, x62, x63, x83 => if x83 = true then (none) else (if 0 ≤ x9 then (if x9 < (x5.length : Int) then (if ((decide ((rd x5 x9) > 127)) != (decide (x9 < (wrap64 ((x5.length : Int) - 1))))) = true then (none) else (ratlinelaw02_NumsShort.l1 k x5 x62 (wrap64 (x63 + 1)))) else (none)) else (none))
end
def ratlinelaw02_NumsShort.f (k : Nat) (a0 : Int) (a1 : Int) : Option (Bool) := (nums_Put.f ([] : List Int) a0).bind fun t230 => ((nums_Put.f ([] : List Int) a1).bind fun t233 => (ratlinelaw02_NumsShort.l0 k a0 a1 t230 t233 1 (a0 / 128)))
theorem ratlinelaw02_NumsShort.mono_l : ∀ k, (∀ y0 y1 y2 y3 y4 y5, LeO (ratlinelaw02_NumsShort.l0 k y0 y1 y2 y3 y4 y5) (ratlinelaw02_NumsShort.l0 (k + 1) y0 y1 y2 y3 y4 y5)) ∧ (∀ y0 y1, LeO (ratlinelaw02_NumsShort.j1 k y0 y1) (ratlinelaw02_NumsShort.j1 (k + 1) y0 y1)) ∧ (∀ y0 y1 y2, LeO (ratlinelaw02_NumsShort.l1 k y0 y1 y2) (ratlinelaw02_NumsShort.l1 (k + 1) y0 y1 y2)) ∧ (∀ y0 y1 y2 y3 y4, LeO (ratlinelaw02_NumsShort.j3 k y0 y1 y2 y3 y4) (ratlinelaw02_NumsShort.j3 (k + 1) y0 y1 y2 y3 y4))
  | 0 => ⟨fun _ _ _ _ _ _ r h => by simp [ratlinelaw02_NumsShort.l0] at h, fun _ _ r h => by simp [ratlinelaw02_NumsShort.j1] at h, fun _ _ _ r h => by simp [ratlinelaw02_NumsShort.l1] at h, fun _ _ _ _ _ r h => by simp [ratlinelaw02_NumsShort.j3] at h⟩
  | k + 1 => by
    obtain ⟨ih0, ih1, ih2, ih3⟩ := ratlinelaw02_NumsShort.mono_l k
    refine ⟨?_, ?_, ?_, ?_⟩
    · intro y0 y1 y2 y3 y4 y5
      unfold ratlinelaw02_NumsShort.l0
      repeat' first
      | (with_reducible exact ih0 _ _ _ _ _ _)
      | (with_reducible exact ih1 _ _)
      | (with_reducible exact ih2 _ _ _)
      | (with_reducible exact ih3 _ _ _ _ _)
      | (with_reducible exact LeO.refl _)
      | (with_reducible exact LeO.none _)
      | (with_reducible refine LeO.ite ?_ ?_)
      | (with_reducible refine LeO.bind ?_ (fun _ => ?_))
      | exact ih0 _ _ _ _ _ _
      | exact ih1 _ _
      | exact ih2 _ _ _
      | exact ih3 _ _ _ _ _
      | exact LeO.none _
      | refine LeO.ite ?_ ?_
      | refine LeO.bind ?_ (fun _ => ?_)
    · intro y0 y1
      unfold ratlinelaw02_NumsShort.j1
      repeat' first
      | (with_reducible exact ih0 _ _ _ _ _ _)
      | (with_reducible exact ih1 _ _)
      | (with_reducible exact ih2 _ _ _)
      | (with_reducible exact ih3 _ _ _ _ _)
      | (with_reducible exact LeO.refl _)
      | (with_reducible exact LeO.none _)
      | (with_reducible refine LeO.ite ?_ ?_)
      | (with_reducible refine LeO.bind ?_ (fun _ => ?_))
      | exact ih0 _ _ _ _ _ _
      | exact ih1 _ _
      | exact ih2 _ _ _
      | exact ih3 _ _ _ _ _
      | exact LeO.none _
      | refine LeO.ite ?_ ?_
      | refine LeO.bind ?_ (fun _ => ?_)
    · intro y0 y1 y2
      unfold ratlinelaw02_NumsShort.l1
      repeat' first
      | (with_reducible exact ih0 _ _ _ _ _ _)
      | (with_reducible exact ih1 _ _)
      | (with_reducible exact ih2 _ _ _)
      | (with_reducible exact ih3 _ _ _ _ _)
      | (with_reducible exact LeO.refl _)
      | (with_reducible exact LeO.none _)
      | (with_reducible refine LeO.ite ?_ ?_)
      | (with_reducible refine LeO.bind ?_ (fun _ => ?_))
      | exact ih0 _ _ _ _ _ _
      | exact ih1 _ _
      | exact ih2 _ _ _
      | exact ih3 _ _ _ _ _
      | exact LeO.none _
      | refine LeO.ite ?_ ?_
      | refine LeO.bind ?_ (fun _ => ?_)
    · intro y0 y1 y2 y3 y4
      unfold ratlinelaw02_NumsShort.j3
      repeat' first
      | (with_reducible exact ih0 _ _ _ _ _ _)
      | (with_reducible exact ih1 _ _)
      | (with_reducible exact ih2 _ _ _)
      | (with_reducible exact ih3 _ _ _ _ _)
      | (with_reducible exact LeO.refl _)
      | (with_reducible exact LeO.none _)
      | (with_reducible refine LeO.ite ?_ ?_)
      | (with_reducible refine LeO.bind ?_ (fun _ => ?_))
      | exact ih0 _ _ _ _ _ _
      | exact ih1 _ _
      | exact ih2 _ _ _
      | exact ih3 _ _ _ _ _
      | exact LeO.none _
      | refine LeO.ite ?_ ?_
      | refine LeO.bind ?_ (fun _ => ?_)
theorem ratlinelaw02_NumsShort.mono : ∀ a0 a1 k, LeO (ratlinelaw02_NumsShort.f k a0 a1) (ratlinelaw02_NumsShort.f (k + 1) a0 a1) := by
  intro a0 a1 k
  obtain ⟨ih0, ih1, ih2, ih3⟩ := ratlinelaw02_NumsShort.mono_l k
  unfold ratlinelaw02_NumsShort.f
  repeat' first
      | (with_reducible exact ih0 _ _ _ _ _ _)
      | (with_reducible exact ih1 _ _)
      | (with_reducible exact ih2 _ _ _)
      | (with_reducible exact ih3 _ _ _ _ _)
      | (with_reducible exact LeO.refl _)
      | (with_reducible exact LeO.none _)
      | (with_reducible refine LeO.ite ?_ ?_)
      | (with_reducible refine LeO.bind ?_ (fun _ => ?_))
      | exact ih0 _ _ _ _ _ _
      | exact ih1 _ _
      | exact ih2 _ _ _
      | exact ih3 _ _ _ _ _
      | exact LeO.none _
      | refine LeO.ite ?_ ?_
      | refine LeO.bind ?_ (fun _ => ?_)
set_option maxHeartbeats 8000000 in
set_option maxRecDepth 100000 in
theorem ratlinelaw02_NumsShort.calls (k : Nat) (a0 : Int) (a1 : Int) (r : Bool) (w : World) (h : ratlinelaw02_NumsShort.f k a0 a1 = some r) :
    Calls Try.prog 9 #[.int .u64 a0, .int .u64 a1] w fun e w' => e = .returned (.bool r) ∧ Below w.heap.size w w' := by
  have HB := Aside0.mk (Below.refl w.heap.size w)
  have H : ((nums_Put.f ([] : List Int) a0).bind fun t230 => ((nums_Put.f ([] : List Int) a1).bind fun t233 => (ratlinelaw02_NumsShort.l0 k a0 a1 t230 t233 1 (a0 / 128)))) = some r := h
  clear h
  replace H := Option.bind_eq_some_iff.mp H
  obtain ⟨t230, A30, H⟩ := H
  replace H : ((nums_Put.f ([] : List Int) a1).bind fun t233 => (ratlinelaw02_NumsShort.l0 k a0 a1 t230 t233 1 (a0 / 128))) = some r := H
  have A3 := Aside0.mk A30
  clear A30
  replace H := Option.bind_eq_some_iff.mp H
  obtain ⟨t233, A40, H⟩ := H
  replace H : (ratlinelaw02_NumsShort.l0 k a0 a1 t230 t233 1 (a0 / 128)) = some r := H
  have A4 := Aside0.mk A40
  clear A40
  have H' := Aside0.mk H
  clear H
  go_enter Try.func9, Try.ntmps9
  go_wp2_with (first | ((with_reducible refine gate_callee (f := 22) rfl ?_); refine goesL_ (some 14) rfl rfl Try.func22 (by kernel_rfl) rfl #[.slice none 0 0, .int .u64 a0] rfl (by (try simp only [List.map_toArray, List.map_cons, List.map_nil]); first | done | rfl | (simp only [List.length_drop, List.length_take]; rfl)) ?_; (refine (nums_Put.calls _ _ ([] : List Int) a0 t230 _ ?side1 ?side2 A3.out).mono ?_); (case side1 => exact Kd.C_nil _ _); (case side2 => exact Nat.le_refl _); rintro e w5 ⟨v231, rfl, ho0, hb⟩; refine ⟨_, rfl, ?_⟩; have n0_ := Aside0.mk (Kd.R_lower ho0 (below_size (by repeat (first | (with_reducible first | exact HB.out | apply below_alloc | apply pw_below_drewN | apply below_drew1) | exact HB.out)))); have n1_ := Aside0.mk (below_step (by repeat (first | (with_reducible first | exact HB.out | apply below_alloc | apply pw_below_drewN | apply below_drew1) | exact HB.out)) hb); clear HB; have HO232 := n0_; have HB := n1_; clear n0_ n1_; (try clear hb); (try clear hb2); (try clear hk); (try clear hi); (try clear ho0)) | ((with_reducible refine gate_callee (f := 22) rfl ?_); refine goesL_ (some 16) rfl rfl Try.func22 (by kernel_rfl) rfl #[.slice none 0 0, .int .u64 a1] rfl (by (try simp only [List.map_toArray, List.map_cons, List.map_nil]); first | done | rfl | (simp only [List.length_drop, List.length_take]; rfl)) ?_; (refine (nums_Put.calls _ _ ([] : List Int) a1 t233 _ ?side1 ?side2 A4.out).mono ?_); (case side1 => exact Kd.C_nil _ _); (case side2 => exact Nat.le_refl _); rintro e w6 ⟨v234, rfl, ho0, hb⟩; refine ⟨_, rfl, ?_⟩; have n0_ := Aside0.mk (Kd.R_elder' (by (with_reducible repeat (first | apply Kd.R_alloc | apply Kd.R_drewN | apply Kd.R_drew)); exact HO232.out) (Kd.R_base ho0) hb); have n1_ := Aside0.mk (Kd.R_lower (Kd.R_new' ho0 (Kd.R_lt (by (with_reducible repeat (first | apply Kd.R_alloc | apply Kd.R_drewN | apply Kd.R_drew)); exact HO232.out))) (below_size (by repeat (first | (with_reducible first | exact HB.out | apply below_alloc | apply pw_below_drewN | apply below_drew1) | exact HB.out)))); have n2_ := Aside0.mk (below_step (by repeat (first | (with_reducible first | exact HB.out | apply below_alloc | apply pw_below_drewN | apply below_drew1) | exact HB.out)) hb); clear HO232; clear HB; have HO232 := n0_; have HO235 := n1_; have HB := n2_; clear n0_ n1_ n2_; (try clear hb); (try clear hb2); (try clear hk); (try clear hi); (try clear ho0)))
  go_loopg [7, 8] k (fun kq v7 v8 w' => ∃ (x7_1 : Int) (x8_1 : Int), v7 = .int .i64 x7_1 ∧ v8 = .int .u64 x8_1 ∧ Aside0 (ratlinelaw02_NumsShort.l0 kq a0 a1 t230 t233 x7_1 x8_1 = some r) ∧ Aside0 (kq ≤ k) ∧ Aside0 (Kd.R (Kd.int .u8) 5 w' w.heap.size (fun k_ => some k_ ≠ (v234 : Value).ownBlock) v231 t230) ∧ Aside0 (Kd.R (Kd.int .u8) 5 w' w.heap.size (fun k_ => some k_ ≠ (v231 : Value).ownBlock) v234 t233) ∧ Aside0 (Below w.heap.size w w'))
  case atStart => exact ⟨(1), (a0 / 128), (by first | rfl | (simp; done) | (simp [*]; done)), (by first | rfl | (simp; done) | (simp [*]; done)), H', ⟨Nat.le_refl _⟩, ⟨by (with_reducible repeat (first | apply Kd.R_alloc | apply Kd.R_drewN | apply Kd.R_drew)); exact Kd.R_mono HO232.out (fun _ hk => hk.2)⟩, ⟨by (with_reducible repeat (first | apply Kd.R_alloc | apply Kd.R_drewN | apply Kd.R_drew)); exact Kd.R_mono HO235.out (fun _ hk => hk.2)⟩, ⟨by repeat (first | (with_reducible first | exact HB.out | apply below_alloc | apply pw_below_drewN | apply below_drew1) | exact HB.out)⟩⟩
  case round =>
    clear H'
    try clear c2
    try clear p2
    obtain ⟨x7_1, x8_1, rfl, rfl, HA, HK1, HO_5, HO_6, HB⟩ := hrel
    cases gk with
    | zero => exact absurd HA.out (by simp [ratlinelaw02_NumsShort.l0])
    | succ k1 =>
      have H := HA.out
      clear HA
      simp only [ratlinelaw02_NumsShort.l0] at H
      by_cases c7 : x8_1 > 0
      · rw [if_pos c7] at H
        have c7b0 : decide (0 < x8_1) = true := decide_eq_true c7
        clear c7
        have H' := Aside0.mk H
        clear H
        go_wp2
        go_roundg k1
        case measure => have := HK1.out; omega
        case rel => exact ⟨(wrap64 (x7_1 + 1)), (x8_1 / 128), (by first | rfl | (simp; done) | (simp [*]; done)), (by first | rfl | (simp; done) | (simp [*]; done)), H', ⟨by have := HK1.out; omega⟩, ⟨by (with_reducible repeat (first | apply Kd.R_alloc | apply Kd.R_drewN | apply Kd.R_drew)); exact HO_5.out⟩, ⟨by (with_reducible repeat (first | apply Kd.R_alloc | apply Kd.R_drewN | apply Kd.R_drew)); exact HO_6.out⟩, ⟨by repeat (first | (with_reducible first | exact HB.out | apply below_alloc | apply pw_below_drewN | apply below_drew1) | exact HB.out)⟩⟩
      · rw [if_neg c7] at H
        have c7b0 : decide (0 < x8_1) = false := decide_eq_false c7
        clear c7
        have HC8 := Aside0.mk H
        clear H
        go_upto_region 7 with (fail)
        go_cut [60] (fun v60 wc => ∃ (kq : Nat) (x60_7 : Bool), v60 = .bool x60_7 ∧ Aside0 (ratlinelaw02_NumsShort.j1 kq t230 x60_7 = some r) ∧ Aside0 (kq ≤ k1) ∧ Aside0 (Kd.R (Kd.int .u8) 5 wc w.heap.size (fun _ => True) v231 t230) ∧ Aside0 (Below w.heap.size w wc))
        case first =>
          have H := HC8.out
          clear HC8
          by_cases c9 : (t230.length : Int) = x7_1
          · rw [if_pos c9] at H
            have c9b0 : ((t230.length : Int) == x7_1) = true := beq_iff_eq.mpr c9
            have c9b1 : ((t230.length : Int) != x7_1) = false := bne_eq_false_iff_eq.mpr c9
            clear c9
            (first | rw [c9b0] | (simp only [i64_w, i32_w]; rw [c9b0]) | skip)
            by_cases c10 : a0 ≤ a1
            · rw [if_pos c10] at H
              have c10b0 : decide (a0 ≤ a1) = true := decide_eq_true c10
              clear c10
              by_cases c11 : (t230.length : Int) > (t233.length : Int)
              · rw [if_pos c11] at H
                have c11b0 : decide ((t233.length : Int) < (t230.length : Int)) = true := decide_eq_true c11
                have c11b1 : decide (t233.length < t230.length) = true := decide_eq_true (Int.ofNat_lt.mp c11)
                clear c11
                have H' := Aside0.mk H
                clear H
                obtain ⟨Ao12, co12, eo12⟩ := Kd.R_slice HO_5.out
                subst eo12
                obtain ⟨Ao13, co13, eo13⟩ := Kd.R_slice HO_6.out
                subst eo13
                go_wp2
                go_meet
                case rel => exact ⟨_, (true), (by first | rfl | (simp; done) | (simp [*]; done)), H', ⟨by have := HK1.out; first | omega | exact Nat.le_refl _⟩, ⟨by (with_reducible repeat (first | apply Kd.R_alloc | apply Kd.R_drewN | apply Kd.R_drew)); exact Kd.R_mono HO_5.out (fun _ hk => trivial)⟩, ⟨by repeat (first | (with_reducible first | exact HB.out | apply below_alloc | apply pw_below_drewN | apply below_drew1) | exact HB.out)⟩⟩
              · rw [if_neg c11] at H
                have c11b0 : decide ((t233.length : Int) < (t230.length : Int)) = false := decide_eq_false c11
                have c11b1 : decide (t233.length < t230.length) = false := decide_eq_false (fun h => c11 (Int.ofNat_lt.mpr h))
                clear c11
                by_cases c14 : a0 = a1
                · rw [if_pos c14] at H
                  have c14b0 : (a0 == a1) = true := beq_iff_eq.mpr c14
                  have c14b1 : (a0 != a1) = false := bne_eq_false_iff_eq.mpr c14
                  clear c14
                  have H' := Aside0.mk H
                  clear H
                  obtain ⟨Ao15, co15, eo15⟩ := Kd.R_slice HO_5.out
                  subst eo15
                  obtain ⟨Ao16, co16, eo16⟩ := Kd.R_slice HO_6.out
                  subst eo16
                  go_wp2
                  go_meet
                  case rel => exact ⟨_, (false), (by first | rfl | (simp; done) | (simp [*]; done)), H', ⟨by have := HK1.out; first | omega | exact Nat.le_refl _⟩, ⟨by (with_reducible repeat (first | apply Kd.R_alloc | apply Kd.R_drewN | apply Kd.R_drew)); exact Kd.R_mono HO_5.out (fun _ hk => trivial)⟩, ⟨by repeat (first | (with_reducible first | exact HB.out | apply below_alloc | apply pw_below_drewN | apply below_drew1) | exact HB.out)⟩⟩
                · rw [if_neg c14] at H
                  have c14b0 : (a0 == a1) = false := beq_eq_false_iff_ne.mpr c14
                  have c14b1 : (a0 != a1) = true := bne_iff_ne.mpr c14
                  by_cases c17 : (t230.length : Int) ≤ (t233.length : Int)
                  · rw [if_pos c17] at H
                    have c17b0 : decide ((t230.length : Int) ≤ (t233.length : Int)) = true := decide_eq_true c17
                    have c17b1 : decide (t230.length ≤ t233.length) = true := decide_eq_true (Int.ofNat_le.mp c17)
                    clear c17
                    by_cases c18 : 0 ≤ (t230.length : Int)
                    · rw [if_pos c18] at H
                      have c18b0 := eq_true c18
                      have c18b1 : decide (0 ≤ (t230.length : Int)) = true := decide_eq_true c18
                      clear c18
                      have c19b0 := eq_true (of_decide_eq_true (by first | (with_reducible assumption) | assumption) : (t230.length : Int) ≤ (t233.length : Int))
                      obtain ⟨y236, hy236⟩ : ∃ y_ : List Int, y_ = (t233.take ((t230.length : Int) : Int).toNat) := ⟨_, rfl⟩
                      replace H : ((ratlinelaw02_Same.f y236 t230).bind fun t240 => (ratlinelaw02_NumsShort.j1 k1 t230 t240)) = some r := by first | (rw [hy236]; with_reducible exact H) | (have H2_ := (Option.bind_some _ _).symm.trans H; rw [hy236]; with_reducible exact H2_) | (have H2_ := (Option.bind_some _ _).symm.trans H; with_reducible exact H2_) | with_reducible exact H | (rw [hy236]; exact H) | exact H
                      have Ny236 := Aside0.mk hy236
                      clear hy236
                      replace H := Option.bind_eq_some_iff.mp H
                      obtain ⟨t240, A200, H⟩ := H
                      replace H : (ratlinelaw02_NumsShort.j1 k1 t230 t240) = some r := H
                      have A20 := Aside0.mk A200
                      clear A200
                      have H' := Aside0.mk H
                      clear H
                      obtain ⟨Ao21, co21, eo21⟩ := Kd.R_slice HO_5.out
                      subst eo21
                      obtain ⟨Ao22, co22, eo22⟩ := Kd.R_slice HO_6.out
                      subst eo22
                      have q23 : ((t230.length : Int) : Int) ≤ ((t233.length : Int) : Int) := of_decide_eq_true (by first | (with_reducible assumption) | assumption)
                      obtain ⟨i023, hi023, _, hsz23, _⟩ := info_parts info5
                      have hroom23 : t233.length ≤ co22 := (Kd.R_reads' HO_6.out).2.1
                      have hC23 : Kd.C (Kd.int .u8) _ Ao22 t233.length t233 := (Kd.R_reads' HO_6.out).2.2
                      have hcut23 := cut_to (P := Try.prog) 22 5 .i64 Try.underlying22 hi023 Ao22 t233.length co22 (t230.length : Int) (of_decide_eq_true (by first | (with_reducible assumption) | assumption)) q23 hroom23
                      have hr23 := Kd.C_take (m := ((t230.length : Int) : Int).toNat) hC23 (by omega)
                      have hy23 : y236.length = ((t230.length : Int) : Int).toNat := (by rw [Ny236.out, List.length_take]; omega)
                      rw [← Ny236.out] at hr23
                      rw [← hy23] at hcut23
                      have HR239 := Aside0.mk hr23
                      have HC239 := Aside0.mk (show y236.length ≤ co22 from by omega)
                      clear hr23 hC23 hroom23 hi023 hsz23
                      have KY23 := Aside0.mk hy23
                      clear hy23
                      have KL23 := Aside0.mk (show ((t230.length : Int) : Int).toNat ≤ t233.length from by omega)
                      replace q23 := eq_true q23
                      go_wp2_with (first | (go_at_call 18; (with_reducible refine (ratlinelaw02_Same.calls _ _ y236 _ _ t230 t240 _ ?side1 ?side2 ?side3 ?side4 A20.out).mono ?_); (case side1 => repeat (first | exact (by repeat (first | (with_reducible exact HR239.out) | (with_reducible refine Kd.C_alloc ?_ _) | (with_reducible refine Kd.C_drewN ?_ _) | (with_reducible refine Kd.C_drew ?_) | exact HR239.out)) | (with_reducible refine Kd.C_alloc ?_ _) | (with_reducible refine Kd.C_drewN ?_ _) | (with_reducible refine Kd.C_drew ?_))); (case side2 => exact HC239.out); (case side3 => repeat (first | exact (Kd.R_reads' HO_5.out).2.2 | (with_reducible refine Kd.C_alloc ?_ _) | (with_reducible refine Kd.C_drewN ?_ _) | (with_reducible refine Kd.C_drew ?_))); (case side4 => exact (Kd.R_reads' HO_5.out).2.1); rintro e w' ⟨rfl, ⟨nd, rfl⟩⟩))
                      go_meet
                      case rel => exact ⟨_, (t240), (by first | rfl | (simp; done) | (simp [*]; done)), H', ⟨by have := HK1.out; first | omega | exact Nat.le_refl _⟩, ⟨by (with_reducible repeat (first | apply Kd.R_alloc | apply Kd.R_drewN | apply Kd.R_drew)); exact Kd.R_mono HO_5.out (fun _ hk => trivial)⟩, ⟨by repeat (first | (with_reducible first | exact HB.out | apply below_alloc | apply pw_below_drewN | apply below_drew1) | exact HB.out)⟩⟩
                    · rw [if_neg c18] at H
                      exact absurd H (by simp)
                  · rw [if_neg c17] at H
                    have c17b0 : decide ((t230.length : Int) ≤ (t233.length : Int)) = false := decide_eq_false c17
                    have c17b1 : decide (t230.length ≤ t233.length) = false := decide_eq_false (fun h => c17 (Int.ofNat_le.mpr h))
                    clear c17
                    have H' := Aside0.mk H
                    clear H
                    obtain ⟨Ao24, co24, eo24⟩ := Kd.R_slice HO_5.out
                    subst eo24
                    obtain ⟨Ao25, co25, eo25⟩ := Kd.R_slice HO_6.out
                    subst eo25
                    go_wp2
                    go_meet
                    case rel => exact ⟨_, (false), (by first | rfl | (simp; done) | (simp [*]; done)), H', ⟨by have := HK1.out; first | omega | exact Nat.le_refl _⟩, ⟨by (with_reducible repeat (first | apply Kd.R_alloc | apply Kd.R_drewN | apply Kd.R_drew)); exact Kd.R_mono HO_5.out (fun _ hk => trivial)⟩, ⟨by repeat (first | (with_reducible first | exact HB.out | apply below_alloc | apply pw_below_drewN | apply below_drew1) | exact HB.out)⟩⟩
            · rw [if_neg c10] at H
              have c10b0 : decide (a0 ≤ a1) = false := decide_eq_false c10
              clear c10
              by_cases c26 : a0 = a1
              · rw [if_pos c26] at H
                have c26b0 : (a0 == a1) = true := beq_iff_eq.mpr c26
                have c26b1 : (a0 != a1) = false := bne_eq_false_iff_eq.mpr c26
                clear c26
                have H' := Aside0.mk H
                clear H
                obtain ⟨Ao27, co27, eo27⟩ := Kd.R_slice HO_5.out
                subst eo27
                go_wp2
                go_meet
                case rel => exact ⟨_, (false), (by first | rfl | (simp; done) | (simp [*]; done)), H', ⟨by have := HK1.out; first | omega | exact Nat.le_refl _⟩, ⟨by (with_reducible repeat (first | apply Kd.R_alloc | apply Kd.R_drewN | apply Kd.R_drew)); exact Kd.R_mono HO_5.out (fun _ hk => trivial)⟩, ⟨by repeat (first | (with_reducible first | exact HB.out | apply below_alloc | apply pw_below_drewN | apply below_drew1) | exact HB.out)⟩⟩
              · rw [if_neg c26] at H
                have c26b0 : (a0 == a1) = false := beq_eq_false_iff_ne.mpr c26
                have c26b1 : (a0 != a1) = true := bne_iff_ne.mpr c26
                by_cases c28 : (t230.length : Int) ≤ (t233.length : Int)
                · rw [if_pos c28] at H
                  have c28b0 : decide ((t230.length : Int) ≤ (t233.length : Int)) = true := decide_eq_true c28
                  have c28b1 : decide (t230.length ≤ t233.length) = true := decide_eq_true (Int.ofNat_le.mp c28)
                  clear c28
                  by_cases c29 : 0 ≤ (t230.length : Int)
                  · rw [if_pos c29] at H
                    have c29b0 := eq_true c29
                    have c29b1 : decide (0 ≤ (t230.length : Int)) = true := decide_eq_true c29
                    clear c29
                    have c30b0 := eq_true (of_decide_eq_true (by first | (with_reducible assumption) | assumption) : (t230.length : Int) ≤ (t233.length : Int))
                    obtain ⟨y241, hy241⟩ : ∃ y_ : List Int, y_ = (t233.take ((t230.length : Int) : Int).toNat) := ⟨_, rfl⟩
                    replace H : ((ratlinelaw02_Same.f y241 t230).bind fun t245 => (ratlinelaw02_NumsShort.j1 k1 t230 t245)) = some r := by first | (rw [hy241]; with_reducible exact H) | (have H2_ := (Option.bind_some _ _).symm.trans H; rw [hy241]; with_reducible exact H2_) | (have H2_ := (Option.bind_some _ _).symm.trans H; with_reducible exact H2_) | with_reducible exact H | (rw [hy241]; exact H) | exact H
                    have Ny241 := Aside0.mk hy241
                    clear hy241
                    replace H := Option.bind_eq_some_iff.mp H
                    obtain ⟨t245, A310, H⟩ := H
                    replace H : (ratlinelaw02_NumsShort.j1 k1 t230 t245) = some r := H
                    have A31 := Aside0.mk A310
                    clear A310
                    have H' := Aside0.mk H
                    clear H
                    obtain ⟨Ao32, co32, eo32⟩ := Kd.R_slice HO_5.out
                    subst eo32
                    obtain ⟨Ao33, co33, eo33⟩ := Kd.R_slice HO_6.out
                    subst eo33
                    have q34 : ((t230.length : Int) : Int) ≤ ((t233.length : Int) : Int) := of_decide_eq_true (by first | (with_reducible assumption) | assumption)
                    obtain ⟨i034, hi034, _, hsz34, _⟩ := info_parts info5
                    have hroom34 : t233.length ≤ co33 := (Kd.R_reads' HO_6.out).2.1
                    have hC34 : Kd.C (Kd.int .u8) _ Ao33 t233.length t233 := (Kd.R_reads' HO_6.out).2.2
                    have hcut34 := cut_to (P := Try.prog) 22 5 .i64 Try.underlying22 hi034 Ao33 t233.length co33 (t230.length : Int) (of_decide_eq_true (by first | (with_reducible assumption) | assumption)) q34 hroom34
                    have hr34 := Kd.C_take (m := ((t230.length : Int) : Int).toNat) hC34 (by omega)
                    have hy34 : y241.length = ((t230.length : Int) : Int).toNat := (by rw [Ny241.out, List.length_take]; omega)
                    rw [← Ny241.out] at hr34
                    rw [← hy34] at hcut34
                    have HR244 := Aside0.mk hr34
                    have HC244 := Aside0.mk (show y241.length ≤ co33 from by omega)
                    clear hr34 hC34 hroom34 hi034 hsz34
                    have KY34 := Aside0.mk hy34
                    clear hy34
                    have KL34 := Aside0.mk (show ((t230.length : Int) : Int).toNat ≤ t233.length from by omega)
                    replace q34 := eq_true q34
                    go_wp2_with (first | (go_at_call 18; (with_reducible refine (ratlinelaw02_Same.calls _ _ y241 _ _ t230 t245 _ ?side1 ?side2 ?side3 ?side4 A31.out).mono ?_); (case side1 => repeat (first | exact (by repeat (first | (with_reducible exact HR244.out) | (with_reducible refine Kd.C_alloc ?_ _) | (with_reducible refine Kd.C_drewN ?_ _) | (with_reducible refine Kd.C_drew ?_) | exact HR244.out)) | (with_reducible refine Kd.C_alloc ?_ _) | (with_reducible refine Kd.C_drewN ?_ _) | (with_reducible refine Kd.C_drew ?_))); (case side2 => exact HC244.out); (case side3 => repeat (first | exact (Kd.R_reads' HO_5.out).2.2 | (with_reducible refine Kd.C_alloc ?_ _) | (with_reducible refine Kd.C_drewN ?_ _) | (with_reducible refine Kd.C_drew ?_))); (case side4 => exact (Kd.R_reads' HO_5.out).2.1); rintro e w' ⟨rfl, ⟨nd, rfl⟩⟩))
                    go_meet
                    case rel => exact ⟨_, (t245), (by first | rfl | (simp; done) | (simp [*]; done)), H', ⟨by have := HK1.out; first | omega | exact Nat.le_refl _⟩, ⟨by (with_reducible repeat (first | apply Kd.R_alloc | apply Kd.R_drewN | apply Kd.R_drew)); exact Kd.R_mono HO_5.out (fun _ hk => trivial)⟩, ⟨by repeat (first | (with_reducible first | exact HB.out | apply below_alloc | apply pw_below_drewN | apply below_drew1) | exact HB.out)⟩⟩
                  · rw [if_neg c29] at H
                    exact absurd H (by simp)
                · rw [if_neg c28] at H
                  have c28b0 : decide ((t230.length : Int) ≤ (t233.length : Int)) = false := decide_eq_false c28
                  have c28b1 : decide (t230.length ≤ t233.length) = false := decide_eq_false (fun h => c28 (Int.ofNat_le.mpr h))
                  clear c28
                  have H' := Aside0.mk H
                  clear H
                  obtain ⟨Ao35, co35, eo35⟩ := Kd.R_slice HO_5.out
                  subst eo35
                  obtain ⟨Ao36, co36, eo36⟩ := Kd.R_slice HO_6.out
                  subst eo36
                  go_wp2
                  go_meet
                  case rel => exact ⟨_, (false), (by first | rfl | (simp; done) | (simp [*]; done)), H', ⟨by have := HK1.out; first | omega | exact Nat.le_refl _⟩, ⟨by (with_reducible repeat (first | apply Kd.R_alloc | apply Kd.R_drewN | apply Kd.R_drew)); exact Kd.R_mono HO_5.out (fun _ hk => trivial)⟩, ⟨by repeat (first | (with_reducible first | exact HB.out | apply below_alloc | apply pw_below_drewN | apply below_drew1) | exact HB.out)⟩⟩
          · rw [if_neg c9] at H
            have c9b0 : ((t230.length : Int) == x7_1) = false := beq_eq_false_iff_ne.mpr c9
            have c9b1 : ((t230.length : Int) != x7_1) = true := bne_iff_ne.mpr c9
            (first | rw [c9b0] | (simp only [i64_w, i32_w]; rw [c9b0]) | skip)
            have H' := Aside0.mk H
            clear H
            obtain ⟨Ao37, co37, eo37⟩ := Kd.R_slice HO_5.out
            subst eo37
            go_wp2
            go_meet
            case rel => exact ⟨_, (true), (by first | rfl | (simp; done) | (simp [*]; done)), H', ⟨by have := HK1.out; first | omega | exact Nat.le_refl _⟩, ⟨by (with_reducible repeat (first | apply Kd.R_alloc | apply Kd.R_drewN | apply Kd.R_drew)); exact Kd.R_mono HO_5.out (fun _ hk => trivial)⟩, ⟨by repeat (first | (with_reducible first | exact HB.out | apply below_alloc | apply pw_below_drewN | apply below_drew1) | exact HB.out)⟩⟩
        case rest =>
          clear HC8
          try clear c1
          try clear c2
          try clear p2
          try clear q2
          try clear c3
          try clear q3
          try clear p6
          try clear c7
          try clear c7b0
          try clear c9
          try clear c9b0
          try clear c9b1
          try clear c10
          try clear c10b0
          try clear c11
          try clear c11b0
          try clear c11b1
          try clear c14
          try clear c14b0
          try clear c14b1
          try clear c17
          try clear c17b0
          try clear c17b1
          try clear c18
          try clear c18b0
          try clear c18b1
          try clear c19
          try clear c19b0
          try clear c22
          try clear q23
          try clear c26
          try clear c26b0
          try clear c26b1
          try clear c28
          try clear c28b0
          try clear c28b1
          try clear c29
          try clear c29b0
          try clear c29b1
          try clear c30
          try clear c30b0
          try clear q34
          try clear p2
          try clear q23
          try clear q34
          obtain ⟨kq, x60_7, rfl, HA, HJ7, HO_5, HB⟩ := hcut
          cases kq with
          | zero => exact absurd HA.out (by simp [ratlinelaw02_NumsShort.j1])
          | succ kj7 =>
            have H := HA.out
            clear HA
            simp only [ratlinelaw02_NumsShort.j1] at H
            by_cases c38 : x60_7 = true
            · subst c38
              have H1 : (none) = some r := by rw [if_pos rfl] at H; exact H
              clear H
              have H := H1
              clear H1
              exact absurd H (by simp)
            · replace c38 := Bool.eq_false_iff.mpr c38
              subst c38
              have H1 : (ratlinelaw02_NumsShort.l1 kj7 t230 (t230.length : Int) 0) = some r := by rw [if_neg (show ¬ (false = true) by decide)] at H; exact H
              clear H
              have H := H1
              clear H1
              have H' := Aside0.mk H
              clear H
              obtain ⟨Ao39, co39, eo39⟩ := Kd.R_slice HO_5.out
              subst eo39
              go_wp2
              go_loopg [63] kj7 (fun kq v63 w' => ∃ (x63_3 : Int), v63 = .int .i64 x63_3 ∧ Aside0 (ratlinelaw02_NumsShort.l1 kq t230 (t230.length : Int) x63_3 = some r) ∧ Aside0 (kq ≤ kj7) ∧ Aside0 (Kd.R (Kd.int .u8) 5 w' w.heap.size (fun _ => True) (.slice Ao39 t230.length co39) t230) ∧ Aside0 (Below w.heap.size w w'))
              case atStart => exact ⟨(0), (by first | rfl | (simp; done) | (simp [*]; done)), H', ⟨Nat.le_refl _⟩, ⟨by (with_reducible repeat (first | apply Kd.R_alloc | apply Kd.R_drewN | apply Kd.R_drew)); exact HO_5.out⟩, ⟨by repeat (first | (with_reducible first | exact HB.out | apply below_alloc | apply pw_below_drewN | apply below_drew1) | exact HB.out)⟩⟩
              case round =>
                clear H'
                try clear c1
                try clear c2
                try clear p2
                try clear q2
                try clear c3
                try clear q3
                try clear p6
                try clear c7
                try clear c7b0
                try clear c9
                try clear c9b0
                try clear c9b1
                try clear c10
                try clear c10b0
                try clear c11
                try clear c11b0
                try clear c11b1
                try clear c14
                try clear c14b0
                try clear c14b1
                try clear c17
                try clear c17b0
                try clear c17b1
                try clear c18
                try clear c18b0
                try clear c18b1
                try clear c19
                try clear c19b0
                try clear c22
                try clear q23
                try clear c26
                try clear c26b0
                try clear c26b1
                try clear c28
                try clear c28b0
                try clear c28b1
                try clear c29
                try clear c29b0
                try clear c29b1
                try clear c30
                try clear c30b0
                try clear q34
                try clear c38
                try clear p2
                try clear p6
                try clear q2
                try clear q23
                try clear q3
                try clear q34
                obtain ⟨x63_3, rfl, HA, HK3, HO_5, HB⟩ := hrel
                cases gk with
                | zero => exact absurd HA.out (by simp [ratlinelaw02_NumsShort.l1])
                | succ k3 =>
                  have H := HA.out
                  clear HA
                  simp only [ratlinelaw02_NumsShort.l1] at H
                  by_cases c40 : x63_3 < (t230.length : Int)
                  · rw [if_pos c40] at H
                    have c40b0 : decide (x63_3 < (t230.length : Int)) = true := decide_eq_true c40
                    clear c40
                    by_cases c41 : 0 ≤ x63_3
                    · rw [if_pos c41] at H
                      have c41b0 := eq_true c41
                      have c41b1 : decide (0 ≤ x63_3) = true := decide_eq_true c41
                      clear c41
                      by_cases c42 : x63_3 ≤ (t230.length : Int)
                      · rw [if_pos c42] at H
                        have c42b0 := eq_true c42
                        have c42b1 : decide (x63_3 ≤ (t230.length : Int)) = true := decide_eq_true c42
                        clear c42
                        obtain ⟨y247, hy247⟩ : ∃ y_ : List Int, y_ = (t230.take (x63_3 : Int).toNat) := ⟨_, rfl⟩
                        replace H : ((nums_Take.f y247).bind fun bt251 => (if bt251.2.2 = true then (ratlinelaw02_NumsShort.j3 k3 t230 x63_3 (t230.length : Int) x63_3 true) else (if bt251.1 = 0 then (ratlinelaw02_NumsShort.j3 k3 t230 x63_3 (t230.length : Int) x63_3 ((bt251.2.1.length : Int) != 0)) else (ratlinelaw02_NumsShort.j3 k3 t230 x63_3 (t230.length : Int) x63_3 true)))) = some r := by first | (rw [hy247]; with_reducible exact H) | (have H2_ := (Option.bind_some _ _).symm.trans H; rw [hy247]; with_reducible exact H2_) | (have H2_ := (Option.bind_some _ _).symm.trans H; with_reducible exact H2_) | with_reducible exact H | (rw [hy247]; exact H) | exact H
                        have Ny247 := Aside0.mk hy247
                        clear hy247
                        replace H := Option.bind_eq_some_iff.mp H
                        obtain ⟨⟨t251, t252, t253⟩, A430, H⟩ := H
                        replace H : (if t253 = true then (ratlinelaw02_NumsShort.j3 k3 t230 x63_3 (t230.length : Int) x63_3 true) else (if t251 = 0 then (ratlinelaw02_NumsShort.j3 k3 t230 x63_3 (t230.length : Int) x63_3 ((t252.length : Int) != 0)) else (ratlinelaw02_NumsShort.j3 k3 t230 x63_3 (t230.length : Int) x63_3 true))) = some r := H
                        have A43 := Aside0.mk A430
                        clear A430
                        have HC44 := Aside0.mk H
                        clear H
                        have q45 : (x63_3 : Int) ≤ ((t230.length : Int) : Int) := of_decide_eq_true (by first | (with_reducible assumption) | assumption)
                        obtain ⟨i045, hi045, _, hsz45, _⟩ := info_parts info5
                        have hroom45 : t230.length ≤ co39 := (Kd.R_reads' HO_5.out).2.1
                        have hC45 : Kd.C (Kd.int .u8) _ Ao39 t230.length t230 := (Kd.R_reads' HO_5.out).2.2
                        have hcut45 := cut_to (P := Try.prog) 22 5 .i64 Try.underlying22 hi045 Ao39 t230.length co39 x63_3 (of_decide_eq_true (by first | (with_reducible assumption) | assumption)) q45 hroom45
                        have hr45 := Kd.C_take (m := (x63_3 : Int).toNat) hC45 (by omega)
                        have hy45 : y247.length = (x63_3 : Int).toNat := (by rw [Ny247.out, List.length_take]; omega)
                        rw [← Ny247.out] at hr45
                        rw [← hy45] at hcut45
                        have HR250 := Aside0.mk hr45
                        have HC250 := Aside0.mk (show y247.length ≤ co39 from by omega)
                        clear hr45 hC45 hroom45 hi045 hsz45
                        have KY45 := Aside0.mk hy45
                        clear hy45
                        have KL45 := Aside0.mk (show (x63_3 : Int).toNat ≤ t230.length from by omega)
                        replace q45 := eq_true q45
                        go_upto_region 13 with (first | ((with_reducible refine gate_callee (f := 23) rfl ?_); refine goesL_ (some 70) rfl rfl Try.func23 (by kernel_rfl) rfl #[.slice Ao39 y247.length co39] rfl (by (try simp only [List.map_toArray, List.map_cons, List.map_nil]); first | done | rfl | (simp only [List.length_drop, List.length_take]; rfl)) ?_; (with_reducible refine (nums_Take.calls _ _ y247 t251 t252 t253 _ ?side1 ?side2 A43.out).mono ?_); (case side1 => repeat (first | exact (by repeat (first | (with_reducible exact HR250.out) | (with_reducible refine Kd.C_alloc ?_ _) | (with_reducible refine Kd.C_drewN ?_ _) | (with_reducible refine Kd.C_drew ?_) | exact HR250.out)) | (with_reducible refine Kd.C_alloc ?_ _) | (with_reducible refine Kd.C_drewN ?_ _) | (with_reducible refine Kd.C_drew ?_))); (case side2 => exact HC250.out); rintro e w46 ⟨v254, rfl, ho0, hb⟩; refine ⟨_, rfl, ?_⟩; have n0_ := Aside0.mk (Kd.R_elder' (by (with_reducible repeat (first | apply Kd.R_alloc | apply Kd.R_drewN | apply Kd.R_drew)); exact HO_5.out) (Kd.R_base ho0) hb); have n1_ := Aside0.mk (Kd.R_lower (Kd.R_new' ho0 (Kd.R_lt (by (with_reducible repeat (first | apply Kd.R_alloc | apply Kd.R_drewN | apply Kd.R_drew)); exact HO_5.out))) (below_size (by repeat (first | (with_reducible first | exact HB.out | apply below_alloc | apply pw_below_drewN | apply below_drew1) | exact HB.out)))); have n2_ := Aside0.mk (Kd.C_below (by repeat (first | (with_reducible exact HR250.out) | (with_reducible refine Kd.C_alloc ?_ _) | (with_reducible refine Kd.C_drewN ?_ _) | (with_reducible refine Kd.C_drew ?_) | exact HR250.out)) hb); have n3_ := Aside0.mk (below_step (by repeat (first | (with_reducible first | exact HB.out | apply below_alloc | apply pw_below_drewN | apply below_drew1) | exact HB.out)) hb); clear HO_5; clear HR250; clear HB; have HO_5 := n0_; have HO255 := n1_; have HR250 := n2_; have HB := n3_; clear n0_ n1_ n2_ n3_; (try clear hb); (try clear hb2); (try clear hk); (try clear hi); (try clear ho0)))
                        (try simp only [Act.put, List.setIfInBounds_toArray, List.set_cons_zero, List.set_cons_succ])
                        go_cut [83] (fun v83 wc => ∃ (kq : Nat) (x83_43 : Bool), v83 = .bool x83_43 ∧ Aside0 (ratlinelaw02_NumsShort.j3 kq t230 x63_3 (t230.length : Int) x63_3 x83_43 = some r) ∧ Aside0 (kq ≤ k3) ∧ Aside0 (Kd.R (Kd.int .u8) 5 wc w.heap.size (fun _ => True) (.slice Ao39 t230.length co39) t230) ∧ Aside0 (Kd.C (Kd.int .u8) wc Ao39 y247.length y247) ∧ Aside0 (Below w.heap.size w wc))
                        case first =>
                          have H := HC44.out
                          clear HC44
                          by_cases c47 : t253 = true
                          · subst c47
                            have H1 : (ratlinelaw02_NumsShort.j3 k3 t230 x63_3 (t230.length : Int) x63_3 true) = some r := by rw [if_pos rfl] at H; exact H
                            clear H
                            have H := H1
                            clear H1
                            have H' := Aside0.mk H
                            clear H
                            go_wp2
                            go_meet
                            case rel => exact ⟨_, (true), (by first | rfl | (simp; done) | (simp [*]; done)), H', ⟨by have := HK1.out; have := HJ7.out; have := HK3.out; first | omega | exact Nat.le_refl _⟩, ⟨by (with_reducible repeat (first | apply Kd.R_alloc | apply Kd.R_drewN | apply Kd.R_drew)); exact Kd.R_mono HO_5.out (fun _ hk => trivial)⟩, ⟨by repeat (first | (with_reducible exact HR250.out) | (with_reducible refine Kd.C_alloc ?_ _) | (with_reducible refine Kd.C_drewN ?_ _) | (with_reducible refine Kd.C_drew ?_) | exact HR250.out)⟩, ⟨by repeat (first | (with_reducible first | exact HB.out | apply below_alloc | apply pw_below_drewN | apply below_drew1) | exact HB.out)⟩⟩
                          · replace c47 := Bool.eq_false_iff.mpr c47
                            subst c47
                            have H1 : (if t251 = 0 then (ratlinelaw02_NumsShort.j3 k3 t230 x63_3 (t230.length : Int) x63_3 ((t252.length : Int) != 0)) else (ratlinelaw02_NumsShort.j3 k3 t230 x63_3 (t230.length : Int) x63_3 true)) = some r := by rw [if_neg (show ¬ (false = true) by decide)] at H; exact H
                            clear H
                            have H := H1
                            clear H1
                            by_cases c48 : t251 = 0
                            · rw [if_pos c48] at H
                              have c48b0 : (t251 == 0) = true := beq_iff_eq.mpr c48
                              have c48b1 : (t251 != 0) = false := bne_eq_false_iff_eq.mpr c48
                              clear c48
                              (first | rw [c48b0] | (simp only [i64_w, i32_w]; rw [c48b0]) | skip)
                              have H' := Aside0.mk H
                              clear H
                              obtain ⟨Ao49, co49, eo49⟩ := Kd.R_slice HO255.out
                              subst eo49
                              go_wp2
                              go_meet
                              case rel => exact ⟨_, (((t252.length : Int) != 0)), (by first | rfl | (simp; done) | (simp [*]; done)), H', ⟨by have := HK1.out; have := HJ7.out; have := HK3.out; first | omega | exact Nat.le_refl _⟩, ⟨by (with_reducible repeat (first | apply Kd.R_alloc | apply Kd.R_drewN | apply Kd.R_drew)); exact Kd.R_mono HO_5.out (fun _ hk => trivial)⟩, ⟨by repeat (first | (with_reducible exact HR250.out) | (with_reducible refine Kd.C_alloc ?_ _) | (with_reducible refine Kd.C_drewN ?_ _) | (with_reducible refine Kd.C_drew ?_) | exact HR250.out)⟩, ⟨by repeat (first | (with_reducible first | exact HB.out | apply below_alloc | apply pw_below_drewN | apply below_drew1) | exact HB.out)⟩⟩
                            · rw [if_neg c48] at H
                              have c48b0 : (t251 == 0) = false := beq_eq_false_iff_ne.mpr c48
                              have c48b1 : (t251 != 0) = true := bne_iff_ne.mpr c48
                              (first | rw [c48b0] | (simp only [i64_w, i32_w]; rw [c48b0]) | skip)
                              have H' := Aside0.mk H
                              clear H
                              go_wp2
                              go_meet
                              case rel => exact ⟨_, (true), (by first | rfl | (simp; done) | (simp [*]; done)), H', ⟨by have := HK1.out; have := HJ7.out; have := HK3.out; first | omega | exact Nat.le_refl _⟩, ⟨by (with_reducible repeat (first | apply Kd.R_alloc | apply Kd.R_drewN | apply Kd.R_drew)); exact Kd.R_mono HO_5.out (fun _ hk => trivial)⟩, ⟨by repeat (first | (with_reducible exact HR250.out) | (with_reducible refine Kd.C_alloc ?_ _) | (with_reducible refine Kd.C_drewN ?_ _) | (with_reducible refine Kd.C_drew ?_) | exact HR250.out)⟩, ⟨by repeat (first | (with_reducible first | exact HB.out | apply below_alloc | apply pw_below_drewN | apply below_drew1) | exact HB.out)⟩⟩
                        case rest =>
                          clear HC44
                          try clear c1
                          try clear c2
                          try clear p2
                          try clear q2
                          try clear c3
                          try clear q3
                          try clear c4
                          try clear q4
                          try clear p6
                          try clear c7
                          try clear c7b0
                          try clear c9
                          try clear c9b0
                          try clear c9b1
                          try clear c10
                          try clear c10b0
                          try clear c11
                          try clear c11b0
                          try clear c11b1
                          try clear c14
                          try clear c14b0
                          try clear c14b1
                          try clear c17
                          try clear c17b0
                          try clear c17b1
                          try clear c18
                          try clear c18b0
                          try clear c18b1
                          try clear c19
                          try clear c19b0
                          try clear c22
                          try clear c23
                          try clear q23
                          try clear c26
                          try clear c26b0
                          try clear c26b1
                          try clear c28
                          try clear c28b0
                          try clear c28b1
                          try clear c29
                          try clear c29b0
                          try clear c29b1
                          try clear c30
                          try clear c30b0
                          try clear q34
                          try clear c38
                          try clear c40
                          try clear c40b0
                          try clear c41
                          try clear c41b0
                          try clear c41b1
                          try clear c42
                          try clear c42b0
                          try clear c42b1
                          try clear q45
                          try clear c47
                          try clear c48
                          try clear c48b0
                          try clear c48b1
                          try clear p2
                          try clear p6
                          try clear q2
                          try clear q23
                          try clear q3
                          try clear q34
                          try clear q45
                          obtain ⟨kq, x83_43, rfl, HA, HJ43, HO_5, HR250, HB⟩ := hcut
                          cases kq with
                          | zero => exact absurd HA.out (by simp [ratlinelaw02_NumsShort.j3])
                          | succ kj43 =>
                            have H := HA.out
                            clear HA
                            simp only [ratlinelaw02_NumsShort.j3] at H
                            by_cases c50 : x83_43 = true
                            · subst c50
                              have H1 : (none) = some r := by rw [if_pos rfl] at H; exact H
                              clear H
                              have H := H1
                              clear H1
                              exact absurd H (by simp)
                            · replace c50 := Bool.eq_false_iff.mpr c50
                              subst c50
                              have H1 : (if 0 ≤ x63_3 then (if x63_3 < (t230.length : Int) then (if ((decide ((rd t230 x63_3) > 127)) != (decide (x63_3 < (wrap64 ((t230.length : Int) - 1))))) = true then (none) else (ratlinelaw02_NumsShort.l1 kj43 t230 (t230.length : Int) (wrap64 (x63_3 + 1)))) else (none)) else (none)) = some r := by rw [if_neg (show ¬ (false = true) by decide)] at H; exact H
                              clear H
                              have H := H1
                              clear H1
                              by_cases c51 : 0 ≤ x63_3
                              · rw [if_pos c51] at H
                                have c51b0 : decide (0 ≤ x63_3) = true := decide_eq_true c51
                                clear c51
                                by_cases c52 : x63_3 < (t230.length : Int)
                                · rw [if_pos c52] at H
                                  have c52b0 : decide (x63_3 < (t230.length : Int)) = true := decide_eq_true c52
                                  clear c52
                                  by_cases c53 : ((decide ((rd t230 x63_3) > 127)) != (decide (x63_3 < (wrap64 ((t230.length : Int) - 1))))) = true
                                  · rw [if_pos c53] at H
                                    exact absurd H (by simp)
                                  · rw [if_neg c53] at H
                                    have c53b0 : ((decide ((rd t230 x63_3) > 127)) != (decide (x63_3 < (wrap64 ((t230.length : Int) - 1))))) = false := by simpa using c53
                                    (try (have c53b1 : decide ((decide ((rd t230 x63_3) > 127)) = (decide (x63_3 < (wrap64 ((t230.length : Int) - 1))))) = true := by simpa using c53))
                                    (try (have c53b2 : ((decide ((rd t230 x63_3) > 127)) == (decide (x63_3 < (wrap64 ((t230.length : Int) - 1))))) = true := by simpa using c53))
                                    clear c53
                                    have H' := Aside0.mk H
                                    clear H
                                    have p256 : 0 ≤ (x63_3 : Int) := of_decide_eq_true (by first | (with_reducible assumption) | assumption)
                                    have q256 : x63_3 < (t230.length : Int) := of_decide_eq_true (by first | (with_reducible assumption) | assumption)
                                    obtain ⟨ad256, e256, hx256_0⟩ := Kd.at_int (Kd.R_reads' HO_5.out).2.2 x63_3 p256 q256
                                    cases e256
                                    replace p256 := eq_true p256
                                    replace q256 := eq_true q256
                                    go_wp2
                                    go_roundg kj43
                                    case measure => have := HK1.out; have := HJ7.out; have := HK3.out; have := HJ43.out; omega
                                    case rel => exact ⟨(wrap64 (x63_3 + 1)), (by first | rfl | (simp; done) | (simp [*]; done)), H', ⟨by have := HK1.out; have := HJ7.out; have := HK3.out; have := HJ43.out; omega⟩, ⟨by (with_reducible repeat (first | apply Kd.R_alloc | apply Kd.R_drewN | apply Kd.R_drew)); exact HO_5.out⟩, ⟨by repeat (first | (with_reducible first | exact HB.out | apply below_alloc | apply pw_below_drewN | apply below_drew1) | exact HB.out)⟩⟩
                                · rw [if_neg c52] at H
                                  exact absurd H (by simp)
                              · rw [if_neg c51] at H
                                exact absurd H (by simp)
                      · rw [if_neg c42] at H
                        exact absurd H (by simp)
                    · rw [if_neg c41] at H
                      exact absurd H (by simp)
                  · rw [if_neg c40] at H
                    have c40b0 : decide (x63_3 < (t230.length : Int)) = false := decide_eq_false c40
                    clear c40
                    replace H := Option.bind_eq_some_iff.mp H
                    obtain ⟨t246, A540, H⟩ := H
                    replace H : (some t246) = some r := H
                    have A54 := Aside0.mk A540
                    clear A540
                    obtain rfl := Option.some.inj H
                    go_wp2_with (first | (go_at_call 24; (with_reducible refine (ratlinelaw02_awake.calls  t246 _ A54.out).mono ?_); rintro e w55 ⟨rfl, hb⟩; have n0_ := Aside0.mk (Kd.R_below (by (with_reducible repeat (first | apply Kd.R_alloc | apply Kd.R_drewN | apply Kd.R_drew)); exact HO_5.out) hb); have n1_ := Aside0.mk (below_step (by repeat (first | (with_reducible first | exact HB.out | apply below_alloc | apply pw_below_drewN | apply below_drew1) | exact HB.out)) hb); clear HO_5; clear HB; have HO_5 := n0_; have HB := n1_; clear n0_ n1_; (try clear hb); (try clear hb2); (try clear hk); (try clear hi); (try apply_assumption)))
                    go_ret
                    exact ⟨by first | rfl | (simp [errW_none, errW_some] <;> rfl) | (simp [*, errW_none, errW_some] <;> rfl), by repeat (first | (with_reducible first | exact HB.out | apply below_alloc | apply pw_below_drewN | apply below_drew1) | exact HB.out)⟩

/-- THE ONE PURE STATEMENT of ratlinelaw02_NumsShort: yours. -/
def ratlinelaw02_NumsShort.Pure : Prop := ∀ (a0 : Int) (a1 : Int), (Lit.int .u64 a0).wf = true → (Lit.int .u64 a1).wf = true → ∃ k, ratlinelaw02_NumsShort.f k a0 a1 = some true
theorem ratlinelaw02_NumsShort.walk (P : ratlinelaw02_NumsShort.Pure) (a0 : Int) (a1 : Int) (w : World) (w0 : (Lit.int .u64 a0).wf = true) (w1 : (Lit.int .u64 a1).wf = true) :
    Calls Try.prog 9 #[.int .u64 a0, .int .u64 a1] w fun e w' => e = .returned (.bool true) ∧ Below w.heap.size w w' := by
  obtain ⟨k, h⟩ := P a0 a1 w0 w1
  refine (ratlinelaw02_NumsShort.calls k a0 a1 true w h).mono ?_
  rintro e w' ⟨rfl, hd⟩
  exact ⟨rfl, hd⟩

end Go.Proofs.Ytdppjknfhggpbaa.P
