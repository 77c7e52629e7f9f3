/- Proved here: what the row of EditGrows needs, part 2. Conditions: those of each theorem. Written for this claim by programs; what the claim does not use is left out. -/
import Derived.Lib.Strings
import Derived.Deep.RegionLaw
import Derived.BigRegion
import Derived.Test.YtlaihdipagejfaaSEditGrows1
section
namespace Go.Proofs.Ytlaihdipagejfaa.P
open Go.RowKit Go.Proofs.YtlaihdipagejfaaG Go.Proofs.YtlaihdipagejfaaW.PrintWords Go.Proofs.YtlaihdipagejfaaW.PrintLast Go.Proofs.YtlaihdipagejfaaW.PrintMore
attribute [local go_sem] str_gtr str_geq str_leq max2_int min2_int max_two min_two max_three min_three max_four min_four   -- for this text's walks alone
set_option linter.unusedVariables false
set_option linter.unusedSimpArgs false

def edit_Same.f (k : Nat) (l0_0 : List (S62)) (a0_1 : Int) (a0_2 : Int) (a0_3 : Int) (l1_0 : List (S62)) (a1_1 : Int) (a1_2 : Int) (a1_3 : Int) : Option (Bool) := (api_Meta_61.f k l0_0 l1_0).bind fun t128 => (if t128 = true then (if a0_1 = a1_1 then (if a0_2 = a1_2 then (some (a0_3 == a1_3)) else (some false)) else (some false)) else (some false))
set_option maxHeartbeats 8000000 in
set_option maxRecDepth 100000 in
theorem edit_Same.calls (k : Nat) (A0_0 : Option Addr) (c0_0 : Nat) (l0_0 : List (S62)) (a0_1 : Int) (a0_2 : Int) (a0_3 : Int) (A1_0 : Option Addr) (c1_0 : Nat) (l1_0 : List (S62)) (a1_1 : Int) (a1_2 : Int) (a1_3 : Int) (r : Bool) (w : World) (hr0_0 : Kd.C k62 w A0_0 l0_0.length l0_0) (hc0_0 : l0_0.length ≤ c0_0) (hr1_0 : Kd.C k62 w A1_0 l1_0.length l1_0) (hc1_0 : l1_0.length ≤ c1_0) (h : edit_Same.f k l0_0 a0_1 a0_2 a0_3 l1_0 a1_1 a1_2 a1_3 = some r) :
    Calls Try.prog 36 #[.agg #[.slice A0_0 l0_0.length c0_0, .int .u64 a0_1, .int .u64 a0_2, .int .u64 a0_3], .agg #[.slice A1_0 l1_0.length c1_0, .int .u64 a1_1, .int .u64 a1_2, .int .u64 a1_3]] w fun e w' => e = .returned (.bool r) ∧ Below w.heap.size w w' := by
  have hu54 := Try.underlying54
  have HR0_0 := Aside0.mk hr0_0
  have HC0_0 := Aside0.mk hc0_0
  clear hr0_0 hc0_0
  have HR1_0 := Aside0.mk hr1_0
  have HC1_0 := Aside0.mk hc1_0
  clear hr1_0 hc1_0
  have HB := Aside0.mk (Below.refl w.heap.size w)
  have H : ((api_Meta_61.f k l0_0 l1_0).bind fun t128 => (if t128 = true then (if a0_1 = a1_1 then (if a0_2 = a1_2 then (some (a0_3 == a1_3)) else (some false)) else (some false)) else (some false))) = some r := h
  clear h
  replace H := Option.bind_eq_some_iff.mp H
  obtain ⟨t128, A30, H⟩ := H
  replace H : (if t128 = true then (if a0_1 = a1_1 then (if a0_2 = a1_2 then (some (a0_3 == a1_3)) else (some false)) else (some false)) else (some false)) = some r := H
  have A3 := Aside0.mk A30
  clear A30
  by_cases c4 : t128 = true
  · subst c4
    have H1 : (if a0_1 = a1_1 then (if a0_2 = a1_2 then (some (a0_3 == a1_3)) else (some false)) else (some false)) = some r := by rw [if_pos rfl] at H; exact H
    clear H
    have H := H1
    clear H1
    by_cases c5 : a0_1 = a1_1
    · rw [if_pos c5] at H
      have c5b0 : (a0_1 == a1_1) = true := beq_iff_eq.mpr c5
      have c5b1 : (a0_1 != a1_1) = false := bne_eq_false_iff_eq.mpr c5
      clear c5
      by_cases c6 : a0_2 = a1_2
      · rw [if_pos c6] at H
        have c6b0 : (a0_2 == a1_2) = true := beq_iff_eq.mpr c6
        have c6b1 : (a0_2 != a1_2) = false := bne_eq_false_iff_eq.mpr c6
        clear c6
        obtain rfl := Option.some.inj H
        go_enter Try.func36, Try.ntmps36
        go_wp2_with (first | ((with_reducible refine gate_dst (N := 2) rfl ?_); refine box_event ?hg (N := 2) ?hd (cs := #[.slice A0_0 l0_0.length c0_0, .int .u64 a0_1, .int .u64 a0_2, .int .u64 a0_3]) (t := 54) ?hr ?_; (case hd => rfl); (case hg => rfl); (case hr => first | (go_simp; done) | (go_simp; rfl)); intro gb126 hg w7 hbox hb; have n0_ := Aside0.mk (below_step (by repeat (first | (with_reducible first | exact HB.out | apply below_alloc | apply pw_below_drewN | apply below_drew1) | exact HB.out)) hb); have n1_ := Aside0.mk (hbox); have n2_ := Aside0.mk ((by rw [hg]; exact (below_size (by repeat (first | (with_reducible first | exact HB.out | apply below_alloc | apply pw_below_drewN | apply below_drew1) | exact HB.out))) : w.heap.size ≤ gb126)); have n3_ := Aside0.mk ((by rw [hg]; exact (below_size (by repeat (first | (with_reducible first | exact HB.out | apply below_alloc | apply pw_below_drewN | apply below_drew1) | exact HB.out))) : w.heap.size ≤ gb126)); clear HB; have HB := n0_; have BK126 := n1_; have GW126 := n2_; have GE126 := n3_; clear n0_ n1_ n2_ n3_; clear hb hbox hg) | ((with_reducible refine gate_dst (N := 3) rfl ?_); refine box_event ?hg (N := 3) ?hd (cs := #[.slice A1_0 l1_0.length c1_0, .int .u64 a1_1, .int .u64 a1_2, .int .u64 a1_3]) (t := 54) ?hr ?_; (case hd => rfl); (case hg => rfl); (case hr => first | (go_simp; done) | (go_simp; rfl)); intro gb127 hg w8 hbox hb; have n0_ := Aside0.mk (blk_below (g := gb126) (o := .cells #[.slice A0_0 l0_0.length c0_0, .int .u64 a0_1, .int .u64 a0_2, .int .u64 a0_3] 54 (0, 0)) (by (with_reducible repeat (first | refine blk_drewN ?_ _ | refine blk_drew ?_ | refine blk_alloc ?_ _)); exact BK126.out) hb); have n1_ := Aside0.mk (below_step (by repeat (first | (with_reducible first | exact HB.out | apply below_alloc | apply pw_below_drewN | apply below_drew1 | refine below_set ?_ GE126.out) | exact HB.out)) hb); have n2_ := Aside0.mk (hbox); have n3_ := Aside0.mk ((by rw [hg]; exact (below_size (by repeat (first | (with_reducible first | exact HB.out | apply below_alloc | apply pw_below_drewN | apply below_drew1 | refine below_set ?_ GE126.out) | exact HB.out))) : w.heap.size ≤ gb127)); have n4_ := Aside0.mk ((by rw [hg]; exact (below_size (by repeat (first | (with_reducible first | exact HB.out | apply below_alloc | apply pw_below_drewN | apply below_drew1 | refine below_set ?_ GE126.out) | exact HB.out))) : w.heap.size ≤ gb127)); have n5_ := Aside0.mk ((by rw [hg]; exact Nat.ne_of_lt (blk_lt (g := gb126) (o := .cells #[.slice A0_0 l0_0.length c0_0, .int .u64 a0_1, .int .u64 a0_2, .int .u64 a0_3] 54 (0, 0)) (by (with_reducible repeat (first | refine blk_drewN ?_ _ | refine blk_drew ?_ | refine blk_alloc ?_ _)); exact BK126.out)) : gb126 ≠ gb127)); have n6_ := Aside0.mk ((by rw [hg]; exact Nat.ne_of_gt (blk_lt (g := gb126) (o := .cells #[.slice A0_0 l0_0.length c0_0, .int .u64 a0_1, .int .u64 a0_2, .int .u64 a0_3] 54 (0, 0)) (by (with_reducible repeat (first | refine blk_drewN ?_ _ | refine blk_drew ?_ | refine blk_alloc ?_ _)); exact BK126.out)) : gb127 ≠ gb126)); clear BK126; clear HB; have BK126 := n0_; have HB := n1_; have BK127 := n2_; have GW127 := n3_; have GE127 := n4_; have NB126_127 := n5_; have NB127_126 := n6_; clear n0_ n1_ n2_ n3_ n4_ n5_ n6_; clear hb hbox hg; have hnb9 := NB126_127.out; have hnc9 := NB127_126.out; have hcz10_0 : w8.cell? ⟨gb126, 0, none⟩ = some (.slice A0_0 l0_0.length c0_0) := (blk_cell BK126.out 0).trans rfl; have hcz10_1 : w8.cell? ⟨gb126, 1, none⟩ = some (.int .u64 a0_1) := (blk_cell BK126.out 1).trans rfl; have hcz10_2 : w8.cell? ⟨gb126, 2, none⟩ = some (.int .u64 a0_2) := (blk_cell BK126.out 2).trans rfl; have hcz10_3 : w8.cell? ⟨gb126, 3, none⟩ = some (.int .u64 a0_3) := (blk_cell BK126.out 3).trans rfl; have hfz10_0 := blk_frozen BK126.out 0; have hfz10_1 := blk_frozen BK126.out 1; have hfz10_2 := blk_frozen BK126.out 2; have hfz10_3 := blk_frozen BK126.out 3; have hcz11_0 : w8.cell? ⟨gb127, 0, none⟩ = some (.slice A1_0 l1_0.length c1_0) := (blk_cell BK127.out 0).trans rfl; have hcz11_1 : w8.cell? ⟨gb127, 1, none⟩ = some (.int .u64 a1_1) := (blk_cell BK127.out 1).trans rfl; have hcz11_2 : w8.cell? ⟨gb127, 2, none⟩ = some (.int .u64 a1_2) := (blk_cell BK127.out 2).trans rfl; have hcz11_3 : w8.cell? ⟨gb127, 3, none⟩ = some (.int .u64 a1_3) := (blk_cell BK127.out 3).trans rfl; have hfz11_0 := blk_frozen BK127.out 0; have hfz11_1 := blk_frozen BK127.out 1; have hfz11_2 := blk_frozen BK127.out 2; have hfz11_3 := blk_frozen BK127.out 3) | ((with_reducible refine gate_callee (f := 61) rfl ?_); refine goesL_ (some 9) rfl rfl Try.func61 (by kernel_rfl) rfl #[.slice A0_0 l0_0.length c0_0, .slice A1_0 l1_0.length c1_0] rfl (by (try simp only [List.map_toArray, List.map_cons, List.map_nil]); first | done | rfl | (simp only [List.length_drop, List.length_take]; rfl)) ?_; (with_reducible refine (api_Meta_61.calls k _ _ l0_0 _ _ l1_0 true _ ?side1 ?side2 ?side3 ?side4 A3.out).mono ?_); (case side1 => repeat (first | exact (Kd.C_below HR0_0.out HB.out) | (with_reducible refine Kd.C_alloc ?_ _) | (with_reducible refine Kd.C_drewN ?_ _) | (with_reducible refine Kd.C_drew ?_))); (case side2 => exact HC0_0.out); (case side3 => repeat (first | exact (Kd.C_below HR1_0.out HB.out) | (with_reducible refine Kd.C_alloc ?_ _) | (with_reducible refine Kd.C_drewN ?_ _) | (with_reducible refine Kd.C_drew ?_))); (case side4 => exact HC1_0.out); rintro e w' ⟨rfl, ⟨nd, rfl⟩⟩; refine ⟨_, rfl, ?_⟩))
        go_ret
        exact ⟨by first | rfl | (simp [errW_none, errW_some] <;> rfl) | (simp [*, errW_none, errW_some] <;> rfl), by repeat (first | (with_reducible first | exact HB.out | apply below_alloc | apply pw_below_drewN | apply below_drew1 | refine below_set ?_ GE126.out | refine below_set ?_ GE127.out) | exact HB.out)⟩
      · rw [if_neg c6] at H
        have c6b0 : (a0_2 == a1_2) = false := beq_eq_false_iff_ne.mpr c6
        have c6b1 : (a0_2 != a1_2) = true := bne_iff_ne.mpr c6
        obtain rfl := Option.some.inj H
        go_enter Try.func36, Try.ntmps36
        go_wp2_with (first | ((with_reducible refine gate_dst (N := 2) rfl ?_); refine box_event ?hg (N := 2) ?hd (cs := #[.slice A0_0 l0_0.length c0_0, .int .u64 a0_1, .int .u64 a0_2, .int .u64 a0_3]) (t := 54) ?hr ?_; (case hd => rfl); (case hg => rfl); (case hr => first | (go_simp; done) | (go_simp; rfl)); intro gb126 hg w12 hbox hb; have n0_ := Aside0.mk (below_step (by repeat (first | (with_reducible first | exact HB.out | apply below_alloc | apply pw_below_drewN | apply below_drew1) | exact HB.out)) hb); have n1_ := Aside0.mk (hbox); have n2_ := Aside0.mk ((by rw [hg]; exact (below_size (by repeat (first | (with_reducible first | exact HB.out | apply below_alloc | apply pw_below_drewN | apply below_drew1) | exact HB.out))) : w.heap.size ≤ gb126)); have n3_ := Aside0.mk ((by rw [hg]; exact (below_size (by repeat (first | (with_reducible first | exact HB.out | apply below_alloc | apply pw_below_drewN | apply below_drew1) | exact HB.out))) : w.heap.size ≤ gb126)); clear HB; have HB := n0_; have BK126 := n1_; have GW126 := n2_; have GE126 := n3_; clear n0_ n1_ n2_ n3_; clear hb hbox hg) | ((with_reducible refine gate_dst (N := 3) rfl ?_); refine box_event ?hg (N := 3) ?hd (cs := #[.slice A1_0 l1_0.length c1_0, .int .u64 a1_1, .int .u64 a1_2, .int .u64 a1_3]) (t := 54) ?hr ?_; (case hd => rfl); (case hg => rfl); (case hr => first | (go_simp; done) | (go_simp; rfl)); intro gb127 hg w13 hbox hb; have n0_ := Aside0.mk (blk_below (g := gb126) (o := .cells #[.slice A0_0 l0_0.length c0_0, .int .u64 a0_1, .int .u64 a0_2, .int .u64 a0_3] 54 (0, 0)) (by (with_reducible repeat (first | refine blk_drewN ?_ _ | refine blk_drew ?_ | refine blk_alloc ?_ _)); exact BK126.out) hb); have n1_ := Aside0.mk (below_step (by repeat (first | (with_reducible first | exact HB.out | apply below_alloc | apply pw_below_drewN | apply below_drew1 | refine below_set ?_ GE126.out) | exact HB.out)) hb); have n2_ := Aside0.mk (hbox); have n3_ := Aside0.mk ((by rw [hg]; exact (below_size (by repeat (first | (with_reducible first | exact HB.out | apply below_alloc | apply pw_below_drewN | apply below_drew1 | refine below_set ?_ GE126.out) | exact HB.out))) : w.heap.size ≤ gb127)); have n4_ := Aside0.mk ((by rw [hg]; exact (below_size (by repeat (first | (with_reducible first | exact HB.out | apply below_alloc | apply pw_below_drewN | apply below_drew1 | refine below_set ?_ GE126.out) | exact HB.out))) : w.heap.size ≤ gb127)); have n5_ := Aside0.mk ((by rw [hg]; exact Nat.ne_of_lt (blk_lt (g := gb126) (o := .cells #[.slice A0_0 l0_0.length c0_0, .int .u64 a0_1, .int .u64 a0_2, .int .u64 a0_3] 54 (0, 0)) (by (with_reducible repeat (first | refine blk_drewN ?_ _ | refine blk_drew ?_ | refine blk_alloc ?_ _)); exact BK126.out)) : gb126 ≠ gb127)); have n6_ := Aside0.mk ((by rw [hg]; exact Nat.ne_of_gt (blk_lt (g := gb126) (o := .cells #[.slice A0_0 l0_0.length c0_0, .int .u64 a0_1, .int .u64 a0_2, .int .u64 a0_3] 54 (0, 0)) (by (with_reducible repeat (first | refine blk_drewN ?_ _ | refine blk_drew ?_ | refine blk_alloc ?_ _)); exact BK126.out)) : gb127 ≠ gb126)); clear BK126; clear HB; have BK126 := n0_; have HB := n1_; have BK127 := n2_; have GW127 := n3_; have GE127 := n4_; have NB126_127 := n5_; have NB127_126 := n6_; clear n0_ n1_ n2_ n3_ n4_ n5_ n6_; clear hb hbox hg; have hnb14 := NB126_127.out; have hnc14 := NB127_126.out; have hcz15_0 : w13.cell? ⟨gb126, 0, none⟩ = some (.slice A0_0 l0_0.length c0_0) := (blk_cell BK126.out 0).trans rfl; have hcz15_1 : w13.cell? ⟨gb126, 1, none⟩ = some (.int .u64 a0_1) := (blk_cell BK126.out 1).trans rfl; have hcz15_2 : w13.cell? ⟨gb126, 2, none⟩ = some (.int .u64 a0_2) := (blk_cell BK126.out 2).trans rfl; have hcz15_3 : w13.cell? ⟨gb126, 3, none⟩ = some (.int .u64 a0_3) := (blk_cell BK126.out 3).trans rfl; have hfz15_0 := blk_frozen BK126.out 0; have hfz15_1 := blk_frozen BK126.out 1; have hfz15_2 := blk_frozen BK126.out 2; have hfz15_3 := blk_frozen BK126.out 3; have hcz16_0 : w13.cell? ⟨gb127, 0, none⟩ = some (.slice A1_0 l1_0.length c1_0) := (blk_cell BK127.out 0).trans rfl; have hcz16_1 : w13.cell? ⟨gb127, 1, none⟩ = some (.int .u64 a1_1) := (blk_cell BK127.out 1).trans rfl; have hcz16_2 : w13.cell? ⟨gb127, 2, none⟩ = some (.int .u64 a1_2) := (blk_cell BK127.out 2).trans rfl; have hcz16_3 : w13.cell? ⟨gb127, 3, none⟩ = some (.int .u64 a1_3) := (blk_cell BK127.out 3).trans rfl; have hfz16_0 := blk_frozen BK127.out 0; have hfz16_1 := blk_frozen BK127.out 1; have hfz16_2 := blk_frozen BK127.out 2; have hfz16_3 := blk_frozen BK127.out 3) | ((with_reducible refine gate_callee (f := 61) rfl ?_); refine goesL_ (some 9) rfl rfl Try.func61 (by kernel_rfl) rfl #[.slice A0_0 l0_0.length c0_0, .slice A1_0 l1_0.length c1_0] rfl (by (try simp only [List.map_toArray, List.map_cons, List.map_nil]); first | done | rfl | (simp only [List.length_drop, List.length_take]; rfl)) ?_; (with_reducible refine (api_Meta_61.calls k _ _ l0_0 _ _ l1_0 true _ ?side1 ?side2 ?side3 ?side4 A3.out).mono ?_); (case side1 => repeat (first | exact (Kd.C_below HR0_0.out HB.out) | (with_reducible refine Kd.C_alloc ?_ _) | (with_reducible refine Kd.C_drewN ?_ _) | (with_reducible refine Kd.C_drew ?_))); (case side2 => exact HC0_0.out); (case side3 => repeat (first | exact (Kd.C_below HR1_0.out HB.out) | (with_reducible refine Kd.C_alloc ?_ _) | (with_reducible refine Kd.C_drewN ?_ _) | (with_reducible refine Kd.C_drew ?_))); (case side4 => exact HC1_0.out); rintro e w' ⟨rfl, ⟨nd, rfl⟩⟩; refine ⟨_, rfl, ?_⟩))
        go_ret
        exact ⟨by first | rfl | (simp [errW_none, errW_some] <;> rfl) | (simp [*, errW_none, errW_some] <;> rfl), by repeat (first | (with_reducible first | exact HB.out | apply below_alloc | apply pw_below_drewN | apply below_drew1 | refine below_set ?_ GE126.out | refine below_set ?_ GE127.out) | exact HB.out)⟩
    · rw [if_neg c5] at H
      have c5b0 : (a0_1 == a1_1) = false := beq_eq_false_iff_ne.mpr c5
      have c5b1 : (a0_1 != a1_1) = true := bne_iff_ne.mpr c5
      obtain rfl := Option.some.inj H
      go_enter Try.func36, Try.ntmps36
      go_wp2_with (first | ((with_reducible refine gate_dst (N := 2) rfl ?_); refine box_event ?hg (N := 2) ?hd (cs := #[.slice A0_0 l0_0.length c0_0, .int .u64 a0_1, .int .u64 a0_2, .int .u64 a0_3]) (t := 54) ?hr ?_; (case hd => rfl); (case hg => rfl); (case hr => first | (go_simp; done) | (go_simp; rfl)); intro gb126 hg w17 hbox hb; have n0_ := Aside0.mk (below_step (by repeat (first | (with_reducible first | exact HB.out | apply below_alloc | apply pw_below_drewN | apply below_drew1) | exact HB.out)) hb); have n1_ := Aside0.mk (hbox); have n2_ := Aside0.mk ((by rw [hg]; exact (below_size (by repeat (first | (with_reducible first | exact HB.out | apply below_alloc | apply pw_below_drewN | apply below_drew1) | exact HB.out))) : w.heap.size ≤ gb126)); have n3_ := Aside0.mk ((by rw [hg]; exact (below_size (by repeat (first | (with_reducible first | exact HB.out | apply below_alloc | apply pw_below_drewN | apply below_drew1) | exact HB.out))) : w.heap.size ≤ gb126)); clear HB; have HB := n0_; have BK126 := n1_; have GW126 := n2_; have GE126 := n3_; clear n0_ n1_ n2_ n3_; clear hb hbox hg) | ((with_reducible refine gate_dst (N := 3) rfl ?_); refine box_event ?hg (N := 3) ?hd (cs := #[.slice A1_0 l1_0.length c1_0, .int .u64 a1_1, .int .u64 a1_2, .int .u64 a1_3]) (t := 54) ?hr ?_; (case hd => rfl); (case hg => rfl); (case hr => first | (go_simp; done) | (go_simp; rfl)); intro gb127 hg w18 hbox hb; have n0_ := Aside0.mk (blk_below (g := gb126) (o := .cells #[.slice A0_0 l0_0.length c0_0, .int .u64 a0_1, .int .u64 a0_2, .int .u64 a0_3] 54 (0, 0)) (by (with_reducible repeat (first | refine blk_drewN ?_ _ | refine blk_drew ?_ | refine blk_alloc ?_ _)); exact BK126.out) hb); have n1_ := Aside0.mk (below_step (by repeat (first | (with_reducible first | exact HB.out | apply below_alloc | apply pw_below_drewN | apply below_drew1 | refine below_set ?_ GE126.out) | exact HB.out)) hb); have n2_ := Aside0.mk (hbox); have n3_ := Aside0.mk ((by rw [hg]; exact (below_size (by repeat (first | (with_reducible first | exact HB.out | apply below_alloc | apply pw_below_drewN | apply below_drew1 | refine below_set ?_ GE126.out) | exact HB.out))) : w.heap.size ≤ gb127)); have n4_ := Aside0.mk ((by rw [hg]; exact (below_size (by repeat (first | (with_reducible first | exact HB.out | apply below_alloc | apply pw_below_drewN | apply below_drew1 | refine below_set ?_ GE126.out) | exact HB.out))) : w.heap.size ≤ gb127)); have n5_ := Aside0.mk ((by rw [hg]; exact Nat.ne_of_lt (blk_lt (g := gb126) (o := .cells #[.slice A0_0 l0_0.length c0_0, .int .u64 a0_1, .int .u64 a0_2, .int .u64 a0_3] 54 (0, 0)) (by (with_reducible repeat (first | refine blk_drewN ?_ _ | refine blk_drew ?_ | refine blk_alloc ?_ _)); exact BK126.out)) : gb126 ≠ gb127)); have n6_ := Aside0.mk ((by rw [hg]; exact Nat.ne_of_gt (blk_lt (g := gb126) (o := .cells #[.slice A0_0 l0_0.length c0_0, .int .u64 a0_1, .int .u64 a0_2, .int .u64 a0_3] 54 (0, 0)) (by (with_reducible repeat (first | refine blk_drewN ?_ _ | refine blk_drew ?_ | refine blk_alloc ?_ _)); exact BK126.out)) : gb127 ≠ gb126)); clear BK126; clear HB; have BK126 := n0_; have HB := n1_; have BK127 := n2_; have GW127 := n3_; have GE127 := n4_; have NB126_127 := n5_; have NB127_126 := n6_; clear n0_ n1_ n2_ n3_ n4_ n5_ n6_; clear hb hbox hg; have hnb19 := NB126_127.out; have hnc19 := NB127_126.out; have hcz20_0 : w18.cell? ⟨gb126, 0, none⟩ = some (.slice A0_0 l0_0.length c0_0) := (blk_cell BK126.out 0).trans rfl; have hcz20_1 : w18.cell? ⟨gb126, 1, none⟩ = some (.int .u64 a0_1) := (blk_cell BK126.out 1).trans rfl; have hcz20_2 : w18.cell? ⟨gb126, 2, none⟩ = some (.int .u64 a0_2) := (blk_cell BK126.out 2).trans rfl; have hcz20_3 : w18.cell? ⟨gb126, 3, none⟩ = some (.int .u64 a0_3) := (blk_cell BK126.out 3).trans rfl; have hfz20_0 := blk_frozen BK126.out 0; have hfz20_1 := blk_frozen BK126.out 1; have hfz20_2 := blk_frozen BK126.out 2; have hfz20_3 := blk_frozen BK126.out 3; have hcz21_0 : w18.cell? ⟨gb127, 0, none⟩ = some (.slice A1_0 l1_0.length c1_0) := (blk_cell BK127.out 0).trans rfl; have hcz21_1 : w18.cell? ⟨gb127, 1, none⟩ = some (.int .u64 a1_1) := (blk_cell BK127.out 1).trans rfl; have hcz21_2 : w18.cell? ⟨gb127, 2, none⟩ = some (.int .u64 a1_2) := (blk_cell BK127.out 2).trans rfl; have hcz21_3 : w18.cell? ⟨gb127, 3, none⟩ = some (.int .u64 a1_3) := (blk_cell BK127.out 3).trans rfl; have hfz21_0 := blk_frozen BK127.out 0; have hfz21_1 := blk_frozen BK127.out 1; have hfz21_2 := blk_frozen BK127.out 2; have hfz21_3 := blk_frozen BK127.out 3) | ((with_reducible refine gate_callee (f := 61) rfl ?_); refine goesL_ (some 9) rfl rfl Try.func61 (by kernel_rfl) rfl #[.slice A0_0 l0_0.length c0_0, .slice A1_0 l1_0.length c1_0] rfl (by (try simp only [List.map_toArray, List.map_cons, List.map_nil]); first | done | rfl | (simp only [List.length_drop, List.length_take]; rfl)) ?_; (with_reducible refine (api_Meta_61.calls k _ _ l0_0 _ _ l1_0 true _ ?side1 ?side2 ?side3 ?side4 A3.out).mono ?_); (case side1 => repeat (first | exact (Kd.C_below HR0_0.out HB.out) | (with_reducible refine Kd.C_alloc ?_ _) | (with_reducible refine Kd.C_drewN ?_ _) | (with_reducible refine Kd.C_drew ?_))); (case side2 => exact HC0_0.out); (case side3 => repeat (first | exact (Kd.C_below HR1_0.out HB.out) | (with_reducible refine Kd.C_alloc ?_ _) | (with_reducible refine Kd.C_drewN ?_ _) | (with_reducible refine Kd.C_drew ?_))); (case side4 => exact HC1_0.out); rintro e w' ⟨rfl, ⟨nd, rfl⟩⟩; refine ⟨_, rfl, ?_⟩))
      go_ret
      exact ⟨by first | rfl | (simp [errW_none, errW_some] <;> rfl) | (simp [*, errW_none, errW_some] <;> rfl), by repeat (first | (with_reducible first | exact HB.out | apply below_alloc | apply pw_below_drewN | apply below_drew1 | refine below_set ?_ GE126.out | refine below_set ?_ GE127.out) | exact HB.out)⟩
  · replace c4 := Bool.eq_false_iff.mpr c4
    subst c4
    have H1 : (some false) = some r := by rw [if_neg (show ¬ (false = true) by decide)] at H; exact H
    clear H
    have H := H1
    clear H1
    obtain rfl := Option.some.inj H
    go_enter Try.func36, Try.ntmps36
    go_wp2_with (first | ((with_reducible refine gate_dst (N := 2) rfl ?_); refine box_event ?hg (N := 2) ?hd (cs := #[.slice A0_0 l0_0.length c0_0, .int .u64 a0_1, .int .u64 a0_2, .int .u64 a0_3]) (t := 54) ?hr ?_; (case hd => rfl); (case hg => rfl); (case hr => first | (go_simp; done) | (go_simp; rfl)); intro gb126 hg w22 hbox hb; have n0_ := Aside0.mk (below_step (by repeat (first | (with_reducible first | exact HB.out | apply below_alloc | apply pw_below_drewN | apply below_drew1) | exact HB.out)) hb); have n1_ := Aside0.mk (hbox); have n2_ := Aside0.mk ((by rw [hg]; exact (below_size (by repeat (first | (with_reducible first | exact HB.out | apply below_alloc | apply pw_below_drewN | apply below_drew1) | exact HB.out))) : w.heap.size ≤ gb126)); have n3_ := Aside0.mk ((by rw [hg]; exact (below_size (by repeat (first | (with_reducible first | exact HB.out | apply below_alloc | apply pw_below_drewN | apply below_drew1) | exact HB.out))) : w.heap.size ≤ gb126)); clear HB; have HB := n0_; have BK126 := n1_; have GW126 := n2_; have GE126 := n3_; clear n0_ n1_ n2_ n3_; clear hb hbox hg) | ((with_reducible refine gate_dst (N := 3) rfl ?_); refine box_event ?hg (N := 3) ?hd (cs := #[.slice A1_0 l1_0.length c1_0, .int .u64 a1_1, .int .u64 a1_2, .int .u64 a1_3]) (t := 54) ?hr ?_; (case hd => rfl); (case hg => rfl); (case hr => first | (go_simp; done) | (go_simp; rfl)); intro gb127 hg w23 hbox hb; have n0_ := Aside0.mk (blk_below (g := gb126) (o := .cells #[.slice A0_0 l0_0.length c0_0, .int .u64 a0_1, .int .u64 a0_2, .int .u64 a0_3] 54 (0, 0)) (by (with_reducible repeat (first | refine blk_drewN ?_ _ | refine blk_drew ?_ | refine blk_alloc ?_ _)); exact BK126.out) hb); have n1_ := Aside0.mk (below_step (by repeat (first | (with_reducible first | exact HB.out | apply below_alloc | apply pw_below_drewN | apply below_drew1 | refine below_set ?_ GE126.out) | exact HB.out)) hb); have n2_ := Aside0.mk (hbox); have n3_ := Aside0.mk ((by rw [hg]; exact (below_size (by repeat (first | (with_reducible first | exact HB.out | apply below_alloc | apply pw_below_drewN | apply below_drew1 | refine below_set ?_ GE126.out) | exact HB.out))) : w.heap.size ≤ gb127)); have n4_ := Aside0.mk ((by rw [hg]; exact (below_size (by repeat (first | (with_reducible first | exact HB.out | apply below_alloc | apply pw_below_drewN | apply below_drew1 | refine below_set ?_ GE126.out) | exact HB.out))) : w.heap.size ≤ gb127)); have n5_ := Aside0.mk ((by rw [hg]; exact Nat.ne_of_lt (blk_lt (g := gb126) (o := .cells #[.slice A0_0 l0_0.length c0_0, .int .u64 a0_1, .int .u64 a0_2, .int .u64 a0_3] 54 (0, 0)) (by (with_reducible repeat (first | refine blk_drewN ?_ _ | refine blk_drew ?_ | refine blk_alloc ?_ _)); exact BK126.out)) : gb126 ≠ gb127)); have n6_ := Aside0.mk ((by rw [hg]; exact Nat.ne_of_gt (blk_lt (g := gb126) (o := .cells #[.slice A0_0 l0_0.length c0_0, .int .u64 a0_1, .int .u64 a0_2, .int .u64 a0_3] 54 (0, 0)) (by (with_reducible repeat (first | refine blk_drewN ?_ _ | refine blk_drew ?_ | refine blk_alloc ?_ _)); exact BK126.out)) : gb127 ≠ gb126)); clear BK126; clear HB; have BK126 := n0_; have HB := n1_; have BK127 := n2_; have GW127 := n3_; have GE127 := n4_; have NB126_127 := n5_; have NB127_126 := n6_; clear n0_ n1_ n2_ n3_ n4_ n5_ n6_; clear hb hbox hg; have hnb24 := NB126_127.out; have hnc24 := NB127_126.out; have hcz25_0 : w23.cell? ⟨gb126, 0, none⟩ = some (.slice A0_0 l0_0.length c0_0) := (blk_cell BK126.out 0).trans rfl; have hcz25_1 : w23.cell? ⟨gb126, 1, none⟩ = some (.int .u64 a0_1) := (blk_cell BK126.out 1).trans rfl; have hcz25_2 : w23.cell? ⟨gb126, 2, none⟩ = some (.int .u64 a0_2) := (blk_cell BK126.out 2).trans rfl; have hcz25_3 : w23.cell? ⟨gb126, 3, none⟩ = some (.int .u64 a0_3) := (blk_cell BK126.out 3).trans rfl; have hfz25_0 := blk_frozen BK126.out 0; have hfz25_1 := blk_frozen BK126.out 1; have hfz25_2 := blk_frozen BK126.out 2; have hfz25_3 := blk_frozen BK126.out 3; have hcz26_0 : w23.cell? ⟨gb127, 0, none⟩ = some (.slice A1_0 l1_0.length c1_0) := (blk_cell BK127.out 0).trans rfl; have hcz26_1 : w23.cell? ⟨gb127, 1, none⟩ = some (.int .u64 a1_1) := (blk_cell BK127.out 1).trans rfl; have hcz26_2 : w23.cell? ⟨gb127, 2, none⟩ = some (.int .u64 a1_2) := (blk_cell BK127.out 2).trans rfl; have hcz26_3 : w23.cell? ⟨gb127, 3, none⟩ = some (.int .u64 a1_3) := (blk_cell BK127.out 3).trans rfl; have hfz26_0 := blk_frozen BK127.out 0; have hfz26_1 := blk_frozen BK127.out 1; have hfz26_2 := blk_frozen BK127.out 2; have hfz26_3 := blk_frozen BK127.out 3) | ((with_reducible refine gate_callee (f := 61) rfl ?_); refine goesL_ (some 9) rfl rfl Try.func61 (by kernel_rfl) rfl #[.slice A0_0 l0_0.length c0_0, .slice A1_0 l1_0.length c1_0] rfl (by (try simp only [List.map_toArray, List.map_cons, List.map_nil]); first | done | rfl | (simp only [List.length_drop, List.length_take]; rfl)) ?_; (with_reducible refine (api_Meta_61.calls k _ _ l0_0 _ _ l1_0 false _ ?side1 ?side2 ?side3 ?side4 A3.out).mono ?_); (case side1 => repeat (first | exact (Kd.C_below HR0_0.out HB.out) | (with_reducible refine Kd.C_alloc ?_ _) | (with_reducible refine Kd.C_drewN ?_ _) | (with_reducible refine Kd.C_drew ?_))); (case side2 => exact HC0_0.out); (case side3 => repeat (first | exact (Kd.C_below HR1_0.out HB.out) | (with_reducible refine Kd.C_alloc ?_ _) | (with_reducible refine Kd.C_drewN ?_ _) | (with_reducible refine Kd.C_drew ?_))); (case side4 => exact HC1_0.out); rintro e w' ⟨rfl, ⟨nd, rfl⟩⟩; refine ⟨_, rfl, ?_⟩))
    go_ret
    exact ⟨by first | rfl | (simp [errW_none, errW_some] <;> rfl) | (simp [*, errW_none, errW_some] <;> rfl), by repeat (first | (with_reducible first | exact HB.out | apply below_alloc | apply pw_below_drewN | apply below_drew1 | refine below_set ?_ GE126.out | refine below_set ?_ GE127.out) | exact HB.out)⟩

-- GIVEN: function 49 (nums_Take)

-- GIVEN: function 69 (slices_Clone_byte_byte)

end Go.Proofs.Ytlaihdipagejfaa.P

end

section
namespace Go.Proofs.Ytlaihdipagejfaa.P
open Go.RowKit Go.Proofs.YtlaihdipagejfaaG Go.Proofs.YtlaihdipagejfaaW.PrintWords Go.Proofs.YtlaihdipagejfaaW.PrintLast Go.Proofs.YtlaihdipagejfaaW.PrintMore
attribute [local go_sem] str_gtr str_geq str_leq max2_int min2_int max_two min_two max_three min_three max_four min_four   -- for this text's walks alone
set_option linter.unusedVariables false
set_option linter.unusedSimpArgs false

def ratlineref09_Whole.f (l0_0 : List (S62)) (a0_1 : Int) (a0_2 : Int) (a0_3 : Int) : Option ((List (S62)) × Int × Int × Int) := if ([] : List (S62)).length + l0_0.length < 2932031007402 then (some ((([] : List (S62)) ++ l0_0), a0_1, a0_2, a0_3)) else (none)
def ratlineref09_Whole.T2 : Bool × List (List Nat × List Nat) := (true, [([], []), ([], []), ([1], [1]), ([0, 2], [0, 2]), ([], []), ([4], [4]), ([], []), ([6], [6]), ([], []), ([8], [8]), ([3, 5, 7, 9], [3, 5, 7, 9]), ([10, 3, 0, 1, 2, 3, 4, 5, 6, 7, 8, 9, 10], [10])])
def ratlineref09_Whole.B2 : List Nat := [0, 0, 2, 7, 0, 16, 0, 64, 0, 256, 1023, 2047]
theorem ratlineref09_Whole.tab2 : rtab .any (opsOf Try.f38 2) = ratlineref09_Whole.T2 := by kernel_rfl
theorem ratlineref09_Whole.bits2 : waitsOk ratlineref09_Whole.T2.2 ratlineref09_Whole.B2 = true := by kernel_rfl
set_option maxHeartbeats 8000000 in
set_option maxRecDepth 100000 in
theorem ratlineref09_Whole.calls (A0_0 : Option Addr) (c0_0 : Nat) (l0_0 : List (S62)) (a0_1 : Int) (a0_2 : Int) (a0_3 : Int) (r1 : List (S62)) (r2 : Int) (r3 : Int) (r4 : Int) (w : World) (hr0_0 : Kd.C k62 w A0_0 l0_0.length l0_0) (hc0_0 : l0_0.length ≤ c0_0) (h : ratlineref09_Whole.f l0_0 a0_1 a0_2 a0_3 = some (r1, r2, r3, r4)) :
    Calls Try.prog 38 #[.agg #[.slice A0_0 l0_0.length c0_0, .int .u64 a0_1, .int .u64 a0_2, .int .u64 a0_3]] w fun e w' => ∃ v0_ : Value, e = .returned (.agg #[v0_, .int .u64 r2, .int .u64 r3, .int .u64 r4]) ∧ Kd.R k62 62 w' w.heap.size (fun _ => True) v0_ r1 ∧ Below w.heap.size w w' := by
  have hu57 := Try.underlying57
  have hu54 := Try.underlying54
  have HR0_0 := Aside0.mk hr0_0
  have HC0_0 := Aside0.mk hc0_0
  clear hr0_0 hc0_0
  have HB := Aside0.mk (Below.refl w.heap.size w)
  have H : (if ([] : List (S62)).length + l0_0.length < 2932031007402 then (some ((([] : List (S62)) ++ l0_0), a0_1, a0_2, a0_3)) else (none)) = some (r1, r2, r3, r4) := h
  clear h
  by_cases c2 : ([] : List (S62)).length + l0_0.length < 2932031007402
  · rw [if_pos c2] at H
    have LMc2 := Aside0.mk c2
    clear c2
    obtain ⟨y147, hy147⟩ : ∃ y_ : List (S62), y_ = (([] : List (S62)) ++ l0_0) := ⟨_, rfl⟩
    replace H : (some (y147, a0_1, a0_2, a0_3)) = some (r1, r2, r3, r4) := by first | (rw [hy147]; with_reducible exact H) | (have H2_ := (Option.bind_some _ _).symm.trans H; rw [hy147]; with_reducible exact H2_) | (have H2_ := (Option.bind_some _ _).symm.trans H; with_reducible exact H2_) | with_reducible exact H | (rw [hy147]; exact H) | exact H
    have Ny147 := Aside0.mk hy147
    clear hy147
    simp only [Option.some.injEq, Prod.mk.injEq] at H
    obtain ⟨rfl, rfl, rfl, rfl⟩ := H
    go_enter Try.func38, Try.ntmps38
    try go_wp2_with (first | ((with_reducible refine gate_dst (N := 1) rfl ?_); refine box_event ?hg (N := 1) ?hd (cs := #[.slice A0_0 l0_0.length c0_0, .int .u64 a0_1, .int .u64 a0_2, .int .u64 a0_3]) (t := 57) ?hr ?_; (case hd => rfl); (case hg => rfl); (case hr => first | (go_simp; done) | (go_simp; rfl)); intro gb145 hg w3 hbox hb; have n0_ := Aside0.mk (below_step (by repeat (first | (with_reducible first | exact HB.out | apply below_alloc | apply pw_below_drewN | apply below_drew1) | exact HB.out)) hb); have n1_ := Aside0.mk (hbox); have n2_ := Aside0.mk ((by rw [hg]; exact (below_size (by repeat (first | (with_reducible first | exact HB.out | apply below_alloc | apply pw_below_drewN | apply below_drew1) | exact HB.out))) : w.heap.size ≤ gb145)); have n3_ := Aside0.mk ((by rw [hg]; exact (below_size (by repeat (first | (with_reducible first | exact HB.out | apply below_alloc | apply pw_below_drewN | apply below_drew1) | exact HB.out))) : w.heap.size ≤ gb145)); clear HB; have HB := n0_; have BK145 := n1_; have GW145 := n2_; have GE145 := n3_; clear n0_ n1_ n2_ n3_; clear hb hbox hg) | ((with_reducible refine gate_dst (N := 2) rfl ?_); refine box_event ?hg (N := 2) ?hd (cs := #[.slice none 0 0, .int .u64 0, .int .u64 0, .int .u64 0]) (t := 54) ?hr ?_; (case hd => rfl); (case hg => rfl); (case hr => first | (go_simp; done) | (go_simp; rfl)); intro gb146 hg w4 hbox hb; have n0_ := Aside0.mk (blk_below (g := gb145) (o := .cells #[.slice A0_0 l0_0.length c0_0, .int .u64 a0_1, .int .u64 a0_2, .int .u64 a0_3] 57 (0, 0)) (by (with_reducible repeat (first | refine blk_drewN ?_ _ | refine blk_drew ?_ | refine blk_alloc ?_ _)); exact BK145.out) hb); have n1_ := Aside0.mk (below_step (by repeat (first | (with_reducible first | exact HB.out | apply below_alloc | apply pw_below_drewN | apply below_drew1 | refine below_set ?_ GE145.out) | exact HB.out)) hb); have n2_ := Aside0.mk (hbox); have n3_ := Aside0.mk ((by rw [hg]; exact (below_size (by repeat (first | (with_reducible first | exact HB.out | apply below_alloc | apply pw_below_drewN | apply below_drew1 | refine below_set ?_ GE145.out) | exact HB.out))) : w.heap.size ≤ gb146)); have n4_ := Aside0.mk ((by rw [hg]; exact (below_size (by repeat (first | (with_reducible first | exact HB.out | apply below_alloc | apply pw_below_drewN | apply below_drew1 | refine below_set ?_ GE145.out) | exact HB.out))) : w.heap.size ≤ gb146)); have n5_ := Aside0.mk ((by rw [hg]; exact Nat.ne_of_lt (blk_lt (g := gb145) (o := .cells #[.slice A0_0 l0_0.length c0_0, .int .u64 a0_1, .int .u64 a0_2, .int .u64 a0_3] 57 (0, 0)) (by (with_reducible repeat (first | refine blk_drewN ?_ _ | refine blk_drew ?_ | refine blk_alloc ?_ _)); exact BK145.out)) : gb145 ≠ gb146)); have n6_ := Aside0.mk ((by rw [hg]; exact Nat.ne_of_gt (blk_lt (g := gb145) (o := .cells #[.slice A0_0 l0_0.length c0_0, .int .u64 a0_1, .int .u64 a0_2, .int .u64 a0_3] 57 (0, 0)) (by (with_reducible repeat (first | refine blk_drewN ?_ _ | refine blk_drew ?_ | refine blk_alloc ?_ _)); exact BK145.out)) : gb146 ≠ gb145)); clear BK145; clear HB; have BK145 := n0_; have HB := n1_; have BK146 := n2_; have GW146 := n3_; have GE146 := n4_; have NB145_146 := n5_; have NB146_145 := n6_; clear n0_ n1_ n2_ n3_ n4_ n5_ n6_; clear hb hbox hg))
    have n0_ := Aside0.mk (blk_drew BK145.out)
    have n1_ := Aside0.mk (blk_drew BK146.out)
    have n2_ := Aside0.mk (below_drew1 HB.out)
    clear BK145
    clear BK146
    clear HB
    have BK145 := n0_
    have BK146 := n1_
    have HB := n2_
    clear n0_ n1_ n2_
    refine start_ (n := 12) (S := fun w' => w'.cell? ⟨gb145, 0, none⟩ = some (.slice A0_0 l0_0.length c0_0) ∧ w'.cell? ⟨gb145, 1, none⟩ = some (.int .u64 a0_1) ∧ w'.cell? ⟨gb145, 2, none⟩ = some (.int .u64 a0_2) ∧ w'.cell? ⟨gb145, 3, none⟩ = some (.int .u64 a0_3)) (ds := []) #[false, false, false, false, false, false, false, false, false, false, false, false] (by kernel_rfl) rfl rfl ⟨(blk_cell BK145.out 0).trans rfl, (blk_cell BK145.out 1).trans rfl, (blk_cell BK145.out 2).trans rfl, (blk_cell BK145.out 3).trans rfl⟩ (fun hHeld => ?_); refine with_tabW ratlineref09_Whole.tab2 ratlineref09_Whole.bits2 (fun HT_ HW_ => ?_)
    generalize w4.drew = w5 at BK145 BK146 HB hHeld ⊢
    refine pure_ (i := 0) (N := some 4) (v := ?_) (a' := ?_) #[true, false, false, false, false, false, false, false, false, false, false, false] rfl rfl (any_of HT_.out (by kernel_rfl)) (fun _ _ _ h => h) (Or.inl ⟨by rfl, ?_⟩) ?_ ?_
    rotate_left
    · intro w'
      go_simp
      with_reducible rfl
    rotate_left
    · simp only [Act.put, List.setIfInBounds_toArray, List.set_cons_zero, List.set_cons_succ, i64_w, i32_w]
      rfl
    refine pure_ (i := 1) (N := some 5) (v := ?_) (a' := ?_) #[true, true, false, false, false, false, false, false, false, false, false, false] rfl rfl (any_of HT_.out (by kernel_rfl)) (fun _ _ _ h => h) (Or.inl ⟨by rfl, ?_⟩) ?_ ?_
    rotate_left
    · intro w'
      go_simp
      with_reducible rfl
    rotate_left
    · simp only [Act.put, List.setIfInBounds_toArray, List.set_cons_zero, List.set_cons_succ, i64_w, i32_w]
      rfl
    refine pure_ (i := 4) (N := some 8) (v := ?_) (a' := ?_) #[true, true, false, false, true, false, false, false, false, false, false, false] rfl rfl (any_of HT_.out (by kernel_rfl)) (fun _ _ _ h => h) (Or.inl ⟨by rfl, ?_⟩) ?_ ?_
    rotate_left
    · intro w'
      go_simp
      with_reducible rfl
    rotate_left
    · simp only [Act.put, List.setIfInBounds_toArray, List.set_cons_zero, List.set_cons_succ, i64_w, i32_w]
      rfl
    refine pure_ (i := 6) (N := some 10) (v := ?_) (a' := ?_) #[true, true, false, false, true, false, true, false, false, false, false, false] rfl rfl (any_of HT_.out (by kernel_rfl)) (fun _ _ _ h => h) (Or.inl ⟨by rfl, ?_⟩) ?_ ?_
    rotate_left
    · intro w'
      go_simp
      with_reducible rfl
    rotate_left
    · simp only [Act.put, List.setIfInBounds_toArray, List.set_cons_zero, List.set_cons_succ, i64_w, i32_w]
      rfl
    refine pure_ (i := 8) (N := some 12) (v := ?_) (a' := ?_) #[true, true, false, false, true, false, true, false, true, false, false, false] rfl rfl (any_of HT_.out (by kernel_rfl)) (fun _ _ _ h => h) (Or.inl ⟨by rfl, ?_⟩) ?_ ?_
    rotate_left
    · intro w'
      go_simp
      with_reducible rfl
    rotate_left
    · simp only [Act.put, List.setIfInBounds_toArray, List.set_cons_zero, List.set_cons_succ, i64_w, i32_w]
      rfl
    refine take_ (i := 2) (N := some 6) (v := ?_) (a' := ?_) #[true, true, true, false, true, false, true, false, true, false, false, false] rfl rfl (take_ofW HT_.out HW_.out (by kernel_rfl)) (fun _ _ _ h => h) (Or.inl ⟨by rfl, ?_⟩) hHeld ?_ ?_
    rotate_left
    · rintro w' ⟨s0, s1, s2, s3⟩
      go_simp
      with_reducible rfl
    rotate_left
    · simp only [Act.put, List.setIfInBounds_toArray, List.set_cons_zero, List.set_cons_succ, i64_w, i32_w]
      rfl
    refine take_ (i := 5) (N := some 9) (v := ?_) (a' := ?_) #[true, true, true, false, true, true, true, false, true, false, false, false] rfl rfl (take_ofW HT_.out HW_.out (by kernel_rfl)) (fun _ _ _ h => h) (Or.inl ⟨by rfl, ?_⟩) hHeld ?_ ?_
    rotate_left
    · rintro w' ⟨s0, s1, s2, s3⟩
      go_simp
      with_reducible rfl
    rotate_left
    · simp only [Act.put, List.setIfInBounds_toArray, List.set_cons_zero, List.set_cons_succ, i64_w, i32_w]
      rfl
    refine take_ (i := 7) (N := some 11) (v := ?_) (a' := ?_) #[true, true, true, false, true, true, true, true, true, false, false, false] rfl rfl (take_ofW HT_.out HW_.out (by kernel_rfl)) (fun _ _ _ h => h) (Or.inl ⟨by rfl, ?_⟩) hHeld ?_ ?_
    rotate_left
    · rintro w' ⟨s0, s1, s2, s3⟩
      go_simp
      with_reducible rfl
    rotate_left
    · simp only [Act.put, List.setIfInBounds_toArray, List.set_cons_zero, List.set_cons_succ, i64_w, i32_w]
      rfl
    refine take_ (i := 9) (N := some 13) (v := ?_) (a' := ?_) #[true, true, true, false, true, true, true, true, true, true, false, false] rfl rfl (take_ofW HT_.out HW_.out (by kernel_rfl)) (fun _ _ _ h => h) (Or.inl ⟨by rfl, ?_⟩) hHeld ?_ ?_
    rotate_left
    · rintro w' ⟨s0, s1, s2, s3⟩
      go_simp
      with_reducible rfl
    rotate_left
    · simp only [Act.put, List.setIfInBounds_toArray, List.set_cons_zero, List.set_cons_succ, i64_w, i32_w]
      rfl
    refine one_ (i := 3) (N := some 7) #[true, true, true, true, true, true, true, true, true, true, false, false] rfl rfl (one_of HT_.out (by kernel_rfl)) (by decide) (fun K hK => ?_)
    refine Kd.R_append_rows_step k62 (w0 := w) w.heap.size (by rfl) (.tmp 4) (.tmp 6) 52 62 (.agg #[(.int .u64 0), (.int .u64 0), (.string ⟨#[]⟩), (.string ⟨#[]⟩)]) 48 rfl Try.underlying52 info62 rfl (by decide) (by omega) (.slice none 0 0) ([] : List (S62)) l0_0 _ _ _ (fun _ => True) (fun _ => False) rfl rfl ?aO ?aR (fun _ _ h => h) (fun _ h => h.elim) ?aF ?aB ?aS ?aL ?_
    (case aR => repeat (first | exact (Kd.C_below HR0_0.out HB.out) | (with_reducible refine Kd.C_alloc ?_ _) | (with_reducible refine Kd.C_drewN ?_ _) | (with_reducible refine Kd.C_drew ?_)))
    (case aB => exact (by repeat (first | (with_reducible first | exact HB.out | apply below_alloc | apply pw_below_drewN | apply below_drew1 | refine below_set ?_ GE145.out | refine below_set ?_ GE146.out) | exact HB.out)))
    (case aF => exact (fun _ _ => trivial))
    (case aO => exact ((Kd.R_nil _ _ _ _ (fun _ => True))))
    (case aS => exact (below_size (by repeat (first | (with_reducible first | exact HB.out | apply below_alloc | apply pw_below_drewN | apply below_drew1 | refine below_set ?_ GE145.out | refine below_set ?_ GE146.out) | exact HB.out))))
    (case aL => have := LMc2.out; omega)
    intro v148 w6 ho hb hg hat
    rw [← Ny147.out] at ho
    have n0_ := Aside0.mk (blk_grown (g := gb145) (o := .cells #[.slice A0_0 l0_0.length c0_0, .int .u64 a0_1, .int .u64 a0_2, .int .u64 a0_3] 57 (0, 0)) (by (with_reducible repeat (first | refine blk_drewN ?_ _ | refine blk_drew ?_ | refine blk_alloc ?_ _)); exact BK145.out) hg (by simp [Value.ownBlock]))
    have n1_ := Aside0.mk (blk_grown (g := gb146) (o := .cells #[.slice none 0 0, .int .u64 0, .int .u64 0, .int .u64 0] 54 (0, 0)) (by (with_reducible repeat (first | refine blk_drewN ?_ _ | refine blk_drew ?_ | refine blk_alloc ?_ _)); exact BK146.out) hg (by simp [Value.ownBlock]))
    have n2_ := Aside0.mk (hb)
    have n3_ := Aside0.mk (ho)
    clear BK145
    clear BK146
    clear HB
    have BK145 := n0_
    have BK146 := n1_
    have HB := n2_
    have HO149 := n3_
    clear n0_ n1_ n2_ n3_
    clear ho hb hg hat
    obtain ⟨Ao7, co7, eo7⟩ := Kd.R_slice HO149.out
    (first | subst eo7 | (injection eo7 with f1_ f2_ f3_; have f4_ := f1_.symm; have f5_ := f3_.symm; clear f1_ f2_ f3_; subst f4_; subst f5_))
    refine hK.out _ _ ⟨(blk_cell BK145.out 0).trans rfl, (blk_cell BK145.out 1).trans rfl, (blk_cell BK145.out 2).trans rfl, (blk_cell BK145.out 3).trans rfl⟩ (fun hHeld => ?_)
    clear hK K
    refine norm_ (a' := ?_) ?_ ?_
    rotate_left
    · show Act.put _ (some 7) _ = _
      simp only [Act.put, List.setIfInBounds_toArray, List.set_cons_zero, List.set_cons_succ, i64_w, i32_w]
      rfl
    refine pure_ (i := 10) (N := some 14) (v := ?_) (a' := ?_) #[true, true, true, true, true, true, true, true, true, true, true, false] rfl rfl (any_of HT_.out (by kernel_rfl)) (fun _ _ _ h => h) (Or.inl ⟨by rfl, ?_⟩) ?_ ?_
    rotate_left
    · intro w'
      go_simp
      with_reducible rfl
    rotate_left
    · simp only [Act.put, List.setIfInBounds_toArray, List.set_cons_zero, List.set_cons_succ, i64_w, i32_w]
      rfl
    refine one_ (i := 11) (N := none) #[true, true, true, true, true, true, true, true, true, true, true, true] rfl rfl (one_of HT_.out (by kernel_rfl)) (by decide) (fun K hK => ?_)
    have hs8 : w6.cell? ⟨gb146, 0, none⟩ = some (.slice none 0 0) := (blk_cell BK146.out 0).trans rfl
    have hfs8 := blk_frozen BK146.out 0
    have hns8_0 := NB145_146.out
    have hms8_0 := NB146_145.out
    have hs9 : w6.cell? ⟨gb146, 1, none⟩ = some (.int .u64 0) := (blk_cell BK146.out 1).trans rfl
    have hfs9 := blk_frozen BK146.out 1
    have hns9_0 := NB145_146.out
    have hms9_0 := NB146_145.out
    have hs10 : w6.cell? ⟨gb146, 2, none⟩ = some (.int .u64 0) := (blk_cell BK146.out 2).trans rfl
    have hfs10 := blk_frozen BK146.out 2
    have hns10_0 := NB145_146.out
    have hms10_0 := NB146_145.out
    have hs11 : w6.cell? ⟨gb146, 3, none⟩ = some (.int .u64 0) := (blk_cell BK146.out 3).trans rfl
    have hfs11 := blk_frozen BK146.out 3
    have hns11_0 := NB145_146.out
    have hms11_0 := NB146_145.out
    refine skip_ (w1 := ?_) (by rfl) rfl ?_ ?_
    rotate_left
    · go_simp
      rfl
    refine hK.out _ _ ⟨((cell_far (p := ⟨gb146, _, none⟩) NB145_146.out _).trans (((cell_far (p := ⟨gb146, _, none⟩) NB145_146.out _).trans (((cell_far (p := ⟨gb146, _, none⟩) NB145_146.out _).trans (((cell_far (p := ⟨gb146, _, none⟩) NB145_146.out _).trans (hHeld.1)))))))), ((cell_far (p := ⟨gb146, _, none⟩) NB145_146.out _).trans (((cell_far (p := ⟨gb146, _, none⟩) NB145_146.out _).trans (((cell_far (p := ⟨gb146, _, none⟩) NB145_146.out _).trans (((cell_far (p := ⟨gb146, _, none⟩) NB145_146.out _).trans (hHeld.2.1)))))))), ((cell_far (p := ⟨gb146, _, none⟩) NB145_146.out _).trans (((cell_far (p := ⟨gb146, _, none⟩) NB145_146.out _).trans (((cell_far (p := ⟨gb146, _, none⟩) NB145_146.out _).trans (((cell_far (p := ⟨gb146, _, none⟩) NB145_146.out _).trans (hHeld.2.2.1)))))))), ((cell_far (p := ⟨gb146, _, none⟩) NB145_146.out _).trans (((cell_far (p := ⟨gb146, _, none⟩) NB145_146.out _).trans (((cell_far (p := ⟨gb146, _, none⟩) NB145_146.out _).trans (((cell_far (p := ⟨gb146, _, none⟩) NB145_146.out _).trans (hHeld.2.2.2))))))))⟩ (fun hHeld => ?_)
    clear hK K
    refine done_ (done_of HT_.out (by kernel_rfl)) ?_
    try go_wp2
    refine bodyPost_ret (results_cell_row rfl _ _ gb146 54 #[.slice Ao7 y147.length co7, .int .u64 a0_1, .int .u64 a0_2, .int .u64 a0_3] (0, 0) _ rfl (by (with_reducible repeat (first | refine blk_drewN ?_ _ | refine blk_drew ?_ | refine blk_alloc ?_ _)); refine blk_put (cs := #[.slice Ao7 y147.length co7, .int .u64 a0_1, .int .u64 a0_2, .int .u64 0]) ?_ 3 _ rfl; (with_reducible repeat (first | refine blk_drewN ?_ _ | refine blk_drew ?_ | refine blk_alloc ?_ _)); refine blk_put (cs := #[.slice Ao7 y147.length co7, .int .u64 a0_1, .int .u64 0, .int .u64 0]) ?_ 2 _ rfl; (with_reducible repeat (first | refine blk_drewN ?_ _ | refine blk_drew ?_ | refine blk_alloc ?_ _)); refine blk_put (cs := #[.slice Ao7 y147.length co7, .int .u64 0, .int .u64 0, .int .u64 0]) ?_ 1 _ rfl; (with_reducible repeat (first | refine blk_drewN ?_ _ | refine blk_drew ?_ | refine blk_alloc ?_ _)); refine blk_put (cs := #[.slice none 0 0, .int .u64 0, .int .u64 0, .int .u64 0]) ?_ 0 _ rfl; (with_reducible repeat (first | refine blk_drewN ?_ _ | refine blk_drew ?_ | refine blk_alloc ?_ _)); exact BK146.out) Try.underlying54 rfl (by kernel_rfl)) rfl ?_
    exact ⟨_, by first | rfl | (simp [errW_none, errW_some] <;> rfl) | (simp [*, errW_none, errW_some] <;> rfl), by (with_reducible repeat (first | apply Kd.R_alloc | apply Kd.R_drewN | apply Kd.R_drew)); exact Kd.R_mono (Kd.R_far (p := ⟨gb146, 3, none⟩) (Kd.R_far (p := ⟨gb146, 2, none⟩) (Kd.R_far (p := ⟨gb146, 1, none⟩) (Kd.R_far (p := ⟨gb146, 0, none⟩) (Kd.R_types HO149.out BK146.out (by decide)) (fun _ hk => hk.2) (.slice Ao7 y147.length co7)) (fun _ hk => hk.2) (.int .u64 a0_1)) (fun _ hk => hk.2) (.int .u64 a0_2)) (fun _ hk => hk.2) (.int .u64 a0_3)) (fun _ hk => trivial), by repeat (first | (with_reducible first | exact HB.out | apply below_alloc | apply pw_below_drewN | apply below_drew1 | refine below_set ?_ GE145.out | refine below_set ?_ GE146.out) | exact HB.out)⟩
  · rw [if_neg c2] at H
    exact absurd H (by simp)

end Go.Proofs.Ytlaihdipagejfaa.P

end

section
namespace Go.Proofs.Ytlaihdipagejfaa.P
open Go.RowKit Go.Proofs.YtlaihdipagejfaaG Go.Proofs.YtlaihdipagejfaaW.PrintWords Go.Proofs.YtlaihdipagejfaaW.PrintLast Go.Proofs.YtlaihdipagejfaaW.PrintMore
attribute [local go_sem] str_gtr str_geq str_leq max2_int min2_int max_two min_two max_three min_three max_four min_four   -- for this text's walks alone
set_option linter.unusedVariables false
set_option linter.unusedSimpArgs false

attribute [local go_sem high] eqA62
mutual
def ratlineref09_Same.j0 : Nat → Bool → List (S62) → Int → Int → Int → List (S62) → Int → Int → Int → Option (Bool)
  | 0, _, _, _, _, _, _, _, _, _ => none
  | k + 1, x33, x326000, x326001, x326002, x326003, x327000, x327001, x327002, x327003 => if x33 = true then (some false) else (ratlineref09_Same.l0 k 0 x326000 x326001 x326002 x326003 x327000 x327001 x327002 x327003)
def ratlineref09_Same.l0 : Nat → Int → List (S62) → Int → Int → Int → List (S62) → Int → Int → Int → Option (Bool)
  | 0, _, _, _, _, _, _, _, _, _ => none
  | k + 1, x5, x326000, x326001, x326002, x326003, x327000, x327001, x327002, x327003 => if x5 < (x326000.length : Int) then (if 0 ≤ x5 then (if x5 < (x327000.length : Int) then (if (!(((rd_T62 x326000 x5).f0) == ((rd_T62 x327000 x5).f0)) || (!(((rd_T62 x326000 x5).f1) == ((rd_T62 x327000 x5).f1)) || (!((((rd_T62 x326000 x5).f2).toList) == (((rd_T62 x327000 x5).f2).toList)) || (!((((rd_T62 x326000 x5).f3).toList) == (((rd_T62 x327000 x5).f3).toList)))))) = true then (some false) else (ratlineref09_Same.l0 k (wrap64 (x5 + 1)) x326000 x326001 x326002 x326003 x327000 x327001 x327002 x327003)) else (none)) else (none)) else (some true)
end
def ratlineref09_Same.f (k : Nat) (l0_0 : List (S62)) (a0_1 : Int) (a0_2 : Int) (a0_3 : Int) (l1_0 : List (S62)) (a1_1 : Int) (a1_2 : Int) (a1_3 : Int) : Option (Bool) := if (l0_0.length : Int) = (l1_0.length : Int) then (if a0_1 = a1_1 then (if a0_2 = a1_2 then (ratlineref09_Same.j0 k (a0_3 != a1_3) l0_0 a0_1 a0_2 a0_3 l1_0 a1_1 a1_2 a1_3) else (ratlineref09_Same.j0 k true l0_0 a0_1 a0_2 a0_3 l1_0 a1_1 a1_2 a1_3)) else (ratlineref09_Same.j0 k true l0_0 a0_1 a0_2 a0_3 l1_0 a1_1 a1_2 a1_3)) else (ratlineref09_Same.j0 k true l0_0 a0_1 a0_2 a0_3 l1_0 a1_1 a1_2 a1_3)
set_option maxHeartbeats 8000000 in
set_option maxRecDepth 100000 in
theorem ratlineref09_Same.calls (k : Nat) (A0_0 : Option Addr) (c0_0 : Nat) (l0_0 : List (S62)) (a0_1 : Int) (a0_2 : Int) (a0_3 : Int) (A1_0 : Option Addr) (c1_0 : Nat) (l1_0 : List (S62)) (a1_1 : Int) (a1_2 : Int) (a1_3 : Int) (r : Bool) (w : World) (hr0_0 : Kd.C k62 w A0_0 l0_0.length l0_0) (hc0_0 : l0_0.length ≤ c0_0) (hr1_0 : Kd.C k62 w A1_0 l1_0.length l1_0) (hc1_0 : l1_0.length ≤ c1_0) (h : ratlineref09_Same.f k l0_0 a0_1 a0_2 a0_3 l1_0 a1_1 a1_2 a1_3 = some r) :
    Calls Try.prog 43 #[.agg #[.slice A0_0 l0_0.length c0_0, .int .u64 a0_1, .int .u64 a0_2, .int .u64 a0_3], .agg #[.slice A1_0 l1_0.length c1_0, .int .u64 a1_1, .int .u64 a1_2, .int .u64 a1_3]] w fun e w' => e = .returned (.bool r) ∧ Below w.heap.size w w' := by
  have hu54 := Try.underlying54
  have hu62 := Try.underlying62
  have HR0_0 := Aside0.mk hr0_0
  have HC0_0 := Aside0.mk hc0_0
  clear hr0_0 hc0_0
  have HR1_0 := Aside0.mk hr1_0
  have HC1_0 := Aside0.mk hc1_0
  clear hr1_0 hc1_0
  have HB := Aside0.mk (Below.refl w.heap.size w)
  have H : (if (l0_0.length : Int) = (l1_0.length : Int) then (if a0_1 = a1_1 then (if a0_2 = a1_2 then (ratlineref09_Same.j0 k (a0_3 != a1_3) l0_0 a0_1 a0_2 a0_3 l1_0 a1_1 a1_2 a1_3) else (ratlineref09_Same.j0 k true l0_0 a0_1 a0_2 a0_3 l1_0 a1_1 a1_2 a1_3)) else (ratlineref09_Same.j0 k true l0_0 a0_1 a0_2 a0_3 l1_0 a1_1 a1_2 a1_3)) else (ratlineref09_Same.j0 k true l0_0 a0_1 a0_2 a0_3 l1_0 a1_1 a1_2 a1_3)) = some r := h
  clear h
  have HC3 := Aside0.mk H
  clear H
  go_enter Try.func43, Try.ntmps43
  go_upto_region 1 with (first | ((with_reducible refine gate_dst (N := 2) rfl ?_); refine box_event ?hg (N := 2) ?hd (cs := #[.slice A0_0 l0_0.length c0_0, .int .u64 a0_1, .int .u64 a0_2, .int .u64 a0_3]) (t := 54) ?hr ?_; (case hd => rfl); (case hg => rfl); (case hr => first | (go_simp; done) | (go_simp; rfl)); intro gb325 hg w4 hbox hb; have n0_ := Aside0.mk (below_step (by repeat (first | (with_reducible first | exact HB.out | apply below_alloc | apply pw_below_drewN | apply below_drew1) | exact HB.out)) hb); have n1_ := Aside0.mk (hbox); have n2_ := Aside0.mk ((by rw [hg]; exact (below_size (by repeat (first | (with_reducible first | exact HB.out | apply below_alloc | apply pw_below_drewN | apply below_drew1) | exact HB.out))) : w.heap.size ≤ gb325)); have n3_ := Aside0.mk ((by rw [hg]; exact (below_size (by repeat (first | (with_reducible first | exact HB.out | apply below_alloc | apply pw_below_drewN | apply below_drew1) | exact HB.out))) : w.heap.size ≤ gb325)); clear HB; have HB := n0_; have BK325 := n1_; have GW325 := n2_; have GE325 := n3_; clear n0_ n1_ n2_ n3_; clear hb hbox hg) | ((with_reducible refine gate_dst (N := 3) rfl ?_); refine box_event ?hg (N := 3) ?hd (cs := #[.slice A1_0 l1_0.length c1_0, .int .u64 a1_1, .int .u64 a1_2, .int .u64 a1_3]) (t := 54) ?hr ?_; (case hd => rfl); (case hg => rfl); (case hr => first | (go_simp; done) | (go_simp; rfl)); intro gb326 hg w5 hbox hb; have n0_ := Aside0.mk (blk_below (g := gb325) (o := .cells #[.slice A0_0 l0_0.length c0_0, .int .u64 a0_1, .int .u64 a0_2, .int .u64 a0_3] 54 (0, 0)) (by (with_reducible repeat (first | refine blk_drewN ?_ _ | refine blk_drew ?_ | refine blk_alloc ?_ _)); exact BK325.out) hb); have n1_ := Aside0.mk (below_step (by repeat (first | (with_reducible first | exact HB.out | apply below_alloc | apply pw_below_drewN | apply below_drew1 | refine below_set ?_ GE325.out) | exact HB.out)) hb); have n2_ := Aside0.mk (hbox); have n3_ := Aside0.mk ((by rw [hg]; exact (below_size (by repeat (first | (with_reducible first | exact HB.out | apply below_alloc | apply pw_below_drewN | apply below_drew1 | refine below_set ?_ GE325.out) | exact HB.out))) : w.heap.size ≤ gb326)); have n4_ := Aside0.mk ((by rw [hg]; exact (below_size (by repeat (first | (with_reducible first | exact HB.out | apply below_alloc | apply pw_below_drewN | apply below_drew1 | refine below_set ?_ GE325.out) | exact HB.out))) : w.heap.size ≤ gb326)); have n5_ := Aside0.mk ((by rw [hg]; exact Nat.ne_of_lt (blk_lt (g := gb325) (o := .cells #[.slice A0_0 l0_0.length c0_0, .int .u64 a0_1, .int .u64 a0_2, .int .u64 a0_3] 54 (0, 0)) (by (with_reducible repeat (first | refine blk_drewN ?_ _ | refine blk_drew ?_ | refine blk_alloc ?_ _)); exact BK325.out)) : gb325 ≠ gb326)); have n6_ := Aside0.mk ((by rw [hg]; exact Nat.ne_of_gt (blk_lt (g := gb325) (o := .cells #[.slice A0_0 l0_0.length c0_0, .int .u64 a0_1, .int .u64 a0_2, .int .u64 a0_3] 54 (0, 0)) (by (with_reducible repeat (first | refine blk_drewN ?_ _ | refine blk_drew ?_ | refine blk_alloc ?_ _)); exact BK325.out)) : gb326 ≠ gb325)); clear BK325; clear HB; have BK325 := n0_; have HB := n1_; have BK326 := n2_; have GW326 := n3_; have GE326 := n4_; have NB325_326 := n5_; have NB326_325 := n6_; clear n0_ n1_ n2_ n3_ n4_ n5_ n6_; clear hb hbox hg))
  repeat (go_quiet (first | ((with_reducible refine gate_dst (N := 2) rfl ?_); refine box_event ?hg (N := 2) ?hd (cs := #[.slice A0_0 l0_0.length c0_0, .int .u64 a0_1, .int .u64 a0_2, .int .u64 a0_3]) (t := 54) ?hr ?_; (case hd => rfl); (case hg => rfl); (case hr => first | (go_simp; done) | (go_simp; rfl)); intro gb325 hg w4 hbox hb; have n0_ := Aside0.mk (below_step (by repeat (first | (with_reducible first | exact HB.out | apply below_alloc | apply pw_below_drewN | apply below_drew1) | exact HB.out)) hb); have n1_ := Aside0.mk (hbox); have n2_ := Aside0.mk ((by rw [hg]; exact (below_size (by repeat (first | (with_reducible first | exact HB.out | apply below_alloc | apply pw_below_drewN | apply below_drew1) | exact HB.out))) : w.heap.size ≤ gb325)); have n3_ := Aside0.mk ((by rw [hg]; exact (below_size (by repeat (first | (with_reducible first | exact HB.out | apply below_alloc | apply pw_below_drewN | apply below_drew1) | exact HB.out))) : w.heap.size ≤ gb325)); clear HB; have HB := n0_; have BK325 := n1_; have GW325 := n2_; have GE325 := n3_; clear n0_ n1_ n2_ n3_; clear hb hbox hg) | ((with_reducible refine gate_dst (N := 3) rfl ?_); refine box_event ?hg (N := 3) ?hd (cs := #[.slice A1_0 l1_0.length c1_0, .int .u64 a1_1, .int .u64 a1_2, .int .u64 a1_3]) (t := 54) ?hr ?_; (case hd => rfl); (case hg => rfl); (case hr => first | (go_simp; done) | (go_simp; rfl)); intro gb326 hg w5 hbox hb; have n0_ := Aside0.mk (blk_below (g := gb325) (o := .cells #[.slice A0_0 l0_0.length c0_0, .int .u64 a0_1, .int .u64 a0_2, .int .u64 a0_3] 54 (0, 0)) (by (with_reducible repeat (first | refine blk_drewN ?_ _ | refine blk_drew ?_ | refine blk_alloc ?_ _)); exact BK325.out) hb); have n1_ := Aside0.mk (below_step (by repeat (first | (with_reducible first | exact HB.out | apply below_alloc | apply pw_below_drewN | apply below_drew1 | refine below_set ?_ GE325.out) | exact HB.out)) hb); have n2_ := Aside0.mk (hbox); have n3_ := Aside0.mk ((by rw [hg]; exact (below_size (by repeat (first | (with_reducible first | exact HB.out | apply below_alloc | apply pw_below_drewN | apply below_drew1 | refine below_set ?_ GE325.out) | exact HB.out))) : w.heap.size ≤ gb326)); have n4_ := Aside0.mk ((by rw [hg]; exact (below_size (by repeat (first | (with_reducible first | exact HB.out | apply below_alloc | apply pw_below_drewN | apply below_drew1 | refine below_set ?_ GE325.out) | exact HB.out))) : w.heap.size ≤ gb326)); have n5_ := Aside0.mk ((by rw [hg]; exact Nat.ne_of_lt (blk_lt (g := gb325) (o := .cells #[.slice A0_0 l0_0.length c0_0, .int .u64 a0_1, .int .u64 a0_2, .int .u64 a0_3] 54 (0, 0)) (by (with_reducible repeat (first | refine blk_drewN ?_ _ | refine blk_drew ?_ | refine blk_alloc ?_ _)); exact BK325.out)) : gb325 ≠ gb326)); have n6_ := Aside0.mk ((by rw [hg]; exact Nat.ne_of_gt (blk_lt (g := gb325) (o := .cells #[.slice A0_0 l0_0.length c0_0, .int .u64 a0_1, .int .u64 a0_2, .int .u64 a0_3] 54 (0, 0)) (by (with_reducible repeat (first | refine blk_drewN ?_ _ | refine blk_drew ?_ | refine blk_alloc ?_ _)); exact BK325.out)) : gb326 ≠ gb325)); clear BK325; clear HB; have BK325 := n0_; have HB := n1_; have BK326 := n2_; have GW326 := n3_; have GE326 := n4_; have NB325_326 := n5_; have NB326_325 := n6_; clear n0_ n1_ n2_ n3_ n4_ n5_ n6_; clear hb hbox hg)); go_upto_region 1 with (first | ((with_reducible refine gate_dst (N := 2) rfl ?_); refine box_event ?hg (N := 2) ?hd (cs := #[.slice A0_0 l0_0.length c0_0, .int .u64 a0_1, .int .u64 a0_2, .int .u64 a0_3]) (t := 54) ?hr ?_; (case hd => rfl); (case hg => rfl); (case hr => first | (go_simp; done) | (go_simp; rfl)); intro gb325 hg w4 hbox hb; have n0_ := Aside0.mk (below_step (by repeat (first | (with_reducible first | exact HB.out | apply below_alloc | apply pw_below_drewN | apply below_drew1) | exact HB.out)) hb); have n1_ := Aside0.mk (hbox); have n2_ := Aside0.mk ((by rw [hg]; exact (below_size (by repeat (first | (with_reducible first | exact HB.out | apply below_alloc | apply pw_below_drewN | apply below_drew1) | exact HB.out))) : w.heap.size ≤ gb325)); have n3_ := Aside0.mk ((by rw [hg]; exact (below_size (by repeat (first | (with_reducible first | exact HB.out | apply below_alloc | apply pw_below_drewN | apply below_drew1) | exact HB.out))) : w.heap.size ≤ gb325)); clear HB; have HB := n0_; have BK325 := n1_; have GW325 := n2_; have GE325 := n3_; clear n0_ n1_ n2_ n3_; clear hb hbox hg) | ((with_reducible refine gate_dst (N := 3) rfl ?_); refine box_event ?hg (N := 3) ?hd (cs := #[.slice A1_0 l1_0.length c1_0, .int .u64 a1_1, .int .u64 a1_2, .int .u64 a1_3]) (t := 54) ?hr ?_; (case hd => rfl); (case hg => rfl); (case hr => first | (go_simp; done) | (go_simp; rfl)); intro gb326 hg w5 hbox hb; have n0_ := Aside0.mk (blk_below (g := gb325) (o := .cells #[.slice A0_0 l0_0.length c0_0, .int .u64 a0_1, .int .u64 a0_2, .int .u64 a0_3] 54 (0, 0)) (by (with_reducible repeat (first | refine blk_drewN ?_ _ | refine blk_drew ?_ | refine blk_alloc ?_ _)); exact BK325.out) hb); have n1_ := Aside0.mk (below_step (by repeat (first | (with_reducible first | exact HB.out | apply below_alloc | apply pw_below_drewN | apply below_drew1 | refine below_set ?_ GE325.out) | exact HB.out)) hb); have n2_ := Aside0.mk (hbox); have n3_ := Aside0.mk ((by rw [hg]; exact (below_size (by repeat (first | (with_reducible first | exact HB.out | apply below_alloc | apply pw_below_drewN | apply below_drew1 | refine below_set ?_ GE325.out) | exact HB.out))) : w.heap.size ≤ gb326)); have n4_ := Aside0.mk ((by rw [hg]; exact (below_size (by repeat (first | (with_reducible first | exact HB.out | apply below_alloc | apply pw_below_drewN | apply below_drew1 | refine below_set ?_ GE325.out) | exact HB.out))) : w.heap.size ≤ gb326)); have n5_ := Aside0.mk ((by rw [hg]; exact Nat.ne_of_lt (blk_lt (g := gb325) (o := .cells #[.slice A0_0 l0_0.length c0_0, .int .u64 a0_1, .int .u64 a0_2, .int .u64 a0_3] 54 (0, 0)) (by (with_reducible repeat (first | refine blk_drewN ?_ _ | refine blk_drew ?_ | refine blk_alloc ?_ _)); exact BK325.out)) : gb325 ≠ gb326)); have n6_ := Aside0.mk ((by rw [hg]; exact Nat.ne_of_gt (blk_lt (g := gb325) (o := .cells #[.slice A0_0 l0_0.length c0_0, .int .u64 a0_1, .int .u64 a0_2, .int .u64 a0_3] 54 (0, 0)) (by (with_reducible repeat (first | refine blk_drewN ?_ _ | refine blk_drew ?_ | refine blk_alloc ?_ _)); exact BK325.out)) : gb326 ≠ gb325)); clear BK325; clear HB; have BK325 := n0_; have HB := n1_; have BK326 := n2_; have GW326 := n3_; have GE326 := n4_; have NB325_326 := n5_; have NB326_325 := n6_; clear n0_ n1_ n2_ n3_ n4_ n5_ n6_; clear hb hbox hg)))
  (try simp only [Act.put, List.setIfInBounds_toArray, List.set_cons_zero, List.set_cons_succ])
  go_cut [33] (fun v33 wc => ∃ (kq : Nat) (x33_2 : Bool), v33 = .bool x33_2 ∧ Aside0 (ratlineref09_Same.j0 kq x33_2 l0_0 a0_1 a0_2 a0_3 l1_0 a1_1 a1_2 a1_3 = some r) ∧ Aside0 (kq ≤ k) ∧ Aside0 (wc.heap[gb325]? = some (.cells #[(.slice A0_0 l0_0.length c0_0), .int .u64 a0_1, .int .u64 a0_2, .int .u64 a0_3] 54 (0, 0))) ∧ Aside0 (wc.heap[gb326]? = some (.cells #[(.slice A1_0 l1_0.length c1_0), .int .u64 a1_1, .int .u64 a1_2, .int .u64 a1_3] 54 (0, 0))) ∧ Aside0 (Below w.heap.size w wc))
  case first =>
    have H := HC3.out
    clear HC3
    by_cases c6 : (l0_0.length : Int) = (l1_0.length : Int)
    · rw [if_pos c6] at H
      have c6b0 : ((l0_0.length : Int) == (l1_0.length : Int)) = true := beq_iff_eq.mpr c6
      have c6b1 : ((l0_0.length : Int) != (l1_0.length : Int)) = false := bne_eq_false_iff_eq.mpr c6
      have c6b2 : (l0_0.length == l1_0.length) = true := by first | simpa using c6 | (simp at c6 ⊢; omega)
      clear c6
      (first | rw [c6b0] | (simp only [i64_w, i32_w]; rw [c6b0]) | skip)
      by_cases c7 : a0_1 = a1_1
      · rw [if_pos c7] at H
        have c7b0 : (a0_1 == a1_1) = true := beq_iff_eq.mpr c7
        have c7b1 : (a0_1 != a1_1) = false := bne_eq_false_iff_eq.mpr c7
        clear c7
        by_cases c8 : a0_2 = a1_2
        · rw [if_pos c8] at H
          have c8b0 : (a0_2 == a1_2) = true := beq_iff_eq.mpr c8
          have c8b1 : (a0_2 != a1_2) = false := bne_eq_false_iff_eq.mpr c8
          clear c8
          have H' := Aside0.mk H
          clear H
          have hnb9 := NB325_326.out
          have hnc9 := NB326_325.out
          have hcz10_0 : w5.cell? ⟨gb325, 0, none⟩ = some (.slice A0_0 l0_0.length c0_0) := (blk_cell BK325.out 0).trans rfl
          have hcz10_1 : w5.cell? ⟨gb325, 1, none⟩ = some (.int .u64 a0_1) := (blk_cell BK325.out 1).trans rfl
          have hcz10_2 : w5.cell? ⟨gb325, 2, none⟩ = some (.int .u64 a0_2) := (blk_cell BK325.out 2).trans rfl
          have hcz10_3 : w5.cell? ⟨gb325, 3, none⟩ = some (.int .u64 a0_3) := (blk_cell BK325.out 3).trans rfl
          have hfz10_0 := blk_frozen BK325.out 0
          have hfz10_1 := blk_frozen BK325.out 1
          have hfz10_2 := blk_frozen BK325.out 2
          have hfz10_3 := blk_frozen BK325.out 3
          have hcz11_0 : w5.cell? ⟨gb326, 0, none⟩ = some (.slice A1_0 l1_0.length c1_0) := (blk_cell BK326.out 0).trans rfl
          have hcz11_1 : w5.cell? ⟨gb326, 1, none⟩ = some (.int .u64 a1_1) := (blk_cell BK326.out 1).trans rfl
          have hcz11_2 : w5.cell? ⟨gb326, 2, none⟩ = some (.int .u64 a1_2) := (blk_cell BK326.out 2).trans rfl
          have hcz11_3 : w5.cell? ⟨gb326, 3, none⟩ = some (.int .u64 a1_3) := (blk_cell BK326.out 3).trans rfl
          have hfz11_0 := blk_frozen BK326.out 0
          have hfz11_1 := blk_frozen BK326.out 1
          have hfz11_2 := blk_frozen BK326.out 2
          have hfz11_3 := blk_frozen BK326.out 3
          go_wp2
          repeat (go_quiet (fail); try go_wp2)
          go_meet
          case rel => exact ⟨_, ((a0_3 != a1_3)), (by first | rfl | (simp; done) | (simp [*]; done)), H', ⟨by first | omega | exact Nat.le_refl _⟩, ⟨by (with_reducible repeat (first | refine blk_drewN ?_ _ | refine blk_drew ?_ | refine blk_alloc ?_ _)); exact BK325.out⟩, ⟨by (with_reducible repeat (first | refine blk_drewN ?_ _ | refine blk_drew ?_ | refine blk_alloc ?_ _)); exact BK326.out⟩, ⟨by repeat (first | (with_reducible first | exact HB.out | apply below_alloc | apply pw_below_drewN | apply below_drew1 | refine below_set ?_ GE325.out | refine below_set ?_ GE326.out) | exact HB.out)⟩⟩
        · rw [if_neg c8] at H
          have c8b0 : (a0_2 == a1_2) = false := beq_eq_false_iff_ne.mpr c8
          have c8b1 : (a0_2 != a1_2) = true := bne_iff_ne.mpr c8
          have H' := Aside0.mk H
          clear H
          have hnb12 := NB325_326.out
          have hnc12 := NB326_325.out
          have hcz13_0 : w5.cell? ⟨gb325, 0, none⟩ = some (.slice A0_0 l0_0.length c0_0) := (blk_cell BK325.out 0).trans rfl
          have hcz13_1 : w5.cell? ⟨gb325, 1, none⟩ = some (.int .u64 a0_1) := (blk_cell BK325.out 1).trans rfl
          have hcz13_2 : w5.cell? ⟨gb325, 2, none⟩ = some (.int .u64 a0_2) := (blk_cell BK325.out 2).trans rfl
          have hcz13_3 : w5.cell? ⟨gb325, 3, none⟩ = some (.int .u64 a0_3) := (blk_cell BK325.out 3).trans rfl
          have hfz13_0 := blk_frozen BK325.out 0
          have hfz13_1 := blk_frozen BK325.out 1
          have hfz13_2 := blk_frozen BK325.out 2
          have hfz13_3 := blk_frozen BK325.out 3
          have hcz14_0 : w5.cell? ⟨gb326, 0, none⟩ = some (.slice A1_0 l1_0.length c1_0) := (blk_cell BK326.out 0).trans rfl
          have hcz14_1 : w5.cell? ⟨gb326, 1, none⟩ = some (.int .u64 a1_1) := (blk_cell BK326.out 1).trans rfl
          have hcz14_2 : w5.cell? ⟨gb326, 2, none⟩ = some (.int .u64 a1_2) := (blk_cell BK326.out 2).trans rfl
          have hcz14_3 : w5.cell? ⟨gb326, 3, none⟩ = some (.int .u64 a1_3) := (blk_cell BK326.out 3).trans rfl
          have hfz14_0 := blk_frozen BK326.out 0
          have hfz14_1 := blk_frozen BK326.out 1
          have hfz14_2 := blk_frozen BK326.out 2
          have hfz14_3 := blk_frozen BK326.out 3
          go_wp2
          repeat (go_quiet (fail); try go_wp2)
          go_meet
          case rel => exact ⟨_, (true), (by first | rfl | (simp; done) | (simp [*]; done)), H', ⟨by first | omega | exact Nat.le_refl _⟩, ⟨by (with_reducible repeat (first | refine blk_drewN ?_ _ | refine blk_drew ?_ | refine blk_alloc ?_ _)); exact BK325.out⟩, ⟨by (with_reducible repeat (first | refine blk_drewN ?_ _ | refine blk_drew ?_ | refine blk_alloc ?_ _)); exact BK326.out⟩, ⟨by repeat (first | (with_reducible first | exact HB.out | apply below_alloc | apply pw_below_drewN | apply below_drew1 | refine below_set ?_ GE325.out | refine below_set ?_ GE326.out) | exact HB.out)⟩⟩
      · rw [if_neg c7] at H
        have c7b0 : (a0_1 == a1_1) = false := beq_eq_false_iff_ne.mpr c7
        have c7b1 : (a0_1 != a1_1) = true := bne_iff_ne.mpr c7
        have H' := Aside0.mk H
        clear H
        have hnb15 := NB325_326.out
        have hnc15 := NB326_325.out
        have hcz16_0 : w5.cell? ⟨gb325, 0, none⟩ = some (.slice A0_0 l0_0.length c0_0) := (blk_cell BK325.out 0).trans rfl
        have hcz16_1 : w5.cell? ⟨gb325, 1, none⟩ = some (.int .u64 a0_1) := (blk_cell BK325.out 1).trans rfl
        have hcz16_2 : w5.cell? ⟨gb325, 2, none⟩ = some (.int .u64 a0_2) := (blk_cell BK325.out 2).trans rfl
        have hcz16_3 : w5.cell? ⟨gb325, 3, none⟩ = some (.int .u64 a0_3) := (blk_cell BK325.out 3).trans rfl
        have hfz16_0 := blk_frozen BK325.out 0
        have hfz16_1 := blk_frozen BK325.out 1
        have hfz16_2 := blk_frozen BK325.out 2
        have hfz16_3 := blk_frozen BK325.out 3
        have hcz17_0 : w5.cell? ⟨gb326, 0, none⟩ = some (.slice A1_0 l1_0.length c1_0) := (blk_cell BK326.out 0).trans rfl
        have hcz17_1 : w5.cell? ⟨gb326, 1, none⟩ = some (.int .u64 a1_1) := (blk_cell BK326.out 1).trans rfl
        have hcz17_2 : w5.cell? ⟨gb326, 2, none⟩ = some (.int .u64 a1_2) := (blk_cell BK326.out 2).trans rfl
        have hcz17_3 : w5.cell? ⟨gb326, 3, none⟩ = some (.int .u64 a1_3) := (blk_cell BK326.out 3).trans rfl
        have hfz17_0 := blk_frozen BK326.out 0
        have hfz17_1 := blk_frozen BK326.out 1
        have hfz17_2 := blk_frozen BK326.out 2
        have hfz17_3 := blk_frozen BK326.out 3
        go_wp2
        repeat (go_quiet (fail); try go_wp2)
        go_meet
        case rel => exact ⟨_, (true), (by first | rfl | (simp; done) | (simp [*]; done)), H', ⟨by first | omega | exact Nat.le_refl _⟩, ⟨by (with_reducible repeat (first | refine blk_drewN ?_ _ | refine blk_drew ?_ | refine blk_alloc ?_ _)); exact BK325.out⟩, ⟨by (with_reducible repeat (first | refine blk_drewN ?_ _ | refine blk_drew ?_ | refine blk_alloc ?_ _)); exact BK326.out⟩, ⟨by repeat (first | (with_reducible first | exact HB.out | apply below_alloc | apply pw_below_drewN | apply below_drew1 | refine below_set ?_ GE325.out | refine below_set ?_ GE326.out) | exact HB.out)⟩⟩
    · rw [if_neg c6] at H
      have c6b0 : ((l0_0.length : Int) == (l1_0.length : Int)) = false := beq_eq_false_iff_ne.mpr c6
      have c6b1 : ((l0_0.length : Int) != (l1_0.length : Int)) = true := bne_iff_ne.mpr c6
      have c6b2 : (l0_0.length == l1_0.length) = false := by first | simpa using c6 | (simp at c6 ⊢; omega)
      (first | rw [c6b0] | (simp only [i64_w, i32_w]; rw [c6b0]) | skip)
      have H' := Aside0.mk H
      clear H
      have hnb18 := NB325_326.out
      have hnc18 := NB326_325.out
      have hcz19_0 : w5.cell? ⟨gb325, 0, none⟩ = some (.slice A0_0 l0_0.length c0_0) := (blk_cell BK325.out 0).trans rfl
      have hcz19_1 : w5.cell? ⟨gb325, 1, none⟩ = some (.int .u64 a0_1) := (blk_cell BK325.out 1).trans rfl
      have hcz19_2 : w5.cell? ⟨gb325, 2, none⟩ = some (.int .u64 a0_2) := (blk_cell BK325.out 2).trans rfl
      have hcz19_3 : w5.cell? ⟨gb325, 3, none⟩ = some (.int .u64 a0_3) := (blk_cell BK325.out 3).trans rfl
      have hfz19_0 := blk_frozen BK325.out 0
      have hfz19_1 := blk_frozen BK325.out 1
      have hfz19_2 := blk_frozen BK325.out 2
      have hfz19_3 := blk_frozen BK325.out 3
      have hcz20_0 : w5.cell? ⟨gb326, 0, none⟩ = some (.slice A1_0 l1_0.length c1_0) := (blk_cell BK326.out 0).trans rfl
      have hcz20_1 : w5.cell? ⟨gb326, 1, none⟩ = some (.int .u64 a1_1) := (blk_cell BK326.out 1).trans rfl
      have hcz20_2 : w5.cell? ⟨gb326, 2, none⟩ = some (.int .u64 a1_2) := (blk_cell BK326.out 2).trans rfl
      have hcz20_3 : w5.cell? ⟨gb326, 3, none⟩ = some (.int .u64 a1_3) := (blk_cell BK326.out 3).trans rfl
      have hfz20_0 := blk_frozen BK326.out 0
      have hfz20_1 := blk_frozen BK326.out 1
      have hfz20_2 := blk_frozen BK326.out 2
      have hfz20_3 := blk_frozen BK326.out 3
      go_wp2
      repeat (go_quiet (fail); try go_wp2)
      go_meet
      case rel => exact ⟨_, (true), (by first | rfl | (simp; done) | (simp [*]; done)), H', ⟨by first | omega | exact Nat.le_refl _⟩, ⟨by (with_reducible repeat (first | refine blk_drewN ?_ _ | refine blk_drew ?_ | refine blk_alloc ?_ _)); exact BK325.out⟩, ⟨by (with_reducible repeat (first | refine blk_drewN ?_ _ | refine blk_drew ?_ | refine blk_alloc ?_ _)); exact BK326.out⟩, ⟨by repeat (first | (with_reducible first | exact HB.out | apply below_alloc | apply pw_below_drewN | apply below_drew1 | refine below_set ?_ GE325.out | refine below_set ?_ GE326.out) | exact HB.out)⟩⟩
  case rest =>
    clear HC3
    try clear c1
    try clear p2
    try clear c4
    try clear c6
    try clear c6b0
    try clear c6b1
    try clear c6b2
    try clear c7
    try clear c7b0
    try clear c7b1
    try clear c8
    try clear c8b0
    try clear c8b1
    try clear c9
    try clear c12
    try clear c15
    try clear c18
    try clear hcz10_0
    try clear hcz10_1
    try clear hcz10_2
    try clear hcz10_3
    try clear hcz11_0
    try clear hcz11_1
    try clear hcz11_2
    try clear hcz11_3
    try clear hcz13_0
    try clear hcz13_1
    try clear hcz13_2
    try clear hcz13_3
    try clear hcz14_0
    try clear hcz14_1
    try clear hcz14_2
    try clear hcz14_3
    try clear hcz16_0
    try clear hcz16_1
    try clear hcz16_2
    try clear hcz16_3
    try clear hcz17_0
    try clear hcz17_1
    try clear hcz17_2
    try clear hcz17_3
    try clear hcz19_0
    try clear hcz19_1
    try clear hcz19_2
    try clear hcz19_3
    try clear hcz20_0
    try clear hcz20_1
    try clear hcz20_2
    try clear hcz20_3
    try clear hfz10_0
    try clear hfz10_1
    try clear hfz10_2
    try clear hfz10_3
    try clear hfz11_0
    try clear hfz11_1
    try clear hfz11_2
    try clear hfz11_3
    try clear hfz13_0
    try clear hfz13_1
    try clear hfz13_2
    try clear hfz13_3
    try clear hfz14_0
    try clear hfz14_1
    try clear hfz14_2
    try clear hfz14_3
    try clear hfz16_0
    try clear hfz16_1
    try clear hfz16_2
    try clear hfz16_3
    try clear hfz17_0
    try clear hfz17_1
    try clear hfz17_2
    try clear hfz17_3
    try clear hfz19_0
    try clear hfz19_1
    try clear hfz19_2
    try clear hfz19_3
    try clear hfz20_0
    try clear hfz20_1
    try clear hfz20_2
    try clear hfz20_3
    obtain ⟨kq, x33_2, rfl, HA, HJ2, BK325, BK326, HB⟩ := hcut
    cases kq with
    | zero => exact absurd HA.out (by simp [ratlineref09_Same.j0])
    | succ kj2 =>
      have H := HA.out
      clear HA
      simp only [ratlineref09_Same.j0] at H
      by_cases c21 : x33_2 = true
      · subst c21
        have H1 : (some false) = some r := by rw [if_pos rfl] at H; exact H
        clear H
        have H := H1
        clear H1
        obtain rfl := Option.some.inj H
        go_wp2
        repeat (go_quiet (fail); try go_wp2)
        go_ret
        exact ⟨by first | rfl | (simp [errW_none, errW_some] <;> rfl) | (simp [*, errW_none, errW_some] <;> rfl), by repeat (first | (with_reducible first | exact HB.out | apply below_alloc | apply pw_below_drewN | apply below_drew1 | refine below_set ?_ GE325.out | refine below_set ?_ GE326.out) | exact HB.out)⟩
      · replace c21 := Bool.eq_false_iff.mpr c21
        subst c21
        have H1 : (ratlineref09_Same.l0 kj2 0 l0_0 a0_1 a0_2 a0_3 l1_0 a1_1 a1_2 a1_3) = some r := by rw [if_neg (show ¬ (false = true) by decide)] at H; exact H
        clear H
        have H := H1
        clear H1
        have H' := Aside0.mk H
        clear H
        go_wp2
        repeat (go_quiet (fail); try go_wp2)
        go_loopg [5] kj2 (fun kq v5 w' => ∃ (x5_2 : Int), v5 = .int .i64 x5_2 ∧ Aside0 (ratlineref09_Same.l0 kq x5_2 l0_0 a0_1 a0_2 a0_3 l1_0 a1_1 a1_2 a1_3 = some r) ∧ Aside0 (kq ≤ kj2) ∧ Aside0 (w'.heap[gb325]? = some (.cells #[(.slice A0_0 l0_0.length c0_0), .int .u64 a0_1, .int .u64 a0_2, .int .u64 a0_3] 54 (0, 0))) ∧ Aside0 (w'.heap[gb326]? = some (.cells #[(.slice A1_0 l1_0.length c1_0), .int .u64 a1_1, .int .u64 a1_2, .int .u64 a1_3] 54 (0, 0))) ∧ Aside0 (Below w.heap.size w w'))
        case atStart => exact ⟨(0), (by first | rfl | (simp; done) | (simp [*]; done)), H', ⟨Nat.le_refl _⟩, ⟨by (with_reducible repeat (first | refine blk_drewN ?_ _ | refine blk_drew ?_ | refine blk_alloc ?_ _)); exact BK325.out⟩, ⟨by (with_reducible repeat (first | refine blk_drewN ?_ _ | refine blk_drew ?_ | refine blk_alloc ?_ _)); exact BK326.out⟩, ⟨by repeat (first | (with_reducible first | exact HB.out | apply below_alloc | apply pw_below_drewN | apply below_drew1 | refine below_set ?_ GE325.out | refine below_set ?_ GE326.out) | exact HB.out)⟩⟩
        case round =>
          clear H'
          try clear c1
          try clear c2
          try clear p2
          try clear c4
          try clear c6
          try clear c6b0
          try clear c6b1
          try clear c6b2
          try clear c7
          try clear c7b0
          try clear c7b1
          try clear c8
          try clear c8b0
          try clear c8b1
          try clear c9
          try clear c12
          try clear c15
          try clear c18
          try clear c21
          try clear hcz10_0
          try clear hcz10_1
          try clear hcz10_2
          try clear hcz10_3
          try clear hcz11_0
          try clear hcz11_1
          try clear hcz11_2
          try clear hcz11_3
          try clear hcz13_0
          try clear hcz13_1
          try clear hcz13_2
          try clear hcz13_3
          try clear hcz14_0
          try clear hcz14_1
          try clear hcz14_2
          try clear hcz14_3
          try clear hcz16_0
          try clear hcz16_1
          try clear hcz16_2
          try clear hcz16_3
          try clear hcz17_0
          try clear hcz17_1
          try clear hcz17_2
          try clear hcz17_3
          try clear hcz19_0
          try clear hcz19_1
          try clear hcz19_2
          try clear hcz19_3
          try clear hcz20_0
          try clear hcz20_1
          try clear hcz20_2
          try clear hcz20_3
          try clear hfz10_0
          try clear hfz10_1
          try clear hfz10_2
          try clear hfz10_3
          try clear hfz11_0
          try clear hfz11_1
          try clear hfz11_2
          try clear hfz11_3
          try clear hfz13_0
          try clear hfz13_1
          try clear hfz13_2
          try clear hfz13_3
          try clear hfz14_0
          try clear hfz14_1
          try clear hfz14_2
          try clear hfz14_3
          try clear hfz16_0
          try clear hfz16_1
          try clear hfz16_2
          try clear hfz16_3
          try clear hfz17_0
          try clear hfz17_1
          try clear hfz17_2
          try clear hfz17_3
          try clear hfz19_0
          try clear hfz19_1
          try clear hfz19_2
          try clear hfz19_3
          try clear hfz20_0
          try clear hfz20_1
          try clear hfz20_2
          try clear hfz20_3
          try clear p2
          obtain ⟨x5_2, rfl, HA, HK2, BK325, BK326, HB⟩ := hrel
          cases gk with
          | zero => exact absurd HA.out (by simp [ratlineref09_Same.l0])
          | succ k2 =>
            have H := HA.out
            clear HA
            simp only [ratlineref09_Same.l0] at H
            by_cases c22 : x5_2 < (l0_0.length : Int)
            · rw [if_pos c22] at H
              have c22b0 : decide (x5_2 < (l0_0.length : Int)) = true := decide_eq_true c22
              clear c22
              by_cases c23 : 0 ≤ x5_2
              · rw [if_pos c23] at H
                have c23b0 : decide (0 ≤ x5_2) = true := decide_eq_true c23
                clear c23
                by_cases c24 : x5_2 < (l1_0.length : Int)
                · rw [if_pos c24] at H
                  have c24b0 : decide (x5_2 < (l1_0.length : Int)) = true := decide_eq_true c24
                  clear c24
                  by_cases c25 : (!(((rd_T62 l0_0 x5_2).f0) == ((rd_T62 l1_0 x5_2).f0)) || (!(((rd_T62 l0_0 x5_2).f1) == ((rd_T62 l1_0 x5_2).f1)) || (!((((rd_T62 l0_0 x5_2).f2).toList) == (((rd_T62 l1_0 x5_2).f2).toList)) || (!((((rd_T62 l0_0 x5_2).f3).toList) == (((rd_T62 l1_0 x5_2).f3).toList)))))) = true
                  · rw [if_pos c25] at H
                    have c25b0 : (!(((rd_T62 l0_0 x5_2).f0) == ((rd_T62 l1_0 x5_2).f0)) || (!(((rd_T62 l0_0 x5_2).f1) == ((rd_T62 l1_0 x5_2).f1)) || (!((((rd_T62 l0_0 x5_2).f2).toList) == (((rd_T62 l1_0 x5_2).f2).toList)) || (!((((rd_T62 l0_0 x5_2).f3).toList) == (((rd_T62 l1_0 x5_2).f3).toList)))))) = true := c25
                    clear c25
                    obtain rfl := Option.some.inj H
                    have hnb26 := NB325_326.out
                    have hnc26 := NB326_325.out
                    have hcz27_0 : wr.cell? ⟨gb325, 0, none⟩ = some (.slice A0_0 l0_0.length c0_0) := (blk_cell BK325.out 0).trans rfl
                    have hcz27_1 : wr.cell? ⟨gb325, 1, none⟩ = some (.int .u64 a0_1) := (blk_cell BK325.out 1).trans rfl
                    have hcz27_2 : wr.cell? ⟨gb325, 2, none⟩ = some (.int .u64 a0_2) := (blk_cell BK325.out 2).trans rfl
                    have hcz27_3 : wr.cell? ⟨gb325, 3, none⟩ = some (.int .u64 a0_3) := (blk_cell BK325.out 3).trans rfl
                    have hfz27_0 := blk_frozen BK325.out 0
                    have hfz27_1 := blk_frozen BK325.out 1
                    have hfz27_2 := blk_frozen BK325.out 2
                    have hfz27_3 := blk_frozen BK325.out 3
                    have p327 : 0 ≤ (x5_2 : Int) := of_decide_eq_true (by first | (with_reducible assumption) | assumption)
                    have q327 : x5_2 < (l0_0.length : Int) := of_decide_eq_true (by first | (with_reducible assumption) | assumption)
                    obtain ⟨ad327, e327, hx327_0, hx327_1, hx327_2, hx327_3⟩ := at_T62 HR0_0.out x5_2 p327 q327
                    cases e327
                    replace hx327_0 := (HB.out.cell (World.block_lt_of_cell? w _ hx327_0)).trans hx327_0
                    replace hx327_1 := (HB.out.cell (World.block_lt_of_cell? w _ hx327_1)).trans hx327_1
                    replace hx327_2 := (HB.out.cell (World.block_lt_of_cell? w _ hx327_2)).trans hx327_2
                    replace hx327_3 := (HB.out.cell (World.block_lt_of_cell? w _ hx327_3)).trans hx327_3
                    replace p327 := eq_true p327
                    replace q327 := eq_true q327
                    have hcz28_0 : wr.cell? ⟨gb326, 0, none⟩ = some (.slice A1_0 l1_0.length c1_0) := (blk_cell BK326.out 0).trans rfl
                    have hcz28_1 : wr.cell? ⟨gb326, 1, none⟩ = some (.int .u64 a1_1) := (blk_cell BK326.out 1).trans rfl
                    have hcz28_2 : wr.cell? ⟨gb326, 2, none⟩ = some (.int .u64 a1_2) := (blk_cell BK326.out 2).trans rfl
                    have hcz28_3 : wr.cell? ⟨gb326, 3, none⟩ = some (.int .u64 a1_3) := (blk_cell BK326.out 3).trans rfl
                    have hfz28_0 := blk_frozen BK326.out 0
                    have hfz28_1 := blk_frozen BK326.out 1
                    have hfz28_2 := blk_frozen BK326.out 2
                    have hfz28_3 := blk_frozen BK326.out 3
                    have p328 : 0 ≤ (x5_2 : Int) := of_decide_eq_true (by first | (with_reducible assumption) | assumption)
                    have q328 : x5_2 < (l1_0.length : Int) := of_decide_eq_true (by first | (with_reducible assumption) | assumption)
                    obtain ⟨ad328, e328, hx328_0, hx328_1, hx328_2, hx328_3⟩ := at_T62 HR1_0.out x5_2 p328 q328
                    cases e328
                    replace hx328_0 := (HB.out.cell (World.block_lt_of_cell? w _ hx328_0)).trans hx328_0
                    replace hx328_1 := (HB.out.cell (World.block_lt_of_cell? w _ hx328_1)).trans hx328_1
                    replace hx328_2 := (HB.out.cell (World.block_lt_of_cell? w _ hx328_2)).trans hx328_2
                    replace hx328_3 := (HB.out.cell (World.block_lt_of_cell? w _ hx328_3)).trans hx328_3
                    replace p328 := eq_true p328
                    replace q328 := eq_true q328
                    go_wp2
                    repeat (go_quiet (fail); try go_wp2)
                    go_ret
                    exact ⟨by first | rfl | (simp [errW_none, errW_some] <;> rfl) | (simp [*, errW_none, errW_some] <;> rfl), by repeat (first | (with_reducible first | exact HB.out | apply below_alloc | apply pw_below_drewN | apply below_drew1 | refine below_set ?_ GE325.out | refine below_set ?_ GE326.out) | exact HB.out)⟩
                  · rw [if_neg c25] at H
                    have c25b0 : (!(((rd_T62 l0_0 x5_2).f0) == ((rd_T62 l1_0 x5_2).f0)) || (!(((rd_T62 l0_0 x5_2).f1) == ((rd_T62 l1_0 x5_2).f1)) || (!((((rd_T62 l0_0 x5_2).f2).toList) == (((rd_T62 l1_0 x5_2).f2).toList)) || (!((((rd_T62 l0_0 x5_2).f3).toList) == (((rd_T62 l1_0 x5_2).f3).toList)))))) = false := by simpa using c25
                    clear c25
                    have H' := Aside0.mk H
                    clear H
                    have hnb29 := NB325_326.out
                    have hnc29 := NB326_325.out
                    have hcz30_0 : wr.cell? ⟨gb325, 0, none⟩ = some (.slice A0_0 l0_0.length c0_0) := (blk_cell BK325.out 0).trans rfl
                    have hcz30_1 : wr.cell? ⟨gb325, 1, none⟩ = some (.int .u64 a0_1) := (blk_cell BK325.out 1).trans rfl
                    have hcz30_2 : wr.cell? ⟨gb325, 2, none⟩ = some (.int .u64 a0_2) := (blk_cell BK325.out 2).trans rfl
                    have hcz30_3 : wr.cell? ⟨gb325, 3, none⟩ = some (.int .u64 a0_3) := (blk_cell BK325.out 3).trans rfl
                    have hfz30_0 := blk_frozen BK325.out 0
                    have hfz30_1 := blk_frozen BK325.out 1
                    have hfz30_2 := blk_frozen BK325.out 2
                    have hfz30_3 := blk_frozen BK325.out 3
                    have p327 : 0 ≤ (x5_2 : Int) := of_decide_eq_true (by first | (with_reducible assumption) | assumption)
                    have q327 : x5_2 < (l0_0.length : Int) := of_decide_eq_true (by first | (with_reducible assumption) | assumption)
                    obtain ⟨ad327, e327, hx327_0, hx327_1, hx327_2, hx327_3⟩ := at_T62 HR0_0.out x5_2 p327 q327
                    cases e327
                    replace hx327_0 := (HB.out.cell (World.block_lt_of_cell? w _ hx327_0)).trans hx327_0
                    replace hx327_1 := (HB.out.cell (World.block_lt_of_cell? w _ hx327_1)).trans hx327_1
                    replace hx327_2 := (HB.out.cell (World.block_lt_of_cell? w _ hx327_2)).trans hx327_2
                    replace hx327_3 := (HB.out.cell (World.block_lt_of_cell? w _ hx327_3)).trans hx327_3
                    replace p327 := eq_true p327
                    replace q327 := eq_true q327
                    have hcz31_0 : wr.cell? ⟨gb326, 0, none⟩ = some (.slice A1_0 l1_0.length c1_0) := (blk_cell BK326.out 0).trans rfl
                    have hcz31_1 : wr.cell? ⟨gb326, 1, none⟩ = some (.int .u64 a1_1) := (blk_cell BK326.out 1).trans rfl
                    have hcz31_2 : wr.cell? ⟨gb326, 2, none⟩ = some (.int .u64 a1_2) := (blk_cell BK326.out 2).trans rfl
                    have hcz31_3 : wr.cell? ⟨gb326, 3, none⟩ = some (.int .u64 a1_3) := (blk_cell BK326.out 3).trans rfl
                    have hfz31_0 := blk_frozen BK326.out 0
                    have hfz31_1 := blk_frozen BK326.out 1
                    have hfz31_2 := blk_frozen BK326.out 2
                    have hfz31_3 := blk_frozen BK326.out 3
                    have p328 : 0 ≤ (x5_2 : Int) := of_decide_eq_true (by first | (with_reducible assumption) | assumption)
                    have q328 : x5_2 < (l1_0.length : Int) := of_decide_eq_true (by first | (with_reducible assumption) | assumption)
                    obtain ⟨ad328, e328, hx328_0, hx328_1, hx328_2, hx328_3⟩ := at_T62 HR1_0.out x5_2 p328 q328
                    cases e328
                    replace hx328_0 := (HB.out.cell (World.block_lt_of_cell? w _ hx328_0)).trans hx328_0
                    replace hx328_1 := (HB.out.cell (World.block_lt_of_cell? w _ hx328_1)).trans hx328_1
                    replace hx328_2 := (HB.out.cell (World.block_lt_of_cell? w _ hx328_2)).trans hx328_2
                    replace hx328_3 := (HB.out.cell (World.block_lt_of_cell? w _ hx328_3)).trans hx328_3
                    replace p328 := eq_true p328
                    replace q328 := eq_true q328
                    go_wp2
                    repeat (go_quiet (fail); try go_wp2)
                    go_roundg k2
                    case measure => have := HJ2.out; have := HK2.out; omega
                    case rel => exact ⟨(wrap64 (x5_2 + 1)), (by first | rfl | (simp; done) | (simp [*]; done)), H', ⟨by have := HJ2.out; have := HK2.out; omega⟩, ⟨by (with_reducible repeat (first | refine blk_drewN ?_ _ | refine blk_drew ?_ | refine blk_alloc ?_ _)); exact BK325.out⟩, ⟨by (with_reducible repeat (first | refine blk_drewN ?_ _ | refine blk_drew ?_ | refine blk_alloc ?_ _)); exact BK326.out⟩, ⟨by repeat (first | (with_reducible first | exact HB.out | apply below_alloc | apply pw_below_drewN | apply below_drew1 | refine below_set ?_ GE325.out | refine below_set ?_ GE326.out) | exact HB.out)⟩⟩
                · rw [if_neg c24] at H
                  exact absurd H (by simp)
              · rw [if_neg c23] at H
                exact absurd H (by simp)
            · rw [if_neg c22] at H
              have c22b0 : decide (x5_2 < (l0_0.length : Int)) = false := decide_eq_false c22
              clear c22
              obtain rfl := Option.some.inj H
              have hnb32 := NB325_326.out
              have hnc32 := NB326_325.out
              have hcz33_0 : wr.cell? ⟨gb325, 0, none⟩ = some (.slice A0_0 l0_0.length c0_0) := (blk_cell BK325.out 0).trans rfl
              have hcz33_1 : wr.cell? ⟨gb325, 1, none⟩ = some (.int .u64 a0_1) := (blk_cell BK325.out 1).trans rfl
              have hcz33_2 : wr.cell? ⟨gb325, 2, none⟩ = some (.int .u64 a0_2) := (blk_cell BK325.out 2).trans rfl
              have hcz33_3 : wr.cell? ⟨gb325, 3, none⟩ = some (.int .u64 a0_3) := (blk_cell BK325.out 3).trans rfl
              have hfz33_0 := blk_frozen BK325.out 0
              have hfz33_1 := blk_frozen BK325.out 1
              have hfz33_2 := blk_frozen BK325.out 2
              have hfz33_3 := blk_frozen BK325.out 3
              go_wp2
              repeat (go_quiet (fail); try go_wp2)
              go_ret
              exact ⟨by first | rfl | (simp [errW_none, errW_some] <;> rfl) | (simp [*, errW_none, errW_some] <;> rfl), by repeat (first | (with_reducible first | exact HB.out | apply below_alloc | apply pw_below_drewN | apply below_drew1 | refine below_set ?_ GE325.out | refine below_set ?_ GE326.out) | exact HB.out)⟩

end Go.Proofs.Ytlaihdipagejfaa.P

end

section
namespace Go.Proofs.Ytlaihdipagejfaa.P
open Go.RowKit Go.Proofs.YtlaihdipagejfaaG Go.Proofs.YtlaihdipagejfaaW.PrintWords Go.Proofs.YtlaihdipagejfaaW.PrintLast Go.Proofs.YtlaihdipagejfaaW.PrintMore
attribute [local go_sem] str_gtr str_geq str_leq max2_int min2_int max_two min_two max_three min_three max_four min_four   -- for this text's walks alone
set_option linter.unusedVariables false
set_option linter.unusedSimpArgs false

def ratlinelaw09_Versions.f (k : Nat) (l0_0 : List (S62)) (a0_1 : Int) (a0_2 : Int) (a0_3 : Int) (l1_0 : List (S62)) (a1_1 : Int) (a1_2 : Int) (a1_3 : Int) : Option (Bool) := (ratlineref09_Whole.f l0_0 a0_1 a0_2 a0_3).bind fun bt331 => ((ratlineref09_Whole.f l1_0 a1_1 a1_2 a1_3).bind fun bt337 => ((ratlineref09_Same.f k bt331.1 bt331.2.1 bt331.2.2.1 bt331.2.2.2 bt337.1 bt337.2.1 bt337.2.2.1 bt337.2.2.2).bind fun t343 => (some t343)))
set_option maxHeartbeats 8000000 in
set_option maxRecDepth 100000 in
theorem ratlinelaw09_Versions.calls (k : Nat) (A0_0 : Option Addr) (c0_0 : Nat) (l0_0 : List (S62)) (a0_1 : Int) (a0_2 : Int) (a0_3 : Int) (A1_0 : Option Addr) (c1_0 : Nat) (l1_0 : List (S62)) (a1_1 : Int) (a1_2 : Int) (a1_3 : Int) (r : Bool) (w : World) (hr0_0 : Kd.C k62 w A0_0 l0_0.length l0_0) (hc0_0 : l0_0.length ≤ c0_0) (hr1_0 : Kd.C k62 w A1_0 l1_0.length l1_0) (hc1_0 : l1_0.length ≤ c1_0) (h : ratlinelaw09_Versions.f k l0_0 a0_1 a0_2 a0_3 l1_0 a1_1 a1_2 a1_3 = some r) :
    Calls Try.prog 44 #[.agg #[.slice A0_0 l0_0.length c0_0, .int .u64 a0_1, .int .u64 a0_2, .int .u64 a0_3], .agg #[.slice A1_0 l1_0.length c1_0, .int .u64 a1_1, .int .u64 a1_2, .int .u64 a1_3]] w fun e w' => e = .returned (.bool r) ∧ Below w.heap.size w w' := by
  have hu57 := Try.underlying57
  have HR0_0 := Aside0.mk hr0_0
  have HC0_0 := Aside0.mk hc0_0
  clear hr0_0 hc0_0
  have HR1_0 := Aside0.mk hr1_0
  have HC1_0 := Aside0.mk hc1_0
  clear hr1_0 hc1_0
  have HB := Aside0.mk (Below.refl w.heap.size w)
  have H : ((ratlineref09_Whole.f l0_0 a0_1 a0_2 a0_3).bind fun bt331 => ((ratlineref09_Whole.f l1_0 a1_1 a1_2 a1_3).bind fun bt337 => ((ratlineref09_Same.f k bt331.1 bt331.2.1 bt331.2.2.1 bt331.2.2.2 bt337.1 bt337.2.1 bt337.2.2.1 bt337.2.2.2).bind fun t343 => (some t343)))) = some r := h
  clear h
  replace H := Option.bind_eq_some_iff.mp H
  obtain ⟨⟨t331, t334, t335, t336⟩, A30, H⟩ := H
  replace H : ((ratlineref09_Whole.f l1_0 a1_1 a1_2 a1_3).bind fun bt337 => ((ratlineref09_Same.f k t331 t334 t335 t336 bt337.1 bt337.2.1 bt337.2.2.1 bt337.2.2.2).bind fun t343 => (some t343))) = some r := H
  have A3 := Aside0.mk A30
  clear A30
  replace H := Option.bind_eq_some_iff.mp H
  obtain ⟨⟨t337, t340, t341, t342⟩, A40, H⟩ := H
  replace H : ((ratlineref09_Same.f k t331 t334 t335 t336 t337 t340 t341 t342).bind fun t343 => (some t343)) = some r := H
  have A4 := Aside0.mk A40
  clear A40
  replace H := Option.bind_eq_some_iff.mp H
  obtain ⟨t343, A50, H⟩ := H
  replace H : (some t343) = some r := H
  have A5 := Aside0.mk A50
  clear A50
  obtain rfl := Option.some.inj H
  go_enter Try.func44, Try.ntmps44
  try go_wp2_with (first | ((with_reducible refine gate_dst (N := 2) rfl ?_); refine box_event ?hg (N := 2) ?hd (cs := #[.slice A0_0 l0_0.length c0_0, .int .u64 a0_1, .int .u64 a0_2, .int .u64 a0_3]) (t := 57) ?hr ?_; (case hd => rfl); (case hg => rfl); (case hr => first | (go_simp; done) | (go_simp; rfl)); intro gb329 hg w6 hbox hb; have n0_ := Aside0.mk (below_step (by repeat (first | (with_reducible first | exact HB.out | apply below_alloc | apply pw_below_drewN | apply below_drew1) | exact HB.out)) hb); have n1_ := Aside0.mk (hbox); have n2_ := Aside0.mk ((by rw [hg]; exact (below_size (by repeat (first | (with_reducible first | exact HB.out | apply below_alloc | apply pw_below_drewN | apply below_drew1) | exact HB.out))) : w.heap.size ≤ gb329)); have n3_ := Aside0.mk ((by rw [hg]; exact (below_size (by repeat (first | (with_reducible first | exact HB.out | apply below_alloc | apply pw_below_drewN | apply below_drew1) | exact HB.out))) : w.heap.size ≤ gb329)); clear HB; have HB := n0_; have BK329 := n1_; have GW329 := n2_; have GE329 := n3_; clear n0_ n1_ n2_ n3_; clear hb hbox hg) | ((with_reducible refine gate_dst (N := 3) rfl ?_); refine box_event ?hg (N := 3) ?hd (cs := #[.slice A1_0 l1_0.length c1_0, .int .u64 a1_1, .int .u64 a1_2, .int .u64 a1_3]) (t := 57) ?hr ?_; (case hd => rfl); (case hg => rfl); (case hr => first | (go_simp; done) | (go_simp; rfl)); intro gb330 hg w7 hbox hb; have n0_ := Aside0.mk (blk_below (g := gb329) (o := .cells #[.slice A0_0 l0_0.length c0_0, .int .u64 a0_1, .int .u64 a0_2, .int .u64 a0_3] 57 (0, 0)) (by (with_reducible repeat (first | refine blk_drewN ?_ _ | refine blk_drew ?_ | refine blk_alloc ?_ _)); exact BK329.out) hb); have n1_ := Aside0.mk (below_step (by repeat (first | (with_reducible first | exact HB.out | apply below_alloc | apply pw_below_drewN | apply below_drew1 | refine below_set ?_ GE329.out) | exact HB.out)) hb); have n2_ := Aside0.mk (hbox); have n3_ := Aside0.mk ((by rw [hg]; exact (below_size (by repeat (first | (with_reducible first | exact HB.out | apply below_alloc | apply pw_below_drewN | apply below_drew1 | refine below_set ?_ GE329.out) | exact HB.out))) : w.heap.size ≤ gb330)); have n4_ := Aside0.mk ((by rw [hg]; exact (below_size (by repeat (first | (with_reducible first | exact HB.out | apply below_alloc | apply pw_below_drewN | apply below_drew1 | refine below_set ?_ GE329.out) | exact HB.out))) : w.heap.size ≤ gb330)); have n5_ := Aside0.mk ((by rw [hg]; exact Nat.ne_of_lt (blk_lt (g := gb329) (o := .cells #[.slice A0_0 l0_0.length c0_0, .int .u64 a0_1, .int .u64 a0_2, .int .u64 a0_3] 57 (0, 0)) (by (with_reducible repeat (first | refine blk_drewN ?_ _ | refine blk_drew ?_ | refine blk_alloc ?_ _)); exact BK329.out)) : gb329 ≠ gb330)); have n6_ := Aside0.mk ((by rw [hg]; exact Nat.ne_of_gt (blk_lt (g := gb329) (o := .cells #[.slice A0_0 l0_0.length c0_0, .int .u64 a0_1, .int .u64 a0_2, .int .u64 a0_3] 57 (0, 0)) (by (with_reducible repeat (first | refine blk_drewN ?_ _ | refine blk_drew ?_ | refine blk_alloc ?_ _)); exact BK329.out)) : gb330 ≠ gb329)); clear BK329; clear HB; have BK329 := n0_; have HB := n1_; have BK330 := n2_; have GW330 := n3_; have GE330 := n4_; have NB329_330 := n5_; have NB330_329 := n6_; clear n0_ n1_ n2_ n3_ n4_ n5_ n6_; clear hb hbox hg))
  have n0_ := Aside0.mk (blk_drew BK329.out)
  have n1_ := Aside0.mk (blk_drew BK330.out)
  have n2_ := Aside0.mk (below_drew1 HB.out)
  clear BK329
  clear BK330
  clear HB
  have BK329 := n0_
  have BK330 := n1_
  have HB := n2_
  clear n0_ n1_ n2_
  refine start_ (n := 6) (S := fun w' => w'.cell? ⟨gb329, 0, none⟩ = some (.slice A0_0 l0_0.length c0_0) ∧ w'.cell? ⟨gb329, 1, none⟩ = some (.int .u64 a0_1) ∧ w'.cell? ⟨gb329, 2, none⟩ = some (.int .u64 a0_2) ∧ w'.cell? ⟨gb329, 3, none⟩ = some (.int .u64 a0_3) ∧ w'.cell? ⟨gb330, 0, none⟩ = some (.slice A1_0 l1_0.length c1_0) ∧ w'.cell? ⟨gb330, 1, none⟩ = some (.int .u64 a1_1) ∧ w'.cell? ⟨gb330, 2, none⟩ = some (.int .u64 a1_2) ∧ w'.cell? ⟨gb330, 3, none⟩ = some (.int .u64 a1_3)) (ds := []) #[false, false, false, false, false, false] (by kernel_rfl) rfl rfl ⟨(blk_cell BK329.out 0).trans rfl, (blk_cell BK329.out 1).trans rfl, (blk_cell BK329.out 2).trans rfl, (blk_cell BK329.out 3).trans rfl, (blk_cell BK330.out 0).trans rfl, (blk_cell BK330.out 1).trans rfl, (blk_cell BK330.out 2).trans rfl, (blk_cell BK330.out 3).trans rfl⟩ (fun hHeld => ?_)
  generalize w7.drew = w8 at BK329 BK330 HB hHeld ⊢
  refine take_ (i := 0) (N := some 5) (v := ?_) (a' := ?_) #[true, false, false, false, false, false] rfl rfl (by kernel_rfl) (fun _ _ _ h => h) (Or.inl ⟨by rfl, ?_⟩) hHeld ?_ ?_
  rotate_left
  · rintro w' ⟨s0, s1, s2, s3, s4, s5, s6, s7⟩
    go_simp
    with_reducible rfl
  rotate_left
  · simp only [Act.put, List.setIfInBounds_toArray, List.set_cons_zero, List.set_cons_succ, i64_w, i32_w]
    rfl
  refine take_ (i := 2) (N := some 7) (v := ?_) (a' := ?_) #[true, false, true, false, false, false] rfl rfl (by kernel_rfl) (fun _ _ _ h => h) (Or.inl ⟨by rfl, ?_⟩) hHeld ?_ ?_
  rotate_left
  · rintro w' ⟨s0, s1, s2, s3, s4, s5, s6, s7⟩
    go_simp
    with_reducible rfl
  rotate_left
  · simp only [Act.put, List.setIfInBounds_toArray, List.set_cons_zero, List.set_cons_succ, i64_w, i32_w]
    rfl
  refine one_ (i := 1) (N := some 6) #[true, true, true, false, false, false] rfl rfl (by kernel_rfl) (by decide) (fun K hK => ?_)
  refine goes_ Try.func38 (by kernel_rfl) rfl #[.agg #[.slice A0_0 l0_0.length c0_0, .int .u64 a0_1, .int .u64 a0_2, .int .u64 a0_3]] (by rfl) rfl rfl (by (try simp only [List.map_toArray, List.map_cons, List.map_nil]); first | done | rfl | (simp only [List.length_drop, List.length_take]; rfl)) ?_
  with_reducible refine (ratlineref09_Whole.calls _ _ l0_0 a0_1 a0_2 a0_3 t331 t334 t335 t336 _ ?side1 ?side2 A3.out).mono ?_
  (case side1 => repeat (first | exact (Kd.C_below HR0_0.out HB.out) | (with_reducible refine Kd.C_alloc ?_ _) | (with_reducible refine Kd.C_drewN ?_ _) | (with_reducible refine Kd.C_drew ?_)))
  (case side2 => exact HC0_0.out)
  rintro e w9 ⟨v332, rfl, ho0, hb⟩
  refine ⟨_, rfl, ?_⟩
  have n0_ := Aside0.mk (Kd.R_lower ho0 (below_size (by repeat (first | (with_reducible first | exact HB.out | apply below_alloc | apply pw_below_drewN | apply below_drew1 | refine below_set ?_ GE329.out | refine below_set ?_ GE330.out) | exact HB.out))))
  have n1_ := Aside0.mk (blk_below (g := gb329) (o := .cells #[.slice A0_0 l0_0.length c0_0, .int .u64 a0_1, .int .u64 a0_2, .int .u64 a0_3] 57 (0, 0)) (by (with_reducible repeat (first | refine blk_drewN ?_ _ | refine blk_drew ?_ | refine blk_alloc ?_ _)); exact BK329.out) hb)
  have n2_ := Aside0.mk (blk_below (g := gb330) (o := .cells #[.slice A1_0 l1_0.length c1_0, .int .u64 a1_1, .int .u64 a1_2, .int .u64 a1_3] 57 (0, 0)) (by (with_reducible repeat (first | refine blk_drewN ?_ _ | refine blk_drew ?_ | refine blk_alloc ?_ _)); exact BK330.out) hb)
  have n3_ := Aside0.mk (below_step (by repeat (first | (with_reducible first | exact HB.out | apply below_alloc | apply pw_below_drewN | apply below_drew1 | refine below_set ?_ GE329.out | refine below_set ?_ GE330.out) | exact HB.out)) hb)
  clear BK329
  clear BK330
  clear HB
  have HO333 := n0_
  have BK329 := n1_
  have BK330 := n2_
  have HB := n3_
  clear n0_ n1_ n2_ n3_
  (try clear hb)
  (try clear hb2)
  (try clear hk)
  (try clear hi)
  (try clear ho0)
  refine hK.out _ _ ⟨(blk_cell BK329.out 0).trans rfl, (blk_cell BK329.out 1).trans rfl, (blk_cell BK329.out 2).trans rfl, (blk_cell BK329.out 3).trans rfl, (blk_cell BK330.out 0).trans rfl, (blk_cell BK330.out 1).trans rfl, (blk_cell BK330.out 2).trans rfl, (blk_cell BK330.out 3).trans rfl⟩ (fun hHeld => ?_)
  clear hK K
  refine norm_ (a' := ?_) ?_ ?_
  rotate_left
  · show Act.put _ (some 6) _ = _
    simp only [Act.put, List.setIfInBounds_toArray, List.set_cons_zero, List.set_cons_succ, i64_w, i32_w]
    rfl
  refine one_ (i := 3) (N := some 8) #[true, true, true, true, false, false] rfl rfl (by kernel_rfl) (by decide) (fun K hK => ?_)
  refine goes_ Try.func38 (by kernel_rfl) rfl #[.agg #[.slice A1_0 l1_0.length c1_0, .int .u64 a1_1, .int .u64 a1_2, .int .u64 a1_3]] (by rfl) rfl rfl (by (try simp only [List.map_toArray, List.map_cons, List.map_nil]); first | done | rfl | (simp only [List.length_drop, List.length_take]; rfl)) ?_
  with_reducible refine (ratlineref09_Whole.calls _ _ l1_0 a1_1 a1_2 a1_3 t337 t340 t341 t342 _ ?side1 ?side2 A4.out).mono ?_
  (case side1 => repeat (first | exact (Kd.C_below HR1_0.out HB.out) | (with_reducible refine Kd.C_alloc ?_ _) | (with_reducible refine Kd.C_drewN ?_ _) | (with_reducible refine Kd.C_drew ?_)))
  (case side2 => exact HC1_0.out)
  rintro e w10 ⟨v338, rfl, ho0, hb⟩
  refine ⟨_, rfl, ?_⟩
  have n0_ := Aside0.mk (Kd.R_elder' (by (with_reducible repeat (first | apply Kd.R_alloc | apply Kd.R_drewN | apply Kd.R_drew)); exact HO333.out) (Kd.R_base ho0) hb)
  have n1_ := Aside0.mk (Kd.R_lower (Kd.R_new' ho0 (Kd.R_lt (by (with_reducible repeat (first | apply Kd.R_alloc | apply Kd.R_drewN | apply Kd.R_drew)); exact HO333.out))) (below_size (by repeat (first | (with_reducible first | exact HB.out | apply below_alloc | apply pw_below_drewN | apply below_drew1 | refine below_set ?_ GE329.out | refine below_set ?_ GE330.out) | exact HB.out))))
  have n2_ := Aside0.mk (blk_below (g := gb329) (o := .cells #[.slice A0_0 l0_0.length c0_0, .int .u64 a0_1, .int .u64 a0_2, .int .u64 a0_3] 57 (0, 0)) (by (with_reducible repeat (first | refine blk_drewN ?_ _ | refine blk_drew ?_ | refine blk_alloc ?_ _)); exact BK329.out) hb)
  have n3_ := Aside0.mk (blk_below (g := gb330) (o := .cells #[.slice A1_0 l1_0.length c1_0, .int .u64 a1_1, .int .u64 a1_2, .int .u64 a1_3] 57 (0, 0)) (by (with_reducible repeat (first | refine blk_drewN ?_ _ | refine blk_drew ?_ | refine blk_alloc ?_ _)); exact BK330.out) hb)
  have n4_ := Aside0.mk (below_step (by repeat (first | (with_reducible first | exact HB.out | apply below_alloc | apply pw_below_drewN | apply below_drew1 | refine below_set ?_ GE329.out | refine below_set ?_ GE330.out) | exact HB.out)) hb)
  clear HO333
  clear BK329
  clear BK330
  clear HB
  have HO333 := n0_
  have HO339 := n1_
  have BK329 := n2_
  have BK330 := n3_
  have HB := n4_
  clear n0_ n1_ n2_ n3_ n4_
  (try clear hb)
  (try clear hb2)
  (try clear hk)
  (try clear hi)
  (try clear ho0)
  obtain ⟨Ao11, co11, eo11⟩ := Kd.R_slice HO333.out
  (first | subst eo11 | (injection eo11 with f1_ f2_ f3_; have f4_ := f1_.symm; have f5_ := f3_.symm; clear f1_ f2_ f3_; subst f4_; subst f5_))
  obtain ⟨Ao12, co12, eo12⟩ := Kd.R_slice HO339.out
  (first | subst eo12 | (injection eo12 with f1_ f2_ f3_; have f4_ := f1_.symm; have f5_ := f3_.symm; clear f1_ f2_ f3_; subst f4_; subst f5_))
  refine hK.out _ _ ⟨(blk_cell BK329.out 0).trans rfl, (blk_cell BK329.out 1).trans rfl, (blk_cell BK329.out 2).trans rfl, (blk_cell BK329.out 3).trans rfl, (blk_cell BK330.out 0).trans rfl, (blk_cell BK330.out 1).trans rfl, (blk_cell BK330.out 2).trans rfl, (blk_cell BK330.out 3).trans rfl⟩ (fun hHeld => ?_)
  clear hK K
  refine norm_ (a' := ?_) ?_ ?_
  rotate_left
  · show Act.put _ (some 8) _ = _
    simp only [Act.put, List.setIfInBounds_toArray, List.set_cons_zero, List.set_cons_succ, i64_w, i32_w]
    rfl
  refine one_ (i := 4) (N := some 9) #[true, true, true, true, true, false] rfl rfl (by kernel_rfl) (by decide) (fun K hK => ?_)
  refine goes_ Try.func43 (by kernel_rfl) rfl #[.agg #[.slice Ao11 t331.length co11, .int .u64 t334, .int .u64 t335, .int .u64 t336], .agg #[.slice Ao12 t337.length co12, .int .u64 t340, .int .u64 t341, .int .u64 t342]] (by rfl) rfl rfl (by (try simp only [List.map_toArray, List.map_cons, List.map_nil]); first | done | rfl | (simp only [List.length_drop, List.length_take]; rfl)) ?_
  with_reducible refine (ratlineref09_Same.calls k _ _ t331 t334 t335 t336 _ _ t337 t340 t341 t342 t343 _ ?side1 ?side2 ?side3 ?side4 A5.out).mono ?_
  (case side1 => repeat (first | exact (Kd.R_reads' HO333.out).2.2 | (with_reducible refine Kd.C_alloc ?_ _) | (with_reducible refine Kd.C_drewN ?_ _) | (with_reducible refine Kd.C_drew ?_)))
  (case side2 => exact (Kd.R_reads' HO333.out).2.1)
  (case side3 => repeat (first | exact (Kd.R_reads' HO339.out).2.2 | (with_reducible refine Kd.C_alloc ?_ _) | (with_reducible refine Kd.C_drewN ?_ _) | (with_reducible refine Kd.C_drew ?_)))
  (case side4 => exact (Kd.R_reads' HO339.out).2.1)
  rintro e w13 ⟨rfl, hb⟩
  refine ⟨_, rfl, ?_⟩
  have n0_ := Aside0.mk (Kd.R_below (by (with_reducible repeat (first | apply Kd.R_alloc | apply Kd.R_drewN | apply Kd.R_drew)); exact HO333.out) hb)
  have n1_ := Aside0.mk (Kd.R_below (by (with_reducible repeat (first | apply Kd.R_alloc | apply Kd.R_drewN | apply Kd.R_drew)); exact HO339.out) hb)
  have n2_ := Aside0.mk (blk_below (g := gb329) (o := .cells #[.slice A0_0 l0_0.length c0_0, .int .u64 a0_1, .int .u64 a0_2, .int .u64 a0_3] 57 (0, 0)) (by (with_reducible repeat (first | refine blk_drewN ?_ _ | refine blk_drew ?_ | refine blk_alloc ?_ _)); exact BK329.out) hb)
  have n3_ := Aside0.mk (blk_below (g := gb330) (o := .cells #[.slice A1_0 l1_0.length c1_0, .int .u64 a1_1, .int .u64 a1_2, .int .u64 a1_3] 57 (0, 0)) (by (with_reducible repeat (first | refine blk_drewN ?_ _ | refine blk_drew ?_ | refine blk_alloc ?_ _)); exact BK330.out) hb)
  have n4_ := Aside0.mk (below_step (by repeat (first | (with_reducible first | exact HB.out | apply below_alloc | apply pw_below_drewN | apply below_drew1 | refine below_set ?_ GE329.out | refine below_set ?_ GE330.out) | exact HB.out)) hb)
  clear HO333
  clear HO339
  clear BK329
  clear BK330
  clear HB
  have HO333 := n0_
  have HO339 := n1_
  have BK329 := n2_
  have BK330 := n3_
  have HB := n4_
  clear n0_ n1_ n2_ n3_ n4_
  (try clear hb)
  (try clear hb2)
  (try clear hk)
  (try clear hi)
  refine hK.out _ _ ⟨(blk_cell BK329.out 0).trans rfl, (blk_cell BK329.out 1).trans rfl, (blk_cell BK329.out 2).trans rfl, (blk_cell BK329.out 3).trans rfl, (blk_cell BK330.out 0).trans rfl, (blk_cell BK330.out 1).trans rfl, (blk_cell BK330.out 2).trans rfl, (blk_cell BK330.out 3).trans rfl⟩ (fun hHeld => ?_)
  clear hK K
  refine norm_ (a' := ?_) ?_ ?_
  rotate_left
  · show Act.put _ (some 9) _ = _
    simp only [Act.put, List.setIfInBounds_toArray, List.set_cons_zero, List.set_cons_succ, i64_w, i32_w]
    rfl
  refine pure_ (i := 5) (N := some 4) (v := ?_) (a' := ?_) #[true, true, true, true, true, true] rfl rfl (by kernel_rfl) (fun _ _ _ h => h) (Or.inl ⟨by rfl, ?_⟩) ?_ ?_
  rotate_left
  · intro w'
    go_simp
    with_reducible rfl
  rotate_left
  · simp only [Act.put, List.setIfInBounds_toArray, List.set_cons_zero, List.set_cons_succ, i64_w, i32_w]
    rfl
  refine done_ (by kernel_rfl) ?_
  try go_wp2
  go_ret
  exact ⟨by first | rfl | (simp [errW_none, errW_some] <;> rfl) | (simp [*, errW_none, errW_some] <;> rfl), by repeat (first | (with_reducible first | exact HB.out | apply below_alloc | apply pw_below_drewN | apply below_drew1 | refine below_set ?_ GE329.out | refine below_set ?_ GE330.out) | exact HB.out)⟩

end Go.Proofs.Ytlaihdipagejfaa.P

end

section
set_option linter.unusedVariables false
namespace Go.Proofs.YtlaihdipagejfaaG
open Go Go.RowKit Go.Proofs.Ytlaihdipagejfaa.P Go.Proofs.YtlaihdipagejfaaW.PrintWords

abbrev MetaS := S62
/-- A note that is right. -/
def noteB (m : MetaS) : Bool := decide (0 < m.f0) && decide (0 < m.f1) && decide (1 ≤ m.f2.size) && decide (m.f2.size ≤ 64) && decide (1 ≤ m.f3.size) && decide (m.f3.size ≤ 64) && !Op.bytesLess m.f3.toList m.f2.toList
/-- Notes that are right, and rise from a number on. -/
def upB : Option Int → Int → Bool
  | none, _ => true
  | some q, x => decide (q < x)
def notesB (p : Option Int) (l : List MetaS) : Bool := match l with
  | [] => true
  | m :: r => noteB m && upB p m.f0 && notesB (some m.f0) r
theorem notesB_nil (p : Option Int) : notesB p [] = true := by rw [notesB]
theorem notesB_cons (p : Option Int) (m : MetaS) (r : List MetaS) : notesB p (m :: r) = (noteB m && upB p m.f0 && notesB (some m.f0) r) := by rw [notesB]
/-- Which edits are right. -/
def rightB (l : List MetaS) (a b c : Int) : Bool := notesB none l && (decide (l.length ≤ 64) && decide (b ≤ 72057594037927935) && (decide (0 < l.length) || decide (a ≠ 0) || decide (b ≠ 0) || decide (c ≠ 0)))
/-- A note's bytes. -/
def noteF (m : MetaS) : List Int := vint m.f0.toNat ++ (vint m.f1.toNat ++ (vint m.f2.size ++ (bytesOf m.f2 ++ (vint m.f3.size ++ bytesOf m.f3))))
def notesF : List MetaS → List Int
  | [] => []
  | m :: r => noteF m ++ notesF r
def addF (l : List MetaS) : List Int := if 0 < l.length then vint l.length ++ notesF l else []
def numF (x : Int) : List Int := if 0 < x then vint x.toNat else []
def bitF (x k : Int) : Int := if 0 < x then k else 0
def headF (l : List MetaS) (a b c : Int) : Int := bitF l.length 1 + bitF a 2 + bitF b 4 + bitF c 8
def bodyF (l : List MetaS) (a b c : Int) : List Int := addF l ++ (numF a ++ (numF b ++ numF c))
def formE (l : List MetaS) (a b c : Int) : List Int := headF l a b c :: bodyF l a b c
def U64 (x : Int) : Prop := 0 ≤ x ∧ x < 18446744073709551616
instance decU64 (x : Int) : Decidable (U64 x) := by unfold U64; infer_instance
def WfM (m : MetaS) : Prop := U64 m.f0 ∧ U64 m.f1
instance decWfM (m : MetaS) : Decidable (WfM m) := by unfold WfM; infer_instance
def WfE (l : List MetaS) (a b c : Int) : Prop := (∀ m ∈ l, WfM m) ∧ U64 a ∧ U64 b ∧ U64 c
instance decWfE (l : List MetaS) (a b c : Int) : Decidable (WfE l a b c) := by unfold WfE; infer_instance
def edit_Bytes.f (l : List MetaS) (a b c : Int) : Option (List Int × Int) := if WfE l a b c then some (if rightB l a b c then (formE l a b c, 0) else ([], 90)) else none
end Go.Proofs.YtlaihdipagejfaaG

end

section
set_option linter.unusedVariables false
namespace Go.Proofs.YtlaihdipagejfaaL
open Go Go.RowKit Go.Proofs.YtlaihdipagejfaaW.PrintWords
section
variable {α β γ δ ε ζ : Type} {r : α}
theorem ev_some (r : α) : Ev (fun _ => some r) r := Ev.now r
theorem ev_bind {o : Option β} {a : β} {f : Nat → β → Option α} (h : o = some a) (k : Ev (fun n => f n a) r) : Ev (fun n => o.bind (f n)) r := Ev.bind (g := fun _ => o) (by rw [h]; exact Ev.now a) k
theorem ev_call {g : Nat → Option β} {a : β} {f : Nat → β → Option α} (h : Ev g a) (k : Ev (fun n => f n a) r) : Ev (fun n => (g n).bind (f n)) r := Ev.bind h k
theorem ev_pos {c : Prop} [Decidable c] {a b : Nat → Option α} (h : c) (k : Ev a r) : Ev (fun n => if c then a n else b n) r := k.congr (fun n => if_pos h)
theorem ev_neg {c : Prop} [Decidable c] {a b : Nat → Option α} (h : ¬ c) (k : Ev b r) : Ev (fun n => if c then a n else b n) r := k.congr (fun n => if_neg h)
/-- One round of what has rounds. -/
theorem ev_step {g f : Nat → Option α} (h : ∀ k, g (k + 1) = f k) (k : Ev f r) : Ev g r := Ev.step h k
theorem ev_of {g : Nat → Option α} (N : Nat) (h : ∀ k, g (k + N) = some r) : Ev g r := ⟨N, fun k hk => by rw [show k = (k - N) + N from by omega]; exact h _⟩
end
theorem up1 {a : Nat} (h : a < 9223372036854775800) : wrap64 ((a : Int) + 1) = ((a + 1 : Nat) : Int) := by unfold wrap64; omega
theorem getD_at {α : Type} {l : List α} {z : α} {j : Nat} (h : j < l.length) : l.getD ((j : Int)).toNat z = l[j] := by
  rw [Int.toNat_natCast, List.getD_eq_getElem?_getD, List.getElem?_eq_getElem h]
  rfl
end Go.Proofs.YtlaihdipagejfaaL

end

section
set_option linter.unusedVariables false
namespace Go.Proofs.YtlaihdipagejfaaL
open Go Go.RowKit Go.Proofs.YtlaihdipagejfaaW.PrintWords

theorem bind1 {α δ : Type} {o : Option α} {a : α} {f : α → Option δ} {r : Option δ} (h : o = some a) (k : f a = r) : o.bind f = r := by
  rw [h]
  exact k
/-- Bytes. -/
def By (l : List Int) : Prop := ∀ c ∈ l, 0 ≤ c ∧ c < 256
theorem By.right {a b : List Int} (h : By (a ++ b)) : By b := fun c hc => h c (List.mem_append_right _ hc)
theorem By.drop {l : List Int} (h : By l) (n : Nat) : By (l.drop n) := fun c hc => h c (List.mem_of_mem_drop hc)
theorem toList_data (s : ByteArray) : s.toList = s.data.toList := Lib.toList_data s
theorem ba_ext {s t : ByteArray} (h : s.toList = t.toList) : s = t := by
  rw [toList_data, toList_data] at h
  cases s; cases t
  simpa using h
end Go.Proofs.YtlaihdipagejfaaL

end

section
set_option linter.unusedVariables false
namespace Go.Proofs.YtlaihdipagejfaaL
open Go Go.RowKit Go.Proofs.YtlaihdipagejfaaG Go.Proofs.Ytlaihdipagejfaa.P Go.Proofs.YtlaihdipagejfaaW.PrintWords Go.Proofs.YtlaihdipagejfaaW.PrintMore

def lt (a b : ByteArray) : Prop := Op.bytesLess a.toList b.toList = true
instance (a b : ByteArray) : Decidable (lt a b) := inferInstanceAs (Decidable (_ = true))
theorem lt_asymm {a b : ByteArray} (h : lt a b) : ¬ lt b a := by
  unfold lt at *
  rw [← bytesLess_gtr, h]
  simp
theorem lt_irrefl (a : ByteArray) : ¬ lt a a := fun h => lt_asymm h h
theorem ba_eq_iff {a b : ByteArray} : a.toList = b.toList ↔ a = b := ⟨ba_ext, fun h => by rw [h]⟩
theorem ba_nil_iff {a : ByteArray} : a.toList = [] ↔ a.size = 0 := by
  rw [toList_data]
  exact ⟨fun h => by show a.data.size = 0; rw [← Array.length_toList, h]; rfl, fun h => List.eq_nil_of_length_eq_zero (by rw [Array.length_toList]; exact h)⟩

end Go.Proofs.YtlaihdipagejfaaL

end

section
set_option linter.unusedVariables false
set_option linter.unusedSimpArgs false
namespace Go.Proofs.YtlaihdipagejfaaL
open Go Go.RowKit Go.Proofs.YtlaihdipagejfaaG Go.Proofs.Ytlaihdipagejfaa.P Go.Proofs.YtlaihdipagejfaaW.PrintWords

theorem key_f (s : ByteArray) : edit_key.f s = some (decide (1 ≤ s.size) && decide (s.size ≤ 64)) := by
  unfold edit_key.f
  by_cases h : s.size = 0
  · rw [if_pos (ba_nil_iff.2 h), h]
    rfl
  · rw [if_neg (fun e => h (ba_nil_iff.1 e)), decide_eq_true (show 1 ≤ s.size by omega), Bool.true_and]
    congr 1
    exact decide_eq_decide.2 (by omega)
theorem odd_f (m : MetaS) (h : WfM m) : edit_odd.f m.f0 m.f1 m.f2 m.f3 = some (!noteB m) := by
  obtain ⟨⟨h1, _⟩, h2, _⟩ := h
  unfold edit_odd.f noteB
  by_cases c1 : m.f0 = 0
  · rw [if_pos c1, decide_eq_false (show ¬ 0 < m.f0 by omega)]
    simp
  rw [if_neg c1, decide_eq_true (show 0 < m.f0 by omega)]
  by_cases c2 : m.f1 = 0
  · rw [if_pos c2, decide_eq_false (show ¬ 0 < m.f1 by omega)]
    simp
  rw [if_neg c2, decide_eq_true (show 0 < m.f1 by omega), key_f, key_f]
  simp only [Option.bind_some]
  by_cases c3 : (decide (1 ≤ m.f2.size) && decide (m.f2.size ≤ 64)) = true
  · rw [if_pos c3]
    by_cases c4 : (decide (1 ≤ m.f3.size) && decide (m.f3.size ≤ 64)) = true
    · rw [if_pos c4]
      simp only [Bool.and_eq_true] at c3 c4
      simp [c3.1, c3.2, c4.1, c4.2]
    · rw [if_neg c4]
      have c4' := Bool.eq_false_iff.2 c4
      congr 1
      symm
      rw [Bool.not_eq_true', Bool.and_assoc, Bool.and_assoc, ← Bool.and_assoc (decide (1 ≤ m.f3.size)), c4']
      simp
  · rw [if_neg c3]
    have c3' := Bool.eq_false_iff.2 c3
    congr 1
    symm
    rw [Bool.not_eq_true', Bool.and_assoc, Bool.and_assoc, Bool.and_assoc, Bool.and_assoc, ← Bool.and_assoc (decide (1 ≤ m.f2.size)), c3']
    simp
theorem or_zero {a b : Int} (ha : U64 a) (hb : U64 b) : U64 (bits .or .u64 a b) ∧ (bits .or .u64 a b = 0 ↔ a = 0 ∧ b = 0) := by
  obtain ⟨x, rfl⟩ := Int.eq_ofNat_of_zero_le ha.1
  obtain ⟨y, rfl⟩ := Int.eq_ofNat_of_zero_le hb.1
  have h1 := ha.2
  have h2 := hb.2
  have e : bits .or .u64 (x : Int) (y : Int) = ((x ||| y : Nat) : Int) := by
    show IntKind.u64.wrap ((BitVec.ofInt 64 (x : Int) ||| BitVec.ofInt 64 (y : Int)).toNat : Int) = _
    rw [BitVec.ofInt_natCast, BitVec.ofInt_natCast, BitVec.toNat_or, BitVec.toNat_ofNat, BitVec.toNat_ofNat, Nat.mod_eq_of_lt (show x < 2 ^ 64 by omega), Nat.mod_eq_of_lt (show y < 2 ^ 64 by omega)]
    have h3 : x ||| y < 2 ^ 64 := Nat.or_lt_two_pow (by omega) (by omega)
    show ((x ||| y : Nat) : Int) % 18446744073709551616 = _
    omega
  have h3 : x ||| y < 2 ^ 64 := Nat.or_lt_two_pow (by omega) (by omega)
  rw [e]
  refine ⟨⟨by omega, by omega⟩, ?_⟩
  constructor
  · intro h
    have h4 : x ||| y = 0 := by omega
    have := Nat.or_eq_zero_iff.1 h4
    omega
  · rintro ⟨h5, h6⟩
    have h7 : x = 0 := by omega
    have h8 : y = 0 := by omega
    rw [h7, h8]
    rfl
theorem or3 {a b c : Int} (ha : U64 a) (hb : U64 b) (hc : U64 c) : (bits .or .u64 (bits .or .u64 a b) c != 0) = (decide (a ≠ 0) || decide (b ≠ 0) || decide (c ≠ 0)) := by
  have h1 := or_zero ha hb
  have h2 := or_zero h1.1 hc
  rw [Bool.eq_iff_iff, bne_iff_ne, ne_eq, h2.2, h1.2]
  simp only [Bool.or_eq_true, decide_eq_true_eq]
  omega
theorem up1' {a : Nat} (h : a < 9223372036854775807) : wrap64 ((a : Int) + 1) = ((a + 1 : Nat) : Int) := by unfold wrap64; omega
/-- What stands ahead of a note. -/
def ahead (l : List MetaS) : Nat → Option Int
  | 0 => none
  | i + 1 => (l[i]?).map (·.f0)
theorem right_loop (l : List MetaS) (a b c : Int) (hl : l.length ≤ 9223372036854775807) (hw : ∀ m ∈ l, WfM m) (ha : U64 a) (hb : U64 b) (hc : U64 c) :
    ∀ (n i : Nat), i + n = l.length → Ev (fun k => edit_Right.l0 k (l.length : Int) i l a b c) (notesB (ahead l i) (l.drop i) && (decide (l.length ≤ 64) && decide (b ≤ 72057594037927935) && (decide (0 < l.length) || decide (a ≠ 0) || decide (b ≠ 0) || decide (c ≠ 0)))) := by
  intro n
  induction n with
  | zero =>
    intro i hi
    have hd : l.drop i = [] := List.drop_eq_nil_of_le (by omega)
    rw [hd, notesB_nil, Bool.true_and]
    refine ev_of 1 (fun k => ?_)
    rw [edit_Right.l0, if_neg (by omega)]
    by_cases c1 : (l.length : Int) ≤ 64
    · rw [if_pos c1, decide_eq_true (show l.length ≤ 64 by omega), Bool.true_and]
      by_cases c2 : b ≤ 72057594037927935
      · rw [if_pos c2, decide_eq_true c2, Bool.true_and]
        by_cases c3 : (l.length : Int) > 0
        · rw [if_pos c3, decide_eq_true (show 0 < l.length by omega)]
          simp
        · rw [if_neg c3, or3 ha hb hc, decide_eq_false (show ¬ 0 < l.length by omega), Bool.false_or]
      · rw [if_neg c2, decide_eq_false c2, Bool.false_and]
    · rw [if_neg c1, decide_eq_false (show ¬ l.length ≤ 64 by omega), Bool.false_and, Bool.false_and]
  | succ n ih =>
    intro i hi
    have hlt : i < l.length := by omega
    have hr : rd_T62 l (i : Int) = l[i] := getD_at hlt
    have hwm := hw l[i] (List.getElem_mem hlt)
    rw [List.drop_eq_getElem_cons hlt, notesB_cons]
    have hn := ih (i + 1) (by omega)
    have ha' : ahead l (i + 1) = some (l[i]).f0 := by rw [ahead, List.getElem?_eq_getElem hlt]; rfl
    rw [ha'] at hn
    have hs : ∀ k, edit_Right.l0 (k + 1) (l.length : Int) i l a b c = if (!noteB l[i]) = true then some false else (if (i : Int) > 0 then (if 0 ≤ (wrap64 ((i : Int) - 1)) then (if (wrap64 ((i : Int) - 1)) < (l.length : Int) then (if (l[i]).f0 ≤ ((rd_T62 l (wrap64 ((i : Int) - 1))).f0) then (some false) else (edit_Right.l0 k (l.length : Int) (wrap64 ((i : Int) + 1)) l a b c)) else (none)) else (none)) else (edit_Right.l0 k (l.length : Int) (wrap64 ((i : Int) + 1)) l a b c)) := by
      intro k
      rw [edit_Right.l0, if_pos (by omega), if_pos (by omega), if_pos (by omega), hr, odd_f _ hwm]
      rfl
    by_cases c1 : noteB l[i] = true
    · rw [c1, Bool.true_and]
      cases i with
      | zero =>
        rw [ahead, upB, Bool.true_and]
        refine ev_step (fun k => ?_) hn
        rw [hs, c1, if_neg (by simp), if_neg (by omega), up1' (by omega)]
      | succ j =>
        have hw1 : wrap64 (((j + 1 : Nat) : Int) - 1) = (j : Int) := by unfold wrap64; omega
        have hrj : rd_T62 l (j : Int) = l[j] := getD_at (by omega)
        have haj : ahead l (j + 1) = some (l[j]).f0 := by rw [ahead, List.getElem?_eq_getElem (show j < l.length by omega)]; rfl
        rw [haj, upB]
        by_cases c2 : (l[j]).f0 < (l[j + 1]).f0
        · rw [decide_eq_true c2, Bool.true_and]
          refine ev_step (fun k => ?_) hn
          rw [hs, c1, if_neg (by simp), if_pos (by omega), hw1, if_pos (by omega), if_pos (by omega), hrj, if_neg (by omega), up1' (by omega)]
        · rw [decide_eq_false c2, Bool.false_and, Bool.false_and]
          refine ev_of 1 (fun k => ?_)
          rw [hs, c1, if_neg (by simp), if_pos (by omega), hw1, if_pos (by omega), if_pos (by omega), hrj, if_pos (by omega)]
    · have c1' := Bool.eq_false_iff.2 c1
      rw [c1', Bool.false_and, Bool.false_and, Bool.false_and]
      refine ev_of 1 (fun k => ?_)
      rw [hs, c1', if_pos (by decide)]
theorem right_ev (l : List MetaS) (a b c : Int) (hl : l.length ≤ 9223372036854775807) (h : WfE l a b c) : Ev (fun k => edit_Right.f k l a b c) (rightB l a b c) := by
  have := right_loop l a b c hl h.1 h.2.1 h.2.2.1 h.2.2.2 l.length 0 (by omega)
  rw [List.drop_zero] at this
  exact this
theorem right_calls (A : Option Addr) (cp : Nat) (l : List MetaS) (a b c : Int) (w : World) (hr : Kd.C k62 w A l.length l) (hc : l.length ≤ cp) (h : WfE l a b c) :
    Calls Try.prog 33 #[.agg #[.slice A l.length cp, .int .u64 a, .int .u64 b, .int .u64 c]] w fun e w' => e = .returned (.bool (rightB l a b c)) ∧ Below w.heap.size w w' := by
  have hl : l.length ≤ 9223372036854775807 := hr.2.1
  obtain ⟨N, hN⟩ := right_ev l a b c hl h
  exact edit_Right.calls N A cp l a b c _ w hr hc (hN N (Nat.le_refl _))
end Go.Proofs.YtlaihdipagejfaaL

end

section
set_option linter.unusedVariables false
namespace Go.Proofs.YtlaihdipagejfaaG
open Go Go.RowKit
theorem list_range {α : Type} (l : List α) (z : α) (n : Nat) (h : l.length = n) : l = (List.range n).map (fun k => l.getD k z) := by
  apply List.ext_getElem
  · simp [h]
  · intro i h1 h2
    rw [List.getElem_map, List.getElem_range, List.getD_eq_getElem?_getD, List.getElem?_eq_getElem h1]
    rfl
theorem to_fun (a : Act) (hs : a.tmps.size = 92) (hd : a.defers = []) : ∃ u : Nat → Value, a = { tmps := #[u 0, u 1, u 2, u 3, u 4, u 5, u 6, u 7, u 8, u 9, u 10, u 11, u 12, u 13, u 14, u 15, u 16, u 17, u 18, u 19, u 20, u 21, u 22, u 23, u 24, u 25, u 26, u 27, u 28, u 29, u 30, u 31, u 32, u 33, u 34, u 35, u 36, u 37, u 38, u 39, u 40, u 41, u 42, u 43, u 44, u 45, u 46, u 47, u 48, u 49, u 50, u 51, u 52, u 53, u 54, u 55, u 56, u 57, u 58, u 59, u 60, u 61, u 62, u 63, u 64, u 65, u 66, u 67, u 68, u 69, u 70, u 71, u 72, u 73, u 74, u 75, u 76, u 77, u 78, u 79, u 80, u 81, u 82, u 83, u 84, u 85, u 86, u 87, u 88, u 89, u 90, u 91], defers := [] } ∧ ∀ k, u k = a.tmps.getD k undef := by
  obtain ⟨⟨l⟩, d⟩ := a
  have hd' : d = [] := hd
  subst hd'
  have hl : l.length = 92 := hs
  refine ⟨fun k => l.getD k undef, ?_, fun k => by show l.getD k undef = (Array.mk l).getD k undef; simp [List.getD_eq_getElem?_getD]⟩
  have h := list_range l undef 92 hl
  have h2 : (List.range 92).map (fun k => l.getD k undef) = [l.getD 0 undef, l.getD 1 undef, l.getD 2 undef, l.getD 3 undef, l.getD 4 undef, l.getD 5 undef, l.getD 6 undef, l.getD 7 undef, l.getD 8 undef, l.getD 9 undef, l.getD 10 undef, l.getD 11 undef, l.getD 12 undef, l.getD 13 undef, l.getD 14 undef, l.getD 15 undef, l.getD 16 undef, l.getD 17 undef, l.getD 18 undef, l.getD 19 undef, l.getD 20 undef, l.getD 21 undef, l.getD 22 undef, l.getD 23 undef, l.getD 24 undef, l.getD 25 undef, l.getD 26 undef, l.getD 27 undef, l.getD 28 undef, l.getD 29 undef, l.getD 30 undef, l.getD 31 undef, l.getD 32 undef, l.getD 33 undef, l.getD 34 undef, l.getD 35 undef, l.getD 36 undef, l.getD 37 undef, l.getD 38 undef, l.getD 39 undef, l.getD 40 undef, l.getD 41 undef, l.getD 42 undef, l.getD 43 undef, l.getD 44 undef, l.getD 45 undef, l.getD 46 undef, l.getD 47 undef, l.getD 48 undef, l.getD 49 undef, l.getD 50 undef, l.getD 51 undef, l.getD 52 undef, l.getD 53 undef, l.getD 54 undef, l.getD 55 undef, l.getD 56 undef, l.getD 57 undef, l.getD 58 undef, l.getD 59 undef, l.getD 60 undef, l.getD 61 undef, l.getD 62 undef, l.getD 63 undef, l.getD 64 undef, l.getD 65 undef, l.getD 66 undef, l.getD 67 undef, l.getD 68 undef, l.getD 69 undef, l.getD 70 undef, l.getD 71 undef, l.getD 72 undef, l.getD 73 undef, l.getD 74 undef, l.getD 75 undef, l.getD 76 undef, l.getD 77 undef, l.getD 78 undef, l.getD 79 undef, l.getD 80 undef, l.getD 81 undef, l.getD 82 undef, l.getD 83 undef, l.getD 84 undef, l.getD 85 undef, l.getD 86 undef, l.getD 87 undef, l.getD 88 undef, l.getD 89 undef, l.getD 90 undef, l.getD 91 undef] := rfl
  rw [h2] at h
  have h3 : (Act.mk ⟨l⟩ [] : Act) = Act.mk (List.toArray l) [] := rfl
  rw [h3]
  congr 1
  exact congrArg List.toArray h
end Go.Proofs.YtlaihdipagejfaaG

end

section
set_option linter.unusedVariables false
set_option linter.unusedSimpArgs false
namespace Go.Proofs.YtlaihdipagejfaaG
open Go Go.RowKit Go.Proofs.YtlaihdipagejfaaR Go.Proofs.YtlaihdipagejfaaL Go.Proofs.Ytlaihdipagejfaa.P Go.Proofs.YtlaihdipagejfaaW.PrintWords Go.Proofs.YtlaihdipagejfaaW.PrintMore
attribute [local go_sem] Oper.semAt_some max2_int

theorem right_fit' {l : List MetaS} {a b c : Int} (h : rightB l a b c = true) : l.length ≤ 64 ∧ True := by
  unfold rightB at h
  simp only [Bool.and_eq_true, decide_eq_true_eq] at h
  exact ⟨h.2.1.1, trivial⟩
def fallsB (was now : Int) : Bool := decide (0 < now) && decide (now < was)
def lowB (l0 l1 : List MetaS) : Bool := decide (0 < l0.length) && decide (0 < l1.length) && decide ((rd_T62 l1 0).f0 ≤ (rd_T62 l0 ((l0.length : Int) - 1)).f0)
def okB (l0 : List MetaS) (a b c : Int) (l1 : List MetaS) (d e f : Int) : Bool := rightB l1 d e f && !fallsB a d && !fallsB b e && !fallsB c f && !lowB l0 l1
def edit_Apply.f (l0 : List MetaS) (a b c : Int) (l1 : List MetaS) (d e f : Int) : Option (List MetaS × Int × Int × Int × Int) :=
  if WfE l1 d e f ∧ l0.length + 64 < 2932031007402 then some (if okB l0 a b c l1 d e f = true then (l0 ++ l1, mx a d, mx b e, mx c f, 0) else (l0, a, b, c, 90)) else none
set_option maxRecDepth 100000 in
theorem falls_calls (was now : Int) (w : World) : Calls Try.prog 58 #[.int .u64 was, .int .u64 now] w fun e w' => e = .returned (.bool (fallsB was now)) ∧ w = w' := by
  by_cases h : 0 < now
  · have hd : decide (0 < now) = true := decide_eq_true h
    clear h
    go_enter Try.func58, Try.ntmps58
    go_wp2
    go_ret
    exact ⟨by unfold fallsB; rw [hd, Bool.true_and]; rfl, rfl⟩
  · have hd : decide (0 < now) = false := decide_eq_false h
    clear h
    go_enter Try.func58, Try.ntmps58
    go_wp2
    go_ret
    exact ⟨by unfold fallsB; rw [hd, Bool.false_and]; rfl, rfl⟩
abbrev vBx (v : Value) (a b c : Int) : Obj := .cells #[v, .int .u64 a, .int .u64 b, .int .u64 c] 57
abbrev eBx' (A : Option Addr) (n cp : Nat) (a b c : Int) : Obj := .cells #[.slice A n cp, .int .u64 a, .int .u64 b, .int .u64 c] 54
structure ASt (w : World) (v : Value) (l : List MetaS) (a b c : Int) (Ae : Option Addr) (l1 : List MetaS) (ce : Nat) (d e f : Int) (W : World) : Prop where
  vbx : W.heap[w.heap.size]? = some (vBx v a b c)
  ebx : W.heap[w.heap.size + 1]? = some (eBx' Ae l1.length ce d e f)
  rbx : W.heap[w.heap.size + 1 + 1]? = some (vBx (.slice none 0 0) 0 0 0)
  row : Kd.R k62 62 W w.heap.size (fun _ => True) v l
  bel : Below w.heap.size w W
theorem ASt.below {w : World} {v : Value} {l : List MetaS} {a b c : Int} {Ae : Option Addr} {l1 : List MetaS} {ce : Nat} {d e f : Int} {W W' : World} (h : ASt w v l a b c Ae l1 ce d e f W) (hb : Below W.heap.size W W') : ASt w v l a b c Ae l1 ce d e f W' :=
  ⟨(hb.block _ (blk_lt h.vbx)).trans h.vbx, (hb.block _ (blk_lt h.ebx)).trans h.ebx, (hb.block _ (blk_lt h.rbx)).trans h.rbx, Kd.R_below h.row hb, below_then h.bel h.bel.size hb⟩

theorem ast_one {w W0 w1 : World} {A0 : Option Addr} {l0 : List MetaS} {c0 : Nat} {a b c : Int} {Ae : Option Addr} {l1 : List MetaS} {ce : Nat} {d e f : Int} {v : Value} (hB : Below w.heap.size w W0) (hd : Below W0.heap.size W0 w1) (hv : W0.heap[w.heap.size]? = some (vBx (.slice A0 l0.length c0) a b c)) (he : W0.heap[w.heap.size + 1]? = some (eBx' Ae l1.length ce d e f)) (hr : W0.heap[w.heap.size + 1 + 1]? = some (vBx (.slice none 0 0) 0 0 0))
    (hR : Kd.R k62 62 w1 w.heap.size (fun _ => True) v l0) (_h : True) : ASt w v l0 a b c Ae l1 ce d e f (w1.setCell ⟨w.heap.size, 0, none⟩ v) := by
  have hv1 := (hd.block _ (blk_lt hv)).trans hv
  have he1 := (hd.block _ (blk_lt he)).trans he
  have hr1 := (hd.block _ (blk_lt hr)).trans hr
  exact ⟨blk_put hv1 0 v rfl, blk_far (p := ⟨w.heap.size, 0, none⟩) he1 (by show w.heap.size + 1 ≠ w.heap.size; omega) v, blk_far (p := ⟨w.heap.size, 0, none⟩) hr1 (by show w.heap.size + 1 + 1 ≠ w.heap.size; omega) v, Kd.R_mono (Kd.R_far (p := ⟨w.heap.size, 0, none⟩) (Kd.R_types hR hv1 (by decide)) (fun k hk => hk.2) v) (fun _ _ => trivial), (below_then hB hB.size hd).setCell (p := ⟨w.heap.size, 0, none⟩) (Nat.le_refl _) v⟩

theorem ast_grown {w W W1 : World} {v : Value} {l : List MetaS} {a b c : Int} {Ae : Option Addr} {l1 : List MetaS} {ce : Nat} {d e f : Int} {nq : Nat} {row : Option Nat} (h : ASt w v l a b c Ae l1 ce d e f W) (hg : (W.drewN nq).grownBy W1 row) (hne : ∀ k, row = some k → k ≠ w.heap.size ∧ k ≠ w.heap.size + 1 ∧ k ≠ w.heap.size + 1 + 1) :
    W1.heap[w.heap.size]? = some (vBx v a b c) ∧ W1.heap[w.heap.size + 1]? = some (eBx' Ae l1.length ce d e f) ∧ W1.heap[w.heap.size + 1 + 1]? = some (vBx (.slice none 0 0) 0 0 0) :=
  ⟨blk_grown (blk_drewN h.vbx nq) hg (fun e => (hne _ e.symm).1 rfl), blk_grown (blk_drewN h.ebx nq) hg (fun e => (hne _ e.symm).2.1 rfl), blk_grown (blk_drewN h.rbx nq) hg (fun e => (hne _ e.symm).2.2 rfl)⟩
theorem ASt.ne {w : World} {v : Value} {l : List MetaS} {a b c : Int} {Ae : Option Addr} {l1 : List MetaS} {ce : Nat} {d e f : Int} {W : World} (h : ASt w v l a b c Ae l1 ce d e f W) : ∀ k, v.ownBlock = some k → k ≠ w.heap.size ∧ k ≠ w.heap.size + 1 ∧ k ≠ w.heap.size + 1 + 1 := fun k hk =>
  ⟨((Kd.R_types h.row h.vbx (by decide)).1 k hk).2, ((Kd.R_types h.row h.ebx (by decide)).1 k hk).2, ((Kd.R_types h.row h.rbx (by decide)).1 k hk).2⟩

theorem ast_put {w W1 : World} {v v5 : Value} {l : List MetaS} {a b c : Int} {Ae : Option Addr} {l1 : List MetaS} {ce : Nat} {d e f : Int} (h : W1.heap[w.heap.size]? = some (vBx v a b c) ∧ W1.heap[w.heap.size + 1]? = some (eBx' Ae l1.length ce d e f) ∧ W1.heap[w.heap.size + 1 + 1]? = some (vBx (.slice none 0 0) 0 0 0)) (ho : Kd.R k62 62 W1 w.heap.size (fun _ => True) v5 l) (hb : Below w.heap.size w W1) : ASt w v5 l a b c Ae l1 ce d e f (W1.setCell ⟨w.heap.size, 0, none⟩ v5) :=
  ⟨blk_put h.1 0 v5 rfl, blk_far (p := ⟨w.heap.size, 0, none⟩) h.2.1 (by show w.heap.size + 1 ≠ w.heap.size; omega) v5, blk_far (p := ⟨w.heap.size, 0, none⟩) h.2.2 (by show w.heap.size + 1 + 1 ≠ w.heap.size; omega) v5, Kd.R_mono (Kd.R_far (p := ⟨w.heap.size, 0, none⟩) (Kd.R_types ho h.1 (by decide)) (fun k hk => hk.2) v5) (fun _ _ => trivial), hb.setCell (p := ⟨w.heap.size, 0, none⟩) (Nat.le_refl _) v5⟩

theorem ast_nums {w W : World} {v : Value} {l : List MetaS} {a b c x y z : Int} {Ae : Option Addr} {l1 : List MetaS} {ce : Nat} {d e f : Int} (h : ASt w v l a b c Ae l1 ce d e f W) : ASt w v l x y z Ae l1 ce d e f (((W.setCell ⟨w.heap.size, 1, none⟩ (.int .u64 x)).setCell ⟨w.heap.size, 2, none⟩ (.int .u64 y)).setCell ⟨w.heap.size, 3, none⟩ (.int .u64 z)).drew := by
  have hn1 : w.heap.size + 1 ≠ w.heap.size := by omega
  have hn2 : w.heap.size + 1 + 1 ≠ w.heap.size := by omega
  refine ⟨blk_drew (blk_put (cs' := #[v, .int .u64 x, .int .u64 y, .int .u64 z]) (blk_put (cs' := #[v, .int .u64 x, .int .u64 y, .int .u64 c]) (blk_put (cs' := #[v, .int .u64 x, .int .u64 b, .int .u64 c]) h.vbx 1 _ rfl) 2 _ rfl) 3 _ rfl), blk_drew (blk_far (p := ⟨w.heap.size, 3, none⟩) (blk_far (p := ⟨w.heap.size, 2, none⟩) (blk_far (p := ⟨w.heap.size, 1, none⟩) h.ebx hn1 _) hn1 _) hn1 _), blk_drew (blk_far (p := ⟨w.heap.size, 3, none⟩) (blk_far (p := ⟨w.heap.size, 2, none⟩) (blk_far (p := ⟨w.heap.size, 1, none⟩) h.rbx hn2 _) hn2 _) hn2 _), ?_, ?_⟩
  · exact Kd.R_drew (Kd.R_mono (Kd.R_far (p := ⟨w.heap.size, 3, none⟩) (Kd.R_far (p := ⟨w.heap.size, 2, none⟩) (Kd.R_far (p := ⟨w.heap.size, 1, none⟩) (Kd.R_types h.row h.vbx (by decide)) (fun k hk => hk.2) _) (fun k hk => hk.2) _) (fun k hk => hk.2) _) (fun _ _ => trivial))
  · exact below_drew1 (((h.bel.setCell (p := ⟨w.heap.size, 1, none⟩) (Nat.le_refl _) _).setCell (p := ⟨w.heap.size, 2, none⟩) (Nat.le_refl _) _).setCell (p := ⟨w.heap.size, 3, none⟩) (Nat.le_refl _) _)

theorem ast_nums9 {w W : World} {v : Value} {l : List MetaS} {a b c x y z : Int} {Ae : Option Addr} {l1 : List MetaS} {ce : Nat} {d e f : Int} (hx : mx a d = x) (hy : mx b e = y) (hz : mx c f = z) (h : ASt w v l a b c Ae l1 ce d e f W) : ASt w v l x y z Ae l1 ce d e f (((W.setCell ⟨w.heap.size, 1, none⟩ (.int .u64 (if a < d then d else a))).setCell ⟨w.heap.size, 2, none⟩ (.int .u64 (if b < e then e else b))).setCell ⟨w.heap.size, 3, none⟩ (.int .u64 (if c < f then f else c))).drew := by
  subst hx; subst hy; subst hz
  exact ast_nums h
end Go.Proofs.YtlaihdipagejfaaG

end

section
set_option linter.unusedVariables false
set_option linter.unusedSimpArgs false
namespace Go.Proofs.YtlaihdipagejfaaG
open Go Go.RowKit Go.Proofs.YtlaihdipagejfaaR Go.Proofs.YtlaihdipagejfaaL Go.Proofs.Ytlaihdipagejfaa.P Go.Proofs.YtlaihdipagejfaaW.PrintWords Go.Proofs.YtlaihdipagejfaaW.PrintMore
attribute [local go_sem] Oper.semAt_some max2_int

attribute [local go_sem] max2_int
set_option maxRecDepth 100000 in
set_option maxHeartbeats 8000000 in
theorem apply_no (A0 : Option Addr) (c0 : Nat) (l0 : List MetaS) (a b c : Int) (Ae : Option Addr) (ce : Nat) (l1 : List MetaS) (d e f : Int) (w : World) (hr0 : Kd.C k62 w A0 l0.length l0) (hc0 : l0.length ≤ c0) (hr1 : Kd.C k62 w Ae l1.length l1) (hc1 : l1.length ≤ ce) (hw : WfE l1 d e f) (hl : l0.length + 64 < 2932031007402) (hk0 : okB l0 a b c l1 d e f = false) :
    Calls Try.prog 32 #[.agg #[.slice A0 l0.length c0, .int .u64 a, .int .u64 b, .int .u64 c], .agg #[.slice Ae l1.length ce, .int .u64 d, .int .u64 e, .int .u64 f]] w fun e_ w' => ∃ v0_ : Value, e_ = .returned (.tuple #[.agg #[v0_, .int .u64 a, .int .u64 b, .int .u64 c], .int .i64 90]) ∧ Kd.R k62 62 w' w.heap.size (fun _ => True) v0_ l0 ∧ Below w.heap.size w w' := by
  have HR0 := Aside0.mk hr0
  have HC0 := Aside0.mk hc0
  have HR1 := Aside0.mk hr1
  have HC1 := Aside0.mk hc1
  have HW := Aside0.mk hw
  have HL := Aside0.mk hl
  have hue := Try.underlying54
  have huv := Try.underlying57
  have hum := Try.underlying62
  obtain ⟨W0, hW0⟩ : ∃ W, W = ((w.alloc (vBx (.slice A0 l0.length c0) a b c)).alloc (eBx' Ae l1.length ce d e f)).alloc (vBx (.slice none 0 0) 0 0 0) := ⟨_, rfl⟩
  have hB0 : Below w.heap.size w W0 := by rw [hW0]; exact below_alloc (below_alloc (below_alloc (Below.refl _ _) _) _) _
  have hs0 : W0.heap.size = w.heap.size + 3 := by rw [hW0]; simp
  have hbv : W0.heap[w.heap.size]? = some (vBx (.slice A0 l0.length c0) a b c) := by
    rw [hW0]
    exact (Below.heap_alloc _ _ _ (by simp; omega)).trans ((Below.heap_alloc _ _ _ (by simp)).trans (World.alloc_heap_new w _))
  have hbe : W0.heap[w.heap.size + 1]? = some (eBx' Ae l1.length ce d e f) := by
    have h7 := World.alloc_heap_new (w.alloc (vBx (.slice A0 l0.length c0) a b c)) (eBx' Ae l1.length ce d e f)
    rw [World.size_alloc] at h7
    rw [hW0]
    exact (Below.heap_alloc _ _ _ (by simp)).trans h7
  have hbr : W0.heap[w.heap.size + 1 + 1]? = some (vBx (.slice none 0 0) 0 0 0) := by
    have h7 := World.alloc_heap_new ((w.alloc (vBx (.slice A0 l0.length c0) a b c)).alloc (eBx' Ae l1.length ce d e f)) (vBx (.slice none 0 0) 0 0 0)
    rw [World.size_alloc, World.size_alloc] at h7
    rw [hW0]
    exact h7
  have HW0 := Aside0.mk hW0
  have HB0 := Aside0.mk hB0
  have HS0 := Aside0.mk hs0
  have HBV := Aside0.mk hbv
  have HBE := Aside0.mk hbe
  have HBR := Aside0.mk hbr
  have hz0 : W0.cell? ⟨w.heap.size, 0, none⟩ = some (.slice A0 l0.length c0) := (blk_cell hbv 0).trans rfl
  rw [hW0] at hz0
  clear hr0 hc0 hr1 hc1 hw hl hW0 hB0 hs0 hbv hbe hbr
  go_enter Try.func32, Try.ntmps32
  cases hRB : rightB l1 d e f with
  | false =>
    have hok : okB l0 a b c l1 d e f = false := by unfold okB; rw [hRB]; simp
    have HRB := Aside0.mk hRB
    clear hRB
    go_wp2_with (first
      | (go_at_call 57; refine (clone_calls A0 c0 l0 _ (Kd.C_below HR0.out (show Below w.heap.size w _ by rw [← HW0.out]; exact HB0.out)) HC0.out (by have := HL.out; omega)).mono ?_; rintro e_ w1 ⟨v1, rfl, hv1, hd1⟩; rw [← HW0.out] at hv1 hd1; clear hz0; have hv2 := Kd.R_lower hv1 HB0.out.size; obtain ⟨A1, c1, e1⟩ := Kd.R_slice hv2; subst e1; have hbx := (hd1.block _ (blk_lt HBV.out)).trans HBV.out; have hbe := (hd1.block _ (blk_lt HBE.out)).trans HBE.out; have hx0 := (blk_cell hbx 0).trans rfl; have hf0 := blk_frozen hbx 0; have hy0 := (blk_cell hbe 0).trans rfl; have hy1 := (blk_cell hbe 1).trans rfl; have hy2 := (blk_cell hbe 2).trans rfl; have hy3 := (blk_cell hbe 3).trans rfl; have HST := Aside0.mk (ast_one HB0.out hd1 HBV.out HBE.out HBR.out hv2 trivial); clear hv1 hv2 hd1 hbx hbe)
      | (go_at_call 33; refine (right_calls Ae ce l1 d e f _ (Kd.C_below HR1.out HST.out.bel) HC1.out HW.out).mono ?_; rw [HRB.out]; rintro e_ w2 ⟨rfl, hd2⟩; have hst2 := HST.out.below hd2; clear hx0 hf0 hy0 hy1 hy2 hy3; have hx0 := (blk_cell hst2.vbx 0).trans rfl; have hx1 := (blk_cell hst2.vbx 1).trans rfl; have hx2 := (blk_cell hst2.vbx 2).trans rfl; have hx3 := (blk_cell hst2.vbx 3).trans rfl; have hy0 := (blk_cell hst2.ebx 0).trans rfl; have hy1 := (blk_cell hst2.ebx 1).trans rfl; have hy2 := (blk_cell hst2.ebx 2).trans rfl; have hy3 := (blk_cell hst2.ebx 3).trans rfl; have hr0 := (blk_cell hst2.rbx 0).trans rfl; have hr1 := (blk_cell hst2.rbx 1).trans rfl; have hr2 := (blk_cell hst2.rbx 2).trans rfl; have hr3 := (blk_cell hst2.rbx 3).trans rfl; have hq0 := blk_frozen hst2.rbx 0; have hq1 := blk_frozen hst2.rbx 1; have hq2 := blk_frozen hst2.rbx 2; have hq3 := blk_frozen hst2.rbx 3; have hv0 := blk_frozen hst2.vbx 0; have hv1 := blk_frozen hst2.vbx 1; have hv2 := blk_frozen hst2.vbx 2; have hv3 := blk_frozen hst2.vbx 3; have HS2 := Aside0.mk hst2; clear hd2 hst2))
    refine bodyPost_ret (results_ct rfl _ _ (w.heap.size + 1 + 1) 57 #[.slice A1 l0.length c1, .int .u64 a, .int .u64 b, .int .u64 c] (0, 0) _ rfl (blk_put (cs' := #[.slice A1 l0.length c1, .int .u64 a, .int .u64 b, .int .u64 c]) (blk_put (cs' := #[.slice A1 l0.length c1, .int .u64 a, .int .u64 b, .int .u64 0]) (blk_put (cs' := #[.slice A1 l0.length c1, .int .u64 a, .int .u64 0, .int .u64 0]) (blk_put (cs' := #[.slice A1 l0.length c1, .int .u64 0, .int .u64 0, .int .u64 0]) HS2.out.rbx 0 _ rfl) 1 _ rfl) 2 _ rfl) 3 _ rfl) huv rfl (by kernel_rfl)) rfl ?_
    exact ⟨_, rfl, Kd.R_mono (Kd.R_far (p := ⟨w.heap.size + 1 + 1, 3, none⟩) (Kd.R_far (p := ⟨w.heap.size + 1 + 1, 2, none⟩) (Kd.R_far (p := ⟨w.heap.size + 1 + 1, 1, none⟩) (Kd.R_far (p := ⟨w.heap.size + 1 + 1, 0, none⟩) (Kd.R_types HS2.out.row HS2.out.rbx (by decide)) (fun k hk => hk.2) _) (fun k hk => hk.2) _) (fun k hk => hk.2) _) (fun k hk => hk.2) _) (fun _ _ => trivial), (((HS2.out.bel.setCell (p := ⟨w.heap.size + 1 + 1, 0, none⟩) (by show w.heap.size ≤ w.heap.size + 1 + 1; omega) _).setCell (p := ⟨w.heap.size + 1 + 1, 1, none⟩) (by show w.heap.size ≤ w.heap.size + 1 + 1; omega) _).setCell (p := ⟨w.heap.size + 1 + 1, 2, none⟩) (by show w.heap.size ≤ w.heap.size + 1 + 1; omega) _).setCell (p := ⟨w.heap.size + 1 + 1, 3, none⟩) (by show w.heap.size ≤ w.heap.size + 1 + 1; omega) _⟩
  | true =>
    have HRB := Aside0.mk hRB
    cases hf1 : fallsB a d with
    | true =>
      have hok : okB l0 a b c l1 d e f = false := by unfold okB; rw [hRB, hf1]; simp
      have HF1 := Aside0.mk hf1
      clear hRB hf1
      go_wp2_with (first
      | (go_at_call 57; refine (clone_calls A0 c0 l0 _ (Kd.C_below HR0.out (show Below w.heap.size w _ by rw [← HW0.out]; exact HB0.out)) HC0.out (by have := HL.out; omega)).mono ?_; rintro e_ w1 ⟨v1, rfl, hv1, hd1⟩; rw [← HW0.out] at hv1 hd1; clear hz0; have hv2 := Kd.R_lower hv1 HB0.out.size; obtain ⟨A1, c1, e1⟩ := Kd.R_slice hv2; subst e1; have hbx := (hd1.block _ (blk_lt HBV.out)).trans HBV.out; have hbe := (hd1.block _ (blk_lt HBE.out)).trans HBE.out; have hx0 := (blk_cell hbx 0).trans rfl; have hf0 := blk_frozen hbx 0; have hy0 := (blk_cell hbe 0).trans rfl; have hy1 := (blk_cell hbe 1).trans rfl; have hy2 := (blk_cell hbe 2).trans rfl; have hy3 := (blk_cell hbe 3).trans rfl; have HST := Aside0.mk (ast_one HB0.out hd1 HBV.out HBE.out HBR.out hv2 trivial); clear hv1 hv2 hd1 hbx hbe)
      | (go_at_call 33; refine (right_calls Ae ce l1 d e f _ (Kd.C_below HR1.out HST.out.bel) HC1.out HW.out).mono ?_; rw [HRB.out]; rintro e_ w2 ⟨rfl, hd2⟩; have hst2 := HST.out.below hd2; clear hx0 hf0 hy0 hy1 hy2 hy3; have hx0 := (blk_cell hst2.vbx 0).trans rfl; have hx1 := (blk_cell hst2.vbx 1).trans rfl; have hx2 := (blk_cell hst2.vbx 2).trans rfl; have hx3 := (blk_cell hst2.vbx 3).trans rfl; have hy0 := (blk_cell hst2.ebx 0).trans rfl; have hy1 := (blk_cell hst2.ebx 1).trans rfl; have hy2 := (blk_cell hst2.ebx 2).trans rfl; have hy3 := (blk_cell hst2.ebx 3).trans rfl; have hr0 := (blk_cell hst2.rbx 0).trans rfl; have hr1 := (blk_cell hst2.rbx 1).trans rfl; have hr2 := (blk_cell hst2.rbx 2).trans rfl; have hr3 := (blk_cell hst2.rbx 3).trans rfl; have hq0 := blk_frozen hst2.rbx 0; have hq1 := blk_frozen hst2.rbx 1; have hq2 := blk_frozen hst2.rbx 2; have hq3 := blk_frozen hst2.rbx 3; have hv0 := blk_frozen hst2.vbx 0; have hv1 := blk_frozen hst2.vbx 1; have hv2 := blk_frozen hst2.vbx 2; have hv3 := blk_frozen hst2.vbx 3; have HS2 := Aside0.mk hst2; clear hd2 hst2)
      | (go_at_call 58; (with_reducible refine (falls_calls a d _).mono ?_); rw [HF1.out]; rintro e_ w3 ⟨rfl, rfl⟩))
      refine bodyPost_ret (results_ct rfl _ _ (w.heap.size + 1 + 1) 57 #[.slice A1 l0.length c1, .int .u64 a, .int .u64 b, .int .u64 c] (0, 0) _ rfl (blk_put (cs' := #[.slice A1 l0.length c1, .int .u64 a, .int .u64 b, .int .u64 c]) (blk_put (cs' := #[.slice A1 l0.length c1, .int .u64 a, .int .u64 b, .int .u64 0]) (blk_put (cs' := #[.slice A1 l0.length c1, .int .u64 a, .int .u64 0, .int .u64 0]) (blk_put (cs' := #[.slice A1 l0.length c1, .int .u64 0, .int .u64 0, .int .u64 0]) HS2.out.rbx 0 _ rfl) 1 _ rfl) 2 _ rfl) 3 _ rfl) huv rfl (by kernel_rfl)) rfl ?_
      exact ⟨_, rfl, Kd.R_mono (Kd.R_far (p := ⟨w.heap.size + 1 + 1, 3, none⟩) (Kd.R_far (p := ⟨w.heap.size + 1 + 1, 2, none⟩) (Kd.R_far (p := ⟨w.heap.size + 1 + 1, 1, none⟩) (Kd.R_far (p := ⟨w.heap.size + 1 + 1, 0, none⟩) (Kd.R_types HS2.out.row HS2.out.rbx (by decide)) (fun k hk => hk.2) _) (fun k hk => hk.2) _) (fun k hk => hk.2) _) (fun k hk => hk.2) _) (fun _ _ => trivial), (((HS2.out.bel.setCell (p := ⟨w.heap.size + 1 + 1, 0, none⟩) (by show w.heap.size ≤ w.heap.size + 1 + 1; omega) _).setCell (p := ⟨w.heap.size + 1 + 1, 1, none⟩) (by show w.heap.size ≤ w.heap.size + 1 + 1; omega) _).setCell (p := ⟨w.heap.size + 1 + 1, 2, none⟩) (by show w.heap.size ≤ w.heap.size + 1 + 1; omega) _).setCell (p := ⟨w.heap.size + 1 + 1, 3, none⟩) (by show w.heap.size ≤ w.heap.size + 1 + 1; omega) _⟩
    | false =>
      have HF1 := Aside0.mk hf1
      cases hf2 : fallsB b e with
      | true =>
        have hok : okB l0 a b c l1 d e f = false := by unfold okB; rw [hRB, hf1, hf2]; simp
        have HF2 := Aside0.mk hf2
        clear hRB hf1 hf2
        go_wp2_with (first
      | (go_at_call 57; refine (clone_calls A0 c0 l0 _ (Kd.C_below HR0.out (show Below w.heap.size w _ by rw [← HW0.out]; exact HB0.out)) HC0.out (by have := HL.out; omega)).mono ?_; rintro e_ w1 ⟨v1, rfl, hv1, hd1⟩; rw [← HW0.out] at hv1 hd1; clear hz0; have hv2 := Kd.R_lower hv1 HB0.out.size; obtain ⟨A1, c1, e1⟩ := Kd.R_slice hv2; subst e1; have hbx := (hd1.block _ (blk_lt HBV.out)).trans HBV.out; have hbe := (hd1.block _ (blk_lt HBE.out)).trans HBE.out; have hx0 := (blk_cell hbx 0).trans rfl; have hf0 := blk_frozen hbx 0; have hy0 := (blk_cell hbe 0).trans rfl; have hy1 := (blk_cell hbe 1).trans rfl; have hy2 := (blk_cell hbe 2).trans rfl; have hy3 := (blk_cell hbe 3).trans rfl; have HST := Aside0.mk (ast_one HB0.out hd1 HBV.out HBE.out HBR.out hv2 trivial); clear hv1 hv2 hd1 hbx hbe)
      | (go_at_call 33; refine (right_calls Ae ce l1 d e f _ (Kd.C_below HR1.out HST.out.bel) HC1.out HW.out).mono ?_; rw [HRB.out]; rintro e_ w2 ⟨rfl, hd2⟩; have hst2 := HST.out.below hd2; clear hx0 hf0 hy0 hy1 hy2 hy3; have hx0 := (blk_cell hst2.vbx 0).trans rfl; have hx1 := (blk_cell hst2.vbx 1).trans rfl; have hx2 := (blk_cell hst2.vbx 2).trans rfl; have hx3 := (blk_cell hst2.vbx 3).trans rfl; have hy0 := (blk_cell hst2.ebx 0).trans rfl; have hy1 := (blk_cell hst2.ebx 1).trans rfl; have hy2 := (blk_cell hst2.ebx 2).trans rfl; have hy3 := (blk_cell hst2.ebx 3).trans rfl; have hr0 := (blk_cell hst2.rbx 0).trans rfl; have hr1 := (blk_cell hst2.rbx 1).trans rfl; have hr2 := (blk_cell hst2.rbx 2).trans rfl; have hr3 := (blk_cell hst2.rbx 3).trans rfl; have hq0 := blk_frozen hst2.rbx 0; have hq1 := blk_frozen hst2.rbx 1; have hq2 := blk_frozen hst2.rbx 2; have hq3 := blk_frozen hst2.rbx 3; have hv0 := blk_frozen hst2.vbx 0; have hv1 := blk_frozen hst2.vbx 1; have hv2 := blk_frozen hst2.vbx 2; have hv3 := blk_frozen hst2.vbx 3; have HS2 := Aside0.mk hst2; clear hd2 hst2)
      | (go_at_call 58; (with_reducible refine (falls_calls a d _).mono ?_); rw [HF1.out]; rintro e_ w3 ⟨rfl, rfl⟩)
      | (go_at_call 58; (with_reducible refine (falls_calls b e _).mono ?_); rw [HF2.out]; rintro e_ w3 ⟨rfl, rfl⟩))
        refine bodyPost_ret (results_ct rfl _ _ (w.heap.size + 1 + 1) 57 #[.slice A1 l0.length c1, .int .u64 a, .int .u64 b, .int .u64 c] (0, 0) _ rfl (blk_put (cs' := #[.slice A1 l0.length c1, .int .u64 a, .int .u64 b, .int .u64 c]) (blk_put (cs' := #[.slice A1 l0.length c1, .int .u64 a, .int .u64 b, .int .u64 0]) (blk_put (cs' := #[.slice A1 l0.length c1, .int .u64 a, .int .u64 0, .int .u64 0]) (blk_put (cs' := #[.slice A1 l0.length c1, .int .u64 0, .int .u64 0, .int .u64 0]) HS2.out.rbx 0 _ rfl) 1 _ rfl) 2 _ rfl) 3 _ rfl) huv rfl (by kernel_rfl)) rfl ?_
        exact ⟨_, rfl, Kd.R_mono (Kd.R_far (p := ⟨w.heap.size + 1 + 1, 3, none⟩) (Kd.R_far (p := ⟨w.heap.size + 1 + 1, 2, none⟩) (Kd.R_far (p := ⟨w.heap.size + 1 + 1, 1, none⟩) (Kd.R_far (p := ⟨w.heap.size + 1 + 1, 0, none⟩) (Kd.R_types HS2.out.row HS2.out.rbx (by decide)) (fun k hk => hk.2) _) (fun k hk => hk.2) _) (fun k hk => hk.2) _) (fun k hk => hk.2) _) (fun _ _ => trivial), (((HS2.out.bel.setCell (p := ⟨w.heap.size + 1 + 1, 0, none⟩) (by show w.heap.size ≤ w.heap.size + 1 + 1; omega) _).setCell (p := ⟨w.heap.size + 1 + 1, 1, none⟩) (by show w.heap.size ≤ w.heap.size + 1 + 1; omega) _).setCell (p := ⟨w.heap.size + 1 + 1, 2, none⟩) (by show w.heap.size ≤ w.heap.size + 1 + 1; omega) _).setCell (p := ⟨w.heap.size + 1 + 1, 3, none⟩) (by show w.heap.size ≤ w.heap.size + 1 + 1; omega) _⟩
      | false =>
        have HF2 := Aside0.mk hf2
        cases hf3 : fallsB c f with
        | true =>
          have hok : okB l0 a b c l1 d e f = false := by unfold okB; rw [hRB, hf1, hf2, hf3]; simp
          have HF3 := Aside0.mk hf3
          clear hRB hf1 hf2 hf3
          go_wp2_with (first
      | (go_at_call 57; refine (clone_calls A0 c0 l0 _ (Kd.C_below HR0.out (show Below w.heap.size w _ by rw [← HW0.out]; exact HB0.out)) HC0.out (by have := HL.out; omega)).mono ?_; rintro e_ w1 ⟨v1, rfl, hv1, hd1⟩; rw [← HW0.out] at hv1 hd1; clear hz0; have hv2 := Kd.R_lower hv1 HB0.out.size; obtain ⟨A1, c1, e1⟩ := Kd.R_slice hv2; subst e1; have hbx := (hd1.block _ (blk_lt HBV.out)).trans HBV.out; have hbe := (hd1.block _ (blk_lt HBE.out)).trans HBE.out; have hx0 := (blk_cell hbx 0).trans rfl; have hf0 := blk_frozen hbx 0; have hy0 := (blk_cell hbe 0).trans rfl; have hy1 := (blk_cell hbe 1).trans rfl; have hy2 := (blk_cell hbe 2).trans rfl; have hy3 := (blk_cell hbe 3).trans rfl; have HST := Aside0.mk (ast_one HB0.out hd1 HBV.out HBE.out HBR.out hv2 trivial); clear hv1 hv2 hd1 hbx hbe)
      | (go_at_call 33; refine (right_calls Ae ce l1 d e f _ (Kd.C_below HR1.out HST.out.bel) HC1.out HW.out).mono ?_; rw [HRB.out]; rintro e_ w2 ⟨rfl, hd2⟩; have hst2 := HST.out.below hd2; clear hx0 hf0 hy0 hy1 hy2 hy3; have hx0 := (blk_cell hst2.vbx 0).trans rfl; have hx1 := (blk_cell hst2.vbx 1).trans rfl; have hx2 := (blk_cell hst2.vbx 2).trans rfl; have hx3 := (blk_cell hst2.vbx 3).trans rfl; have hy0 := (blk_cell hst2.ebx 0).trans rfl; have hy1 := (blk_cell hst2.ebx 1).trans rfl; have hy2 := (blk_cell hst2.ebx 2).trans rfl; have hy3 := (blk_cell hst2.ebx 3).trans rfl; have hr0 := (blk_cell hst2.rbx 0).trans rfl; have hr1 := (blk_cell hst2.rbx 1).trans rfl; have hr2 := (blk_cell hst2.rbx 2).trans rfl; have hr3 := (blk_cell hst2.rbx 3).trans rfl; have hq0 := blk_frozen hst2.rbx 0; have hq1 := blk_frozen hst2.rbx 1; have hq2 := blk_frozen hst2.rbx 2; have hq3 := blk_frozen hst2.rbx 3; have hv0 := blk_frozen hst2.vbx 0; have hv1 := blk_frozen hst2.vbx 1; have hv2 := blk_frozen hst2.vbx 2; have hv3 := blk_frozen hst2.vbx 3; have HS2 := Aside0.mk hst2; clear hd2 hst2)
      | (go_at_call 58; (with_reducible refine (falls_calls a d _).mono ?_); rw [HF1.out]; rintro e_ w3 ⟨rfl, rfl⟩)
      | (go_at_call 58; (with_reducible refine (falls_calls b e _).mono ?_); rw [HF2.out]; rintro e_ w3 ⟨rfl, rfl⟩)
      | (go_at_call 58; (with_reducible refine (falls_calls c f _).mono ?_); rw [HF3.out]; rintro e_ w3 ⟨rfl, rfl⟩))
          refine bodyPost_ret (results_ct rfl _ _ (w.heap.size + 1 + 1) 57 #[.slice A1 l0.length c1, .int .u64 a, .int .u64 b, .int .u64 c] (0, 0) _ rfl (blk_put (cs' := #[.slice A1 l0.length c1, .int .u64 a, .int .u64 b, .int .u64 c]) (blk_put (cs' := #[.slice A1 l0.length c1, .int .u64 a, .int .u64 b, .int .u64 0]) (blk_put (cs' := #[.slice A1 l0.length c1, .int .u64 a, .int .u64 0, .int .u64 0]) (blk_put (cs' := #[.slice A1 l0.length c1, .int .u64 0, .int .u64 0, .int .u64 0]) HS2.out.rbx 0 _ rfl) 1 _ rfl) 2 _ rfl) 3 _ rfl) huv rfl (by kernel_rfl)) rfl ?_
          exact ⟨_, rfl, Kd.R_mono (Kd.R_far (p := ⟨w.heap.size + 1 + 1, 3, none⟩) (Kd.R_far (p := ⟨w.heap.size + 1 + 1, 2, none⟩) (Kd.R_far (p := ⟨w.heap.size + 1 + 1, 1, none⟩) (Kd.R_far (p := ⟨w.heap.size + 1 + 1, 0, none⟩) (Kd.R_types HS2.out.row HS2.out.rbx (by decide)) (fun k hk => hk.2) _) (fun k hk => hk.2) _) (fun k hk => hk.2) _) (fun k hk => hk.2) _) (fun _ _ => trivial), (((HS2.out.bel.setCell (p := ⟨w.heap.size + 1 + 1, 0, none⟩) (by show w.heap.size ≤ w.heap.size + 1 + 1; omega) _).setCell (p := ⟨w.heap.size + 1 + 1, 1, none⟩) (by show w.heap.size ≤ w.heap.size + 1 + 1; omega) _).setCell (p := ⟨w.heap.size + 1 + 1, 2, none⟩) (by show w.heap.size ≤ w.heap.size + 1 + 1; omega) _).setCell (p := ⟨w.heap.size + 1 + 1, 3, none⟩) (by show w.heap.size ≤ w.heap.size + 1 + 1; omega) _⟩
        | false =>
          have HF3 := Aside0.mk hf3
          cases hlow : lowB l0 l1 with
          | true =>
            have hok : okB l0 a b c l1 d e f = false := by unfold okB; rw [hRB, hf1, hf2, hf3, hlow]; simp
            have hnm : 0 < l0.length ∧ 0 < l1.length := by unfold lowB at hlow; simp only [Bool.and_eq_true, decide_eq_true_eq] at hlow; exact hlow.1
            have HLOW := Aside0.mk hlow
            have HNM := Aside0.mk hnm
            clear hRB hf1 hf2 hf3 hlow hnm
            go_wp2_with (first
        | (go_at_call 57; refine (clone_calls A0 c0 l0 _ (Kd.C_below HR0.out (show Below w.heap.size w _ by rw [← HW0.out]; exact HB0.out)) HC0.out (by have := HL.out; omega)).mono ?_; rintro e_ w1 ⟨v1, rfl, hv1, hd1⟩; rw [← HW0.out] at hv1 hd1; clear hz0; have hv2 := Kd.R_lower hv1 HB0.out.size; obtain ⟨A1, c1, e1⟩ := Kd.R_slice hv2; subst e1; have hbx := (hd1.block _ (blk_lt HBV.out)).trans HBV.out; have hbe := (hd1.block _ (blk_lt HBE.out)).trans HBE.out; have hx0 := (blk_cell hbx 0).trans rfl; have hf0 := blk_frozen hbx 0; have hy0 := (blk_cell hbe 0).trans rfl; have hy1 := (blk_cell hbe 1).trans rfl; have hy2 := (blk_cell hbe 2).trans rfl; have hy3 := (blk_cell hbe 3).trans rfl; have HST := Aside0.mk (ast_one HB0.out hd1 HBV.out HBE.out HBR.out hv2 trivial); clear hv1 hv2 hd1 hbx hbe)
        | (go_at_call 33; refine (right_calls Ae ce l1 d e f _ (Kd.C_below HR1.out HST.out.bel) HC1.out HW.out).mono ?_; rw [HRB.out]; rintro e_ w2 ⟨rfl, hd2⟩; have hst2 := HST.out.below hd2; clear hx0 hf0 hy0 hy1 hy2 hy3; have hx0 := (blk_cell hst2.vbx 0).trans rfl; have hx1 := (blk_cell hst2.vbx 1).trans rfl; have hx2 := (blk_cell hst2.vbx 2).trans rfl; have hx3 := (blk_cell hst2.vbx 3).trans rfl; have hy0 := (blk_cell hst2.ebx 0).trans rfl; have hy1 := (blk_cell hst2.ebx 1).trans rfl; have hy2 := (blk_cell hst2.ebx 2).trans rfl; have hy3 := (blk_cell hst2.ebx 3).trans rfl; have hr0 := (blk_cell hst2.rbx 0).trans rfl; have hr1 := (blk_cell hst2.rbx 1).trans rfl; have hr2 := (blk_cell hst2.rbx 2).trans rfl; have hr3 := (blk_cell hst2.rbx 3).trans rfl; have hq0 := blk_frozen hst2.rbx 0; have hq1 := blk_frozen hst2.rbx 1; have hq2 := blk_frozen hst2.rbx 2; have hq3 := blk_frozen hst2.rbx 3; have hv0 := blk_frozen hst2.vbx 0; have hv1 := blk_frozen hst2.vbx 1; have hv2 := blk_frozen hst2.vbx 2; have hv3 := blk_frozen hst2.vbx 3; have HS2 := Aside0.mk hst2; clear hd2 hst2)
        | (go_at_call 58; (with_reducible refine (falls_calls a d _).mono ?_); rw [HF1.out]; rintro e_ w3 ⟨rfl, rfl⟩)
        | (go_at_call 58; (with_reducible refine (falls_calls b e _).mono ?_); rw [HF2.out]; rintro e_ w3 ⟨rfl, rfl⟩)
        | (go_at_call 58; (with_reducible refine (falls_calls c f _).mono ?_); rw [HF3.out]; rintro e_ w3 ⟨rfl, rfl⟩))
            obtain ⟨hn, hm⟩ := HNM.out
            have dn : decide (0 < (l0.length : Int)) = true := decide_eq_true (by omega)
            have dm : decide (0 < (l1.length : Int)) = true := decide_eq_true (by omega)
            have dn' : decide (0 < l0.length) = true := decide_eq_true hn
            have dm' : decide (0 < l1.length) = true := decide_eq_true hm
            obtain ⟨j, hj⟩ : ∃ j : Nat, l0.length = j + 1 := ⟨l0.length - 1, by omega⟩
            obtain ⟨ad1, e1, h1, _⟩ := at_T62 (Kd.C_below HR1.out HS2.out.bel) 0 (Int.le_refl _) (by omega)
            obtain ⟨ad2, e2, h2, _⟩ := at_T62 (Kd.R_reads' HS2.out.row).2.2 (j : Int) (by omega) (by omega)
            have hlow : lowB l0 l1 = decide ((rd_T62 l1 0).f0 ≤ (rd_T62 l0 (j : Int)).f0) := by unfold lowB; rw [dn', dm', show ((l0.length : Int) - 1) = (j : Int) by omega]; rfl
            have dle := HLOW.out
            rw [hlow] at dle
            subst e1
            subst e2
            have h1' : w2.cell? ad1 = some (.int .u64 (rd_T62 l1 0).f0) := by simpa [Addr.add] using h1
            rw [Int.toNat_natCast] at h2
            have hwj : wrap64 ((l0.length : Int) - 1) = (j : Int) := by unfold wrap64; have := HL.out; omega
            have hjl : (j : Int) < (l0.length : Int) := by omega
            have hjl' : j < l0.length := by omega
            have hml : (0 : Int) < (l1.length : Int) := by omega
            generalize (rd_T62 l1 0).f0 = x at *
            generalize (rd_T62 l0 (j : Int)).f0 = y at *
            clear h1 hlow dn' dm' hj HLOW
            have hle := of_decide_eq_true dle
            go_quiet (fail)
            go_wp2
            refine bodyPost_ret (results_ct rfl _ _ (w.heap.size + 1 + 1) 57 #[.slice (some ad2) l0.length c1, .int .u64 a, .int .u64 b, .int .u64 c] (0, 0) _ rfl (blk_put (cs' := #[.slice (some ad2) l0.length c1, .int .u64 a, .int .u64 b, .int .u64 c]) (blk_put (cs' := #[.slice (some ad2) l0.length c1, .int .u64 a, .int .u64 b, .int .u64 0]) (blk_put (cs' := #[.slice (some ad2) l0.length c1, .int .u64 a, .int .u64 0, .int .u64 0]) (blk_put (cs' := #[.slice (some ad2) l0.length c1, .int .u64 0, .int .u64 0, .int .u64 0]) (blk_drewN HS2.out.rbx _) 0 _ rfl) 1 _ rfl) 2 _ rfl) 3 _ rfl) huv rfl (by kernel_rfl)) rfl ?_
            exact ⟨_, rfl, Kd.R_mono (Kd.R_far (p := ⟨w.heap.size + 1 + 1, 3, none⟩) (Kd.R_far (p := ⟨w.heap.size + 1 + 1, 2, none⟩) (Kd.R_far (p := ⟨w.heap.size + 1 + 1, 1, none⟩) (Kd.R_far (p := ⟨w.heap.size + 1 + 1, 0, none⟩) (Kd.R_types (Kd.R_drewN HS2.out.row _) (blk_drewN HS2.out.rbx _) (by decide)) (fun k hk => hk.2) _) (fun k hk => hk.2) _) (fun k hk => hk.2) _) (fun k hk => hk.2) _) (fun _ _ => trivial), ((((pw_below_drewN HS2.out.bel _).setCell (p := ⟨w.heap.size + 1 + 1, 0, none⟩) (by show w.heap.size ≤ w.heap.size + 1 + 1; omega) _).setCell (p := ⟨w.heap.size + 1 + 1, 1, none⟩) (by show w.heap.size ≤ w.heap.size + 1 + 1; omega) _).setCell (p := ⟨w.heap.size + 1 + 1, 2, none⟩) (by show w.heap.size ≤ w.heap.size + 1 + 1; omega) _).setCell (p := ⟨w.heap.size + 1 + 1, 3, none⟩) (by show w.heap.size ≤ w.heap.size + 1 + 1; omega) _⟩
          | false =>
            exfalso
            have hok : okB l0 a b c l1 d e f = true := by unfold okB; rw [hRB, hf1, hf2, hf3, hlow]; rfl
            rw [hok] at hk0
            cases hk0

end Go.Proofs.YtlaihdipagejfaaG

end

section
set_option linter.unusedVariables false
set_option linter.unusedSimpArgs false
namespace Go.Proofs.YtlaihdipagejfaaG
open Go Go.RowKit Go.Proofs.YtlaihdipagejfaaR Go.Proofs.YtlaihdipagejfaaL Go.Proofs.Ytlaihdipagejfaa.P Go.Proofs.YtlaihdipagejfaaW.PrintWords Go.Proofs.YtlaihdipagejfaaW.PrintMore
attribute [local go_sem] Oper.semAt_some max2_int

attribute [local go_sem] max2_int
set_option maxRecDepth 100000 in
set_option maxHeartbeats 8000000 in
theorem apply_ok_a (A0 : Option Addr) (c0 : Nat) (l0 : List MetaS) (a b c : Int) (Ae : Option Addr) (ce : Nat) (l1 : List MetaS) (d e f : Int) (w : World) (hr0 : Kd.C k62 w A0 l0.length l0) (hc0 : l0.length ≤ c0) (hr1 : Kd.C k62 w Ae l1.length l1) (hc1 : l1.length ≤ ce) (hw : WfE l1 d e f) (hl : l0.length + 64 < 2932031007402) (hk0 : okB l0 a b c l1 d e f = true) (x9 y9 z9 : Int) (hx9 : mx a d = x9) (hy9 : mx b e = y9) (hz9 : mx c f = z9) (hn : 0 < l0.length) (hm : 0 < l1.length) :
    Calls Try.prog 32 #[.agg #[.slice A0 l0.length c0, .int .u64 a, .int .u64 b, .int .u64 c], .agg #[.slice Ae l1.length ce, .int .u64 d, .int .u64 e, .int .u64 f]] w fun e_ w' => ∃ v0_ : Value, e_ = .returned (.tuple #[.agg #[v0_, .int .u64 x9, .int .u64 y9, .int .u64 z9], .int .i64 0]) ∧ Kd.R k62 62 w' w.heap.size (fun _ => True) v0_ (l0 ++ l1) ∧ Below w.heap.size w w' := by
  have hall : rightB l1 d e f = true ∧ fallsB a d = false ∧ fallsB b e = false ∧ fallsB c f = false ∧ lowB l0 l1 = false := by
    unfold okB at hk0
    simp only [Bool.and_eq_true, Bool.not_eq_true'] at hk0
    exact ⟨hk0.1.1.1.1, hk0.1.1.1.2, hk0.1.1.2, hk0.1.2, hk0.2⟩
  have HX9 := Aside0.mk hx9
  have HY9 := Aside0.mk hy9
  have HZ9 := Aside0.mk hz9
  clear hx9 hy9 hz9
  have HRB := Aside0.mk hall.1
  have HF1 := Aside0.mk hall.2.1
  have HF2 := Aside0.mk hall.2.2.1
  have HF3 := Aside0.mk hall.2.2.2.1
  have HLOW := Aside0.mk hall.2.2.2.2
  clear hall hk0
  have HR0 := Aside0.mk hr0
  have HC0 := Aside0.mk hc0
  have HR1 := Aside0.mk hr1
  have HC1 := Aside0.mk hc1
  have HW := Aside0.mk hw
  have HL := Aside0.mk hl
  have hue := Try.underlying54
  have huv := Try.underlying57
  have hum := Try.underlying62
  obtain ⟨W0, hW0⟩ : ∃ W, W = ((w.alloc (vBx (.slice A0 l0.length c0) a b c)).alloc (eBx' Ae l1.length ce d e f)).alloc (vBx (.slice none 0 0) 0 0 0) := ⟨_, rfl⟩
  have hB0 : Below w.heap.size w W0 := by rw [hW0]; exact below_alloc (below_alloc (below_alloc (Below.refl _ _) _) _) _
  have hs0 : W0.heap.size = w.heap.size + 3 := by rw [hW0]; simp
  have hbv : W0.heap[w.heap.size]? = some (vBx (.slice A0 l0.length c0) a b c) := by
    rw [hW0]
    exact (Below.heap_alloc _ _ _ (by simp; omega)).trans ((Below.heap_alloc _ _ _ (by simp)).trans (World.alloc_heap_new w _))
  have hbe : W0.heap[w.heap.size + 1]? = some (eBx' Ae l1.length ce d e f) := by
    have h7 := World.alloc_heap_new (w.alloc (vBx (.slice A0 l0.length c0) a b c)) (eBx' Ae l1.length ce d e f)
    rw [World.size_alloc] at h7
    rw [hW0]
    exact (Below.heap_alloc _ _ _ (by simp)).trans h7
  have hbr : W0.heap[w.heap.size + 1 + 1]? = some (vBx (.slice none 0 0) 0 0 0) := by
    have h7 := World.alloc_heap_new ((w.alloc (vBx (.slice A0 l0.length c0) a b c)).alloc (eBx' Ae l1.length ce d e f)) (vBx (.slice none 0 0) 0 0 0)
    rw [World.size_alloc, World.size_alloc] at h7
    rw [hW0]
    exact h7
  have HW0 := Aside0.mk hW0
  have HB0 := Aside0.mk hB0
  have HS0 := Aside0.mk hs0
  have HBV := Aside0.mk hbv
  have HBE := Aside0.mk hbe
  have HBR := Aside0.mk hbr
  have hz0 : W0.cell? ⟨w.heap.size, 0, none⟩ = some (.slice A0 l0.length c0) := (blk_cell hbv 0).trans rfl
  rw [hW0] at hz0
  clear hr0 hc0 hr1 hc1 hw hl hW0 hB0 hs0 hbv hbe hbr
  go_enter Try.func32, Try.ntmps32
  go_wp2_with (first
        | (go_at_call 57; refine (clone_calls A0 c0 l0 _ (Kd.C_below HR0.out (show Below w.heap.size w _ by rw [← HW0.out]; exact HB0.out)) HC0.out (by have := HL.out; omega)).mono ?_; rintro e_ w1 ⟨v1, rfl, hv1, hd1⟩; rw [← HW0.out] at hv1 hd1; clear hz0; have hv2 := Kd.R_lower hv1 HB0.out.size; obtain ⟨A1, c1, e1⟩ := Kd.R_slice hv2; subst e1; have hbx := (hd1.block _ (blk_lt HBV.out)).trans HBV.out; have hbe := (hd1.block _ (blk_lt HBE.out)).trans HBE.out; have hx0 := (blk_cell hbx 0).trans rfl; have hf0 := blk_frozen hbx 0; have hy0 := (blk_cell hbe 0).trans rfl; have hy1 := (blk_cell hbe 1).trans rfl; have hy2 := (blk_cell hbe 2).trans rfl; have hy3 := (blk_cell hbe 3).trans rfl; have HST := Aside0.mk (ast_one HB0.out hd1 HBV.out HBE.out HBR.out hv2 trivial); clear hv1 hv2 hd1 hbx hbe)
        | (go_at_call 33; refine (right_calls Ae ce l1 d e f _ (Kd.C_below HR1.out HST.out.bel) HC1.out HW.out).mono ?_; rw [HRB.out]; rintro e_ w2 ⟨rfl, hd2⟩; have hst2 := HST.out.below hd2; clear hx0 hf0 hy0 hy1 hy2 hy3; have hx0 := (blk_cell hst2.vbx 0).trans rfl; have hx1 := (blk_cell hst2.vbx 1).trans rfl; have hx2 := (blk_cell hst2.vbx 2).trans rfl; have hx3 := (blk_cell hst2.vbx 3).trans rfl; have hy0 := (blk_cell hst2.ebx 0).trans rfl; have hy1 := (blk_cell hst2.ebx 1).trans rfl; have hy2 := (blk_cell hst2.ebx 2).trans rfl; have hy3 := (blk_cell hst2.ebx 3).trans rfl; have hr0 := (blk_cell hst2.rbx 0).trans rfl; have hr1 := (blk_cell hst2.rbx 1).trans rfl; have hr2 := (blk_cell hst2.rbx 2).trans rfl; have hr3 := (blk_cell hst2.rbx 3).trans rfl; have hq0 := blk_frozen hst2.rbx 0; have hq1 := blk_frozen hst2.rbx 1; have hq2 := blk_frozen hst2.rbx 2; have hq3 := blk_frozen hst2.rbx 3; have hv0 := blk_frozen hst2.vbx 0; have hv1 := blk_frozen hst2.vbx 1; have hv2 := blk_frozen hst2.vbx 2; have hv3 := blk_frozen hst2.vbx 3; have HS2 := Aside0.mk hst2; clear hd2 hst2)
        | (go_at_call 58; (with_reducible refine (falls_calls a d _).mono ?_); rw [HF1.out]; rintro e_ w3 ⟨rfl, rfl⟩)
        | (go_at_call 58; (with_reducible refine (falls_calls b e _).mono ?_); rw [HF2.out]; rintro e_ w3 ⟨rfl, rfl⟩)
        | (go_at_call 58; (with_reducible refine (falls_calls c f _).mono ?_); rw [HF3.out]; rintro e_ w3 ⟨rfl, rfl⟩))
  have dn : decide (0 < (l0.length : Int)) = true := decide_eq_true (by omega)
  have dm : decide (0 < (l1.length : Int)) = true := decide_eq_true (by omega)
  have dn' : decide (0 < l0.length) = true := decide_eq_true hn
  have dm' : decide (0 < l1.length) = true := decide_eq_true hm
  obtain ⟨j, hj⟩ : ∃ j : Nat, l0.length = j + 1 := ⟨l0.length - 1, by omega⟩
  obtain ⟨ad1, e1, h1, _⟩ := at_T62 (Kd.C_below HR1.out HS2.out.bel) 0 (Int.le_refl _) (by omega)
  obtain ⟨ad2, e2, h2, _⟩ := at_T62 (Kd.R_reads' HS2.out.row).2.2 (j : Int) (by omega) (by omega)
  have hlow : lowB l0 l1 = decide ((rd_T62 l1 0).f0 ≤ (rd_T62 l0 (j : Int)).f0) := by unfold lowB; rw [dn', dm', show ((l0.length : Int) - 1) = (j : Int) by omega]; rfl
  have dle := HLOW.out
  rw [hlow] at dle
  subst e1
  subst e2
  have h1' : w2.cell? ad1 = some (.int .u64 (rd_T62 l1 0).f0) := by simpa [Addr.add] using h1
  rw [Int.toNat_natCast] at h2
  have hwj : wrap64 ((l0.length : Int) - 1) = (j : Int) := by unfold wrap64; have := HL.out; omega
  have hjl : (j : Int) < (l0.length : Int) := by omega
  have hjl' : j < l0.length := by omega
  have hml : (0 : Int) < (l1.length : Int) := by omega
  generalize (rd_T62 l1 0).f0 = x at *
  generalize (rd_T62 l0 (j : Int)).f0 = y at *
  clear h1 hlow dn' dm' hj HLOW
  have hle := of_decide_eq_false dle
  go_quiet (fail)
  go_wp2_with ((with_reducible refine gate_builtin (b := .append) (xs := #[.tmp 68, .tmp 70]) rfl ?_); at_builtin; refine Kd.R_append_rows k62 (w0 := w) w.heap.size rfl (.tmp 68) (.tmp 70) 52 62 (.agg #[.int .u64 0, .int .u64 0, .string ⟨#[]⟩, .string ⟨#[]⟩]) 48 rfl Try.underlying52 info62 rfl (by decide) (by decide) (.slice (some ad2) l0.length c1) l0 l1 _ _ _ (fun _ => True) (fun _ => False) rfl rfl ?aO ?aR (fun _ _ h => h) (fun _ h => h.elim) ?aF ?aB ?aS ?aL ?_; (case aO => exact Kd.R_drewN HS2.out.row _); (case aR => exact Kd.C_below HR1.out (pw_below_drewN HS2.out.bel _)); (case aF => exact (fun _ _ => trivial)); (case aB => exact pw_below_drewN HS2.out.bel _); (case aS => exact HS2.out.bel.size); (case aL => have h5 := HL.out; have h6 := (right_fit' HRB.out).1; omega); intro v5 w5 ho hb hg hat; clear hx0 hx1 hx2 hx3 hy0 hy1 hy2 hy3 hr0 hr1 hr2 hr3 hq0 hq1 hq2 hq3 hv0 hv1 hv2 hv3; obtain ⟨A5, c5, e5⟩ := Kd.R_slice ho; generalize hN : (l0 ++ l1).length = n5 at e5; subst e5; have HO5 := Aside0.mk ho; have HN5 := Aside0.mk hN; have hs5 := ast_grown HS2.out hg HS2.out.ne; have HB5 := Aside0.mk hb; have HS5 := Aside0.mk hs5; have hx0 := (blk_cell hs5.1 0).trans rfl; have hx1 := (blk_cell hs5.1 1).trans rfl; have hx2 := (blk_cell hs5.1 2).trans rfl; have hx3 := (blk_cell hs5.1 3).trans rfl; have hy1 := (blk_cell hs5.2.1 1).trans rfl; have hy2 := (blk_cell hs5.2.1 2).trans rfl; have hy3 := (blk_cell hs5.2.1 3).trans rfl; have hr0 := (blk_cell hs5.2.2 0).trans rfl; have hr1 := (blk_cell hs5.2.2 1).trans rfl; have hr2 := (blk_cell hs5.2.2 2).trans rfl; have hr3 := (blk_cell hs5.2.2 3).trans rfl; have hq0 := blk_frozen hs5.2.2 0; have hq1 := blk_frozen hs5.2.2 1; have hq2 := blk_frozen hs5.2.2 2; have hq3 := blk_frozen hs5.2.2 3; have hv0 := blk_frozen hs5.1 0; have hv1 := blk_frozen hs5.1 1; have hv2 := blk_frozen hs5.1 2; have hv3 := blk_frozen hs5.1 3; clear ho hb hg hat hN hs5)
  obtain ⟨W5, hW5⟩ : ∃ W, W = w5.setCell ⟨w.heap.size, 0, none⟩ (.slice A5 n5 c5) := ⟨_, rfl⟩
  rw [show w5.setCell ⟨w.heap.size, 0, none⟩ (.slice A5 n5 c5) = W5 from hW5.symm]
  have hs6 : ASt w (.slice A5 n5 c5) (l0 ++ l1) a b c (some ad1) l1 ce d e f W5 := by rw [hW5]; exact ast_put HS5.out HO5.out HB5.out
  have HS6 := Aside0.mk hs6
  clear hx0 hx1 hx2 hx3 hy1 hy2 hy3 hr0 hr1 hr2 hr3 hq0 hq1 hq2 hq3 hv0 hv1 hv2 hv3
  have hx1 := (blk_cell hs6.vbx 1).trans rfl
  have hx2 := (blk_cell hs6.vbx 2).trans rfl
  have hx3 := (blk_cell hs6.vbx 3).trans rfl
  have hy1 := (blk_cell hs6.ebx 1).trans rfl
  have hy2 := (blk_cell hs6.ebx 2).trans rfl
  have hy3 := (blk_cell hs6.ebx 3).trans rfl
  have hv1 := blk_frozen hs6.vbx 1
  have hv2 := blk_frozen hs6.vbx 2
  have hv3 := blk_frozen hs6.vbx 3
  clear hs6 hW5
  obtain ⟨K9, hK9⟩ : ∃ K : Act → World → Prop, K = fun (a' : Act) (w' : World) => (a'.tmps.size = 92 ∧ a'.defers = [] ∧ a'.tmps.getD 2 undef = .pointer (some ⟨w.heap.size, 0, none⟩) ∧ a'.tmps.getD 3 undef = .pointer (some ⟨w.heap.size + 1, 0, none⟩) ∧ a'.tmps.getD 4 undef = .pointer (some ⟨w.heap.size + 1 + 1, 0, none⟩)) ∧ ASt w (.slice A5 n5 c5) (l0 ++ l1) x9 y9 z9 (some ad1) l1 ce d e f w' := ⟨_, rfl⟩
  have HK9 := Aside0.mk hK9
  have HKI : Aside0 (∀ (a' : Act) (w' : World), (a'.tmps.size = 92 ∧ a'.defers = [] ∧ a'.tmps.getD 2 undef = .pointer (some ⟨w.heap.size, 0, none⟩) ∧ a'.tmps.getD 3 undef = .pointer (some ⟨w.heap.size + 1, 0, none⟩) ∧ a'.tmps.getD 4 undef = .pointer (some ⟨w.heap.size + 1 + 1, 0, none⟩)) → ASt w (.slice A5 n5 c5) (l0 ++ l1) x9 y9 z9 (some ad1) l1 ce d e f w' → K9 a' w') := ⟨fun a' w' h1 h2 => by rw [hK9]; exact ⟨h1, h2⟩⟩
  clear hK9
  refine Code.wp_mono (Q := Exit.then K9 (fun _ _ _ => False)) ?hq ?hw
  case hw =>
    have HS8 := Aside0.mk (ast_nums9 HX9.out HY9.out HZ9.out HS6.out)
    go_region
    exact HKI.out _ _ ⟨rfl, rfl, rfl, rfl, rfl⟩ HS8.out
  case hq =>
    intro e' a' w' hR
    cases e'
    case normal =>
      have hR : K9 a' w' := hR
      rw [HK9.out] at hR
      obtain ⟨⟨h1, h2, h3, h4, h5⟩, hs8⟩ := hR
      obtain ⟨u, hu, hk⟩ := to_fun a' h1 h2
      rw [(hk 2).trans h3, (hk 3).trans h4, (hk 4).trans h5] at hu
      clear h1 h2 h3 h4 h5 hk
      subst hu
      clear hx1 hx2 hx3 hy1 hy2 hy3 hv1 hv2 hv3
      have hx0 := (blk_cell hs8.vbx 0).trans rfl
      have hx1 := (blk_cell hs8.vbx 1).trans rfl
      have hx2 := (blk_cell hs8.vbx 2).trans rfl
      have hx3 := (blk_cell hs8.vbx 3).trans rfl
      have hr0 := (blk_cell hs8.rbx 0).trans rfl
      have hr1 := (blk_cell hs8.rbx 1).trans rfl
      have hr2 := (blk_cell hs8.rbx 2).trans rfl
      have hr3 := (blk_cell hs8.rbx 3).trans rfl
      have hq0 := blk_frozen hs8.rbx 0
      have hq1 := blk_frozen hs8.rbx 1
      have hq2 := blk_frozen hs8.rbx 2
      have hq3 := blk_frozen hs8.rbx 3
      have HS8 := Aside0.mk hs8
      clear hs8
      go_wp2
      refine bodyPost_ret (results_ct rfl _ _ (w.heap.size + 1 + 1) 57 #[.slice A5 n5 c5, .int .u64 x9, .int .u64 y9, .int .u64 z9] (0, 0) _ rfl (blk_put (cs' := #[.slice A5 n5 c5, .int .u64 x9, .int .u64 y9, .int .u64 z9]) (blk_put (cs' := #[.slice A5 n5 c5, .int .u64 x9, .int .u64 y9, .int .u64 0]) (blk_put (cs' := #[.slice A5 n5 c5, .int .u64 x9, .int .u64 0, .int .u64 0]) (blk_put (cs' := #[.slice A5 n5 c5, .int .u64 0, .int .u64 0, .int .u64 0]) HS8.out.rbx 0 _ rfl) 1 _ rfl) 2 _ rfl) 3 _ rfl) huv rfl (by kernel_rfl)) rfl ?_
      exact ⟨_, rfl, Kd.R_mono (Kd.R_far (p := ⟨w.heap.size + 1 + 1, 3, none⟩) (Kd.R_far (p := ⟨w.heap.size + 1 + 1, 2, none⟩) (Kd.R_far (p := ⟨w.heap.size + 1 + 1, 1, none⟩) (Kd.R_far (p := ⟨w.heap.size + 1 + 1, 0, none⟩) (Kd.R_types HS8.out.row HS8.out.rbx (by decide)) (fun k hk => hk.2) _) (fun k hk => hk.2) _) (fun k hk => hk.2) _) (fun k hk => hk.2) _) (fun _ _ => trivial), (((HS8.out.bel.setCell (p := ⟨w.heap.size + 1 + 1, 0, none⟩) (by show w.heap.size ≤ w.heap.size + 1 + 1; omega) _).setCell (p := ⟨w.heap.size + 1 + 1, 1, none⟩) (by show w.heap.size ≤ w.heap.size + 1 + 1; omega) _).setCell (p := ⟨w.heap.size + 1 + 1, 2, none⟩) (by show w.heap.size ≤ w.heap.size + 1 + 1; omega) _).setCell (p := ⟨w.heap.size + 1 + 1, 3, none⟩) (by show w.heap.size ≤ w.heap.size + 1 + 1; omega) _⟩
    all_goals exact False.elim hR

end Go.Proofs.YtlaihdipagejfaaG

end

section
set_option linter.unusedVariables false
set_option linter.unusedSimpArgs false
namespace Go.Proofs.YtlaihdipagejfaaG
open Go Go.RowKit Go.Proofs.YtlaihdipagejfaaR Go.Proofs.YtlaihdipagejfaaL Go.Proofs.Ytlaihdipagejfaa.P Go.Proofs.YtlaihdipagejfaaW.PrintWords Go.Proofs.YtlaihdipagejfaaW.PrintMore
attribute [local go_sem] Oper.semAt_some max2_int

attribute [local go_sem] max2_int
set_option maxRecDepth 100000 in
set_option maxHeartbeats 8000000 in
theorem apply_ok_b (A0 : Option Addr) (c0 : Nat) (l0 : List MetaS) (a b c : Int) (Ae : Option Addr) (ce : Nat) (l1 : List MetaS) (d e f : Int) (w : World) (hr0 : Kd.C k62 w A0 l0.length l0) (hc0 : l0.length ≤ c0) (hr1 : Kd.C k62 w Ae l1.length l1) (hc1 : l1.length ≤ ce) (hw : WfE l1 d e f) (hl : l0.length + 64 < 2932031007402) (hk0 : okB l0 a b c l1 d e f = true) (x9 y9 z9 : Int) (hx9 : mx a d = x9) (hy9 : mx b e = y9) (hz9 : mx c f = z9) (hn : 0 < l0.length) (hm : ¬ 0 < l1.length) :
    Calls Try.prog 32 #[.agg #[.slice A0 l0.length c0, .int .u64 a, .int .u64 b, .int .u64 c], .agg #[.slice Ae l1.length ce, .int .u64 d, .int .u64 e, .int .u64 f]] w fun e_ w' => ∃ v0_ : Value, e_ = .returned (.tuple #[.agg #[v0_, .int .u64 x9, .int .u64 y9, .int .u64 z9], .int .i64 0]) ∧ Kd.R k62 62 w' w.heap.size (fun _ => True) v0_ (l0 ++ l1) ∧ Below w.heap.size w w' := by
  have hall : rightB l1 d e f = true ∧ fallsB a d = false ∧ fallsB b e = false ∧ fallsB c f = false ∧ lowB l0 l1 = false := by
    unfold okB at hk0
    simp only [Bool.and_eq_true, Bool.not_eq_true'] at hk0
    exact ⟨hk0.1.1.1.1, hk0.1.1.1.2, hk0.1.1.2, hk0.1.2, hk0.2⟩
  have HX9 := Aside0.mk hx9
  have HY9 := Aside0.mk hy9
  have HZ9 := Aside0.mk hz9
  clear hx9 hy9 hz9
  have HRB := Aside0.mk hall.1
  have HF1 := Aside0.mk hall.2.1
  have HF2 := Aside0.mk hall.2.2.1
  have HF3 := Aside0.mk hall.2.2.2.1
  have HLOW := Aside0.mk hall.2.2.2.2
  clear hall hk0
  have HR0 := Aside0.mk hr0
  have HC0 := Aside0.mk hc0
  have HR1 := Aside0.mk hr1
  have HC1 := Aside0.mk hc1
  have HW := Aside0.mk hw
  have HL := Aside0.mk hl
  have hue := Try.underlying54
  have huv := Try.underlying57
  have hum := Try.underlying62
  obtain ⟨W0, hW0⟩ : ∃ W, W = ((w.alloc (vBx (.slice A0 l0.length c0) a b c)).alloc (eBx' Ae l1.length ce d e f)).alloc (vBx (.slice none 0 0) 0 0 0) := ⟨_, rfl⟩
  have hB0 : Below w.heap.size w W0 := by rw [hW0]; exact below_alloc (below_alloc (below_alloc (Below.refl _ _) _) _) _
  have hs0 : W0.heap.size = w.heap.size + 3 := by rw [hW0]; simp
  have hbv : W0.heap[w.heap.size]? = some (vBx (.slice A0 l0.length c0) a b c) := by
    rw [hW0]
    exact (Below.heap_alloc _ _ _ (by simp; omega)).trans ((Below.heap_alloc _ _ _ (by simp)).trans (World.alloc_heap_new w _))
  have hbe : W0.heap[w.heap.size + 1]? = some (eBx' Ae l1.length ce d e f) := by
    have h7 := World.alloc_heap_new (w.alloc (vBx (.slice A0 l0.length c0) a b c)) (eBx' Ae l1.length ce d e f)
    rw [World.size_alloc] at h7
    rw [hW0]
    exact (Below.heap_alloc _ _ _ (by simp)).trans h7
  have hbr : W0.heap[w.heap.size + 1 + 1]? = some (vBx (.slice none 0 0) 0 0 0) := by
    have h7 := World.alloc_heap_new ((w.alloc (vBx (.slice A0 l0.length c0) a b c)).alloc (eBx' Ae l1.length ce d e f)) (vBx (.slice none 0 0) 0 0 0)
    rw [World.size_alloc, World.size_alloc] at h7
    rw [hW0]
    exact h7
  have HW0 := Aside0.mk hW0
  have HB0 := Aside0.mk hB0
  have HS0 := Aside0.mk hs0
  have HBV := Aside0.mk hbv
  have HBE := Aside0.mk hbe
  have HBR := Aside0.mk hbr
  have hz0 : W0.cell? ⟨w.heap.size, 0, none⟩ = some (.slice A0 l0.length c0) := (blk_cell hbv 0).trans rfl
  rw [hW0] at hz0
  clear hr0 hc0 hr1 hc1 hw hl hW0 hB0 hs0 hbv hbe hbr
  go_enter Try.func32, Try.ntmps32
  go_wp2_with (first
        | (go_at_call 57; refine (clone_calls A0 c0 l0 _ (Kd.C_below HR0.out (show Below w.heap.size w _ by rw [← HW0.out]; exact HB0.out)) HC0.out (by have := HL.out; omega)).mono ?_; rintro e_ w1 ⟨v1, rfl, hv1, hd1⟩; rw [← HW0.out] at hv1 hd1; clear hz0; have hv2 := Kd.R_lower hv1 HB0.out.size; obtain ⟨A1, c1, e1⟩ := Kd.R_slice hv2; subst e1; have hbx := (hd1.block _ (blk_lt HBV.out)).trans HBV.out; have hbe := (hd1.block _ (blk_lt HBE.out)).trans HBE.out; have hx0 := (blk_cell hbx 0).trans rfl; have hf0 := blk_frozen hbx 0; have hy0 := (blk_cell hbe 0).trans rfl; have hy1 := (blk_cell hbe 1).trans rfl; have hy2 := (blk_cell hbe 2).trans rfl; have hy3 := (blk_cell hbe 3).trans rfl; have HST := Aside0.mk (ast_one HB0.out hd1 HBV.out HBE.out HBR.out hv2 trivial); clear hv1 hv2 hd1 hbx hbe)
        | (go_at_call 33; refine (right_calls Ae ce l1 d e f _ (Kd.C_below HR1.out HST.out.bel) HC1.out HW.out).mono ?_; rw [HRB.out]; rintro e_ w2 ⟨rfl, hd2⟩; have hst2 := HST.out.below hd2; clear hx0 hf0 hy0 hy1 hy2 hy3; have hx0 := (blk_cell hst2.vbx 0).trans rfl; have hx1 := (blk_cell hst2.vbx 1).trans rfl; have hx2 := (blk_cell hst2.vbx 2).trans rfl; have hx3 := (blk_cell hst2.vbx 3).trans rfl; have hy0 := (blk_cell hst2.ebx 0).trans rfl; have hy1 := (blk_cell hst2.ebx 1).trans rfl; have hy2 := (blk_cell hst2.ebx 2).trans rfl; have hy3 := (blk_cell hst2.ebx 3).trans rfl; have hr0 := (blk_cell hst2.rbx 0).trans rfl; have hr1 := (blk_cell hst2.rbx 1).trans rfl; have hr2 := (blk_cell hst2.rbx 2).trans rfl; have hr3 := (blk_cell hst2.rbx 3).trans rfl; have hq0 := blk_frozen hst2.rbx 0; have hq1 := blk_frozen hst2.rbx 1; have hq2 := blk_frozen hst2.rbx 2; have hq3 := blk_frozen hst2.rbx 3; have hv0 := blk_frozen hst2.vbx 0; have hv1 := blk_frozen hst2.vbx 1; have hv2 := blk_frozen hst2.vbx 2; have hv3 := blk_frozen hst2.vbx 3; have HS2 := Aside0.mk hst2; clear hd2 hst2)
        | (go_at_call 58; (with_reducible refine (falls_calls a d _).mono ?_); rw [HF1.out]; rintro e_ w3 ⟨rfl, rfl⟩)
        | (go_at_call 58; (with_reducible refine (falls_calls b e _).mono ?_); rw [HF2.out]; rintro e_ w3 ⟨rfl, rfl⟩)
        | (go_at_call 58; (with_reducible refine (falls_calls c f _).mono ?_); rw [HF3.out]; rintro e_ w3 ⟨rfl, rfl⟩))
  have dn : decide (0 < (l0.length : Int)) = true := decide_eq_true (by omega)
  have dm : decide (0 < (l1.length : Int)) = false := decide_eq_false (by omega)
  clear HLOW
  go_quiet (fail)
  go_wp2_with ((with_reducible refine gate_builtin (b := .append) (xs := #[.tmp 68, .tmp 70]) rfl ?_); at_builtin; refine Kd.R_append_rows k62 (w0 := w) w.heap.size rfl (.tmp 68) (.tmp 70) 52 62 (.agg #[.int .u64 0, .int .u64 0, .string ⟨#[]⟩, .string ⟨#[]⟩]) 48 rfl Try.underlying52 info62 rfl (by decide) (by decide) (.slice A1 l0.length c1) l0 l1 _ _ _ (fun _ => True) (fun _ => False) rfl rfl ?aO ?aR (fun _ _ h => h) (fun _ h => h.elim) ?aF ?aB ?aS ?aL ?_; (case aO => exact Kd.R_drewN HS2.out.row _); (case aR => exact Kd.C_below HR1.out (pw_below_drewN HS2.out.bel _)); (case aF => exact (fun _ _ => trivial)); (case aB => exact pw_below_drewN HS2.out.bel _); (case aS => exact HS2.out.bel.size); (case aL => have h5 := HL.out; have h6 := (right_fit' HRB.out).1; omega); intro v5 w5 ho hb hg hat; clear hx0 hx1 hx2 hx3 hy0 hy1 hy2 hy3 hr0 hr1 hr2 hr3 hq0 hq1 hq2 hq3 hv0 hv1 hv2 hv3; obtain ⟨A5, c5, e5⟩ := Kd.R_slice ho; generalize hN : (l0 ++ l1).length = n5 at e5; subst e5; have HO5 := Aside0.mk ho; have HN5 := Aside0.mk hN; have hs5 := ast_grown HS2.out hg HS2.out.ne; have HB5 := Aside0.mk hb; have HS5 := Aside0.mk hs5; have hx0 := (blk_cell hs5.1 0).trans rfl; have hx1 := (blk_cell hs5.1 1).trans rfl; have hx2 := (blk_cell hs5.1 2).trans rfl; have hx3 := (blk_cell hs5.1 3).trans rfl; have hy1 := (blk_cell hs5.2.1 1).trans rfl; have hy2 := (blk_cell hs5.2.1 2).trans rfl; have hy3 := (blk_cell hs5.2.1 3).trans rfl; have hr0 := (blk_cell hs5.2.2 0).trans rfl; have hr1 := (blk_cell hs5.2.2 1).trans rfl; have hr2 := (blk_cell hs5.2.2 2).trans rfl; have hr3 := (blk_cell hs5.2.2 3).trans rfl; have hq0 := blk_frozen hs5.2.2 0; have hq1 := blk_frozen hs5.2.2 1; have hq2 := blk_frozen hs5.2.2 2; have hq3 := blk_frozen hs5.2.2 3; have hv0 := blk_frozen hs5.1 0; have hv1 := blk_frozen hs5.1 1; have hv2 := blk_frozen hs5.1 2; have hv3 := blk_frozen hs5.1 3; clear ho hb hg hat hN hs5)
  obtain ⟨W5, hW5⟩ : ∃ W, W = w5.setCell ⟨w.heap.size, 0, none⟩ (.slice A5 n5 c5) := ⟨_, rfl⟩
  rw [show w5.setCell ⟨w.heap.size, 0, none⟩ (.slice A5 n5 c5) = W5 from hW5.symm]
  have hs6 : ASt w (.slice A5 n5 c5) (l0 ++ l1) a b c Ae l1 ce d e f W5 := by rw [hW5]; exact ast_put HS5.out HO5.out HB5.out
  have HS6 := Aside0.mk hs6
  clear hx0 hx1 hx2 hx3 hy1 hy2 hy3 hr0 hr1 hr2 hr3 hq0 hq1 hq2 hq3 hv0 hv1 hv2 hv3
  have hx1 := (blk_cell hs6.vbx 1).trans rfl
  have hx2 := (blk_cell hs6.vbx 2).trans rfl
  have hx3 := (blk_cell hs6.vbx 3).trans rfl
  have hy1 := (blk_cell hs6.ebx 1).trans rfl
  have hy2 := (blk_cell hs6.ebx 2).trans rfl
  have hy3 := (blk_cell hs6.ebx 3).trans rfl
  have hv1 := blk_frozen hs6.vbx 1
  have hv2 := blk_frozen hs6.vbx 2
  have hv3 := blk_frozen hs6.vbx 3
  clear hs6 hW5
  obtain ⟨K9, hK9⟩ : ∃ K : Act → World → Prop, K = fun (a' : Act) (w' : World) => (a'.tmps.size = 92 ∧ a'.defers = [] ∧ a'.tmps.getD 2 undef = .pointer (some ⟨w.heap.size, 0, none⟩) ∧ a'.tmps.getD 3 undef = .pointer (some ⟨w.heap.size + 1, 0, none⟩) ∧ a'.tmps.getD 4 undef = .pointer (some ⟨w.heap.size + 1 + 1, 0, none⟩)) ∧ ASt w (.slice A5 n5 c5) (l0 ++ l1) x9 y9 z9 Ae l1 ce d e f w' := ⟨_, rfl⟩
  have HK9 := Aside0.mk hK9
  have HKI : Aside0 (∀ (a' : Act) (w' : World), (a'.tmps.size = 92 ∧ a'.defers = [] ∧ a'.tmps.getD 2 undef = .pointer (some ⟨w.heap.size, 0, none⟩) ∧ a'.tmps.getD 3 undef = .pointer (some ⟨w.heap.size + 1, 0, none⟩) ∧ a'.tmps.getD 4 undef = .pointer (some ⟨w.heap.size + 1 + 1, 0, none⟩)) → ASt w (.slice A5 n5 c5) (l0 ++ l1) x9 y9 z9 Ae l1 ce d e f w' → K9 a' w') := ⟨fun a' w' h1 h2 => by rw [hK9]; exact ⟨h1, h2⟩⟩
  clear hK9
  refine Code.wp_mono (Q := Exit.then K9 (fun _ _ _ => False)) ?hq ?hw
  case hw =>
    have HS8 := Aside0.mk (ast_nums9 HX9.out HY9.out HZ9.out HS6.out)
    go_region
    exact HKI.out _ _ ⟨rfl, rfl, rfl, rfl, rfl⟩ HS8.out
  case hq =>
    intro e' a' w' hR
    cases e'
    case normal =>
      have hR : K9 a' w' := hR
      rw [HK9.out] at hR
      obtain ⟨⟨h1, h2, h3, h4, h5⟩, hs8⟩ := hR
      obtain ⟨u, hu, hk⟩ := to_fun a' h1 h2
      rw [(hk 2).trans h3, (hk 3).trans h4, (hk 4).trans h5] at hu
      clear h1 h2 h3 h4 h5 hk
      subst hu
      clear hx1 hx2 hx3 hy1 hy2 hy3 hv1 hv2 hv3
      have hx0 := (blk_cell hs8.vbx 0).trans rfl
      have hx1 := (blk_cell hs8.vbx 1).trans rfl
      have hx2 := (blk_cell hs8.vbx 2).trans rfl
      have hx3 := (blk_cell hs8.vbx 3).trans rfl
      have hr0 := (blk_cell hs8.rbx 0).trans rfl
      have hr1 := (blk_cell hs8.rbx 1).trans rfl
      have hr2 := (blk_cell hs8.rbx 2).trans rfl
      have hr3 := (blk_cell hs8.rbx 3).trans rfl
      have hq0 := blk_frozen hs8.rbx 0
      have hq1 := blk_frozen hs8.rbx 1
      have hq2 := blk_frozen hs8.rbx 2
      have hq3 := blk_frozen hs8.rbx 3
      have HS8 := Aside0.mk hs8
      clear hs8
      go_wp2
      refine bodyPost_ret (results_ct rfl _ _ (w.heap.size + 1 + 1) 57 #[.slice A5 n5 c5, .int .u64 x9, .int .u64 y9, .int .u64 z9] (0, 0) _ rfl (blk_put (cs' := #[.slice A5 n5 c5, .int .u64 x9, .int .u64 y9, .int .u64 z9]) (blk_put (cs' := #[.slice A5 n5 c5, .int .u64 x9, .int .u64 y9, .int .u64 0]) (blk_put (cs' := #[.slice A5 n5 c5, .int .u64 x9, .int .u64 0, .int .u64 0]) (blk_put (cs' := #[.slice A5 n5 c5, .int .u64 0, .int .u64 0, .int .u64 0]) HS8.out.rbx 0 _ rfl) 1 _ rfl) 2 _ rfl) 3 _ rfl) huv rfl (by kernel_rfl)) rfl ?_
      exact ⟨_, rfl, Kd.R_mono (Kd.R_far (p := ⟨w.heap.size + 1 + 1, 3, none⟩) (Kd.R_far (p := ⟨w.heap.size + 1 + 1, 2, none⟩) (Kd.R_far (p := ⟨w.heap.size + 1 + 1, 1, none⟩) (Kd.R_far (p := ⟨w.heap.size + 1 + 1, 0, none⟩) (Kd.R_types HS8.out.row HS8.out.rbx (by decide)) (fun k hk => hk.2) _) (fun k hk => hk.2) _) (fun k hk => hk.2) _) (fun k hk => hk.2) _) (fun _ _ => trivial), (((HS8.out.bel.setCell (p := ⟨w.heap.size + 1 + 1, 0, none⟩) (by show w.heap.size ≤ w.heap.size + 1 + 1; omega) _).setCell (p := ⟨w.heap.size + 1 + 1, 1, none⟩) (by show w.heap.size ≤ w.heap.size + 1 + 1; omega) _).setCell (p := ⟨w.heap.size + 1 + 1, 2, none⟩) (by show w.heap.size ≤ w.heap.size + 1 + 1; omega) _).setCell (p := ⟨w.heap.size + 1 + 1, 3, none⟩) (by show w.heap.size ≤ w.heap.size + 1 + 1; omega) _⟩
    all_goals exact False.elim hR

end Go.Proofs.YtlaihdipagejfaaG

end

section
set_option linter.unusedVariables false
set_option linter.unusedSimpArgs false
namespace Go.Proofs.YtlaihdipagejfaaG
open Go Go.RowKit Go.Proofs.YtlaihdipagejfaaR Go.Proofs.YtlaihdipagejfaaL Go.Proofs.Ytlaihdipagejfaa.P Go.Proofs.YtlaihdipagejfaaW.PrintWords Go.Proofs.YtlaihdipagejfaaW.PrintMore
attribute [local go_sem] Oper.semAt_some max2_int

attribute [local go_sem] max2_int
set_option maxRecDepth 100000 in
set_option maxHeartbeats 8000000 in
theorem apply_ok_c (A0 : Option Addr) (c0 : Nat) (l0 : List MetaS) (a b c : Int) (Ae : Option Addr) (ce : Nat) (l1 : List MetaS) (d e f : Int) (w : World) (hr0 : Kd.C k62 w A0 l0.length l0) (hc0 : l0.length ≤ c0) (hr1 : Kd.C k62 w Ae l1.length l1) (hc1 : l1.length ≤ ce) (hw : WfE l1 d e f) (hl : l0.length + 64 < 2932031007402) (hk0 : okB l0 a b c l1 d e f = true) (x9 y9 z9 : Int) (hx9 : mx a d = x9) (hy9 : mx b e = y9) (hz9 : mx c f = z9) (hn : ¬ 0 < l0.length) :
    Calls Try.prog 32 #[.agg #[.slice A0 l0.length c0, .int .u64 a, .int .u64 b, .int .u64 c], .agg #[.slice Ae l1.length ce, .int .u64 d, .int .u64 e, .int .u64 f]] w fun e_ w' => ∃ v0_ : Value, e_ = .returned (.tuple #[.agg #[v0_, .int .u64 x9, .int .u64 y9, .int .u64 z9], .int .i64 0]) ∧ Kd.R k62 62 w' w.heap.size (fun _ => True) v0_ (l0 ++ l1) ∧ Below w.heap.size w w' := by
  have hall : rightB l1 d e f = true ∧ fallsB a d = false ∧ fallsB b e = false ∧ fallsB c f = false ∧ lowB l0 l1 = false := by
    unfold okB at hk0
    simp only [Bool.and_eq_true, Bool.not_eq_true'] at hk0
    exact ⟨hk0.1.1.1.1, hk0.1.1.1.2, hk0.1.1.2, hk0.1.2, hk0.2⟩
  have HX9 := Aside0.mk hx9
  have HY9 := Aside0.mk hy9
  have HZ9 := Aside0.mk hz9
  clear hx9 hy9 hz9
  have HRB := Aside0.mk hall.1
  have HF1 := Aside0.mk hall.2.1
  have HF2 := Aside0.mk hall.2.2.1
  have HF3 := Aside0.mk hall.2.2.2.1
  have HLOW := Aside0.mk hall.2.2.2.2
  clear hall hk0
  have HR0 := Aside0.mk hr0
  have HC0 := Aside0.mk hc0
  have HR1 := Aside0.mk hr1
  have HC1 := Aside0.mk hc1
  have HW := Aside0.mk hw
  have HL := Aside0.mk hl
  have hue := Try.underlying54
  have huv := Try.underlying57
  have hum := Try.underlying62
  obtain ⟨W0, hW0⟩ : ∃ W, W = ((w.alloc (vBx (.slice A0 l0.length c0) a b c)).alloc (eBx' Ae l1.length ce d e f)).alloc (vBx (.slice none 0 0) 0 0 0) := ⟨_, rfl⟩
  have hB0 : Below w.heap.size w W0 := by rw [hW0]; exact below_alloc (below_alloc (below_alloc (Below.refl _ _) _) _) _
  have hs0 : W0.heap.size = w.heap.size + 3 := by rw [hW0]; simp
  have hbv : W0.heap[w.heap.size]? = some (vBx (.slice A0 l0.length c0) a b c) := by
    rw [hW0]
    exact (Below.heap_alloc _ _ _ (by simp; omega)).trans ((Below.heap_alloc _ _ _ (by simp)).trans (World.alloc_heap_new w _))
  have hbe : W0.heap[w.heap.size + 1]? = some (eBx' Ae l1.length ce d e f) := by
    have h7 := World.alloc_heap_new (w.alloc (vBx (.slice A0 l0.length c0) a b c)) (eBx' Ae l1.length ce d e f)
    rw [World.size_alloc] at h7
    rw [hW0]
    exact (Below.heap_alloc _ _ _ (by simp)).trans h7
  have hbr : W0.heap[w.heap.size + 1 + 1]? = some (vBx (.slice none 0 0) 0 0 0) := by
    have h7 := World.alloc_heap_new ((w.alloc (vBx (.slice A0 l0.length c0) a b c)).alloc (eBx' Ae l1.length ce d e f)) (vBx (.slice none 0 0) 0 0 0)
    rw [World.size_alloc, World.size_alloc] at h7
    rw [hW0]
    exact h7
  have HW0 := Aside0.mk hW0
  have HB0 := Aside0.mk hB0
  have HS0 := Aside0.mk hs0
  have HBV := Aside0.mk hbv
  have HBE := Aside0.mk hbe
  have HBR := Aside0.mk hbr
  have hz0 : W0.cell? ⟨w.heap.size, 0, none⟩ = some (.slice A0 l0.length c0) := (blk_cell hbv 0).trans rfl
  rw [hW0] at hz0
  clear hr0 hc0 hr1 hc1 hw hl hW0 hB0 hs0 hbv hbe hbr
  go_enter Try.func32, Try.ntmps32
  go_wp2_with (first
        | (go_at_call 57; refine (clone_calls A0 c0 l0 _ (Kd.C_below HR0.out (show Below w.heap.size w _ by rw [← HW0.out]; exact HB0.out)) HC0.out (by have := HL.out; omega)).mono ?_; rintro e_ w1 ⟨v1, rfl, hv1, hd1⟩; rw [← HW0.out] at hv1 hd1; clear hz0; have hv2 := Kd.R_lower hv1 HB0.out.size; obtain ⟨A1, c1, e1⟩ := Kd.R_slice hv2; subst e1; have hbx := (hd1.block _ (blk_lt HBV.out)).trans HBV.out; have hbe := (hd1.block _ (blk_lt HBE.out)).trans HBE.out; have hx0 := (blk_cell hbx 0).trans rfl; have hf0 := blk_frozen hbx 0; have hy0 := (blk_cell hbe 0).trans rfl; have hy1 := (blk_cell hbe 1).trans rfl; have hy2 := (blk_cell hbe 2).trans rfl; have hy3 := (blk_cell hbe 3).trans rfl; have HST := Aside0.mk (ast_one HB0.out hd1 HBV.out HBE.out HBR.out hv2 trivial); clear hv1 hv2 hd1 hbx hbe)
        | (go_at_call 33; refine (right_calls Ae ce l1 d e f _ (Kd.C_below HR1.out HST.out.bel) HC1.out HW.out).mono ?_; rw [HRB.out]; rintro e_ w2 ⟨rfl, hd2⟩; have hst2 := HST.out.below hd2; clear hx0 hf0 hy0 hy1 hy2 hy3; have hx0 := (blk_cell hst2.vbx 0).trans rfl; have hx1 := (blk_cell hst2.vbx 1).trans rfl; have hx2 := (blk_cell hst2.vbx 2).trans rfl; have hx3 := (blk_cell hst2.vbx 3).trans rfl; have hy0 := (blk_cell hst2.ebx 0).trans rfl; have hy1 := (blk_cell hst2.ebx 1).trans rfl; have hy2 := (blk_cell hst2.ebx 2).trans rfl; have hy3 := (blk_cell hst2.ebx 3).trans rfl; have hr0 := (blk_cell hst2.rbx 0).trans rfl; have hr1 := (blk_cell hst2.rbx 1).trans rfl; have hr2 := (blk_cell hst2.rbx 2).trans rfl; have hr3 := (blk_cell hst2.rbx 3).trans rfl; have hq0 := blk_frozen hst2.rbx 0; have hq1 := blk_frozen hst2.rbx 1; have hq2 := blk_frozen hst2.rbx 2; have hq3 := blk_frozen hst2.rbx 3; have hv0 := blk_frozen hst2.vbx 0; have hv1 := blk_frozen hst2.vbx 1; have hv2 := blk_frozen hst2.vbx 2; have hv3 := blk_frozen hst2.vbx 3; have HS2 := Aside0.mk hst2; clear hd2 hst2)
        | (go_at_call 58; (with_reducible refine (falls_calls a d _).mono ?_); rw [HF1.out]; rintro e_ w3 ⟨rfl, rfl⟩)
        | (go_at_call 58; (with_reducible refine (falls_calls b e _).mono ?_); rw [HF2.out]; rintro e_ w3 ⟨rfl, rfl⟩)
        | (go_at_call 58; (with_reducible refine (falls_calls c f _).mono ?_); rw [HF3.out]; rintro e_ w3 ⟨rfl, rfl⟩))
  have dn : decide (0 < (l0.length : Int)) = false := decide_eq_false (by omega)
  clear HLOW
  go_quiet (fail)
  go_wp2_with ((with_reducible refine gate_builtin (b := .append) (xs := #[.tmp 68, .tmp 70]) rfl ?_); at_builtin; refine Kd.R_append_rows k62 (w0 := w) w.heap.size rfl (.tmp 68) (.tmp 70) 52 62 (.agg #[.int .u64 0, .int .u64 0, .string ⟨#[]⟩, .string ⟨#[]⟩]) 48 rfl Try.underlying52 info62 rfl (by decide) (by decide) (.slice A1 l0.length c1) l0 l1 _ _ _ (fun _ => True) (fun _ => False) rfl rfl ?aO ?aR (fun _ _ h => h) (fun _ h => h.elim) ?aF ?aB ?aS ?aL ?_; (case aO => exact Kd.R_drewN HS2.out.row _); (case aR => exact Kd.C_below HR1.out (pw_below_drewN HS2.out.bel _)); (case aF => exact (fun _ _ => trivial)); (case aB => exact pw_below_drewN HS2.out.bel _); (case aS => exact HS2.out.bel.size); (case aL => have h5 := HL.out; have h6 := (right_fit' HRB.out).1; omega); intro v5 w5 ho hb hg hat; clear hx0 hx1 hx2 hx3 hy0 hy1 hy2 hy3 hr0 hr1 hr2 hr3 hq0 hq1 hq2 hq3 hv0 hv1 hv2 hv3; obtain ⟨A5, c5, e5⟩ := Kd.R_slice ho; generalize hN : (l0 ++ l1).length = n5 at e5; subst e5; have HO5 := Aside0.mk ho; have HN5 := Aside0.mk hN; have hs5 := ast_grown HS2.out hg HS2.out.ne; have HB5 := Aside0.mk hb; have HS5 := Aside0.mk hs5; have hx0 := (blk_cell hs5.1 0).trans rfl; have hx1 := (blk_cell hs5.1 1).trans rfl; have hx2 := (blk_cell hs5.1 2).trans rfl; have hx3 := (blk_cell hs5.1 3).trans rfl; have hy1 := (blk_cell hs5.2.1 1).trans rfl; have hy2 := (blk_cell hs5.2.1 2).trans rfl; have hy3 := (blk_cell hs5.2.1 3).trans rfl; have hr0 := (blk_cell hs5.2.2 0).trans rfl; have hr1 := (blk_cell hs5.2.2 1).trans rfl; have hr2 := (blk_cell hs5.2.2 2).trans rfl; have hr3 := (blk_cell hs5.2.2 3).trans rfl; have hq0 := blk_frozen hs5.2.2 0; have hq1 := blk_frozen hs5.2.2 1; have hq2 := blk_frozen hs5.2.2 2; have hq3 := blk_frozen hs5.2.2 3; have hv0 := blk_frozen hs5.1 0; have hv1 := blk_frozen hs5.1 1; have hv2 := blk_frozen hs5.1 2; have hv3 := blk_frozen hs5.1 3; clear ho hb hg hat hN hs5)
  obtain ⟨W5, hW5⟩ : ∃ W, W = w5.setCell ⟨w.heap.size, 0, none⟩ (.slice A5 n5 c5) := ⟨_, rfl⟩
  rw [show w5.setCell ⟨w.heap.size, 0, none⟩ (.slice A5 n5 c5) = W5 from hW5.symm]
  have hs6 : ASt w (.slice A5 n5 c5) (l0 ++ l1) a b c Ae l1 ce d e f W5 := by rw [hW5]; exact ast_put HS5.out HO5.out HB5.out
  have HS6 := Aside0.mk hs6
  clear hx0 hx1 hx2 hx3 hy1 hy2 hy3 hr0 hr1 hr2 hr3 hq0 hq1 hq2 hq3 hv0 hv1 hv2 hv3
  have hx1 := (blk_cell hs6.vbx 1).trans rfl
  have hx2 := (blk_cell hs6.vbx 2).trans rfl
  have hx3 := (blk_cell hs6.vbx 3).trans rfl
  have hy1 := (blk_cell hs6.ebx 1).trans rfl
  have hy2 := (blk_cell hs6.ebx 2).trans rfl
  have hy3 := (blk_cell hs6.ebx 3).trans rfl
  have hv1 := blk_frozen hs6.vbx 1
  have hv2 := blk_frozen hs6.vbx 2
  have hv3 := blk_frozen hs6.vbx 3
  clear hs6 hW5
  obtain ⟨K9, hK9⟩ : ∃ K : Act → World → Prop, K = fun (a' : Act) (w' : World) => (a'.tmps.size = 92 ∧ a'.defers = [] ∧ a'.tmps.getD 2 undef = .pointer (some ⟨w.heap.size, 0, none⟩) ∧ a'.tmps.getD 3 undef = .pointer (some ⟨w.heap.size + 1, 0, none⟩) ∧ a'.tmps.getD 4 undef = .pointer (some ⟨w.heap.size + 1 + 1, 0, none⟩)) ∧ ASt w (.slice A5 n5 c5) (l0 ++ l1) x9 y9 z9 Ae l1 ce d e f w' := ⟨_, rfl⟩
  have HK9 := Aside0.mk hK9
  have HKI : Aside0 (∀ (a' : Act) (w' : World), (a'.tmps.size = 92 ∧ a'.defers = [] ∧ a'.tmps.getD 2 undef = .pointer (some ⟨w.heap.size, 0, none⟩) ∧ a'.tmps.getD 3 undef = .pointer (some ⟨w.heap.size + 1, 0, none⟩) ∧ a'.tmps.getD 4 undef = .pointer (some ⟨w.heap.size + 1 + 1, 0, none⟩)) → ASt w (.slice A5 n5 c5) (l0 ++ l1) x9 y9 z9 Ae l1 ce d e f w' → K9 a' w') := ⟨fun a' w' h1 h2 => by rw [hK9]; exact ⟨h1, h2⟩⟩
  clear hK9
  refine Code.wp_mono (Q := Exit.then K9 (fun _ _ _ => False)) ?hq ?hw
  case hw =>
    have HS8 := Aside0.mk (ast_nums9 HX9.out HY9.out HZ9.out HS6.out)
    go_region
    exact HKI.out _ _ ⟨rfl, rfl, rfl, rfl, rfl⟩ HS8.out
  case hq =>
    intro e' a' w' hR
    cases e'
    case normal =>
      have hR : K9 a' w' := hR
      rw [HK9.out] at hR
      obtain ⟨⟨h1, h2, h3, h4, h5⟩, hs8⟩ := hR
      obtain ⟨u, hu, hk⟩ := to_fun a' h1 h2
      rw [(hk 2).trans h3, (hk 3).trans h4, (hk 4).trans h5] at hu
      clear h1 h2 h3 h4 h5 hk
      subst hu
      clear hx1 hx2 hx3 hy1 hy2 hy3 hv1 hv2 hv3
      have hx0 := (blk_cell hs8.vbx 0).trans rfl
      have hx1 := (blk_cell hs8.vbx 1).trans rfl
      have hx2 := (blk_cell hs8.vbx 2).trans rfl
      have hx3 := (blk_cell hs8.vbx 3).trans rfl
      have hr0 := (blk_cell hs8.rbx 0).trans rfl
      have hr1 := (blk_cell hs8.rbx 1).trans rfl
      have hr2 := (blk_cell hs8.rbx 2).trans rfl
      have hr3 := (blk_cell hs8.rbx 3).trans rfl
      have hq0 := blk_frozen hs8.rbx 0
      have hq1 := blk_frozen hs8.rbx 1
      have hq2 := blk_frozen hs8.rbx 2
      have hq3 := blk_frozen hs8.rbx 3
      have HS8 := Aside0.mk hs8
      clear hs8
      go_wp2
      refine bodyPost_ret (results_ct rfl _ _ (w.heap.size + 1 + 1) 57 #[.slice A5 n5 c5, .int .u64 x9, .int .u64 y9, .int .u64 z9] (0, 0) _ rfl (blk_put (cs' := #[.slice A5 n5 c5, .int .u64 x9, .int .u64 y9, .int .u64 z9]) (blk_put (cs' := #[.slice A5 n5 c5, .int .u64 x9, .int .u64 y9, .int .u64 0]) (blk_put (cs' := #[.slice A5 n5 c5, .int .u64 x9, .int .u64 0, .int .u64 0]) (blk_put (cs' := #[.slice A5 n5 c5, .int .u64 0, .int .u64 0, .int .u64 0]) HS8.out.rbx 0 _ rfl) 1 _ rfl) 2 _ rfl) 3 _ rfl) huv rfl (by kernel_rfl)) rfl ?_
      exact ⟨_, rfl, Kd.R_mono (Kd.R_far (p := ⟨w.heap.size + 1 + 1, 3, none⟩) (Kd.R_far (p := ⟨w.heap.size + 1 + 1, 2, none⟩) (Kd.R_far (p := ⟨w.heap.size + 1 + 1, 1, none⟩) (Kd.R_far (p := ⟨w.heap.size + 1 + 1, 0, none⟩) (Kd.R_types HS8.out.row HS8.out.rbx (by decide)) (fun k hk => hk.2) _) (fun k hk => hk.2) _) (fun k hk => hk.2) _) (fun k hk => hk.2) _) (fun _ _ => trivial), (((HS8.out.bel.setCell (p := ⟨w.heap.size + 1 + 1, 0, none⟩) (by show w.heap.size ≤ w.heap.size + 1 + 1; omega) _).setCell (p := ⟨w.heap.size + 1 + 1, 1, none⟩) (by show w.heap.size ≤ w.heap.size + 1 + 1; omega) _).setCell (p := ⟨w.heap.size + 1 + 1, 2, none⟩) (by show w.heap.size ≤ w.heap.size + 1 + 1; omega) _).setCell (p := ⟨w.heap.size + 1 + 1, 3, none⟩) (by show w.heap.size ≤ w.heap.size + 1 + 1; omega) _⟩
    all_goals exact False.elim hR

end Go.Proofs.YtlaihdipagejfaaG

end

section
set_option linter.unusedVariables false
set_option linter.unusedSimpArgs false
namespace Go.Proofs.YtlaihdipagejfaaG
open Go Go.RowKit Go.Proofs.YtlaihdipagejfaaR Go.Proofs.YtlaihdipagejfaaL Go.Proofs.Ytlaihdipagejfaa.P Go.Proofs.YtlaihdipagejfaaW.PrintWords Go.Proofs.YtlaihdipagejfaaW.PrintMore
attribute [local go_sem] Oper.semAt_some max2_int

attribute [local go_sem] max2_int
theorem edit_Apply.calls (A0_0 : Option Addr) (c0_0 : Nat) (l0_0 : List MetaS) (a0_1 a0_2 a0_3 : Int) (A1_0 : Option Addr) (c1_0 : Nat) (l1_0 : List MetaS) (a1_1 a1_2 a1_3 : Int) (r1 : List MetaS) (r2 r3 r4 r5 : Int) (w : World) (hr0_0 : Kd.C k62 w A0_0 l0_0.length l0_0) (hc0_0 : l0_0.length ≤ c0_0) (hr1_0 : Kd.C k62 w A1_0 l1_0.length l1_0) (hc1_0 : l1_0.length ≤ c1_0) (h : edit_Apply.f l0_0 a0_1 a0_2 a0_3 l1_0 a1_1 a1_2 a1_3 = some (r1, r2, r3, r4, r5)) :
    Calls Try.prog 32 #[.agg #[.slice A0_0 l0_0.length c0_0, .int .u64 a0_1, .int .u64 a0_2, .int .u64 a0_3], .agg #[.slice A1_0 l1_0.length c1_0, .int .u64 a1_1, .int .u64 a1_2, .int .u64 a1_3]] w fun e w' => ∃ v0_ : Value, e = .returned (.tuple #[.agg #[v0_, .int .u64 r2, .int .u64 r3, .int .u64 r4], .int .i64 r5]) ∧ Kd.R k62 62 w' w.heap.size (fun _ => True) v0_ r1 ∧ Below w.heap.size w w' := by
  unfold edit_Apply.f at h
  by_cases hw : WfE l1_0 a1_1 a1_2 a1_3 ∧ l0_0.length + 64 < 2932031007402
  · rw [if_pos hw] at h
    have h := Option.some.inj h
    cases hok : okB l0_0 a0_1 a0_2 a0_3 l1_0 a1_1 a1_2 a1_3 with
    | true =>
      rw [hok] at h
      simp only [if_true, Prod.mk.injEq] at h
      obtain ⟨rfl, rfl, rfl, rfl, rfl⟩ := h
      by_cases hn : 0 < l0_0.length
      · by_cases hm : 0 < l1_0.length
        · exact apply_ok_a A0_0 c0_0 l0_0 a0_1 a0_2 a0_3 A1_0 c1_0 l1_0 a1_1 a1_2 a1_3 w hr0_0 hc0_0 hr1_0 hc1_0 hw.1 hw.2 hok _ _ _ rfl rfl rfl hn hm
        · exact apply_ok_b A0_0 c0_0 l0_0 a0_1 a0_2 a0_3 A1_0 c1_0 l1_0 a1_1 a1_2 a1_3 w hr0_0 hc0_0 hr1_0 hc1_0 hw.1 hw.2 hok _ _ _ rfl rfl rfl hn hm
      · exact apply_ok_c A0_0 c0_0 l0_0 a0_1 a0_2 a0_3 A1_0 c1_0 l1_0 a1_1 a1_2 a1_3 w hr0_0 hc0_0 hr1_0 hc1_0 hw.1 hw.2 hok _ _ _ rfl rfl rfl hn
    | false =>
      rw [hok] at h
      simp only [Bool.false_eq_true, if_false, Prod.mk.injEq] at h
      obtain ⟨rfl, rfl, rfl, rfl, rfl⟩ := h
      exact apply_no A0_0 c0_0 l0_0 a0_1 a0_2 a0_3 A1_0 c1_0 l1_0 a1_1 a1_2 a1_3 w hr0_0 hc0_0 hr1_0 hc1_0 hw.1 hw.2 hok
  · rw [if_neg hw] at h
    cases h
end Go.Proofs.YtlaihdipagejfaaG

end

section
namespace Go.Proofs.Ytlaihdipagejfaa.P
open Go.RowKit Go.Proofs.YtlaihdipagejfaaG Go.Proofs.YtlaihdipagejfaaW.PrintWords Go.Proofs.YtlaihdipagejfaaW.PrintLast Go.Proofs.YtlaihdipagejfaaW.PrintMore
attribute [local go_sem] str_gtr str_geq str_leq max2_int min2_int max_two min_two max_three min_three max_four min_four   -- for this text's walks alone
set_option linter.unusedVariables false
set_option linter.unusedSimpArgs false

-- GIVEN: function 32 (edit_Apply)

-- GIVEN: function 46 (nums_Put)

def nums_PutText.f (l0 : List Int) (a1 : ByteArray) : Option (List Int) := (nums_Put.f l0 (IntKind.u64.wrap ((a1.size : Int)))).bind fun t113 => (if t113.length + a1.size < 140737488355328 then (some (t113 ++ bytesOf a1)) else (none))
set_option maxHeartbeats 8000000 in
set_option maxRecDepth 100000 in
theorem nums_PutText.calls (A0 : Option Addr) (c0 : Nat) (l0 : List Int) (a1 : ByteArray) (r : List Int) (w : World) (hr0 : Kd.C (Kd.int .u8) w A0 l0.length l0) (hc0 : l0.length ≤ c0) (h : nums_PutText.f l0 a1 = some r) :
    Calls Try.prog 47 #[.slice A0 l0.length c0, .string a1] w fun e w' => ∃ v0_ : Value, e = .returned (v0_) ∧ Kd.R (Kd.int .u8) 5 w' w.heap.size (fun _ => True) v0_ r ∧ Below w.heap.size w w' := by
  have HR0 := Aside0.mk hr0
  have HC0 := Aside0.mk hc0
  clear hr0 hc0
  have HB := Aside0.mk (Below.refl w.heap.size w)
  have H : ((nums_Put.f l0 (IntKind.u64.wrap ((a1.size : Int)))).bind fun t113 => (if t113.length + a1.size < 140737488355328 then (some (t113 ++ bytesOf a1)) else (none))) = some r := h
  clear h
  replace H := Option.bind_eq_some_iff.mp H
  obtain ⟨t113, A30, H⟩ := H
  replace H : (if t113.length + a1.size < 140737488355328 then (some (t113 ++ bytesOf a1)) else (none)) = some r := H
  have A3 := Aside0.mk A30
  clear A30
  by_cases c4 : t113.length + a1.size < 140737488355328
  · rw [if_pos c4] at H
    have LMc4 := Aside0.mk c4
    clear c4
    obtain ⟨y116, hy116⟩ : ∃ y_ : List Int, y_ = (t113 ++ bytesOf a1) := ⟨_, rfl⟩
    replace H : (some y116) = some r := by first | (rw [hy116]; with_reducible exact H) | (have H2_ := (Option.bind_some _ _).symm.trans H; rw [hy116]; with_reducible exact H2_) | (have H2_ := (Option.bind_some _ _).symm.trans H; with_reducible exact H2_) | with_reducible exact H | (rw [hy116]; exact H) | exact H
    have Ny116 := Aside0.mk hy116
    clear hy116
    obtain rfl := Option.some.inj H
    go_enter Try.func47, Try.ntmps47
    go_wp2_with (first | ((with_reducible refine gate_callee (f := 46) rfl ?_); refine goesL_ (some 9) rfl rfl Try.func46 (by kernel_rfl) rfl #[.slice A0 l0.length c0, .int .u64 (IntKind.u64.wrap ((a1.size : Int)))] rfl (by (try simp only [List.map_toArray, List.map_cons, List.map_nil]); first | done | rfl | (simp only [List.length_drop, List.length_take]; rfl)) ?_; (with_reducible refine (nums_Put.calls _ _ l0 (IntKind.u64.wrap ((a1.size : Int))) t113 _ ?side1 ?side2 A3.out).mono ?_); (case side1 => repeat (first | exact HR0.out | (with_reducible refine Kd.C_alloc ?_ _) | (with_reducible refine Kd.C_drewN ?_ _) | (with_reducible refine Kd.C_drew ?_))); (case side2 => exact HC0.out); rintro e w5 ⟨v114, rfl, ho0, hb⟩; refine ⟨_, rfl, ?_⟩; have n0_ := Aside0.mk (Kd.R_lower ho0 (below_size (by repeat (first | (with_reducible first | exact HB.out | apply below_alloc | apply pw_below_drewN | apply below_drew1) | exact HB.out)))); have n1_ := Aside0.mk (below_step (by repeat (first | (with_reducible first | exact HB.out | apply below_alloc | apply pw_below_drewN | apply below_drew1) | exact HB.out)) hb); clear HB; have HO115 := n0_; have HB := n1_; clear n0_ n1_; (try clear hb); (try clear hb2); (try clear hk); (try clear hi); (try clear ho0)) | (at_builtin; refine print_append_str (w0 := w) w.heap.size rfl (.tmp 9) _ 23 9 5 rfl Try.underlying23 Try.underlying9 info5 v114 t113 a1 rfl rfl ?aO ?aB ?aS ?aL ?_; (case aB => exact (by repeat (first | (with_reducible first | exact HB.out | apply below_alloc | apply pw_below_drewN | apply below_drew1) | exact HB.out))); (case aO => exact (Kd.own_of_R (by (with_reducible repeat (first | apply Kd.R_alloc | apply Kd.R_drewN | apply Kd.R_drew)); exact HO115.out))); (case aS => exact (below_size (by repeat (first | (with_reducible first | exact HB.out | apply below_alloc | apply pw_below_drewN | apply below_drew1) | exact HB.out)))); (case aL => have := LMc4.out; omega); intro v117 w6 ho0 hb hg; have ho := Kd.R_of_own (h1 := fun _ => rfl) (ok := fun _ => True) ho0 (fun _ _ => trivial); clear ho0; have hat := True.intro; rw [← Ny116.out] at ho; change Kd.R (Kd.int .u8) 5 w6 w.heap.size (fun _ => True) v117 y116 at ho; have n0_ := Aside0.mk (hb); have n1_ := Aside0.mk (ho); clear HB; clear HO115; have HB := n0_; have HO118 := n1_; clear n0_ n1_; clear ho hb hg hat))
    go_ret
    exact ⟨_, by first | rfl | (simp [errW_none, errW_some] <;> rfl) | (simp [*, errW_none, errW_some] <;> rfl), by (with_reducible repeat (first | apply Kd.R_alloc | apply Kd.R_drewN | apply Kd.R_drew)); exact HO118.out, by repeat (first | (with_reducible first | exact HB.out | apply below_alloc | apply pw_below_drewN | apply below_drew1) | exact HB.out)⟩
  · rw [if_neg c4] at H
    exact absurd H (by simp)

-- GIVEN: function 34 (edit_Bytes)

-- GIVEN: function 57 (api_Meta_57)

end Go.Proofs.Ytlaihdipagejfaa.P

end

section
set_option linter.unusedVariables false
set_option linter.unusedSimpArgs false
namespace Go.Proofs.YtlaihdipagejfaaG
open Go Go.RowKit Go.Proofs.YtlaihdipagejfaaR Go.Proofs.Ytlaihdipagejfaa.P Go.Proofs.YtlaihdipagejfaaW.PrintWords
attribute [local go_sem] Oper.semAt_some
theorem run_store_fn {P : Program} {w : World} {a : Addr} {m : Mode} (f : Fn) (x y : Array Value) : (store a (.func f x y) m).run P w = stored P w a (.func f x y) m := run_store P w a _ m rfl
attribute [local go_sem] run_store_fn
abbrev tSel : TypeId := 126
abbrev pt (g : Nat) : Value := .pointer (some ⟨g, 0, none⟩)
abbrev fv (n : Nat) (g : Nat) : Value := .func (.func n) #[] #[.pointer (some ⟨g, 0, none⟩)]
abbrev f0 (n : Nat) : Value := .func (.func n) #[] #[]
abbrev aggE (A : Option Addr) (n c : Nat) (a1 a2 a3 : Int) : Value := .agg #[.slice A n c, .int .u64 a1, .int .u64 a2, .int .u64 a3]

set_option maxRecDepth 100000 in
theorem sel1_calls (g : Nat) (w : World) : Calls Try.prog 83 #[pt g] w fun e w' => e = .returned (.pointer (some ⟨g, 1, none⟩)) ∧ w = w' := by
  go_enter Try.func83, Try.ntmps83
  go_wp2
  go_ret
  exact ⟨rfl, rfl⟩
set_option maxRecDepth 100000 in
set_option maxHeartbeats 1000000 in
theorem is1_calls (m : Nat) (A : Option Addr) (n c : Nat) (a1 a2 a3 : Int) (w : World) (hm : w.heap[m]? = some (.cells #[f0 83] tSel)) :
    Calls Try.prog 95 #[aggE A n c a1 a2 a3, pt m] w fun e w' => e = .returned (.bool (decide (0 < a1))) ∧ Below w.heap.size w w' := by
  have hu := Try.underlying54
  have hb0 := World.alloc_heap_new w (.cells #[.slice A n c, .int .u64 a1, .int .u64 a2, .int .u64 a3] 54)
  have HB : Below w.heap.size w (w.alloc (.cells #[.slice A n c, .int .u64 a1, .int .u64 a2, .int .u64 a3] 54)) := below_alloc (Below.refl _ _) _
  have hm1 := (HB.block m (blk_lt hm)).trans hm
  have hc0 := box_cell hm1
  have hf0 := box_frozen hm1
  have HB' := Aside0.mk HB
  clear hm hm1 HB
  go_enter Try.func95, Try.ntmps95
  go_wp2
  go_ret
  exact ⟨rfl, HB'.out⟩
set_option maxRecDepth 100000 in
set_option maxHeartbeats 1000000 in
theorem put1_calls (m : Nat) (A : Option Addr) (n c : Nat) (a1 a2 a3 : Int) (B : Option Addr) (cb : Nat) (b : List Int) (w : World) (hm : w.heap[m]? = some (.cells #[f0 83] tSel)) (hb : Kd.C (Kd.int .u8) w B b.length b) (hcb : b.length ≤ cb) (hl : b.length ≤ 1000000) (ha : U64 a1) :
    Calls Try.prog 96 #[.slice B b.length cb, aggE A n c a1 a2 a3, pt m] w fun e w' => ∃ v, e = .returned v ∧ Kd.R (Kd.int .u8) 5 w' w.heap.size (fun _ => True) v (b ++ vint a1.toNat) ∧ Below w.heap.size w w' := by
  have hu := Try.underlying54
  have hb0 := World.alloc_heap_new w (.cells #[.slice A n c, .int .u64 a1, .int .u64 a2, .int .u64 a3] 54)
  have HB : Below w.heap.size w (w.alloc (.cells #[.slice A n c, .int .u64 a1, .int .u64 a2, .int .u64 a3] 54)) := below_alloc (Below.refl _ _) _
  have hm1 := (HB.block m (blk_lt hm)).trans hm
  have hc0 := box_cell hm1
  have hf0 := box_frozen hm1
  have hcl := nums_Put.calls B cb b a1 _ _ (Kd.C_below hb HB) hcb (show nums_Put.f b a1 = some (b ++ vint a1.toNat) by unfold nums_Put.f; rw [if_pos ⟨ha.1, ha.2, by omega⟩])
  have HCL := Aside0.mk hcl
  have HB' := Aside0.mk HB
  clear hm hm1 HB hb hl ha hcl
  go_enter Try.func96, Try.ntmps96
  go_wp2_with (first | (go_at_call 83; refine (sel1_calls _ _).mono ?_; rintro e w' ⟨rfl, rfl⟩) | (go_at_call 46; refine HCL.out.mono ?_; rintro e w1 ⟨v, rfl, hv, hd⟩; have HV := Aside0.mk hv; have HD := Aside0.mk hd; clear hv hd))
  go_ret
  exact ⟨_, rfl, Kd.R_lower HV.out HB'.out.size, below_then HB'.out HB'.out.size HD.out⟩

set_option maxRecDepth 100000 in
theorem sel2_calls (g : Nat) (w : World) : Calls Try.prog 84 #[pt g] w fun e w' => e = .returned (.pointer (some ⟨g, 2, none⟩)) ∧ w = w' := by
  go_enter Try.func84, Try.ntmps84
  go_wp2
  go_ret
  exact ⟨rfl, rfl⟩
set_option maxRecDepth 100000 in
set_option maxHeartbeats 1000000 in
theorem is2_calls (m : Nat) (A : Option Addr) (n c : Nat) (a1 a2 a3 : Int) (w : World) (hm : w.heap[m]? = some (.cells #[f0 84] tSel)) :
    Calls Try.prog 95 #[aggE A n c a1 a2 a3, pt m] w fun e w' => e = .returned (.bool (decide (0 < a2))) ∧ Below w.heap.size w w' := by
  have hu := Try.underlying54
  have hb0 := World.alloc_heap_new w (.cells #[.slice A n c, .int .u64 a1, .int .u64 a2, .int .u64 a3] 54)
  have HB : Below w.heap.size w (w.alloc (.cells #[.slice A n c, .int .u64 a1, .int .u64 a2, .int .u64 a3] 54)) := below_alloc (Below.refl _ _) _
  have hm1 := (HB.block m (blk_lt hm)).trans hm
  have hc0 := box_cell hm1
  have hf0 := box_frozen hm1
  have HB' := Aside0.mk HB
  clear hm hm1 HB
  go_enter Try.func95, Try.ntmps95
  go_wp2
  go_ret
  exact ⟨rfl, HB'.out⟩
set_option maxRecDepth 100000 in
set_option maxHeartbeats 1000000 in
theorem put2_calls (m : Nat) (A : Option Addr) (n c : Nat) (a1 a2 a3 : Int) (B : Option Addr) (cb : Nat) (b : List Int) (w : World) (hm : w.heap[m]? = some (.cells #[f0 84] tSel)) (hb : Kd.C (Kd.int .u8) w B b.length b) (hcb : b.length ≤ cb) (hl : b.length ≤ 1000000) (ha : U64 a2) :
    Calls Try.prog 96 #[.slice B b.length cb, aggE A n c a1 a2 a3, pt m] w fun e w' => ∃ v, e = .returned v ∧ Kd.R (Kd.int .u8) 5 w' w.heap.size (fun _ => True) v (b ++ vint a2.toNat) ∧ Below w.heap.size w w' := by
  have hu := Try.underlying54
  have hb0 := World.alloc_heap_new w (.cells #[.slice A n c, .int .u64 a1, .int .u64 a2, .int .u64 a3] 54)
  have HB : Below w.heap.size w (w.alloc (.cells #[.slice A n c, .int .u64 a1, .int .u64 a2, .int .u64 a3] 54)) := below_alloc (Below.refl _ _) _
  have hm1 := (HB.block m (blk_lt hm)).trans hm
  have hc0 := box_cell hm1
  have hf0 := box_frozen hm1
  have hcl := nums_Put.calls B cb b a2 _ _ (Kd.C_below hb HB) hcb (show nums_Put.f b a2 = some (b ++ vint a2.toNat) by unfold nums_Put.f; rw [if_pos ⟨ha.1, ha.2, by omega⟩])
  have HCL := Aside0.mk hcl
  have HB' := Aside0.mk HB
  clear hm hm1 HB hb hl ha hcl
  go_enter Try.func96, Try.ntmps96
  go_wp2_with (first | (go_at_call 84; refine (sel2_calls _ _).mono ?_; rintro e w' ⟨rfl, rfl⟩) | (go_at_call 46; refine HCL.out.mono ?_; rintro e w1 ⟨v, rfl, hv, hd⟩; have HV := Aside0.mk hv; have HD := Aside0.mk hd; clear hv hd))
  go_ret
  exact ⟨_, rfl, Kd.R_lower HV.out HB'.out.size, below_then HB'.out HB'.out.size HD.out⟩

set_option maxRecDepth 100000 in
theorem sel3_calls (g : Nat) (w : World) : Calls Try.prog 85 #[pt g] w fun e w' => e = .returned (.pointer (some ⟨g, 3, none⟩)) ∧ w = w' := by
  go_enter Try.func85, Try.ntmps85
  go_wp2
  go_ret
  exact ⟨rfl, rfl⟩
set_option maxRecDepth 100000 in
set_option maxHeartbeats 1000000 in
theorem is3_calls (m : Nat) (A : Option Addr) (n c : Nat) (a1 a2 a3 : Int) (w : World) (hm : w.heap[m]? = some (.cells #[f0 85] tSel)) :
    Calls Try.prog 95 #[aggE A n c a1 a2 a3, pt m] w fun e w' => e = .returned (.bool (decide (0 < a3))) ∧ Below w.heap.size w w' := by
  have hu := Try.underlying54
  have hb0 := World.alloc_heap_new w (.cells #[.slice A n c, .int .u64 a1, .int .u64 a2, .int .u64 a3] 54)
  have HB : Below w.heap.size w (w.alloc (.cells #[.slice A n c, .int .u64 a1, .int .u64 a2, .int .u64 a3] 54)) := below_alloc (Below.refl _ _) _
  have hm1 := (HB.block m (blk_lt hm)).trans hm
  have hc0 := box_cell hm1
  have hf0 := box_frozen hm1
  have HB' := Aside0.mk HB
  clear hm hm1 HB
  go_enter Try.func95, Try.ntmps95
  go_wp2
  go_ret
  exact ⟨rfl, HB'.out⟩
set_option maxRecDepth 100000 in
set_option maxHeartbeats 1000000 in
theorem put3_calls (m : Nat) (A : Option Addr) (n c : Nat) (a1 a2 a3 : Int) (B : Option Addr) (cb : Nat) (b : List Int) (w : World) (hm : w.heap[m]? = some (.cells #[f0 85] tSel)) (hb : Kd.C (Kd.int .u8) w B b.length b) (hcb : b.length ≤ cb) (hl : b.length ≤ 1000000) (ha : U64 a3) :
    Calls Try.prog 96 #[.slice B b.length cb, aggE A n c a1 a2 a3, pt m] w fun e w' => ∃ v, e = .returned v ∧ Kd.R (Kd.int .u8) 5 w' w.heap.size (fun _ => True) v (b ++ vint a3.toNat) ∧ Below w.heap.size w w' := by
  have hu := Try.underlying54
  have hb0 := World.alloc_heap_new w (.cells #[.slice A n c, .int .u64 a1, .int .u64 a2, .int .u64 a3] 54)
  have HB : Below w.heap.size w (w.alloc (.cells #[.slice A n c, .int .u64 a1, .int .u64 a2, .int .u64 a3] 54)) := below_alloc (Below.refl _ _) _
  have hm1 := (HB.block m (blk_lt hm)).trans hm
  have hc0 := box_cell hm1
  have hf0 := box_frozen hm1
  have hcl := nums_Put.calls B cb b a3 _ _ (Kd.C_below hb HB) hcb (show nums_Put.f b a3 = some (b ++ vint a3.toNat) by unfold nums_Put.f; rw [if_pos ⟨ha.1, ha.2, by omega⟩])
  have HCL := Aside0.mk hcl
  have HB' := Aside0.mk HB
  clear hm hm1 HB hb hl ha hcl
  go_enter Try.func96, Try.ntmps96
  go_wp2_with (first | (go_at_call 85; refine (sel3_calls _ _).mono ?_; rintro e w' ⟨rfl, rfl⟩) | (go_at_call 46; refine HCL.out.mono ?_; rintro e w1 ⟨v, rfl, hv, hd⟩; have HV := Aside0.mk hv; have HD := Aside0.mk hd; clear hv hd))
  go_ret
  exact ⟨_, rfl, Kd.R_lower HV.out HB'.out.size, below_then HB'.out HB'.out.size HD.out⟩

set_option maxRecDepth 100000 in
theorem isA_calls (A : Option Addr) (n c : Nat) (a1 a2 a3 : Int) (w : World) :
    Calls Try.prog 90 #[aggE A n c a1 a2 a3] w fun e w' => e = .returned (.bool (decide (0 < n))) ∧ Below w.heap.size w w' := by
  have hu := Try.underlying54
  have hb0 := World.alloc_heap_new w (.cells #[.slice A n c, .int .u64 a1, .int .u64 a2, .int .u64 a3] 54)
  have HB : Below w.heap.size w (w.alloc (.cells #[.slice A n c, .int .u64 a1, .int .u64 a2, .int .u64 a3] 54)) := below_alloc (Below.refl _ _) _
  have HB' := Aside0.mk HB
  have hd : decide (0 < (n : Int)) = decide (0 < n) := decide_eq_decide.2 (by omega)
  clear HB
  go_enter Try.func90, Try.ntmps90
  go_wp2
  go_ret
  exact ⟨by simp, HB'.out⟩

/-- The functions of a part. -/
abbrev numP (m : Nat) : List Value := [fv 95 m, fv 96 m, fv 97 m]
abbrev addP : List Value := [f0 90, f0 91, f0 92]
set_option maxRecDepth 100000 in
set_option maxHeartbeats 1000000 in
theorem number_calls (n : Nat) (w : World) : Calls Try.prog 82 #[f0 n] w fun e w' => e = .returned (.agg (numP w.heap.size).toArray) ∧ w'.heap[w.heap.size]? = some (.cells #[f0 n] tSel) ∧ Below w.heap.size w w' := by
  have hu := Try.underlying93
  have h0 := World.alloc_heap_new w (.cells #[f0 n] tSel)
  have hN := World.alloc_heap_new (w.alloc (.cells #[f0 n] tSel)) (.cells #[.nilFunc, .nilFunc, .nilFunc] 93)
  rw [World.size_alloc] at hN
  have h1 : ((w.alloc (.cells #[f0 n] tSel)).alloc (.cells #[.nilFunc, .nilFunc, .nilFunc] 93)).heap[w.heap.size]? = some (.cells #[f0 n] tSel) := (Below.heap_alloc _ _ _ (by simp)).trans h0
  have hB : Below w.heap.size w ((w.alloc (.cells #[f0 n] tSel)).alloc (.cells #[.nilFunc, .nilFunc, .nilFunc] 93)) := below_alloc (below_alloc (Below.refl _ _) _) _
  have hc0 : ((w.alloc (.cells #[f0 n] tSel)).alloc (.cells #[.nilFunc, .nilFunc, .nilFunc] 93)).cell? ⟨w.heap.size + 1, 0, none⟩ = some .nilFunc := (blk_cell hN 0).trans rfl
  have hc1 : ((w.alloc (.cells #[f0 n] tSel)).alloc (.cells #[.nilFunc, .nilFunc, .nilFunc] 93)).cell? ⟨w.heap.size + 1, 1, none⟩ = some .nilFunc := (blk_cell hN 1).trans rfl
  have hc2 : ((w.alloc (.cells #[f0 n] tSel)).alloc (.cells #[.nilFunc, .nilFunc, .nilFunc] 93)).cell? ⟨w.heap.size + 1, 2, none⟩ = some .nilFunc := (blk_cell hN 2).trans rfl
  have hf0 := blk_frozen hN 0
  have hf1 := blk_frozen hN 1
  have hf2 := blk_frozen hN 2
  have HN := Aside0.mk hN
  have H1 := Aside0.mk h1
  have HB := Aside0.mk hB
  clear hN h0 h1 hB
  go_enter Try.func82, Try.ntmps82
  go_wp2
  have P3 := World.alloc_heap_new (w.alloc (.cells #[f0 n] tSel)) (.cells #[fv 95 w.heap.size, fv 96 w.heap.size, fv 97 w.heap.size] 93)
  rw [World.size_alloc] at P3
  refine bodyPost_ret (results_cell_row rfl _ _ (w.heap.size + 1) 93 #[fv 95 w.heap.size, fv 96 w.heap.size, fv 97 w.heap.size] (0, 0) _ rfl P3 hu rfl (by kernel_rfl)) rfl ?_
  refine ⟨rfl, ?_, ?_⟩
  · exact (Below.heap_alloc _ _ _ (by simp)).trans (World.alloc_heap_new w _)
  · exact below_alloc (below_alloc (Below.refl _ _) _) _
set_option maxRecDepth 100000 in
theorem added_calls (w : World) : Calls Try.prog 81 #[] w fun e w' => e = .returned (.agg addP.toArray) ∧ Below w.heap.size w w' := by
  have hu := Try.underlying93
  have hN := World.alloc_heap_new w (.cells #[.nilFunc, .nilFunc, .nilFunc] 93)
  have hB : Below w.heap.size w (w.alloc (.cells #[.nilFunc, .nilFunc, .nilFunc] 93)) := below_alloc (Below.refl _ _) _
  have hc0 : (w.alloc (.cells #[.nilFunc, .nilFunc, .nilFunc] 93)).cell? ⟨w.heap.size, 0, none⟩ = some .nilFunc := (blk_cell hN 0).trans rfl
  have hc1 : (w.alloc (.cells #[.nilFunc, .nilFunc, .nilFunc] 93)).cell? ⟨w.heap.size, 1, none⟩ = some .nilFunc := (blk_cell hN 1).trans rfl
  have hc2 : (w.alloc (.cells #[.nilFunc, .nilFunc, .nilFunc] 93)).cell? ⟨w.heap.size, 2, none⟩ = some .nilFunc := (blk_cell hN 2).trans rfl
  have hf0 := blk_frozen hN 0
  have hf1 := blk_frozen hN 1
  have hf2 := blk_frozen hN 2
  have HN := Aside0.mk hN
  have HB := Aside0.mk hB
  clear hN hB
  go_enter Try.func81, Try.ntmps81
  go_wp2
  have P3 := World.alloc_heap_new w (.cells #[f0 90, f0 91, f0 92] 93)
  refine bodyPost_ret (results_cell_row rfl _ _ w.heap.size 93 #[f0 90, f0 91, f0 92] (0, 0) _ rfl P3 hu rfl (by kernel_rfl)) rfl ?_
  exact ⟨rfl, below_alloc (Below.refl _ _) _⟩
/-- The row of all parts, with the boxes of three. -/
def Parts (g m1 m2 m3 : Nat) (W : World) : Prop := W.heap[g]? = some (.cells (addP ++ (numP m1 ++ (numP m2 ++ numP m3))).toArray 93) ∧ W.heap[m1]? = some (.cells #[f0 83] tSel) ∧ W.heap[m2]? = some (.cells #[f0 84] tSel) ∧ W.heap[m3]? = some (.cells #[f0 85] tSel)
theorem Parts.below {g m1 m2 m3 n : Nat} {W W' : World} (h : Parts g m1 m2 m3 W) (hb : Below n W W') (hn : W.heap.size ≤ n) : Parts g m1 m2 m3 W' :=
  ⟨(hb.block _ (Nat.lt_of_lt_of_le (blk_lt h.1) hn)).trans h.1, (hb.block _ (Nat.lt_of_lt_of_le (blk_lt h.2.1) hn)).trans h.2.1, (hb.block _ (Nat.lt_of_lt_of_le (blk_lt h.2.2.1) hn)).trans h.2.2.1, (hb.block _ (Nat.lt_of_lt_of_le (blk_lt h.2.2.2) hn)).trans h.2.2.2⟩
set_option maxRecDepth 100000 in
set_option maxHeartbeats 1000000 in
theorem parts_calls (w : World) : Calls Try.prog 60 #[] w fun e w' => ∃ g m1 m2 m3 : Nat, e = .returned (.slice (some ⟨g, 0, none⟩) 4 4) ∧ Parts g m1 m2 m3 w' ∧ (w.heap.size ≤ g ∧ w.heap.size ≤ m1 ∧ w.heap.size ≤ m2 ∧ w.heap.size ≤ m3) ∧ Below w.heap.size w w' := by
  have hu := Try.underlying93
  go_enter Try.func60, Try.ntmps60
  go_wp2_with (first | (go_at_call 81; refine (added_calls _).mono ?_; rintro e w1 ⟨rfl, hb1⟩; have HB1 := Aside0.mk hb1; clear hb1) | (go_at_call 82; refine (number_calls 83 _).mono ?_; rintro e w2 ⟨rfl, hm1, hb2⟩; have HB2 := Aside0.mk (below_then HB1.out HB1.out.size hb2); have HM1 := Aside0.mk hm1; have HL1 : Aside0 (w.heap.size ≤ w1.heap.size) := ⟨HB1.out.size⟩; clear hb2 hm1) | (go_at_call 82; refine (number_calls 84 _).mono ?_; rintro e w3 ⟨rfl, hm2, hb3⟩; have HB3 := Aside0.mk (below_then HB2.out HB2.out.size hb3); have HM1' := Aside0.mk ((hb3.block _ (blk_lt HM1.out)).trans HM1.out); have HM2 := Aside0.mk hm2; have HL2 : Aside0 (w.heap.size ≤ w2.heap.size) := ⟨HB2.out.size⟩; clear hb3 hm2) | (go_at_call 82; refine (number_calls 85 _).mono ?_; rintro e w4 ⟨rfl, hm3, hb4⟩; have HB4 := Aside0.mk (below_then HB3.out HB3.out.size hb4); have HM1'' := Aside0.mk ((hb4.block _ (blk_lt HM1'.out)).trans HM1'.out); have HM2' := Aside0.mk ((hb4.block _ (blk_lt HM2.out)).trans HM2.out); have HM3 := Aside0.mk hm3; have HL3 : Aside0 (w.heap.size ≤ w3.heap.size) := ⟨HB3.out.size⟩; clear hb4 hm3))
  refine bodyPost_ret (results_tmp rfl _ _ _) rfl ?_
  refine ⟨w4.heap.size, w1.heap.size, w2.heap.size, w3.heap.size, rfl, ⟨World.alloc_heap_new w4 _, ?_, ?_, ?_⟩, ⟨HB4.out.size, HL1.out, HL2.out, HL3.out⟩, below_alloc HB4.out _⟩
  · exact (Below.heap_alloc _ _ _ (blk_lt HM1''.out)).trans HM1''.out
  · exact (Below.heap_alloc _ _ _ (blk_lt HM2'.out)).trans HM2'.out
  · exact (Below.heap_alloc _ _ _ (blk_lt HM3.out)).trans HM3.out
end Go.Proofs.YtlaihdipagejfaaG

end

section
namespace Go.Proofs.Ytlaihdipagejfaa.P
open Go.RowKit Go.Proofs.YtlaihdipagejfaaG Go.Proofs.YtlaihdipagejfaaW.PrintWords Go.Proofs.YtlaihdipagejfaaW.PrintLast Go.Proofs.YtlaihdipagejfaaW.PrintMore
attribute [local go_sem] str_gtr str_geq str_leq max2_int min2_int max_two min_two max_three min_three max_four min_four   -- for this text's walks alone
set_option linter.unusedVariables false
set_option linter.unusedSimpArgs false

def nums_TakeText.f (l0 : List Int) (a1 : Int) : Option (ByteArray × List Int × Bool) := (nums_Take.f l0).bind fun bt129 => (if bt129.2.2 = true then (if bt129.1 > (IntKind.u64.wrap (mx a1 0)) then (some ((⟨#[]⟩ : ByteArray), ([] : List Int), false)) else (if a1 < 0 then (some ((⟨#[]⟩ : ByteArray), ([] : List Int), false)) else (if bt129.1 > (IntKind.u64.wrap ((bt129.2.1.length : Int))) then (some ((⟨#[]⟩ : ByteArray), ([] : List Int), false)) else (if 0 ≤ bt129.1 then (if bt129.1 ≤ (bt129.2.1.length : Int) then ((slices_Clone_byte_byte.f (bt129.2.1.drop (bt129.1 : Int).toNat)).bind fun t142 => (some (strOfNums (bt129.2.1.take (bt129.1 : Int).toNat), t142, true))) else (none)) else (none))))) else (some ((⟨#[]⟩ : ByteArray), ([] : List Int), false)))
def nums_TakeText.T4 : Bool × List (List Nat × List Nat) := (true, [([], []), ([], []), ([0, 1], [0, 1]), ([2], [2]), ([], []), ([], []), ([4, 5], [4, 5]), ([6], [6]), ([3, 7, 0, 1, 2, 3], [3]), ([7, 8, 0, 1, 2, 3, 4, 5, 6, 7, 8], [7]), ([9, 0, 1, 2, 3, 4, 5, 6, 7, 8, 9], [])])
def nums_TakeText.B4 : List Nat := [0, 0, 3, 7, 0, 0, 48, 112, 255, 511, 1023]
theorem nums_TakeText.tab4 : rtab .any (opsOf Try.f89 4) = nums_TakeText.T4 := by kernel_rfl
theorem nums_TakeText.bits4 : waitsOk nums_TakeText.T4.2 nums_TakeText.B4 = true := by kernel_rfl
set_option maxHeartbeats 8000000 in
set_option maxRecDepth 100000 in
theorem nums_TakeText.calls (A0 : Option Addr) (c0 : Nat) (l0 : List Int) (a1 : Int) (r1 : ByteArray) (r2 : List Int) (r3 : Bool) (w : World) (hr0 : Kd.C (Kd.int .u8) w A0 l0.length l0) (hc0 : l0.length ≤ c0) (h : nums_TakeText.f l0 a1 = some (r1, r2, r3)) :
    Calls Try.prog 89 #[.slice A0 l0.length c0, .int .i64 a1] w fun e w' => ∃ v1_ : Value, e = .returned (.tuple #[.string r1, v1_, .bool r3]) ∧ Kd.R (Kd.int .u8) 5 w' w.heap.size (fun _ => True) v1_ r2 ∧ Below w.heap.size w w' := by
  have HR0 := Aside0.mk hr0
  have HC0 := Aside0.mk hc0
  clear hr0 hc0
  have HB := Aside0.mk (Below.refl w.heap.size w)
  have H : ((nums_Take.f l0).bind fun bt129 => (if bt129.2.2 = true then (if bt129.1 > (IntKind.u64.wrap (mx a1 0)) then (some ((⟨#[]⟩ : ByteArray), ([] : List Int), false)) else (if a1 < 0 then (some ((⟨#[]⟩ : ByteArray), ([] : List Int), false)) else (if bt129.1 > (IntKind.u64.wrap ((bt129.2.1.length : Int))) then (some ((⟨#[]⟩ : ByteArray), ([] : List Int), false)) else (if 0 ≤ bt129.1 then (if bt129.1 ≤ (bt129.2.1.length : Int) then ((slices_Clone_byte_byte.f (bt129.2.1.drop (bt129.1 : Int).toNat)).bind fun t142 => (some (strOfNums (bt129.2.1.take (bt129.1 : Int).toNat), t142, true))) else (none)) else (none))))) else (some ((⟨#[]⟩ : ByteArray), ([] : List Int), false)))) = some (r1, r2, r3) := h
  clear h
  replace H := Option.bind_eq_some_iff.mp H
  obtain ⟨⟨t129, t130, t131⟩, A30, H⟩ := H
  replace H : (if t131 = true then (if t129 > (IntKind.u64.wrap (mx a1 0)) then (some ((⟨#[]⟩ : ByteArray), ([] : List Int), false)) else (if a1 < 0 then (some ((⟨#[]⟩ : ByteArray), ([] : List Int), false)) else (if t129 > (IntKind.u64.wrap ((t130.length : Int))) then (some ((⟨#[]⟩ : ByteArray), ([] : List Int), false)) else (if 0 ≤ t129 then (if t129 ≤ (t130.length : Int) then ((slices_Clone_byte_byte.f (t130.drop (t129 : Int).toNat)).bind fun t142 => (some (strOfNums (t130.take (t129 : Int).toNat), t142, true))) else (none)) else (none))))) else (some ((⟨#[]⟩ : ByteArray), ([] : List Int), false))) = some (r1, r2, r3) := H
  have A3 := Aside0.mk A30
  clear A30
  by_cases c4 : t131 = true
  · subst c4
    have H1 : (if t129 > (IntKind.u64.wrap (mx a1 0)) then (some ((⟨#[]⟩ : ByteArray), ([] : List Int), false)) else (if a1 < 0 then (some ((⟨#[]⟩ : ByteArray), ([] : List Int), false)) else (if t129 > (IntKind.u64.wrap ((t130.length : Int))) then (some ((⟨#[]⟩ : ByteArray), ([] : List Int), false)) else (if 0 ≤ t129 then (if t129 ≤ (t130.length : Int) then ((slices_Clone_byte_byte.f (t130.drop (t129 : Int).toNat)).bind fun t142 => (some (strOfNums (t130.take (t129 : Int).toNat), t142, true))) else (none)) else (none))))) = some (r1, r2, r3) := by rw [if_pos rfl] at H; exact H
    clear H
    have H := H1
    clear H1
    obtain ⟨ji5, hji5⟩ : ∃ j_ : Int, (mx a1 0) = j_ := ⟨_, rfl⟩
    replace H : (if t129 > (IntKind.u64.wrap (ji5)) then (some ((⟨#[]⟩ : ByteArray), ([] : List Int), false)) else (if a1 < 0 then (some ((⟨#[]⟩ : ByteArray), ([] : List Int), false)) else (if t129 > (IntKind.u64.wrap ((t130.length : Int))) then (some ((⟨#[]⟩ : ByteArray), ([] : List Int), false)) else (if 0 ≤ t129 then (if t129 ≤ (t130.length : Int) then ((slices_Clone_byte_byte.f (t130.drop (t129 : Int).toNat)).bind fun t142 => (some (strOfNums (t130.take (t129 : Int).toNat), t142, true))) else (none)) else (none))))) = some (r1, r2, r3) := by first | (rw [hji5] at H; exact H) | (simp only [hji5] at H ⊢; exact H)
    (try rw [hji5] at A3)
    (try (have hji5l : 0 ≤ ji5 := by (rw [← hji5]; unfold mx; (repeat' split) <;> omega)))
    (try (have hji5m : 0 ≤ ji5 := by omega))
    have hji5_ : (if a1 < 0 then 0 else a1) = ji5 := hji5
    by_cases c6 : t129 > (IntKind.u64.wrap (ji5))
    · rw [if_pos c6] at H
      have c6b0 : decide ((IntKind.u64.wrap (ji5)) < t129) = true := decide_eq_true c6
      clear c6
      simp only [Option.some.injEq, Prod.mk.injEq] at H
      obtain ⟨rfl, rfl, rfl⟩ := H
      go_enter Try.func89, Try.ntmps89
      go_wp2_with (first | ((with_reducible refine gate_callee (f := 49) rfl ?_); refine goesL_ (some 12) rfl rfl Try.func49 (by kernel_rfl) rfl #[.slice A0 l0.length c0] rfl (by (try simp only [List.map_toArray, List.map_cons, List.map_nil]); first | done | rfl | (simp only [List.length_drop, List.length_take]; rfl)) ?_; (with_reducible refine (nums_Take.calls _ _ l0 t129 t130 true _ ?side1 ?side2 A3.out).mono ?_); (case side1 => repeat (first | exact HR0.out | (with_reducible refine Kd.C_alloc ?_ _) | (with_reducible refine Kd.C_drewN ?_ _) | (with_reducible refine Kd.C_drew ?_))); (case side2 => exact HC0.out); rintro e w7 ⟨v132, rfl, ho0, hb⟩; refine ⟨_, rfl, ?_⟩; have n0_ := Aside0.mk (Kd.R_lower ho0 (below_size (by repeat (first | (with_reducible first | exact HB.out | apply below_alloc | apply pw_below_drewN | apply below_drew1) | exact HB.out)))); have n1_ := Aside0.mk (below_step (by repeat (first | (with_reducible first | exact HB.out | apply below_alloc | apply pw_below_drewN | apply below_drew1) | exact HB.out)) hb); clear HB; have HO133 := n0_; have HB := n1_; clear n0_ n1_; (try clear hb); (try clear hb2); (try clear hk); (try clear hi); (try clear ho0)))
      go_ret3
      exact ⟨_, by first | rfl | (simp [errW_none, errW_some] <;> rfl) | (simp only [← hji5]; first | rfl | (simp [errW_none, errW_some] <;> rfl)) | (simp [*, errW_none, errW_some] <;> rfl), by first | exact Kd.R_nil _ _ _ _ _ | exact Kd.N_nil _ _ _ _ _ | exact Kd.V_nil _ _ _ _ _ | exact Kd.Q_nil _ _ _ _ _ | exact Kd.S_nil _ _ _ _ _, by repeat (first | (with_reducible first | exact HB.out | apply below_alloc | apply pw_below_drewN | apply below_drew1) | exact HB.out)⟩
    · rw [if_neg c6] at H
      have c6b0 : decide ((IntKind.u64.wrap (ji5)) < t129) = false := decide_eq_false c6
      clear c6
      by_cases c8 : a1 < 0
      · rw [if_pos c8] at H
        have c8b0 : decide (a1 < 0) = true := decide_eq_true c8
        clear c8
        simp only [Option.some.injEq, Prod.mk.injEq] at H
        obtain ⟨rfl, rfl, rfl⟩ := H
        go_enter Try.func89, Try.ntmps89
        go_wp2_with (first | ((with_reducible refine gate_callee (f := 49) rfl ?_); refine goesL_ (some 12) rfl rfl Try.func49 (by kernel_rfl) rfl #[.slice A0 l0.length c0] rfl (by (try simp only [List.map_toArray, List.map_cons, List.map_nil]); first | done | rfl | (simp only [List.length_drop, List.length_take]; rfl)) ?_; (with_reducible refine (nums_Take.calls _ _ l0 t129 t130 true _ ?side1 ?side2 A3.out).mono ?_); (case side1 => repeat (first | exact HR0.out | (with_reducible refine Kd.C_alloc ?_ _) | (with_reducible refine Kd.C_drewN ?_ _) | (with_reducible refine Kd.C_drew ?_))); (case side2 => exact HC0.out); rintro e w9 ⟨v132, rfl, ho0, hb⟩; refine ⟨_, rfl, ?_⟩; have n0_ := Aside0.mk (Kd.R_lower ho0 (below_size (by repeat (first | (with_reducible first | exact HB.out | apply below_alloc | apply pw_below_drewN | apply below_drew1) | exact HB.out)))); have n1_ := Aside0.mk (below_step (by repeat (first | (with_reducible first | exact HB.out | apply below_alloc | apply pw_below_drewN | apply below_drew1) | exact HB.out)) hb); clear HB; have HO133 := n0_; have HB := n1_; clear n0_ n1_; (try clear hb); (try clear hb2); (try clear hk); (try clear hi); (try clear ho0)))
        go_ret3
        exact ⟨_, by first | rfl | (simp [errW_none, errW_some] <;> rfl) | (simp only [← hji5]; first | rfl | (simp [errW_none, errW_some] <;> rfl)) | (simp [*, errW_none, errW_some] <;> rfl), by first | exact Kd.R_nil _ _ _ _ _ | exact Kd.N_nil _ _ _ _ _ | exact Kd.V_nil _ _ _ _ _ | exact Kd.Q_nil _ _ _ _ _ | exact Kd.S_nil _ _ _ _ _, by repeat (first | (with_reducible first | exact HB.out | apply below_alloc | apply pw_below_drewN | apply below_drew1) | exact HB.out)⟩
      · rw [if_neg c8] at H
        have c8b0 : decide (a1 < 0) = false := decide_eq_false c8
        clear c8
        by_cases c10 : t129 > (IntKind.u64.wrap ((t130.length : Int)))
        · rw [if_pos c10] at H
          have c10b0 : decide ((IntKind.u64.wrap ((t130.length : Int))) < t129) = true := decide_eq_true c10
          clear c10
          simp only [Option.some.injEq, Prod.mk.injEq] at H
          obtain ⟨rfl, rfl, rfl⟩ := H
          go_enter Try.func89, Try.ntmps89
          go_wp2_with (first | ((with_reducible refine gate_callee (f := 49) rfl ?_); refine goesL_ (some 12) rfl rfl Try.func49 (by kernel_rfl) rfl #[.slice A0 l0.length c0] rfl (by (try simp only [List.map_toArray, List.map_cons, List.map_nil]); first | done | rfl | (simp only [List.length_drop, List.length_take]; rfl)) ?_; (with_reducible refine (nums_Take.calls _ _ l0 t129 t130 true _ ?side1 ?side2 A3.out).mono ?_); (case side1 => repeat (first | exact HR0.out | (with_reducible refine Kd.C_alloc ?_ _) | (with_reducible refine Kd.C_drewN ?_ _) | (with_reducible refine Kd.C_drew ?_))); (case side2 => exact HC0.out); rintro e w11 ⟨v132, rfl, ho0, hb⟩; refine ⟨_, rfl, ?_⟩; have n0_ := Aside0.mk (Kd.R_lower ho0 (below_size (by repeat (first | (with_reducible first | exact HB.out | apply below_alloc | apply pw_below_drewN | apply below_drew1) | exact HB.out)))); have n1_ := Aside0.mk (below_step (by repeat (first | (with_reducible first | exact HB.out | apply below_alloc | apply pw_below_drewN | apply below_drew1) | exact HB.out)) hb); clear HB; have HO133 := n0_; have HB := n1_; clear n0_ n1_; (try clear hb); (try clear hb2); (try clear hk); (try clear hi); (try clear ho0); obtain ⟨Ao12, co12, eo12⟩ := Kd.R_slice HO133.out; subst eo12))
          go_ret3
          exact ⟨_, by first | rfl | (simp [errW_none, errW_some] <;> rfl) | (simp only [← hji5]; first | rfl | (simp [errW_none, errW_some] <;> rfl)) | (simp [*, errW_none, errW_some] <;> rfl), by first | exact Kd.R_nil _ _ _ _ _ | exact Kd.N_nil _ _ _ _ _ | exact Kd.V_nil _ _ _ _ _ | exact Kd.Q_nil _ _ _ _ _ | exact Kd.S_nil _ _ _ _ _, by repeat (first | (with_reducible first | exact HB.out | apply below_alloc | apply pw_below_drewN | apply below_drew1) | exact HB.out)⟩
        · rw [if_neg c10] at H
          have c10b0 : decide ((IntKind.u64.wrap ((t130.length : Int))) < t129) = false := decide_eq_false c10
          clear c10
          by_cases c13 : 0 ≤ t129
          · rw [if_pos c13] at H
            have c13b0 := eq_true c13
            have c13b1 : decide (0 ≤ t129) = true := decide_eq_true c13
            clear c13
            by_cases c14 : t129 ≤ (t130.length : Int)
            · rw [if_pos c14] at H
              have c14b0 := eq_true c14
              have c14b1 : decide (t129 ≤ (t130.length : Int)) = true := decide_eq_true c14
              clear c14
              obtain ⟨y134, hy134⟩ : ∃ y_ : List Int, y_ = (t130.take (t129 : Int).toNat) := ⟨_, rfl⟩
              replace H : ((slices_Clone_byte_byte.f (t130.drop (t129 : Int).toNat)).bind fun t142 => (some (strOfNums y134, t142, true))) = some (r1, r2, r3) := by first | (rw [hy134]; with_reducible exact H) | (have H2_ := (Option.bind_some _ _).symm.trans H; rw [hy134]; with_reducible exact H2_) | (have H2_ := (Option.bind_some _ _).symm.trans H; with_reducible exact H2_) | with_reducible exact H | (rw [hy134]; exact H) | exact H
              have Ny134 := Aside0.mk hy134
              clear hy134
              have c15b0 := eq_true (of_decide_eq_true (by first | (with_reducible assumption) | assumption) : 0 ≤ t129)
              have c16b0 := eq_true (of_decide_eq_true (by first | (with_reducible assumption) | assumption) : t129 ≤ (t130.length : Int))
              obtain ⟨y138, hy138⟩ : ∃ y_ : List Int, y_ = (t130.drop (t129 : Int).toNat) := ⟨_, rfl⟩
              replace H : ((slices_Clone_byte_byte.f y138).bind fun t142 => (some (strOfNums y134, t142, true))) = some (r1, r2, r3) := by first | (rw [hy138]; with_reducible exact H) | (have H2_ := (Option.bind_some _ _).symm.trans H; rw [hy138]; with_reducible exact H2_) | (have H2_ := (Option.bind_some _ _).symm.trans H; with_reducible exact H2_) | with_reducible exact H | (rw [hy138]; exact H) | exact H
              have Ny138 := Aside0.mk hy138
              clear hy138
              replace H := Option.bind_eq_some_iff.mp H
              obtain ⟨t142, A170, H⟩ := H
              replace H : (some (strOfNums y134, t142, true)) = some (r1, r2, r3) := H
              have A17 := Aside0.mk A170
              clear A170
              simp only [Option.some.injEq, Prod.mk.injEq] at H
              obtain ⟨rfl, rfl, rfl⟩ := H
              go_enter Try.func89, Try.ntmps89
              try go_wp2_with (first | ((with_reducible refine gate_callee (f := 49) rfl ?_); refine goesL_ (some 12) rfl rfl Try.func49 (by kernel_rfl) rfl #[.slice A0 l0.length c0] rfl (by (try simp only [List.map_toArray, List.map_cons, List.map_nil]); first | done | rfl | (simp only [List.length_drop, List.length_take]; rfl)) ?_; (with_reducible refine (nums_Take.calls _ _ l0 t129 t130 true _ ?side1 ?side2 A3.out).mono ?_); (case side1 => repeat (first | exact HR0.out | (with_reducible refine Kd.C_alloc ?_ _) | (with_reducible refine Kd.C_drewN ?_ _) | (with_reducible refine Kd.C_drew ?_))); (case side2 => exact HC0.out); rintro e w18 ⟨v132, rfl, ho0, hb⟩; refine ⟨_, rfl, ?_⟩; have n0_ := Aside0.mk (Kd.R_lower ho0 (below_size (by repeat (first | (with_reducible first | exact HB.out | apply below_alloc | apply pw_below_drewN | apply below_drew1) | exact HB.out)))); have n1_ := Aside0.mk (below_step (by repeat (first | (with_reducible first | exact HB.out | apply below_alloc | apply pw_below_drewN | apply below_drew1) | exact HB.out)) hb); clear HB; have HO133 := n0_; have HB := n1_; clear n0_ n1_; (try clear hb); (try clear hb2); (try clear hk); (try clear hi); (try clear ho0); obtain ⟨Ao19, co19, eo19⟩ := Kd.R_slice HO133.out; subst eo19))
              have n0_ := Aside0.mk (Kd.R_drew HO133.out)
              have n1_ := Aside0.mk (below_drew1 HB.out)
              clear HO133
              clear HB
              have HO133 := n0_
              have HB := n1_
              clear n0_ n1_
              have q21 : (t129 : Int) ≤ ((t130.length : Int) : Int) := of_decide_eq_true (by first | (with_reducible assumption) | assumption)
              obtain ⟨i021, hi021, _, hsz21, _⟩ := info_parts info5
              have hroom21 : t130.length ≤ co19 := (Kd.R_reads' HO133.out).2.1
              have hC21 : Kd.C (Kd.int .u8) _ Ao19 t130.length t130 := (Kd.R_reads' HO133.out).2.2
              have hcut21 := cut_to (P := Try.prog) 23 5 .u64 Try.underlying23 hi021 Ao19 t130.length co19 t129 (of_decide_eq_true (by first | (with_reducible assumption) | assumption)) q21 hroom21
              have hr21 := Kd.C_take (m := (t129 : Int).toNat) hC21 (by omega)
              have hy21 : y134.length = (t129 : Int).toNat := (by rw [Ny134.out, List.length_take]; omega)
              rw [← Ny134.out] at hr21
              rw [← hy21] at hcut21
              have HR137 := Aside0.mk hr21
              have HC137 := Aside0.mk (show y134.length ≤ co19 from by omega)
              clear hr21 hC21 hroom21 hi021 hsz21
              have KY21 := Aside0.mk hy21
              clear hy21
              have KL21 := Aside0.mk (show (t129 : Int).toNat ≤ t130.length from by omega)
              replace q21 := eq_true q21
              have q22 : (t129 : Int) ≤ ((t130.length : Int) : Int) := of_decide_eq_true (by first | (with_reducible assumption) | assumption)
              obtain ⟨i022, hi022, _, hsz22, _⟩ := info_parts info5
              have hroom22 : t130.length ≤ co19 := (Kd.R_reads' HO133.out).2.1
              have hC22 : Kd.C (Kd.int .u8) _ Ao19 t130.length t130 := (Kd.R_reads' HO133.out).2.2
              have q022 : (0 : Int) ≤ (t129 : Int) := of_decide_eq_true (by first | (with_reducible assumption) | assumption)
              have hcut22 := cut_from (P := Try.prog) 23 5 .u64 Try.underlying23 hi022 1 hsz22 Ao19 t130.length co19 t129 q022 q22
              have hr22 := Kd.C_drop (m := (t129 : Int).toNat) (c := co19) hC22 (by omega) hroom22
              obtain ⟨A22, hA22⟩ : ∃ A1, A1 = (if co19 = (t129 : Int).toNat then Ao19 else (Ao19 : Option Addr).map (·.add ((t129 : Int).toNat * 1))) := ⟨_, rfl⟩
              obtain ⟨c22, hc22⟩ : ∃ c1, c1 = co19 - (t129 : Int).toNat := ⟨_, rfl⟩
              have hy22 : y138.length = t130.length - (t129 : Int).toNat := (by rw [Ny138.out, List.length_drop] <;> omega)
              rw [show (t130).drop (t129 : Int).toNat = y138 from Ny138.out.symm] at hr22
              replace hr22 : Kd.C (Kd.int .u8) _ A22 y138.length y138 := (by rw [hA22]; exact hr22)
              rw [← hy22, ← hA22, ← hc22] at hcut22
              have HR141 := Aside0.mk hr22
              have HC141 := Aside0.mk (show y138.length ≤ c22 from by rw [hy22, hc22]; exact Nat.sub_le_sub_right hroom22 _)
              clear hr22 hC22 hroom22 hi022 hsz22 hc22
              have KY22 := Aside0.mk hy22
              have KA22 := Aside0.mk hA22
              clear hy22 hA22
              have KL22 := Aside0.mk (show (t129 : Int).toNat ≤ t130.length from by omega)
              replace q22 := eq_true q22
              have hcv23 := Kd.C_string (P := Try.prog) (A := Ao19) (c := co19) Try.underlying23 Try.underlying5 Try.underlying9 (by repeat (first | (with_reducible exact HR137.out) | (with_reducible refine Kd.C_alloc ?_ _) | (with_reducible refine Kd.C_drewN ?_ _) | (with_reducible refine Kd.C_drew ?_) | exact HR137.out))
              obtain ⟨S_, hS0_, hS1_, hS2_⟩ := conv_stays (P := Try.prog) (A := Ao19) (c := co19) Try.underlying23 Try.underlying5 Try.underlying9 (by repeat (first | (with_reducible exact HR137.out) | (with_reducible refine Kd.C_alloc ?_ _) | (with_reducible refine Kd.C_drewN ?_ _) | (with_reducible refine Kd.C_drew ?_) | exact HR137.out))
              refine start_ (n := 11) (S := fun w' => S_ w') (ds := []) #[false, false, false, false, false, false, false, false, false, false, false] (by kernel_rfl) rfl rfl ((by first | exact hS0_ | exact hS1_ _ _ hS0_ (below_drew (Below.refl _ _)))) (fun hHeld => ?_); refine with_tabW nums_TakeText.tab4 nums_TakeText.bits4 (fun HT_ HW_ => ?_)
              generalize w18.drew = w20 at HO133 HB HR137 HR141 hHeld ⊢
              refine pure_ (i := 0) (N := some 36) (v := ?_) (a' := ?_) #[true, false, false, false, false, false, false, false, false, false, false] rfl rfl (any_of HT_.out (by kernel_rfl)) (fun _ _ _ h => h) (Or.inl ⟨by rfl, ?_⟩) ?_ ?_
              rotate_left
              · intro w'
                go_simp
                with_reducible rfl
              rotate_left
              · simp only [Act.put, List.setIfInBounds_toArray, List.set_cons_zero, List.set_cons_succ, i64_w, i32_w]
                rfl
              refine pure_ (i := 1) (N := some 37) (v := ?_) (a' := ?_) #[true, true, false, false, false, false, false, false, false, false, false] rfl rfl (any_of HT_.out (by kernel_rfl)) (fun _ _ _ h => h) (Or.inl ⟨by rfl, ?_⟩) ?_ ?_
              rotate_left
              · intro w'
                go_simp
                with_reducible rfl
              rotate_left
              · simp only [Act.put, List.setIfInBounds_toArray, List.set_cons_zero, List.set_cons_succ, i64_w, i32_w]
                rfl
              refine pure_ (i := 2) (N := some 38) (v := ?_) (a' := ?_) #[true, true, true, false, false, false, false, false, false, false, false] rfl rfl (any_of HT_.out (by kernel_rfl)) (fun _ _ _ h => h) (Or.inl ⟨by rfl, ?_⟩) ?_ ?_
              rotate_left
              · intro w'
                go_simp
                with_reducible rfl
              rotate_left
              · simp only [Act.put, List.setIfInBounds_toArray, List.set_cons_zero, List.set_cons_succ, i64_w, i32_w]
                rfl
              refine pure_ (i := 4) (N := some 40) (v := ?_) (a' := ?_) #[true, true, true, false, true, false, false, false, false, false, false] rfl rfl (any_of HT_.out (by kernel_rfl)) (fun _ _ _ h => h) (Or.inl ⟨by rfl, ?_⟩) ?_ ?_
              rotate_left
              · intro w'
                go_simp
                with_reducible rfl
              rotate_left
              · simp only [Act.put, List.setIfInBounds_toArray, List.set_cons_zero, List.set_cons_succ, i64_w, i32_w]
                rfl
              refine pure_ (i := 5) (N := some 41) (v := ?_) (a' := ?_) #[true, true, true, false, true, true, false, false, false, false, false] rfl rfl (any_of HT_.out (by kernel_rfl)) (fun _ _ _ h => h) (Or.inl ⟨by rfl, ?_⟩) ?_ ?_
              rotate_left
              · intro w'
                go_simp
                with_reducible rfl
              rotate_left
              · simp only [Act.put, List.setIfInBounds_toArray, List.set_cons_zero, List.set_cons_succ, i64_w, i32_w]
                rfl
              refine pure_ (i := 6) (N := some 42) (v := ?_) (a' := ?_) #[true, true, true, false, true, true, true, false, false, false, false] rfl rfl (any_of HT_.out (by kernel_rfl)) (fun _ _ _ h => h) (Or.inl ⟨by rfl, ?_⟩) ?_ ?_
              rotate_left
              · intro w'
                go_simp
                with_reducible rfl
              rotate_left
              · simp only [Act.put, List.setIfInBounds_toArray, List.set_cons_zero, List.set_cons_succ, i64_w, i32_w]
                rfl
              refine take_ (i := 3) (N := some 39) (v := ?_) (a' := ?_) #[true, true, true, true, true, true, true, false, false, false, false] rfl rfl (take_ofW HT_.out HW_.out (by kernel_rfl)) (fun _ _ _ h => h) (Or.inl ⟨by rfl, ?_⟩) hHeld ?_ ?_
              rotate_left
              · intro w' s0
                have s1_ := hS2_ _ s0
                go_simp
                with_reducible rfl
              rotate_left
              · simp only [Act.put, List.setIfInBounds_toArray, List.set_cons_zero, List.set_cons_succ, i64_w, i32_w]
                rfl
              refine one_ (i := 7) (N := some 43) #[true, true, true, true, true, true, true, true, false, false, false] rfl rfl (one_of HT_.out (by kernel_rfl)) (by decide) (fun K hK => ?_)
              refine goes_ Try.func69 (by kernel_rfl) rfl #[.slice A22 y138.length c22] (by rfl) rfl rfl (by (try simp only [List.map_toArray, List.map_cons, List.map_nil]); first | done | rfl | (simp only [List.length_drop, List.length_take]; rfl)) ?_
              with_reducible refine (slices_Clone_byte_byte.calls _ _ y138 t142 _ ?side1 ?side2 A17.out).mono ?_
              (case side1 => repeat (first | exact (by repeat (first | (with_reducible exact HR141.out) | (with_reducible refine Kd.C_alloc ?_ _) | (with_reducible refine Kd.C_drewN ?_ _) | (with_reducible refine Kd.C_drew ?_) | exact HR141.out)) | (with_reducible refine Kd.C_alloc ?_ _) | (with_reducible refine Kd.C_drewN ?_ _) | (with_reducible refine Kd.C_drew ?_)))
              (case side2 => exact HC141.out)
              rintro e w24 ⟨v143, rfl, ho0, hb⟩
              have hHn_ := hS1_ _ _ hHeld hb
              refine ⟨_, rfl, ?_⟩
              have n0_ := Aside0.mk (Kd.R_elder' (by (with_reducible repeat (first | apply Kd.R_alloc | apply Kd.R_drewN | apply Kd.R_drew)); exact HO133.out) (Kd.R_base ho0) hb)
              have n1_ := Aside0.mk (Kd.R_lower (Kd.R_new' ho0 (Kd.R_lt (by (with_reducible repeat (first | apply Kd.R_alloc | apply Kd.R_drewN | apply Kd.R_drew)); exact HO133.out))) (below_size (by repeat (first | (with_reducible first | exact HB.out | apply below_alloc | apply pw_below_drewN | apply below_drew1) | exact HB.out))))
              have n2_ := Aside0.mk (Kd.C_below (by repeat (first | (with_reducible exact HR137.out) | (with_reducible refine Kd.C_alloc ?_ _) | (with_reducible refine Kd.C_drewN ?_ _) | (with_reducible refine Kd.C_drew ?_) | exact HR137.out)) hb)
              have n3_ := Aside0.mk (Kd.C_below (by repeat (first | (with_reducible exact HR141.out) | (with_reducible refine Kd.C_alloc ?_ _) | (with_reducible refine Kd.C_drewN ?_ _) | (with_reducible refine Kd.C_drew ?_) | exact HR141.out)) hb)
              have n4_ := Aside0.mk (below_step (by repeat (first | (with_reducible first | exact HB.out | apply below_alloc | apply pw_below_drewN | apply below_drew1) | exact HB.out)) hb)
              clear HO133
              clear HR137
              clear HR141
              clear HB
              have HO133 := n0_
              have HO144 := n1_
              have HR137 := n2_
              have HR141 := n3_
              have HB := n4_
              clear n0_ n1_ n2_ n3_ n4_
              (try clear hb)
              (try clear hb2)
              (try clear hk)
              (try clear hi)
              (try clear ho0)
              refine hK.out _ _ (hHn_) (fun hHeld => ?_)
              clear hK K
              refine norm_ (a' := ?_) ?_ ?_
              rotate_left
              · show Act.put _ (some 43) _ = _
                simp only [Act.put, List.setIfInBounds_toArray, List.set_cons_zero, List.set_cons_succ, i64_w, i32_w]
                rfl
              refine pure_ (i := 8) (N := some 4) (v := ?_) (a' := ?_) #[true, true, true, true, true, true, true, true, true, false, false] rfl rfl (any_of HT_.out (by kernel_rfl)) (fun _ _ _ h => h) (Or.inl ⟨by rfl, ?_⟩) ?_ ?_
              rotate_left
              · intro w'
                go_simp
                with_reducible rfl
              rotate_left
              · simp only [Act.put, List.setIfInBounds_toArray, List.set_cons_zero, List.set_cons_succ, i64_w, i32_w]
                rfl
              refine pure_ (i := 9) (N := some 5) (v := ?_) (a' := ?_) #[true, true, true, true, true, true, true, true, true, true, false] rfl rfl (any_of HT_.out (by kernel_rfl)) (fun _ _ _ h => h) (Or.inl ⟨by rfl, ?_⟩) ?_ ?_
              rotate_left
              · intro w'
                go_simp
                with_reducible rfl
              rotate_left
              · simp only [Act.put, List.setIfInBounds_toArray, List.set_cons_zero, List.set_cons_succ, i64_w, i32_w]
                rfl
              refine pure_ (i := 10) (N := some 6) (v := ?_) (a' := ?_) #[true, true, true, true, true, true, true, true, true, true, true] rfl rfl (any_of HT_.out (by kernel_rfl)) (fun _ _ _ h => h) (Or.inl ⟨by rfl, ?_⟩) ?_ ?_
              rotate_left
              · intro w'
                go_simp
                with_reducible rfl
              rotate_left
              · simp only [Act.put, List.setIfInBounds_toArray, List.set_cons_zero, List.set_cons_succ, i64_w, i32_w]
                rfl
              refine done_ (done_of HT_.out (by kernel_rfl)) ?_
              try go_wp2
              go_ret3
              exact ⟨_, by first | rfl | (simp [errW_none, errW_some] <;> rfl) | (simp only [← hji5]; first | rfl | (simp [errW_none, errW_some] <;> rfl)) | (simp [*, errW_none, errW_some] <;> rfl), by (with_reducible repeat (first | apply Kd.R_alloc | apply Kd.R_drewN | apply Kd.R_drew)); exact Kd.R_mono HO144.out (fun _ hk => trivial), by repeat (first | (with_reducible first | exact HB.out | apply below_alloc | apply pw_below_drewN | apply below_drew1) | exact HB.out)⟩
            · rw [if_neg c14] at H
              exact absurd H (by simp)
          · rw [if_neg c13] at H
            exact absurd H (by simp)
  · replace c4 := Bool.eq_false_iff.mpr c4
    subst c4
    have H1 : (some ((⟨#[]⟩ : ByteArray), ([] : List Int), false)) = some (r1, r2, r3) := by rw [if_neg (show ¬ (false = true) by decide)] at H; exact H
    clear H
    have H := H1
    clear H1
    simp only [Option.some.injEq, Prod.mk.injEq] at H
    obtain ⟨rfl, rfl, rfl⟩ := H
    go_enter Try.func89, Try.ntmps89
    go_wp2_with (first | ((with_reducible refine gate_callee (f := 49) rfl ?_); refine goesL_ (some 12) rfl rfl Try.func49 (by kernel_rfl) rfl #[.slice A0 l0.length c0] rfl (by (try simp only [List.map_toArray, List.map_cons, List.map_nil]); first | done | rfl | (simp only [List.length_drop, List.length_take]; rfl)) ?_; (with_reducible refine (nums_Take.calls _ _ l0 t129 t130 false _ ?side1 ?side2 A3.out).mono ?_); (case side1 => repeat (first | exact HR0.out | (with_reducible refine Kd.C_alloc ?_ _) | (with_reducible refine Kd.C_drewN ?_ _) | (with_reducible refine Kd.C_drew ?_))); (case side2 => exact HC0.out); rintro e w26 ⟨v132, rfl, ho0, hb⟩; refine ⟨_, rfl, ?_⟩; have n0_ := Aside0.mk (Kd.R_lower ho0 (below_size (by repeat (first | (with_reducible first | exact HB.out | apply below_alloc | apply pw_below_drewN | apply below_drew1) | exact HB.out)))); have n1_ := Aside0.mk (below_step (by repeat (first | (with_reducible first | exact HB.out | apply below_alloc | apply pw_below_drewN | apply below_drew1) | exact HB.out)) hb); clear HB; have HO133 := n0_; have HB := n1_; clear n0_ n1_; (try clear hb); (try clear hb2); (try clear hk); (try clear hi); (try clear ho0)))
    go_ret3
    exact ⟨_, by first | rfl | (simp [errW_none, errW_some] <;> rfl) | (simp [*, errW_none, errW_some] <;> rfl), by first | exact Kd.R_nil _ _ _ _ _ | exact Kd.N_nil _ _ _ _ _ | exact Kd.V_nil _ _ _ _ _ | exact Kd.Q_nil _ _ _ _ _ | exact Kd.S_nil _ _ _ _ _, by repeat (first | (with_reducible first | exact HB.out | apply below_alloc | apply pw_below_drewN | apply below_drew1) | exact HB.out)⟩

end Go.Proofs.Ytlaihdipagejfaa.P

end
