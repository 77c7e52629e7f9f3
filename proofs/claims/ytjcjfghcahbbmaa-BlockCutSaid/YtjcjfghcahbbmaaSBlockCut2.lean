/- Proved here: what the row of BlockCut needs, part 2. Conditions: those of each theorem. Written for this claim by programs; what the claim does not use is left out. -/
import Derived.Deep.RegionLaw
import Derived.Lib.AppendZeros
import Derived.Test.YtjcjfghcahbbmaaSBlockCut1
section
namespace Go.Proofs.Ytjcjfghcahbbmaa.P
open Go.RowKit Go.Proofs.YtjcjfghcahbbmaaG Go.Proofs.YtjcjfghcahbbmaaW.PrintWords Go.Proofs.YtjcjfghcahbbmaaW.PrintLast Go.Proofs.YtjcjfghcahbbmaaW.PrintMore
attribute [local go_sem] str_gtr str_geq str_leq max2_int min2_int max_two min_two max_three min_three max_four min_four   -- for this text's walks alone
set_option linter.unusedVariables false
set_option linter.unusedSimpArgs false

def ikey_Entry.f (a0_0 : ByteArray) (a0_1 : Int) (a0_2 : Int) (a0_3 : ByteArray) : Option (Bool):=if a0_2 = 0 then ((ikey_Right.f a0_0 a0_1 a0_2).bind fun t124=>(if t124 = true then (some (decide ((a0_3.size : Int) ≤ 0))) else (some false))) else ((ikey_Right.f a0_0 a0_1 a0_2).bind fun t125=>(if t125 = true then (some (decide ((a0_3.size : Int) ≤ 256))) else (some false)))
set_option maxHeartbeats 8000000 in
set_option maxRecDepth 100000 in
theorem ikey_Entry.calls (a0_0 : ByteArray) (a0_1 : Int) (a0_2 : Int) (a0_3 : ByteArray) (r : Bool) (w : World) (h : ikey_Entry.f a0_0 a0_1 a0_2 a0_3 = some r) :
  Calls Try.prog 64 #[.agg #[.string a0_0,.int .u64 a0_1,.int .u8 a0_2,.string a0_3]] w fun e w'=>e = .returned (.bool r) ∧ Below w.heap.size w w':=by
 have hu59:=Try.underlying59
 have hu50:=Try.underlying50
 have HB:=Aside0.mk (Below.refl w.heap.size w)
 have H : (if a0_2 = 0 then ((ikey_Right.f a0_0 a0_1 a0_2).bind fun t124=>(if t124 = true then (some (decide ((a0_3.size : Int) ≤ 0))) else (some false))) else ((ikey_Right.f a0_0 a0_1 a0_2).bind fun t125=>(if t125 = true then (some (decide ((a0_3.size : Int) ≤ 256))) else (some false)))) = some r:=h
 clear h
 by_cases c2 : a0_2 = 0
 ·rw [if_pos c2] at H
  have c2b0 : (a0_2 == 0) = true:=beq_iff_eq.mpr c2
  have c2b1 : (a0_2 != 0) = false:=bne_eq_false_iff_eq.mpr c2
  clear c2
  replace H:=Option.bind_eq_some_iff.mp H
  obtain ⟨t124,A30,H⟩:=H
  replace H : (if t124 = true then (some (decide ((a0_3.size : Int) ≤ 0))) else (some false)) = some r:=H
  have A3:=Aside0.mk A30
  clear A30
  by_cases c4 : t124 = true
  ·subst c4
   have H1 : (some (decide ((a0_3.size : Int) ≤ 0))) = some r:=by rw [if_pos rfl] at H;exact H
   clear H
   have H:=H1
   clear H1
   obtain rfl:=Option.some.inj H
   go_enter Try.func64,Try.ntmps64
   go_wp2_with (first|((with_reducible refine gate_dst (N:=1) rfl ?_);(try (refine gate_guard (by rfl) ?_;dsimp only));refine box_event ?hg (N:=1) ?hd (cs:=#[.string a0_0,.int .u64 a0_1,.int .u8 a0_2,.string a0_3]) (t:=59) ?hr ?_;(case hd=>rfl);(case hg=>rfl);(case hr=>first|(go_simp;done)|(go_simp;rfl));intro gb123 hg w5 hbox hb;have n0_:=Aside0.mk (below_step (by repeat (first|(with_reducible first|exact HB.out|apply below_alloc|apply pw_below_drewN|apply below_drew1)|exact HB.out)) hb);have n1_:=Aside0.mk (hbox);have n2_:=Aside0.mk ((by rw [hg];exact (below_size (by repeat (first|(with_reducible first|exact HB.out|apply below_alloc|apply pw_below_drewN|apply below_drew1)|exact HB.out))) : w.heap.size ≤ gb123));have n3_:=Aside0.mk ((by rw [hg];exact (below_size (by repeat (first|(with_reducible first|exact HB.out|apply below_alloc|apply pw_below_drewN|apply below_drew1)|exact HB.out))) : w.heap.size ≤ gb123));clear HB;have HB:=n0_;have BK123:=n1_;have GW123:=n2_;have GE123:=n3_;clear n0_ n1_ n2_ n3_;clear hb hbox hg;have hcz6_0 : w5.cell? ⟨gb123,0,none⟩ = some (.string a0_0):=(blk_cell BK123.out 0).trans rfl;have hcz6_1 : w5.cell? ⟨gb123,1,none⟩ = some (.int .u64 a0_1):=(blk_cell BK123.out 1).trans rfl;have hcz6_2 : w5.cell? ⟨gb123,2,none⟩ = some (.int .u8 a0_2):=(blk_cell BK123.out 2).trans rfl;have hcz6_3 : w5.cell? ⟨gb123,3,none⟩ = some (.string a0_3):=(blk_cell BK123.out 3).trans rfl;have hfz6_0:=blk_frozen BK123.out 0;have hfz6_1:=blk_frozen BK123.out 1;have hfz6_2:=blk_frozen BK123.out 2;have hfz6_3:=blk_frozen BK123.out 3)|((with_reducible refine gate_callee (f:=90) rfl ?_);refine goesL_ (some 10) rfl rfl Try.func90 (by kernel_rfl) rfl #[.agg #[.string a0_0,.int .u64 a0_1,.int .u8 a0_2]] rfl (by (try simp only [List.map_toArray,List.map_cons,List.map_nil]);first|done|rfl|(simp only [List.length_drop,List.length_take];rfl)) ?_;(with_reducible refine (ikey_Right.calls a0_0 a0_1 a0_2 true _ A3.out).mono ?_);rintro e w7 ⟨rfl,hb⟩;refine ⟨_,rfl,?_⟩;have n0_:=Aside0.mk (blk_below (g:=gb123) (o:=.cells #[.string a0_0,.int .u64 a0_1,.int .u8 a0_2,.string a0_3] 59 (0,0)) (by (with_reducible repeat (first|refine blk_drewN ?_ _|refine blk_drew ?_|refine blk_alloc ?_ _));exact BK123.out) hb);have n1_:=Aside0.mk (below_step (by repeat (first|(with_reducible first|exact HB.out|apply below_alloc|apply pw_below_drewN|apply below_drew1|refine below_set ?_ GE123.out)|exact HB.out)) hb);clear BK123;clear HB;have BK123:=n0_;have HB:=n1_;clear n0_ n1_;(try clear hb);(try clear hb2);(try clear hk);(try clear hi);have hcz8_0 : w7.cell? ⟨gb123,0,none⟩ = some (.string a0_0):=(blk_cell BK123.out 0).trans rfl;have hcz8_1 : w7.cell? ⟨gb123,1,none⟩ = some (.int .u64 a0_1):=(blk_cell BK123.out 1).trans rfl;have hcz8_2 : w7.cell? ⟨gb123,2,none⟩ = some (.int .u8 a0_2):=(blk_cell BK123.out 2).trans rfl;have hcz8_3 : w7.cell? ⟨gb123,3,none⟩ = some (.string a0_3):=(blk_cell BK123.out 3).trans rfl;have hfz8_0:=blk_frozen BK123.out 0;have hfz8_1:=blk_frozen BK123.out 1;have hfz8_2:=blk_frozen BK123.out 2;have hfz8_3:=blk_frozen BK123.out 3))
   go_ret
   exact ⟨by first|rfl|(simp [errW_none,errW_some] <;> rfl)|(simp [*,errW_none,errW_some] <;> rfl),by repeat (first|(with_reducible first|exact HB.out|apply below_alloc|apply pw_below_drewN|apply below_drew1|refine below_set ?_ GE123.out)|exact HB.out)⟩
  ·replace c4:=Bool.eq_false_iff.mpr c4
   subst c4
   have H1 : (some false) = some r:=by rw [if_neg (show ¬ (false = true) by decide)] at H;exact H
   clear H
   have H:=H1
   clear H1
   obtain rfl:=Option.some.inj H
   go_enter Try.func64,Try.ntmps64
   go_wp2_with (first|((with_reducible refine gate_dst (N:=1) rfl ?_);(try (refine gate_guard (by rfl) ?_;dsimp only));refine box_event ?hg (N:=1) ?hd (cs:=#[.string a0_0,.int .u64 a0_1,.int .u8 a0_2,.string a0_3]) (t:=59) ?hr ?_;(case hd=>rfl);(case hg=>rfl);(case hr=>first|(go_simp;done)|(go_simp;rfl));intro gb123 hg w9 hbox hb;have n0_:=Aside0.mk (below_step (by repeat (first|(with_reducible first|exact HB.out|apply below_alloc|apply pw_below_drewN|apply below_drew1)|exact HB.out)) hb);have n1_:=Aside0.mk (hbox);have n2_:=Aside0.mk ((by rw [hg];exact (below_size (by repeat (first|(with_reducible first|exact HB.out|apply below_alloc|apply pw_below_drewN|apply below_drew1)|exact HB.out))) : w.heap.size ≤ gb123));have n3_:=Aside0.mk ((by rw [hg];exact (below_size (by repeat (first|(with_reducible first|exact HB.out|apply below_alloc|apply pw_below_drewN|apply below_drew1)|exact HB.out))) : w.heap.size ≤ gb123));clear HB;have HB:=n0_;have BK123:=n1_;have GW123:=n2_;have GE123:=n3_;clear n0_ n1_ n2_ n3_;clear hb hbox hg;have hcz10_0 : w9.cell? ⟨gb123,0,none⟩ = some (.string a0_0):=(blk_cell BK123.out 0).trans rfl;have hcz10_1 : w9.cell? ⟨gb123,1,none⟩ = some (.int .u64 a0_1):=(blk_cell BK123.out 1).trans rfl;have hcz10_2 : w9.cell? ⟨gb123,2,none⟩ = some (.int .u8 a0_2):=(blk_cell BK123.out 2).trans rfl;have hcz10_3 : w9.cell? ⟨gb123,3,none⟩ = some (.string a0_3):=(blk_cell BK123.out 3).trans rfl;have hfz10_0:=blk_frozen BK123.out 0;have hfz10_1:=blk_frozen BK123.out 1;have hfz10_2:=blk_frozen BK123.out 2;have hfz10_3:=blk_frozen BK123.out 3)|((with_reducible refine gate_callee (f:=90) rfl ?_);refine goesL_ (some 10) rfl rfl Try.func90 (by kernel_rfl) rfl #[.agg #[.string a0_0,.int .u64 a0_1,.int .u8 a0_2]] rfl (by (try simp only [List.map_toArray,List.map_cons,List.map_nil]);first|done|rfl|(simp only [List.length_drop,List.length_take];rfl)) ?_;(with_reducible refine (ikey_Right.calls a0_0 a0_1 a0_2 false _ A3.out).mono ?_);rintro e w11 ⟨rfl,hb⟩;refine ⟨_,rfl,?_⟩;have n0_:=Aside0.mk (blk_below (g:=gb123) (o:=.cells #[.string a0_0,.int .u64 a0_1,.int .u8 a0_2,.string a0_3] 59 (0,0)) (by (with_reducible repeat (first|refine blk_drewN ?_ _|refine blk_drew ?_|refine blk_alloc ?_ _));exact BK123.out) hb);have n1_:=Aside0.mk (below_step (by repeat (first|(with_reducible first|exact HB.out|apply below_alloc|apply pw_below_drewN|apply below_drew1|refine below_set ?_ GE123.out)|exact HB.out)) hb);clear BK123;clear HB;have BK123:=n0_;have HB:=n1_;clear n0_ n1_;(try clear hb);(try clear hb2);(try clear hk);(try clear hi)))
   go_ret
   exact ⟨by first|rfl|(simp [errW_none,errW_some] <;> rfl)|(simp [*,errW_none,errW_some] <;> rfl),by repeat (first|(with_reducible first|exact HB.out|apply below_alloc|apply pw_below_drewN|apply below_drew1|refine below_set ?_ GE123.out)|exact HB.out)⟩
 ·rw [if_neg c2] at H
  have c2b0 : (a0_2 == 0) = false:=beq_eq_false_iff_ne.mpr c2
  have c2b1 : (a0_2 != 0) = true:=bne_iff_ne.mpr c2
  replace H:=Option.bind_eq_some_iff.mp H
  obtain ⟨t125,A120,H⟩:=H
  replace H : (if t125 = true then (some (decide ((a0_3.size : Int) ≤ 256))) else (some false)) = some r:=H
  have A12:=Aside0.mk A120
  clear A120
  by_cases c13 : t125 = true
  ·subst c13
   have H1 : (some (decide ((a0_3.size : Int) ≤ 256))) = some r:=by rw [if_pos rfl] at H;exact H
   clear H
   have H:=H1
   clear H1
   obtain rfl:=Option.some.inj H
   go_enter Try.func64,Try.ntmps64
   go_wp2_with (first|((with_reducible refine gate_dst (N:=1) rfl ?_);(try (refine gate_guard (by rfl) ?_;dsimp only));refine box_event ?hg (N:=1) ?hd (cs:=#[.string a0_0,.int .u64 a0_1,.int .u8 a0_2,.string a0_3]) (t:=59) ?hr ?_;(case hd=>rfl);(case hg=>rfl);(case hr=>first|(go_simp;done)|(go_simp;rfl));intro gb123 hg w14 hbox hb;have n0_:=Aside0.mk (below_step (by repeat (first|(with_reducible first|exact HB.out|apply below_alloc|apply pw_below_drewN|apply below_drew1)|exact HB.out)) hb);have n1_:=Aside0.mk (hbox);have n2_:=Aside0.mk ((by rw [hg];exact (below_size (by repeat (first|(with_reducible first|exact HB.out|apply below_alloc|apply pw_below_drewN|apply below_drew1)|exact HB.out))) : w.heap.size ≤ gb123));have n3_:=Aside0.mk ((by rw [hg];exact (below_size (by repeat (first|(with_reducible first|exact HB.out|apply below_alloc|apply pw_below_drewN|apply below_drew1)|exact HB.out))) : w.heap.size ≤ gb123));clear HB;have HB:=n0_;have BK123:=n1_;have GW123:=n2_;have GE123:=n3_;clear n0_ n1_ n2_ n3_;clear hb hbox hg;have hcz15_0 : w14.cell? ⟨gb123,0,none⟩ = some (.string a0_0):=(blk_cell BK123.out 0).trans rfl;have hcz15_1 : w14.cell? ⟨gb123,1,none⟩ = some (.int .u64 a0_1):=(blk_cell BK123.out 1).trans rfl;have hcz15_2 : w14.cell? ⟨gb123,2,none⟩ = some (.int .u8 a0_2):=(blk_cell BK123.out 2).trans rfl;have hcz15_3 : w14.cell? ⟨gb123,3,none⟩ = some (.string a0_3):=(blk_cell BK123.out 3).trans rfl;have hfz15_0:=blk_frozen BK123.out 0;have hfz15_1:=blk_frozen BK123.out 1;have hfz15_2:=blk_frozen BK123.out 2;have hfz15_3:=blk_frozen BK123.out 3)|((with_reducible refine gate_callee (f:=90) rfl ?_);refine goesL_ (some 10) rfl rfl Try.func90 (by kernel_rfl) rfl #[.agg #[.string a0_0,.int .u64 a0_1,.int .u8 a0_2]] rfl (by (try simp only [List.map_toArray,List.map_cons,List.map_nil]);first|done|rfl|(simp only [List.length_drop,List.length_take];rfl)) ?_;(with_reducible refine (ikey_Right.calls a0_0 a0_1 a0_2 true _ A12.out).mono ?_);rintro e w16 ⟨rfl,hb⟩;refine ⟨_,rfl,?_⟩;have n0_:=Aside0.mk (blk_below (g:=gb123) (o:=.cells #[.string a0_0,.int .u64 a0_1,.int .u8 a0_2,.string a0_3] 59 (0,0)) (by (with_reducible repeat (first|refine blk_drewN ?_ _|refine blk_drew ?_|refine blk_alloc ?_ _));exact BK123.out) hb);have n1_:=Aside0.mk (below_step (by repeat (first|(with_reducible first|exact HB.out|apply below_alloc|apply pw_below_drewN|apply below_drew1|refine below_set ?_ GE123.out)|exact HB.out)) hb);clear BK123;clear HB;have BK123:=n0_;have HB:=n1_;clear n0_ n1_;(try clear hb);(try clear hb2);(try clear hk);(try clear hi);have hcz17_0 : w16.cell? ⟨gb123,0,none⟩ = some (.string a0_0):=(blk_cell BK123.out 0).trans rfl;have hcz17_1 : w16.cell? ⟨gb123,1,none⟩ = some (.int .u64 a0_1):=(blk_cell BK123.out 1).trans rfl;have hcz17_2 : w16.cell? ⟨gb123,2,none⟩ = some (.int .u8 a0_2):=(blk_cell BK123.out 2).trans rfl;have hcz17_3 : w16.cell? ⟨gb123,3,none⟩ = some (.string a0_3):=(blk_cell BK123.out 3).trans rfl;have hfz17_0:=blk_frozen BK123.out 0;have hfz17_1:=blk_frozen BK123.out 1;have hfz17_2:=blk_frozen BK123.out 2;have hfz17_3:=blk_frozen BK123.out 3))
   go_ret
   exact ⟨by first|rfl|(simp [errW_none,errW_some] <;> rfl)|(simp [*,errW_none,errW_some] <;> rfl),by repeat (first|(with_reducible first|exact HB.out|apply below_alloc|apply pw_below_drewN|apply below_drew1|refine below_set ?_ GE123.out)|exact HB.out)⟩
  ·replace c13:=Bool.eq_false_iff.mpr c13
   subst c13
   have H1 : (some false) = some r:=by rw [if_neg (show ¬ (false = true) by decide)] at H;exact H
   clear H
   have H:=H1
   clear H1
   obtain rfl:=Option.some.inj H
   go_enter Try.func64,Try.ntmps64
   go_wp2_with (first|((with_reducible refine gate_dst (N:=1) rfl ?_);(try (refine gate_guard (by rfl) ?_;dsimp only));refine box_event ?hg (N:=1) ?hd (cs:=#[.string a0_0,.int .u64 a0_1,.int .u8 a0_2,.string a0_3]) (t:=59) ?hr ?_;(case hd=>rfl);(case hg=>rfl);(case hr=>first|(go_simp;done)|(go_simp;rfl));intro gb123 hg w18 hbox hb;have n0_:=Aside0.mk (below_step (by repeat (first|(with_reducible first|exact HB.out|apply below_alloc|apply pw_below_drewN|apply below_drew1)|exact HB.out)) hb);have n1_:=Aside0.mk (hbox);have n2_:=Aside0.mk ((by rw [hg];exact (below_size (by repeat (first|(with_reducible first|exact HB.out|apply below_alloc|apply pw_below_drewN|apply below_drew1)|exact HB.out))) : w.heap.size ≤ gb123));have n3_:=Aside0.mk ((by rw [hg];exact (below_size (by repeat (first|(with_reducible first|exact HB.out|apply below_alloc|apply pw_below_drewN|apply below_drew1)|exact HB.out))) : w.heap.size ≤ gb123));clear HB;have HB:=n0_;have BK123:=n1_;have GW123:=n2_;have GE123:=n3_;clear n0_ n1_ n2_ n3_;clear hb hbox hg;have hcz19_0 : w18.cell? ⟨gb123,0,none⟩ = some (.string a0_0):=(blk_cell BK123.out 0).trans rfl;have hcz19_1 : w18.cell? ⟨gb123,1,none⟩ = some (.int .u64 a0_1):=(blk_cell BK123.out 1).trans rfl;have hcz19_2 : w18.cell? ⟨gb123,2,none⟩ = some (.int .u8 a0_2):=(blk_cell BK123.out 2).trans rfl;have hcz19_3 : w18.cell? ⟨gb123,3,none⟩ = some (.string a0_3):=(blk_cell BK123.out 3).trans rfl;have hfz19_0:=blk_frozen BK123.out 0;have hfz19_1:=blk_frozen BK123.out 1;have hfz19_2:=blk_frozen BK123.out 2;have hfz19_3:=blk_frozen BK123.out 3)|((with_reducible refine gate_callee (f:=90) rfl ?_);refine goesL_ (some 10) rfl rfl Try.func90 (by kernel_rfl) rfl #[.agg #[.string a0_0,.int .u64 a0_1,.int .u8 a0_2]] rfl (by (try simp only [List.map_toArray,List.map_cons,List.map_nil]);first|done|rfl|(simp only [List.length_drop,List.length_take];rfl)) ?_;(with_reducible refine (ikey_Right.calls a0_0 a0_1 a0_2 false _ A12.out).mono ?_);rintro e w20 ⟨rfl,hb⟩;refine ⟨_,rfl,?_⟩;have n0_:=Aside0.mk (blk_below (g:=gb123) (o:=.cells #[.string a0_0,.int .u64 a0_1,.int .u8 a0_2,.string a0_3] 59 (0,0)) (by (with_reducible repeat (first|refine blk_drewN ?_ _|refine blk_drew ?_|refine blk_alloc ?_ _));exact BK123.out) hb);have n1_:=Aside0.mk (below_step (by repeat (first|(with_reducible first|exact HB.out|apply below_alloc|apply pw_below_drewN|apply below_drew1|refine below_set ?_ GE123.out)|exact HB.out)) hb);clear BK123;clear HB;have BK123:=n0_;have HB:=n1_;clear n0_ n1_;(try clear hb);(try clear hb2);(try clear hk);(try clear hi)))
   go_ret
   exact ⟨by first|rfl|(simp [errW_none,errW_some] <;> rfl)|(simp [*,errW_none,errW_some] <;> rfl),by repeat (first|(with_reducible first|exact HB.out|apply below_alloc|apply pw_below_drewN|apply below_drew1|refine below_set ?_ GE123.out)|exact HB.out)⟩

end Go.Proofs.Ytjcjfghcahbbmaa.P

end

section
set_option linter.unusedVariables false
namespace Go.Proofs.YtjcjfghcahbbmaaL
open Go Go.RowKit Go.Proofs.YtjcjfghcahbbmaaG Go.Proofs.Ytjcjfghcahbbmaa.P Go.Proofs.YtjcjfghcahbbmaaW.PrintWords Go.Proofs.YtjcjfghcahbbmaaW.PrintMore

def RightI (x : Ik) : Prop := 1 ≤ x.f0.size ∧ x.f0.size ≤ 64 ∧ x.f1 ≤ 72057594037927935 ∧ x.f2 ≤ 1
instance (x : Ik) : Decidable (RightI x) := inferInstanceAs (Decidable (_ ∧ _))
theorem right_f (x : Ik) : ikey_Right.f x.f0 x.f1 x.f2 = some (decide (RightI x)) := by
  unfold ikey_Right.f
  by_cases h0 : x.f0.size = 0
  · rw [if_pos (ba_nil_iff.2 h0), decide_eq_false (show ¬ RightI x from fun h => by have := h.1; omega)]
  · rw [if_neg (fun h => h0 (ba_nil_iff.1 h))]
    by_cases h1 : (x.f0.size : Int) ≤ 64
    · rw [if_pos h1]
      by_cases h2 : x.f1 ≤ 72057594037927935
      · rw [if_pos h2]
        congr 1
        exact decide_eq_decide.2 ⟨fun h => ⟨by omega, by omega, h2, h⟩, fun h => h.2.2.2⟩
      · rw [if_neg h2, decide_eq_false (show ¬ RightI x from fun h => h2 h.2.2.1)]
    · rw [if_neg h1, decide_eq_false (show ¬ RightI x from fun h => h1 (by have := h.2.1; omega))]
def EntryI (x : Ik) (v : ByteArray) : Prop := RightI x ∧ (v.size : Int) ≤ (if x.f2 = 0 then 0 else 256)
theorem entry_f (x : Ik) (v : ByteArray) : ikey_Entry.f x.f0 x.f1 x.f2 v = some (decide (RightI x) && decide ((v.size : Int) ≤ (if x.f2 = 0 then 0 else 256))) := by
  unfold ikey_Entry.f
  rw [right_f]
  by_cases h : RightI x
  · by_cases h2 : x.f2 = 0
    · simp [h, h2]
    · simp [h, h2]
  · by_cases h2 : x.f2 = 0
    · simp [h, h2]
    · simp [h, h2]

end Go.Proofs.YtjcjfghcahbbmaaL

end

section
namespace Go.Proofs.Ytjcjfghcahbbmaa.P
open Go.RowKit Go.Proofs.YtjcjfghcahbbmaaG Go.Proofs.YtjcjfghcahbbmaaW.PrintWords Go.Proofs.YtjcjfghcahbbmaaW.PrintLast Go.Proofs.YtjcjfghcahbbmaaW.PrintMore
attribute [local go_sem] str_gtr str_geq str_leq max2_int min2_int max_two min_two max_three min_three max_four min_four   -- for this text's walks alone
set_option linter.unusedVariables false
set_option linter.unusedSimpArgs false

def cmp_Or_int.l0 : Nat → Int → List Int → Int → Int → Option (Int)
 | 0,_,_,_,_=>none
 | k + 1,x3,x6,x7,x8=>if x8 < x7 then (if 0 ≤ x8 then (if x8 < (x6.length : Int) then (if (rd x6 x8) = x3 then (cmp_Or_int.l0 k x3 x6 x7 (wrap64 (x8 + 1))) else (some (rd x6 x8))) else (none)) else (none)) else (some x3)
def cmp_Or_int.f (k : Nat) (l0 : List Int) : Option (Int):=cmp_Or_int.l0 k 0 l0 (l0.length : Int) 0
set_option maxHeartbeats 8000000 in
set_option maxRecDepth 100000 in
theorem cmp_Or_int.calls (k : Nat) (A0 : Option Addr) (c0 : Nat) (l0 : List Int) (r : Int) (w : World) (hr0 : Kd.C (Kd.int .i64) w A0 l0.length l0) (hc0 : l0.length ≤ c0) (h : cmp_Or_int.f k l0 = some r) :
  Calls Try.prog 91 #[.slice A0 l0.length c0] w fun e w'=>e = .returned (.int .i64 r) ∧ Drawn0 w w':=by
 have HR0:=Aside0.mk hr0
 have HC0:=Aside0.mk hc0
 clear hr0 hc0
 have H : (cmp_Or_int.l0 k 0 l0 (l0.length : Int) 0) = some r:=h
 clear h
 have H':=Aside0.mk H
 clear H
 go_enter Try.func91,Try.ntmps91
 go_wp2
 go_loopg [8] k (fun kq v8 w'=>∃ (x8_1 : Int),v8 = .int .i64 x8_1 ∧ Aside0 (cmp_Or_int.l0 kq 0 l0 (l0.length : Int) x8_1 = some r) ∧ Aside0 (kq ≤ k) ∧ Drawn0 w w')
 case atStart=>exact ⟨(0),(by first|rfl|(simp;done)|(simp [*];done)),H',⟨Nat.le_refl _⟩,by repeat (first|exact Drawn0.refl _|apply Drawn0.step)⟩
 case round =>
  clear H'
  obtain ⟨x8_1,rfl,HA,HK1,⟨m1,rfl⟩⟩:=hrel
  cases gk with
  | zero=>exact absurd HA.out (by simp [cmp_Or_int.l0])
  | succ k1 =>
   have H:=HA.out
   clear HA
   simp only [cmp_Or_int.l0] at H
   by_cases c2 : x8_1 < (l0.length : Int)
   ·rw [if_pos c2] at H
    have c2b0 : decide (x8_1 < (l0.length : Int)) = true:=decide_eq_true c2
    clear c2
    by_cases c3 : 0 ≤ x8_1
    ·rw [if_pos c3] at H
     have c3b0 : decide (0 ≤ x8_1) = true:=decide_eq_true c3
     clear c3
     by_cases c4 : x8_1 < (l0.length : Int)
     ·rw [if_pos c4] at H
      have c4b0 : decide (x8_1 < (l0.length : Int)) = true:=decide_eq_true c4
      clear c4
      by_cases c5 : (rd l0 x8_1) = 0
      ·rw [if_pos c5] at H
       have c5b0 : ((rd l0 x8_1) == 0) = true:=beq_iff_eq.mpr c5
       have c5b1 : ((rd l0 x8_1) != 0) = false:=bne_eq_false_iff_eq.mpr c5
       clear c5
       have H':=Aside0.mk H
       clear H
       have p126 : 0 ≤ (x8_1 : Int):=of_decide_eq_true (by first|(with_reducible assumption)|assumption)
       have q126 : x8_1 < (l0.length : Int):=of_decide_eq_true (by first|(with_reducible assumption)|assumption)
       obtain ⟨ad126,e126,hx126_0⟩:=Kd.at_int HR0.out x8_1 p126 q126
       cases e126
       replace p126:=eq_true p126
       replace q126:=eq_true q126
       go_wp2
       go_roundg k1
       case measure=>have:=HK1.out;omega
       case rel=>exact ⟨(wrap64 (x8_1 + 1)),(by first|rfl|(simp;done)|(simp [*];done)),H',⟨by have:=HK1.out;omega⟩,by repeat (first|exact Drawn0.refl _|apply Drawn0.step)⟩
      ·rw [if_neg c5] at H
       have c5b0 : ((rd l0 x8_1) == 0) = false:=beq_eq_false_iff_ne.mpr c5
       have c5b1 : ((rd l0 x8_1) != 0) = true:=bne_iff_ne.mpr c5
       obtain rfl:=Option.some.inj H
       have p126 : 0 ≤ (x8_1 : Int):=of_decide_eq_true (by first|(with_reducible assumption)|assumption)
       have q126 : x8_1 < (l0.length : Int):=of_decide_eq_true (by first|(with_reducible assumption)|assumption)
       obtain ⟨ad126,e126,hx126_0⟩:=Kd.at_int HR0.out x8_1 p126 q126
       cases e126
       replace p126:=eq_true p126
       replace q126:=eq_true q126
       go_wp2
       go_ret
       exact ⟨by first|rfl|(simp;done)|(simp [*];done),by repeat (first|exact Drawn0.refl _|apply Drawn0.step)⟩
     ·rw [if_neg c4] at H
      exact absurd H (by simp)
    ·rw [if_neg c3] at H
     exact absurd H (by simp)
   ·rw [if_neg c2] at H
    have c2b0 : decide (x8_1 < (l0.length : Int)) = false:=decide_eq_false c2
    clear c2
    obtain rfl:=Option.some.inj H
    go_wp2
    go_ret
    exact ⟨by first|rfl|(simp;done)|(simp [*];done),by repeat (first|exact Drawn0.refl _|apply Drawn0.step)⟩

end Go.Proofs.Ytjcjfghcahbbmaa.P

end

section
namespace Go.Proofs.Ytjcjfghcahbbmaa.P
open Go.RowKit Go.Proofs.YtjcjfghcahbbmaaG Go.Proofs.YtjcjfghcahbbmaaW.PrintWords Go.Proofs.YtjcjfghcahbbmaaW.PrintLast Go.Proofs.YtjcjfghcahbbmaaW.PrintMore
attribute [local go_sem] str_gtr str_geq str_leq max2_int min2_int max_two min_two max_three min_three max_four min_four   -- for this text's walks alone
set_option linter.unusedVariables false
set_option linter.unusedSimpArgs false

def cmp_isNaN_string.f (a0 : ByteArray) : Option (Bool):=some (a0.toList != a0.toList)
set_option maxHeartbeats 8000000 in
set_option maxRecDepth 100000 in
theorem cmp_isNaN_string.calls (a0 : ByteArray) (r : Bool) (w : World) (h : cmp_isNaN_string.f a0 = some r) :
  Calls Try.prog 114 #[.string a0] w fun e w'=>e = .returned (.bool r) ∧ Drawn0 w w':=by
 have H : (some (a0.toList != a0.toList)) = some r:=h
 clear h
 obtain rfl:=Option.some.inj H
 go_enter Try.func114,Try.ntmps114
 go_wp2
 go_ret
 exact ⟨by first|rfl|(simp;done)|(simp [*];done),by repeat (first|exact Drawn0.refl _|apply Drawn0.step)⟩

def cmp_Compare_string.f (a0 : ByteArray) (a1 : ByteArray) : Option (Int):=(cmp_isNaN_string.f a0).bind fun t127=>((cmp_isNaN_string.f a1).bind fun t128=>(if t127 = true then (if t128 = true then (some 0) else (some (-1))) else (if t128 = true then (some 1) else (if (Op.bytesLess a0.toList a1.toList) = true then (some (-1)) else (if (Op.bytesLess a1.toList a0.toList) = true then (some 1) else (some 0))))))
set_option maxHeartbeats 8000000 in
set_option maxRecDepth 100000 in
theorem cmp_Compare_string.calls (a0 : ByteArray) (a1 : ByteArray) (r : Int) (w : World) (h : cmp_Compare_string.f a0 a1 = some r) :
  Calls Try.prog 92 #[.string a0,.string a1] w fun e w'=>e = .returned (.int .i64 r) ∧ Drawn0 w w':=by
 have H : ((cmp_isNaN_string.f a0).bind fun t127=>((cmp_isNaN_string.f a1).bind fun t128=>(if t127 = true then (if t128 = true then (some 0) else (some (-1))) else (if t128 = true then (some 1) else (if (Op.bytesLess a0.toList a1.toList) = true then (some (-1)) else (if (Op.bytesLess a1.toList a0.toList) = true then (some 1) else (some 0))))))) = some r:=h
 clear h
 replace H:=Option.bind_eq_some_iff.mp H
 obtain ⟨t127,A30,H⟩:=H
 replace H : ((cmp_isNaN_string.f a1).bind fun t128=>(if t127 = true then (if t128 = true then (some 0) else (some (-1))) else (if t128 = true then (some 1) else (if (Op.bytesLess a0.toList a1.toList) = true then (some (-1)) else (if (Op.bytesLess a1.toList a0.toList) = true then (some 1) else (some 0)))))) = some r:=H
 have A3:=Aside0.mk A30
 clear A30
 replace H:=Option.bind_eq_some_iff.mp H
 obtain ⟨t128,A40,H⟩:=H
 replace H : (if t127 = true then (if t128 = true then (some 0) else (some (-1))) else (if t128 = true then (some 1) else (if (Op.bytesLess a0.toList a1.toList) = true then (some (-1)) else (if (Op.bytesLess a1.toList a0.toList) = true then (some 1) else (some 0))))) = some r:=H
 have A4:=Aside0.mk A40
 clear A40
 by_cases c5 : t127 = true
 ·subst c5
  have H1 : (if t128 = true then (some 0) else (some (-1))) = some r:=by rw [if_pos rfl] at H;exact H
  clear H
  have H:=H1
  clear H1
  by_cases c6 : t128 = true
  ·subst c6
   have H1 : (some 0) = some r:=by rw [if_pos rfl] at H;exact H
   clear H
   have H:=H1
   clear H1
   obtain rfl:=Option.some.inj H
   go_enter Try.func92,Try.ntmps92
   go_wp2_with (first|((with_reducible refine gate_callee (f:=114) rfl ?_);refine goesL_ (some 8) rfl rfl Try.func114 (by kernel_rfl) rfl #[.string a0] rfl (by (try simp only [List.map_toArray,List.map_cons,List.map_nil]);first|done|rfl|(simp only [List.length_drop,List.length_take];rfl)) ?_;(with_reducible refine (cmp_isNaN_string.calls a0 true _ A3.out).mono ?_);rintro e w' ⟨rfl,⟨nd,rfl⟩⟩;refine ⟨_,rfl,?_⟩)|((with_reducible refine gate_callee (f:=114) rfl ?_);refine goesL_ (some 10) rfl rfl Try.func114 (by kernel_rfl) rfl #[.string a1] rfl (by (try simp only [List.map_toArray,List.map_cons,List.map_nil]);first|done|rfl|(simp only [List.length_drop,List.length_take];rfl)) ?_;(with_reducible refine (cmp_isNaN_string.calls a1 true _ A4.out).mono ?_);rintro e w' ⟨rfl,⟨nd,rfl⟩⟩;refine ⟨_,rfl,?_⟩))
   go_ret
   exact ⟨by first|rfl|(simp;done)|(simp [*];done),by repeat (first|exact Drawn0.refl _|apply Drawn0.step)⟩
  ·replace c6:=Bool.eq_false_iff.mpr c6
   subst c6
   have H1 : (some (-1)) = some r:=by rw [if_neg (show ¬ (false = true) by decide)] at H;exact H
   clear H
   have H:=H1
   clear H1
   obtain rfl:=Option.some.inj H
   go_enter Try.func92,Try.ntmps92
   go_wp2_with (first|((with_reducible refine gate_callee (f:=114) rfl ?_);refine goesL_ (some 8) rfl rfl Try.func114 (by kernel_rfl) rfl #[.string a0] rfl (by (try simp only [List.map_toArray,List.map_cons,List.map_nil]);first|done|rfl|(simp only [List.length_drop,List.length_take];rfl)) ?_;(with_reducible refine (cmp_isNaN_string.calls a0 true _ A3.out).mono ?_);rintro e w' ⟨rfl,⟨nd,rfl⟩⟩;refine ⟨_,rfl,?_⟩)|((with_reducible refine gate_callee (f:=114) rfl ?_);refine goesL_ (some 10) rfl rfl Try.func114 (by kernel_rfl) rfl #[.string a1] rfl (by (try simp only [List.map_toArray,List.map_cons,List.map_nil]);first|done|rfl|(simp only [List.length_drop,List.length_take];rfl)) ?_;(with_reducible refine (cmp_isNaN_string.calls a1 false _ A4.out).mono ?_);rintro e w' ⟨rfl,⟨nd,rfl⟩⟩;refine ⟨_,rfl,?_⟩))
   go_ret
   exact ⟨by first|rfl|(simp;done)|(simp [*];done),by repeat (first|exact Drawn0.refl _|apply Drawn0.step)⟩
 ·replace c5:=Bool.eq_false_iff.mpr c5
  subst c5
  have H1 : (if t128 = true then (some 1) else (if (Op.bytesLess a0.toList a1.toList) = true then (some (-1)) else (if (Op.bytesLess a1.toList a0.toList) = true then (some 1) else (some 0)))) = some r:=by rw [if_neg (show ¬ (false = true) by decide)] at H;exact H
  clear H
  have H:=H1
  clear H1
  by_cases c7 : t128 = true
  ·subst c7
   have H1 : (some 1) = some r:=by rw [if_pos rfl] at H;exact H
   clear H
   have H:=H1
   clear H1
   obtain rfl:=Option.some.inj H
   go_enter Try.func92,Try.ntmps92
   go_wp2_with (first|((with_reducible refine gate_callee (f:=114) rfl ?_);refine goesL_ (some 8) rfl rfl Try.func114 (by kernel_rfl) rfl #[.string a0] rfl (by (try simp only [List.map_toArray,List.map_cons,List.map_nil]);first|done|rfl|(simp only [List.length_drop,List.length_take];rfl)) ?_;(with_reducible refine (cmp_isNaN_string.calls a0 false _ A3.out).mono ?_);rintro e w' ⟨rfl,⟨nd,rfl⟩⟩;refine ⟨_,rfl,?_⟩)|((with_reducible refine gate_callee (f:=114) rfl ?_);refine goesL_ (some 10) rfl rfl Try.func114 (by kernel_rfl) rfl #[.string a1] rfl (by (try simp only [List.map_toArray,List.map_cons,List.map_nil]);first|done|rfl|(simp only [List.length_drop,List.length_take];rfl)) ?_;(with_reducible refine (cmp_isNaN_string.calls a1 true _ A4.out).mono ?_);rintro e w' ⟨rfl,⟨nd,rfl⟩⟩;refine ⟨_,rfl,?_⟩))
   go_ret
   exact ⟨by first|rfl|(simp;done)|(simp [*];done),by repeat (first|exact Drawn0.refl _|apply Drawn0.step)⟩
  ·replace c7:=Bool.eq_false_iff.mpr c7
   subst c7
   have H1 : (if (Op.bytesLess a0.toList a1.toList) = true then (some (-1)) else (if (Op.bytesLess a1.toList a0.toList) = true then (some 1) else (some 0))) = some r:=by rw [if_neg (show ¬ (false = true) by decide)] at H;exact H
   clear H
   have H:=H1
   clear H1
   by_cases c8 : (Op.bytesLess a0.toList a1.toList) = true
   ·rw [if_pos c8] at H
    have c8b0 : (Op.bytesLess a0.toList a1.toList) = true:=c8
    clear c8
    obtain rfl:=Option.some.inj H
    go_enter Try.func92,Try.ntmps92
    go_wp2_with (first|((with_reducible refine gate_callee (f:=114) rfl ?_);refine goesL_ (some 8) rfl rfl Try.func114 (by kernel_rfl) rfl #[.string a0] rfl (by (try simp only [List.map_toArray,List.map_cons,List.map_nil]);first|done|rfl|(simp only [List.length_drop,List.length_take];rfl)) ?_;(with_reducible refine (cmp_isNaN_string.calls a0 false _ A3.out).mono ?_);rintro e w' ⟨rfl,⟨nd,rfl⟩⟩;refine ⟨_,rfl,?_⟩)|((with_reducible refine gate_callee (f:=114) rfl ?_);refine goesL_ (some 10) rfl rfl Try.func114 (by kernel_rfl) rfl #[.string a1] rfl (by (try simp only [List.map_toArray,List.map_cons,List.map_nil]);first|done|rfl|(simp only [List.length_drop,List.length_take];rfl)) ?_;(with_reducible refine (cmp_isNaN_string.calls a1 false _ A4.out).mono ?_);rintro e w' ⟨rfl,⟨nd,rfl⟩⟩;refine ⟨_,rfl,?_⟩))
    go_ret
    exact ⟨by first|rfl|(simp;done)|(simp [*];done),by repeat (first|exact Drawn0.refl _|apply Drawn0.step)⟩
   ·rw [if_neg c8] at H
    have c8b0 : (Op.bytesLess a0.toList a1.toList) = false:=by simpa using c8
    clear c8
    by_cases c9 : (Op.bytesLess a1.toList a0.toList) = true
    ·rw [if_pos c9] at H
     have c9b0 : (Op.bytesLess a1.toList a0.toList) = true:=c9
     clear c9
     obtain rfl:=Option.some.inj H
     go_enter Try.func92,Try.ntmps92
     go_wp2_with (first|((with_reducible refine gate_callee (f:=114) rfl ?_);refine goesL_ (some 8) rfl rfl Try.func114 (by kernel_rfl) rfl #[.string a0] rfl (by (try simp only [List.map_toArray,List.map_cons,List.map_nil]);first|done|rfl|(simp only [List.length_drop,List.length_take];rfl)) ?_;(with_reducible refine (cmp_isNaN_string.calls a0 false _ A3.out).mono ?_);rintro e w' ⟨rfl,⟨nd,rfl⟩⟩;refine ⟨_,rfl,?_⟩)|((with_reducible refine gate_callee (f:=114) rfl ?_);refine goesL_ (some 10) rfl rfl Try.func114 (by kernel_rfl) rfl #[.string a1] rfl (by (try simp only [List.map_toArray,List.map_cons,List.map_nil]);first|done|rfl|(simp only [List.length_drop,List.length_take];rfl)) ?_;(with_reducible refine (cmp_isNaN_string.calls a1 false _ A4.out).mono ?_);rintro e w' ⟨rfl,⟨nd,rfl⟩⟩;refine ⟨_,rfl,?_⟩))
     go_ret
     exact ⟨by first|rfl|(simp;done)|(simp [*];done),by repeat (first|exact Drawn0.refl _|apply Drawn0.step)⟩
    ·rw [if_neg c9] at H
     have c9b0 : (Op.bytesLess a1.toList a0.toList) = false:=by simpa using c9
     clear c9
     obtain rfl:=Option.some.inj H
     go_enter Try.func92,Try.ntmps92
     go_wp2_with (first|((with_reducible refine gate_callee (f:=114) rfl ?_);refine goesL_ (some 8) rfl rfl Try.func114 (by kernel_rfl) rfl #[.string a0] rfl (by (try simp only [List.map_toArray,List.map_cons,List.map_nil]);first|done|rfl|(simp only [List.length_drop,List.length_take];rfl)) ?_;(with_reducible refine (cmp_isNaN_string.calls a0 false _ A3.out).mono ?_);rintro e w' ⟨rfl,⟨nd,rfl⟩⟩;refine ⟨_,rfl,?_⟩)|((with_reducible refine gate_callee (f:=114) rfl ?_);refine goesL_ (some 10) rfl rfl Try.func114 (by kernel_rfl) rfl #[.string a1] rfl (by (try simp only [List.map_toArray,List.map_cons,List.map_nil]);first|done|rfl|(simp only [List.length_drop,List.length_take];rfl)) ?_;(with_reducible refine (cmp_isNaN_string.calls a1 false _ A4.out).mono ?_);rintro e w' ⟨rfl,⟨nd,rfl⟩⟩;refine ⟨_,rfl,?_⟩))
     go_ret
     exact ⟨by first|rfl|(simp;done)|(simp [*];done),by repeat (first|exact Drawn0.refl _|apply Drawn0.step)⟩

end Go.Proofs.Ytjcjfghcahbbmaa.P

end

section
namespace Go.Proofs.Ytjcjfghcahbbmaa.P
open Go.RowKit Go.Proofs.YtjcjfghcahbbmaaG Go.Proofs.YtjcjfghcahbbmaaW.PrintWords Go.Proofs.YtjcjfghcahbbmaaW.PrintLast Go.Proofs.YtjcjfghcahbbmaaW.PrintMore
attribute [local go_sem] str_gtr str_geq str_leq max2_int min2_int max_two min_two max_three min_three max_four min_four   -- for this text's walks alone
set_option linter.unusedVariables false
set_option linter.unusedSimpArgs false

def cmp_isNaN_uint64.f (a0 : Int) : Option (Bool):=some (a0 != a0)
set_option maxHeartbeats 8000000 in
set_option maxRecDepth 100000 in
theorem cmp_isNaN_uint64.calls (a0 : Int) (r : Bool) (w : World) (h : cmp_isNaN_uint64.f a0 = some r) :
  Calls Try.prog 115 #[.int .u64 a0] w fun e w'=>e = .returned (.bool r) ∧ Drawn0 w w':=by
 have H : (some (a0 != a0)) = some r:=h
 clear h
 obtain rfl:=Option.some.inj H
 go_enter Try.func115,Try.ntmps115
 go_wp2
 go_ret
 exact ⟨by first|rfl|(simp;done)|(simp [*];done),by repeat (first|exact Drawn0.refl _|apply Drawn0.step)⟩

def cmp_Compare_uint64.f (a0 : Int) (a1 : Int) : Option (Int):=(cmp_isNaN_uint64.f a0).bind fun t129=>((cmp_isNaN_uint64.f a1).bind fun t130=>(if t129 = true then (if t130 = true then (some 0) else (some (-1))) else (if t130 = true then (some 1) else (if a0 < a1 then (some (-1)) else (if a0 > a1 then (some 1) else (some 0))))))
set_option maxHeartbeats 8000000 in
set_option maxRecDepth 100000 in
theorem cmp_Compare_uint64.calls (a0 : Int) (a1 : Int) (r : Int) (w : World) (h : cmp_Compare_uint64.f a0 a1 = some r) :
  Calls Try.prog 93 #[.int .u64 a0,.int .u64 a1] w fun e w'=>e = .returned (.int .i64 r) ∧ Drawn0 w w':=by
 have H : ((cmp_isNaN_uint64.f a0).bind fun t129=>((cmp_isNaN_uint64.f a1).bind fun t130=>(if t129 = true then (if t130 = true then (some 0) else (some (-1))) else (if t130 = true then (some 1) else (if a0 < a1 then (some (-1)) else (if a0 > a1 then (some 1) else (some 0))))))) = some r:=h
 clear h
 replace H:=Option.bind_eq_some_iff.mp H
 obtain ⟨t129,A30,H⟩:=H
 replace H : ((cmp_isNaN_uint64.f a1).bind fun t130=>(if t129 = true then (if t130 = true then (some 0) else (some (-1))) else (if t130 = true then (some 1) else (if a0 < a1 then (some (-1)) else (if a0 > a1 then (some 1) else (some 0)))))) = some r:=H
 have A3:=Aside0.mk A30
 clear A30
 replace H:=Option.bind_eq_some_iff.mp H
 obtain ⟨t130,A40,H⟩:=H
 replace H : (if t129 = true then (if t130 = true then (some 0) else (some (-1))) else (if t130 = true then (some 1) else (if a0 < a1 then (some (-1)) else (if a0 > a1 then (some 1) else (some 0))))) = some r:=H
 have A4:=Aside0.mk A40
 clear A40
 by_cases c5 : t129 = true
 ·subst c5
  have H1 : (if t130 = true then (some 0) else (some (-1))) = some r:=by rw [if_pos rfl] at H;exact H
  clear H
  have H:=H1
  clear H1
  by_cases c6 : t130 = true
  ·subst c6
   have H1 : (some 0) = some r:=by rw [if_pos rfl] at H;exact H
   clear H
   have H:=H1
   clear H1
   obtain rfl:=Option.some.inj H
   go_enter Try.func93,Try.ntmps93
   go_wp2_with (first|((with_reducible refine gate_callee (f:=115) rfl ?_);refine goesL_ (some 8) rfl rfl Try.func115 (by kernel_rfl) rfl #[.int .u64 a0] rfl (by (try simp only [List.map_toArray,List.map_cons,List.map_nil]);first|done|rfl|(simp only [List.length_drop,List.length_take];rfl)) ?_;(with_reducible refine (cmp_isNaN_uint64.calls a0 true _ A3.out).mono ?_);rintro e w' ⟨rfl,⟨nd,rfl⟩⟩;refine ⟨_,rfl,?_⟩)|((with_reducible refine gate_callee (f:=115) rfl ?_);refine goesL_ (some 10) rfl rfl Try.func115 (by kernel_rfl) rfl #[.int .u64 a1] rfl (by (try simp only [List.map_toArray,List.map_cons,List.map_nil]);first|done|rfl|(simp only [List.length_drop,List.length_take];rfl)) ?_;(with_reducible refine (cmp_isNaN_uint64.calls a1 true _ A4.out).mono ?_);rintro e w' ⟨rfl,⟨nd,rfl⟩⟩;refine ⟨_,rfl,?_⟩))
   go_ret
   exact ⟨by first|rfl|(simp;done)|(simp [*];done),by repeat (first|exact Drawn0.refl _|apply Drawn0.step)⟩
  ·replace c6:=Bool.eq_false_iff.mpr c6
   subst c6
   have H1 : (some (-1)) = some r:=by rw [if_neg (show ¬ (false = true) by decide)] at H;exact H
   clear H
   have H:=H1
   clear H1
   obtain rfl:=Option.some.inj H
   go_enter Try.func93,Try.ntmps93
   go_wp2_with (first|((with_reducible refine gate_callee (f:=115) rfl ?_);refine goesL_ (some 8) rfl rfl Try.func115 (by kernel_rfl) rfl #[.int .u64 a0] rfl (by (try simp only [List.map_toArray,List.map_cons,List.map_nil]);first|done|rfl|(simp only [List.length_drop,List.length_take];rfl)) ?_;(with_reducible refine (cmp_isNaN_uint64.calls a0 true _ A3.out).mono ?_);rintro e w' ⟨rfl,⟨nd,rfl⟩⟩;refine ⟨_,rfl,?_⟩)|((with_reducible refine gate_callee (f:=115) rfl ?_);refine goesL_ (some 10) rfl rfl Try.func115 (by kernel_rfl) rfl #[.int .u64 a1] rfl (by (try simp only [List.map_toArray,List.map_cons,List.map_nil]);first|done|rfl|(simp only [List.length_drop,List.length_take];rfl)) ?_;(with_reducible refine (cmp_isNaN_uint64.calls a1 false _ A4.out).mono ?_);rintro e w' ⟨rfl,⟨nd,rfl⟩⟩;refine ⟨_,rfl,?_⟩))
   go_ret
   exact ⟨by first|rfl|(simp;done)|(simp [*];done),by repeat (first|exact Drawn0.refl _|apply Drawn0.step)⟩
 ·replace c5:=Bool.eq_false_iff.mpr c5
  subst c5
  have H1 : (if t130 = true then (some 1) else (if a0 < a1 then (some (-1)) else (if a0 > a1 then (some 1) else (some 0)))) = some r:=by rw [if_neg (show ¬ (false = true) by decide)] at H;exact H
  clear H
  have H:=H1
  clear H1
  by_cases c7 : t130 = true
  ·subst c7
   have H1 : (some 1) = some r:=by rw [if_pos rfl] at H;exact H
   clear H
   have H:=H1
   clear H1
   obtain rfl:=Option.some.inj H
   go_enter Try.func93,Try.ntmps93
   go_wp2_with (first|((with_reducible refine gate_callee (f:=115) rfl ?_);refine goesL_ (some 8) rfl rfl Try.func115 (by kernel_rfl) rfl #[.int .u64 a0] rfl (by (try simp only [List.map_toArray,List.map_cons,List.map_nil]);first|done|rfl|(simp only [List.length_drop,List.length_take];rfl)) ?_;(with_reducible refine (cmp_isNaN_uint64.calls a0 false _ A3.out).mono ?_);rintro e w' ⟨rfl,⟨nd,rfl⟩⟩;refine ⟨_,rfl,?_⟩)|((with_reducible refine gate_callee (f:=115) rfl ?_);refine goesL_ (some 10) rfl rfl Try.func115 (by kernel_rfl) rfl #[.int .u64 a1] rfl (by (try simp only [List.map_toArray,List.map_cons,List.map_nil]);first|done|rfl|(simp only [List.length_drop,List.length_take];rfl)) ?_;(with_reducible refine (cmp_isNaN_uint64.calls a1 true _ A4.out).mono ?_);rintro e w' ⟨rfl,⟨nd,rfl⟩⟩;refine ⟨_,rfl,?_⟩))
   go_ret
   exact ⟨by first|rfl|(simp;done)|(simp [*];done),by repeat (first|exact Drawn0.refl _|apply Drawn0.step)⟩
  ·replace c7:=Bool.eq_false_iff.mpr c7
   subst c7
   have H1 : (if a0 < a1 then (some (-1)) else (if a0 > a1 then (some 1) else (some 0))) = some r:=by rw [if_neg (show ¬ (false = true) by decide)] at H;exact H
   clear H
   have H:=H1
   clear H1
   by_cases c8 : a0 < a1
   ·rw [if_pos c8] at H
    have c8b0 : decide (a0 < a1) = true:=decide_eq_true c8
    clear c8
    obtain rfl:=Option.some.inj H
    go_enter Try.func93,Try.ntmps93
    go_wp2_with (first|((with_reducible refine gate_callee (f:=115) rfl ?_);refine goesL_ (some 8) rfl rfl Try.func115 (by kernel_rfl) rfl #[.int .u64 a0] rfl (by (try simp only [List.map_toArray,List.map_cons,List.map_nil]);first|done|rfl|(simp only [List.length_drop,List.length_take];rfl)) ?_;(with_reducible refine (cmp_isNaN_uint64.calls a0 false _ A3.out).mono ?_);rintro e w' ⟨rfl,⟨nd,rfl⟩⟩;refine ⟨_,rfl,?_⟩)|((with_reducible refine gate_callee (f:=115) rfl ?_);refine goesL_ (some 10) rfl rfl Try.func115 (by kernel_rfl) rfl #[.int .u64 a1] rfl (by (try simp only [List.map_toArray,List.map_cons,List.map_nil]);first|done|rfl|(simp only [List.length_drop,List.length_take];rfl)) ?_;(with_reducible refine (cmp_isNaN_uint64.calls a1 false _ A4.out).mono ?_);rintro e w' ⟨rfl,⟨nd,rfl⟩⟩;refine ⟨_,rfl,?_⟩))
    go_ret
    exact ⟨by first|rfl|(simp;done)|(simp [*];done),by repeat (first|exact Drawn0.refl _|apply Drawn0.step)⟩
   ·rw [if_neg c8] at H
    have c8b0 : decide (a0 < a1) = false:=decide_eq_false c8
    clear c8
    by_cases c9 : a0 > a1
    ·rw [if_pos c9] at H
     have c9b0 : decide (a1 < a0) = true:=decide_eq_true c9
     clear c9
     obtain rfl:=Option.some.inj H
     go_enter Try.func93,Try.ntmps93
     go_wp2_with (first|((with_reducible refine gate_callee (f:=115) rfl ?_);refine goesL_ (some 8) rfl rfl Try.func115 (by kernel_rfl) rfl #[.int .u64 a0] rfl (by (try simp only [List.map_toArray,List.map_cons,List.map_nil]);first|done|rfl|(simp only [List.length_drop,List.length_take];rfl)) ?_;(with_reducible refine (cmp_isNaN_uint64.calls a0 false _ A3.out).mono ?_);rintro e w' ⟨rfl,⟨nd,rfl⟩⟩;refine ⟨_,rfl,?_⟩)|((with_reducible refine gate_callee (f:=115) rfl ?_);refine goesL_ (some 10) rfl rfl Try.func115 (by kernel_rfl) rfl #[.int .u64 a1] rfl (by (try simp only [List.map_toArray,List.map_cons,List.map_nil]);first|done|rfl|(simp only [List.length_drop,List.length_take];rfl)) ?_;(with_reducible refine (cmp_isNaN_uint64.calls a1 false _ A4.out).mono ?_);rintro e w' ⟨rfl,⟨nd,rfl⟩⟩;refine ⟨_,rfl,?_⟩))
     go_ret
     exact ⟨by first|rfl|(simp;done)|(simp [*];done),by repeat (first|exact Drawn0.refl _|apply Drawn0.step)⟩
    ·rw [if_neg c9] at H
     have c9b0 : decide (a1 < a0) = false:=decide_eq_false c9
     clear c9
     obtain rfl:=Option.some.inj H
     go_enter Try.func93,Try.ntmps93
     go_wp2_with (first|((with_reducible refine gate_callee (f:=115) rfl ?_);refine goesL_ (some 8) rfl rfl Try.func115 (by kernel_rfl) rfl #[.int .u64 a0] rfl (by (try simp only [List.map_toArray,List.map_cons,List.map_nil]);first|done|rfl|(simp only [List.length_drop,List.length_take];rfl)) ?_;(with_reducible refine (cmp_isNaN_uint64.calls a0 false _ A3.out).mono ?_);rintro e w' ⟨rfl,⟨nd,rfl⟩⟩;refine ⟨_,rfl,?_⟩)|((with_reducible refine gate_callee (f:=115) rfl ?_);refine goesL_ (some 10) rfl rfl Try.func115 (by kernel_rfl) rfl #[.int .u64 a1] rfl (by (try simp only [List.map_toArray,List.map_cons,List.map_nil]);first|done|rfl|(simp only [List.length_drop,List.length_take];rfl)) ?_;(with_reducible refine (cmp_isNaN_uint64.calls a1 false _ A4.out).mono ?_);rintro e w' ⟨rfl,⟨nd,rfl⟩⟩;refine ⟨_,rfl,?_⟩))
     go_ret
     exact ⟨by first|rfl|(simp;done)|(simp [*];done),by repeat (first|exact Drawn0.refl _|apply Drawn0.step)⟩

end Go.Proofs.Ytjcjfghcahbbmaa.P

end

section
namespace Go.Proofs.Ytjcjfghcahbbmaa.P
open Go.RowKit Go.Proofs.YtjcjfghcahbbmaaG Go.Proofs.YtjcjfghcahbbmaaW.PrintWords Go.Proofs.YtjcjfghcahbbmaaW.PrintLast Go.Proofs.YtjcjfghcahbbmaaW.PrintMore
attribute [local go_sem] str_gtr str_geq str_leq max2_int min2_int max_two min_two max_three min_three max_four min_four   -- for this text's walks alone
set_option linter.unusedVariables false
set_option linter.unusedSimpArgs false

def cmp_isNaN_uint8.f (a0 : Int) : Option (Bool):=some (a0 != a0)
set_option maxHeartbeats 8000000 in
set_option maxRecDepth 100000 in
theorem cmp_isNaN_uint8.calls (a0 : Int) (r : Bool) (w : World) (h : cmp_isNaN_uint8.f a0 = some r) :
  Calls Try.prog 116 #[.int .u8 a0] w fun e w'=>e = .returned (.bool r) ∧ Drawn0 w w':=by
 have H : (some (a0 != a0)) = some r:=h
 clear h
 obtain rfl:=Option.some.inj H
 go_enter Try.func116,Try.ntmps116
 go_wp2
 go_ret
 exact ⟨by first|rfl|(simp;done)|(simp [*];done),by repeat (first|exact Drawn0.refl _|apply Drawn0.step)⟩

def cmp_Compare_uint8.f (a0 : Int) (a1 : Int) : Option (Int):=(cmp_isNaN_uint8.f a0).bind fun t131=>((cmp_isNaN_uint8.f a1).bind fun t132=>(if t131 = true then (if t132 = true then (some 0) else (some (-1))) else (if t132 = true then (some 1) else (if a0 < a1 then (some (-1)) else (if a0 > a1 then (some 1) else (some 0))))))
set_option maxHeartbeats 8000000 in
set_option maxRecDepth 100000 in
theorem cmp_Compare_uint8.calls (a0 : Int) (a1 : Int) (r : Int) (w : World) (h : cmp_Compare_uint8.f a0 a1 = some r) :
  Calls Try.prog 94 #[.int .u8 a0,.int .u8 a1] w fun e w'=>e = .returned (.int .i64 r) ∧ Drawn0 w w':=by
 have H : ((cmp_isNaN_uint8.f a0).bind fun t131=>((cmp_isNaN_uint8.f a1).bind fun t132=>(if t131 = true then (if t132 = true then (some 0) else (some (-1))) else (if t132 = true then (some 1) else (if a0 < a1 then (some (-1)) else (if a0 > a1 then (some 1) else (some 0))))))) = some r:=h
 clear h
 replace H:=Option.bind_eq_some_iff.mp H
 obtain ⟨t131,A30,H⟩:=H
 replace H : ((cmp_isNaN_uint8.f a1).bind fun t132=>(if t131 = true then (if t132 = true then (some 0) else (some (-1))) else (if t132 = true then (some 1) else (if a0 < a1 then (some (-1)) else (if a0 > a1 then (some 1) else (some 0)))))) = some r:=H
 have A3:=Aside0.mk A30
 clear A30
 replace H:=Option.bind_eq_some_iff.mp H
 obtain ⟨t132,A40,H⟩:=H
 replace H : (if t131 = true then (if t132 = true then (some 0) else (some (-1))) else (if t132 = true then (some 1) else (if a0 < a1 then (some (-1)) else (if a0 > a1 then (some 1) else (some 0))))) = some r:=H
 have A4:=Aside0.mk A40
 clear A40
 by_cases c5 : t131 = true
 ·subst c5
  have H1 : (if t132 = true then (some 0) else (some (-1))) = some r:=by rw [if_pos rfl] at H;exact H
  clear H
  have H:=H1
  clear H1
  by_cases c6 : t132 = true
  ·subst c6
   have H1 : (some 0) = some r:=by rw [if_pos rfl] at H;exact H
   clear H
   have H:=H1
   clear H1
   obtain rfl:=Option.some.inj H
   go_enter Try.func94,Try.ntmps94
   go_wp2_with (first|((with_reducible refine gate_callee (f:=116) rfl ?_);refine goesL_ (some 8) rfl rfl Try.func116 (by kernel_rfl) rfl #[.int .u8 a0] rfl (by (try simp only [List.map_toArray,List.map_cons,List.map_nil]);first|done|rfl|(simp only [List.length_drop,List.length_take];rfl)) ?_;(with_reducible refine (cmp_isNaN_uint8.calls a0 true _ A3.out).mono ?_);rintro e w' ⟨rfl,⟨nd,rfl⟩⟩;refine ⟨_,rfl,?_⟩)|((with_reducible refine gate_callee (f:=116) rfl ?_);refine goesL_ (some 10) rfl rfl Try.func116 (by kernel_rfl) rfl #[.int .u8 a1] rfl (by (try simp only [List.map_toArray,List.map_cons,List.map_nil]);first|done|rfl|(simp only [List.length_drop,List.length_take];rfl)) ?_;(with_reducible refine (cmp_isNaN_uint8.calls a1 true _ A4.out).mono ?_);rintro e w' ⟨rfl,⟨nd,rfl⟩⟩;refine ⟨_,rfl,?_⟩))
   go_ret
   exact ⟨by first|rfl|(simp;done)|(simp [*];done),by repeat (first|exact Drawn0.refl _|apply Drawn0.step)⟩
  ·replace c6:=Bool.eq_false_iff.mpr c6
   subst c6
   have H1 : (some (-1)) = some r:=by rw [if_neg (show ¬ (false = true) by decide)] at H;exact H
   clear H
   have H:=H1
   clear H1
   obtain rfl:=Option.some.inj H
   go_enter Try.func94,Try.ntmps94
   go_wp2_with (first|((with_reducible refine gate_callee (f:=116) rfl ?_);refine goesL_ (some 8) rfl rfl Try.func116 (by kernel_rfl) rfl #[.int .u8 a0] rfl (by (try simp only [List.map_toArray,List.map_cons,List.map_nil]);first|done|rfl|(simp only [List.length_drop,List.length_take];rfl)) ?_;(with_reducible refine (cmp_isNaN_uint8.calls a0 true _ A3.out).mono ?_);rintro e w' ⟨rfl,⟨nd,rfl⟩⟩;refine ⟨_,rfl,?_⟩)|((with_reducible refine gate_callee (f:=116) rfl ?_);refine goesL_ (some 10) rfl rfl Try.func116 (by kernel_rfl) rfl #[.int .u8 a1] rfl (by (try simp only [List.map_toArray,List.map_cons,List.map_nil]);first|done|rfl|(simp only [List.length_drop,List.length_take];rfl)) ?_;(with_reducible refine (cmp_isNaN_uint8.calls a1 false _ A4.out).mono ?_);rintro e w' ⟨rfl,⟨nd,rfl⟩⟩;refine ⟨_,rfl,?_⟩))
   go_ret
   exact ⟨by first|rfl|(simp;done)|(simp [*];done),by repeat (first|exact Drawn0.refl _|apply Drawn0.step)⟩
 ·replace c5:=Bool.eq_false_iff.mpr c5
  subst c5
  have H1 : (if t132 = true then (some 1) else (if a0 < a1 then (some (-1)) else (if a0 > a1 then (some 1) else (some 0)))) = some r:=by rw [if_neg (show ¬ (false = true) by decide)] at H;exact H
  clear H
  have H:=H1
  clear H1
  by_cases c7 : t132 = true
  ·subst c7
   have H1 : (some 1) = some r:=by rw [if_pos rfl] at H;exact H
   clear H
   have H:=H1
   clear H1
   obtain rfl:=Option.some.inj H
   go_enter Try.func94,Try.ntmps94
   go_wp2_with (first|((with_reducible refine gate_callee (f:=116) rfl ?_);refine goesL_ (some 8) rfl rfl Try.func116 (by kernel_rfl) rfl #[.int .u8 a0] rfl (by (try simp only [List.map_toArray,List.map_cons,List.map_nil]);first|done|rfl|(simp only [List.length_drop,List.length_take];rfl)) ?_;(with_reducible refine (cmp_isNaN_uint8.calls a0 false _ A3.out).mono ?_);rintro e w' ⟨rfl,⟨nd,rfl⟩⟩;refine ⟨_,rfl,?_⟩)|((with_reducible refine gate_callee (f:=116) rfl ?_);refine goesL_ (some 10) rfl rfl Try.func116 (by kernel_rfl) rfl #[.int .u8 a1] rfl (by (try simp only [List.map_toArray,List.map_cons,List.map_nil]);first|done|rfl|(simp only [List.length_drop,List.length_take];rfl)) ?_;(with_reducible refine (cmp_isNaN_uint8.calls a1 true _ A4.out).mono ?_);rintro e w' ⟨rfl,⟨nd,rfl⟩⟩;refine ⟨_,rfl,?_⟩))
   go_ret
   exact ⟨by first|rfl|(simp;done)|(simp [*];done),by repeat (first|exact Drawn0.refl _|apply Drawn0.step)⟩
  ·replace c7:=Bool.eq_false_iff.mpr c7
   subst c7
   have H1 : (if a0 < a1 then (some (-1)) else (if a0 > a1 then (some 1) else (some 0))) = some r:=by rw [if_neg (show ¬ (false = true) by decide)] at H;exact H
   clear H
   have H:=H1
   clear H1
   by_cases c8 : a0 < a1
   ·rw [if_pos c8] at H
    have c8b0 : decide (a0 < a1) = true:=decide_eq_true c8
    clear c8
    obtain rfl:=Option.some.inj H
    go_enter Try.func94,Try.ntmps94
    go_wp2_with (first|((with_reducible refine gate_callee (f:=116) rfl ?_);refine goesL_ (some 8) rfl rfl Try.func116 (by kernel_rfl) rfl #[.int .u8 a0] rfl (by (try simp only [List.map_toArray,List.map_cons,List.map_nil]);first|done|rfl|(simp only [List.length_drop,List.length_take];rfl)) ?_;(with_reducible refine (cmp_isNaN_uint8.calls a0 false _ A3.out).mono ?_);rintro e w' ⟨rfl,⟨nd,rfl⟩⟩;refine ⟨_,rfl,?_⟩)|((with_reducible refine gate_callee (f:=116) rfl ?_);refine goesL_ (some 10) rfl rfl Try.func116 (by kernel_rfl) rfl #[.int .u8 a1] rfl (by (try simp only [List.map_toArray,List.map_cons,List.map_nil]);first|done|rfl|(simp only [List.length_drop,List.length_take];rfl)) ?_;(with_reducible refine (cmp_isNaN_uint8.calls a1 false _ A4.out).mono ?_);rintro e w' ⟨rfl,⟨nd,rfl⟩⟩;refine ⟨_,rfl,?_⟩))
    go_ret
    exact ⟨by first|rfl|(simp;done)|(simp [*];done),by repeat (first|exact Drawn0.refl _|apply Drawn0.step)⟩
   ·rw [if_neg c8] at H
    have c8b0 : decide (a0 < a1) = false:=decide_eq_false c8
    clear c8
    by_cases c9 : a0 > a1
    ·rw [if_pos c9] at H
     have c9b0 : decide (a1 < a0) = true:=decide_eq_true c9
     clear c9
     obtain rfl:=Option.some.inj H
     go_enter Try.func94,Try.ntmps94
     go_wp2_with (first|((with_reducible refine gate_callee (f:=116) rfl ?_);refine goesL_ (some 8) rfl rfl Try.func116 (by kernel_rfl) rfl #[.int .u8 a0] rfl (by (try simp only [List.map_toArray,List.map_cons,List.map_nil]);first|done|rfl|(simp only [List.length_drop,List.length_take];rfl)) ?_;(with_reducible refine (cmp_isNaN_uint8.calls a0 false _ A3.out).mono ?_);rintro e w' ⟨rfl,⟨nd,rfl⟩⟩;refine ⟨_,rfl,?_⟩)|((with_reducible refine gate_callee (f:=116) rfl ?_);refine goesL_ (some 10) rfl rfl Try.func116 (by kernel_rfl) rfl #[.int .u8 a1] rfl (by (try simp only [List.map_toArray,List.map_cons,List.map_nil]);first|done|rfl|(simp only [List.length_drop,List.length_take];rfl)) ?_;(with_reducible refine (cmp_isNaN_uint8.calls a1 false _ A4.out).mono ?_);rintro e w' ⟨rfl,⟨nd,rfl⟩⟩;refine ⟨_,rfl,?_⟩))
     go_ret
     exact ⟨by first|rfl|(simp;done)|(simp [*];done),by repeat (first|exact Drawn0.refl _|apply Drawn0.step)⟩
    ·rw [if_neg c9] at H
     have c9b0 : decide (a1 < a0) = false:=decide_eq_false c9
     clear c9
     obtain rfl:=Option.some.inj H
     go_enter Try.func94,Try.ntmps94
     go_wp2_with (first|((with_reducible refine gate_callee (f:=116) rfl ?_);refine goesL_ (some 8) rfl rfl Try.func116 (by kernel_rfl) rfl #[.int .u8 a0] rfl (by (try simp only [List.map_toArray,List.map_cons,List.map_nil]);first|done|rfl|(simp only [List.length_drop,List.length_take];rfl)) ?_;(with_reducible refine (cmp_isNaN_uint8.calls a0 false _ A3.out).mono ?_);rintro e w' ⟨rfl,⟨nd,rfl⟩⟩;refine ⟨_,rfl,?_⟩)|((with_reducible refine gate_callee (f:=116) rfl ?_);refine goesL_ (some 10) rfl rfl Try.func116 (by kernel_rfl) rfl #[.int .u8 a1] rfl (by (try simp only [List.map_toArray,List.map_cons,List.map_nil]);first|done|rfl|(simp only [List.length_drop,List.length_take];rfl)) ?_;(with_reducible refine (cmp_isNaN_uint8.calls a1 false _ A4.out).mono ?_);rintro e w' ⟨rfl,⟨nd,rfl⟩⟩;refine ⟨_,rfl,?_⟩))
     go_ret
     exact ⟨by first|rfl|(simp;done)|(simp [*];done),by repeat (first|exact Drawn0.refl _|apply Drawn0.step)⟩

end Go.Proofs.Ytjcjfghcahbbmaa.P

end

section
namespace Go.Proofs.Ytjcjfghcahbbmaa.P
open Go.RowKit Go.Proofs.YtjcjfghcahbbmaaG Go.Proofs.YtjcjfghcahbbmaaW.PrintWords Go.Proofs.YtjcjfghcahbbmaaW.PrintLast Go.Proofs.YtjcjfghcahbbmaaW.PrintMore
attribute [local go_sem] str_gtr str_geq str_leq max2_int min2_int max_two min_two max_three min_three max_four min_four   -- for this text's walks alone
set_option linter.unusedVariables false
set_option linter.unusedSimpArgs false

def ikey_key_to.f (k : Nat) (a0_0 : ByteArray) (a0_1 : Int) (a0_2 : Int) (a1_0 : ByteArray) (a1_1 : Int) (a1_2 : Int) : Option (Int):=(cmp_Compare_string.f a0_0 a1_0).bind fun t135=>((cmp_Compare_uint64.f a1_1 a0_1).bind fun t136=>((cmp_Compare_uint8.f a1_2 a0_2).bind fun t137=>((cmp_Or_int.f k (([t135,t136,t137] : List Int))).bind fun t141=>(some t141))))
def ikey_key_to.T1 : Bool × List (List Nat × List Nat):=(true,[([],[]),([0],[0]),([],[]),([2],[2]),([1,3],[1,3]),([],[]),([5],[5]),([],[]),([7],[7]),([6,8,4],[6,8]),([],[]),([10],[10]),([],[]),([12],[12]),([11,13,9],[11,13]),([4,9,14],[4,9,14]),([15,14],[15]),([16,16,0,1,2,3,4,5,6,7,8,9,10,11,12,13,14,15,16],[16])])
def ikey_key_to.B1 : List Nat:=[0,1,0,4,15,0,32,0,128,511,0,1024,0,4096,16383,32767,65535,131071]
theorem ikey_key_to.tab1 : rtab .any (opsOf Try.f65 1) = ikey_key_to.T1:=by kernel_rfl
theorem ikey_key_to.bits1 : waitsOk ikey_key_to.T1.2 ikey_key_to.B1 = true:=by kernel_rfl
set_option maxHeartbeats 8000000 in
set_option maxRecDepth 100000 in
theorem ikey_key_to.calls (k : Nat) (a0_0 : ByteArray) (a0_1 : Int) (a0_2 : Int) (a1_0 : ByteArray) (a1_1 : Int) (a1_2 : Int) (r : Int) (w : World) (h : ikey_key_to.f k a0_0 a0_1 a0_2 a1_0 a1_1 a1_2 = some r) :
  Calls Try.prog 65 #[.agg #[.string a0_0,.int .u64 a0_1,.int .u8 a0_2],.agg #[.string a1_0,.int .u64 a1_1,.int .u8 a1_2]] w fun e w'=>e = .returned (.int .i64 r) ∧ Below w.heap.size w w':=by
 have hu108:=Try.underlying108
 have HB:=Aside0.mk (Below.refl w.heap.size w)
 have H : ((cmp_Compare_string.f a0_0 a1_0).bind fun t135=>((cmp_Compare_uint64.f a1_1 a0_1).bind fun t136=>((cmp_Compare_uint8.f a1_2 a0_2).bind fun t137=>((cmp_Or_int.f k (([t135,t136,t137] : List Int))).bind fun t141=>(some t141))))) = some r:=h
 clear h
 replace H:=Option.bind_eq_some_iff.mp H
 obtain ⟨t135,A30,H⟩:=H
 replace H : ((cmp_Compare_uint64.f a1_1 a0_1).bind fun t136=>((cmp_Compare_uint8.f a1_2 a0_2).bind fun t137=>((cmp_Or_int.f k (([t135,t136,t137] : List Int))).bind fun t141=>(some t141)))) = some r:=H
 have A3:=Aside0.mk A30
 clear A30
 replace H:=Option.bind_eq_some_iff.mp H
 obtain ⟨t136,A40,H⟩:=H
 replace H : ((cmp_Compare_uint8.f a1_2 a0_2).bind fun t137=>((cmp_Or_int.f k (([t135,t136,t137] : List Int))).bind fun t141=>(some t141))) = some r:=H
 have A4:=Aside0.mk A40
 clear A40
 replace H:=Option.bind_eq_some_iff.mp H
 obtain ⟨t137,A50,H⟩:=H
 replace H : ((cmp_Or_int.f k (([t135,t136,t137] : List Int))).bind fun t141=>(some t141)) = some r:=H
 have A5:=Aside0.mk A50
 clear A50
 obtain ⟨y138,hy138⟩ : ∃ y_ : List Int,y_ = (([t135,t136,t137] : List Int)):=⟨_,rfl⟩
 replace H : ((cmp_Or_int.f k y138).bind fun t141=>(some t141)) = some r:=by first|(rw [hy138];with_reducible exact H)|(have H2_:=(Option.bind_some _ _).symm.trans H;rw [hy138];with_reducible exact H2_)|(have H2_:=(Option.bind_some _ _).symm.trans H;with_reducible exact H2_)|with_reducible exact H|(rw [hy138];exact H)|exact H
 have Ny138:=Aside0.mk hy138
 clear hy138
 replace H:=Option.bind_eq_some_iff.mp H
 obtain ⟨t141,A60,H⟩:=H
 replace H : (some t141) = some r:=H
 have A6:=Aside0.mk A60
 clear A60
 obtain rfl:=Option.some.inj H
 go_enter Try.func65,Try.ntmps65
 try go_wp2_with (first|((with_reducible refine gate_dst (N:=2) rfl ?_);refine box_event ?hg (N:=2) ?hd (cs:=#[.string a0_0,.int .u64 a0_1,.int .u8 a0_2]) (t:=108) ?hr ?_;(case hd=>rfl);(case hg=>rfl);(case hr=>first|(go_simp;done)|(go_simp;rfl));intro gb133 hg w7 hbox hb;have n0_:=Aside0.mk (below_step (by repeat (first|(with_reducible first|exact HB.out|apply below_alloc|apply pw_below_drewN|apply below_drew1)|exact HB.out)) hb);have n1_:=Aside0.mk (hbox);have n2_:=Aside0.mk ((by rw [hg];exact (below_size (by repeat (first|(with_reducible first|exact HB.out|apply below_alloc|apply pw_below_drewN|apply below_drew1)|exact HB.out))) : w.heap.size ≤ gb133));have n3_:=Aside0.mk ((by rw [hg];exact (below_size (by repeat (first|(with_reducible first|exact HB.out|apply below_alloc|apply pw_below_drewN|apply below_drew1)|exact HB.out))) : w.heap.size ≤ gb133));clear HB;have HB:=n0_;have BK133:=n1_;have GW133:=n2_;have GE133:=n3_;clear n0_ n1_ n2_ n3_;clear hb hbox hg)|((with_reducible refine gate_dst (N:=3) rfl ?_);refine box_event ?hg (N:=3) ?hd (cs:=#[.string a1_0,.int .u64 a1_1,.int .u8 a1_2]) (t:=108) ?hr ?_;(case hd=>rfl);(case hg=>rfl);(case hr=>first|(go_simp;done)|(go_simp;rfl));intro gb134 hg w8 hbox hb;have n0_:=Aside0.mk (blk_below (g:=gb133) (o:=.cells #[.string a0_0,.int .u64 a0_1,.int .u8 a0_2] 108 (0,0)) (by (with_reducible repeat (first|refine blk_drewN ?_ _|refine blk_drew ?_|refine blk_alloc ?_ _));exact BK133.out) hb);have n1_:=Aside0.mk (below_step (by repeat (first|(with_reducible first|exact HB.out|apply below_alloc|apply pw_below_drewN|apply below_drew1|refine below_set ?_ GE133.out)|exact HB.out)) hb);have n2_:=Aside0.mk (hbox);have n3_:=Aside0.mk ((by rw [hg];exact (below_size (by repeat (first|(with_reducible first|exact HB.out|apply below_alloc|apply pw_below_drewN|apply below_drew1|refine below_set ?_ GE133.out)|exact HB.out))) : w.heap.size ≤ gb134));have n4_:=Aside0.mk ((by rw [hg];exact (below_size (by repeat (first|(with_reducible first|exact HB.out|apply below_alloc|apply pw_below_drewN|apply below_drew1|refine below_set ?_ GE133.out)|exact HB.out))) : w.heap.size ≤ gb134));have n5_:=Aside0.mk ((by rw [hg];exact Nat.ne_of_lt (blk_lt (g:=gb133) (o:=.cells #[.string a0_0,.int .u64 a0_1,.int .u8 a0_2] 108 (0,0)) (by (with_reducible repeat (first|refine blk_drewN ?_ _|refine blk_drew ?_|refine blk_alloc ?_ _));exact BK133.out)) : gb133 ≠ gb134));have n6_:=Aside0.mk ((by rw [hg];exact Nat.ne_of_gt (blk_lt (g:=gb133) (o:=.cells #[.string a0_0,.int .u64 a0_1,.int .u8 a0_2] 108 (0,0)) (by (with_reducible repeat (first|refine blk_drewN ?_ _|refine blk_drew ?_|refine blk_alloc ?_ _));exact BK133.out)) : gb134 ≠ gb133));clear BK133;clear HB;have BK133:=n0_;have HB:=n1_;have BK134:=n2_;have GW134:=n3_;have GE134:=n4_;have NB133_134:=n5_;have NB134_133:=n6_;clear n0_ n1_ n2_ n3_ n4_ n5_ n6_;clear hb hbox hg))
 have n0_:=Aside0.mk (blk_drew BK133.out)
 have n1_:=Aside0.mk (blk_drew BK134.out)
 have n2_:=Aside0.mk (below_drew1 HB.out)
 clear BK133
 clear BK134
 clear HB
 have BK133:=n0_
 have BK134:=n1_
 have HB:=n2_
 clear n0_ n1_ n2_
 refine start_ (n:=18) (S:=fun w'=>w'.cell? ⟨gb133,0,none⟩ = some (.string a0_0) ∧ w'.cell? ⟨gb133,1,none⟩ = some (.int .u64 a0_1) ∧ w'.cell? ⟨gb133,2,none⟩ = some (.int .u8 a0_2) ∧ w'.cell? ⟨gb134,0,none⟩ = some (.string a1_0) ∧ w'.cell? ⟨gb134,1,none⟩ = some (.int .u64 a1_1) ∧ w'.cell? ⟨gb134,2,none⟩ = some (.int .u8 a1_2)) (ds:=[]) #[false,false,false,false,false,false,false,false,false,false,false,false,false,false,false,false,false,false] (by kernel_rfl) rfl rfl ⟨(blk_cell BK133.out 0).trans rfl,(blk_cell BK133.out 1).trans rfl,(blk_cell BK133.out 2).trans rfl,(blk_cell BK134.out 0).trans rfl,(blk_cell BK134.out 1).trans rfl,(blk_cell BK134.out 2).trans rfl⟩ (fun hHeld=>?_);refine with_tabW ikey_key_to.tab1 ikey_key_to.bits1 (fun HT_ HW_=>?_)
 generalize w8.drew = w9 at BK133 BK134 HB hHeld ⊢
 refine pure_ (i:=0) (N:=some 5) (v:=?_) (a':=?_) #[true,false,false,false,false,false,false,false,false,false,false,false,false,false,false,false,false,false] rfl rfl (any_of HT_.out (by kernel_rfl)) (fun _ _ _ h=>h) (Or.inl ⟨by rfl,?_⟩) ?_ ?_
 rotate_left
 ·intro w'
  go_simp
  with_reducible rfl
 rotate_left
 ·simp only [Act.put,List.setIfInBounds_toArray,List.set_cons_zero,List.set_cons_succ,i64_w,i32_w]
  rfl
 refine pure_ (i:=2) (N:=some 7) (v:=?_) (a':=?_) #[true,false,true,false,false,false,false,false,false,false,false,false,false,false,false,false,false,false] rfl rfl (any_of HT_.out (by kernel_rfl)) (fun _ _ _ h=>h) (Or.inl ⟨by rfl,?_⟩) ?_ ?_
 rotate_left
 ·intro w'
  go_simp
  with_reducible rfl
 rotate_left
 ·simp only [Act.put,List.setIfInBounds_toArray,List.set_cons_zero,List.set_cons_succ,i64_w,i32_w]
  rfl
 refine pure_ (i:=5) (N:=some 10) (v:=?_) (a':=?_) #[true,false,true,false,false,true,false,false,false,false,false,false,false,false,false,false,false,false] rfl rfl (any_of HT_.out (by kernel_rfl)) (fun _ _ _ h=>h) (Or.inl ⟨by rfl,?_⟩) ?_ ?_
 rotate_left
 ·intro w'
  go_simp
  with_reducible rfl
 rotate_left
 ·simp only [Act.put,List.setIfInBounds_toArray,List.set_cons_zero,List.set_cons_succ,i64_w,i32_w]
  rfl
 refine pure_ (i:=7) (N:=some 12) (v:=?_) (a':=?_) #[true,false,true,false,false,true,false,true,false,false,false,false,false,false,false,false,false,false] rfl rfl (any_of HT_.out (by kernel_rfl)) (fun _ _ _ h=>h) (Or.inl ⟨by rfl,?_⟩) ?_ ?_
 rotate_left
 ·intro w'
  go_simp
  with_reducible rfl
 rotate_left
 ·simp only [Act.put,List.setIfInBounds_toArray,List.set_cons_zero,List.set_cons_succ,i64_w,i32_w]
  rfl
 refine pure_ (i:=10) (N:=some 15) (v:=?_) (a':=?_) #[true,false,true,false,false,true,false,true,false,false,true,false,false,false,false,false,false,false] rfl rfl (any_of HT_.out (by kernel_rfl)) (fun _ _ _ h=>h) (Or.inl ⟨by rfl,?_⟩) ?_ ?_
 rotate_left
 ·intro w'
  go_simp
  with_reducible rfl
 rotate_left
 ·simp only [Act.put,List.setIfInBounds_toArray,List.set_cons_zero,List.set_cons_succ,i64_w,i32_w]
  rfl
 refine pure_ (i:=12) (N:=some 17) (v:=?_) (a':=?_) #[true,false,true,false,false,true,false,true,false,false,true,false,true,false,false,false,false,false] rfl rfl (any_of HT_.out (by kernel_rfl)) (fun _ _ _ h=>h) (Or.inl ⟨by rfl,?_⟩) ?_ ?_
 rotate_left
 ·intro w'
  go_simp
  with_reducible rfl
 rotate_left
 ·simp only [Act.put,List.setIfInBounds_toArray,List.set_cons_zero,List.set_cons_succ,i64_w,i32_w]
  rfl
 refine take_ (i:=1) (N:=some 6) (v:=?_) (a':=?_) #[true,true,true,false,false,true,false,true,false,false,true,false,true,false,false,false,false,false] rfl rfl (take_ofW HT_.out HW_.out (by kernel_rfl)) (fun _ _ _ h=>h) (Or.inl ⟨by rfl,?_⟩) hHeld ?_ ?_
 rotate_left
 ·rintro w' ⟨s0,s1,s2,s3,s4,s5⟩
  go_simp
  with_reducible rfl
 rotate_left
 ·simp only [Act.put,List.setIfInBounds_toArray,List.set_cons_zero,List.set_cons_succ,i64_w,i32_w]
  rfl
 refine take_ (i:=3) (N:=some 8) (v:=?_) (a':=?_) #[true,true,true,true,false,true,false,true,false,false,true,false,true,false,false,false,false,false] rfl rfl (take_ofW HT_.out HW_.out (by kernel_rfl)) (fun _ _ _ h=>h) (Or.inl ⟨by rfl,?_⟩) hHeld ?_ ?_
 rotate_left
 ·rintro w' ⟨s0,s1,s2,s3,s4,s5⟩
  go_simp
  with_reducible rfl
 rotate_left
 ·simp only [Act.put,List.setIfInBounds_toArray,List.set_cons_zero,List.set_cons_succ,i64_w,i32_w]
  rfl
 refine take_ (i:=6) (N:=some 11) (v:=?_) (a':=?_) #[true,true,true,true,false,true,true,true,false,false,true,false,true,false,false,false,false,false] rfl rfl (take_ofW HT_.out HW_.out (by kernel_rfl)) (fun _ _ _ h=>h) (Or.inl ⟨by rfl,?_⟩) hHeld ?_ ?_
 rotate_left
 ·rintro w' ⟨s0,s1,s2,s3,s4,s5⟩
  go_simp
  with_reducible rfl
 rotate_left
 ·simp only [Act.put,List.setIfInBounds_toArray,List.set_cons_zero,List.set_cons_succ,i64_w,i32_w]
  rfl
 refine take_ (i:=8) (N:=some 13) (v:=?_) (a':=?_) #[true,true,true,true,false,true,true,true,true,false,true,false,true,false,false,false,false,false] rfl rfl (take_ofW HT_.out HW_.out (by kernel_rfl)) (fun _ _ _ h=>h) (Or.inl ⟨by rfl,?_⟩) hHeld ?_ ?_
 rotate_left
 ·rintro w' ⟨s0,s1,s2,s3,s4,s5⟩
  go_simp
  with_reducible rfl
 rotate_left
 ·simp only [Act.put,List.setIfInBounds_toArray,List.set_cons_zero,List.set_cons_succ,i64_w,i32_w]
  rfl
 refine take_ (i:=11) (N:=some 16) (v:=?_) (a':=?_) #[true,true,true,true,false,true,true,true,true,false,true,true,true,false,false,false,false,false] rfl rfl (take_ofW HT_.out HW_.out (by kernel_rfl)) (fun _ _ _ h=>h) (Or.inl ⟨by rfl,?_⟩) hHeld ?_ ?_
 rotate_left
 ·rintro w' ⟨s0,s1,s2,s3,s4,s5⟩
  go_simp
  with_reducible rfl
 rotate_left
 ·simp only [Act.put,List.setIfInBounds_toArray,List.set_cons_zero,List.set_cons_succ,i64_w,i32_w]
  rfl
 refine take_ (i:=13) (N:=some 18) (v:=?_) (a':=?_) #[true,true,true,true,false,true,true,true,true,false,true,true,true,true,false,false,false,false] rfl rfl (take_ofW HT_.out HW_.out (by kernel_rfl)) (fun _ _ _ h=>h) (Or.inl ⟨by rfl,?_⟩) hHeld ?_ ?_
 rotate_left
 ·rintro w' ⟨s0,s1,s2,s3,s4,s5⟩
  go_simp
  with_reducible rfl
 rotate_left
 ·simp only [Act.put,List.setIfInBounds_toArray,List.set_cons_zero,List.set_cons_succ,i64_w,i32_w]
  rfl
 refine one_ (i:=4) (N:=some 9) #[true,true,true,true,true,true,true,true,true,false,true,true,true,true,false,false,false,false] rfl rfl (one_of HT_.out (by kernel_rfl)) (by decide) (fun K hK=>?_)
 refine goes_ Try.func92 (by kernel_rfl) rfl #[.string a0_0,.string a1_0] (by rfl) rfl rfl (by (try simp only [List.map_toArray,List.map_cons,List.map_nil]);first|done|rfl|(simp only [List.length_drop,List.length_take];rfl)) ?_
 with_reducible refine (cmp_Compare_string.calls a0_0 a1_0 t135 _ A3.out).mono ?_
 rintro e w' ⟨rfl,⟨nd,rfl⟩⟩
 refine ⟨_,rfl,?_⟩
 refine hK.out _ _ ⟨(blk_cell BK133.out 0).trans rfl,(blk_cell BK133.out 1).trans rfl,(blk_cell BK133.out 2).trans rfl,(blk_cell BK134.out 0).trans rfl,(blk_cell BK134.out 1).trans rfl,(blk_cell BK134.out 2).trans rfl⟩ (fun hHeld=>?_)
 clear hK K
 refine norm_ (a':=?_) ?_ ?_
 rotate_left
 ·show Act.put _ (some 9) _ = _
  simp only [Act.put,List.setIfInBounds_toArray,List.set_cons_zero,List.set_cons_succ,i64_w,i32_w]
  rfl
 refine one_ (i:=9) (N:=some 14) #[true,true,true,true,true,true,true,true,true,true,true,true,true,true,false,false,false,false] rfl rfl (one_of HT_.out (by kernel_rfl)) (by decide) (fun K hK=>?_)
 refine goes_ Try.func93 (by kernel_rfl) rfl #[.int .u64 a1_1,.int .u64 a0_1] (by rfl) rfl rfl (by (try simp only [List.map_toArray,List.map_cons,List.map_nil]);first|done|rfl|(simp only [List.length_drop,List.length_take];rfl)) ?_
 with_reducible refine (cmp_Compare_uint64.calls a1_1 a0_1 t136 _ A4.out).mono ?_
 rintro e w' ⟨rfl,⟨nd,rfl⟩⟩
 refine ⟨_,rfl,?_⟩
 refine hK.out _ _ ⟨(blk_cell BK133.out 0).trans rfl,(blk_cell BK133.out 1).trans rfl,(blk_cell BK133.out 2).trans rfl,(blk_cell BK134.out 0).trans rfl,(blk_cell BK134.out 1).trans rfl,(blk_cell BK134.out 2).trans rfl⟩ (fun hHeld=>?_)
 clear hK K
 refine norm_ (a':=?_) ?_ ?_
 rotate_left
 ·show Act.put _ (some 14) _ = _
  simp only [Act.put,List.setIfInBounds_toArray,List.set_cons_zero,List.set_cons_succ,i64_w,i32_w]
  rfl
 refine one_ (i:=14) (N:=some 19) #[true,true,true,true,true,true,true,true,true,true,true,true,true,true,true,false,false,false] rfl rfl (one_of HT_.out (by kernel_rfl)) (by decide) (fun K hK=>?_)
 refine goes_ Try.func94 (by kernel_rfl) rfl #[.int .u8 a1_2,.int .u8 a0_2] (by rfl) rfl rfl (by (try simp only [List.map_toArray,List.map_cons,List.map_nil]);first|done|rfl|(simp only [List.length_drop,List.length_take];rfl)) ?_
 with_reducible refine (cmp_Compare_uint8.calls a1_2 a0_2 t137 _ A5.out).mono ?_
 rintro e w' ⟨rfl,⟨nd,rfl⟩⟩
 refine ⟨_,rfl,?_⟩
 refine hK.out _ _ ⟨(blk_cell BK133.out 0).trans rfl,(blk_cell BK133.out 1).trans rfl,(blk_cell BK133.out 2).trans rfl,(blk_cell BK134.out 0).trans rfl,(blk_cell BK134.out 1).trans rfl,(blk_cell BK134.out 2).trans rfl⟩ (fun hHeld=>?_)
 clear hK K
 refine norm_ (a':=?_) ?_ ?_
 rotate_left
 ·show Act.put _ (some 19) _ = _
  simp only [Act.put,List.setIfInBounds_toArray,List.set_cons_zero,List.set_cons_succ,i64_w,i32_w]
  rfl
 refine one_ (i:=15) (N:=some 20) #[true,true,true,true,true,true,true,true,true,true,true,true,true,true,true,true,false,false] rfl rfl (one_of HT_.out (by kernel_rfl)) (by decide) (fun K hK=>?_)
 refine Kd.R_lit_step (Kd.int .i64) _ 3 ?hg (N:=20) ?hd (xs:=([t135,t136,t137] : List Int)) (inner:=[.int .i64 t135,.int .i64 t136,.int .i64 t137]) (ok:=fun _=>True) (okp:=fun _=>True) ?hr ?hp (fun _ hk=>hk) trivial (Below.refl _ _) (Nat.le_refl _) (by simp) ?_;(case hd=>rfl);(case hg=>rfl);(case hr=>first|(go_simp;done)|(go_simp;rfl));(case hp=>exact (Reps.one (show Kd.M (Kd.int .i64) _ _ _ t135 [.int .i64 t135] from rfl) (Reps.one (show Kd.M (Kd.int .i64) _ _ _ t136 [.int .i64 t136] from rfl) (Reps.one (show Kd.M (Kd.int .i64) _ _ _ t137 [.int .i64 t137] from rfl) (Reps.none _ _)))))
 intro v139 w10 ho11 hb hg_ hnew_
 clear hg_ hnew_
 (first|rw [← Ny138.out] at ho11|(simp only [Int.reduceToNat] at ho11;rw [← Ny138.out] at ho11))
 have n0_:=Aside0.mk (Kd.R_lower ho11 (below_size (by repeat (first|(with_reducible first|exact HB.out|apply below_alloc|apply pw_below_drewN|apply below_drew1|refine below_set ?_ GE133.out|refine below_set ?_ GE134.out)|exact HB.out))))
 have n1_:=Aside0.mk (blk_below (g:=gb133) (o:=.cells #[.string a0_0,.int .u64 a0_1,.int .u8 a0_2] 108 (0,0)) (by (with_reducible repeat (first|refine blk_drewN ?_ _|refine blk_drew ?_|refine blk_alloc ?_ _));exact BK133.out) hb)
 have n2_:=Aside0.mk (blk_below (g:=gb134) (o:=.cells #[.string a1_0,.int .u64 a1_1,.int .u8 a1_2] 108 (0,0)) (by (with_reducible repeat (first|refine blk_drewN ?_ _|refine blk_drew ?_|refine blk_alloc ?_ _));exact BK134.out) hb)
 have n3_:=Aside0.mk (below_step (by repeat (first|(with_reducible first|exact HB.out|apply below_alloc|apply pw_below_drewN|apply below_drew1|refine below_set ?_ GE133.out|refine below_set ?_ GE134.out)|exact HB.out)) hb)
 clear BK133
 clear BK134
 clear HB
 have HO140:=n0_
 have BK133:=n1_
 have BK134:=n2_
 have HB:=n3_
 clear n0_ n1_ n2_ n3_
 clear hb ho11
 obtain ⟨Ao12,co12,eo12⟩:=Kd.R_slice HO140.out
 (first|subst eo12|(injection eo12 with f1_ f2_ f3_;have f4_:=f1_.symm;have f5_:=f3_.symm;clear f1_ f2_ f3_;subst f4_;subst f5_))
 refine hK.out _ _ ⟨(blk_cell BK133.out 0).trans rfl,(blk_cell BK133.out 1).trans rfl,(blk_cell BK133.out 2).trans rfl,(blk_cell BK134.out 0).trans rfl,(blk_cell BK134.out 1).trans rfl,(blk_cell BK134.out 2).trans rfl⟩ (fun hHeld=>?_)
 clear hK K
 refine norm_ (a':=?_) ?_ ?_
 rotate_left
 ·show Act.put _ (some 20) _ = _
  simp only [Act.put,List.setIfInBounds_toArray,List.set_cons_zero,List.set_cons_succ,i64_w,i32_w]
  rfl
 refine one_ (i:=16) (N:=some 21) #[true,true,true,true,true,true,true,true,true,true,true,true,true,true,true,true,true,false] rfl rfl (one_of HT_.out (by kernel_rfl)) (by decide) (fun K hK=>?_)
 refine goes_ Try.func91 (by kernel_rfl) rfl #[.slice Ao12 y138.length co12] (by rfl) rfl rfl (by (try simp only [List.map_toArray,List.map_cons,List.map_nil]);first|done|rfl|(simp only [List.length_drop,List.length_take];rfl)) ?_
 with_reducible refine (cmp_Or_int.calls k _ _ y138 t141 _ ?side1 ?side2 A6.out).mono ?_
 (case side1=>repeat (first|exact (Kd.R_reads' HO140.out).2.2|(with_reducible refine Kd.C_alloc ?_ _)|(with_reducible refine Kd.C_drewN ?_ _)|(with_reducible refine Kd.C_drew ?_)))
 (case side2=>exact (Kd.R_reads' HO140.out).2.1)
 rintro e w' ⟨rfl,⟨nd,rfl⟩⟩
 refine ⟨_,rfl,?_⟩
 refine hK.out _ _ ⟨(blk_cell BK133.out 0).trans rfl,(blk_cell BK133.out 1).trans rfl,(blk_cell BK133.out 2).trans rfl,(blk_cell BK134.out 0).trans rfl,(blk_cell BK134.out 1).trans rfl,(blk_cell BK134.out 2).trans rfl⟩ (fun hHeld=>?_)
 clear hK K
 refine norm_ (a':=?_) ?_ ?_
 rotate_left
 ·show Act.put _ (some 21) _ = _
  simp only [Act.put,List.setIfInBounds_toArray,List.set_cons_zero,List.set_cons_succ,i64_w,i32_w]
  rfl
 refine pure_ (i:=17) (N:=some 4) (v:=?_) (a':=?_) #[true,true,true,true,true,true,true,true,true,true,true,true,true,true,true,true,true,true] rfl rfl (any_of HT_.out (by kernel_rfl)) (fun _ _ _ h=>h) (Or.inl ⟨by rfl,?_⟩) ?_ ?_
 rotate_left
 ·intro w'
  go_simp
  with_reducible rfl
 rotate_left
 ·simp only [Act.put,List.setIfInBounds_toArray,List.set_cons_zero,List.set_cons_succ,i64_w,i32_w]
  rfl
 refine done_ (done_of HT_.out (by kernel_rfl)) ?_
 try go_wp2
 go_ret
 exact ⟨by first|rfl|(simp [errW_none,errW_some] <;> rfl)|(simp [*,errW_none,errW_some] <;> rfl),by repeat (first|(with_reducible first|exact HB.out|apply below_alloc|apply pw_below_drewN|apply below_drew1|refine below_set ?_ GE133.out|refine below_set ?_ GE134.out)|exact HB.out)⟩

end Go.Proofs.Ytjcjfghcahbbmaa.P

end

section
namespace Go.Proofs.Ytjcjfghcahbbmaa.P
open Go.RowKit Go.Proofs.YtjcjfghcahbbmaaG Go.Proofs.YtjcjfghcahbbmaaW.PrintWords Go.Proofs.YtjcjfghcahbbmaaW.PrintLast Go.Proofs.YtjcjfghcahbbmaaW.PrintMore
attribute [local go_sem] str_gtr str_geq str_leq max2_int min2_int max_two min_two max_three min_three max_four min_four   -- for this text's walks alone
set_option linter.unusedVariables false
set_option linter.unusedSimpArgs false

def ikey_Compare.f (k : Nat) (a0_0 : ByteArray) (a0_1 : Int) (a0_2 : Int) (a1_0 : ByteArray) (a1_1 : Int) (a1_2 : Int) : Option (Int):=(ikey_key_to.f k a0_0 a0_1 a0_2 a1_0 a1_1 a1_2).bind fun t144=>(some t144)
set_option maxHeartbeats 8000000 in
set_option maxRecDepth 100000 in
theorem ikey_Compare.calls (k : Nat) (a0_0 : ByteArray) (a0_1 : Int) (a0_2 : Int) (a1_0 : ByteArray) (a1_1 : Int) (a1_2 : Int) (r : Int) (w : World) (h : ikey_Compare.f k a0_0 a0_1 a0_2 a1_0 a1_1 a1_2 = some r) :
  Calls Try.prog 32 #[.agg #[.string a0_0,.int .u64 a0_1,.int .u8 a0_2],.agg #[.string a1_0,.int .u64 a1_1,.int .u8 a1_2]] w fun e w'=>e = .returned (.int .i64 r) ∧ Below w.heap.size w w':=by
 have hu50:=Try.underlying50
 have HB:=Aside0.mk (Below.refl w.heap.size w)
 have H : ((ikey_key_to.f k a0_0 a0_1 a0_2 a1_0 a1_1 a1_2).bind fun t144=>(some t144)) = some r:=h
 clear h
 replace H:=Option.bind_eq_some_iff.mp H
 obtain ⟨t144,A30,H⟩:=H
 replace H : (some t144) = some r:=H
 have A3:=Aside0.mk A30
 clear A30
 obtain rfl:=Option.some.inj H
 go_enter Try.func32,Try.ntmps32
 go_wp2_with (first|((with_reducible refine gate_dst (N:=2) rfl ?_);refine box_event ?hg (N:=2) ?hd (cs:=#[.string a0_0,.int .u64 a0_1,.int .u8 a0_2]) (t:=50) ?hr ?_;(case hd=>rfl);(case hg=>rfl);(case hr=>first|(go_simp;done)|(go_simp;rfl));intro gb142 hg w4 hbox hb;have n0_:=Aside0.mk (below_step (by repeat (first|(with_reducible first|exact HB.out|apply below_alloc|apply pw_below_drewN|apply below_drew1)|exact HB.out)) hb);have n1_:=Aside0.mk (hbox);have n2_:=Aside0.mk ((by rw [hg];exact (below_size (by repeat (first|(with_reducible first|exact HB.out|apply below_alloc|apply pw_below_drewN|apply below_drew1)|exact HB.out))) : w.heap.size ≤ gb142));have n3_:=Aside0.mk ((by rw [hg];exact (below_size (by repeat (first|(with_reducible first|exact HB.out|apply below_alloc|apply pw_below_drewN|apply below_drew1)|exact HB.out))) : w.heap.size ≤ gb142));clear HB;have HB:=n0_;have BK142:=n1_;have GW142:=n2_;have GE142:=n3_;clear n0_ n1_ n2_ n3_;clear hb hbox hg)|((with_reducible refine gate_dst (N:=3) rfl ?_);refine box_event ?hg (N:=3) ?hd (cs:=#[.string a1_0,.int .u64 a1_1,.int .u8 a1_2]) (t:=50) ?hr ?_;(case hd=>rfl);(case hg=>rfl);(case hr=>first|(go_simp;done)|(go_simp;rfl));intro gb143 hg w5 hbox hb;have n0_:=Aside0.mk (blk_below (g:=gb142) (o:=.cells #[.string a0_0,.int .u64 a0_1,.int .u8 a0_2] 50 (0,0)) (by (with_reducible repeat (first|refine blk_drewN ?_ _|refine blk_drew ?_|refine blk_alloc ?_ _));exact BK142.out) hb);have n1_:=Aside0.mk (below_step (by repeat (first|(with_reducible first|exact HB.out|apply below_alloc|apply pw_below_drewN|apply below_drew1|refine below_set ?_ GE142.out)|exact HB.out)) hb);have n2_:=Aside0.mk (hbox);have n3_:=Aside0.mk ((by rw [hg];exact (below_size (by repeat (first|(with_reducible first|exact HB.out|apply below_alloc|apply pw_below_drewN|apply below_drew1|refine below_set ?_ GE142.out)|exact HB.out))) : w.heap.size ≤ gb143));have n4_:=Aside0.mk ((by rw [hg];exact (below_size (by repeat (first|(with_reducible first|exact HB.out|apply below_alloc|apply pw_below_drewN|apply below_drew1|refine below_set ?_ GE142.out)|exact HB.out))) : w.heap.size ≤ gb143));have n5_:=Aside0.mk ((by rw [hg];exact Nat.ne_of_lt (blk_lt (g:=gb142) (o:=.cells #[.string a0_0,.int .u64 a0_1,.int .u8 a0_2] 50 (0,0)) (by (with_reducible repeat (first|refine blk_drewN ?_ _|refine blk_drew ?_|refine blk_alloc ?_ _));exact BK142.out)) : gb142 ≠ gb143));have n6_:=Aside0.mk ((by rw [hg];exact Nat.ne_of_gt (blk_lt (g:=gb142) (o:=.cells #[.string a0_0,.int .u64 a0_1,.int .u8 a0_2] 50 (0,0)) (by (with_reducible repeat (first|refine blk_drewN ?_ _|refine blk_drew ?_|refine blk_alloc ?_ _));exact BK142.out)) : gb143 ≠ gb142));clear BK142;clear HB;have BK142:=n0_;have HB:=n1_;have BK143:=n2_;have GW143:=n3_;have GE143:=n4_;have NB142_143:=n5_;have NB143_142:=n6_;clear n0_ n1_ n2_ n3_ n4_ n5_ n6_;clear hb hbox hg;have hnb6:=NB142_143.out;have hnc6:=NB143_142.out;have hcz7_0 : w5.cell? ⟨gb142,0,none⟩ = some (.string a0_0):=(blk_cell BK142.out 0).trans rfl;have hcz7_1 : w5.cell? ⟨gb142,1,none⟩ = some (.int .u64 a0_1):=(blk_cell BK142.out 1).trans rfl;have hcz7_2 : w5.cell? ⟨gb142,2,none⟩ = some (.int .u8 a0_2):=(blk_cell BK142.out 2).trans rfl;have hfz7_0:=blk_frozen BK142.out 0;have hfz7_1:=blk_frozen BK142.out 1;have hfz7_2:=blk_frozen BK142.out 2;have hcz8_0 : w5.cell? ⟨gb143,0,none⟩ = some (.string a1_0):=(blk_cell BK143.out 0).trans rfl;have hcz8_1 : w5.cell? ⟨gb143,1,none⟩ = some (.int .u64 a1_1):=(blk_cell BK143.out 1).trans rfl;have hcz8_2 : w5.cell? ⟨gb143,2,none⟩ = some (.int .u8 a1_2):=(blk_cell BK143.out 2).trans rfl;have hfz8_0:=blk_frozen BK143.out 0;have hfz8_1:=blk_frozen BK143.out 1;have hfz8_2:=blk_frozen BK143.out 2)|((with_reducible refine gate_calleeT (t:=6) rfl ?_);refine goesT_ 6 (by rfl) (some 9) rfl rfl Try.func65 (by kernel_rfl) rfl #[.agg #[.string a0_0,.int .u64 a0_1,.int .u8 a0_2],.agg #[.string a1_0,.int .u64 a1_1,.int .u8 a1_2]] rfl (by (try simp only [List.map_toArray,List.map_cons,List.map_nil]);first|done|rfl|(simp only [List.length_drop,List.length_take];rfl)) ?_;(with_reducible refine (ikey_key_to.calls k a0_0 a0_1 a0_2 a1_0 a1_1 a1_2 t144 _ A3.out).mono ?_);rintro e w9 ⟨rfl,hb⟩;refine ⟨_,rfl,?_⟩;have n0_:=Aside0.mk (blk_below (g:=gb142) (o:=.cells #[.string a0_0,.int .u64 a0_1,.int .u8 a0_2] 50 (0,0)) (by (with_reducible repeat (first|refine blk_drewN ?_ _|refine blk_drew ?_|refine blk_alloc ?_ _));exact BK142.out) hb);have n1_:=Aside0.mk (blk_below (g:=gb143) (o:=.cells #[.string a1_0,.int .u64 a1_1,.int .u8 a1_2] 50 (0,0)) (by (with_reducible repeat (first|refine blk_drewN ?_ _|refine blk_drew ?_|refine blk_alloc ?_ _));exact BK143.out) hb);have n2_:=Aside0.mk (below_step (by repeat (first|(with_reducible first|exact HB.out|apply below_alloc|apply pw_below_drewN|apply below_drew1|refine below_set ?_ GE142.out|refine below_set ?_ GE143.out)|exact HB.out)) hb);clear BK142;clear BK143;clear HB;have BK142:=n0_;have BK143:=n1_;have HB:=n2_;clear n0_ n1_ n2_;(try clear hb);(try clear hb2);(try clear hk);(try clear hi)))
 go_ret
 exact ⟨by first|rfl|(simp [errW_none,errW_some] <;> rfl)|(simp [*,errW_none,errW_some] <;> rfl),by repeat (first|(with_reducible first|exact HB.out|apply below_alloc|apply pw_below_drewN|apply below_drew1|refine below_set ?_ GE142.out|refine below_set ?_ GE143.out)|exact HB.out)⟩

end Go.Proofs.Ytjcjfghcahbbmaa.P

end

section
namespace Go.Proofs.Ytjcjfghcahbbmaa.P
open Go.RowKit Go.Proofs.YtjcjfghcahbbmaaG Go.Proofs.YtjcjfghcahbbmaaW.PrintWords Go.Proofs.YtjcjfghcahbbmaaW.PrintLast Go.Proofs.YtjcjfghcahbbmaaW.PrintMore
attribute [local go_sem] str_gtr str_geq str_leq max2_int min2_int max_two min_two max_three min_three max_four min_four   -- for this text's walks alone
set_option linter.unusedVariables false
set_option linter.unusedSimpArgs false

def ikey_Rising.l0 : Nat → List (S59) → Int → Int → Option (Bool)
 | 0,_,_,_=>none
 | k + 1,x0,x9,x10=>if x10 < x9 then (if 0 ≤ x10 then (if x10 < (x0.length : Int) then (if 0 ≤ (wrap64 (x10 + 1)) then (if (wrap64 (x10 + 1)) < (x0.length : Int) then ((ikey_Compare.f k ((rd_T59 x0 x10).f0.f0) ((rd_T59 x0 x10).f0.f1) ((rd_T59 x0 x10).f0.f2) ((rd_T59 x0 (wrap64 (x10 + 1))).f0.f0) ((rd_T59 x0 (wrap64 (x10 + 1))).f0.f1) ((rd_T59 x0 (wrap64 (x10 + 1))).f0.f2)).bind fun t151=>(if t151 ≥ 0 then (some false) else (ikey_Rising.l0 k x0 x9 (wrap64 (x10 + 1))))) else (none)) else (none)) else (none)) else (none)) else (some true)
def ikey_Rising.f (k : Nat) (l0 : List (S59)) : Option (Bool):=if 0 ≤ (mn (l0.length : Int) 1) then (if (mn (l0.length : Int) 1) ≤ (l0.length : Int) then (ikey_Rising.l0 k l0 ((l0.drop ((mn (l0.length : Int) 1) : Int).toNat).length : Int) 0) else (none)) else (none)
def ikey_Rising.T4 : Bool × List (List Nat × List Nat):=(true,[([],[]),([],[]),([0,1],[0,1]),([2],[2]),([3],[3]),([],[]),([],[]),([6],[6]),([5,7],[5,7]),([8],[8]),([9],[9]),([4,10],[4,10]),([11],[11])])
def ikey_Rising.B4 : List Nat:=[0,0,3,7,15,0,0,64,224,480,992,2047,4095]
theorem ikey_Rising.tab4 : rtab .any (opsOf Try.f31 4) = ikey_Rising.T4:=by kernel_rfl
theorem ikey_Rising.bits4 : waitsOk ikey_Rising.T4.2 ikey_Rising.B4 = true:=by kernel_rfl
set_option maxHeartbeats 8000000 in
set_option maxRecDepth 100000 in
theorem ikey_Rising.calls (k : Nat) (A0 : Option Addr) (c0 : Nat) (l0 : List (S59)) (r : Bool) (w : World) (hr0 : Kd.C k59 w A0 l0.length l0) (hc0 : l0.length ≤ c0) (h : ikey_Rising.f k l0 = some r) :
  Calls Try.prog 31 #[.slice A0 l0.length c0] w fun e w'=>e = .returned (.bool r) ∧ Below w.heap.size w w':=by
 have hu50:=Try.underlying50
 have HR0:=Aside0.mk hr0
 have HC0:=Aside0.mk hc0
 clear hr0 hc0
 have HB:=Aside0.mk (Below.refl w.heap.size w)
 have H : (if 0 ≤ (mn (l0.length : Int) 1) then (if (mn (l0.length : Int) 1) ≤ (l0.length : Int) then (ikey_Rising.l0 k l0 ((l0.drop ((mn (l0.length : Int) 1) : Int).toNat).length : Int) 0) else (none)) else (none)) = some r:=h
 clear h
 obtain ⟨ji2,hji2⟩ : ∃ j_ : Int,(mn (l0.length : Int) 1) = j_:=⟨_,rfl⟩
 replace H : (if 0 ≤ (ji2) then (if (ji2) ≤ (l0.length : Int) then (ikey_Rising.l0 k l0 ((l0.drop ((ji2) : Int).toNat).length : Int) 0) else (none)) else (none)) = some r:=by first|(rw [hji2] at H;exact H)|(simp only [hji2] at H ⊢;exact H)
 (try (have hji2h : ji2 ≤ 1:=by (rw [← hji2];unfold mn;(repeat' split) <;> omega)))
 (try (have hji2g : ji2 ≤ 64:=by omega))
 (try (have hji2l : 0 ≤ ji2:=by (rw [← hji2];unfold mn;(repeat' split) <;> omega)))
 (try (have hji2m : 0 ≤ ji2:=by omega))
 have hji2_ : (if 1 < (l0.length : Int) then 1 else (l0.length : Int)) = ji2:=hji2
 by_cases c3 : 0 ≤ (ji2)
 ·rw [if_pos c3] at H
  have c3b0:=eq_true c3
  have c3b1 : decide (0 ≤ (ji2)) = true:=decide_eq_true c3
  clear c3
  by_cases c4 : (ji2) ≤ (l0.length : Int)
  ·rw [if_pos c4] at H
   have c4b0:=eq_true c4
   have c4b1 : decide ((ji2) ≤ (l0.length : Int)) = true:=decide_eq_true c4
   clear c4
   obtain ⟨y145,hy145⟩ : ∃ y_ : List (S59),y_ = (l0.drop ((ji2) : Int).toNat):=⟨_,rfl⟩
   replace H : (ikey_Rising.l0 k l0 (y145.length : Int) 0) = some r:=by first|(rw [hy145];with_reducible exact H)|(have H2_:=(Option.bind_some _ _).symm.trans H;rw [hy145];with_reducible exact H2_)|(have H2_:=(Option.bind_some _ _).symm.trans H;with_reducible exact H2_)|with_reducible exact H|(rw [hy145];exact H)|exact H
   have Ny145:=Aside0.mk hy145
   clear hy145
   have H':=Aside0.mk H
   clear H
   have q5 : ((ji2) : Int) ≤ ((l0.length : Int) : Int):=of_decide_eq_true (by first|(with_reducible assumption)|assumption)
   obtain ⟨i05,hi05,_,hsz5,_⟩:=info_parts info59
   have hroom5 : l0.length ≤ c0:=HC0.out
   have hC5 : Kd.C k59 _ A0 l0.length l0:=HR0.out
   have q05 : (0 : Int) ≤ ((ji2) : Int):=of_decide_eq_true (by first|(with_reducible assumption)|assumption)
   have hcut5:=cut_from (P:=Try.prog) 48 59 .i64 Try.underlying48 hi05 4 hsz5 A0 l0.length c0 (ji2) q05 q5
   have hr5:=Kd.C_drop (m:=((ji2) : Int).toNat) (c:=c0) hC5 (by omega) hroom5
   obtain ⟨A5,hA5⟩ : ∃ A1,A1 = (if c0 = ((ji2) : Int).toNat then A0 else (A0 : Option Addr).map (·.add (((ji2) : Int).toNat * 4))):=⟨_,rfl⟩
   obtain ⟨c5,hc5⟩ : ∃ c1,c1 = c0 - ((ji2) : Int).toNat:=⟨_,rfl⟩
   have hy5 : y145.length = l0.length - ((ji2) : Int).toNat:=(by rw [Ny145.out,List.length_drop] <;> omega)
   rw [show (l0).drop ((ji2) : Int).toNat = y145 from Ny145.out.symm] at hr5
   replace hr5 : Kd.C k59 _ A5 y145.length y145:=(by rw [hA5];exact hr5)
   rw [← hy5,← hA5,← hc5] at hcut5
   have HR148:=Aside0.mk hr5
   have HC148:=Aside0.mk (show y145.length ≤ c5 from by rw [hy5,hc5];exact Nat.sub_le_sub_right hroom5 _)
   clear hr5 hC5 hroom5 hi05 hsz5 hc5
   have KY5:=Aside0.mk hy5
   have KA5:=Aside0.mk hA5
   clear hy5 hA5
   replace q5:=eq_true q5
   go_enter Try.func31,Try.ntmps31
   go_wp2
   go_loopg [10] k (fun kq v10 w'=>∃ (x10_1 : Int),v10 = .int .i64 x10_1 ∧ Aside0 (ikey_Rising.l0 kq l0 (y145.length : Int) x10_1 = some r) ∧ Aside0 (kq ≤ k) ∧ Aside0 (Below w.heap.size w w'))
   case atStart=>exact ⟨(0),(by first|rfl|(simp;done)|(simp [*];done)),H',⟨Nat.le_refl _⟩,⟨by repeat (first|(with_reducible first|exact HB.out|apply below_alloc|apply pw_below_drewN|apply below_drew1)|exact HB.out)⟩⟩
   case round =>
    clear H'
    try clear c1
    try clear p2
    try clear c3
    try clear c3b0
    try clear c3b1
    try clear c4
    try clear c4b0
    try clear c4b1
    try clear c5
    try clear q5
    try clear q05
    try clear q5
    obtain ⟨x10_1,rfl,HA,HK1,HB⟩:=hrel
    cases gk with
    | zero=>exact absurd HA.out (by simp [ikey_Rising.l0])
    | succ k1 =>
     have H:=HA.out
     clear HA
     simp only [ikey_Rising.l0] at H
     by_cases c6 : x10_1 < (y145.length : Int)
     ·rw [if_pos c6] at H
      have c6b0 : decide (x10_1 < (y145.length : Int)) = true:=decide_eq_true c6
      clear c6
      by_cases c7 : 0 ≤ x10_1
      ·rw [if_pos c7] at H
       have c7b0 : decide (0 ≤ x10_1) = true:=decide_eq_true c7
       clear c7
       by_cases c8 : x10_1 < (l0.length : Int)
       ·rw [if_pos c8] at H
        have c8b0 : decide (x10_1 < (l0.length : Int)) = true:=decide_eq_true c8
        clear c8
        obtain ⟨ji9,hji9⟩ : ∃ j_ : Int,(wrap64 (x10_1 + 1)) = j_:=⟨_,rfl⟩
        replace H : (if 0 ≤ (ji9) then (if (ji9) < (l0.length : Int) then ((ikey_Compare.f k1 ((rd_T59 l0 x10_1).f0.f0) ((rd_T59 l0 x10_1).f0.f1) ((rd_T59 l0 x10_1).f0.f2) ((rd_T59 l0 (ji9)).f0.f0) ((rd_T59 l0 (ji9)).f0.f1) ((rd_T59 l0 (ji9)).f0.f2)).bind fun t151=>(if t151 ≥ 0 then (some false) else (ikey_Rising.l0 k1 l0 (y145.length : Int) ji9))) else (none)) else (none)) = some r:=by first|(rw [hji9] at H;exact H)|(simp only [hji9] at H ⊢;exact H)
        have hji9w : (IntKind.i64.wrap (x10_1 + 1)) = ji9:=(i64_w _).trans hji9
        by_cases c10 : 0 ≤ (ji9)
        ·rw [if_pos c10] at H
         have c10b0 : decide (0 ≤ (ji9)) = true:=decide_eq_true c10
         clear c10
         by_cases c11 : (ji9) < (l0.length : Int)
         ·rw [if_pos c11] at H
          have c11b0 : decide ((ji9) < (l0.length : Int)) = true:=decide_eq_true c11
          clear c11
          replace H:=Option.bind_eq_some_iff.mp H
          obtain ⟨t151,A120,H⟩:=H
          replace H : (if t151 ≥ 0 then (some false) else (ikey_Rising.l0 k1 l0 (y145.length : Int) ji9)) = some r:=H
          have A12:=Aside0.mk A120
          clear A120
          by_cases c13 : t151 ≥ 0
          ·rw [if_pos c13] at H
           have c13b0 : decide (0 ≤ t151) = true:=decide_eq_true c13
           clear c13
           obtain rfl:=Option.some.inj H
           try go_wp2
           have n0_:=Aside0.mk (below_drew1 HB.out)
           clear HB
           have HB:=n0_
           clear n0_
           have p149 : 0 ≤ (x10_1 : Int):=of_decide_eq_true (by first|(with_reducible assumption)|assumption)
           have q149 : x10_1 < (l0.length : Int):=of_decide_eq_true (by first|(with_reducible assumption)|assumption)
           obtain ⟨ad149,e149,hx149_0,hx149_1,hx149_2,hx149_3⟩:=at_T59 HR0.out x10_1 p149 q149
           have hw149_3:=hx149_3
           have hw149_2:=hx149_2
           have hw149_1:=hx149_1
           have hw149_0:=hx149_0
           cases e149
           replace hx149_0:=(HB.out.cell (World.block_lt_of_cell? w _ hx149_0)).trans hx149_0
           replace hx149_1:=(HB.out.cell (World.block_lt_of_cell? w _ hx149_1)).trans hx149_1
           replace hx149_2:=(HB.out.cell (World.block_lt_of_cell? w _ hx149_2)).trans hx149_2
           replace hx149_3:=(HB.out.cell (World.block_lt_of_cell? w _ hx149_3)).trans hx149_3
           replace p149:=eq_true p149
           replace q149:=eq_true q149
           have p150 : 0 ≤ ((ji9) : Int):=of_decide_eq_true (by first|(with_reducible assumption)|assumption)
           have q150 : (ji9) < (l0.length : Int):=of_decide_eq_true (by first|(with_reducible assumption)|assumption)
           obtain ⟨ad150,e150,hx150_0,hx150_1,hx150_2,hx150_3⟩:=at_T59 HR0.out (ji9) p150 q150
           have hw150_3:=hx150_3
           have hw150_2:=hx150_2
           have hw150_1:=hx150_1
           have hw150_0:=hx150_0
           obtain rfl : ad149 = ad150:=(by injection e150)
           replace hx150_0:=(HB.out.cell (World.block_lt_of_cell? w _ hx150_0)).trans hx150_0
           replace hx150_1:=(HB.out.cell (World.block_lt_of_cell? w _ hx150_1)).trans hx150_1
           replace hx150_2:=(HB.out.cell (World.block_lt_of_cell? w _ hx150_2)).trans hx150_2
           replace hx150_3:=(HB.out.cell (World.block_lt_of_cell? w _ hx150_3)).trans hx150_3
           replace p150:=eq_true p150
           replace q150:=eq_true q150
           refine start_ (n:=13) (S:=fun w'=>w'.cell? (ad149.add ((x10_1).toNat * 4)) = some (.string ((rd_T59 l0 x10_1).f0.f0)) ∧ w'.cell? ⟨(ad149.add ((x10_1).toNat * 4)).block,(ad149.add ((x10_1).toNat * 4)).off + 1,none⟩ = some (.int .u64 ((rd_T59 l0 x10_1).f0.f1)) ∧ w'.cell? ⟨(ad149.add ((x10_1).toNat * 4)).block,(ad149.add ((x10_1).toNat * 4)).off + 2,none⟩ = some (.int .u8 ((rd_T59 l0 x10_1).f0.f2)) ∧ w'.cell? ⟨(ad149.add ((x10_1).toNat * 4)).block,(ad149.add ((x10_1).toNat * 4)).off + 3,none⟩ = some (.string ((rd_T59 l0 x10_1).f1)) ∧ w'.cell? (ad149.add (((ji9)).toNat * 4)) = some (.string ((rd_T59 l0 (ji9)).f0.f0)) ∧ w'.cell? ⟨(ad149.add (((ji9)).toNat * 4)).block,(ad149.add (((ji9)).toNat * 4)).off + 1,none⟩ = some (.int .u64 ((rd_T59 l0 (ji9)).f0.f1)) ∧ w'.cell? ⟨(ad149.add (((ji9)).toNat * 4)).block,(ad149.add (((ji9)).toNat * 4)).off + 2,none⟩ = some (.int .u8 ((rd_T59 l0 (ji9)).f0.f2)) ∧ w'.cell? ⟨(ad149.add (((ji9)).toNat * 4)).block,(ad149.add (((ji9)).toNat * 4)).off + 3,none⟩ = some (.string ((rd_T59 l0 (ji9)).f1))) (ds:=[]) #[false,false,false,false,false,false,false,false,false,false,false,false,false] (by kernel_rfl) rfl rfl ⟨((HB.out.cell (World.block_lt_of_cell? w _ hw149_0)).trans hw149_0),((HB.out.cell (World.block_lt_of_cell? w _ hw149_1)).trans hw149_1),((HB.out.cell (World.block_lt_of_cell? w _ hw149_2)).trans hw149_2),((HB.out.cell (World.block_lt_of_cell? w _ hw149_3)).trans hw149_3),((HB.out.cell (World.block_lt_of_cell? w _ hw150_0)).trans hw150_0),((HB.out.cell (World.block_lt_of_cell? w _ hw150_1)).trans hw150_1),((HB.out.cell (World.block_lt_of_cell? w _ hw150_2)).trans hw150_2),((HB.out.cell (World.block_lt_of_cell? w _ hw150_3)).trans hw150_3)⟩ (fun hHeld=>?_);refine with_tabW ikey_Rising.tab4 ikey_Rising.bits4 (fun HT_ HW_=>?_)
           generalize wr.drew = w14 at HB hx149_0 hx149_1 hx149_2 hx149_3 hx150_0 hx150_1 hx150_2 hx150_3 hHeld ⊢
           refine pure_ (i:=0) (N:=some 13) (v:=?_) (a':=?_) #[true,false,false,false,false,false,false,false,false,false,false,false,false] rfl rfl (any_of HT_.out (by kernel_rfl)) (fun _ _ _ h=>h) (Or.inl ⟨by rfl,?_⟩) ?_ ?_
           rotate_left
           ·intro w'
            go_simp
            with_reducible rfl
           rotate_left
           ·simp only [Act.put,List.setIfInBounds_toArray,List.set_cons_zero,List.set_cons_succ,i64_w,i32_w]
            rfl
           refine pure_ (i:=1) (N:=some 14) (v:=?_) (a':=?_) #[true,true,false,false,false,false,false,false,false,false,false,false,false] rfl rfl (any_of HT_.out (by kernel_rfl)) (fun _ _ _ h=>h) (Or.inl ⟨by rfl,?_⟩) ?_ ?_
           rotate_left
           ·intro w'
            go_simp
            with_reducible rfl
           rotate_left
           ·simp only [Act.put,List.setIfInBounds_toArray,List.set_cons_zero,List.set_cons_succ,i64_w,i32_w]
            rfl
           refine pure_ (i:=2) (N:=some 15) (v:=?_) (a':=?_) #[true,true,true,false,false,false,false,false,false,false,false,false,false] rfl rfl (any_of HT_.out (by kernel_rfl)) (fun _ _ _ h=>h) (Or.inl ⟨by rfl,?_⟩) ?_ ?_
           rotate_left
           ·intro w'
            go_simp
            with_reducible rfl
           rotate_left
           ·simp only [Act.put,List.setIfInBounds_toArray,List.set_cons_zero,List.set_cons_succ,i64_w,i32_w]
            rfl
           refine pure_ (i:=3) (N:=some 16) (v:=?_) (a':=?_) #[true,true,true,true,false,false,false,false,false,false,false,false,false] rfl rfl (any_of HT_.out (by kernel_rfl)) (fun _ _ _ h=>h) (Or.inl ⟨by rfl,?_⟩) ?_ ?_
           rotate_left
           ·intro w'
            go_simp
            with_reducible rfl
           rotate_left
           ·simp only [Act.put,List.setIfInBounds_toArray,List.set_cons_zero,List.set_cons_succ,i64_w,i32_w]
            rfl
           refine pure_ (i:=5) (N:=some 18) (v:=?_) (a':=?_) #[true,true,true,true,false,true,false,false,false,false,false,false,false] rfl rfl (any_of HT_.out (by kernel_rfl)) (fun _ _ _ h=>h) (Or.inl ⟨by rfl,?_⟩) ?_ ?_
           rotate_left
           ·intro w'
            go_simp
            with_reducible rfl
           rotate_left
           ·simp only [Act.put,List.setIfInBounds_toArray,List.set_cons_zero,List.set_cons_succ,i64_w,i32_w]
            rfl
           refine pure_ (i:=6) (N:=some 19) (v:=?_) (a':=?_) #[true,true,true,true,false,true,true,false,false,false,false,false,false] rfl rfl (any_of HT_.out (by kernel_rfl)) (fun _ _ _ h=>h) (Or.inl ⟨by rfl,?_⟩) ?_ ?_
           rotate_left
           ·intro w'
            go_simp
            with_reducible rfl
           rotate_left
           ·simp only [Act.put,List.setIfInBounds_toArray,List.set_cons_zero,List.set_cons_succ,i64_w,i32_w]
            rfl
           refine pure_ (i:=7) (N:=some 20) (v:=?_) (a':=?_) #[true,true,true,true,false,true,true,true,false,false,false,false,false] rfl rfl (any_of HT_.out (by kernel_rfl)) (fun _ _ _ h=>h) (Or.inl ⟨by rfl,?_⟩) ?_ ?_
           rotate_left
           ·intro w'
            go_simp
            with_reducible rfl
           rotate_left
           ·simp only [Act.put,List.setIfInBounds_toArray,List.set_cons_zero,List.set_cons_succ,i64_w,i32_w]
            rfl
           refine pure_ (i:=8) (N:=some 21) (v:=?_) (a':=?_) #[true,true,true,true,false,true,true,true,true,false,false,false,false] rfl rfl (any_of HT_.out (by kernel_rfl)) (fun _ _ _ h=>h) (Or.inl ⟨by rfl,?_⟩) ?_ ?_
           rotate_left
           ·intro w'
            go_simp
            with_reducible rfl
           rotate_left
           ·simp only [Act.put,List.setIfInBounds_toArray,List.set_cons_zero,List.set_cons_succ,i64_w,i32_w]
            rfl
           refine pure_ (i:=9) (N:=some 22) (v:=?_) (a':=?_) #[true,true,true,true,false,true,true,true,true,true,false,false,false] rfl rfl (any_of HT_.out (by kernel_rfl)) (fun _ _ _ h=>h) (Or.inl ⟨by rfl,?_⟩) ?_ ?_
           rotate_left
           ·intro w'
            go_simp
            with_reducible rfl
           rotate_left
           ·simp only [Act.put,List.setIfInBounds_toArray,List.set_cons_zero,List.set_cons_succ,i64_w,i32_w]
            rfl
           refine take_ (i:=4) (N:=some 17) (v:=?_) (a':=?_) #[true,true,true,true,true,true,true,true,true,true,false,false,false] rfl rfl (take_ofW HT_.out HW_.out (by kernel_rfl)) (fun _ _ _ h=>h) (Or.inl ⟨by rfl,?_⟩) hHeld ?_ ?_
           rotate_left
           ·rintro w' ⟨s0,s1,s2,s3,s4,s5,s6,s7⟩
            go_simp
            with_reducible rfl
           rotate_left
           ·simp only [Act.put,List.setIfInBounds_toArray,List.set_cons_zero,List.set_cons_succ,i64_w,i32_w]
            rfl
           refine take_ (i:=10) (N:=some 23) (v:=?_) (a':=?_) #[true,true,true,true,true,true,true,true,true,true,true,false,false] rfl rfl (take_ofW HT_.out HW_.out (by kernel_rfl)) (fun _ _ _ h=>h) (Or.inl ⟨by rfl,?_⟩) hHeld ?_ ?_
           rotate_left
           ·rintro w' ⟨s0,s1,s2,s3,s4,s5,s6,s7⟩
            go_simp
            with_reducible rfl
           rotate_left
           ·simp only [Act.put,List.setIfInBounds_toArray,List.set_cons_zero,List.set_cons_succ,i64_w,i32_w]
            rfl
           refine one_ (i:=11) (N:=some 24) #[true,true,true,true,true,true,true,true,true,true,true,true,false] rfl rfl (one_of HT_.out (by kernel_rfl)) (by decide) (fun K hK=>?_)
           refine goes_ Try.func32 (by kernel_rfl) rfl #[.agg #[.string ((rd_T59 l0 x10_1).f0.f0),.int .u64 ((rd_T59 l0 x10_1).f0.f1),.int .u8 ((rd_T59 l0 x10_1).f0.f2)],.agg #[.string ((rd_T59 l0 (ji9)).f0.f0),.int .u64 ((rd_T59 l0 (ji9)).f0.f1),.int .u8 ((rd_T59 l0 (ji9)).f0.f2)]] (by rfl) rfl rfl (by (try simp only [List.map_toArray,List.map_cons,List.map_nil]);first|done|(simp only [hji9];rfl)|rfl|(simp only [List.length_drop,List.length_take];rfl)) ?_
           with_reducible refine (ikey_Compare.calls k1 ((rd_T59 l0 x10_1).f0.f0) ((rd_T59 l0 x10_1).f0.f1) ((rd_T59 l0 x10_1).f0.f2) ((rd_T59 l0 (ji9)).f0.f0) ((rd_T59 l0 (ji9)).f0.f1) ((rd_T59 l0 (ji9)).f0.f2) t151 _ A12.out).mono ?_
           rintro e w15 ⟨rfl,hb⟩
           refine ⟨_,rfl,?_⟩
           have n0_:=Aside0.mk (below_step (by repeat (first|(with_reducible first|exact HB.out|apply below_alloc|apply pw_below_drewN|apply below_drew1)|exact HB.out)) hb)
           clear HB
           have HB:=n0_
           clear n0_
           (try clear hb)
           (try clear hb2)
           (try clear hk)
           (try clear hi)
           refine hK.out _ _ ⟨((HB.out.cell (World.block_lt_of_cell? w _ hw149_0)).trans hw149_0),((HB.out.cell (World.block_lt_of_cell? w _ hw149_1)).trans hw149_1),((HB.out.cell (World.block_lt_of_cell? w _ hw149_2)).trans hw149_2),((HB.out.cell (World.block_lt_of_cell? w _ hw149_3)).trans hw149_3),((HB.out.cell (World.block_lt_of_cell? w _ hw150_0)).trans hw150_0),((HB.out.cell (World.block_lt_of_cell? w _ hw150_1)).trans hw150_1),((HB.out.cell (World.block_lt_of_cell? w _ hw150_2)).trans hw150_2),((HB.out.cell (World.block_lt_of_cell? w _ hw150_3)).trans hw150_3)⟩ (fun hHeld=>?_)
           clear hK K
           refine norm_ (a':=?_) ?_ ?_
           rotate_left
           ·show Act.put _ (some 24) _ = _
            simp only [Act.put,List.setIfInBounds_toArray,List.set_cons_zero,List.set_cons_succ,i64_w,i32_w]
            rfl
           refine pure_ (i:=12) (N:=some 25) (v:=?_) (a':=?_) #[true,true,true,true,true,true,true,true,true,true,true,true,true] rfl rfl (any_of HT_.out (by kernel_rfl)) (fun _ _ _ h=>h) (Or.inl ⟨by rfl,?_⟩) ?_ ?_
           rotate_left
           ·intro w'
            go_simp
            with_reducible rfl
           rotate_left
           ·simp only [Act.put,List.setIfInBounds_toArray,List.set_cons_zero,List.set_cons_succ,i64_w,i32_w]
            rfl
           refine done_ (done_of HT_.out (by kernel_rfl)) ?_
           try go_wp2
           go_ret
           exact ⟨by first|rfl|(simp [errW_none,errW_some] <;> rfl)|(simp only [← hji2,← hji9];first|rfl|(simp [errW_none,errW_some] <;> rfl))|(simp [*,errW_none,errW_some] <;> rfl),by repeat (first|(with_reducible first|exact HB.out|apply below_alloc|apply pw_below_drewN|apply below_drew1)|exact HB.out)⟩
          ·rw [if_neg c13] at H
           have c13b0 : decide (0 ≤ t151) = false:=decide_eq_false c13
           clear c13
           have H':=Aside0.mk H
           clear H
           try go_wp2
           have n0_:=Aside0.mk (below_drew1 HB.out)
           clear HB
           have HB:=n0_
           clear n0_
           have p149 : 0 ≤ (x10_1 : Int):=of_decide_eq_true (by first|(with_reducible assumption)|assumption)
           have q149 : x10_1 < (l0.length : Int):=of_decide_eq_true (by first|(with_reducible assumption)|assumption)
           obtain ⟨ad149,e149,hx149_0,hx149_1,hx149_2,hx149_3⟩:=at_T59 HR0.out x10_1 p149 q149
           have hw149_3:=hx149_3
           have hw149_2:=hx149_2
           have hw149_1:=hx149_1
           have hw149_0:=hx149_0
           cases e149
           replace hx149_0:=(HB.out.cell (World.block_lt_of_cell? w _ hx149_0)).trans hx149_0
           replace hx149_1:=(HB.out.cell (World.block_lt_of_cell? w _ hx149_1)).trans hx149_1
           replace hx149_2:=(HB.out.cell (World.block_lt_of_cell? w _ hx149_2)).trans hx149_2
           replace hx149_3:=(HB.out.cell (World.block_lt_of_cell? w _ hx149_3)).trans hx149_3
           replace p149:=eq_true p149
           replace q149:=eq_true q149
           have p150 : 0 ≤ ((ji9) : Int):=of_decide_eq_true (by first|(with_reducible assumption)|assumption)
           have q150 : (ji9) < (l0.length : Int):=of_decide_eq_true (by first|(with_reducible assumption)|assumption)
           obtain ⟨ad150,e150,hx150_0,hx150_1,hx150_2,hx150_3⟩:=at_T59 HR0.out (ji9) p150 q150
           have hw150_3:=hx150_3
           have hw150_2:=hx150_2
           have hw150_1:=hx150_1
           have hw150_0:=hx150_0
           obtain rfl : ad149 = ad150:=(by injection e150)
           replace hx150_0:=(HB.out.cell (World.block_lt_of_cell? w _ hx150_0)).trans hx150_0
           replace hx150_1:=(HB.out.cell (World.block_lt_of_cell? w _ hx150_1)).trans hx150_1
           replace hx150_2:=(HB.out.cell (World.block_lt_of_cell? w _ hx150_2)).trans hx150_2
           replace hx150_3:=(HB.out.cell (World.block_lt_of_cell? w _ hx150_3)).trans hx150_3
           replace p150:=eq_true p150
           replace q150:=eq_true q150
           refine start_ (n:=13) (S:=fun w'=>w'.cell? (ad149.add ((x10_1).toNat * 4)) = some (.string ((rd_T59 l0 x10_1).f0.f0)) ∧ w'.cell? ⟨(ad149.add ((x10_1).toNat * 4)).block,(ad149.add ((x10_1).toNat * 4)).off + 1,none⟩ = some (.int .u64 ((rd_T59 l0 x10_1).f0.f1)) ∧ w'.cell? ⟨(ad149.add ((x10_1).toNat * 4)).block,(ad149.add ((x10_1).toNat * 4)).off + 2,none⟩ = some (.int .u8 ((rd_T59 l0 x10_1).f0.f2)) ∧ w'.cell? ⟨(ad149.add ((x10_1).toNat * 4)).block,(ad149.add ((x10_1).toNat * 4)).off + 3,none⟩ = some (.string ((rd_T59 l0 x10_1).f1)) ∧ w'.cell? (ad149.add (((ji9)).toNat * 4)) = some (.string ((rd_T59 l0 (ji9)).f0.f0)) ∧ w'.cell? ⟨(ad149.add (((ji9)).toNat * 4)).block,(ad149.add (((ji9)).toNat * 4)).off + 1,none⟩ = some (.int .u64 ((rd_T59 l0 (ji9)).f0.f1)) ∧ w'.cell? ⟨(ad149.add (((ji9)).toNat * 4)).block,(ad149.add (((ji9)).toNat * 4)).off + 2,none⟩ = some (.int .u8 ((rd_T59 l0 (ji9)).f0.f2)) ∧ w'.cell? ⟨(ad149.add (((ji9)).toNat * 4)).block,(ad149.add (((ji9)).toNat * 4)).off + 3,none⟩ = some (.string ((rd_T59 l0 (ji9)).f1))) (ds:=[]) #[false,false,false,false,false,false,false,false,false,false,false,false,false] (by kernel_rfl) rfl rfl ⟨((HB.out.cell (World.block_lt_of_cell? w _ hw149_0)).trans hw149_0),((HB.out.cell (World.block_lt_of_cell? w _ hw149_1)).trans hw149_1),((HB.out.cell (World.block_lt_of_cell? w _ hw149_2)).trans hw149_2),((HB.out.cell (World.block_lt_of_cell? w _ hw149_3)).trans hw149_3),((HB.out.cell (World.block_lt_of_cell? w _ hw150_0)).trans hw150_0),((HB.out.cell (World.block_lt_of_cell? w _ hw150_1)).trans hw150_1),((HB.out.cell (World.block_lt_of_cell? w _ hw150_2)).trans hw150_2),((HB.out.cell (World.block_lt_of_cell? w _ hw150_3)).trans hw150_3)⟩ (fun hHeld=>?_);refine with_tabW ikey_Rising.tab4 ikey_Rising.bits4 (fun HT_ HW_=>?_)
           generalize wr.drew = w16 at HB hx149_0 hx149_1 hx149_2 hx149_3 hx150_0 hx150_1 hx150_2 hx150_3 hHeld ⊢
           refine pure_ (i:=0) (N:=some 13) (v:=?_) (a':=?_) #[true,false,false,false,false,false,false,false,false,false,false,false,false] rfl rfl (any_of HT_.out (by kernel_rfl)) (fun _ _ _ h=>h) (Or.inl ⟨by rfl,?_⟩) ?_ ?_
           rotate_left
           ·intro w'
            go_simp
            with_reducible rfl
           rotate_left
           ·simp only [Act.put,List.setIfInBounds_toArray,List.set_cons_zero,List.set_cons_succ,i64_w,i32_w]
            rfl
           refine pure_ (i:=1) (N:=some 14) (v:=?_) (a':=?_) #[true,true,false,false,false,false,false,false,false,false,false,false,false] rfl rfl (any_of HT_.out (by kernel_rfl)) (fun _ _ _ h=>h) (Or.inl ⟨by rfl,?_⟩) ?_ ?_
           rotate_left
           ·intro w'
            go_simp
            with_reducible rfl
           rotate_left
           ·simp only [Act.put,List.setIfInBounds_toArray,List.set_cons_zero,List.set_cons_succ,i64_w,i32_w]
            rfl
           refine pure_ (i:=2) (N:=some 15) (v:=?_) (a':=?_) #[true,true,true,false,false,false,false,false,false,false,false,false,false] rfl rfl (any_of HT_.out (by kernel_rfl)) (fun _ _ _ h=>h) (Or.inl ⟨by rfl,?_⟩) ?_ ?_
           rotate_left
           ·intro w'
            go_simp
            with_reducible rfl
           rotate_left
           ·simp only [Act.put,List.setIfInBounds_toArray,List.set_cons_zero,List.set_cons_succ,i64_w,i32_w]
            rfl
           refine pure_ (i:=3) (N:=some 16) (v:=?_) (a':=?_) #[true,true,true,true,false,false,false,false,false,false,false,false,false] rfl rfl (any_of HT_.out (by kernel_rfl)) (fun _ _ _ h=>h) (Or.inl ⟨by rfl,?_⟩) ?_ ?_
           rotate_left
           ·intro w'
            go_simp
            with_reducible rfl
           rotate_left
           ·simp only [Act.put,List.setIfInBounds_toArray,List.set_cons_zero,List.set_cons_succ,i64_w,i32_w]
            rfl
           refine pure_ (i:=5) (N:=some 18) (v:=?_) (a':=?_) #[true,true,true,true,false,true,false,false,false,false,false,false,false] rfl rfl (any_of HT_.out (by kernel_rfl)) (fun _ _ _ h=>h) (Or.inl ⟨by rfl,?_⟩) ?_ ?_
           rotate_left
           ·intro w'
            go_simp
            with_reducible rfl
           rotate_left
           ·simp only [Act.put,List.setIfInBounds_toArray,List.set_cons_zero,List.set_cons_succ,i64_w,i32_w]
            rfl
           refine pure_ (i:=6) (N:=some 19) (v:=?_) (a':=?_) #[true,true,true,true,false,true,true,false,false,false,false,false,false] rfl rfl (any_of HT_.out (by kernel_rfl)) (fun _ _ _ h=>h) (Or.inl ⟨by rfl,?_⟩) ?_ ?_
           rotate_left
           ·intro w'
            go_simp
            with_reducible rfl
           rotate_left
           ·simp only [Act.put,List.setIfInBounds_toArray,List.set_cons_zero,List.set_cons_succ,i64_w,i32_w]
            rfl
           refine pure_ (i:=7) (N:=some 20) (v:=?_) (a':=?_) #[true,true,true,true,false,true,true,true,false,false,false,false,false] rfl rfl (any_of HT_.out (by kernel_rfl)) (fun _ _ _ h=>h) (Or.inl ⟨by rfl,?_⟩) ?_ ?_
           rotate_left
           ·intro w'
            go_simp
            with_reducible rfl
           rotate_left
           ·simp only [Act.put,List.setIfInBounds_toArray,List.set_cons_zero,List.set_cons_succ,i64_w,i32_w]
            rfl
           refine pure_ (i:=8) (N:=some 21) (v:=?_) (a':=?_) #[true,true,true,true,false,true,true,true,true,false,false,false,false] rfl rfl (any_of HT_.out (by kernel_rfl)) (fun _ _ _ h=>h) (Or.inl ⟨by rfl,?_⟩) ?_ ?_
           rotate_left
           ·intro w'
            go_simp
            with_reducible rfl
           rotate_left
           ·simp only [Act.put,List.setIfInBounds_toArray,List.set_cons_zero,List.set_cons_succ,i64_w,i32_w]
            rfl
           refine pure_ (i:=9) (N:=some 22) (v:=?_) (a':=?_) #[true,true,true,true,false,true,true,true,true,true,false,false,false] rfl rfl (any_of HT_.out (by kernel_rfl)) (fun _ _ _ h=>h) (Or.inl ⟨by rfl,?_⟩) ?_ ?_
           rotate_left
           ·intro w'
            go_simp
            with_reducible rfl
           rotate_left
           ·simp only [Act.put,List.setIfInBounds_toArray,List.set_cons_zero,List.set_cons_succ,i64_w,i32_w]
            rfl
           refine take_ (i:=4) (N:=some 17) (v:=?_) (a':=?_) #[true,true,true,true,true,true,true,true,true,true,false,false,false] rfl rfl (take_ofW HT_.out HW_.out (by kernel_rfl)) (fun _ _ _ h=>h) (Or.inl ⟨by rfl,?_⟩) hHeld ?_ ?_
           rotate_left
           ·rintro w' ⟨s0,s1,s2,s3,s4,s5,s6,s7⟩
            go_simp
            with_reducible rfl
           rotate_left
           ·simp only [Act.put,List.setIfInBounds_toArray,List.set_cons_zero,List.set_cons_succ,i64_w,i32_w]
            rfl
           refine take_ (i:=10) (N:=some 23) (v:=?_) (a':=?_) #[true,true,true,true,true,true,true,true,true,true,true,false,false] rfl rfl (take_ofW HT_.out HW_.out (by kernel_rfl)) (fun _ _ _ h=>h) (Or.inl ⟨by rfl,?_⟩) hHeld ?_ ?_
           rotate_left
           ·rintro w' ⟨s0,s1,s2,s3,s4,s5,s6,s7⟩
            go_simp
            with_reducible rfl
           rotate_left
           ·simp only [Act.put,List.setIfInBounds_toArray,List.set_cons_zero,List.set_cons_succ,i64_w,i32_w]
            rfl
           refine one_ (i:=11) (N:=some 24) #[true,true,true,true,true,true,true,true,true,true,true,true,false] rfl rfl (one_of HT_.out (by kernel_rfl)) (by decide) (fun K hK=>?_)
           refine goes_ Try.func32 (by kernel_rfl) rfl #[.agg #[.string ((rd_T59 l0 x10_1).f0.f0),.int .u64 ((rd_T59 l0 x10_1).f0.f1),.int .u8 ((rd_T59 l0 x10_1).f0.f2)],.agg #[.string ((rd_T59 l0 (ji9)).f0.f0),.int .u64 ((rd_T59 l0 (ji9)).f0.f1),.int .u8 ((rd_T59 l0 (ji9)).f0.f2)]] (by rfl) rfl rfl (by (try simp only [List.map_toArray,List.map_cons,List.map_nil]);first|done|(simp only [hji9];rfl)|rfl|(simp only [List.length_drop,List.length_take];rfl)) ?_
           with_reducible refine (ikey_Compare.calls k1 ((rd_T59 l0 x10_1).f0.f0) ((rd_T59 l0 x10_1).f0.f1) ((rd_T59 l0 x10_1).f0.f2) ((rd_T59 l0 (ji9)).f0.f0) ((rd_T59 l0 (ji9)).f0.f1) ((rd_T59 l0 (ji9)).f0.f2) t151 _ A12.out).mono ?_
           rintro e w17 ⟨rfl,hb⟩
           refine ⟨_,rfl,?_⟩
           have n0_:=Aside0.mk (below_step (by repeat (first|(with_reducible first|exact HB.out|apply below_alloc|apply pw_below_drewN|apply below_drew1)|exact HB.out)) hb)
           clear HB
           have HB:=n0_
           clear n0_
           (try clear hb)
           (try clear hb2)
           (try clear hk)
           (try clear hi)
           refine hK.out _ _ ⟨((HB.out.cell (World.block_lt_of_cell? w _ hw149_0)).trans hw149_0),((HB.out.cell (World.block_lt_of_cell? w _ hw149_1)).trans hw149_1),((HB.out.cell (World.block_lt_of_cell? w _ hw149_2)).trans hw149_2),((HB.out.cell (World.block_lt_of_cell? w _ hw149_3)).trans hw149_3),((HB.out.cell (World.block_lt_of_cell? w _ hw150_0)).trans hw150_0),((HB.out.cell (World.block_lt_of_cell? w _ hw150_1)).trans hw150_1),((HB.out.cell (World.block_lt_of_cell? w _ hw150_2)).trans hw150_2),((HB.out.cell (World.block_lt_of_cell? w _ hw150_3)).trans hw150_3)⟩ (fun hHeld=>?_)
           clear hK K
           refine norm_ (a':=?_) ?_ ?_
           rotate_left
           ·show Act.put _ (some 24) _ = _
            simp only [Act.put,List.setIfInBounds_toArray,List.set_cons_zero,List.set_cons_succ,i64_w,i32_w]
            rfl
           refine pure_ (i:=12) (N:=some 25) (v:=?_) (a':=?_) #[true,true,true,true,true,true,true,true,true,true,true,true,true] rfl rfl (any_of HT_.out (by kernel_rfl)) (fun _ _ _ h=>h) (Or.inl ⟨by rfl,?_⟩) ?_ ?_
           rotate_left
           ·intro w'
            go_simp
            with_reducible rfl
           rotate_left
           ·simp only [Act.put,List.setIfInBounds_toArray,List.set_cons_zero,List.set_cons_succ,i64_w,i32_w]
            rfl
           refine done_ (done_of HT_.out (by kernel_rfl)) ?_
           try go_wp2
           go_roundg k1
           case measure=>have:=HK1.out;omega
           case rel=>exact ⟨(ji9),(by first|rfl|(simp;done)|(simp only [← hji9] <;> (first|rfl|simp))|(simp [*];done)),H',⟨by have:=HK1.out;omega⟩,⟨by repeat (first|(with_reducible first|exact HB.out|apply below_alloc|apply pw_below_drewN|apply below_drew1)|exact HB.out)⟩⟩
         ·rw [if_neg c11] at H
          exact absurd H (by simp)
        ·rw [if_neg c10] at H
         exact absurd H (by simp)
       ·rw [if_neg c8] at H
        exact absurd H (by simp)
      ·rw [if_neg c7] at H
       exact absurd H (by simp)
     ·rw [if_neg c6] at H
      have c6b0 : decide (x10_1 < (y145.length : Int)) = false:=decide_eq_false c6
      clear c6
      obtain rfl:=Option.some.inj H
      go_wp2
      go_ret
      exact ⟨by first|rfl|(simp [errW_none,errW_some] <;> rfl)|(simp only [← hji2];first|rfl|(simp [errW_none,errW_some] <;> rfl))|(simp [*,errW_none,errW_some] <;> rfl),by repeat (first|(with_reducible first|exact HB.out|apply below_alloc|apply pw_below_drewN|apply below_drew1)|exact HB.out)⟩
  ·rw [if_neg c4] at H
   exact absurd H (by simp)
 ·rw [if_neg c3] at H
  exact absurd H (by simp)

end Go.Proofs.Ytjcjfghcahbbmaa.P

end

section
namespace Go.Proofs.Ytjcjfghcahbbmaa.P
open Go.RowKit Go.Proofs.YtjcjfghcahbbmaaG Go.Proofs.YtjcjfghcahbbmaaW.PrintWords Go.Proofs.YtjcjfghcahbbmaaW.PrintLast Go.Proofs.YtjcjfghcahbbmaaW.PrintMore
attribute [local go_sem] str_gtr str_geq str_leq max2_int min2_int max_two min_two max_three min_three max_four min_four   -- for this text's walks alone
set_option linter.unusedVariables false
set_option linter.unusedSimpArgs false

def ratlineref03_Compare.f (a0_0 : ByteArray) (a0_1 : Int) (a0_2 : Int) (a1_0 : ByteArray) (a1_1 : Int) (a1_2 : Int) : Option (Int):=if (Op.bytesLess a0_0.toList a1_0.toList) = true then (some (-1)) else (if (Op.bytesLess a1_0.toList a0_0.toList) = true then (some 1) else (if a0_1 > a1_1 then (some (-1)) else (if a0_1 < a1_1 then (some 1) else (if a0_2 > a1_2 then (some (-1)) else (if a0_2 < a1_2 then (some 1) else (some 0))))))
end Go.Proofs.Ytjcjfghcahbbmaa.P

end

section
namespace Go.Proofs.Ytjcjfghcahbbmaa.P
open Go.RowKit Go.Proofs.YtjcjfghcahbbmaaG Go.Proofs.YtjcjfghcahbbmaaW.PrintWords Go.Proofs.YtjcjfghcahbbmaaW.PrintLast Go.Proofs.YtjcjfghcahbbmaaW.PrintMore
attribute [local go_sem] str_gtr str_geq str_leq max2_int min2_int max_two min_two max_three min_three max_four min_four   -- for this text's walks alone
set_option linter.unusedVariables false
set_option linter.unusedSimpArgs false

def ratlineref03_Rising.l0 : Nat → List (S59) → Int → Option (Bool)
 | 0,_,_=>none
 | k + 1,x0,x3=>if x3 < (x0.length : Int) then (if 0 ≤ (wrap64 (x3 - 1)) then (if (wrap64 (x3 - 1)) < (x0.length : Int) then (if 0 ≤ x3 then ((ratlineref03_Compare.f ((rd_T59 x0 (wrap64 (x3 - 1))).f0.f0) ((rd_T59 x0 (wrap64 (x3 - 1))).f0.f1) ((rd_T59 x0 (wrap64 (x3 - 1))).f0.f2) ((rd_T59 x0 x3).f0.f0) ((rd_T59 x0 x3).f0.f1) ((rd_T59 x0 x3).f0.f2)).bind fun t294=>(if t294 ≥ 0 then (some false) else (ratlineref03_Rising.l0 k x0 (wrap64 (x3 + 1))))) else (none)) else (none)) else (none)) else (some true)
def ratlineref03_Rising.f (k : Nat) (l0 : List (S59)) : Option (Bool):=ratlineref03_Rising.l0 k l0 1
end Go.Proofs.Ytjcjfghcahbbmaa.P

end

section
set_option linter.unusedVariables false
namespace Go.Proofs.YtjcjfghcahbbmaaL
open Go Go.RowKit Go.Proofs.YtjcjfghcahbbmaaG Go.Proofs.Ytjcjfghcahbbmaa.P Go.Proofs.YtjcjfghcahbbmaaW.PrintWords Go.Proofs.YtjcjfghcahbbmaaW.PrintMore

def Short (e : En) : Prop := e.f0.f0.size ≤ 70 ∧ e.f1.size ≤ 300
instance (e : En) : Decidable (Short e) := inferInstanceAs (Decidable (_ ∧ _))
theorem rd_en (l : List En) {j : Nat} (h : j < l.length) : rd_T59 l (j : Int) = l[j] := by
  show l.getD ((j : Int)).toNat _ = _
  rw [Int.toNat_natCast, List.getD_eq_getElem?_getD, List.getElem?_eq_getElem h]
  rfl
theorem few_succ' {a : Nat} (h : a < 9223372036854775807) : wrap64 ((a : Int) + 1) = ((a + 1 : Nat) : Int) := by unfold wrap64; omega
theorem few_succ {a : Nat} (h : a < 9223372036854775800) : wrap64 ((a : Int) + 1) = ((a + 1 : Nat) : Int) := by unfold wrap64; omega
theorem few_loop (l : List En) (most : Int) (hl : l.length ≤ 9223372036854775807) (k : Nat) :
    ∀ (m j : Nat), j + m = l.length → ratlinelaw03_Few.l0 (m + k + 1) l most l (l.length : Int) (j : Int) = some (decide (∀ e ∈ l.drop j, Short e) && decide ((l.length : Int) ≤ most)) := by
  intro m
  induction m with
  | zero =>
    intro j hj
    obtain rfl : j = l.length := by omega
    simp only [ratlinelaw03_Few.l0]
    rw [if_neg (by omega), List.drop_length]
    simp
  | succ m ih =>
    intro j hj
    have hlt : j < l.length := by omega
    generalize hk : m + 1 + k = q
    have hj1 : j < 9223372036854775807 := by omega
    simp only [ratlinelaw03_Few.l0, few_succ' hj1]
    rw [if_pos (by omega), if_pos (by omega), if_pos (by omega), rd_en l hlt, ← hk, show m + 1 + k = m + k + 1 from by omega, ih (j + 1) (by omega), List.drop_eq_getElem_cons hlt]
    by_cases h1 : ((l[j].f0.f0.size : Nat) : Int) > 70
    · rw [if_pos h1, decide_eq_false (fun h => by have := (h l[j] (List.mem_cons_self ..)).1; omega)]
      rfl
    · rw [if_neg h1]
      by_cases h2 : ((l[j].f1.size : Nat) : Int) > 300
      · rw [if_pos h2, decide_eq_false (fun h => by have := (h l[j] (List.mem_cons_self ..)).2; omega)]
        rfl
      · rw [if_neg h2]
        congr 2
        refine decide_eq_decide.2 ⟨fun h e he => ?_, fun h e he => h e (List.mem_cons_of_mem _ he)⟩
        rcases List.mem_cons.1 he with rfl | he
        · exact ⟨by omega, by omega⟩
        · exact h e he
theorem few_f' (l : List En) (most : Int) (hl : l.length ≤ 9223372036854775807) (k : Nat) : ratlinelaw03_Few.f (l.length + k + 1) l most = some (decide (∀ e ∈ l, Short e) && decide ((l.length : Int) ≤ most)) := by
  have := few_loop l most hl k l.length 0 (by omega)
  rwa [List.drop_zero] at this
end Go.Proofs.YtjcjfghcahbbmaaL

end

section
set_option linter.unusedVariables false
namespace Go.Proofs.YtjcjfghcahbbmaaL
open Go Go.RowKit Go.Proofs.YtjcjfghcahbbmaaG Go.Proofs.Ytjcjfghcahbbmaa.P Go.Proofs.YtjcjfghcahbbmaaW.PrintWords Go.Proofs.YtjcjfghcahbbmaaW.PrintMore

def cmpI (x y : Ik) : Int := if lt x.f0 y.f0 then -1 else if lt y.f0 x.f0 then 1 else if x.f1 > y.f1 then -1 else if x.f1 < y.f1 then 1 else if x.f2 > y.f2 then -1 else if x.f2 < y.f2 then 1 else 0
theorem or_f (k : Nat) (a b c : Int) : cmp_Or_int.f (k + 4) [a, b, c] = some (if a = 0 then (if b = 0 then (if c = 0 then 0 else c) else b) else a) := by
  unfold cmp_Or_int.f
  have e : ∀ n : Nat, n < 100 → wrap64 ((n : Int) + 1) = ((n + 1 : Nat) : Int) := fun n h => by unfold wrap64; omega
  have e0 : wrap64 (0 + 1) = 1 := e 0 (by omega)
  have e1 : wrap64 (1 + 1) = 2 := e 1 (by omega)
  have e2 : wrap64 (2 + 1) = 3 := e 2 (by omega)
  have l3 : (([a, b, c] : List Int).length : Int) = 3 := rfl
  simp only [cmp_Or_int.l0, l3, e0, e1, e2, rd]
  simp only [show (0 : Int) < 3 from by omega, show (1 : Int) < 3 from by omega, show (2 : Int) < 3 from by omega, show (0 : Int) ≤ 0 from by omega, show (0 : Int) ≤ 1 from by omega, show (0 : Int) ≤ 2 from by omega, show ¬ (3 : Int) < 3 from by omega, if_true, if_false]
  show (if a = 0 then (if b = 0 then (if c = 0 then some 0 else some c) else some b) else some a) = _
  split
  · split
    · split <;> rfl
    · rfl
  · rfl
theorem compare_f (k : Nat) (x y : Ik) : ikey_Compare.f (k + 4) x.f0 x.f1 x.f2 y.f0 y.f1 y.f2 = some (cmpI x y) := by
  have h1 : cmp_Compare_string.f x.f0 y.f0 = some (if lt x.f0 y.f0 then -1 else if lt y.f0 x.f0 then 1 else 0) := by
    unfold cmp_Compare_string.f cmp_isNaN_string.f lt
    simp only [bne_self_eq_false, Option.bind_some, Bool.false_eq_true, if_false]
    by_cases c1 : Op.bytesLess x.f0.toList y.f0.toList = true
    · simp [c1]
    · by_cases c2 : Op.bytesLess y.f0.toList x.f0.toList = true
      · simp [c1, c2]
      · simp [c1, c2]
  have h2 : ∀ a b : Int, cmp_Compare_uint64.f a b = some (if a < b then -1 else if b < a then 1 else 0) := fun a b => by
    unfold cmp_Compare_uint64.f cmp_isNaN_uint64.f
    simp only [bne_self_eq_false, Option.bind_some, Bool.false_eq_true, if_false]
    split
    · rfl
    · split <;> rfl
  have h3 : ∀ a b : Int, cmp_Compare_uint8.f a b = some (if a < b then -1 else if b < a then 1 else 0) := fun a b => by
    unfold cmp_Compare_uint8.f cmp_isNaN_uint8.f
    simp only [bne_self_eq_false, Option.bind_some, Bool.false_eq_true, if_false]
    split
    · rfl
    · split <;> rfl
  unfold ikey_Compare.f ikey_key_to.f
  rw [h1, h2, h3]
  simp only [Option.bind_some, or_f]
  congr 1
  unfold cmpI
  by_cases c1 : lt x.f0 y.f0
  · simp [c1]
  · by_cases c2 : lt y.f0 x.f0
    · simp [c1, c2]
    · simp only [if_neg c1, if_neg c2]
      by_cases c3 : x.f1 > y.f1
      · simp [c3]
      · by_cases c4 : x.f1 < y.f1
        · simp [c4, show ¬ y.f1 < x.f1 from by omega]
        · by_cases c5 : x.f2 > y.f2
          · simp [c4, c5, show ¬ y.f1 < x.f1 from by omega]
          · by_cases c6 : x.f2 < y.f2
            · simp [c4, c6, show ¬ y.f1 < x.f1 from by omega, show ¬ y.f2 < x.f2 from by omega]
            · simp [c4, c6, show ¬ y.f1 < x.f1 from by omega, show ¬ y.f2 < x.f2 from by omega]
theorem cmpI_le (x y : Ik) : cmpI x y ≤ 0 ↔ lt x.f0 y.f0 ∨ (x.f0 = y.f0 ∧ (y.f1 < x.f1 ∨ (x.f1 = y.f1 ∧ y.f2 ≤ x.f2))) := by
  unfold cmpI
  rcases lt_tri x.f0 y.f0 with h | h | h
  · simp [h]
  · rw [h]
    simp only [lt_irrefl, if_false, false_or, true_and, eq_self]
    repeat' split
    all_goals omega
  · have h2 := lt_asymm h
    have h3 : ¬ x.f0 = y.f0 := fun e => lt_irrefl _ (e ▸ h)
    rw [if_neg h2, if_pos h]
    simp [h2, h3]
theorem cmpI_neg (x y : Ik) : cmpI y x = -cmpI x y := by
  unfold cmpI
  rcases lt_tri x.f0 y.f0 with h | h | h
  · rw [if_neg (lt_asymm h), if_pos h, if_pos h]; rfl
  · rw [h]
    simp only [lt_irrefl, if_false]
    repeat' split
    all_goals omega
  · rw [if_pos h, if_neg (lt_asymm h), if_pos h]
theorem cmpI_zero (x y : Ik) : cmpI x y = 0 ↔ x.f0 = y.f0 ∧ x.f1 = y.f1 ∧ x.f2 = y.f2 := by
  have h1 := cmpI_le x y
  have h2 := cmpI_le y x
  rw [cmpI_neg x y] at h2
  constructor
  · intro h
    rcases h1.1 (by omega) with a | ⟨a, b⟩
    · rcases h2.1 (by omega) with c | ⟨c, d⟩
      · exact absurd c (lt_asymm a)
      · rw [c] at a; exact absurd a (lt_irrefl _)
    · rcases h2.1 (by omega) with c | ⟨c, d⟩
      · rw [a] at c; exact absurd c (lt_irrefl _)
      · exact ⟨a, by omega, by omega⟩
  · rintro ⟨a, b, c⟩
    have := h1.2 (.inr ⟨a, .inr ⟨b, by omega⟩⟩)
    have := h2.2 (.inr ⟨a.symm, .inr ⟨b.symm, by omega⟩⟩)
    omega
theorem cmpI_trans {x y z : Ik} (h : cmpI x y ≤ 0) (h2 : cmpI y z ≤ 0) : cmpI x z ≤ 0 := by
  rw [cmpI_le] at *
  rcases h with a | ⟨a, b⟩
  · rcases h2 with c | ⟨c, d⟩
    · exact .inl (lt_trans a c)
    · exact .inl (c ▸ a)
  · rcases h2 with c | ⟨c, d⟩
    · exact .inl (a ▸ c)
    · exact .inr ⟨a.trans c, by omega⟩

end Go.Proofs.YtjcjfghcahbbmaaL

end

section
set_option linter.unusedVariables false
namespace Go.Proofs.YtjcjfghcahbbmaaL
open Go Go.RowKit Go.Proofs.YtjcjfghcahbbmaaG Go.Proofs.Ytjcjfghcahbbmaa.P Go.Proofs.YtjcjfghcahbbmaaW.PrintWords Go.Proofs.YtjcjfghcahbbmaaW.PrintMore

def risesB : List En → Bool
  | a :: b :: r => decide (cmpI a.f0 b.f0 < 0) && risesB (b :: r)
  | _ => true
theorem rises_two (a b : En) (r : List En) : risesB (a :: b :: r) = (decide (cmpI a.f0 b.f0 < 0) && risesB (b :: r)) := rfl
end Go.Proofs.YtjcjfghcahbbmaaL

end

section
set_option linter.unusedVariables false
namespace Go.Proofs.YtjcjfghcahbbmaaL
open Go Go.RowKit Go.Proofs.YtjcjfghcahbbmaaG Go.Proofs.Ytjcjfghcahbbmaa.P Go.Proofs.YtjcjfghcahbbmaaW.PrintWords Go.Proofs.YtjcjfghcahbbmaaW.PrintMore

theorem rising_loop (l : List En) (hl : l.length < 9223372036854775800) (q : Nat) :
    ∀ (m j : Nat), j + m + 1 = l.length → ikey_Rising.l0 (m + q + 5) l ((l.length - 1 : Nat) : Int) (j : Int) = some (risesB (l.drop j)) := by
  intro m
  induction m with
  | zero =>
    intro j hj
    simp only [ikey_Rising.l0]
    rw [if_neg (by omega)]
    have : l.drop j = [l[j]'(by omega)] := by rw [List.drop_eq_getElem_cons (by omega), List.drop_of_length_le (by omega)]
    rw [this]
    rfl
  | succ m ih =>
    intro j hj
    have hlt : j < l.length := by omega
    have hlt2 : j + 1 < l.length := by omega
    generalize hk : m + 1 + q + 4 = k
    have hj1 : j < 9223372036854775800 := by omega
    rw [show m + 1 + q + 5 = k + 1 from by omega]
    simp only [ikey_Rising.l0, few_succ hj1]
    rw [if_pos (by omega), if_pos (by omega), if_pos (by omega), if_pos (by omega), if_pos (by omega), rd_en l hlt, rd_en l hlt2]
    have hc := compare_f (m + 1 + q) l[j].f0 l[j + 1].f0
    rw [hk] at hc
    refine bind1 hc ?_
    rw [List.drop_eq_getElem_cons hlt, List.drop_eq_getElem_cons hlt2, rises_two]
    by_cases h : cmpI l[j].f0 l[j + 1].f0 ≥ 0
    · rw [if_pos h, decide_eq_false (by omega), Bool.false_and]
    · rw [if_neg h, decide_eq_true (by omega), Bool.true_and, ← hk, show m + 1 + q + 4 = m + q + 5 from by omega, ih (j + 1) (by omega), List.drop_eq_getElem_cons hlt2]
theorem rising_f (l : List En) (hl : l.length < 9223372036854775800) (q : Nat) : ikey_Rising.f (l.length + q + 5) l = some (risesB l) := by
  unfold ikey_Rising.f
  by_cases h : l.length = 0
  · obtain rfl : l = [] := List.eq_nil_of_length_eq_zero h
    rw [if_pos (by decide), if_pos (by decide)]
    show ikey_Rising.l0 (0 + q + 4 + 1) [] _ _ = _
    simp only [ikey_Rising.l0]
    rw [if_neg (by decide)]
    rfl
  · have hm : mn (l.length : Int) 1 = ((1 : Nat) : Int) := by unfold mn; split <;> omega
    rw [hm, if_pos (by omega), if_pos (by omega), Int.toNat_natCast, List.length_drop]
    have := rising_loop l hl (q + 1) (l.length - 1) 0 (by omega)
    rwa [show l.length - 1 + (q + 1) + 5 = l.length + q + 5 from by omega, List.drop_zero] at this
theorem rising_k {l : List En} (h : l.length ≤ 150) (k : Nat) : ikey_Rising.f (k + 200) l = some (risesB l) := by
  have := rising_f l (by omega) (k + 195 - l.length)
  rwa [show l.length + (k + 195 - l.length) + 5 = k + 200 from by omega] at this
end Go.Proofs.YtjcjfghcahbbmaaL

end

section
set_option linter.unusedVariables false
set_option linter.unusedSimpArgs false
namespace Go.Proofs.YtjcjfghcahbbmaaG
open Go Go.RowKit Go.Proofs.YtjcjfghcahbbmaaR Go.Proofs.Ytjcjfghcahbbmaa.P Go.Proofs.YtjcjfghcahbbmaaW.PrintWords
attribute [local go_sem] Oper.semAt_some

/-- Is there one that may not be? -/
def block_bad : List S59 → Option Bool
  | [] => some false
  | o :: r => (ikey_Entry.f o.f0.f0 o.f0.f1 o.f0.f2 o.f1).bind fun t => if t = true then block_bad r else some true
def block_right.f (k : Nat) (l : List S59) : Option Bool := if 0 < l.length ∧ l.length ≤ 64 then (block_bad l).bind fun b => if b = true then some false else ikey_Rising.f k l else some false

set_option maxRecDepth 100000 in
set_option maxHeartbeats 1000000 in
theorem right1_calls (a : ByteArray) (b c : Int) (d : ByteArray) (r : Bool) (w : World) (h : ikey_Entry.f a b c d = some r) :
    Calls Try.prog 77 #[.agg #[.string a, .int .u64 b, .int .u8 c, .string d]] w fun e w' => e = .returned (.bool !r) ∧ Below w.heap.size w w' := by
  have hcl := fun W (hb : Below w.heap.size w W) => ikey_Entry.calls a b c d r W h
  have HCL := Aside0.mk hcl
  clear hcl h
  have hu := Try.underlying59
  have HB : Below w.heap.size w (w.alloc (.cells #[.string a, .int .u64 b, .int .u8 c, .string d] 59)) := below_alloc (Below.refl _ _) _
  go_enter Try.func77, Try.ntmps77
  go_wp2_with (go_at_call 64; refine (HCL.out _ (by first | exact HB | exact Below.refl _ _)).mono ?_; rintro e w1 ⟨rfl, hd⟩; have HD := Aside0.mk hd; clear hd)
  go_ret
  exact ⟨rfl, below_then HB HB.size HD.out⟩

set_option maxRecDepth 100000 in
set_option maxHeartbeats 1000000 in
theorem index_right_calls (A0 : Option Addr) (c0 : Nat) (l0 : List S59) (r : Bool) (w : World) (hr0 : Kd.C k59 w A0 l0.length l0) (hc0 : l0.length ≤ c0) (h : block_bad l0 = some r) :
    Calls Try.prog 107 #[.slice A0 l0.length c0, .func (.func 77) #[] #[]] w fun e w' => (∃ i : Int, e = .returned (.int .i64 i) ∧ decide (0 ≤ i) = r) ∧ Below w.heap.size w w' := by
  have hm := hr0.2.1
  have HR0 := Aside0.mk hr0
  have HC0 := Aside0.mk hc0
  have H := Aside0.mk h
  clear hr0 hc0 h
  go_enter Try.func107, Try.ntmps107
  go_wp2
  go_loopw [5, 8] (fun v5 v8 wr => ∃ k : Nat, k ≤ l0.length ∧ v8 = .int .i64 k ∧ Aside0 (block_bad (l0.drop k) = some r) ∧ Aside0 (Below w.heap.size w wr)) (fun _ v8 _ => l0.length - (intOf v8).toNat)
  case atStart => exact ⟨0, Nat.zero_le _, rfl, ⟨by rw [List.drop_zero]; exact H.out⟩, ⟨Below.refl _ _⟩⟩
  case round =>
    obtain ⟨k, hk, rfl, hbad, HB⟩ := hrel
    clear H
    by_cases hlt : k < l0.length
    · obtain ⟨ad, e, h0, h1, h2, h3⟩ := at_T59 HR0.out (k : Int) (by omega) (by omega)
      subst e
      have hb := hbad.out
      rw [List.drop_eq_getElem_cons hlt] at hb
      obtain ⟨t, ht, hb⟩ := Option.bind_eq_some_iff.1 hb
      have e1 : rd_T59 l0 (k : Int) = l0[k] := by
        show l0.getD ((k : Int)).toNat _ = _
        rw [Int.toNat_natCast, List.getD_eq_getElem?_getD, List.getElem?_eq_getElem hlt]; rfl
      rw [e1] at h0 h1 h2 h3
      simp only [Int.toNat_natCast] at h0 h1 h2 h3
      replace h0 := (HB.out.cell (World.block_lt_of_cell? w _ h0)).trans h0
      replace h1 := (HB.out.cell (World.block_lt_of_cell? w _ h1)).trans h1
      replace h2 := (HB.out.cell (World.block_lt_of_cell? w _ h2)).trans h2
      replace h3 := (HB.out.cell (World.block_lt_of_cell? w _ h3)).trans h3
      have hcl := fun W => right1_calls _ _ _ _ t W ht
      have HCL := Aside0.mk hcl
      clear hcl ht e1 hbad
      generalize l0[k].f0.f0 = x0 at *
      generalize l0[k].f0.f1 = x1 at *
      generalize l0[k].f0.f2 = x2 at *
      generalize l0[k].f1 = x3 at *
      cases t with
      | true =>
        rw [if_pos rfl] at hb
        have Hb := Aside0.mk hb
        clear hb
        go_wp2_with (go_at_call 77; refine (HCL.out _).mono ?_; rintro e w1 ⟨rfl, hd⟩; have HD := Aside0.mk hd; clear hd)
        refine ⟨⟨k + 1, by omega, by go_num, Hb, ⟨below_then HB.out HB.out.size HD.out⟩⟩, by simp [intOf]; omega⟩
      | false =>
        rw [if_neg (by decide)] at hb
        obtain rfl := Option.some.inj hb
        go_wp2_with (go_at_call 77; refine (HCL.out _).mono ?_; rintro e w1 ⟨rfl, hd⟩; have HD := Aside0.mk hd; clear hd)
        go_ret
        exact ⟨⟨_, rfl, decide_eq_true (by omega)⟩, below_then HB.out HB.out.size HD.out⟩
    · have e1 : l0.drop k = [] := List.drop_of_length_le (by omega)
      have hb := hbad.out
      rw [e1] at hb
      obtain rfl := Option.some.inj hb
      clear hb hbad
      go_wp2
      go_ret
      exact ⟨⟨_, rfl, rfl⟩, HB.out⟩

theorem contains_right_calls (A0 : Option Addr) (c0 : Nat) (l0 : List S59) (r : Bool) (w : World) (hr0 : Kd.C k59 w A0 l0.length l0) (hc0 : l0.length ≤ c0) (h : block_bad l0 = some r) :
    Calls Try.prog 78 #[.slice A0 l0.length c0, .func (.func 77) #[] #[]] w fun e w' => e = .returned (.bool r) ∧ Below w.heap.size w w' := by
  have hcl := fun W (hb : Below w.heap.size w W) => index_right_calls A0 c0 l0 r W (Kd.C_below hr0 hb) hc0 h
  have HCL := Aside0.mk hcl
  clear hcl h hr0 hc0
  go_enter Try.func78, Try.ntmps78
  go_wp2_with (go_at_call 107; refine (HCL.out _ (Below.refl _ _)).mono ?_; rintro e w1 ⟨⟨i, rfl, hi⟩, hd⟩; have HD := Aside0.mk hd; have HI := Aside0.mk hi; clear hd hi)
  go_ret
  exact ⟨by rw [HI.out]; rfl, HD.out⟩

theorem block_right.calls (k : Nat) (A0 : Option Addr) (c0 : Nat) (l0 : List S59) (r : Bool) (w : World) (hr0 : Kd.C k59 w A0 l0.length l0) (hc0 : l0.length ≤ c0) (h : block_right.f k l0 = some r) :
    Calls Try.prog 47 #[.slice A0 l0.length c0] w fun e w' => e = .returned (.bool r) ∧ Below w.heap.size w w' := by
  unfold block_right.f at h
  by_cases h1 : 0 < l0.length
  · by_cases h2 : l0.length ≤ 64
    · rw [if_pos ⟨h1, h2⟩] at h
      obtain ⟨b, hb, h⟩ := Option.bind_eq_some_iff.1 h
      have hcl := fun W (hw : Below w.heap.size w W) => contains_right_calls A0 c0 l0 b W (Kd.C_below hr0 hw) hc0 hb
      have HCL := Aside0.mk hcl
      have hp1 : decide (0 < (l0.length : Int)) = true := decide_eq_true (by omega)
      have hp1' : decide (0 < l0.length) = true := decide_eq_true h1
      have hp2 : decide ((l0.length : Int) ≤ 64) = true := decide_eq_true (by omega)
      have hp2' : decide (l0.length ≤ 64) = true := decide_eq_true h2
      cases b with
      | true =>
        rw [if_pos rfl] at h
        obtain rfl := Option.some.inj h
        clear hcl hr0 hc0 hb h
        go_enter Try.func47, Try.ntmps47
        go_wp2_with (go_at_call 78; refine (HCL.out _ (Below.refl _ _)).mono ?_; rintro e w1 ⟨rfl, hd⟩; have HD := Aside0.mk hd; clear hd)
        go_ret
        exact ⟨rfl, HD.out⟩
      | false =>
        rw [if_neg (by decide)] at h
        have hcl2 := fun W (hw : Below w.heap.size w W) => ikey_Rising.calls k A0 c0 l0 r W (Kd.C_below hr0 hw) hc0 h
        have HCL2 := Aside0.mk hcl2
        clear hcl hcl2 hr0 hc0 hb h
        go_enter Try.func47, Try.ntmps47
        go_wp2_with (first | (go_at_call 78; refine (HCL.out _ (Below.refl _ _)).mono ?_; rintro e w1 ⟨rfl, hd⟩; have HD := Aside0.mk hd; clear hd) | (go_at_call 31; refine (HCL2.out _ HD.out).mono ?_; rintro e w2 ⟨rfl, hd⟩; have HD2 := Aside0.mk hd; clear hd))
        go_ret
        exact ⟨rfl, below_then HD.out HD.out.size HD2.out⟩
    · rw [if_neg (fun q => h2 q.2)] at h
      obtain rfl := Option.some.inj h
      have hp1 : decide (0 < (l0.length : Int)) = true := decide_eq_true (by omega)
      have hp1' : decide (0 < l0.length) = true := decide_eq_true h1
      have hp2 : decide ((l0.length : Int) ≤ 64) = false := decide_eq_false (by omega)
      have hp2' : decide (l0.length ≤ 64) = false := decide_eq_false h2
      clear h hr0 hc0
      go_enter Try.func47, Try.ntmps47
      go_wp2
      go_ret
      exact ⟨rfl, Below.refl _ _⟩
  · rw [if_neg (fun q => h1 q.1)] at h
    obtain rfl := Option.some.inj h
    have hp1 : decide (0 < (l0.length : Int)) = false := decide_eq_false (by omega)
    have hp1' : decide (0 < l0.length) = false := decide_eq_false h1
    clear h hr0 hc0
    go_enter Try.func47, Try.ntmps47
    go_wp2
    go_ret
    exact ⟨rfl, Below.refl _ _⟩
end Go.Proofs.YtjcjfghcahbbmaaG

end

section
set_option linter.unusedVariables false
namespace Go.Proofs.YtjcjfghcahbbmaaL
open Go Go.RowKit Go.Proofs.YtjcjfghcahbbmaaG Go.Proofs.Ytjcjfghcahbbmaa.P Go.Proofs.YtjcjfghcahbbmaaW.PrintWords

/-- A number of 32 bits as four bytes. -/
def four (x : Nat) : List Int := [((x % 256 : Nat) : Int), ((x / 256 % 256 : Nat) : Int), ((x / 65536 % 256 : Nat) : Int), ((x / 16777216 % 256 : Nat) : Int)]
theorem four_len (x : Nat) : (four x).length = 4 := rfl
theorem four_by (x : Nat) : By (four x) := .cons (by omega) (by omega) (.cons (by omega) (by omega) (.cons (by omega) (by omega) (.cons (by omega) (by omega) .nil)))
theorem putFour_f {l : List Int} {x : Nat} (hx : x < 4294967296) (hl : l.length + 10 < 140737488355328) : nums_PutFour.f l (x : Int) = some (l ++ four x) := by
  unfold nums_PutFour.f
  rw [clone_f (by omega)]
  simp only [Option.bind_some]
  rw [if_pos (by simp; omega)]
  congr 2
theorem bits_or_u32 (a b : Nat) (ha : a < 4294967296) (hb : b < 4294967296) : bits .or .u32 (a : Int) (b : Int) = ((a ||| b : Nat) : Int) := by
  have hx : a ||| b < 2 ^ 32 := Nat.or_lt_two_pow (by omega) (by omega)
  have hw : ∀ n : Int, IntKind.u32.wrap n = n % 4294967296 := fun n => by simp [IntKind.wrap, IntKind.bits, IntKind.signed]
  show IntKind.u32.wrap ((BitVec.ofInt 32 (a : Int) ||| BitVec.ofInt 32 (b : Int)).toNat : Int) = _
  rw [BitVec.ofInt_natCast, BitVec.ofInt_natCast, BitVec.toNat_or, BitVec.toNat_ofNat, BitVec.toNat_ofNat, Nat.mod_eq_of_lt (by omega), Nat.mod_eq_of_lt (by omega), hw]
  omega
theorem or_four (a b c d : Nat) (ha : a < 256) (hb : b < 256) (hc : c < 256) (hd : d < 256) :
    Go.bits .or .u32 (Go.bits .or .u32 (Go.bits .or .u32 ((a : Int) % 4294967296) ((((b : Int) % 4294967296) * 256) % 4294967296)) ((((c : Int) % 4294967296) * 65536) % 4294967296)) ((((d : Int) % 4294967296) * 16777216) % 4294967296) = ((a + 256 * b + 65536 * c + 16777216 * d : Nat) : Int) := by
  rw [show ((a : Int) % 4294967296) = (a : Int) from by omega, show ((((b : Int) % 4294967296) * 256) % 4294967296) = ((b * 2 ^ 8 : Nat) : Int) from by omega,
    show ((((c : Int) % 4294967296) * 65536) % 4294967296) = ((c * 2 ^ 16 : Nat) : Int) from by omega, show ((((d : Int) % 4294967296) * 16777216) % 4294967296) = ((d * 2 ^ 24 : Nat) : Int) from by omega]
  rw [bits_or_u32 _ _ (by omega) (by omega), or_add _ _ _ (by omega), bits_or_u32 _ _ (by omega) (by omega), or_add _ _ _ (by omega), bits_or_u32 _ _ (by omega) (by omega), or_add _ _ _ (by omega)]
  omega
theorem takeFour_short {l : List Int} (h : l.length < 4) : nums_TakeFour.f l = some (0, [], false) := by
  unfold nums_TakeFour.f
  rw [if_pos (by omega)]
theorem takeFour_bytes (a b c d : Int) (rest : List Int) (h : By (a :: b :: c :: d :: rest)) (hl : rest.length + 10 < 140737488355328) :
    nums_TakeFour.f (a :: b :: c :: d :: rest) = some (a + 256 * b + 65536 * c + 16777216 * d, rest, true) := by
  have ha := h.head
  have hb := h.tail.head
  have hc := h.tail.tail.head
  have hd := h.tail.tail.tail.head
  unfold nums_TakeFour.f
  simp only [List.length_cons]
  rw [if_neg (by omega), if_pos (by omega), if_pos (by omega), if_pos (by omega), if_pos (by omega), if_pos (by omega)]
  rw [show (a :: b :: c :: d :: rest).drop 4 = rest from rfl, clone_f (by omega)]
  simp only [Option.bind_some]
  rw [show rd (a :: b :: c :: d :: rest) 0 = a from rfl, show rd (a :: b :: c :: d :: rest) 1 = b from rfl, show rd (a :: b :: c :: d :: rest) 2 = c from rfl, show rd (a :: b :: c :: d :: rest) 3 = d from rfl]
  obtain ⟨a', rfl⟩ := Int.eq_ofNat_of_zero_le ha.1
  obtain ⟨b', rfl⟩ := Int.eq_ofNat_of_zero_le hb.1
  obtain ⟨c', rfl⟩ := Int.eq_ofNat_of_zero_le hc.1
  obtain ⟨d', rfl⟩ := Int.eq_ofNat_of_zero_le hd.1
  rw [or_four a' b' c' d' (by omega) (by omega) (by omega) (by omega)]
  congr 2
theorem takeFour_four (x : Nat) (rest : List Int) (hx : x < 4294967296) (hr : By rest) (hl : rest.length + 10 < 140737488355328) :
    nums_TakeFour.f (four x ++ rest) = some ((x : Int), rest, true) := by
  unfold four
  simp only [List.cons_append, List.nil_append]
  rw [takeFour_bytes _ _ _ _ rest ((four_by x).append hr) hl]
  congr 2
  omega
/-- Four bytes or more say a number, and are put as they stood. -/
theorem takeFour_cases (l : List Int) (hb : By l) (hl : l.length + 10 < 140737488355328) :
    (l.length < 4 ∧ nums_TakeFour.f l = some (0, [], false)) ∨ (4 ≤ l.length ∧ ∃ (x : Nat) (rest : List Int), x < 4294967296 ∧ l = four x ++ rest ∧ nums_TakeFour.f l = some ((x : Int), rest, true)) := by
  by_cases h : l.length < 4
  · exact .inl ⟨h, takeFour_short h⟩
  · right
    match l, h, hb, hl with
    | a :: b :: c :: d :: rest, _, hb, hl =>
      have ha := hb.head
      have hb2 := hb.tail.head
      have hc := hb.tail.tail.head
      have hd := hb.tail.tail.tail.head
      simp only [List.length_cons] at hl
      refine ⟨by simp, (a + 256 * b + 65536 * c + 16777216 * d).toNat, rest, by omega, ?_, ?_⟩
      · unfold four
        simp only [List.cons_append, List.nil_append, List.cons.injEq, and_true]
        refine ⟨?_, ?_, ?_, ?_⟩ <;> omega
      · rw [takeFour_bytes a b c d rest hb (by omega)]
        congr 2
        omega
    | [], h, _, _ => simp at h
    | [_], h, _, _ => simp at h
    | [_, _], h, _, _ => simp at h
    | [_, _, _], h, _, _ => simp at h
end Go.Proofs.YtjcjfghcahbbmaaL

end

section
namespace Go.Proofs.Ytjcjfghcahbbmaa.P
open Go.RowKit Go.Proofs.YtjcjfghcahbbmaaG Go.Proofs.YtjcjfghcahbbmaaW.PrintWords Go.Proofs.YtjcjfghcahbbmaaW.PrintLast Go.Proofs.YtjcjfghcahbbmaaW.PrintMore
attribute [local go_sem] str_gtr str_geq str_leq max2_int min2_int max_two min_two max_three min_three max_four min_four   -- for this text's walks alone
set_option linter.unusedVariables false
set_option linter.unusedSimpArgs false

def block_common.l0 : Nat → ByteArray → ByteArray → Int → Option (Int)
 | 0,_,_,_=>none
 | k + 1,x0,x1,x5=>if x5 < (mn (x0.size : Int) (x1.size : Int)) then (if 0 ≤ x5 then (if x5 < (x0.size : Int) then (if x5 < (x1.size : Int) then (if (bt x0 x5) = (bt x1 x5) then (block_common.l0 k x0 x1 (wrap64 (x5 + 1))) else (some x5)) else (none)) else (none)) else (none)) else (some x5)
def block_common.f (k : Nat) (a0 : ByteArray) (a1 : ByteArray) : Option (Int):=block_common.l0 k a0 a1 0
set_option maxHeartbeats 8000000 in
set_option maxRecDepth 100000 in
theorem block_common.calls (k : Nat) (a0 : ByteArray) (a1 : ByteArray) (r : Int) (w : World) (h : block_common.f k a0 a1 = some r) :
  Calls Try.prog 79 #[.string a0,.string a1] w fun e w'=>e = .returned (.int .i64 r) ∧ Below w.heap.size w w':=by
 have HB:=Aside0.mk (Below.refl w.heap.size w)
 have H : (block_common.l0 k a0 a1 0) = some r:=h
 clear h
 have H':=Aside0.mk H
 clear H
 go_enter Try.func79,Try.ntmps79
 go_wp2
 repeat (go_quiet (fail);try go_wp2)
 go_loopg [5] k (fun kq v5 w'=>∃ (x5_1 : Int),v5 = .int .i64 x5_1 ∧ Aside0 (block_common.l0 kq a0 a1 x5_1 = some r) ∧ Aside0 (kq ≤ k) ∧ Aside0 (Below w.heap.size w w'))
 case atStart=>exact ⟨(0),(by first|rfl|(simp;done)|(simp [*];done)),H',⟨Nat.le_refl _⟩,⟨by repeat (first|(with_reducible first|exact HB.out|apply below_alloc|apply pw_below_drewN|apply below_drew1)|exact HB.out)⟩⟩
 case round =>
  clear H'
  try clear p2
  obtain ⟨x5_1,rfl,HA,HK1,HB⟩:=hrel
  cases gk with
  | zero=>exact absurd HA.out (by simp [block_common.l0])
  | succ k1 =>
   have H:=HA.out
   clear HA
   simp only [block_common.l0] at H
   obtain ⟨ji3,hji3⟩ : ∃ j_ : Int,(mn (a0.size : Int) (a1.size : Int)) = j_:=⟨_,rfl⟩
   replace H : (if x5_1 < (ji3) then (if 0 ≤ x5_1 then (if x5_1 < (a0.size : Int) then (if x5_1 < (a1.size : Int) then (if (bt a0 x5_1) = (bt a1 x5_1) then (block_common.l0 k1 a0 a1 (wrap64 (x5_1 + 1))) else (some x5_1)) else (none)) else (none)) else (none)) else (some x5_1)) = some r:=by first|(rw [hji3] at H;exact H)|(simp only [hji3] at H ⊢;exact H)
   have hji3_ : (if (a1.size : Int) < (a0.size : Int) then (a1.size : Int) else (a0.size : Int)) = ji3:=hji3
   have hji3n : (if a1.size < a0.size then (a1.size : Int) else (a0.size : Int)) = ji3:=by rw [← hji3_];simp only [Int.ofNat_lt]
   by_cases c4 : x5_1 < (ji3)
   ·rw [if_pos c4] at H
    have c4b0 : decide (x5_1 < (ji3)) = true:=decide_eq_true c4
    clear c4
    by_cases c5 : 0 ≤ x5_1
    ·rw [if_pos c5] at H
     have c5b0 : decide (0 ≤ x5_1) = true:=decide_eq_true c5
     clear c5
     by_cases c6 : x5_1 < (a0.size : Int)
     ·rw [if_pos c6] at H
      have c6b0 : decide (x5_1 < (a0.size : Int)) = true:=decide_eq_true c6
      clear c6
      by_cases c8 : x5_1 < (a1.size : Int)
      ·rw [if_pos c8] at H
       have c8b0 : decide (x5_1 < (a1.size : Int)) = true:=decide_eq_true c8
       clear c8
       by_cases c10 : (bt a0 x5_1) = (bt a1 x5_1)
       ·rw [if_pos c10] at H
        have c10b0 : ((bt a0 x5_1) == (bt a1 x5_1)) = true:=beq_iff_eq.mpr c10
        have c10b1 : ((bt a0 x5_1) != (bt a1 x5_1)) = false:=bne_eq_false_iff_eq.mpr c10
        clear c10
        have H':=Aside0.mk H
        clear H
        have p7 : 0 ≤ (x5_1 : Int):=of_decide_eq_true (by first|(with_reducible assumption)|assumption)
        have q7 : x5_1 < (a0.size : Int):=of_decide_eq_true (by first|(with_reducible assumption)|assumption)
        have hx7:=bt_at a0 x5_1
        replace p7:=eq_true p7
        replace q7:=eq_true q7
        have p9 : 0 ≤ (x5_1 : Int):=of_decide_eq_true (by first|(with_reducible assumption)|assumption)
        have q9 : x5_1 < (a1.size : Int):=of_decide_eq_true (by first|(with_reducible assumption)|assumption)
        have hx9:=bt_at a1 x5_1
        replace p9:=eq_true p9
        replace q9:=eq_true q9
        go_wp2
        repeat (go_quiet (fail);try go_wp2)
        go_roundg k1
        case measure=>have:=HK1.out;omega
        case rel=>exact ⟨(wrap64 (x5_1 + 1)),(by first|rfl|(simp;done)|(simp [*];done)),H',⟨by have:=HK1.out;omega⟩,⟨by repeat (first|(with_reducible first|exact HB.out|apply below_alloc|apply pw_below_drewN|apply below_drew1)|exact HB.out)⟩⟩
       ·rw [if_neg c10] at H
        have c10b0 : ((bt a0 x5_1) == (bt a1 x5_1)) = false:=beq_eq_false_iff_ne.mpr c10
        have c10b1 : ((bt a0 x5_1) != (bt a1 x5_1)) = true:=bne_iff_ne.mpr c10
        obtain rfl:=Option.some.inj H
        have p7 : 0 ≤ (x5_1 : Int):=of_decide_eq_true (by first|(with_reducible assumption)|assumption)
        have q7 : x5_1 < (a0.size : Int):=of_decide_eq_true (by first|(with_reducible assumption)|assumption)
        have hx7:=bt_at a0 x5_1
        replace p7:=eq_true p7
        replace q7:=eq_true q7
        have p9 : 0 ≤ (x5_1 : Int):=of_decide_eq_true (by first|(with_reducible assumption)|assumption)
        have q9 : x5_1 < (a1.size : Int):=of_decide_eq_true (by first|(with_reducible assumption)|assumption)
        have hx9:=bt_at a1 x5_1
        replace p9:=eq_true p9
        replace q9:=eq_true q9
        go_wp2
        repeat (go_quiet (fail);try go_wp2)
        go_ret
        exact ⟨by first|rfl|(simp [errW_none,errW_some] <;> rfl)|(simp only [← hji3];first|rfl|(simp [errW_none,errW_some] <;> rfl))|(simp [*,errW_none,errW_some] <;> rfl),by repeat (first|(with_reducible first|exact HB.out|apply below_alloc|apply pw_below_drewN|apply below_drew1)|exact HB.out)⟩
      ·rw [if_neg c8] at H
       exact absurd H (by simp)
     ·rw [if_neg c6] at H
      exact absurd H (by simp)
    ·rw [if_neg c5] at H
     exact absurd H (by simp)
   ·rw [if_neg c4] at H
    have c4b0 : decide (x5_1 < (ji3)) = false:=decide_eq_false c4
    clear c4
    obtain rfl:=Option.some.inj H
    go_wp2
    repeat (go_quiet (fail);try go_wp2)
    go_ret
    exact ⟨by first|rfl|(simp [errW_none,errW_some] <;> rfl)|(simp only [← hji3];first|rfl|(simp [errW_none,errW_some] <;> rfl))|(simp [*,errW_none,errW_some] <;> rfl),by repeat (first|(with_reducible first|exact HB.out|apply below_alloc|apply pw_below_drewN|apply below_drew1)|exact HB.out)⟩

end Go.Proofs.Ytjcjfghcahbbmaa.P

end

section
set_option linter.unusedVariables false
set_option linter.unusedSimpArgs false
namespace Go.Proofs.YtjcjfghcahbbmaaG
open Go Go.RowKit Go.Proofs.YtjcjfghcahbbmaaR Go.Proofs.YtjcjfghcahbbmaaL Go.Proofs.Ytjcjfghcahbbmaa.P Go.Proofs.YtjcjfghcahbbmaaW.PrintWords
attribute [local go_sem] Oper.semAt_some

abbrev mkBx (A : Option Addr) (n c : Nat) (B : Option Addr) (m d : Nat) (many : Int) (key : ByteArray) : Obj := .cells #[.slice A n c, .slice B m d, .int .i64 many, .string key] 88
abbrev enBx (e : En) : Obj := .cells #[.string e.f0.f0, .int .u64 e.f0.f1, .int .u8 e.f0.f2, .string e.f1] 59
/-- The maker's block: bytes, places, how many, the last key. -/
def MkS (base g : Nat) (b p : List Int) (many : Nat) (key : ByteArray) (W : World) : Prop :=
  ∃ A cA B cB, W.heap[g]? = some (mkBx A b.length cA B p.length cB (many : Int) key) ∧ Kd.R (Kd.int .u8) 5 W base (fun k => k ≠ g) (.slice A b.length cA) b ∧ Kd.R (Kd.int .u8) 5 W base (fun k => k ≠ g) (.slice B p.length cB) p
section
variable {base g : Nat} {b p : List Int} {many : Nat} {key : ByteArray} {W W' : World}
theorem MkS.lt (h : MkS base g b p many key W) : g < W.heap.size := by obtain ⟨A, cA, B, cB, h1, _⟩ := h; exact blk_lt h1
theorem MkS.below (h : MkS base g b p many key W) (hb : Below W.heap.size W W') : MkS base g b p many key W' := by
  obtain ⟨A, cA, B, cB, h1, h2, h3⟩ := h
  exact ⟨A, cA, B, cB, (hb.block g (blk_lt h1)).trans h1, Kd.R_below h2 hb, Kd.R_below h3 hb⟩
theorem Below.trans_drew {n : Nat} {W W1 : World} (h : Below n W.drew W1) : Below n W W1 := ⟨h.os, h.tape, h.output, h.size, h.block⟩
theorem MkS.cut (h : MkS base g b p many key W) {key' : ByteArray} : MkS base g b p many key' (W.setCell ⟨g, 3, none⟩ (.string key')) := by
  obtain ⟨A, cA, B, cB, h1, h2, h3⟩ := h
  exact ⟨A, cA, B, cB, blk_set h1 3 _, Kd.R_far (p := ⟨g, 3, none⟩) h2 (fun k hk => hk) _, Kd.R_far (p := ⟨g, 3, none⟩) h3 (fun k hk => hk) _⟩
theorem MkS.num (h : MkS base g b p many key W) {m : Nat} : MkS base g b p m key (W.setCell ⟨g, 2, none⟩ (.int .i64 (m : Int))) := by
  obtain ⟨A, cA, B, cB, h1, h2, h3⟩ := h
  exact ⟨A, cA, B, cB, blk_set h1 2 _, Kd.R_far (p := ⟨g, 2, none⟩) h2 (fun k hk => hk) _, Kd.R_far (p := ⟨g, 2, none⟩) h3 (fun k hk => hk) _⟩
theorem MkS.plc (h : MkS base g b p many key W) {A' : Option Addr} {p' : List Int} {c' : Nat} (hR : Kd.R (Kd.int .u8) 5 W base (fun k => k ≠ g) (.slice A' p'.length c') p') : MkS base g b p' many key (W.setCell ⟨g, 1, none⟩ (.slice A' p'.length c')) := by
  obtain ⟨A, cA, B, cB, h1, h2, h3⟩ := h
  exact ⟨A, cA, A', c', blk_set h1 1 _, Kd.R_far (p := ⟨g, 1, none⟩) h2 (fun k hk => hk) _, Kd.R_far (p := ⟨g, 1, none⟩) hR (fun k hk => hk) _⟩
theorem MkS.byt (h : MkS base g b p many key W) {A' : Option Addr} {b' : List Int} {c' : Nat} (hR : Kd.R (Kd.int .u8) 5 W base (fun k => k ≠ g) (.slice A' b'.length c') b') : MkS base g b' p many key (W.setCell ⟨g, 0, none⟩ (.slice A' b'.length c')) := by
  obtain ⟨A, cA, B, cB, h1, h2, h3⟩ := h
  exact ⟨A', c', B, cB, blk_set h1 0 _, Kd.R_far (p := ⟨g, 0, none⟩) hR (fun k hk => hk) _, Kd.R_far (p := ⟨g, 0, none⟩) h3 (fun k hk => hk) _⟩
/-- A row that was made is none of an elder block. -/
theorem R_newer {W W1 : World} {base g : Nat} {v : Value} {l : List Int} (h : Kd.R (Kd.int .u8) 5 W1 W.heap.size (fun _ => True) v l) (hg : g < W.heap.size) (hb : base ≤ W.heap.size) : Kd.R (Kd.int .u8) 5 W1 base (fun k => k ≠ g) v l :=
  Kd.R_lower (Kd.R_mono (Kd.R_bound h) (fun k hk => by have := hk.2.1; omega)) hb
end
/-- How many bytes two texts begin with alike. -/
def comN : List UInt8 → List UInt8 → Nat
  | a :: x, b :: y => if a = b then comN x y + 1 else 0
  | _, _ => 0
def com (a b : ByteArray) : Nat := comN a.toList b.toList
def entF (n : Nat) (e : En) : List Int := vint n ++ (vint (e.f0.f0.size - n) ++ (bytesOf (e.f0.f0.extract n e.f0.f0.size) ++ (vint (e.f0.f1.toNat * 2 + e.f0.f2.toNat) ++ (if e.f0.f2 = 1 then vint e.f1.size ++ bytesOf e.f1 else []))))
def keyAt (many : Nat) (key : ByteArray) : ByteArray := if many % 4 = 0 then ⟨#[]⟩ else key
def plcAt (many : Nat) (p : List Int) (n : Nat) : List Int := if many % 4 = 0 then p ++ four n else p

theorem or_pack {x k : Int} (hx0 : 0 ≤ x) (hx : x ≤ 72057594037927935) (hk0 : 0 ≤ k) (hk : k ≤ 1) : bits .or .u64 (IntKind.u64.wrap (x * 2)) (IntKind.u64.wrap k) = ((x.toNat * 2 + k.toNat : Nat) : Int) := by
  obtain ⟨a, rfl⟩ := Int.eq_ofNat_of_zero_le hx0
  obtain ⟨c, rfl⟩ := Int.eq_ofNat_of_zero_le hk0
  have e1 : IntKind.u64.wrap ((a : Int) * 2) = ((2 ^ 1 * a : Nat) : Int) := by rw [IntKind.wrap_u64]; omega
  have e2 : IntKind.u64.wrap (c : Int) = (c : Int) := by rw [IntKind.wrap_u64]; omega
  rw [e1, e2]
  show IntKind.u64.wrap ((BitVec.ofInt 64 ((2 ^ 1 * a : Nat) : Int) ||| BitVec.ofInt 64 (c : Int)).toNat : Int) = _
  rw [BitVec.ofInt_natCast, BitVec.ofInt_natCast, BitVec.toNat_or, BitVec.toNat_ofNat, BitVec.toNat_ofNat, Nat.mod_eq_of_lt (show 2 ^ 1 * a < 2 ^ 64 by omega), Nat.mod_eq_of_lt (show c < 2 ^ 64 by omega), ← Nat.two_pow_add_eq_or_of_lt (show c < 2 ^ 1 by omega) a, Int.toNat_natCast, Int.toNat_natCast, IntKind.wrap_u64]
  omega
/-- The state of put: the entry's box, and the maker. -/
structure PtS (w : World) (base g : Nat) (e : En) (b p : List Int) (many : Nat) (key : ByteArray) (W : World) : Prop where
  st : Stays (fun k => k = g) w W
  en : W.heap[w.heap.size]? = some (enBx e)
  ms : MkS base g b p many key W
  gl : g < w.heap.size
  bs : base ≤ w.heap.size
section
variable {w W W1 : World} {base g : Nat} {e : En} {b p : List Int} {many : Nat} {key : ByteArray}
theorem PtS.sz (h : PtS w base g e b p many key W) : w.heap.size < W.heap.size := blk_lt h.en
theorem PtS.below (h : PtS w base g e b p many key W) (hb : Below W.heap.size W W1) : PtS w base g e b p many key W1 :=
  ⟨h.st.trans (Stays.of_below hb), (hb.block _ (blk_lt h.en)).trans h.en, h.ms.below hb, h.gl, h.bs⟩
theorem PtS.set (h : PtS w base g e b p many key W) {j : Nat} {u : Value} {b' p' : List Int} {many' : Nat} {key' : ByteArray} (hm : MkS base g b' p' many' key' (W.setCell ⟨g, j, none⟩ u)) : PtS w base g e b' p' many' key' (W.setCell ⟨g, j, none⟩ u) :=
  ⟨h.st.trans (Stays.setCell (C := fun k => k = g) (p := ⟨g, j, none⟩) rfl u), blk_far h.en (by have := h.gl; show w.heap.size ≠ g; omega) u, hm, h.gl, h.bs⟩
theorem PtS.newer (h : PtS w base g e b p many key W) {v : Value} {l : List Int} (hR : Kd.R (Kd.int .u8) 5 W1 W.heap.size (fun _ => True) v l) : Kd.R (Kd.int .u8) 5 W1 base (fun k => k ≠ g) v l :=
  R_newer hR (by have := h.gl; have := h.sz; omega) (by have := h.bs; have := h.sz; omega)
end
set_option maxRecDepth 100000 in
set_option maxHeartbeats 8000000 in
theorem put_calls (base g : Nat) (b p : List Int) (many : Nat) (key : ByteArray) (e : En) (n : Nat) (w : World) (hm : MkS base g b p many key w) (hbase : base ≤ w.heap.size) (hb : b.length ≤ 1000000) (hp : p.length ≤ 1000000) (hmany : many ≤ 1000) (hk : e.f0.f0.size ≤ 1000) (hv : e.f1.size ≤ 1000) (hs0 : 0 ≤ e.f0.f1) (hs1 : e.f0.f1 ≤ 72057594037927935) (hd0 : 0 ≤ e.f0.f2) (hd1 : e.f0.f2 ≤ 1)
    (hc : ∃ k, block_common.f k (keyAt many key) e.f0.f0 = some (n : Int)) (hn : n ≤ e.f0.f0.size) :
    Calls Try.prog 49 #[.pointer (some ⟨g, 0, none⟩), .agg #[.string e.f0.f0, .int .u64 e.f0.f1, .int .u8 e.f0.f2, .string e.f1]] w fun x w' => (∃ u, x = .returned u) ∧ Stays (fun k => k = g) w w' ∧ MkS base g (b ++ entF n e) (plcAt many p b.length) (many + 1) e.f0.f0 w' := by
  have hu := Try.underlying59
  have hu2 := Try.underlying50
  have hu3 := Try.underlying88
  obtain ⟨kc, hc⟩ := hc
  have HC := Aside0.mk hc
  have HP0 : Aside0 (PtS w base g e b p many key (w.alloc (enBx e))) := ⟨⟨Stays.alloc _ _ _, World.alloc_heap_new w _, hm.below (below_alloc (Below.refl _ _) _), hm.lt, hbase⟩⟩
  obtain ⟨A, cA, B, cB, h1, h2, h3⟩ := HP0.out.ms
  have hx2 : (w.alloc (enBx e)).cell? ⟨g, 2, none⟩ = some (.int .i64 (many : Int)) := (blk_cell h1 2).trans rfl
  have hb4 : b.length + 10 < 140737488355328 := by omega
  have v1 := vint_len10 (x := n) (by omega)
  have v2 := vint_len10 (x := e.f0.f0.size - n) (by omega)
  have v3 := vint_len10 (x := e.f0.f1.toNat * 2 + e.f0.f2.toNat) (by omega)
  obtain ⟨q1, hq1⟩ : ∃ x, x = b ++ vint n := ⟨_, rfl⟩
  obtain ⟨tx, htx⟩ : ∃ x, x = e.f0.f0.extract n e.f0.f0.size := ⟨_, rfl⟩
  obtain ⟨q2, hq2⟩ : ∃ x, x = q1 ++ vint tx.size ++ bytesOf tx := ⟨_, rfl⟩
  obtain ⟨xx, hxx⟩ : ∃ x : Nat, x = e.f0.f1.toNat * 2 + e.f0.f2.toNat := ⟨_, rfl⟩
  obtain ⟨q3, hq3⟩ : ∃ x, x = q2 ++ vint xx := ⟨_, rfl⟩
  rw [← hxx] at v3
  obtain ⟨q4, hq4⟩ : ∃ x, x = (if e.f0.f2 = 1 then q3 ++ vint e.f1.size ++ bytesOf e.f1 else q3) := ⟨_, rfl⟩
  have htxs : tx.size = e.f0.f0.size - n := by rw [htx, ByteArray.size_extract]; omega
  have hl1 : q1.length ≤ 1000010 := by rw [hq1, List.length_append]; omega
  have hl2 : q2.length ≤ 1002000 := by rw [hq2, List.length_append, List.length_append, bytesOf_length, htxs]; omega
  have hl3 : q3.length ≤ 1002010 := by rw [hq3, List.length_append]; omega
  have HN1 : Aside0 (nums_Put.f b (n : Int) = some q1) := ⟨by rw [hq1]; exact put_f (by omega) (by omega)⟩
  have HN2 : Aside0 (nums_PutText.f q1 tx = some q2) := ⟨by rw [hq2]; exact putText_f (by rw [htxs]; omega)⟩
  have HXX := Aside0.mk hxx
  have HN3 : Aside0 (nums_Put.f q2 (xx : Int) = some q3) := ⟨by rw [hq3]; exact put_f (by omega) (by omega)⟩
  have HN4 : Aside0 (e.f0.f2 = 1 → nums_PutText.f q3 e.f1 = some q4) := ⟨fun h => by rw [hq4, if_pos h]; exact putText_f (by omega)⟩
  have HN5 : Aside0 (e.f0.f2 ≠ 1 → q4 = q3) := ⟨fun h => by rw [hq4, if_neg h]⟩
  have HQ4 : Aside0 (q4 = b ++ entF n e) := ⟨by
    rw [hq4, hq3, hq2, hq1, htxs, htx, hxx, entF]
    split <;> simp only [List.append_assoc, List.append_nil]⟩
  have HTX := Aside0.mk htx
  obtain ⟨pp, hpp⟩ : ∃ x, x = plcAt many p b.length := ⟨_, rfl⟩
  obtain ⟨kk, hkk⟩ : ∃ x, x = keyAt many key := ⟨_, rfl⟩
  rw [← hkk] at HC
  rw [← hpp]
  have HPP := Aside0.mk hpp
  have HKK := Aside0.mk hkk
  have HNN := Aside0.mk hn
  clear hm hc hbase h1 h2 h3 hq1 hq2 hq3 hq4 hxx htxs htx hl1 hl2 hl3 v1 v2 v3 hpp hkk hn
  go_enter Try.func49, Try.ntmps49
  go_upto_if 10 with (fail)
  go_cut [4] (fun v4 wc => v4 = undef ∧ Aside0 (PtS w base g e b pp many kk wc))
  case first =>
    obtain ⟨W0, hW0⟩ : ∃ W0, W0 = w.alloc (enBx e) := ⟨_, rfl⟩
    rw [show w.alloc (.cells #[.string e.f0.f0, .int .u64 e.f0.f1, .int .u8 e.f0.f2, .string e.f1] 59) = W0 from hW0.symm]
    rw [← hW0] at HP0
    clear hW0 hx2
    by_cases h4 : many % 4 = 0
    · have hq1 : (many : Int) % 4 = 0 := by omega
      obtain ⟨A, cA, B, cB, h1, h2, h3⟩ := HP0.out.ms
      have hz0 : W0.cell? ⟨g, 0, none⟩ = some (.slice A b.length cA) := (blk_cell h1 0).trans rfl
      have hz1 : W0.cell? ⟨g, 1, none⟩ = some (.slice B p.length cB) := (blk_cell h1 1).trans rfl
      have H1 := Aside0.mk h1
      have HB3 := Aside0.mk (Kd.R_reads' h3)
      have HPF : Aside0 (nums_PutFour.f p (b.length : Int) = some (p ++ four b.length)) := ⟨putFour_f (by omega) (by omega)⟩
      have hwr : IntKind.u32.wrap (b.length : Int) = (b.length : Int) := by show (b.length : Int) % 4294967296 = _; omega
      obtain ⟨p1, hp1⟩ : ∃ p1, p1 = p ++ four b.length := ⟨_, rfl⟩
      rw [← hp1] at HPF
      have HP1 : Aside0 (pp = p1) := ⟨by rw [HPP.out, hp1]; exact if_pos h4⟩
      have HKY : Aside0 (kk = ⟨#[]⟩) := ⟨by rw [HKK.out]; exact if_pos h4⟩
      clear h1 h2 h3 h4 hp1
      go_wp2
      go_region_law (go_simp; go_at_call 50; (with_reducible refine (nums_PutFour.calls B cB p (b.length : Int) p1 _ (Kd.C_below HB3.out.2.2 (below_drew (Below.refl _ _))) HB3.out.2.1 HPF.out).mono ?_); rintro x w1 ⟨v1, rfl, hv, hd⟩; obtain ⟨A1, c1, hvv⟩ := Kd.R_slice hv; subst hvv; have HV1 := Aside0.mk hv; have HD1 := Aside0.mk hd; have h11 := (hd.block g (blk_lt H1.out)).trans H1.out; have hy1 := (blk_cell h11 1).trans rfl; have hy3 := (blk_cell h11 3).trans rfl; have hf1 := blk_frozen h11 1; have hf3 := blk_frozen h11 3; clear hv hd h11 hz0 hz1)
      all_goals
        go_wp2
        go_meet
        case rel =>
          have hM1 := HP0.out.below (Below.trans_drew HD1.out)
          have hR1 := HP0.out.newer HV1.out
          refine ⟨rfl, ⟨?_⟩⟩
          rw [HP1.out, HKY.out]
          first
            | exact (hM1.set (hM1.ms.plc hR1)).set (hM1.ms.plc hR1).cut
            | exact (hM1.set hM1.ms.cut).set (hM1.ms.cut.plc (Kd.R_far (p := ⟨g, 3, none⟩) hR1 (fun k hk => hk) _))
    · have hq1 : ((many : Int) % 4 == 0) = false := beq_eq_false_iff_ne.2 (by omega)
      have hq2 : decide ((many : Int) % 4 = 0) = false := decide_eq_false (by omega)
      have hq3 : ¬ ((many : Int) % 4 = 0) := by omega
      have HP1 : Aside0 (pp = p) := ⟨by rw [HPP.out]; exact if_neg h4⟩
      have HKY : Aside0 (kk = key) := ⟨by rw [HKK.out]; exact if_neg h4⟩
      clear h4
      go_wp2
      go_meet
      case rel =>
        refine ⟨rfl, ⟨?_⟩⟩
        rw [HP1.out, HKY.out]
        exact HP0.out
  case rest =>
    clear HP0 hx2
    obtain ⟨rfl, HP⟩ := hcut
    go_upto_region 3 with (fail)
    go_cut [4] (fun v4 wd => v4 = .int .i64 (n : Int) ∧ Aside0 (PtS w base g e b pp many kk wd))
    case first =>
      obtain ⟨A, cA, B, cB, h1, h2, h3⟩ := HP.out.ms
      have hz3 : wc.cell? ⟨g, 3, none⟩ = some (.string kk) := (blk_cell h1 3).trans rfl
      have he0 : wc.cell? ⟨w.heap.size, 0, none⟩ = some (.string e.f0.f0) := (blk_cell HP.out.en 0).trans rfl
      clear h1 h2 h3
      go_wp2
      go_region_law (go_simp; go_at_call 79; (with_reducible refine (block_common.calls kc kk e.f0.f0 (n : Int) _ HC.out).mono ?_); rintro x w1 ⟨rfl, hd⟩; have HD1 := Aside0.mk hd; clear hd hz3 he0)
      all_goals
        go_wp2
        go_meet
        case rel => exact ⟨rfl, ⟨HP.out.below (Below.trans_drew HD1.out)⟩⟩
    case rest =>
      clear HP
      obtain ⟨rfl, HP⟩ := hcut
      go_upto_region 4 with (fail)
      go_cut [4] (fun v4 wd => v4 = .int .i64 (n : Int) ∧ Aside0 (PtS w base g e q2 pp many kk wd))
      case first =>
        obtain ⟨A, cA, B, cB, h1, h2, h3⟩ := HP.out.ms
        have hz0 : wc.cell? ⟨g, 0, none⟩ = some (.slice A b.length cA) := (blk_cell h1 0).trans rfl
        have he0 : wc.cell? ⟨w.heap.size, 0, none⟩ = some (.string e.f0.f0) := (blk_cell HP.out.en 0).trans rfl
        have HA0 := Aside0.mk (Kd.R_reads' h2)
        have hn := HNN.out
        have hn1 : decide ((n : Int) ≤ (e.f0.f0.size : Int)) = true := decide_eq_true (by omega)
        have hn2 : decide (n ≤ e.f0.f0.size) = true := decide_eq_true hn
        have hw : IntKind.u64.wrap (n : Int) = (n : Int) := wrap_u64_nat (by omega)
        have htx : e.f0.f0.extract n e.f0.f0.size = tx := HTX.out.symm
        clear h1 h2 h3
        go_wp2
        go_region_law (first
          | (go_simp; go_at_call 81; (with_reducible refine (nums_Put.calls A cA b (n : Int) q1 _ (Kd.C_below HA0.out.2.2 (below_drew (Below.refl _ _))) HA0.out.2.1 HN1.out).mono ?_); rintro x w1 ⟨v1, rfl, hv, hd⟩; obtain ⟨A1, c1, hvv⟩ := Kd.R_slice hv; subst hvv; have HV1 := Aside0.mk hv; have HD1 := Aside0.mk (HP.out.below (Below.trans_drew hd)); have he1 := (blk_cell HD1.out.en 0).trans rfl; clear hv hd hz0 he0)
          | (go_simp; go_at_call 80; (with_reducible refine (nums_PutText.calls A1 c1 q1 tx q2 _ (Kd.R_reads' HV1.out).2.2 (Kd.R_reads' HV1.out).2.1 HN2.out).mono ?_); rintro x w2 ⟨v2, rfl, hv, hd⟩; obtain ⟨A2, c2, hvv⟩ := Kd.R_slice hv; subst hvv; have HV2 := Aside0.mk (HD1.out.newer hv); have HD2 := Aside0.mk (HD1.out.below hd); obtain ⟨A3, c3, B3, d3, h5, _, _⟩ := HD2.out.ms; have hy0 := (blk_cell h5 0).trans rfl; have hf0 := blk_frozen h5 0; clear hv hd h5 he1))
        all_goals
          go_wp2
          go_meet
          case rel => exact ⟨rfl, ⟨HD2.out.set (HD2.out.ms.byt HV2.out)⟩⟩
      case rest =>
        clear HP
        obtain ⟨rfl, HP⟩ := hcut
        go_upto_region 5 with (fail)
        go_cut [4] (fun v4 wd => v4 = .int .i64 (n : Int) ∧ Aside0 (PtS w base g e q3 pp many kk wd))
        case first =>
          obtain ⟨A, cA, B, cB, h1, h2, h3⟩ := HP.out.ms
          have hz0 : wc.cell? ⟨g, 0, none⟩ = some (.slice A q2.length cA) := (blk_cell h1 0).trans rfl
          have he1 : wc.cell? ⟨w.heap.size, 1, none⟩ = some (.int .u64 e.f0.f1) := (blk_cell HP.out.en 1).trans rfl
          have he2 : wc.cell? ⟨w.heap.size, 2, none⟩ = some (.int .u8 e.f0.f2) := (blk_cell HP.out.en 2).trans rfl
          have HA0 := Aside0.mk (Kd.R_reads' h2)
          have hor := or_pack hs0 hs1 hd0 hd1
          rw [← HXX.out] at hor
          clear h1 h2 h3
          go_wp2
          go_region_law (go_simp; go_at_call 81; (with_reducible refine (nums_Put.calls A cA q2 (xx : Int) q3 _ (Kd.C_below HA0.out.2.2 (below_drew (Below.refl _ _))) HA0.out.2.1 HN3.out).mono ?_); rintro x w1 ⟨v1, rfl, hv, hd⟩; obtain ⟨A1, c1, hvv⟩ := Kd.R_slice hv; subst hvv; have HV1 := Aside0.mk (HP.out.newer hv); have HD1 := Aside0.mk (HP.out.below (Below.trans_drew hd)); obtain ⟨A3, c3, B3, d3, h5, _, _⟩ := HD1.out.ms; have hy0 := (blk_cell h5 0).trans rfl; have hf0 := blk_frozen h5 0; clear hv hd hz0 h5)
          all_goals
            go_wp2
            go_meet
            case rel => exact ⟨rfl, ⟨HD1.out.set (HD1.out.ms.byt HV1.out)⟩⟩
        case rest =>
          clear HP
          obtain ⟨rfl, HP⟩ := hcut
          have he2 : wc.cell? ⟨w.heap.size, 2, none⟩ = some (.int .u8 e.f0.f2) := (blk_cell HP.out.en 2).trans rfl
          go_upto_if 72 with (fail)
          go_cut [4] (fun v4 wd => v4 = .int .i64 (n : Int) ∧ Aside0 (PtS w base g e q4 pp many kk wd))
          case first =>
            clear he2
            by_cases hk1 : e.f0.f2 = 1
            · have hk2 : (e.f0.f2 == 1) = true := beq_iff_eq.2 hk1
              have hk3 : decide (e.f0.f2 = 1) = true := decide_eq_true hk1
              have HN4' := Aside0.mk (HN4.out hk1)
              obtain ⟨A, cA, B, cB, h1, h2, h3⟩ := HP.out.ms
              have hz0 : wc.cell? ⟨g, 0, none⟩ = some (.slice A q3.length cA) := (blk_cell h1 0).trans rfl
              have he3 : wc.cell? ⟨w.heap.size, 3, none⟩ = some (.string e.f1) := (blk_cell HP.out.en 3).trans rfl
              have HA0 := Aside0.mk (Kd.R_reads' h2)
              clear h1 h2 h3 hk1
              go_wp2
              go_region_law (go_simp; go_at_call 80; (with_reducible refine (nums_PutText.calls A cA q3 e.f1 q4 _ (Kd.C_below HA0.out.2.2 (below_drew (Below.refl _ _))) HA0.out.2.1 HN4'.out).mono ?_); rintro x w1 ⟨v1, rfl, hv, hd⟩; obtain ⟨A1, c1, hvv⟩ := Kd.R_slice hv; subst hvv; have HV1 := Aside0.mk (HP.out.newer hv); have HD1 := Aside0.mk (HP.out.below (Below.trans_drew hd)); obtain ⟨A3, c3, B3, d3, h5, _, _⟩ := HD1.out.ms; have hy0 := (blk_cell h5 0).trans rfl; have hf0 := blk_frozen h5 0; clear hv hd hz0 he3 h5)
              all_goals
                go_wp2
                go_meet
                case rel => exact ⟨rfl, ⟨HD1.out.set (HD1.out.ms.byt HV1.out)⟩⟩
            · have hk2 : (e.f0.f2 == 1) = false := beq_eq_false_iff_ne.2 hk1
              have hk3 : decide (e.f0.f2 = 1) = false := decide_eq_false hk1
              have HE5 := Aside0.mk (HN5.out hk1)
              clear hk1
              go_wp2
              go_meet
              case rel =>
                refine ⟨rfl, ⟨?_⟩⟩
                rw [HE5.out]
                exact HP.out
          case rest =>
            clear HP he2
            obtain ⟨rfl, HP⟩ := hcut
            obtain ⟨A, cA, B, cB, h1, h2, h3⟩ := HP.out.ms
            have hz2 : wc.cell? ⟨g, 2, none⟩ = some (.int .i64 (many : Int)) := (blk_cell h1 2).trans rfl
            have hz3 : wc.cell? ⟨g, 3, none⟩ = some (.string kk) := (blk_cell h1 3).trans rfl
            have hf2 := blk_frozen h1 2
            have hf3 := blk_frozen h1 3
            have he0 : wc.cell? ⟨w.heap.size, 0, none⟩ = some (.string e.f0.f0) := (blk_cell HP.out.en 0).trans rfl
            have hm1 : IntKind.i64.wrap ((many : Int) + 1) = ((many + 1 : Nat) : Int) := by rw [IntKind.wrap_i64]; omega
            have HM1 := Aside0.mk hm1
            clear h1 h2 h3 hm1
            go_wp2
            go_region_law (fail)
            all_goals
              go_end0
              have P1 := HP.out.set (HP.out.ms.num (m := many + 1))
              have P2 := P1.set (P1.ms.cut (key' := e.f0.f0))
              have P3 := HP.out.set (HP.out.ms.cut (key' := e.f0.f0))
              have P4 := P3.set (P3.ms.num (m := many + 1))
              rw [HM1.out, ← HQ4.out]
              first
                | exact ⟨⟨_, rfl⟩, (P2.below (below_drew (Below.refl _ _))).st, (P2.below (below_drew (Below.refl _ _))).ms⟩
                | exact ⟨⟨_, rfl⟩, (P4.below (below_drew (Below.refl _ _))).st, (P4.below (below_drew (Below.refl _ _))).ms⟩
end Go.Proofs.YtjcjfghcahbbmaaG

end

section
set_option linter.unusedVariables false
set_option linter.unusedSimpArgs false
namespace Go.Proofs.YtjcjfghcahbbmaaG
open Go Go.RowKit Go.Proofs.YtjcjfghcahbbmaaL Go.Proofs.Ytjcjfghcahbbmaa.P Go.Proofs.YtjcjfghcahbbmaaW.PrintWords Go.Proofs.YtjcjfghcahbbmaaW.PrintMore

theorem bt_toList (s : ByteArray) {n : Nat} (h : n < s.toList.length) : bt s (n : Int) = ((s.toList[n]).toNat : Int) := by
  have hs : n < s.size := by rw [toList_data, Array.length_toList] at h; exact h
  unfold bt
  rw [Int.toNat_natCast, dif_pos hs]
  congr 2
  simp only [toList_data]
  rfl
theorem toList_len (s : ByteArray) : s.toList.length = s.size := by rw [toList_data, Array.length_toList]; rfl
theorem comN_nil_right : ∀ a : List UInt8, comN a [] = 0
  | [] => rfl
  | _ :: _ => rfl
theorem comN_le : ∀ a b : List UInt8, comN a b ≤ a.length ∧ comN a b ≤ b.length
  | [], b => by rw [comN]; exact ⟨Nat.le_refl _, Nat.zero_le _⟩
                intro a x b y h; cases h
  | a :: x, [] => by rw [comN_nil_right]; exact ⟨Nat.zero_le _, Nat.le_refl _⟩
  | a :: x, b :: y => by
    rw [comN]
    have := comN_le x y
    simp only [List.length_cons]
    split <;> omega
theorem com_le (a b : ByteArray) : com a b ≤ a.size ∧ com a b ≤ b.size := by
  have := comN_le a.toList b.toList
  rw [toList_len, toList_len] at this
  exact this
theorem com_loop (a b : ByteArray) (ha : a.size ≤ 1000000) (hb : b.size ≤ 1000000) : ∀ (d n : Nat), n + d = min a.size b.size → Ev (fun k => block_common.l0 k a b (n : Int)) ((n + comN (a.toList.drop n) (b.toList.drop n) : Nat) : Int) := by
  have hmn : mn (a.size : Int) (b.size : Int) = ((min a.size b.size : Nat) : Int) := by unfold mn; split <;> omega
  intro d
  induction d with
  | zero =>
    intro n hn
    have h0 : comN (a.toList.drop n) (b.toList.drop n) = 0 := by
      by_cases h : a.size ≤ b.size
      · rw [List.drop_eq_nil_of_le (by rw [toList_len]; omega)]
        rw [comN]
        intro a x b y h; cases h
      · have hd : b.toList.drop n = [] := List.drop_eq_nil_of_le (by rw [toList_len]; omega)
        rw [hd, comN_nil_right]
    rw [h0, Nat.add_zero]
    exact ev_of 1 (fun k => by rw [block_common.l0, hmn, if_neg (by omega)])
  | succ d ih =>
    intro n hn
    have h1 : n < a.toList.length := by rw [toList_len]; omega
    have h2 : n < b.toList.length := by rw [toList_len]; omega
    have h3 : n < a.size := by omega
    have h4 : n < b.size := by omega
    rw [List.drop_eq_getElem_cons h1, List.drop_eq_getElem_cons h2, comN]
    by_cases h : a.toList[n] = b.toList[n]
    · rw [if_pos h]
      have := ih (n + 1) (by omega)
      rw [show n + (comN (a.toList.drop (n + 1)) (b.toList.drop (n + 1)) + 1) = n + 1 + comN (a.toList.drop (n + 1)) (b.toList.drop (n + 1)) by omega]
      exact ev_step (fun k => by rw [block_common.l0, hmn, if_pos (by omega), if_pos (by omega), if_pos (by omega), if_pos (by omega), if_pos (by rw [bt_toList a h1, bt_toList b h2, h]), up1 (by omega)]) this
    · rw [if_neg h, Nat.add_zero]
      exact ev_of 1 (fun k => by
        rw [block_common.l0, hmn, if_pos (by omega), if_pos (by omega), if_pos (by omega), if_pos (by omega), if_neg (fun e => h ?_)]
        rw [bt_toList a h1, bt_toList b h2] at e
        exact UInt8.toNat_inj.1 (by omega))
theorem com_k {a b : ByteArray} (ha : a.size ≤ 1000000) (hb : b.size ≤ 1000000) : ∃ k, block_common.f k a b = some ((com a b : Nat) : Int) := by
  have := com_loop a b ha hb (min a.size b.size) 0 (by omega)
  rw [List.drop_zero, List.drop_zero, Nat.zero_add] at this
  exact Ev.rounds this

def OkE (e : En) : Prop := EntryI e.f0 e.f1
instance decOkE (e : En) : Decidable (OkE e) := inferInstanceAs (Decidable (_ ∧ _))
def WfN (e : En) : Prop := 0 ≤ e.f0.f1 ∧ 0 ≤ e.f0.f2
instance decWfN (e : En) : Decidable (WfN e) := inferInstanceAs (Decidable (_ ∧ _))
theorem OkE.parts {e : En} (h : OkE e) : 1 ≤ e.f0.f0.size ∧ e.f0.f0.size ≤ 64 ∧ e.f0.f1 ≤ 72057594037927935 ∧ e.f0.f2 ≤ 1 ∧ e.f1.size ≤ 256 ∧ (e.f0.f2 = 0 → e.f1.size = 0) := by
  obtain ⟨⟨h1, h2, h3, h4⟩, h5⟩ := h
  refine ⟨h1, h2, h3, h4, ?_, fun e => ?_⟩
  · split at h5 <;> omega
  · rw [if_pos e] at h5; omega
def okEs (l : List En) : Bool := decide (0 < l.length) && decide (l.length ≤ 64) && decide (∀ e ∈ l, OkE e) && risesB l
theorem okEs_parts {l : List En} (h : okEs l = true) : 0 < l.length ∧ l.length ≤ 64 ∧ (∀ e ∈ l, OkE e) ∧ risesB l = true := by
  unfold okEs at h
  simp only [Bool.and_eq_true, decide_eq_true_eq] at h
  exact ⟨h.1.1.1, h.1.1.2, h.1.2, h.2⟩
theorem bad_f : ∀ l : List En, block_bad l = some (!decide (∀ e ∈ l, OkE e))
  | [] => by simp [block_bad]
  | e :: l => by
    have h0 : ikey_Entry.f e.f0.f0 e.f0.f1 e.f0.f2 e.f1 = some (decide (OkE e)) := by
      rw [entry_f e.f0 e.f1]
      congr 1
      rw [Bool.eq_iff_iff, Bool.and_eq_true, decide_eq_true_eq, decide_eq_true_eq, decide_eq_true_eq]
      exact Iff.rfl
    rw [block_bad, h0, bad_f l, Option.bind_some]
    by_cases h : OkE e
    · simp [h]
    · simp [h]
theorem bright_f (l : List En) (k : Nat) : block_right.f (k + 200) l = some (okEs l) := by
  unfold block_right.f okEs
  by_cases h : 0 < l.length ∧ l.length ≤ 64
  · rw [if_pos h, bad_f, Option.bind_some, decide_eq_true h.1, decide_eq_true h.2]
    by_cases h2 : ∀ e ∈ l, OkE e
    · rw [decide_eq_true h2, if_neg (by decide), rising_k (by omega)]
      rfl
    · rw [decide_eq_false h2, if_pos (by decide), Bool.and_false, Bool.false_and]
  · rw [if_neg h]
    congr 1
    symm
    by_cases h1 : 0 < l.length
    · rw [decide_eq_false (show ¬ l.length ≤ 64 from fun q => h ⟨h1, q⟩)]
      simp
    · rw [decide_eq_false h1]
      simp

theorem rev_ind {α : Type} {P : List α → Prop} (h0 : P []) (h1 : ∀ l a, P l → P (l ++ [a])) (l : List α) : P l := by
  have : ∀ r : List α, P r.reverse := by
    intro r
    induction r with
    | nil => exact h0
    | cons a r ih => rw [List.reverse_cons]; exact h1 _ _ ih
  have := this l.reverse
  rwa [List.reverse_reverse] at this
structure BS where
  b : List Int
  p : List Int
  m : Nat
  k : ByteArray
def BS.z : BS := ⟨[], [], 0, ⟨#[]⟩⟩
def BS.n (s : BS) (e : En) : Nat := com (keyAt s.m s.k) e.f0.f0
def BS.put (s : BS) (e : En) : BS := ⟨s.b ++ entF (s.n e) e, plcAt s.m s.p s.b.length, s.m + 1, e.f0.f0⟩
def bldS (l : List En) : BS := l.foldl BS.put BS.z
def outF (s : BS) : List Int := s.b ++ s.p ++ four ((s.m + 3) / 4)
def formB (l : List En) : List Int := outF (bldS l)
theorem bldS_snoc (l : List En) (e : En) : bldS (l ++ [e]) = (bldS l).put e := by unfold bldS; rw [List.foldl_append]; rfl
theorem bldS_m (l : List En) : (bldS l).m = l.length := by
  refine rev_ind (P := fun l => (bldS l).m = l.length) rfl (fun l e ih => ?_) l
  rw [bldS_snoc, List.length_append]
  show (bldS l).m + 1 = _
  rw [ih]
  rfl
theorem entF_len {e : En} {n : Nat} (h : OkE e) (hw : WfN e) (hn : n ≤ e.f0.f0.size) : (entF n e).length ≤ 400 ∧ 0 < (entF n e).length := by
  obtain ⟨h1, h2, h3, h4, h5, _⟩ := h.parts
  obtain ⟨w1, w2⟩ := hw
  have v1 := vint_len10 (x := n) (by omega)
  have v2 := vint_len10 (x := e.f0.f0.size - n) (by omega)
  have v3 := vint_len10 (x := e.f0.f1.toNat * 2 + e.f0.f2.toNat) (by omega)
  have v4 := vint_len10 (x := e.f1.size) (by omega)
  have p1 := vint_pos n
  unfold entF
  simp only [List.length_append, bytesOf_length, ByteArray.size_extract]
  split
  · simp only [List.length_append, bytesOf_length]; omega
  · simp only [List.length_nil]; omega
theorem bldS_len : ∀ (l : List En), (∀ e ∈ l, OkE e) → (∀ e ∈ l, WfN e) → (bldS l).b.length ≤ 400 * l.length ∧ l.length ≤ (bldS l).b.length ∧ (bldS l).p.length ≤ 4 * l.length := by
  intro l
  refine rev_ind (P := fun l => (∀ e ∈ l, OkE e) → (∀ e ∈ l, WfN e) → (bldS l).b.length ≤ 400 * l.length ∧ l.length ≤ (bldS l).b.length ∧ (bldS l).p.length ≤ 4 * l.length) (fun _ _ => ⟨Nat.le_refl _, Nat.le_refl _, Nat.le_refl _⟩) (fun l e ih => ?_) l
  · intro ho hw
    obtain ⟨i1, i2, i3⟩ := ih (fun x hx => ho x (List.mem_append_left _ hx)) (fun x hx => hw x (List.mem_append_left _ hx))
    obtain ⟨e1, e2⟩ := entF_len (n := (bldS l).n e) (ho e (by simp)) (hw e (by simp)) (com_le _ _).2
    rw [bldS_snoc]
    show (((bldS l).b ++ entF _ e).length ≤ _) ∧ _ ≤ ((bldS l).b ++ entF _ e).length ∧ (plcAt (bldS l).m (bldS l).p (bldS l).b.length).length ≤ _
    simp only [List.length_append, List.length_singleton]
    refine ⟨by omega, by omega, ?_⟩
    unfold plcAt
    split
    · rw [List.length_append, four_len]; omega
    · omega
def block_Build.f (l : List En) : Option (List Int × Int) := if l.length ≤ 1000000 ∧ (∀ e ∈ l, WfN e) then some (if okEs l = true then (formB l, 0) else ([], 70)) else none
end Go.Proofs.YtjcjfghcahbbmaaG

end

section
set_option linter.unusedVariables false
set_option linter.unusedSimpArgs false
namespace Go.Proofs.YtjcjfghcahbbmaaG
open Go Go.RowKit Go.Proofs.YtjcjfghcahbbmaaR Go.Proofs.YtjcjfghcahbbmaaW.PrintWords
attribute [local go_sem] Oper.semAt_some

theorem append_eqL {P : Program} (w : World) {ops : Array Oper} {rest : List Oper} {o : Oper} {a : Act} {Q : Exit → Act → World → Prop} (hgd : o.guard = none) (d s : Operand) (t t' : TypeId)
    (ho : o.op = .call { callee := .builtin .append, args := #[d, s], argTypes := #[t, t'] }) (v u : Value) (hd : a.eval d = v) (hs : a.eval s = u) {v' : Value} {w' : World}
    (hr : (Builtin.append_ #[t, t'] o.type #[v, u]).run P w = .ok v' w') (h : wpList P ops Q rest (a.put o.dst v') w') : wpList P ops Q (o :: rest) a w :=
  wpList_plain hgd fun _ hK => by
    unfold Oper.wp execOp
    simp only [ho, resolve, invoke, builtin, Sem.run_bind, Sem.run_pure, Result.andThen_ok, List.map_toArray, List.map_cons, List.map_nil, hd, hs, hr]
    exact hK _ _ h
theorem info_byte : ∃ i, Try.prog.info? 5 = some i ∧ i.zero = some (.int .u8 0) ∧ i.size = 1 ∧ i.bytes = 1 := by
  obtain ⟨i0, hi0, hz1⟩ := Option.map_eq_some_iff.1 info5
  injection hz1 with h0 h
  injection h with h1 h2
  exact ⟨i0, hi0, h0, h1, h2⟩
set_option maxRecDepth 100000 in
set_option maxHeartbeats 1000000 in
theorem grow_calls (n : Nat) (h0 : 0 < n) (hn : n ≤ 1000000000) (w : World) :
    Calls Try.prog 83 #[.slice none 0 0, .int .i64 n] w fun e w' => ∃ v, e = .returned v ∧ Kd.R (Kd.int .u8) 5 w' w.heap.size (fun _ => True) v ([] : List Int) ∧ Below w.heap.size w w' := by
  obtain ⟨i0, hi0, hz0, hzs, hzb⟩ := info_byte
  obtain ⟨G, hG⟩ : ∃ G, G = grownCap w n 0 5 := ⟨_, rfl⟩
  obtain ⟨ROW, hROW⟩ : ∃ ROW : Array Value, ROW = Builtin.zeroCells (Value.int .u8 0).cells n ++ Builtin.zeroCells (Value.int .u8 0).cells (G - n) := ⟨_, rfl⟩
  have hrz : ∀ ty, (Builtin.append_ #[26, 3] ty #[.slice none 0 0, .int .i64 (n : Int)]).run Try.prog w = .ok (.slice (some ⟨w.heap.size, 0, none⟩) n G) (w.drew.alloc (.cells ROW 5)) := fun ty => by
    have h := Lib.run_append_nil_zeros w 26 3 ty 5 i0 _ .i64 .i64 Try.underlying26 Try.underlying3 hi0 hz0 n h0 (by omega) (by omega) (by rw [hzb]; omega)
    rw [← hG, ← hROW] at h
    exact h
  have hGn : n ≤ G := by rw [hG]; exact grownCap_ge w _ _ _
  have hGm : G ≤ maxLen := by rw [hG]; exact grownCap_le_maxLen w n 0 5 (by unfold maxLen; omega)
  have hRs : ROW.size = G := by
    rw [hROW]
    simp [Builtin.zeroCells, Value.cells]
    omega
  obtain ⟨W1, hW1⟩ : ∃ W1, W1 = w.drew.alloc (.cells ROW 5) := ⟨_, rfl⟩
  rw [← hW1] at hrz
  have HR : Aside0 (Kd.R (Kd.int .u8) 5 W1 w.heap.size (fun _ => True) (.slice (some ⟨w.heap.size, 0, none⟩) 0 G) ([] : List Int)) :=
    ⟨⟨fun _ _ => trivial, [], ⟨by simp, .inr ⟨w.heap.size, G, ROW, rfl, Nat.le_refl _, by rw [hW1]; exact heap_alloc_new w.drew _, Nat.zero_le _, hGm, by rw [hRs]; exact (Nat.mul_one G).symm, by simp⟩⟩, Reps.none _ _⟩⟩
  have HB : Aside0 (Below w.heap.size w W1) := ⟨by rw [hW1]; exact below_alloc (below_drew (Below.refl _ _)) _⟩
  have hG63 : ¬ (G : Int) < 0 := by omega
  have hpos : decide ((0 : Int) < (n : Int)) = true := decide_eq_true (by omega)
  have hpos2 : decide (0 < n) = true := decide_eq_true h0
  have hpos3 : (0 < n) = True := eq_true h0
  have hneg : decide ((n : Int) < 0) = false := decide_eq_false (by omega)
  have hw64 : wrap64 (n : Int) = (n : Int) := by unfold wrap64; omega
  clear hROW hG hW1 hi0 hz0 hzs hzb h0
  go_enter Try.func83, Try.ntmps83
  have HRZ := Aside0.mk hrz
  clear hrz
  go_wp2_with ((with_reducible refine gate_builtin (b := .append) rfl ?_); refine append_eqL _ rfl (.tmp 20) (.tmp 21) 26 3 rfl (.slice none 0 0) (.int .i64 (n : Int)) rfl rfl (HRZ.out _) ?_)
  go_ret
  exact ⟨_, rfl, HR.out, HB.out⟩
/-- Two rows of bytes in a row. -/
def cat2 (l1 l2 : List Int) : Nat → List Int
  | 0 => []
  | 1 => l1
  | _ => l1 ++ l2
set_option maxRecDepth 100000 in
set_option maxHeartbeats 2000000 in
theorem concat_calls (g cL : Nat) (A1 A2 : Option Addr) (c1 c2 : Nat) (l1 l2 : List Int) (w : World) (hL : w.heap[g]? = some (.cells #[.slice A1 l1.length c1, .slice A2 l2.length c2] 26)) (hr1 : Kd.C (Kd.int .u8) w A1 l1.length l1) (hc1 : l1.length ≤ c1) (hr2 : Kd.C (Kd.int .u8) w A2 l2.length l2) (hc2 : l2.length ≤ c2) (h0 : 0 < l1.length + l2.length) (hn : l1.length + l2.length ≤ 1000000000) :
    Calls Try.prog 51 #[.slice (some ⟨g, 0, none⟩) 2 cL] w fun e w' => ∃ v, e = .returned v ∧ Kd.R (Kd.int .u8) 5 w' w.heap.size (fun _ => True) v (l1 ++ l2) ∧ Below w.heap.size w w' := by
  have hz0 : w.cell? ⟨g, 0, none⟩ = some (.slice A1 l1.length c1) := (blk_cell hL 0).trans rfl
  have hz1 : w.cell? ⟨g, 1, none⟩ = some (.slice A2 l2.length c2) := (blk_cell hL 1).trans rfl
  have HZ0 := Aside0.mk hz0
  have HZ1 := Aside0.mk hz1
  have HR1 := Aside0.mk hr1
  have HR2 := Aside0.mk hr2
  have HC1 := Aside0.mk hc1
  have HC2 := Aside0.mk hc2
  have HN := Aside0.mk hn
  have H0 := Aside0.mk h0
  clear hr1 hr2 hc1 hc2 hL
  have e01 : ((0 : Int) + 1) = 1 := rfl
  go_enter Try.func51, Try.ntmps51
  go_wp2
  go_loopg [3, 11] 2 (fun kq v3 v11 wr => ∃ j : Nat, Aside0 (j + kq = 2) ∧ v11 = .int .i64 (j : Int) ∧ v3 = .int .i64 ((cat2 l1 l2 j).length : Int) ∧ w = wr)
  case atStart => exact ⟨0, ⟨rfl⟩, rfl, rfl, rfl⟩
  case round =>
    obtain ⟨j, HJ, rfl, rfl, rfl⟩ := hrel
    have hJ := HJ.out
    by_cases hj2 : j = 2
    · subst hj2
      have hgk : gk = 0 := by omega
      subst hgk
      have hlen : (cat2 l1 l2 2).length = l1.length + l2.length := by simp [cat2]
      have hlen2 : ((cat2 l1 l2 2).length : Int) = ((l1.length + l2.length : Nat) : Int) := by rw [hlen]
      rw [hlen2]
      clear hlen hlen2 hz0 hz1 hJ hn h0
      obtain ⟨n, hn⟩ : ∃ n, n = l1.length + l2.length := ⟨_, rfl⟩
      rw [← hn]
      have HNN := Aside0.mk hn
      clear hn
      go_wp2_with (go_at_call 83; refine (grow_calls n (by have := HNN.out; have := H0.out; omega) (by have := HNN.out; have := HN.out; omega) _).mono ?_; rintro e w1 ⟨v1, rfl, hR, hb⟩; have HR := Aside0.mk hR; have HB := Aside0.mk hb; clear hR hb)
      go_loopg [6, 27] 2 (fun kq v6 v27 wr => ∃ j : Nat, Aside0 (j + kq = 2) ∧ v27 = .int .i64 (j : Int) ∧ Aside0 (Kd.R (Kd.int .u8) 5 wr w.heap.size (fun _ => True) v6 (cat2 l1 l2 j)) ∧ Aside0 (Below w.heap.size w wr))
      case atStart => exact ⟨0, ⟨rfl⟩, rfl, ⟨HR.out⟩, ⟨HB.out⟩⟩
      case round =>
        obtain ⟨j, HJ2, rfl, HR6, HB6⟩ := hrel
        clear HR HB
        have hJ := HJ2.out
        have hz0 := pw_cell_below HB6.out HZ0.out
        have hz1 := pw_cell_below HB6.out HZ1.out
        obtain ⟨A6, c6, e6⟩ := Kd.R_slice HR6.out
        subst e6
        by_cases hj2 : j = 2
        · subst hj2
          clear hz0 hz1 hJ
          go_wp2
          go_ret
          exact ⟨_, rfl, HR6.out, HB6.out⟩
        · by_cases hj1 : j = 1
          · subst hj1
            have hgk : gk = 1 := by omega
            subst hgk
            clear hJ hz0
            go_wp2_with ((with_reducible refine gate_builtin (b := .append) (xs := #[.tmp 31, .tmp 32]) rfl ?_); at_builtin; refine Kd.R_append_rows (Kd.int .u8) (w0 := w) w.heap.size rfl (.tmp 31) (.tmp 32) 26 5 (.int .u8 0) 1 rfl Try.underlying26 info5 rfl (by decide) (by omega) _ (cat2 l1 l2 1) l2 _ _ _ (fun _ => True) (fun _ => False) rfl rfl ?aO ?aR (fun _ _ h => h) (fun _ h => h.elim) ?aF ?aB ?aS ?aL ?_; (case aO => exact HR6.out); (case aR => exact Kd.C_below HR2.out HB6.out); (case aB => exact HB6.out); (case aF => exact (fun _ _ => trivial)); (case aS => exact HB6.out.size); (case aL => have := HN.out; show (l1.length + l2.length) * 1 ≤ _; omega); intro v7 w7 ho hb hg hat; have HO := Aside0.mk ho; have HB7 := Aside0.mk hb; clear ho hb hg hat)
            go_roundg 0
            case measure => exact Nat.lt_succ_self _
            case rel => exact ⟨2, ⟨rfl⟩, rfl, ⟨HO.out⟩, ⟨HB7.out⟩⟩
          · have hj0 : j = 0 := by omega
            subst hj0
            have hgk : gk = 2 := by omega
            subst hgk
            clear hJ hz1
            go_wp2_with ((with_reducible refine gate_builtin (b := .append) (xs := #[.tmp 31, .tmp 32]) rfl ?_); at_builtin; refine Kd.R_append_rows (Kd.int .u8) (w0 := w) w.heap.size rfl (.tmp 31) (.tmp 32) 26 5 (.int .u8 0) 1 rfl Try.underlying26 info5 rfl (by decide) (by omega) _ (cat2 l1 l2 0) l1 _ _ _ (fun _ => True) (fun _ => False) rfl rfl ?aO ?aR (fun _ _ h => h) (fun _ h => h.elim) ?aF ?aB ?aS ?aL ?_; (case aO => exact HR6.out); (case aR => exact Kd.C_below HR1.out HB6.out); (case aB => exact HB6.out); (case aF => exact (fun _ _ => trivial)); (case aS => exact HB6.out.size); (case aL => have := HN.out; show (0 + l1.length) * 1 ≤ _; omega); intro v7 w7 ho hb hg hat; have HO := Aside0.mk ho; have HB7 := Aside0.mk hb; clear ho hb hg hat)
            go_roundg 1
            case measure => exact Nat.lt_succ_self _
            case rel => exact ⟨1, ⟨rfl⟩, rfl, ⟨HO.out⟩, ⟨HB7.out⟩⟩
    · by_cases hj1 : j = 1
      · subst hj1
        have hgk : gk = 1 := by omega
        subst hgk
        have e1 : (cat2 l1 l2 1).length = l1.length := rfl
        have hs : wrap64 ((l1.length : Int) + (l2.length : Int)) = ((l1.length + l2.length : Nat) : Int) := by unfold wrap64; omega
        have hneg : decide (((l1.length + l2.length : Nat) : Int) < 0) = false := decide_eq_false (by omega)
        rw [e1]
        clear hJ hz0 h0
        go_wp2
        go_roundg 0
        case measure => exact Nat.lt_succ_self _
        case rel => exact ⟨2, ⟨rfl⟩, rfl, by simp [cat2, hs], rfl⟩
      · have hj0 : j = 0 := by omega
        subst hj0
        have hgk : gk = 2 := by omega
        subst hgk
        have e1 : (cat2 l1 l2 0).length = 0 := rfl
        have hs : wrap64 (l1.length : Int) = (l1.length : Int) := by unfold wrap64; omega
        have hneg : decide ((l1.length : Int) < 0) = false := decide_eq_false (by omega)
        rw [e1]
        clear hJ hz1 h0
        go_wp2
        go_roundg 1
        case measure => exact Nat.lt_succ_self _
        case rel => exact ⟨1, ⟨rfl⟩, rfl, by simp [cat2, hs], rfl⟩
end Go.Proofs.YtjcjfghcahbbmaaG

end

section
set_option linter.unusedVariables false
set_option linter.unusedSimpArgs false
namespace Go.Proofs.YtjcjfghcahbbmaaG
open Go Go.RowKit Go.Proofs.YtjcjfghcahbbmaaR Go.Proofs.YtjcjfghcahbbmaaL Go.Proofs.Ytjcjfghcahbbmaa.P Go.Proofs.YtjcjfghcahbbmaaW.PrintWords Go.Proofs.YtjcjfghcahbbmaaW.PrintMore
attribute [local go_sem] Oper.semAt_some

def MkB (base g : Nat) (s : BS) (W : World) : Prop := MkS base g s.b s.p s.m s.k W
/-- What is read in blocks ahead of n0 is read where those stay. -/
theorem F_stays {α : Type} {d : Kd α} {w W : World} {n0 g : Nat} {A : Option Addr} {n : Nat} {xs : List α} (h : Kd.F d w (fun k => k < n0) A n xs) (hs : Stays (fun k => k = g) w W) (hg : n0 ≤ g) (hgw : g < w.heap.size) : d.C W A n xs := h W (fun k hk _ => hs.block k (by omega) (by omega))
set_option maxRecDepth 100000 in
set_option maxHeartbeats 4000000 in
theorem each_calls (A : Option Addr) (c : Nat) (l : List En) (base g n0 : Nat) (w : World) (hF : Kd.F k59 w (fun k => k < n0) A l.length l) (hc : l.length ≤ c) (hn0 : n0 ≤ g) (hm : MkB base g BS.z w) (hbase : base ≤ w.heap.size) (hl : l.length ≤ 64) (ho : ∀ e ∈ l, OkE e) (hw : ∀ e ∈ l, WfN e) :
    Calls Try.prog 48 #[.slice A l.length c, .func (.func 49) #[.pointer (some ⟨g, 0, none⟩)] #[]] w fun x w' => (∃ u, x = .returned u) ∧ Stays (fun k => k = g) w w' ∧ MkB base g (bldS l) w' := by
  have HF := Aside0.mk hF
  have HC := Aside0.mk hc
  have HN0 := Aside0.mk hn0
  have HM0 := Aside0.mk hm
  have HBS := Aside0.mk hbase
  have HO := Aside0.mk ho
  have HW := Aside0.mk hw
  have HG := Aside0.mk (show g < w.heap.size from MkS.lt hm)
  have HLL := Aside0.mk hl
  clear hF hc hn0 hm hbase ho hw
  go_enter Try.func48, Try.ntmps48
  go_wp2
  go_loopg [8] l.length (fun kq v8 wr => ∃ k : Nat, v8 = .int .i64 (k : Int) ∧ Aside0 (k + kq = l.length) ∧ Aside0 (Stays (fun k => k = g) w wr) ∧ Aside0 (MkB base g (bldS (l.take k)) wr))
  case atStart => exact ⟨0, rfl, ⟨by omega⟩, ⟨Stays.refl _ _⟩, ⟨HM0.out⟩⟩
  case round =>
    obtain ⟨k, rfl, HK, HS, HM⟩ := hrel
    clear HM0
    by_cases hlt : k < l.length
    · cases gk with
      | zero => exact absurd HK.out (by omega)
      | succ k1 =>
        have hd1 : decide ((k : Int) < (l.length : Int)) = true := decide_eq_true (by omega)
        have hd2 : decide (k < l.length) = true := decide_eq_true hlt
        have hk1 : wrap64 ((k : Int) + 1) = ((k + 1 : Nat) : Int) := by unfold wrap64; omega
        obtain ⟨ad, e0, h0, h1, h2, h3⟩ := at_T59 (F_stays HF.out HS.out HN0.out HG.out) (k : Int) (by omega) (by omega)
        subst e0
        obtain ⟨e, he⟩ : ∃ e, e = l[k] := ⟨_, rfl⟩
        have hrd : rd_T59 l (k : Int) = e := by rw [he]; show l.getD ((k : Int)).toNat _ = _; rw [Int.toNat_natCast, List.getD_eq_getElem?_getD, List.getElem?_eq_getElem hlt]; rfl
        rw [hrd] at h0 h1 h2 h3
        simp only [Int.toNat_natCast] at h0 h1 h2 h3
        have hoe : OkE e := by rw [he]; exact HO.out _ (List.getElem_mem hlt)
        have hwe : WfN e := by rw [he]; exact HW.out _ (List.getElem_mem hlt)
        have htk : l.take (k + 1) = l.take k ++ [e] := by rw [he, List.take_succ_eq_append_getElem hlt]
        obtain ⟨p1, p2, p3, p4, p5, _⟩ := hoe.parts
        obtain ⟨b1, _, b3⟩ := bldS_len (l.take k) (fun x hx => HO.out x (List.mem_of_mem_take hx)) (fun x hx => HW.out x (List.mem_of_mem_take hx))
        have hlk : (l.take k).length ≤ 64 := by rw [List.length_take]; omega
        have hmm : (bldS (l.take k)).m ≤ 1000 := by rw [bldS_m]; omega
        have hks : (keyAt (bldS (l.take k)).m (bldS (l.take k)).k).size ≤ 1000000 := by
          unfold keyAt
          split
          · exact Nat.zero_le _
          · refine rev_ind (P := fun q => (∀ x ∈ q, OkE x) → (bldS q).k.size ≤ 1000000) (fun _ => Nat.zero_le _) (fun q x _ hq => ?_) (l.take k) (fun x hx => HO.out x (List.mem_of_mem_take hx))
            rw [bldS_snoc]
            have := (hq x (by simp)).parts.2.1
            show x.f0.f0.size ≤ _
            omega
        have HPUT : Aside0 (∀ W, MkB base g (bldS (l.take k)) W → base ≤ W.heap.size → Calls Try.prog 49 #[.pointer (some ⟨g, 0, none⟩), .agg #[.string e.f0.f0, .int .u64 e.f0.f1, .int .u8 e.f0.f2, .string e.f1]] W fun x w' => (∃ u, x = .returned u) ∧ Stays (fun k => k = g) W w' ∧ MkB base g (bldS (l.take (k + 1))) w') := ⟨fun W hMW hbW => by
          rw [htk, bldS_snoc]
          exact put_calls base g _ _ _ _ e _ W hMW hbW (by omega) (by omega) hmm (by omega) (by omega) hwe.1 p3 hwe.2 p4 (com_k hks (by omega)) (com_le _ _).2⟩
        clear he hrd hoe hwe htk p1 p2 p3 p4 p5 b1 b3 hlk hmm hks
        go_wp2_with (go_at_call 49; refine (HPUT.out _ ((HM.out).below (below_alloc (Below.refl _ _) _)) (by have := HBS.out; have := HS.out.size; simp; omega)).mono ?_; rintro x w1 ⟨⟨u, rfl⟩, hS1, hM1⟩; have HS1 := Aside0.mk hS1; have HM1 := Aside0.mk hM1; clear hS1 hM1)
        go_roundg k1
        case measure => exact Nat.lt_succ_self _
        case rel => exact ⟨k + 1, by first | rfl | rw [hk1], ⟨by have := HK.out; omega⟩, ⟨HS.out.trans ((Stays.alloc _ _ _).trans HS1.out)⟩, HM1⟩
    · have hd1 : decide ((k : Int) < (l.length : Int)) = false := decide_eq_false (by omega)
      have hd2 : decide (k < l.length) = false := decide_eq_false hlt
      have hkl : l.take k = l := List.take_of_length_le (by omega)
      have HKL := Aside0.mk hkl
      clear hlt hkl
      go_wp2
      go_end0
      refine ⟨⟨_, rfl⟩, HS.out, ?_⟩
      have := HM.out
      rw [HKL.out] at this
      exact this
set_option maxRecDepth 100000 in
set_option maxHeartbeats 4000000 in
/-- A right list: its bytes. -/
theorem build_yes (A0 : Option Addr) (c0 : Nat) (l : List En) (w : World) (hr0 : Kd.C k59 w A0 l.length l) (hc0 : l.length ≤ c0) (hw : ∀ e ∈ l, WfN e) (hk : okEs l = true) :
    Calls Try.prog 22 #[.slice A0 l.length c0] w fun e w' => ∃ v0_ : Value, e = .returned (.tuple #[v0_, .int .i64 0]) ∧ Kd.R (Kd.int .u8) 5 w' w.heap.size (fun _ => True) v0_ (formB l) ∧ Below w.heap.size w w' := by
  obtain ⟨k1, k2, k3, k4⟩ := okEs_parts hk
  obtain ⟨b1, b2, b3⟩ := bldS_len l k3 hw
  have hmm := bldS_m l
  have hu3 := Try.underlying88
  have HRT := Aside0.mk (fun W (hW : Below w.heap.size w W) => block_right.calls 200 A0 c0 l true W (Kd.C_below hr0 hW) hc0 (by rw [bright_f l 0, hk]))
  have HC0 := Aside0.mk hr0
  have HCC := Aside0.mk hc0
  have HO := Aside0.mk k3
  have HW := Aside0.mk hw
  have HL := Aside0.mk k2
  have HL0 := Aside0.mk k1
  obtain ⟨s, hs⟩ : ∃ s, s = bldS l := ⟨_, rfl⟩
  rw [← hs] at b1 b2 b3 hmm
  have HSS := Aside0.mk hs
  obtain ⟨r, hr⟩ : ∃ r, r = (l.length + 3) / 4 := ⟨_, rfl⟩
  obtain ⟨q, hq⟩ : ∃ q, q = s.b ++ s.p := ⟨_, rfl⟩
  obtain ⟨q2, hq2⟩ : ∃ q2, q2 = q ++ four r := ⟨_, rfl⟩
  have hfm : formB l = q2 := by rw [formB, outF, ← hs, hmm, hq2, hq, hr]
  rw [hfm]
  have HRR := Aside0.mk hr
  have HQ := Aside0.mk hq
  have HQ2 := Aside0.mk hq2
  clear hr hq hq2
  have HMM := Aside0.mk hmm
  have HB1 := Aside0.mk b1
  have HB2 := Aside0.mk b2
  have HB3 := Aside0.mk b3
  clear hr0 hc0 hw hk k1 k2 k3 k4 b1 b2 b3 hmm hs hfm
  go_enter Try.func22, Try.ntmps22
  go_upto_region 3 with (go_at_call 47; refine (HRT.out _ (Below.refl _ _)).mono ?_; rintro e w1 ⟨rfl, hd⟩; have HD1 := Aside0.mk hd; clear hd)
  have HM0 : Aside0 (MkB w.heap.size w1.heap.size BS.z (w1.alloc (mkBx none 0 0 none 0 0 0 ⟨#[]⟩))) := ⟨⟨none, 0, none, 0, World.alloc_heap_new w1 _, Kd.R_nil _ _ _ _ _, Kd.R_nil _ _ _ _ _⟩⟩
  have HF : Aside0 (Kd.F k59 (w1.alloc (mkBx none 0 0 none 0 0 0 ⟨#[]⟩)) (fun k => k < w.heap.size) A0 l.length l) := ⟨Kd.F_below (Kd.C_F k59_heap HC0.out) (below_alloc HD1.out _)⟩
  have HD2 : Aside0 (Below w.heap.size w (w1.alloc (mkBx none 0 0 none 0 0 0 ⟨#[]⟩))) := ⟨below_alloc HD1.out _⟩
  go_upto_region 5 with (go_at_call 48; refine (each_calls A0 c0 l w.heap.size w1.heap.size w.heap.size _ HF.out HCC.out HD1.out.size HM0.out HD2.out.size HL.out HO.out HW.out).mono ?_; rintro x w2 ⟨⟨u, rfl⟩, hS, hM⟩; have HS2 := Aside0.mk hS; have HM2 := Aside0.mk hM; clear hS hM)
  have HD3 : Aside0 (Below w.heap.size w w2) := ⟨⟨HS2.out.os.trans HD2.out.os, HS2.out.tape.trans HD2.out.tape, HS2.out.output.trans HD2.out.output, Nat.le_trans HD2.out.size HS2.out.size, fun k hk => (HS2.out.block k (by have := HD2.out.size; omega) (by have := HD1.out.size; show k ≠ w1.heap.size; omega)).trans (HD2.out.block k hk)⟩⟩
  rw [← HSS.out] at HM2
  obtain ⟨A, cA, B, cB, h1, h2, h3⟩ := HM2.out
  have hz0 : w2.cell? ⟨w1.heap.size, 0, none⟩ = some (.slice A s.b.length cA) := (blk_cell h1 0).trans rfl
  have hz1 : w2.cell? ⟨w1.heap.size, 1, none⟩ = some (.slice B s.p.length cB) := (blk_cell h1 1).trans rfl
  have hz2 : w2.cell? ⟨w1.heap.size, 2, none⟩ = some (.int .i64 (s.m : Int)) := (blk_cell h1 2).trans rfl
  have HRA := Aside0.mk h2
  have HRB := Aside0.mk h3
  clear h1 h2 h3
  have hm := HMM.out
  have hl := HL.out
  have hl0 := HL0.out
  rw [hm] at hz2
  have e1 : IntKind.i64.wrap ((l.length : Int) + 4) = ((l.length + 4 : Nat) : Int) := by rw [IntKind.wrap_i64]; omega
  have e2 : IntKind.i64.wrap (((l.length + 4 : Nat) : Int) - 1) = ((l.length + 3 : Nat) : Int) := by rw [IntKind.wrap_i64]; omega
  have e1' : wrap64 ((l.length : Int) + 4) = ((l.length + 4 : Nat) : Int) := by unfold wrap64; omega
  have e2' : wrap64 (((l.length + 4 : Nat) : Int) - 1) = ((l.length + 3 : Nat) : Int) := by unfold wrap64; omega
  clear hm
  go_upto_region 6 with (fail)
  have er : ((l.length : Int) + 4 - 1) / 4 = (r : Int) := by have := HRR.out; omega
  rw [er]
  have hq := HQ.out
  have hw32 : IntKind.u32.wrap (r : Int) = (r : Int) := by have := HRR.out; show (r : Int) % 4294967296 = _; omega
  have hql : q.length ≤ 1000000 := by rw [hq, List.length_append]; have := HB1.out; have := HB3.out; omega
  have HPF : Aside0 (nums_PutFour.f q (r : Int) = some q2) := ⟨by rw [HQ2.out]; exact putFour_f (by have := HRR.out; omega) (by omega)⟩
  clear er hq e1 e2 e1' e2' hz2
  go_wp2
  go_region_law (first
    | (go_simp; go_at_call 51; refine (concat_calls w2.heap.size _ A B cA cB s.b s.p (w2.alloc (.cells #[.slice A s.b.length cA, .slice B s.p.length cB] 26)).drew (World.alloc_heap_new w2 _) (Kd.C_below (Kd.R_reads' HRA.out).2.2 (below_drew (below_alloc (Below.refl _ _) _))) (Kd.R_reads' HRA.out).2.1 (Kd.C_below (Kd.R_reads' HRB.out).2.2 (below_drew (below_alloc (Below.refl _ _) _))) (Kd.R_reads' HRB.out).2.1 (by have := HB2.out; omega) (by have := HB1.out; have := HB3.out; omega)).mono ?_; rintro x w3 ⟨v3, rfl, hv, hd⟩; rw [← HQ.out] at hv; obtain ⟨A3, c3, hvv⟩ := Kd.R_slice hv; subst hvv; have HV3 := Aside0.mk hv; have HD4 := Aside0.mk (below_then HD3.out HD3.out.size (below_then (below_alloc (Below.refl w2.heap.size w2) _) (by simp) (Below.trans_drew hd))); clear hv hd)
    | (go_simp; go_at_call 50; (with_reducible refine (nums_PutFour.calls A3 c3 q (r : Int) q2 _ (Kd.R_reads' HV3.out).2.2 (Kd.R_reads' HV3.out).2.1 HPF.out).mono ?_); rintro x w4 ⟨v4, rfl, hv, hd⟩; have HV4 := Aside0.mk (Kd.R_lower hv HD4.out.size); have HD5 := Aside0.mk (below_then HD4.out HD4.out.size hd); clear hv hd))
  all_goals
    go_wp2
    go_ret2
    exact ⟨_, rfl, HV4.out, HD5.out⟩
theorem build_no (A0 : Option Addr) (c0 : Nat) (l : List En) (w : World) (hr0 : Kd.C k59 w A0 l.length l) (hc0 : l.length ≤ c0) (hk : okEs l = false) :
    Calls Try.prog 22 #[.slice A0 l.length c0] w fun e w' => ∃ v0_ : Value, e = .returned (.tuple #[v0_, .int .i64 70]) ∧ Kd.R (Kd.int .u8) 5 w' w.heap.size (fun _ => True) v0_ ([] : List Int) ∧ Below w.heap.size w w' := by
  have HRT := Aside0.mk (block_right.calls 200 A0 c0 l false w hr0 hc0 (by rw [bright_f l 0, hk]))
  clear hr0 hc0 hk
  go_enter Try.func22, Try.ntmps22
  go_wp2_with (go_at_call 47; refine HRT.out.mono ?_; rintro e w1 ⟨rfl, hd⟩; have HD1 := Aside0.mk hd; clear hd)
  go_ret2
  exact ⟨_, rfl, Kd.R_nil _ _ _ _ _, HD1.out⟩
theorem block_Build.calls (A0 : Option Addr) (c0 : Nat) (l0 : List En) (r1 : List Int) (r2 : Int) (w : World) (hr0 : Kd.C k59 w A0 l0.length l0) (hc0 : l0.length ≤ c0) (h : block_Build.f l0 = some (r1, r2)) :
    Calls Try.prog 22 #[.slice A0 l0.length c0] w fun e w' => ∃ v0_ : Value, e = .returned (.tuple #[v0_, .int .i64 r2]) ∧ Kd.R (Kd.int .u8) 5 w' w.heap.size (fun _ => True) v0_ r1 ∧ Below w.heap.size w w' := by
  unfold block_Build.f at h
  by_cases hw : l0.length ≤ 1000000 ∧ (∀ e ∈ l0, WfN e)
  · rw [if_pos hw] at h
    have h := Option.some.inj h
    cases hk : okEs l0 with
    | true =>
      rw [hk, if_pos rfl] at h
      simp only [Prod.mk.injEq] at h
      obtain ⟨rfl, rfl⟩ := h
      exact build_yes A0 c0 l0 w hr0 hc0 hw.2 hk
    | false =>
      rw [hk, if_neg (by decide)] at h
      simp only [Prod.mk.injEq] at h
      obtain ⟨rfl, rfl⟩ := h
      exact build_no A0 c0 l0 w hr0 hc0 hk
  · rw [if_neg hw] at h
    cases h
end Go.Proofs.YtjcjfghcahbbmaaG

end

section
namespace Go.Proofs.Ytjcjfghcahbbmaa.P
open Go.RowKit Go.Proofs.YtjcjfghcahbbmaaG Go.Proofs.YtjcjfghcahbbmaaW.PrintWords Go.Proofs.YtjcjfghcahbbmaaW.PrintLast Go.Proofs.YtjcjfghcahbbmaaW.PrintMore
attribute [local go_sem] str_gtr str_geq str_leq max2_int min2_int max_two min_two max_three min_three max_four min_four   -- for this text's walks alone
set_option linter.unusedVariables false
set_option linter.unusedSimpArgs false

def block_Parse.j0 : Nat → List Int → Int → Bool → Option ((List (S59)) × Int)
 | 0,_,_,_=>none
 | k + 1,x0,x7,x36=>if x36 = true then (some (([] : List (S59)),70)) else (if 0 ≤ x7 then (if x7 ≤ (x0.length : Int) then ((block_entries.f k (x0.take (x7 : Int).toNat)).bind fun bt210=>((block_Build.f bt210.1).bind fun bt214=>(if bt210.2 = true then (if bt214.2 = 0 then ((bytes_Equal.f bt214.1 x0).bind fun t218=>(if t218 = true then (some (bt210.1,0)) else (some (([] : List (S59)),70)))) else (some (([] : List (S59)),70))) else (some (([] : List (S59)),70))))) else (none)) else (none))
def block_Parse.f (k : Nat) (l0 : List Int) : Option ((List (S59)) × Int):=if 0 ≤ (mx (wrap64 ((l0.length : Int) - 4)) 0) then (if (mx (wrap64 ((l0.length : Int) - 4)) 0) ≤ (l0.length : Int) then ((nums_TakeFour.f (l0.drop ((mx (wrap64 ((l0.length : Int) - 4)) 0) : Int).toNat)).bind fun bt204=>(if bt204.2.2 = true then (block_Parse.j0 k l0 (wrap64 ((wrap64 ((l0.length : Int) - 4)) - (wrap64 (4 * (wrap64 (mn bt204.1 64)))))) (decide ((wrap64 ((wrap64 ((l0.length : Int) - 4)) - (wrap64 (4 * (wrap64 (mn bt204.1 64)))))) < 0))) else (block_Parse.j0 k l0 (wrap64 ((wrap64 ((l0.length : Int) - 4)) - (wrap64 (4 * (wrap64 (mn bt204.1 64)))))) true))) else (none)) else (none)
set_option maxHeartbeats 8000000 in
set_option maxRecDepth 100000 in
theorem block_Parse.calls (k : Nat) (A0 : Option Addr) (c0 : Nat) (l0 : List Int) (r1 : List (S59)) (r2 : Int) (w : World) (hr0 : Kd.C (Kd.int .u8) w A0 l0.length l0) (hc0 : l0.length ≤ c0) (h : block_Parse.f k l0 = some (r1,r2)) :
  Calls Try.prog 24 #[.slice A0 l0.length c0] w fun e w'=>∃ v0_ : Value,e = .returned (.tuple #[v0_,.int .i64 r2]) ∧ Kd.R k59 59 w' w.heap.size (fun _=>True) v0_ r1 ∧ Below w.heap.size w w':=by
 have HR0:=Aside0.mk hr0
 have HC0:=Aside0.mk hc0
 clear hr0 hc0
 have HB:=Aside0.mk (Below.refl w.heap.size w)
 have H : (if 0 ≤ (mx (wrap64 ((l0.length : Int) - 4)) 0) then (if (mx (wrap64 ((l0.length : Int) - 4)) 0) ≤ (l0.length : Int) then ((nums_TakeFour.f (l0.drop ((mx (wrap64 ((l0.length : Int) - 4)) 0) : Int).toNat)).bind fun bt204=>(if bt204.2.2 = true then (block_Parse.j0 k l0 (wrap64 ((wrap64 ((l0.length : Int) - 4)) - (wrap64 (4 * (wrap64 (mn bt204.1 64)))))) (decide ((wrap64 ((wrap64 ((l0.length : Int) - 4)) - (wrap64 (4 * (wrap64 (mn bt204.1 64)))))) < 0))) else (block_Parse.j0 k l0 (wrap64 ((wrap64 ((l0.length : Int) - 4)) - (wrap64 (4 * (wrap64 (mn bt204.1 64)))))) true))) else (none)) else (none)) = some (r1,r2):=h
 clear h
 obtain ⟨ji2,hji2⟩ : ∃ j_ : Int,(mx (wrap64 ((l0.length : Int) - 4)) 0) = j_:=⟨_,rfl⟩
 replace H : (if 0 ≤ (ji2) then (if (ji2) ≤ (l0.length : Int) then ((nums_TakeFour.f (l0.drop ((ji2) : Int).toNat)).bind fun bt204=>(if bt204.2.2 = true then (block_Parse.j0 k l0 (wrap64 ((wrap64 ((l0.length : Int) - 4)) - (wrap64 (4 * (wrap64 (mn bt204.1 64)))))) (decide ((wrap64 ((wrap64 ((l0.length : Int) - 4)) - (wrap64 (4 * (wrap64 (mn bt204.1 64)))))) < 0))) else (block_Parse.j0 k l0 (wrap64 ((wrap64 ((l0.length : Int) - 4)) - (wrap64 (4 * (wrap64 (mn bt204.1 64)))))) true))) else (none)) else (none)) = some (r1,r2):=by first|(rw [hji2] at H;exact H)|(simp only [hji2] at H ⊢;exact H)
 (try (have hji2l : 0 ≤ ji2:=by (rw [← hji2];unfold mx;(repeat' split) <;> omega)))
 (try (have hji2m : 0 ≤ ji2:=by omega))
 have hji2_ : (if (wrap64 ((l0.length : Int) - 4)) < 0 then 0 else (wrap64 ((l0.length : Int) - 4))) = ji2:=hji2
 by_cases c3 : 0 ≤ (ji2)
 ·rw [if_pos c3] at H
  have c3b0:=eq_true c3
  have c3b1 : decide (0 ≤ (ji2)) = true:=decide_eq_true c3
  clear c3
  by_cases c4 : (ji2) ≤ (l0.length : Int)
  ·rw [if_pos c4] at H
   have c4b0:=eq_true c4
   have c4b1 : decide ((ji2) ≤ (l0.length : Int)) = true:=decide_eq_true c4
   clear c4
   replace H:=Option.bind_eq_some_iff.mp H
   obtain ⟨⟨t204,t205,t206⟩,A50,H⟩:=H
   replace H : (if t206 = true then (block_Parse.j0 k l0 (wrap64 ((wrap64 ((l0.length : Int) - 4)) - (wrap64 (4 * (wrap64 (mn t204 64)))))) (decide ((wrap64 ((wrap64 ((l0.length : Int) - 4)) - (wrap64 (4 * (wrap64 (mn t204 64)))))) < 0))) else (block_Parse.j0 k l0 (wrap64 ((wrap64 ((l0.length : Int) - 4)) - (wrap64 (4 * (wrap64 (mn t204 64)))))) true)) = some (r1,r2):=H
   have A5:=Aside0.mk A50
   clear A50
   obtain ⟨ji6,hji6⟩ : ∃ j_ : Int,(mn t204 64) = j_:=⟨_,rfl⟩
   replace H : (if t206 = true then (block_Parse.j0 k l0 (wrap64 ((wrap64 ((l0.length : Int) - 4)) - (wrap64 (4 * (wrap64 (ji6)))))) (decide ((wrap64 ((wrap64 ((l0.length : Int) - 4)) - (wrap64 (4 * (wrap64 (ji6)))))) < 0))) else (block_Parse.j0 k l0 (wrap64 ((wrap64 ((l0.length : Int) - 4)) - (wrap64 (4 * (wrap64 (ji6)))))) true)) = some (r1,r2):=by first|(rw [hji6] at H;exact H)|(simp only [hji6] at H ⊢;exact H)
   (try rw [hji6] at A5)
   (try (have hji6h : ji6 ≤ 64:=by (rw [← hji6];unfold mn;(repeat' split) <;> omega)))
   (try (have hji6g : ji6 ≤ 64:=by omega))
   have hji6_ : (if 64 < t204 then 64 else t204) = ji6:=hji6
   have HC7:=Aside0.mk H
   clear H
   obtain ⟨i08,hi08,_,hsz8,_⟩:=info_parts info5
   obtain ⟨A8,hcut8,hA8,hC8⟩:=print_drop_of (P:=Try.prog) (Value.int .u8) 0 26 5 .i64 Try.underlying26 hi08 hsz8 A0 c0 l0 (ji2) (of_decide_eq_true (by first|(with_reducible assumption)|assumption)) (of_decide_eq_true (by first|(with_reducible assumption)|assumption)) HC0.out
   have HR203:=Aside0.mk (Kd.C_of_reads (h1:=fun _=>rfl) (hA8 _ (Kd.reads_of_C HR0.out)))
   have HC203:=Aside0.mk hC8
   clear hA8 hC8 hi08 hsz8
   go_enter Try.func24,Try.ntmps24
   go_upto_region 3 with (first|((with_reducible refine gate_callee (f:=57) rfl ?_);refine goesL_ (some 19) rfl rfl Try.func57 (by kernel_rfl) rfl #[.slice A8 (l0.drop ((ji2) : Int).toNat).length (c0 - (ji2).toNat)] rfl (by (try simp only [List.map_toArray,List.map_cons,List.map_nil]);first|done|(rw [show (l0.drop ((ji2) : Int).toNat).length = (l0.length - (ji2).toNat) from List.length_drop] <;> rfl)|(simp only [hji2];rfl)|rfl|(simp only [List.length_drop,List.length_take];rfl)) ?_;(with_reducible refine (nums_TakeFour.calls _ _ (l0.drop ((ji2) : Int).toNat) t204 t205 t206 _ ?side1 ?side2 A5.out).mono ?_);(case side1=>repeat (first|exact HR203.out|(with_reducible refine Kd.C_alloc ?_ _)|(with_reducible refine Kd.C_drewN ?_ _)|(with_reducible refine Kd.C_drew ?_)));(case side2=>exact HC203.out);rintro e w9 ⟨v207,rfl,ho0,hb⟩;refine ⟨_,rfl,?_⟩;have n0_:=Aside0.mk (Kd.R_lower ho0 (below_size (by repeat (first|(with_reducible first|exact HB.out|apply below_alloc|apply pw_below_drewN|apply below_drew1)|exact HB.out))));have n1_:=Aside0.mk (below_step (by repeat (first|(with_reducible first|exact HB.out|apply below_alloc|apply pw_below_drewN|apply below_drew1)|exact HB.out)) hb);clear HB;have HO208:=n0_;have HB:=n1_;clear n0_ n1_;(try clear hb);(try clear hb2);(try clear hk);(try clear hi);(try clear ho0)))
   (try simp only [Act.put,List.setIfInBounds_toArray,List.set_cons_zero,List.set_cons_succ])
   go_cut [36] (fun v36 wc=>∃ (kq : Nat) (x36_6 : Bool),v36 = .bool x36_6 ∧ Aside0 (block_Parse.j0 kq l0 (wrap64 ((wrap64 ((l0.length : Int) - 4)) - (wrap64 (4 * (wrap64 (ji6)))))) x36_6 = some (r1,r2)) ∧ Aside0 (kq ≤ k) ∧ Aside0 (Below w.heap.size w wc))
   case first =>
    have H:=HC7.out
    clear HC7
    by_cases c10 : t206 = true
    ·subst c10
     have H1 : (block_Parse.j0 k l0 (wrap64 ((wrap64 ((l0.length : Int) - 4)) - (wrap64 (4 * (wrap64 (ji6)))))) (decide ((wrap64 ((wrap64 ((l0.length : Int) - 4)) - (wrap64 (4 * (wrap64 (ji6)))))) < 0))) = some (r1,r2):=by rw [if_pos rfl] at H;exact H
     clear H
     have H:=H1
     clear H1
     have H':=Aside0.mk H
     clear H
     go_wp2
     go_meet
     case rel=>exact ⟨_,(decide ((wrap64 ((wrap64 ((l0.length : Int) - 4)) - (wrap64 (4 * (wrap64 (ji6)))))) < 0)),(by first|rfl|(simp;done)|(simp only [← hji6] <;> (first|rfl|simp))|(simp [*];done)),H',⟨by first|omega|exact Nat.le_refl _⟩,⟨by repeat (first|(with_reducible first|exact HB.out|apply below_alloc|apply pw_below_drewN|apply below_drew1)|exact HB.out)⟩⟩
    ·replace c10:=Bool.eq_false_iff.mpr c10
     subst c10
     have H1 : (block_Parse.j0 k l0 (wrap64 ((wrap64 ((l0.length : Int) - 4)) - (wrap64 (4 * (wrap64 (ji6)))))) true) = some (r1,r2):=by rw [if_neg (show ¬ (false = true) by decide)] at H;exact H
     clear H
     have H:=H1
     clear H1
     have H':=Aside0.mk H
     clear H
     go_wp2
     go_meet
     case rel=>exact ⟨_,(true),(by first|rfl|(simp;done)|(simp [*];done)),H',⟨by first|omega|exact Nat.le_refl _⟩,⟨by repeat (first|(with_reducible first|exact HB.out|apply below_alloc|apply pw_below_drewN|apply below_drew1)|exact HB.out)⟩⟩
   case rest =>
    clear HC7
    try clear c1
    try clear c2
    try clear p2
    try clear c3
    try clear c3b0
    try clear c3b1
    try clear c4
    try clear c4b0
    try clear c4b1
    try clear c5
    try clear p6
    try clear c10
    obtain ⟨kq,x36_6,rfl,HA,HJ6,HB⟩:=hcut
    cases kq with
    | zero=>exact absurd HA.out (by simp [block_Parse.j0])
    | succ kj6 =>
     have H:=HA.out
     clear HA
     simp only [block_Parse.j0] at H
     by_cases c11 : x36_6 = true
     ·subst c11
      have H1 : (some (([] : List (S59)),70)) = some (r1,r2):=by rw [if_pos rfl] at H;exact H
      clear H
      have H:=H1
      clear H1
      simp only [Option.some.injEq,Prod.mk.injEq] at H
      obtain ⟨rfl,rfl⟩:=H
      go_wp2
      go_ret2
      exact ⟨_,by first|rfl|(simp [errW_none,errW_some] <;> rfl)|(simp only [← hji2,← hji6];first|rfl|(simp [errW_none,errW_some] <;> rfl))|(simp [*,errW_none,errW_some] <;> rfl),by first|exact Kd.R_nil _ _ _ _ _|exact Kd.N_nil _ _ _ _ _|exact Kd.V_nil _ _ _ _ _|exact Kd.Q_nil _ _ _ _ _|exact Kd.S_nil _ _ _ _ _,by repeat (first|(with_reducible first|exact HB.out|apply below_alloc|apply pw_below_drewN|apply below_drew1)|exact HB.out)⟩
     ·replace c11:=Bool.eq_false_iff.mpr c11
      subst c11
      have H1 : (if 0 ≤ (wrap64 ((wrap64 ((l0.length : Int) - 4)) - (wrap64 (4 * (wrap64 (ji6)))))) then (if (wrap64 ((wrap64 ((l0.length : Int) - 4)) - (wrap64 (4 * (wrap64 (ji6)))))) ≤ (l0.length : Int) then ((block_entries.f kj6 (l0.take ((wrap64 ((wrap64 ((l0.length : Int) - 4)) - (wrap64 (4 * (wrap64 (ji6)))))) : Int).toNat)).bind fun bt210=>((block_Build.f bt210.1).bind fun bt214=>(if bt210.2 = true then (if bt214.2 = 0 then ((bytes_Equal.f bt214.1 l0).bind fun t218=>(if t218 = true then (some (bt210.1,0)) else (some (([] : List (S59)),70)))) else (some (([] : List (S59)),70))) else (some (([] : List (S59)),70))))) else (none)) else (none)) = some (r1,r2):=by rw [if_neg (show ¬ (false = true) by decide)] at H;exact H
      clear H
      have H:=H1
      clear H1
      obtain ⟨ji12,hji12⟩ : ∃ j_ : Int,(wrap64 ((wrap64 ((l0.length : Int) - 4)) - (wrap64 (4 * (wrap64 (ji6)))))) = j_:=⟨_,rfl⟩
      replace H : (if 0 ≤ (ji12) then (if (ji12) ≤ (l0.length : Int) then ((block_entries.f kj6 (l0.take ((ji12) : Int).toNat)).bind fun bt210=>((block_Build.f bt210.1).bind fun bt214=>(if bt210.2 = true then (if bt214.2 = 0 then ((bytes_Equal.f bt214.1 l0).bind fun t218=>(if t218 = true then (some (bt210.1,0)) else (some (([] : List (S59)),70)))) else (some (([] : List (S59)),70))) else (some (([] : List (S59)),70))))) else (none)) else (none)) = some (r1,r2):=by first|(rw [hji12] at H;exact H)|(simp only [hji12] at H ⊢;exact H)
      have hji12w : (IntKind.i64.wrap ((wrap64 ((l0.length : Int) - 4)) - (wrap64 (4 * (wrap64 (ji6)))))) = ji12:=(i64_w _).trans hji12
      by_cases c13 : 0 ≤ (ji12)
      ·rw [if_pos c13] at H
       have c13b0:=eq_true c13
       have c13b1 : decide (0 ≤ (ji12)) = true:=decide_eq_true c13
       clear c13
       by_cases c14 : (ji12) ≤ (l0.length : Int)
       ·rw [if_pos c14] at H
        have c14b0:=eq_true c14
        have c14b1 : decide ((ji12) ≤ (l0.length : Int)) = true:=decide_eq_true c14
        clear c14
        replace H:=Option.bind_eq_some_iff.mp H
        obtain ⟨⟨t210,t213⟩,A150,H⟩:=H
        replace H : ((block_Build.f t210).bind fun bt214=>(if t213 = true then (if bt214.2 = 0 then ((bytes_Equal.f bt214.1 l0).bind fun t218=>(if t218 = true then (some (t210,0)) else (some (([] : List (S59)),70)))) else (some (([] : List (S59)),70))) else (some (([] : List (S59)),70)))) = some (r1,r2):=H
        have A15:=Aside0.mk A150
        clear A150
        replace H:=Option.bind_eq_some_iff.mp H
        obtain ⟨⟨t214,t215⟩,A160,H⟩:=H
        replace H : (if t213 = true then (if t215 = 0 then ((bytes_Equal.f t214 l0).bind fun t218=>(if t218 = true then (some (t210,0)) else (some (([] : List (S59)),70)))) else (some (([] : List (S59)),70))) else (some (([] : List (S59)),70))) = some (r1,r2):=H
        have A16:=Aside0.mk A160
        clear A160
        by_cases c17 : t213 = true
        ·subst c17
         have H1 : (if t215 = 0 then ((bytes_Equal.f t214 l0).bind fun t218=>(if t218 = true then (some (t210,0)) else (some (([] : List (S59)),70)))) else (some (([] : List (S59)),70))) = some (r1,r2):=by rw [if_pos rfl] at H;exact H
         clear H
         have H:=H1
         clear H1
         by_cases c18 : t215 = 0
         ·rw [if_pos c18] at H
          have c18b0 : (t215 == 0) = true:=beq_iff_eq.mpr c18
          have c18b1 : (t215 != 0) = false:=bne_eq_false_iff_eq.mpr c18
          clear c18
          replace H:=Option.bind_eq_some_iff.mp H
          obtain ⟨t218,A190,H⟩:=H
          replace H : (if t218 = true then (some (t210,0)) else (some (([] : List (S59)),70))) = some (r1,r2):=H
          have A19:=Aside0.mk A190
          clear A190
          by_cases c20 : t218 = true
          ·subst c20
           have H1 : (some (t210,0)) = some (r1,r2):=by rw [if_pos rfl] at H;exact H
           clear H
           have H:=H1
           clear H1
           simp only [Option.some.injEq,Prod.mk.injEq] at H
           obtain ⟨rfl,rfl⟩:=H
           obtain ⟨i021,hi021,_,hsz21,_⟩:=info_parts info5
           obtain ⟨hcut21,hA21,hC21⟩:=print_take_of (P:=Try.prog) (Value.int .u8) 0 26 5 .i64 Try.underlying26 hi021 hsz21 A0 c0 l0 (ji12) (of_decide_eq_true (by first|(with_reducible assumption)|assumption)) (of_decide_eq_true (by first|(with_reducible assumption)|assumption)) HC0.out
           have HR209:=Aside0.mk (Kd.C_of_reads (h1:=fun _=>rfl) (hA21 _ (Kd.reads_of_C HR0.out)))
           have HC209:=Aside0.mk hC21
           clear hA21 hC21 hi021 hsz21
           go_wp2_with (first|((with_reducible refine gate_callee (f:=58) rfl ?_);refine goesL_ (some 41) rfl rfl Try.func58 (by kernel_rfl) rfl #[.slice A0 (l0.take ((ji12) : Int).toNat).length c0] rfl (by (try simp only [List.map_toArray,List.map_cons,List.map_nil]);first|done|(rw [show (l0.take ((ji12) : Int).toNat).length = (ji12).toNat from (by rw [List.length_take];have h_ : ((ji12) : Int) ≤ (l0.length : Int):=of_decide_eq_true (by first|(with_reducible assumption)|assumption);omega)] <;> rfl)|(simp only [hji12];rfl)|rfl|(simp only [List.length_drop,List.length_take];rfl)) ?_;(with_reducible refine (block_entries.calls kj6 (fun k_=>k_ < w.heap.size) _ _ (l0.take ((ji12) : Int).toNat) t210 true _ ?side1 A15.out).mono ?_);(case side1=>exact Kd.V_mk HC209.out (Kd.F_below (Kd.C_F (Kd.heap_int .u8) HR209.out) (by repeat (first|(with_reducible first|exact HB.out|apply below_alloc|apply pw_below_drewN|apply below_drew1)|exact HB.out))));rintro e w22 ⟨v211,rfl,ho0,hb⟩;refine ⟨_,rfl,?_⟩;have n0_:=Aside0.mk (Kd.R_lower (Kd.R_mono (ok':=fun k_=>True) ho0 (fun _ hk_=>trivial)) (below_size (by repeat (first|(with_reducible first|exact HB.out|apply below_alloc|apply pw_below_drewN|apply below_drew1)|exact HB.out))));have n1_:=Aside0.mk (below_step (by repeat (first|(with_reducible first|exact HB.out|apply below_alloc|apply pw_below_drewN|apply below_drew1)|exact HB.out)) hb);clear HB;have HO212:=n0_;have HB:=n1_;clear n0_ n1_;(try clear hb);(try clear hb2);(try clear hk);(try clear hi);(try clear ho0);obtain ⟨Ao23,co23,eo23⟩:=Kd.R_slice HO212.out;subst eo23)|((with_reducible refine gate_callee (f:=22) rfl ?_);refine goesL_ (some 46) rfl rfl Try.func22 (by kernel_rfl) rfl #[.slice Ao23 t210.length co23] rfl (by (try simp only [List.map_toArray,List.map_cons,List.map_nil]);first|done|rfl|(simp only [List.length_drop,List.length_take];rfl)) ?_;(with_reducible refine (block_Build.calls _ _ t210 t214 t215 _ ?side1 ?side2 A16.out).mono ?_);(case side1=>repeat (first|exact (Kd.R_reads' HO212.out).2.2|(with_reducible refine Kd.C_alloc ?_ _)|(with_reducible refine Kd.C_drewN ?_ _)|(with_reducible refine Kd.C_drew ?_)));(case side2=>exact (Kd.R_reads' HO212.out).2.1);rintro e w24 ⟨v216,rfl,ho0,hb⟩;refine ⟨_,rfl,?_⟩;have n0_:=Aside0.mk (Kd.R_below (by (with_reducible repeat (first|apply Kd.R_alloc|apply Kd.R_drewN|apply Kd.R_drew));exact HO212.out) hb);have n1_:=Aside0.mk (Kd.R_lower ho0 (below_size (by repeat (first|(with_reducible first|exact HB.out|apply below_alloc|apply pw_below_drewN|apply below_drew1)|exact HB.out))));have n2_:=Aside0.mk (below_step (by repeat (first|(with_reducible first|exact HB.out|apply below_alloc|apply pw_below_drewN|apply below_drew1)|exact HB.out)) hb);clear HO212;clear HB;have HO212:=n0_;have HO217:=n1_;have HB:=n2_;clear n0_ n1_ n2_;(try clear hb);(try clear hb2);(try clear hk);(try clear hi);(try clear ho0);obtain ⟨Ao25,co25,eo25⟩:=Kd.R_slice HO217.out;subst eo25)|(go_at_call 59;(with_reducible refine (bytes_Equal.calls _ _ t214 _ _ l0 true _ ?side1 ?side2 ?side3 ?side4 A19.out).mono ?_);(case side1=>repeat (first|exact (Kd.R_reads' HO217.out).2.2|(with_reducible refine Kd.C_alloc ?_ _)|(with_reducible refine Kd.C_drewN ?_ _)|(with_reducible refine Kd.C_drew ?_)));(case side2=>exact (Kd.R_reads' HO217.out).2.1);(case side3=>repeat (first|exact (Kd.C_below HR0.out HB.out)|(with_reducible refine Kd.C_alloc ?_ _)|(with_reducible refine Kd.C_drewN ?_ _)|(with_reducible refine Kd.C_drew ?_)));(case side4=>exact HC0.out);rintro e w' ⟨rfl,⟨nd,rfl⟩⟩))
           go_ret2
           exact ⟨_,by first|rfl|(simp [errW_none,errW_some] <;> rfl)|(simp only [← hji2,← hji6,← hji12];first|rfl|(simp [errW_none,errW_some] <;> rfl))|(simp [*,errW_none,errW_some] <;> rfl),by (with_reducible repeat (first|apply Kd.R_alloc|apply Kd.R_drewN|apply Kd.R_drew));exact HO212.out,by repeat (first|(with_reducible first|exact HB.out|apply below_alloc|apply pw_below_drewN|apply below_drew1)|exact HB.out)⟩
          ·replace c20:=Bool.eq_false_iff.mpr c20
           subst c20
           have H1 : (some (([] : List (S59)),70)) = some (r1,r2):=by rw [if_neg (show ¬ (false = true) by decide)] at H;exact H
           clear H
           have H:=H1
           clear H1
           simp only [Option.some.injEq,Prod.mk.injEq] at H
           obtain ⟨rfl,rfl⟩:=H
           obtain ⟨i026,hi026,_,hsz26,_⟩:=info_parts info5
           obtain ⟨hcut26,hA26,hC26⟩:=print_take_of (P:=Try.prog) (Value.int .u8) 0 26 5 .i64 Try.underlying26 hi026 hsz26 A0 c0 l0 (ji12) (of_decide_eq_true (by first|(with_reducible assumption)|assumption)) (of_decide_eq_true (by first|(with_reducible assumption)|assumption)) HC0.out
           have HR209:=Aside0.mk (Kd.C_of_reads (h1:=fun _=>rfl) (hA26 _ (Kd.reads_of_C HR0.out)))
           have HC209:=Aside0.mk hC26
           clear hA26 hC26 hi026 hsz26
           go_wp2_with (first|((with_reducible refine gate_callee (f:=58) rfl ?_);refine goesL_ (some 41) rfl rfl Try.func58 (by kernel_rfl) rfl #[.slice A0 (l0.take ((ji12) : Int).toNat).length c0] rfl (by (try simp only [List.map_toArray,List.map_cons,List.map_nil]);first|done|(rw [show (l0.take ((ji12) : Int).toNat).length = (ji12).toNat from (by rw [List.length_take];have h_ : ((ji12) : Int) ≤ (l0.length : Int):=of_decide_eq_true (by first|(with_reducible assumption)|assumption);omega)] <;> rfl)|(simp only [hji12];rfl)|rfl|(simp only [List.length_drop,List.length_take];rfl)) ?_;(with_reducible refine (block_entries.calls kj6 (fun k_=>k_ < w.heap.size) _ _ (l0.take ((ji12) : Int).toNat) t210 true _ ?side1 A15.out).mono ?_);(case side1=>exact Kd.V_mk HC209.out (Kd.F_below (Kd.C_F (Kd.heap_int .u8) HR209.out) (by repeat (first|(with_reducible first|exact HB.out|apply below_alloc|apply pw_below_drewN|apply below_drew1)|exact HB.out))));rintro e w27 ⟨v211,rfl,ho0,hb⟩;refine ⟨_,rfl,?_⟩;have n0_:=Aside0.mk (Kd.R_lower (Kd.R_mono (ok':=fun k_=>True) ho0 (fun _ hk_=>trivial)) (below_size (by repeat (first|(with_reducible first|exact HB.out|apply below_alloc|apply pw_below_drewN|apply below_drew1)|exact HB.out))));have n1_:=Aside0.mk (below_step (by repeat (first|(with_reducible first|exact HB.out|apply below_alloc|apply pw_below_drewN|apply below_drew1)|exact HB.out)) hb);clear HB;have HO212:=n0_;have HB:=n1_;clear n0_ n1_;(try clear hb);(try clear hb2);(try clear hk);(try clear hi);(try clear ho0);obtain ⟨Ao28,co28,eo28⟩:=Kd.R_slice HO212.out;subst eo28)|((with_reducible refine gate_callee (f:=22) rfl ?_);refine goesL_ (some 46) rfl rfl Try.func22 (by kernel_rfl) rfl #[.slice Ao28 t210.length co28] rfl (by (try simp only [List.map_toArray,List.map_cons,List.map_nil]);first|done|rfl|(simp only [List.length_drop,List.length_take];rfl)) ?_;(with_reducible refine (block_Build.calls _ _ t210 t214 t215 _ ?side1 ?side2 A16.out).mono ?_);(case side1=>repeat (first|exact (Kd.R_reads' HO212.out).2.2|(with_reducible refine Kd.C_alloc ?_ _)|(with_reducible refine Kd.C_drewN ?_ _)|(with_reducible refine Kd.C_drew ?_)));(case side2=>exact (Kd.R_reads' HO212.out).2.1);rintro e w29 ⟨v216,rfl,ho0,hb⟩;refine ⟨_,rfl,?_⟩;have n0_:=Aside0.mk (Kd.R_below (by (with_reducible repeat (first|apply Kd.R_alloc|apply Kd.R_drewN|apply Kd.R_drew));exact HO212.out) hb);have n1_:=Aside0.mk (Kd.R_lower ho0 (below_size (by repeat (first|(with_reducible first|exact HB.out|apply below_alloc|apply pw_below_drewN|apply below_drew1)|exact HB.out))));have n2_:=Aside0.mk (below_step (by repeat (first|(with_reducible first|exact HB.out|apply below_alloc|apply pw_below_drewN|apply below_drew1)|exact HB.out)) hb);clear HO212;clear HB;have HO212:=n0_;have HO217:=n1_;have HB:=n2_;clear n0_ n1_ n2_;(try clear hb);(try clear hb2);(try clear hk);(try clear hi);(try clear ho0);obtain ⟨Ao30,co30,eo30⟩:=Kd.R_slice HO217.out;subst eo30)|(go_at_call 59;(with_reducible refine (bytes_Equal.calls _ _ t214 _ _ l0 false _ ?side1 ?side2 ?side3 ?side4 A19.out).mono ?_);(case side1=>repeat (first|exact (Kd.R_reads' HO217.out).2.2|(with_reducible refine Kd.C_alloc ?_ _)|(with_reducible refine Kd.C_drewN ?_ _)|(with_reducible refine Kd.C_drew ?_)));(case side2=>exact (Kd.R_reads' HO217.out).2.1);(case side3=>repeat (first|exact (Kd.C_below HR0.out HB.out)|(with_reducible refine Kd.C_alloc ?_ _)|(with_reducible refine Kd.C_drewN ?_ _)|(with_reducible refine Kd.C_drew ?_)));(case side4=>exact HC0.out);rintro e w' ⟨rfl,⟨nd,rfl⟩⟩))
           go_ret2
           exact ⟨_,by first|rfl|(simp [errW_none,errW_some] <;> rfl)|(simp only [← hji2,← hji6,← hji12];first|rfl|(simp [errW_none,errW_some] <;> rfl))|(simp [*,errW_none,errW_some] <;> rfl),by first|exact Kd.R_nil _ _ _ _ _|exact Kd.N_nil _ _ _ _ _|exact Kd.V_nil _ _ _ _ _|exact Kd.Q_nil _ _ _ _ _|exact Kd.S_nil _ _ _ _ _,by repeat (first|(with_reducible first|exact HB.out|apply below_alloc|apply pw_below_drewN|apply below_drew1)|exact HB.out)⟩
         ·rw [if_neg c18] at H
          have c18b0 : (t215 == 0) = false:=beq_eq_false_iff_ne.mpr c18
          have c18b1 : (t215 != 0) = true:=bne_iff_ne.mpr c18
          simp only [Option.some.injEq,Prod.mk.injEq] at H
          obtain ⟨rfl,rfl⟩:=H
          obtain ⟨i031,hi031,_,hsz31,_⟩:=info_parts info5
          obtain ⟨hcut31,hA31,hC31⟩:=print_take_of (P:=Try.prog) (Value.int .u8) 0 26 5 .i64 Try.underlying26 hi031 hsz31 A0 c0 l0 (ji12) (of_decide_eq_true (by first|(with_reducible assumption)|assumption)) (of_decide_eq_true (by first|(with_reducible assumption)|assumption)) HC0.out
          have HR209:=Aside0.mk (Kd.C_of_reads (h1:=fun _=>rfl) (hA31 _ (Kd.reads_of_C HR0.out)))
          have HC209:=Aside0.mk hC31
          clear hA31 hC31 hi031 hsz31
          go_wp2_with (first|((with_reducible refine gate_callee (f:=58) rfl ?_);refine goesL_ (some 41) rfl rfl Try.func58 (by kernel_rfl) rfl #[.slice A0 (l0.take ((ji12) : Int).toNat).length c0] rfl (by (try simp only [List.map_toArray,List.map_cons,List.map_nil]);first|done|(rw [show (l0.take ((ji12) : Int).toNat).length = (ji12).toNat from (by rw [List.length_take];have h_ : ((ji12) : Int) ≤ (l0.length : Int):=of_decide_eq_true (by first|(with_reducible assumption)|assumption);omega)] <;> rfl)|(simp only [hji12];rfl)|rfl|(simp only [List.length_drop,List.length_take];rfl)) ?_;(with_reducible refine (block_entries.calls kj6 (fun k_=>k_ < w.heap.size) _ _ (l0.take ((ji12) : Int).toNat) t210 true _ ?side1 A15.out).mono ?_);(case side1=>exact Kd.V_mk HC209.out (Kd.F_below (Kd.C_F (Kd.heap_int .u8) HR209.out) (by repeat (first|(with_reducible first|exact HB.out|apply below_alloc|apply pw_below_drewN|apply below_drew1)|exact HB.out))));rintro e w32 ⟨v211,rfl,ho0,hb⟩;refine ⟨_,rfl,?_⟩;have n0_:=Aside0.mk (Kd.R_lower (Kd.R_mono (ok':=fun k_=>True) ho0 (fun _ hk_=>trivial)) (below_size (by repeat (first|(with_reducible first|exact HB.out|apply below_alloc|apply pw_below_drewN|apply below_drew1)|exact HB.out))));have n1_:=Aside0.mk (below_step (by repeat (first|(with_reducible first|exact HB.out|apply below_alloc|apply pw_below_drewN|apply below_drew1)|exact HB.out)) hb);clear HB;have HO212:=n0_;have HB:=n1_;clear n0_ n1_;(try clear hb);(try clear hb2);(try clear hk);(try clear hi);(try clear ho0);obtain ⟨Ao33,co33,eo33⟩:=Kd.R_slice HO212.out;subst eo33)|((with_reducible refine gate_callee (f:=22) rfl ?_);refine goesL_ (some 46) rfl rfl Try.func22 (by kernel_rfl) rfl #[.slice Ao33 t210.length co33] rfl (by (try simp only [List.map_toArray,List.map_cons,List.map_nil]);first|done|rfl|(simp only [List.length_drop,List.length_take];rfl)) ?_;(with_reducible refine (block_Build.calls _ _ t210 t214 t215 _ ?side1 ?side2 A16.out).mono ?_);(case side1=>repeat (first|exact (Kd.R_reads' HO212.out).2.2|(with_reducible refine Kd.C_alloc ?_ _)|(with_reducible refine Kd.C_drewN ?_ _)|(with_reducible refine Kd.C_drew ?_)));(case side2=>exact (Kd.R_reads' HO212.out).2.1);rintro e w34 ⟨v216,rfl,ho0,hb⟩;refine ⟨_,rfl,?_⟩;have n0_:=Aside0.mk (Kd.R_below (by (with_reducible repeat (first|apply Kd.R_alloc|apply Kd.R_drewN|apply Kd.R_drew));exact HO212.out) hb);have n1_:=Aside0.mk (Kd.R_lower ho0 (below_size (by repeat (first|(with_reducible first|exact HB.out|apply below_alloc|apply pw_below_drewN|apply below_drew1)|exact HB.out))));have n2_:=Aside0.mk (below_step (by repeat (first|(with_reducible first|exact HB.out|apply below_alloc|apply pw_below_drewN|apply below_drew1)|exact HB.out)) hb);clear HO212;clear HB;have HO212:=n0_;have HO217:=n1_;have HB:=n2_;clear n0_ n1_ n2_;(try clear hb);(try clear hb2);(try clear hk);(try clear hi);(try clear ho0)))
          go_ret2
          exact ⟨_,by first|rfl|(simp [errW_none,errW_some] <;> rfl)|(simp only [← hji2,← hji6,← hji12];first|rfl|(simp [errW_none,errW_some] <;> rfl))|(simp [*,errW_none,errW_some] <;> rfl),by first|exact Kd.R_nil _ _ _ _ _|exact Kd.N_nil _ _ _ _ _|exact Kd.V_nil _ _ _ _ _|exact Kd.Q_nil _ _ _ _ _|exact Kd.S_nil _ _ _ _ _,by repeat (first|(with_reducible first|exact HB.out|apply below_alloc|apply pw_below_drewN|apply below_drew1)|exact HB.out)⟩
        ·replace c17:=Bool.eq_false_iff.mpr c17
         subst c17
         have H1 : (some (([] : List (S59)),70)) = some (r1,r2):=by rw [if_neg (show ¬ (false = true) by decide)] at H;exact H
         clear H
         have H:=H1
         clear H1
         simp only [Option.some.injEq,Prod.mk.injEq] at H
         obtain ⟨rfl,rfl⟩:=H
         obtain ⟨i035,hi035,_,hsz35,_⟩:=info_parts info5
         obtain ⟨hcut35,hA35,hC35⟩:=print_take_of (P:=Try.prog) (Value.int .u8) 0 26 5 .i64 Try.underlying26 hi035 hsz35 A0 c0 l0 (ji12) (of_decide_eq_true (by first|(with_reducible assumption)|assumption)) (of_decide_eq_true (by first|(with_reducible assumption)|assumption)) HC0.out
         have HR209:=Aside0.mk (Kd.C_of_reads (h1:=fun _=>rfl) (hA35 _ (Kd.reads_of_C HR0.out)))
         have HC209:=Aside0.mk hC35
         clear hA35 hC35 hi035 hsz35
         go_wp2_with (first|((with_reducible refine gate_callee (f:=58) rfl ?_);refine goesL_ (some 41) rfl rfl Try.func58 (by kernel_rfl) rfl #[.slice A0 (l0.take ((ji12) : Int).toNat).length c0] rfl (by (try simp only [List.map_toArray,List.map_cons,List.map_nil]);first|done|(rw [show (l0.take ((ji12) : Int).toNat).length = (ji12).toNat from (by rw [List.length_take];have h_ : ((ji12) : Int) ≤ (l0.length : Int):=of_decide_eq_true (by first|(with_reducible assumption)|assumption);omega)] <;> rfl)|(simp only [hji12];rfl)|rfl|(simp only [List.length_drop,List.length_take];rfl)) ?_;(with_reducible refine (block_entries.calls kj6 (fun k_=>k_ < w.heap.size) _ _ (l0.take ((ji12) : Int).toNat) t210 false _ ?side1 A15.out).mono ?_);(case side1=>exact Kd.V_mk HC209.out (Kd.F_below (Kd.C_F (Kd.heap_int .u8) HR209.out) (by repeat (first|(with_reducible first|exact HB.out|apply below_alloc|apply pw_below_drewN|apply below_drew1)|exact HB.out))));rintro e w36 ⟨v211,rfl,ho0,hb⟩;refine ⟨_,rfl,?_⟩;have n0_:=Aside0.mk (Kd.R_lower (Kd.R_mono (ok':=fun k_=>True) ho0 (fun _ hk_=>trivial)) (below_size (by repeat (first|(with_reducible first|exact HB.out|apply below_alloc|apply pw_below_drewN|apply below_drew1)|exact HB.out))));have n1_:=Aside0.mk (below_step (by repeat (first|(with_reducible first|exact HB.out|apply below_alloc|apply pw_below_drewN|apply below_drew1)|exact HB.out)) hb);clear HB;have HO212:=n0_;have HB:=n1_;clear n0_ n1_;(try clear hb);(try clear hb2);(try clear hk);(try clear hi);(try clear ho0);obtain ⟨Ao37,co37,eo37⟩:=Kd.R_slice HO212.out;subst eo37)|((with_reducible refine gate_callee (f:=22) rfl ?_);refine goesL_ (some 46) rfl rfl Try.func22 (by kernel_rfl) rfl #[.slice Ao37 t210.length co37] rfl (by (try simp only [List.map_toArray,List.map_cons,List.map_nil]);first|done|rfl|(simp only [List.length_drop,List.length_take];rfl)) ?_;(with_reducible refine (block_Build.calls _ _ t210 t214 t215 _ ?side1 ?side2 A16.out).mono ?_);(case side1=>repeat (first|exact (Kd.R_reads' HO212.out).2.2|(with_reducible refine Kd.C_alloc ?_ _)|(with_reducible refine Kd.C_drewN ?_ _)|(with_reducible refine Kd.C_drew ?_)));(case side2=>exact (Kd.R_reads' HO212.out).2.1);rintro e w38 ⟨v216,rfl,ho0,hb⟩;refine ⟨_,rfl,?_⟩;have n0_:=Aside0.mk (Kd.R_below (by (with_reducible repeat (first|apply Kd.R_alloc|apply Kd.R_drewN|apply Kd.R_drew));exact HO212.out) hb);have n1_:=Aside0.mk (Kd.R_lower ho0 (below_size (by repeat (first|(with_reducible first|exact HB.out|apply below_alloc|apply pw_below_drewN|apply below_drew1)|exact HB.out))));have n2_:=Aside0.mk (below_step (by repeat (first|(with_reducible first|exact HB.out|apply below_alloc|apply pw_below_drewN|apply below_drew1)|exact HB.out)) hb);clear HO212;clear HB;have HO212:=n0_;have HO217:=n1_;have HB:=n2_;clear n0_ n1_ n2_;(try clear hb);(try clear hb2);(try clear hk);(try clear hi);(try clear ho0)))
         go_ret2
         exact ⟨_,by first|rfl|(simp [errW_none,errW_some] <;> rfl)|(simp only [← hji2,← hji6,← hji12];first|rfl|(simp [errW_none,errW_some] <;> rfl))|(simp [*,errW_none,errW_some] <;> rfl),by first|exact Kd.R_nil _ _ _ _ _|exact Kd.N_nil _ _ _ _ _|exact Kd.V_nil _ _ _ _ _|exact Kd.Q_nil _ _ _ _ _|exact Kd.S_nil _ _ _ _ _,by repeat (first|(with_reducible first|exact HB.out|apply below_alloc|apply pw_below_drewN|apply below_drew1)|exact HB.out)⟩
       ·rw [if_neg c14] at H
        exact absurd H (by simp)
      ·rw [if_neg c13] at H
       exact absurd H (by simp)
  ·rw [if_neg c4] at H
   exact absurd H (by simp)
 ·rw [if_neg c3] at H
  exact absurd H (by simp)

end Go.Proofs.Ytjcjfghcahbbmaa.P

end

section
namespace Go.Proofs.Ytjcjfghcahbbmaa.P
open Go.RowKit Go.Proofs.YtjcjfghcahbbmaaG Go.Proofs.YtjcjfghcahbbmaaW.PrintWords Go.Proofs.YtjcjfghcahbbmaaW.PrintLast Go.Proofs.YtjcjfghcahbbmaaW.PrintMore
attribute [local go_sem] str_gtr str_geq str_leq max2_int min2_int max_two min_two max_three min_three max_four min_four   -- for this text's walks alone
set_option linter.unusedVariables false
set_option linter.unusedSimpArgs false

theorem eqA50 (d : Nat) (w : World) (x0 y0 : ByteArray) (x1 y1 : Int) (x2 y2 : Int) :
  (Op.equalIn (d + 2) 50 (.agg #[.string x0,.int .u64 x1,.int .u8 x2]) (.agg #[.string y0,.int .u64 y1,.int .u8 y2])).run Try.prog w = .ok (x0.toList == y0.toList && (x1 == y1 && (x2 == y2))) w:=by
 refine eqA_of Try.underlying50 (by kernel_rfl) ?_
 refine eqf_cons (by rfl) (by go_simp;rfl) (by go_simp;rfl) (by go_simp) ?_
 refine eqf_cons (by rfl) (by go_simp;rfl) (by go_simp;rfl) (by go_simp) ?_
 exact eqf_last (by rfl) (by go_simp;rfl) (by go_simp;rfl) (by go_simp)
theorem eqA59 (d : Nat) (w : World) (x0 y0 : ByteArray) (x1 y1 : Int) (x2 y2 : Int) (x3 y3 : ByteArray) :
  (Op.equalIn (d + 3) 59 (.agg #[.string x0,.int .u64 x1,.int .u8 x2,.string x3]) (.agg #[.string y0,.int .u64 y1,.int .u8 y2,.string y3])).run Try.prog w = .ok ((x0.toList == y0.toList && (x1 == y1 && (x2 == y2))) && (x3.toList == y3.toList)) w:=by
 refine eqA_of Try.underlying59 (by kernel_rfl) ?_
 refine eqf_cons (by rfl) (by go_simp) (by go_simp) (eqA50 (d + 0) w _ _ _ _ _ _) ?_
 exact eqf_last (by rfl) (by go_simp;rfl) (by go_simp;rfl) (by go_simp)
end Go.Proofs.Ytjcjfghcahbbmaa.P

end

section
namespace Go.Proofs.Ytjcjfghcahbbmaa.P
open Go.RowKit Go.Proofs.YtjcjfghcahbbmaaG Go.Proofs.YtjcjfghcahbbmaaW.PrintWords Go.Proofs.YtjcjfghcahbbmaaW.PrintLast Go.Proofs.YtjcjfghcahbbmaaW.PrintMore
attribute [local go_sem] str_gtr str_geq str_leq max2_int min2_int max_two min_two max_three min_three max_four min_four   -- for this text's walks alone
set_option linter.unusedVariables false
set_option linter.unusedSimpArgs false

attribute [local go_sem high] eqA59
def ratlinelaw04_Entries.l0 : Nat → List (S59) → List (S59) → Int → Int → Option (Bool)
 | 0,_,_,_,_=>none
 | k + 1,x0,x1,x12,x13=>if x13 < x12 then (if 0 ≤ x13 then (if x13 < (x0.length : Int) then (if x13 < (x1.length : Int) then (if ((!((((rd_T59 x0 x13).f0.f0).toList) == (((rd_T59 x1 x13).f0.f0).toList)) || (!(((rd_T59 x0 x13).f0.f1) == ((rd_T59 x1 x13).f0.f1)) || (!(((rd_T59 x0 x13).f0.f2) == ((rd_T59 x1 x13).f0.f2))))) || (!((((rd_T59 x0 x13).f1).toList) == (((rd_T59 x1 x13).f1).toList)))) = true then (some false) else (ratlinelaw04_Entries.l0 k x0 x1 x12 (wrap64 (x13 + 1)))) else (none)) else (none)) else (none)) else (some true)
def ratlinelaw04_Entries.f (k : Nat) (l0 : List (S59)) (l1 : List (S59)) : Option (Bool):=if (l0.length : Int) = (l1.length : Int) then (ratlinelaw04_Entries.l0 k l0 l1 (l0.length : Int) 0) else (some false)
set_option maxHeartbeats 8000000 in
set_option maxRecDepth 100000 in
theorem ratlinelaw04_Entries.calls (k : Nat) (A0 : Option Addr) (c0 : Nat) (l0 : List (S59)) (A1 : Option Addr) (c1 : Nat) (l1 : List (S59)) (r : Bool) (w : World) (hr0 : Kd.C k59 w A0 l0.length l0) (hc0 : l0.length ≤ c0) (hr1 : Kd.C k59 w A1 l1.length l1) (hc1 : l1.length ≤ c1) (h : ratlinelaw04_Entries.f k l0 l1 = some r) :
  Calls Try.prog 27 #[.slice A0 l0.length c0,.slice A1 l1.length c1] w fun e w'=>e = .returned (.bool r) ∧ Drawn0 w w':=by
 have hu59:=Try.underlying59
 have HR0:=Aside0.mk hr0
 have HC0:=Aside0.mk hc0
 clear hr0 hc0
 have HR1:=Aside0.mk hr1
 have HC1:=Aside0.mk hc1
 clear hr1 hc1
 have H : (if (l0.length : Int) = (l1.length : Int) then (ratlinelaw04_Entries.l0 k l0 l1 (l0.length : Int) 0) else (some false)) = some r:=h
 clear h
 by_cases c3 : (l0.length : Int) = (l1.length : Int)
 ·rw [if_pos c3] at H
  have c3b0 : ((l0.length : Int) == (l1.length : Int)) = true:=beq_iff_eq.mpr c3
  have c3b1 : ((l0.length : Int) != (l1.length : Int)) = false:=bne_eq_false_iff_eq.mpr c3
  have c3b2 : (l0.length == l1.length) = true:=by first|simpa using c3|(simp at c3 ⊢;omega)
  clear c3
  have H':=Aside0.mk H
  clear H
  go_enter Try.func27,Try.ntmps27
  go_wp2
  repeat (go_quiet (fail);try go_wp2)
  go_loopg [13] k (fun kq v13 w'=>∃ (x13_1 : Int),v13 = .int .i64 x13_1 ∧ Aside0 (ratlinelaw04_Entries.l0 kq l0 l1 (l0.length : Int) x13_1 = some r) ∧ Aside0 (kq ≤ k) ∧ Drawn0 w w')
  case atStart=>exact ⟨(0),(by first|rfl|(simp;done)|(simp [*];done)),H',⟨Nat.le_refl _⟩,by repeat (first|exact Drawn0.refl _|apply Drawn0.step)⟩
  case round =>
   clear H'
   try clear c1
   try clear c2
   try clear p2
   try clear c3
   try clear c3b0
   try clear c3b1
   try clear c3b2
   obtain ⟨x13_1,rfl,HA,HK1,⟨m1,rfl⟩⟩:=hrel
   cases gk with
   | zero=>exact absurd HA.out (by simp [ratlinelaw04_Entries.l0])
   | succ k1 =>
    have H:=HA.out
    clear HA
    simp only [ratlinelaw04_Entries.l0] at H
    by_cases c4 : x13_1 < (l0.length : Int)
    ·rw [if_pos c4] at H
     have c4b0 : decide (x13_1 < (l0.length : Int)) = true:=decide_eq_true c4
     clear c4
     by_cases c5 : 0 ≤ x13_1
     ·rw [if_pos c5] at H
      have c5b0 : decide (0 ≤ x13_1) = true:=decide_eq_true c5
      clear c5
      by_cases c6 : x13_1 < (l0.length : Int)
      ·rw [if_pos c6] at H
       have c6b0 : decide (x13_1 < (l0.length : Int)) = true:=decide_eq_true c6
       clear c6
       by_cases c7 : x13_1 < (l1.length : Int)
       ·rw [if_pos c7] at H
        have c7b0 : decide (x13_1 < (l1.length : Int)) = true:=decide_eq_true c7
        clear c7
        by_cases c8 : ((!((((rd_T59 l0 x13_1).f0.f0).toList) == (((rd_T59 l1 x13_1).f0.f0).toList)) || (!(((rd_T59 l0 x13_1).f0.f1) == ((rd_T59 l1 x13_1).f0.f1)) || (!(((rd_T59 l0 x13_1).f0.f2) == ((rd_T59 l1 x13_1).f0.f2))))) || (!((((rd_T59 l0 x13_1).f1).toList) == (((rd_T59 l1 x13_1).f1).toList)))) = true
        ·rw [if_pos c8] at H
         have c8b0 : ((!((((rd_T59 l0 x13_1).f0.f0).toList) == (((rd_T59 l1 x13_1).f0.f0).toList)) || (!(((rd_T59 l0 x13_1).f0.f1) == ((rd_T59 l1 x13_1).f0.f1)) || (!(((rd_T59 l0 x13_1).f0.f2) == ((rd_T59 l1 x13_1).f0.f2))))) || (!((((rd_T59 l0 x13_1).f1).toList) == (((rd_T59 l1 x13_1).f1).toList)))) = true:=c8
         clear c8
         obtain rfl:=Option.some.inj H
         have p219 : 0 ≤ (x13_1 : Int):=of_decide_eq_true (by first|(with_reducible assumption)|assumption)
         have q219 : x13_1 < (l0.length : Int):=of_decide_eq_true (by first|(with_reducible assumption)|assumption)
         obtain ⟨ad219,e219,hx219_0,hx219_1,hx219_2,hx219_3⟩:=at_T59 HR0.out x13_1 p219 q219
         cases e219
         replace p219:=eq_true p219
         replace q219:=eq_true q219
         have p220 : 0 ≤ (x13_1 : Int):=of_decide_eq_true (by first|(with_reducible assumption)|assumption)
         have q220 : x13_1 < (l1.length : Int):=of_decide_eq_true (by first|(with_reducible assumption)|assumption)
         obtain ⟨ad220,e220,hx220_0,hx220_1,hx220_2,hx220_3⟩:=at_T59 HR1.out x13_1 p220 q220
         cases e220
         replace p220:=eq_true p220
         replace q220:=eq_true q220
         go_wp2
         repeat (go_quiet (fail);try go_wp2)
         go_ret
         exact ⟨by first|rfl|(simp;done)|(simp [*];done),by repeat (first|exact Drawn0.refl _|apply Drawn0.step)⟩
        ·rw [if_neg c8] at H
         have c8b0 : ((!((((rd_T59 l0 x13_1).f0.f0).toList) == (((rd_T59 l1 x13_1).f0.f0).toList)) || (!(((rd_T59 l0 x13_1).f0.f1) == ((rd_T59 l1 x13_1).f0.f1)) || (!(((rd_T59 l0 x13_1).f0.f2) == ((rd_T59 l1 x13_1).f0.f2))))) || (!((((rd_T59 l0 x13_1).f1).toList) == (((rd_T59 l1 x13_1).f1).toList)))) = false:=by simpa using c8
         clear c8
         have H':=Aside0.mk H
         clear H
         have p219 : 0 ≤ (x13_1 : Int):=of_decide_eq_true (by first|(with_reducible assumption)|assumption)
         have q219 : x13_1 < (l0.length : Int):=of_decide_eq_true (by first|(with_reducible assumption)|assumption)
         obtain ⟨ad219,e219,hx219_0,hx219_1,hx219_2,hx219_3⟩:=at_T59 HR0.out x13_1 p219 q219
         cases e219
         replace p219:=eq_true p219
         replace q219:=eq_true q219
         have p220 : 0 ≤ (x13_1 : Int):=of_decide_eq_true (by first|(with_reducible assumption)|assumption)
         have q220 : x13_1 < (l1.length : Int):=of_decide_eq_true (by first|(with_reducible assumption)|assumption)
         obtain ⟨ad220,e220,hx220_0,hx220_1,hx220_2,hx220_3⟩:=at_T59 HR1.out x13_1 p220 q220
         cases e220
         replace p220:=eq_true p220
         replace q220:=eq_true q220
         go_wp2
         repeat (go_quiet (fail);try go_wp2)
         go_roundg k1
         case measure=>have:=HK1.out;omega
         case rel=>exact ⟨(wrap64 (x13_1 + 1)),(by first|rfl|(simp;done)|(simp [*];done)),H',⟨by have:=HK1.out;omega⟩,by repeat (first|exact Drawn0.refl _|apply Drawn0.step)⟩
       ·rw [if_neg c7] at H
        exact absurd H (by simp)
      ·rw [if_neg c6] at H
       exact absurd H (by simp)
     ·rw [if_neg c5] at H
      exact absurd H (by simp)
    ·rw [if_neg c4] at H
     have c4b0 : decide (x13_1 < (l0.length : Int)) = false:=decide_eq_false c4
     clear c4
     obtain rfl:=Option.some.inj H
     go_wp2
     repeat (go_quiet (fail);try go_wp2)
     go_ret
     exact ⟨by first|rfl|(simp;done)|(simp [*];done),by repeat (first|exact Drawn0.refl _|apply Drawn0.step)⟩
 ·rw [if_neg c3] at H
  have c3b0 : ((l0.length : Int) == (l1.length : Int)) = false:=beq_eq_false_iff_ne.mpr c3
  have c3b1 : ((l0.length : Int) != (l1.length : Int)) = true:=bne_iff_ne.mpr c3
  have c3b2 : (l0.length == l1.length) = false:=by first|simpa using c3|(simp at c3 ⊢;omega)
  obtain rfl:=Option.some.inj H
  go_enter Try.func27,Try.ntmps27
  go_wp2
  repeat (go_quiet (fail);try go_wp2)
  go_ret
  exact ⟨by first|rfl|(simp;done)|(simp [*];done),by repeat (first|exact Drawn0.refl _|apply Drawn0.step)⟩

end Go.Proofs.Ytjcjfghcahbbmaa.P

end

section
namespace Go.Proofs.Ytjcjfghcahbbmaa.P
open Go.RowKit Go.Proofs.YtjcjfghcahbbmaaG Go.Proofs.YtjcjfghcahbbmaaW.PrintWords Go.Proofs.YtjcjfghcahbbmaaW.PrintLast Go.Proofs.YtjcjfghcahbbmaaW.PrintMore
attribute [local go_sem] str_gtr str_geq str_leq max2_int min2_int max_two min_two max_three min_three max_four min_four   -- for this text's walks alone
set_option linter.unusedVariables false
set_option linter.unusedSimpArgs false

-- GIVEN: function 28 (block_Seek)

def ratlinelaw07_key.f (a0 : ByteArray) (a1 : Int) (a2 : Int) : Option (ByteArray × Int × Int):=some (a0,a1,a2)
set_option maxHeartbeats 8000000 in
set_option maxRecDepth 100000 in
theorem ratlinelaw07_key.calls (a0 : ByteArray) (a1 : Int) (a2 : Int) (r1 : ByteArray) (r2 : Int) (r3 : Int) (w : World) (h : ratlinelaw07_key.f a0 a1 a2 = some (r1,r2,r3)) :
  Calls Try.prog 33 #[.string a0,.int .u64 a1,.int .u8 a2] w fun e w'=>e = .returned (.agg #[.string r1,.int .u64 r2,.int .u8 r3]) ∧ Below w.heap.size w w':=by
 have hu50:=Try.underlying50
 have HB:=Aside0.mk (Below.refl w.heap.size w)
 have H : (some (a0,a1,a2)) = some (r1,r2,r3):=h
 clear h
 simp only [Option.some.injEq,Prod.mk.injEq] at H
 obtain ⟨rfl,rfl,rfl⟩:=H
 go_enter Try.func33,Try.ntmps33
 go_wp2_with (first|((with_reducible refine gate_dst (N:=6) rfl ?_);refine box_event ?hg (N:=6) ?hd (cs:=#[.string (⟨#[]⟩ : ByteArray),.int .u64 0,.int .u8 0]) (t:=50) ?hr ?_;(case hd=>rfl);(case hg=>rfl);(case hr=>first|(go_simp;done)|(go_simp;rfl));intro gb221 hg w4 hbox hb;have n0_:=Aside0.mk (below_step (by repeat (first|(with_reducible first|exact HB.out|apply below_alloc|apply pw_below_drewN|apply below_drew1)|exact HB.out)) hb);have n1_:=Aside0.mk (hbox);have n2_:=Aside0.mk ((by rw [hg];exact (below_size (by repeat (first|(with_reducible first|exact HB.out|apply below_alloc|apply pw_below_drewN|apply below_drew1)|exact HB.out))) : w.heap.size ≤ gb221));have n3_:=Aside0.mk ((by rw [hg];exact (below_size (by repeat (first|(with_reducible first|exact HB.out|apply below_alloc|apply pw_below_drewN|apply below_drew1)|exact HB.out))) : w.heap.size ≤ gb221));clear HB;have HB:=n0_;have BK221:=n1_;have GW221:=n2_;have GE221:=n3_;clear n0_ n1_ n2_ n3_;clear hb hbox hg;have hcz5_0 : w4.cell? ⟨gb221,0,none⟩ = some (.string (⟨#[]⟩ : ByteArray)):=(blk_cell BK221.out 0).trans rfl;have hcz5_1 : w4.cell? ⟨gb221,1,none⟩ = some (.int .u64 0):=(blk_cell BK221.out 1).trans rfl;have hcz5_2 : w4.cell? ⟨gb221,2,none⟩ = some (.int .u8 0):=(blk_cell BK221.out 2).trans rfl;have hfz5_0:=blk_frozen BK221.out 0;have hfz5_1:=blk_frozen BK221.out 1;have hfz5_2:=blk_frozen BK221.out 2))
 refine bodyPost_ret (results_cell_row rfl _ _ gb221 50 #[.string a0,.int .u64 a1,.int .u8 a2] (0,0) _ rfl (by (with_reducible repeat (first|refine blk_drewN ?_ _|refine blk_drew ?_|refine blk_alloc ?_ _));refine blk_put (cs:=#[.string a0,.int .u64 a1,.int .u8 0]) ?_ 2 _ rfl;(with_reducible repeat (first|refine blk_drewN ?_ _|refine blk_drew ?_|refine blk_alloc ?_ _));refine blk_put (cs:=#[.string a0,.int .u64 0,.int .u8 0]) ?_ 1 _ rfl;(with_reducible repeat (first|refine blk_drewN ?_ _|refine blk_drew ?_|refine blk_alloc ?_ _));refine blk_put (cs:=#[.string (⟨#[]⟩ : ByteArray),.int .u64 0,.int .u8 0]) ?_ 0 _ rfl;(with_reducible repeat (first|refine blk_drewN ?_ _|refine blk_drew ?_|refine blk_alloc ?_ _));exact BK221.out) Try.underlying50 rfl (by kernel_rfl)) rfl ?_
 exact ⟨by first|rfl|(simp [errW_none,errW_some] <;> rfl)|(simp [*,errW_none,errW_some] <;> rfl),by repeat (first|(with_reducible first|exact HB.out|apply below_alloc|apply pw_below_drewN|apply below_drew1|refine below_set ?_ GE221.out)|exact HB.out)⟩

end Go.Proofs.Ytjcjfghcahbbmaa.P

end

section
set_option linter.unusedVariables false
set_option linter.unusedSimpArgs false
namespace Go.Proofs.YtjcjfghcahbbmaaL
open Go Go.RowKit Go.Proofs.YtjcjfghcahbbmaaG Go.Proofs.Ytjcjfghcahbbmaa.P Go.Proofs.YtjcjfghcahbbmaaW.PrintWords Go.Proofs.YtjcjfghcahbbmaaW.PrintMore

theorem tk_any (l : List Int) (hb : By l) (hl : l.length ≤ 1000000) : ∃ (x : Nat) (r : List Int) (ok : Bool), nums_Take.f l = some ((x : Int), r, ok) ∧ x < 18446744073709551616 ∧ By r ∧ r.length ≤ l.length ∧ (ok = true → r.length < l.length) := by
  rcases take_cases l hb (by omega) with ⟨x, rest, hx, he, hf⟩ | ⟨hf, _⟩
  · have hv := vint_pos x
    exact ⟨x, rest, true, hf, hx, By.right (he ▸ hb), by rw [he, List.length_append]; omega, fun _ => by rw [he, List.length_append]; omega⟩
  · exact ⟨0, [], false, hf, by omega, .nil, by simp, fun h => by cases h⟩
theorem tx_any (l : List Int) (most : Int) (hm : most ≤ 1000) (hb : By l) (hl : l.length ≤ 1000000) : ∃ (s : ByteArray) (r : List Int) (ok : Bool), nums_TakeText.f l most = some (s, r, ok) ∧ By r ∧ r.length ≤ l.length ∧ s.size ≤ 1000 := by
  rcases takeText_cases l most (by omega) hb (by omega) with ⟨s, rest, hs, he, hf⟩ | ⟨hf, _⟩
  · exact ⟨s, rest, true, hf, By.right (By.right (he ▸ hb)), by rw [he, List.length_append, List.length_append]; omega, by omega⟩
  · exact ⟨⟨#[]⟩, [], false, hf, .nil, by simp, Nat.zero_le _⟩
theorem and1 (a : Nat) (ha : a < 18446744073709551616) : (bits .and .u64 (a : Int) 1) % 256 = ((a % 2 : Nat) : Int) := by
  have e : bits .and .u64 (a : Int) 1 = ((a &&& 1 : Nat) : Int) := by
    show IntKind.u64.wrap ((BitVec.ofInt 64 (a : Int) &&& BitVec.ofInt 64 ((1 : Nat) : Int)).toNat : Int) = _
    rw [BitVec.ofInt_natCast, BitVec.ofInt_natCast, BitVec.toNat_and, BitVec.toNat_ofNat, BitVec.toNat_ofNat, Nat.mod_eq_of_lt (show a < 2 ^ 64 by omega), Nat.mod_eq_of_lt (show 1 < 2 ^ 64 by omega), Nat.and_one_is_mod, IntKind.wrap_u64]
    omega
  rw [e, Nat.and_one_is_mod]
  omega
theorem ext_size (s : ByteArray) {n : Nat} (h : n ≤ s.size) : (s.extract 0 n).size = n := by rw [ByteArray.size_extract]; omega

def EntR (rem : List Int) (acc : List En) (key : ByteArray) : Prop := ∃ (l : List En) (ok : Bool), Ev (fun k => block_entries.l0 k rem acc key) (l, ok) ∧ (∀ e ∈ l, WfN e) ∧ l.length ≤ 66
theorem ent_j2 (rem : List Int) (acc : List En) (key : ByteArray) (hb : By rem) (hl : rem.length ≤ 1000000) (ha : acc.length ≤ 64) (hw : ∀ e ∈ acc, WfN e) (hk : key.size ≤ 100000)
    (ih : ∀ (r : List Int) (e : En) (key' : ByteArray), By r → r.length < rem.length → WfN e → key'.size ≤ key.size + 1000 → EntR r (acc ++ [e]) key') :
    ∃ (l : List En) (ok : Bool), Ev (fun k => block_entries.j2 k rem acc key) (l, ok) ∧ (∀ e ∈ l, WfN e) ∧ l.length ≤ 66 := by
  have hno : ∀ (a : Int) (b : List Int) (c : ByteArray) (d : Int), Ev (fun k => block_entries.j3 k acc key a b c d true) (([], false) : List En × Bool) := fun a b c d => ev_step (fun k => by rw [block_entries.j3]) (ev_pos rfl (ev_some _))
  obtain ⟨n, r1, k1, f1, u1, b1, l1, s1⟩ := tk_any rem hb hl
  obtain ⟨t, r2, k2, f2, b2, l2, s2⟩ := tx_any r1 64 (by omega) b1 (by omega)
  obtain ⟨x, r3, k3, f3, u3, b3, l3, s3⟩ := tk_any r2 b2 (by omega)
  have fail : ∀ {g : Nat → Option (List En × Bool)}, Ev g ([], false) → ∃ (l : List En) (ok : Bool), Ev g (l, ok) ∧ (∀ e ∈ l, WfN e) ∧ l.length ≤ 66 := fun h => ⟨[], false, h, fun e he => (by cases he), by simp⟩
  have start : ∀ {l : List En} {ok : Bool}, Ev (fun k => if k1 = true then (if k2 = true then (if k3 = true then block_entries.j3 k acc key (n : Int) r3 t (x : Int) (decide ((n : Int) > IntKind.u64.wrap (key.size : Int))) else block_entries.j3 k acc key (n : Int) r3 t (x : Int) true) else block_entries.j3 k acc key (n : Int) r3 t (x : Int) true) else block_entries.j3 k acc key (n : Int) r3 t (x : Int) true) (l, ok) → Ev (fun k => block_entries.j2 k rem acc key) (l, ok) := fun {l ok} h => by
    refine ev_step (fun k => by rw [block_entries.j2]) ?_
    refine ev_bind3 f1 (fun q q1 q2 q3 => ?_)
    rw [q1, q2, q3]
    refine ev_bind3 f2 (fun v v1 v2 v3 => ?_)
    rw [v1, v2, v3]
    refine ev_bind3 f3 (fun z z1 z2 z3 => ?_)
    rw [z1, z2, z3]
    exact h
  cases k1 with
  | false => exact fail (start (ev_neg (by decide) (hno _ _ _ _)))
  | true =>
    cases k2 with
    | false => exact fail (start (ev_pos rfl (ev_neg (by decide) (hno _ _ _ _))))
    | true =>
      cases k3 with
      | false => exact fail (start (ev_pos rfl (ev_pos rfl (ev_neg (by decide) (hno _ _ _ _)))))
      | true =>
        rw [wrap_u64_nat (show key.size < 18446744073709551616 by omega)] at start
        by_cases hn : (n : Int) > (key.size : Int)
        · refine fail (start (ev_pos rfl (ev_pos rfl (ev_pos rfl ?_))))
          rw [decide_eq_true hn]
          exact hno _ _ _ _
        · have hsz := ext_size key (n := n) (by omega)
          have hst : ∀ {l : List En} {ok : Bool}, Ev (fun k => if ((bits .and .u64 (x : Int) 1) % 256) = 1 then ((nums_TakeText.f r3 256).bind fun bt => (if bt.2.2 = true then (if acc.length < 2932031007402 then (block_entries.l0 k bt.2.1 (acc ++ [(⟨(⟨(key.extract 0 n) ++ t, (x : Int) / 2, (bits .and .u64 (x : Int) 1) % 256⟩ : Ik), bt.1⟩ : En)]) ((key.extract 0 n) ++ t)) else (none)) else (some (([] : List En), false)))) else (if acc.length < 2932031007402 then (block_entries.l0 k r3 (acc ++ [(⟨(⟨(key.extract 0 n) ++ t, (x : Int) / 2, (bits .and .u64 (x : Int) 1) % 256⟩ : Ik), (⟨#[]⟩ : ByteArray)⟩ : En)]) ((key.extract 0 n) ++ t)) else (none))) (l, ok) → Ev (fun k => block_entries.j2 k rem acc key) (l, ok) := fun {l ok} h => by
            refine start (ev_pos rfl (ev_pos rfl (ev_pos rfl ?_)))
            rw [decide_eq_false hn]
            refine ev_step (fun k => by rw [block_entries.j3]) (ev_neg (by decide) ?_)
            refine ev_pos (by omega) (ev_pos (by omega) ?_)
            rw [Int.toNat_natCast]
            refine ev_pos (by rw [hsz]; omega) ?_
            exact h
          have hks : ((key.extract 0 n) ++ t).size ≤ key.size + 1000 := by rw [ByteArray.size_append, hsz]; omega
          have hx2 := and1 x u3
          rw [hx2] at hst
          by_cases hk1 : ((x % 2 : Nat) : Int) = 1
          · obtain ⟨v, r4, k4, f4, b4, l4, s4⟩ := tx_any r3 256 (by omega) b3 (by omega)
            cases k4 with
            | false =>
              refine fail (hst (ev_pos hk1 ?_))
              refine ev_bind3 f4 (fun q q1 q2 q3 => ?_)
              rw [q1, q2, q3]
              exact ev_neg (by decide) (ev_some _)
            | true =>
              obtain ⟨l, ok, h1, h2, h3⟩ := ih r4 ⟨⟨(key.extract 0 n) ++ t, (x : Int) / 2, ((x % 2 : Nat) : Int)⟩, v⟩ _ b4 (by have := s1 rfl; omega) ⟨by show 0 ≤ (x : Int) / 2; omega, by show 0 ≤ ((x % 2 : Nat) : Int); omega⟩ hks
              refine ⟨l, ok, hst (ev_pos hk1 ?_), h2, h3⟩
              refine ev_bind3 f4 (fun q q1 q2 q3 => ?_)
              rw [q1, q2, q3]
              exact ev_pos rfl (ev_pos (by omega) h1)
          · obtain ⟨l, ok, h1, h2, h3⟩ := ih r3 ⟨⟨(key.extract 0 n) ++ t, (x : Int) / 2, ((x % 2 : Nat) : Int)⟩, ⟨#[]⟩⟩ _ b3 (by have := s1 rfl; omega) ⟨by show 0 ≤ (x : Int) / 2; omega, by show 0 ≤ ((x % 2 : Nat) : Int); omega⟩ hks
            exact ⟨l, ok, hst (ev_neg hk1 (ev_pos (by omega) h1)), h2, h3⟩
theorem ent_any : ∀ (m : Nat) (rem : List Int) (acc : List En) (key : ByteArray), rem.length ≤ m → By rem → rem.length ≤ 1000000 → acc.length ≤ 65 → (∀ e ∈ acc, WfN e) → key.size ≤ 1000 * acc.length → EntR rem acc key := by
  intro m
  induction m with
  | zero =>
    intro rem acc key hm hb hl ha hw hk
    have hr : rem.length = 0 := by omega
    refine ⟨acc, true, ?_, hw, by omega⟩
    exact ev_step (fun k => by rw [block_entries.l0, if_neg (by omega)]) (ev_step (fun k => by rw [block_entries.j1]) (ev_neg (by decide) (ev_some _)))
  | succ m ih =>
    intro rem acc key hm hb hl ha hw hk
    by_cases hr : 0 < rem.length
    · by_cases h64 : acc.length ≤ 64
      · have hd : decide ((acc.length : Int) ≤ 64) = true := decide_eq_true (by omega)
        have hj : ∀ (k0 : ByteArray), k0.size ≤ 1000 * acc.length → ∃ (l : List En) (ok : Bool), Ev (fun k => block_entries.j2 k rem acc k0) (l, ok) ∧ (∀ e ∈ l, WfN e) ∧ l.length ≤ 66 := fun k0 hk0 =>
          ent_j2 rem acc k0 hb hl h64 hw (by omega) (fun r e key' hbr hlr hwe hke => ih r (acc ++ [e]) key' (by omega) hbr (by omega) (by rw [List.length_append]; show acc.length + 1 ≤ 65; omega) (fun x hx => by
            rcases List.mem_append.1 hx with hx | hx
            · exact hw x hx
            · rw [List.mem_singleton.1 hx]; exact hwe) (by rw [List.length_append]; show _ ≤ 1000 * (acc.length + 1); omega))
        by_cases h4 : ((acc.length : Int) % 4) = 0
        · obtain ⟨l, ok, h1, h2, h3⟩ := hj ⟨#[]⟩ (Nat.zero_le _)
          exact ⟨l, ok, ev_step (fun k => by rw [block_entries.l0, if_pos (by omega), hd]) (ev_step (fun k => by rw [block_entries.j1]) (ev_pos rfl (ev_pos h4 h1))), h2, h3⟩
        · obtain ⟨l, ok, h1, h2, h3⟩ := hj key hk
          exact ⟨l, ok, ev_step (fun k => by rw [block_entries.l0, if_pos (by omega), hd]) (ev_step (fun k => by rw [block_entries.j1]) (ev_pos rfl (ev_neg h4 h1))), h2, h3⟩
      · have hd : decide ((acc.length : Int) ≤ 64) = false := decide_eq_false (by omega)
        refine ⟨acc, true, ?_, hw, by omega⟩
        exact ev_step (fun k => by rw [block_entries.l0, if_pos (by omega), hd]) (ev_step (fun k => by rw [block_entries.j1]) (ev_neg (by decide) (ev_some _)))
    · refine ⟨acc, true, ?_, hw, by omega⟩
      exact ev_step (fun k => by rw [block_entries.l0, if_neg (by omega)]) (ev_step (fun k => by rw [block_entries.j1]) (ev_neg (by decide) (ev_some _)))
theorem entries_any (raw : List Int) (hb : By raw) (hl : raw.length ≤ 1000000) : ∃ (l : List En) (ok : Bool), Ev (fun k => block_entries.f k raw) (l, ok) ∧ (∀ e ∈ l, WfN e) ∧ l.length ≤ 66 := by
  unfold block_entries.f
  exact ent_any raw.length raw [] ⟨#[]⟩ (Nat.le_refl _) hb hl (by simp) (fun e he => by cases he) (Nat.zero_le _)

theorem entF_by (n : Nat) (e : En) : By (entF n e) := by
  unfold entF
  refine (vint_by _).append ((vint_by _).append ((bytesOf_by _).append ((vint_by _).append ?_)))
  split
  · exact (vint_by _).append (bytesOf_by _)
  · exact .nil
theorem bldS_by (l : List En) : By (bldS l).b ∧ By (bldS l).p := by
  refine rev_ind (P := fun l => By (bldS l).b ∧ By (bldS l).p) ⟨.nil, .nil⟩ (fun l e ih => ?_) l
  rw [bldS_snoc]
  refine ⟨ih.1.append (entF_by _ _), ?_⟩
  show By (plcAt (bldS l).m (bldS l).p (bldS l).b.length)
  unfold plcAt
  split
  · exact ih.2.append (four_by _)
  · exact ih.2
theorem formB_by (l : List En) : By (formB l) := ((bldS_by l).1.append (bldS_by l).2).append (four_by _)
theorem bldS_p (l : List En) : (bldS l).p.length = 4 * ((l.length + 3) / 4) := by
  refine rev_ind (P := fun l => (bldS l).p.length = 4 * ((l.length + 3) / 4)) rfl (fun l e ih => ?_) l
  rw [bldS_snoc, List.length_append, List.length_singleton]
  show (plcAt (bldS l).m (bldS l).p (bldS l).b.length).length = _
  unfold plcAt
  rw [bldS_m]
  by_cases h : l.length % 4 = 0
  · rw [if_pos h, List.length_append, four_len, ih]; omega
  · rw [if_neg h, ih]; omega
theorem formB_len {l : List En} (ho : ∀ e ∈ l, OkE e) (hw : ∀ e ∈ l, WfN e) (hl : l.length ≤ 64) : (formB l).length = (bldS l).b.length + 4 * ((l.length + 3) / 4) + 4 ∧ (formB l).length ≤ 30000 := by
  obtain ⟨h1, h2, h3⟩ := bldS_len l ho hw
  have h4 := bldS_p l
  unfold formB outF
  rw [List.length_append, List.length_append, four_len, h4]
  omega
theorem bld_equal {a b : List Int} (ha : By a) (hb : By b) : bytes_Equal.f a b = some (decide (a = b)) := by
  unfold bytes_Equal.f
  by_cases h : a = b
  · subst h; simp
  · have : (strOfNums a).toList ≠ (strOfNums b).toList := fun e => h (str_inj ha hb (ba_ext e))
    rw [decide_eq_false h, beq_eq_false_iff_ne.2 this]
theorem build_f {l : List En} (hl : l.length ≤ 1000000) (hw : ∀ e ∈ l, WfN e) : block_Build.f l = some (if okEs l = true then (formB l, 0) else ([], 70)) := if_pos ⟨hl, hw⟩
/-- What bytes say: entries that make a block, put as they stood, or none. -/
theorem bparse_any (raw : List Int) (hb : By raw) (hl : raw.length ≤ 1000000) :
    (∃ l : List En, okEs l = true ∧ (∀ e ∈ l, WfN e) ∧ raw = formB l ∧ Ev (fun k => block_Parse.f k raw) (l, 0)) ∨ Ev (fun k => block_Parse.f k raw) ([], 70) := by
  obtain ⟨L, hL⟩ : ∃ L : Nat, (L : Int) = mx (wrap64 ((raw.length : Int) - 4)) 0 ∧ L ≤ raw.length := by
    refine ⟨(mx (wrap64 ((raw.length : Int) - 4)) 0).toNat, ?_, ?_⟩
    · unfold mx wrap64; split <;> omega
    · unfold mx wrap64; split <;> omega
  have hT : ∃ (x : Nat) (rest : List Int) (ok : Bool), nums_TakeFour.f (raw.drop L) = some ((x : Int), rest, ok) := by
    rcases takeFour_cases (raw.drop L) (hb.drop L) (by rw [List.length_drop]; omega) with ⟨_, hf⟩ | ⟨_, x, rest, _, _, hf⟩
    · exact ⟨0, [], false, hf⟩
    · exact ⟨x, rest, true, hf⟩
  obtain ⟨x, rest, ok, hT⟩ := hT
  have hno : ∀ a : Int, Ev (fun k => block_Parse.j0 k raw a true) (([], 70) : List En × Int) := fun a => ev_step (fun k => by rw [block_Parse.j0]) (ev_pos rfl (ev_some _))
  have start : ∀ {r : List En × Int}, Ev (fun k => if ok = true then (block_Parse.j0 k raw (wrap64 ((wrap64 ((raw.length : Int) - 4)) - (wrap64 (4 * (wrap64 (mn (x : Int) 64)))))) (decide ((wrap64 ((wrap64 ((raw.length : Int) - 4)) - (wrap64 (4 * (wrap64 (mn (x : Int) 64)))))) < 0))) else (block_Parse.j0 k raw (wrap64 ((wrap64 ((raw.length : Int) - 4)) - (wrap64 (4 * (wrap64 (mn (x : Int) 64)))))) true)) r → Ev (fun k => block_Parse.f k raw) r := fun {r} h => by
    unfold block_Parse.f
    refine ev_pos (by rw [← hL.1]; omega) (ev_pos (by rw [← hL.1]; omega) ?_)
    rw [← hL.1, Int.toNat_natCast]
    refine ev_bind3 hT (fun q q1 q2 q3 => ?_)
    rw [q1, q3]
    exact h
  cases ok with
  | false => exact .inr (start (ev_neg (by decide) (hno _)))
  | true =>
    obtain ⟨m, hm⟩ : ∃ m : Nat, (m : Int) = mn (x : Int) 64 ∧ m ≤ 64 := by
      refine ⟨(mn (x : Int) 64).toNat, ?_, ?_⟩
      · unfold mn; split <;> omega
      · unfold mn; split <;> omega
    have he : wrap64 ((wrap64 ((raw.length : Int) - 4)) - (wrap64 (4 * (wrap64 (mn (x : Int) 64))))) = (raw.length : Int) - 4 - 4 * (m : Int) := by
      rw [← hm.1]
      unfold wrap64
      omega
    rw [he] at start
    by_cases hneg : (raw.length : Int) - 4 - 4 * (m : Int) < 0
    · right
      refine start (ev_pos rfl ?_)
      rw [decide_eq_true hneg]
      exact hno _
    · obtain ⟨E, hE⟩ : ∃ E : Nat, (E : Int) = (raw.length : Int) - 4 - 4 * (m : Int) := ⟨((raw.length : Int) - 4 - 4 * (m : Int)).toNat, by omega⟩
      obtain ⟨l, fine, h1, h2, h3⟩ := entries_any (raw.take E) (hb.take E) (by rw [List.length_take]; omega)
      have st2 : ∀ {r : List En × Int}, Ev (fun k => (block_Build.f l).bind fun bt => (if fine = true then (if bt.2 = 0 then ((bytes_Equal.f bt.1 raw).bind fun t => (if t = true then (some (l, (0 : Int))) else (some (([] : List En), 70)))) else (some (([] : List En), 70))) else (some (([] : List En), 70)))) r → Ev (fun k => block_Parse.f k raw) r := fun {r} h => by
        refine start (ev_pos rfl ?_)
        rw [decide_eq_false hneg, ← hE]
        refine ev_step (fun k => by rw [block_Parse.j0]) (ev_neg (by decide) (ev_pos (by omega) (ev_pos (by omega) ?_)))
        rw [Int.toNat_natCast]
        exact ev_call2 h1 (fun t t1 t2 => by rw [t1, t2]; exact h)
      cases fine with
      | false => exact .inr (st2 (ev_bind (build_f (by omega) h2) (ev_neg (by decide) (ev_some _))))
      | true =>
        cases hk : okEs l with
        | false =>
          right
          have hbf : block_Build.f l = some ([], 70) := by rw [build_f (by omega) h2, hk]; rfl
          exact st2 (ev_bind hbf (ev_pos rfl (ev_neg (show ¬ ((70 : Int) = 0) by decide) (ev_some _))))
        | true =>
          have hbf : block_Build.f l = some (formB l, 0) := by rw [build_f (by omega) h2, hk]; rfl
          by_cases heq : formB l = raw
          · left
            exact ⟨l, hk, h2, heq.symm, st2 (ev_bind hbf (ev_pos rfl (ev_pos rfl (ev_bind (bld_equal (formB_by l) hb) (ev_pos (decide_eq_true heq) (ev_some _))))))⟩
          · right
            exact st2 (ev_bind hbf (ev_pos rfl (ev_pos rfl (ev_bind (bld_equal (formB_by l) hb) (ev_neg (by rw [decide_eq_false heq]; decide) (ev_some _))))))
end Go.Proofs.YtjcjfghcahbbmaaL

end

section
set_option linter.unusedVariables false
set_option linter.unusedSimpArgs false
namespace Go.Proofs.YtjcjfghcahbbmaaL
open Go Go.RowKit Go.Proofs.YtjcjfghcahbbmaaG Go.Proofs.Ytjcjfghcahbbmaa.P Go.Proofs.YtjcjfghcahbbmaaW.PrintWords Go.Proofs.YtjcjfghcahbbmaaW.PrintMore

theorem comN_take : ∀ a b : List UInt8, a.take (comN a b) = b.take (comN a b)
  | [], b => by
    have h : comN [] b = 0 := by rw [comN]; intro a x b y h; cases h
    rw [h]; rfl
  | a :: x, [] => by rw [comN_nil_right]; rfl
  | a :: x, b :: y => by
    rw [comN]
    by_cases h : a = b
    · rw [if_pos h, List.take_succ_cons, List.take_succ_cons, comN_take x y, h]
    · rw [if_neg h]; rfl
theorem key_join (a b : ByteArray) : (a.extract 0 (com a b)) ++ b.extract (com a b) b.size = b := by
  have h := comN_take a.toList b.toList
  have h1 := (com_le a b)
  refine ba_ext ?_
  unfold com at *
  simp only [toList_data] at *
  rw [ByteArray.data_append, ByteArray.data_extract, ByteArray.data_extract, Array.toList_append, Array.toList_extract, Array.toList_extract]
  have hb : b.data.toList.length = b.size := by rw [Array.length_toList]; rfl
  simp only [List.extract_eq_take_drop, List.drop_zero, Nat.sub_zero]
  rw [h, List.take_of_length_le (i := b.size - _) (by rw [List.length_drop, hb]; omega), List.take_append_drop]
theorem bldS_pre (l : List En) (i : Nat) : ∃ r, (bldS l).b = (bldS (l.take i)).b ++ r := by
  refine rev_ind (P := fun l => ∃ r, (bldS l).b = (bldS (l.take i)).b ++ r) ⟨[], by simp⟩ (fun l e ih => ?_) l
  by_cases h : i ≤ l.length
  · obtain ⟨r, hr⟩ := ih
    rw [List.take_append_of_le_length h, bldS_snoc]
    exact ⟨r ++ entF ((bldS l).n e) e, by show (bldS l).b ++ _ = _; rw [hr, List.append_assoc]⟩
  · rw [List.take_of_length_le (by rw [List.length_append, List.length_singleton]; omega)]
    exact ⟨[], by rw [List.append_nil]⟩
theorem ba_nil_of {s : ByteArray} (h : s.size = 0) : s = ⟨#[]⟩ := ba_ext (by rw [ba_nil_iff.2 h]; exact (ba_nil_iff.2 rfl).symm)
theorem ent_form (l : List En) (ho : ∀ e ∈ l, OkE e) (hw : ∀ e ∈ l, WfN e) (hl : l.length ≤ 64) :
    ∀ (d i : Nat) (rem : List Int), i + d = l.length → (bldS l).b = (bldS (l.take i)).b ++ rem → Ev (fun k => block_entries.l0 k rem (l.take i) (bldS (l.take i)).k) (l, true) := by
  obtain ⟨B1, _, _⟩ := bldS_len l ho hw
  have BY := (bldS_by l).1
  intro d
  induction d with
  | zero =>
    intro i rem hi hr
    rw [List.take_of_length_le (by omega)] at hr ⊢
    have hn : rem = [] := by
      have := congrArg List.length hr
      rw [List.length_append] at this
      exact List.length_eq_zero_iff.1 (by omega)
    subst hn
    exact ev_step (fun k => by rw [block_entries.l0, if_neg (by simp)]) (ev_step (fun k => by rw [block_entries.j1]) (ev_neg (by decide) (ev_some _)))
  | succ d ih =>
    intro i rem hi hr
    have hlt : i < l.length := by omega
    obtain ⟨e, he⟩ : ∃ e, e = l[i] := ⟨_, rfl⟩
    have htk : l.take (i + 1) = l.take i ++ [e] := by rw [he, List.take_succ_eq_append_getElem hlt]
    have hoe : OkE e := by rw [he]; exact ho _ (List.getElem_mem hlt)
    have hwe : WfN e := by rw [he]; exact hw _ (List.getElem_mem hlt)
    obtain ⟨p1, p2, p3, p4, p5, p6⟩ := hoe.parts
    obtain ⟨w1, w2⟩ := hwe
    have hmi : (bldS (l.take i)).m = (l.take i).length := bldS_m _
    have hil : (l.take i).length = i := by rw [List.length_take]; omega
    obtain ⟨s, hs⟩ : ∃ s, s = bldS (l.take i) := ⟨_, rfl⟩
    obtain ⟨acc, hacc⟩ : ∃ acc, acc = l.take i := ⟨_, rfl⟩
    obtain ⟨k0, hk0⟩ : ∃ k0, k0 = keyAt s.m s.k := ⟨_, rfl⟩
    obtain ⟨n, hn⟩ : ∃ n, n = com k0 e.f0.f0 := ⟨_, rfl⟩
    have hsn : s.n e = n := by rw [hn, hk0]; rfl
    obtain ⟨rem', hrem'⟩ := bldS_pre l (i + 1)
    have hb1 : (bldS (l.take (i + 1))).b = s.b ++ entF n e := by rw [htk, bldS_snoc, ← hs, ← hsn]; rfl
    have hrem : rem = entF n e ++ rem' := by
      rw [hrem', hb1, ← hs, List.append_assoc] at hr
      exact (List.append_cancel_left hr).symm
    have hk1 : (bldS (l.take (i + 1))).k = e.f0.f0 := by rw [htk, bldS_snoc]; rfl
    have hnext := ih (i + 1) rem' (by omega) hrem'
    rw [hk1, htk, ← hacc] at hnext
    have hnk := com_le k0 e.f0.f0
    rw [← hn] at hnk
    have hBr : By rem' := by rw [hrem'] at BY; exact By.right BY
    have hlr : rem'.length ≤ 40000 := by
      have := congrArg List.length hrem'
      rw [List.length_append] at this
      omega
    have hkey : (k0.extract 0 n) ++ e.f0.f0.extract n e.f0.f0.size = e.f0.f0 := by rw [hn]; exact key_join _ _
    have hpos := (entF_len hoe ⟨w1, w2⟩ hnk.2).2
    obtain ⟨tx, htx⟩ : ∃ t, t = e.f0.f0.extract n e.f0.f0.size := ⟨_, rfl⟩
    have htxs : tx.size = e.f0.f0.size - n := by rw [htx, ByteArray.size_extract]; omega
    obtain ⟨x, hx⟩ : ∃ x, x = e.f0.f1.toNat * 2 + e.f0.f2.toNat := ⟨_, rfl⟩
    obtain ⟨va, hva⟩ : ∃ v, v = (if e.f0.f2 = 1 then vint e.f1.size ++ bytesOf e.f1 else []) := ⟨_, rfl⟩
    have hval : va.length ≤ 300 ∧ By va := by
      rw [hva]
      split
      · have := vint_len10 (x := e.f1.size) (by omega)
        rw [List.length_append, bytesOf_length]
        exact ⟨by omega, (vint_by _).append (bytesOf_by _)⟩
      · exact ⟨by simp, .nil⟩
    have hform : rem = vint n ++ (vint tx.size ++ (bytesOf tx ++ (vint x ++ (va ++ rem')))) := by
      rw [hrem, entF, ← htx, ← hx, ← hva, htxs]
      simp only [List.append_assoc]
    have v1 := vint_len10 (x := n) (by omega)
    have v2 := vint_len10 (x := tx.size) (by omega)
    have v3 := vint_len10 (x := x) (by omega)
    have b3 : By (va ++ rem') := hval.2.append hBr
    have b2 : By (vint x ++ (va ++ rem')) := (vint_by _).append b3
    have b1 : By (vint tx.size ++ (bytesOf tx ++ (vint x ++ (va ++ rem')))) := (vint_by _).append ((bytesOf_by _).append b2)
    have f1 := take_vint n _ (by omega) b1 (by simp only [List.length_append, bytesOf_length]; omega)
    have f2 := takeText_yes tx (vint x ++ (va ++ rem')) 64 (by omega) b2 (by simp only [List.length_append]; omega) (by omega)
    have f3 := take_vint x (va ++ rem') (by omega) b3 (by rw [List.length_append]; omega)
    have hand := and1 x (by omega)
    have hxk : ((x % 2 : Nat) : Int) = e.f0.f2 := by omega
    have hxs : (x : Int) / 2 = e.f0.f1 := by omega
    have hwk : IntKind.u64.wrap (k0.size : Int) = (k0.size : Int) := by
      refine wrap_u64_nat ?_
      have hks : k0.size ≤ 64 := by
        rw [hk0]
        unfold keyAt
        split
        · exact Nat.zero_le _
        · rw [hs]
          refine rev_ind (P := fun q => (∀ x ∈ q, OkE x) → (bldS q).k.size ≤ 64) (fun _ => Nat.zero_le _) (fun q x _ hq => ?_) (l.take i) (fun x hx => ho x (List.mem_of_mem_take hx))
          rw [bldS_snoc]
          exact (hq x (by simp)).parts.2.1
      omega
    have hsz := ext_size k0 (n := n) hnk.1
    have hj2 : Ev (fun k => block_entries.j2 k rem acc k0) (l, true) := by
      refine ev_step (fun k => by rw [block_entries.j2]) ?_
      rw [hform]
      refine ev_bind3 f1 (fun q q1 q2 q3 => ?_)
      rw [q1, q2, q3]
      refine ev_bind3 f2 (fun v v1 v2 v3 => ?_)
      rw [v1, v2, v3]
      refine ev_bind3 f3 (fun z z1 z2 z3 => ?_)
      rw [z1, z2, z3]
      refine ev_pos rfl (ev_pos rfl (ev_pos rfl ?_))
      rw [hwk, decide_eq_false (by omega)]
      refine ev_step (fun k => by rw [block_entries.j3]) (ev_neg (by decide) ?_)
      refine ev_pos (by omega) (ev_pos (by omega) ?_)
      rw [Int.toNat_natCast]
      refine ev_pos (by rw [hsz]; omega) ?_
      rw [hand, hxk, hxs, htx, hkey]
      have hal : acc.length < 2932031007402 := by rw [hacc, hil]; omega
      by_cases hk : e.f0.f2 = 1
      · refine ev_pos hk ?_
        rw [hva, if_pos hk, List.append_assoc]
        refine ev_bind3 (takeText_yes e.f1 rem' 256 (by omega) hBr (by omega) (by omega)) (fun u u1 u2 u3 => ?_)
        rw [u1, u2, u3]
        exact ev_pos rfl (ev_pos hal hnext)
      · refine ev_neg hk (ev_pos hal ?_)
        have hv0 : e.f1 = ⟨#[]⟩ := ba_nil_of (p6 (by omega))
        rw [hva, if_neg hk, List.nil_append]
        have hee : (⟨⟨e.f0.f0, e.f0.f1, e.f0.f2⟩, ⟨#[]⟩⟩ : En) = e := by rw [← hv0]
        rw [hee]
        exact hnext
    rw [← hs]
    rw [← hs, hil] at hmi
    have hd : decide ((acc.length : Int) ≤ 64) = true := decide_eq_true (by rw [hacc, hil]; omega)
    rw [← hacc]
    refine ev_step (fun k => by rw [block_entries.l0, if_pos (by rw [hrem, List.length_append]; omega), hd]) (ev_step (fun k => by rw [block_entries.j1]) (ev_pos rfl ?_))
    by_cases h4 : ((acc.length : Int) % 4) = 0
    · refine ev_pos h4 ?_
      have : k0 = ⟨#[]⟩ := by rw [hk0, keyAt, if_pos (by rw [hacc, hil] at h4; omega)]
      rw [this] at hj2
      exact hj2
    · refine ev_neg h4 ?_
      have : k0 = s.k := by rw [hk0, keyAt, if_neg (by rw [hacc, hil] at h4; omega)]
      rw [this] at hj2
      exact hj2
theorem entries_form {l : List En} (ho : ∀ e ∈ l, OkE e) (hw : ∀ e ∈ l, WfN e) (hl : l.length ≤ 64) : Ev (fun k => block_entries.f k (bldS l).b) (l, true) := by
  unfold block_entries.f
  exact ent_form l ho hw hl l.length 0 _ (by omega) rfl
theorem bp_end {n b r : Nat} (h : n = b + 4 * r + 4) (hr : r ≤ 16) (hn : n ≤ 30000) : wrap64 ((wrap64 ((n : Int) - 4)) - (wrap64 (4 * (wrap64 (mn (r : Int) 64))))) = (b : Int) := by
  have h1 : mn (r : Int) 64 = (r : Int) := by unfold mn; split <;> omega
  have h2 : wrap64 (r : Int) = (r : Int) := by unfold wrap64; omega
  have h3 : wrap64 (4 * (r : Int)) = 4 * (r : Int) := by unfold wrap64; omega
  have h4 : wrap64 ((n : Int) - 4) = (n : Int) - 4 := by unfold wrap64; omega
  rw [h1, h2, h3, h4, h]
  unfold wrap64
  omega
theorem bp_start {n b r : Nat} (h : n = b + 4 * r + 4) (hn : n ≤ 30000) : mx (wrap64 ((n : Int) - 4)) 0 = ((b + 4 * r : Nat) : Int) := by
  have h4 : wrap64 ((n : Int) - 4) = ((b + 4 * r : Nat) : Int) := by unfold wrap64; omega
  rw [h4]
  unfold mx
  split <;> omega
theorem formB_parts {l : List En} (hk : okEs l = true) (hw : ∀ e ∈ l, WfN e) : ∃ (p : List Int) (r : Nat), formB l = ((bldS l).b ++ p) ++ four r ∧ p.length = 4 * r ∧ r ≤ 16 ∧ (formB l).length = (bldS l).b.length + 4 * r + 4 ∧ (formB l).length ≤ 30000 ∧ l.length ≤ 64 ∧ (∀ e ∈ l, OkE e) := by
  obtain ⟨k1, k2, k3, k4⟩ := okEs_parts hk
  obtain ⟨hfl, hf2⟩ := formB_len k3 hw k2
  exact ⟨(bldS l).p, (l.length + 3) / 4, by rw [formB, outF, bldS_m], bldS_p l, by omega, hfl, hf2, k2, k3⟩
theorem bparse_form {l : List En} (hk : okEs l = true) (hw : ∀ e ∈ l, WfN e) : Ev (fun k => block_Parse.f k (formB l)) (l, 0) := by
  obtain ⟨p, r, hfm, hp, hr, hfl, hf2, hl, ho⟩ := formB_parts hk hw
  have hb := formB_by l
  have he := entries_form ho hw hl
  have hbf : block_Build.f l = some (formB l, 0) := by rw [build_f (by omega) hw, hk]; rfl
  obtain ⟨B, hB⟩ : ∃ B, B = (bldS l).b := ⟨_, rfl⟩
  obtain ⟨F, hF⟩ : ∃ F, F = formB l := ⟨_, rfl⟩
  rw [← hB] at hfm he hfl
  rw [← hF] at hfm hfl hf2 hb hbf ⊢
  have hL := bp_start hfl hf2
  have hE := bp_end hfl hr hf2
  have hd : F.drop (B.length + 4 * r) = four r := by rw [hfm, show B.length + 4 * r = (B ++ p).length from by rw [List.length_append, hp], List.drop_left]
  have htk : F.take B.length = B := by rw [hfm, List.append_assoc, List.take_left]
  have hT := takeFour_four r [] (by omega) .nil (by simp)
  rw [List.append_nil] at hT
  have c1 : (0 : Int) ≤ ((B.length + 4 * r : Nat) : Int) := Int.natCast_nonneg _
  have c2 : ((B.length + 4 * r : Nat) : Int) ≤ (F.length : Int) := Int.ofNat_le.2 (by rw [hfl]; omega)
  have c3 : ¬ ((B.length : Int) < 0) := Int.not_lt.2 (Int.natCast_nonneg _)
  have c4 : (B.length : Int) ≤ (F.length : Int) := Int.ofNat_le.2 (by rw [hfl]; omega)
  unfold block_Parse.f
  rw [hL, Int.toNat_natCast, hd]
  refine ev_pos c1 (ev_pos c2 ?_)
  refine ev_bind3 hT (fun q q1 q2 q3 => ?_)
  rw [q1, q3, hE]
  refine ev_pos rfl ?_
  rw [decide_eq_false c3]
  refine ev_step (fun k => by rw [block_Parse.j0]) (ev_neg (by decide) (ev_pos (Int.natCast_nonneg _) (ev_pos c4 ?_)))
  rw [Int.toNat_natCast, htk]
  refine ev_call2 he (fun t t1 t2 => ?_)
  rw [t1, t2]
  refine ev_bind hbf ?_
  refine ev_pos rfl (ev_pos rfl ?_)
  exact ev_bind (bld_equal hb hb) (ev_pos (decide_eq_true rfl) (ev_some _))
theorem Ev.uniq {α : Type} {g : Nat → Option α} {a b : α} (h : Ev g a) (k : Ev g b) : a = b := by
  obtain ⟨K, hK⟩ := h
  obtain ⟨L, hL⟩ := k
  have h1 := hK (K + L) (by omega)
  rw [hL (K + L) (by omega)] at h1
  exact (Option.some.inj h1).symm
theorem formB_inj {l l' : List En} (hk : okEs l = true) (hw : ∀ e ∈ l, WfN e) (hk' : okEs l' = true) (hw' : ∀ e ∈ l', WfN e) (h : formB l = formB l') : l = l' := by
  have h1 := bparse_form hk hw
  rw [h] at h1
  exact (Prod.mk.inj (Ev.uniq h1 (bparse_form hk' hw'))).1
end Go.Proofs.YtjcjfghcahbbmaaL

end
