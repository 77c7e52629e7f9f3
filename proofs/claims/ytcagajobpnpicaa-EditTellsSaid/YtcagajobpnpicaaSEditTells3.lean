/- Proved here: what the row of EditTells needs, part 3. Conditions: those of each theorem. Written for this claim by programs; what the claim does not use is left out. -/
import Derived.OwnWalkIn
import Derived.TacticsInMore
import Derived.Shelf.Abstract
import Derived.Shelf.RegionOpen
import Derived.Lib.SliceRun
import Derived.WalkKit
import Derived.Lib.Strings
import Derived.Deep.RegionLaw
import Derived.BigRegion
import Derived.Test.YtcagajobpnpicaaSEditTells2
section
namespace Go.Proofs.Ytcagajobpnpicaa.P
open Go.RowKit Go.Proofs.YtcagajobpnpicaaG Go.Proofs.YtcagajobpnpicaaW.PrintWords Go.Proofs.YtcagajobpnpicaaW.PrintLast Go.Proofs.YtcagajobpnpicaaW.PrintMore
attribute [local go_sem] str_gtr str_geq str_leq max2_int min2_int max_two min_two max_three min_three max_four min_four   -- for this text's walks alone
set_option linter.unusedVariables false
set_option linter.unusedSimpArgs false

namespace APx18
abbrev aW := @pw_below_drewN
abbrev aA := @below_alloc
abbrev aD := @below_drew1
abbrev aK := @Aside0.mk
abbrev aC := @blk_cell
abbrev aY := @Kd.R_far
abbrev aX := @blk_far
end APx18
open APx18
def ratlineref09_Apply.j0 : Nat → Bool → List (S58) → Int → Int → Int → List (S58) → Int → Int → Int → List (S58) → Int → Int → Int → Option ((List (S58)) × Int × Int × Int × Int)
 | 0,_,_,_,_,_,_,_,_,_,_,_,_,_ => none
 | k + 1,x52,x205000,x205001,x205002,x205003,x206000,x206001,x206002,x206003,x208000,x208001,x208002,x208003 => if x52 = true then (some (x208000,x208001,x208002,x208003,90)) else ((ratlineref09_newer.f x205001 x206001).bind fun bt214 => ((ratlineref09_newer.f x205002 x206002).bind fun bt216 => ((ratlineref09_newer.f x205003 x206003).bind fun bt218 => (if bt214.2 = true then (if bt216.2 = true then (if bt218.2 = true then (if x208000.length + x206000.length < 2932031007402 then (some ((x208000 ++ x206000),bt214.1,bt216.1,bt218.1,0)) else (none)) else (some (x208000,x208001,x208002,x208003,90))) else (some (x208000,x208001,x208002,x208003,90))) else (some (x208000,x208001,x208002,x208003,90))))))
def ratlineref09_Apply.f (k : Nat) (l0_0 : List (S58)) (a0_1 : Int) (a0_2 : Int) (a0_3 : Int) (l1_0 : List (S58)) (a1_1 : Int) (a1_2 : Int) (a1_3 : Int) : Option ((List (S58)) × Int × Int × Int × Int):=if ([] : List (S58)).length + l0_0.length < 2932031007402 then ((some (([] : List (S58)) ++ l0_0 : List (S58))).bind fun y208 => ((ratlineref09_Right.f k l1_0 a1_1 a1_2 a1_3).bind fun t211 => (if t211 = true then (if (l0_0.length : Int) > 0 then (if (l1_0.length : Int) > 0 then (if 0 < (l1_0.length : Int) then (if 0 ≤ (wrap64 ((l0_0.length : Int) - 1)) then (if (wrap64 ((l0_0.length : Int) - 1)) < (l0_0.length : Int) then (ratlineref09_Apply.j0 k (decide (((rd_T58 l1_0 0).f0) ≤ ((rd_T58 l0_0 (wrap64 ((l0_0.length : Int) - 1))).f0))) l0_0 a0_1 a0_2 a0_3 l1_0 a1_1 a1_2 a1_3 y208 a0_1 a0_2 a0_3) else (none)) else (none)) else (none)) else (ratlineref09_Apply.j0 k false l0_0 a0_1 a0_2 a0_3 l1_0 a1_1 a1_2 a1_3 y208 a0_1 a0_2 a0_3)) else (ratlineref09_Apply.j0 k false l0_0 a0_1 a0_2 a0_3 l1_0 a1_1 a1_2 a1_3 y208 a0_1 a0_2 a0_3)) else (ratlineref09_Apply.j0 k true l0_0 a0_1 a0_2 a0_3 l1_0 a1_1 a1_2 a1_3 y208 a0_1 a0_2 a0_3)))) else (none)
def ratlineref09_Apply.T5 : Bool × List (List Nat × List Nat):=(true,[([],[]),([0],[0]),([1],[1]),([2,1],[2]),([3],[3]),([4,3],[3,4]),([5,3,3],[3,5]),([6],[6]),([7,6],[6,7]),([8,6],[6,8]),([9,6],[6,9]),([6,10,3],[3,6,10]),([11,6,3],[3,11]),([12],[12]),([13,12],[12,13]),([14,12],[12,14]),([15,12],[12,15]),([16,12],[12,16]),([12],[12]),([18,12],[12,18]),([12],[12]),([20,12],[12,20]),([19,21,12],[12,19,21]),([22,12],[12,22]),([23,12],[12,23]),([17,24,12],[12,17,24]),([12,25,3],[3,12,25]),([3,26],[3,26])])
def ratlineref09_Apply.B5 : List Nat:=[0,1,3,7,15,31,63,127,255,511,1023,2047,4095,8191,16383,32767,65535,131071,8191,270335,8191,1056767,3940351,8134655,16523263,33554431,67108863,134217727]
theorem ratlineref09_Apply.tab5 : rtab .any (opsOf Try.f16 5) = ratlineref09_Apply.T5:=by kernel_rfl
theorem ratlineref09_Apply.bits5 : waitsOk ratlineref09_Apply.T5.2 ratlineref09_Apply.B5 = true:=by kernel_rfl
set_option maxHeartbeats 8000000 in
set_option maxRecDepth 100000 in
theorem ratlineref09_Apply.calls (k : Nat) (A0_0 : Option Addr) (c0_0 : Nat) (l0_0 : List (S58)) (a0_1 : Int) (a0_2 : Int) (a0_3 : Int) (A1_0 : Option Addr) (c1_0 : Nat) (l1_0 : List (S58)) (a1_1 : Int) (a1_2 : Int) (a1_3 : Int) (r1 : List (S58)) (r2 : Int) (r3 : Int) (r4 : Int) (r5 : Int) (w : World) (hr0_0 : Kd.C k58 w A0_0 l0_0.length l0_0) (hc0_0 : l0_0.length ≤ c0_0) (hr1_0 : Kd.C k58 w A1_0 l1_0.length l1_0) (hc1_0 : l1_0.length ≤ c1_0) (h : ratlineref09_Apply.f k l0_0 a0_1 a0_2 a0_3 l1_0 a1_1 a1_2 a1_3 = some (r1,r2,r3,r4,r5)) :
  Calls Try.prog 16 #[.agg #[.slice A0_0 l0_0.length c0_0,.int .u64 a0_1,.int .u64 a0_2,.int .u64 a0_3],.agg #[.slice A1_0 l1_0.length c1_0,.int .u64 a1_1,.int .u64 a1_2,.int .u64 a1_3]] w fun e w' => ∃ v0_ : Value,e = .returned (.tuple #[.agg #[v0_,.int .u64 r2,.int .u64 r3,.int .u64 r4],.int .i64 r5]) ∧ Kd.R k58 58 w' w.heap.size (fun _ => True) v0_ r1 ∧ Below w.heap.size w w':=by
 have hu28:=Try.underlying28
 have hu25:=Try.underlying25
 have HR0_0:=aK hr0_0
 have HC0_0:=aK hc0_0
 clear hr0_0 hc0_0
 have HR1_0:=aK hr1_0
 have HC1_0:=aK hc1_0
 clear hr1_0 hc1_0
 have HB:=aK (Below.refl w.heap.size w)
 have H : (if ([] : List (S58)).length + l0_0.length < 2932031007402 then ((some (([] : List (S58)) ++ l0_0 : List (S58))).bind fun y208 => ((ratlineref09_Right.f k l1_0 a1_1 a1_2 a1_3).bind fun t211 => (if t211 = true then (if (l0_0.length : Int) > 0 then (if (l1_0.length : Int) > 0 then (if 0 < (l1_0.length : Int) then (if 0 ≤ (wrap64 ((l0_0.length : Int) - 1)) then (if (wrap64 ((l0_0.length : Int) - 1)) < (l0_0.length : Int) then (ratlineref09_Apply.j0 k (decide (((rd_T58 l1_0 0).f0) ≤ ((rd_T58 l0_0 (wrap64 ((l0_0.length : Int) - 1))).f0))) l0_0 a0_1 a0_2 a0_3 l1_0 a1_1 a1_2 a1_3 y208 a0_1 a0_2 a0_3) else (none)) else (none)) else (none)) else (ratlineref09_Apply.j0 k false l0_0 a0_1 a0_2 a0_3 l1_0 a1_1 a1_2 a1_3 y208 a0_1 a0_2 a0_3)) else (ratlineref09_Apply.j0 k false l0_0 a0_1 a0_2 a0_3 l1_0 a1_1 a1_2 a1_3 y208 a0_1 a0_2 a0_3)) else (ratlineref09_Apply.j0 k true l0_0 a0_1 a0_2 a0_3 l1_0 a1_1 a1_2 a1_3 y208 a0_1 a0_2 a0_3)))) else (none)) = some (r1,r2,r3,r4,r5):=h
 clear h
 by_cases c3 : ([] : List (S58)).length + l0_0.length < 2932031007402
 rotate_left
 ·rw [if_neg c3] at H
  exact absurd H (by simp)

 rw [if_pos c3] at H
 have LMc3:=aK c3
 clear c3
 obtain ⟨y208,hy208⟩ : ∃ y_ : List (S58),y_ = (([] : List (S58)) ++ l0_0):=⟨_,rfl⟩
 replace H : ((ratlineref09_Right.f k l1_0 a1_1 a1_2 a1_3).bind fun t211 => (if t211 = true then (if (l0_0.length : Int) > 0 then (if (l1_0.length : Int) > 0 then (if 0 < (l1_0.length : Int) then (if 0 ≤ (wrap64 ((l0_0.length : Int) - 1)) then (if (wrap64 ((l0_0.length : Int) - 1)) < (l0_0.length : Int) then (ratlineref09_Apply.j0 k (decide (((rd_T58 l1_0 0).f0) ≤ ((rd_T58 l0_0 (wrap64 ((l0_0.length : Int) - 1))).f0))) l0_0 a0_1 a0_2 a0_3 l1_0 a1_1 a1_2 a1_3 y208 a0_1 a0_2 a0_3) else (none)) else (none)) else (none)) else (ratlineref09_Apply.j0 k false l0_0 a0_1 a0_2 a0_3 l1_0 a1_1 a1_2 a1_3 y208 a0_1 a0_2 a0_3)) else (ratlineref09_Apply.j0 k false l0_0 a0_1 a0_2 a0_3 l1_0 a1_1 a1_2 a1_3 y208 a0_1 a0_2 a0_3)) else (ratlineref09_Apply.j0 k true l0_0 a0_1 a0_2 a0_3 l1_0 a1_1 a1_2 a1_3 y208 a0_1 a0_2 a0_3))) = some (r1,r2,r3,r4,r5):=by first|(rw [hy208];with_reducible exact H)|(have H2_:=(Option.bind_some _ _).symm.trans H;rw [hy208];with_reducible exact H2_)|(have H2_:=(Option.bind_some _ _).symm.trans H;with_reducible exact H2_)|with_reducible exact H|(rw [hy208];exact H)|exact H
 have Ny208:=aK hy208
 clear hy208
 have HC4:=aK H
 clear H
 go_enter Try.func16,Try.ntmps16
 go_upto_region 5 with (first|((with_reducible refine gate_dst (N:=2) rfl ?_);(try (refine gate_guard (by rfl) ?_;dsimp only));refine box_event ?hg (N:=2) ?hd (cs:=#[.slice A0_0 l0_0.length c0_0,.int .u64 a0_1,.int .u64 a0_2,.int .u64 a0_3]) (t:=28) ?hr ?_;(case hd => rfl);(case hg => rfl);(case hr => first|(go_simp;done)|(go_simp;rfl));intro gb204 hg w5 hbox hb;have n0_:=aK (below_step (by repeat (first|(with_reducible first|exact HB.out|apply aA|apply aW|apply aD)|exact HB.out)) hb);have n1_:=aK (hbox);have n2_:=aK ((by rw [hg];exact (below_size (by repeat (first|(with_reducible first|exact HB.out|apply aA|apply aW|apply aD)|exact HB.out))) : w.heap.size ≤ gb204));have n3_:=aK ((by rw [hg];exact (below_size (by repeat (first|(with_reducible first|exact HB.out|apply aA|apply aW|apply aD)|exact HB.out))) : w.heap.size ≤ gb204));clear HB;have HB:=n0_;have BK204:=n1_;have GW204:=n2_;have GE204:=n3_;clear n0_ n1_ n2_ n3_;clear hb hbox hg)|((with_reducible refine gate_dst (N:=3) rfl ?_);(try (refine gate_guard (by rfl) ?_;dsimp only));refine box_event ?hg (N:=3) ?hd (cs:=#[.slice A1_0 l1_0.length c1_0,.int .u64 a1_1,.int .u64 a1_2,.int .u64 a1_3]) (t:=25) ?hr ?_;(case hd => rfl);(case hg => rfl);(case hr => first|(go_simp;done)|(go_simp;rfl));intro gb205 hg w6 hbox hb;have n0_:=aK (blk_below (g:=gb204) (o:=.cells #[.slice A0_0 l0_0.length c0_0,.int .u64 a0_1,.int .u64 a0_2,.int .u64 a0_3] 28 (0,0)) (by (with_reducible repeat (first|apply bN|apply bD|apply bA));exact BK204.out) hb);have n1_:=aK (below_step (by repeat (first|(with_reducible first|exact HB.out|apply aA|apply aW|apply aD|refine below_set ?_ GE204.out)|exact HB.out)) hb);have n2_:=aK (hbox);have n3_:=aK ((by rw [hg];exact (below_size (by repeat (first|(with_reducible first|exact HB.out|apply aA|apply aW|apply aD|refine below_set ?_ GE204.out)|exact HB.out))) : w.heap.size ≤ gb205));have n4_:=aK ((by rw [hg];exact (below_size (by repeat (first|(with_reducible first|exact HB.out|apply aA|apply aW|apply aD|refine below_set ?_ GE204.out)|exact HB.out))) : w.heap.size ≤ gb205));have n5_:=aK ((by rw [hg];exact Nat.ne_of_lt (blk_lt (g:=gb204) (o:=.cells #[.slice A0_0 l0_0.length c0_0,.int .u64 a0_1,.int .u64 a0_2,.int .u64 a0_3] 28 (0,0)) (by (with_reducible repeat (first|apply bN|apply bD|apply bA));exact BK204.out)) : gb204 ≠ gb205));have n6_:=aK ((by rw [hg];exact Nat.ne_of_gt (blk_lt (g:=gb204) (o:=.cells #[.slice A0_0 l0_0.length c0_0,.int .u64 a0_1,.int .u64 a0_2,.int .u64 a0_3] 28 (0,0)) (by (with_reducible repeat (first|apply bN|apply bD|apply bA));exact BK204.out)) : gb205 ≠ gb204));clear BK204;clear HB;have BK204:=n0_;have HB:=n1_;have BK205:=n2_;have GW205:=n3_;have GE205:=n4_;have NB204_205:=n5_;have NB205_204:=n6_;clear n0_ n1_ n2_ n3_ n4_ n5_ n6_;clear hb hbox hg)|((with_reducible refine gate_dst (N:=4) rfl ?_);(try (refine gate_guard (by rfl) ?_;dsimp only));refine box_event ?hg (N:=4) ?hd (cs:=#[.slice none 0 0,.int .u64 0,.int .u64 0,.int .u64 0]) (t:=28) ?hr ?_;(case hd => rfl);(case hg => rfl);(case hr => first|(go_simp;done)|(go_simp;rfl));intro gb206 hg w7 hbox hb;have n0_:=aK (blk_below (g:=gb204) (o:=.cells #[.slice A0_0 l0_0.length c0_0,.int .u64 a0_1,.int .u64 a0_2,.int .u64 a0_3] 28 (0,0)) (by (with_reducible repeat (first|apply bN|apply bD|apply bA));exact BK204.out) hb);have n1_:=aK (blk_below (g:=gb205) (o:=.cells #[.slice A1_0 l1_0.length c1_0,.int .u64 a1_1,.int .u64 a1_2,.int .u64 a1_3] 25 (0,0)) (by (with_reducible repeat (first|apply bN|apply bD|apply bA));exact BK205.out) hb);have n2_:=aK (below_step (by repeat (first|(with_reducible first|exact HB.out|apply aA|apply aW|apply aD|refine below_set ?_ GE204.out|refine below_set ?_ GE205.out)|exact HB.out)) hb);have n3_:=aK (hbox);have n4_:=aK ((by rw [hg];exact (below_size (by repeat (first|(with_reducible first|exact HB.out|apply aA|apply aW|apply aD|refine below_set ?_ GE204.out|refine below_set ?_ GE205.out)|exact HB.out))) : w.heap.size ≤ gb206));have n5_:=aK ((by rw [hg];exact (below_size (by repeat (first|(with_reducible first|exact HB.out|apply aA|apply aW|apply aD|refine below_set ?_ GE204.out|refine below_set ?_ GE205.out)|exact HB.out))) : w.heap.size ≤ gb206));have n6_:=aK ((by rw [hg];exact Nat.ne_of_lt (blk_lt (g:=gb204) (o:=.cells #[.slice A0_0 l0_0.length c0_0,.int .u64 a0_1,.int .u64 a0_2,.int .u64 a0_3] 28 (0,0)) (by (with_reducible repeat (first|apply bN|apply bD|apply bA));exact BK204.out)) : gb204 ≠ gb206));have n7_:=aK ((by rw [hg];exact Nat.ne_of_gt (blk_lt (g:=gb204) (o:=.cells #[.slice A0_0 l0_0.length c0_0,.int .u64 a0_1,.int .u64 a0_2,.int .u64 a0_3] 28 (0,0)) (by (with_reducible repeat (first|apply bN|apply bD|apply bA));exact BK204.out)) : gb206 ≠ gb204));have n8_:=aK ((by rw [hg];exact Nat.ne_of_lt (blk_lt (g:=gb205) (o:=.cells #[.slice A1_0 l1_0.length c1_0,.int .u64 a1_1,.int .u64 a1_2,.int .u64 a1_3] 25 (0,0)) (by (with_reducible repeat (first|apply bN|apply bD|apply bA));exact BK205.out)) : gb205 ≠ gb206));have n9_:=aK ((by rw [hg];exact Nat.ne_of_gt (blk_lt (g:=gb205) (o:=.cells #[.slice A1_0 l1_0.length c1_0,.int .u64 a1_1,.int .u64 a1_2,.int .u64 a1_3] 25 (0,0)) (by (with_reducible repeat (first|apply bN|apply bD|apply bA));exact BK205.out)) : gb206 ≠ gb205));clear BK204;clear BK205;clear HB;have BK204:=n0_;have BK205:=n1_;have HB:=n2_;have BK206:=n3_;have GW206:=n4_;have GE206:=n5_;have NB204_206:=n6_;have NB206_204:=n7_;have NB205_206:=n8_;have NB206_205:=n9_;clear n0_ n1_ n2_ n3_ n4_ n5_ n6_ n7_ n8_ n9_;clear hb hbox hg;have hnb8:=NB204_205.out;have hnc8:=NB205_204.out;have hnb9:=NB204_206.out;have hnc9:=NB206_204.out;have hcz10_0 : w7.cell? ⟨gb204,0,none⟩ = some (.slice A0_0 l0_0.length c0_0):=(aC BK204.out 0).trans rfl;have hcz10_1 : w7.cell? ⟨gb204,1,none⟩ = some (.int .u64 a0_1):=(aC BK204.out 1).trans rfl;have hcz10_2 : w7.cell? ⟨gb204,2,none⟩ = some (.int .u64 a0_2):=(aC BK204.out 2).trans rfl;have hcz10_3 : w7.cell? ⟨gb204,3,none⟩ = some (.int .u64 a0_3):=(aC BK204.out 3).trans rfl;have hfz10_0:=blk_frozen BK204.out 0;have hfz10_1:=blk_frozen BK204.out 1;have hfz10_2:=blk_frozen BK204.out 2;have hfz10_3:=blk_frozen BK204.out 3)|((with_reducible refine gate_dst (N:=6) rfl ?_);(try (refine gate_guard (by rfl) ?_;dsimp only));refine box_event ?hg (N:=6) ?hd (cs:=#[.slice none 0 0,.int .u64 0,.int .u64 0,.int .u64 0]) (t:=28) ?hr ?_;(case hd => rfl);(case hg => rfl);(case hr => first|(go_simp;done)|(go_simp;rfl));intro gb207 hg w11 hbox hb;have n0_:=aK (blk_below (g:=gb204) (o:=.cells #[.slice A0_0 l0_0.length c0_0,.int .u64 a0_1,.int .u64 a0_2,.int .u64 a0_3] 28 (0,0)) (by (with_reducible repeat (first|apply bN|apply bD|apply bA));exact BK204.out) hb);have n1_:=aK (blk_below (g:=gb205) (o:=.cells #[.slice A1_0 l1_0.length c1_0,.int .u64 a1_1,.int .u64 a1_2,.int .u64 a1_3] 25 (0,0)) (by (with_reducible repeat (first|apply bN|apply bD|apply bA));exact BK205.out) hb);have n2_:=aK (blk_below (g:=gb206) (o:=.cells #[.slice none 0 0,.int .u64 0,.int .u64 0,.int .u64 0] 28 (0,0)) (by (with_reducible repeat (first|apply bN|apply bD|apply bA));exact BK206.out) hb);have n3_:=aK (below_step (by repeat (first|(with_reducible first|exact HB.out|apply aA|apply aW|apply aD|refine below_set ?_ GE204.out|refine below_set ?_ GE205.out|refine below_set ?_ GE206.out)|exact HB.out)) hb);have n4_:=aK (hbox);have n5_:=aK ((by rw [hg];exact (below_size (by repeat (first|(with_reducible first|exact HB.out|apply aA|apply aW|apply aD|refine below_set ?_ GE204.out|refine below_set ?_ GE205.out|refine below_set ?_ GE206.out)|exact HB.out))) : w.heap.size ≤ gb207));have n6_:=aK ((by rw [hg];exact (below_size (by repeat (first|(with_reducible first|exact HB.out|apply aA|apply aW|apply aD|refine below_set ?_ GE204.out|refine below_set ?_ GE205.out|refine below_set ?_ GE206.out)|exact HB.out))) : w.heap.size ≤ gb207));have n7_:=aK ((by rw [hg];exact Nat.ne_of_lt (blk_lt (g:=gb204) (o:=.cells #[.slice A0_0 l0_0.length c0_0,.int .u64 a0_1,.int .u64 a0_2,.int .u64 a0_3] 28 (0,0)) (by (with_reducible repeat (first|apply bN|apply bD|apply bA));exact BK204.out)) : gb204 ≠ gb207));have n8_:=aK ((by rw [hg];exact Nat.ne_of_gt (blk_lt (g:=gb204) (o:=.cells #[.slice A0_0 l0_0.length c0_0,.int .u64 a0_1,.int .u64 a0_2,.int .u64 a0_3] 28 (0,0)) (by (with_reducible repeat (first|apply bN|apply bD|apply bA));exact BK204.out)) : gb207 ≠ gb204));have n9_:=aK ((by rw [hg];exact Nat.ne_of_lt (blk_lt (g:=gb205) (o:=.cells #[.slice A1_0 l1_0.length c1_0,.int .u64 a1_1,.int .u64 a1_2,.int .u64 a1_3] 25 (0,0)) (by (with_reducible repeat (first|apply bN|apply bD|apply bA));exact BK205.out)) : gb205 ≠ gb207));have n10_:=aK ((by rw [hg];exact Nat.ne_of_gt (blk_lt (g:=gb205) (o:=.cells #[.slice A1_0 l1_0.length c1_0,.int .u64 a1_1,.int .u64 a1_2,.int .u64 a1_3] 25 (0,0)) (by (with_reducible repeat (first|apply bN|apply bD|apply bA));exact BK205.out)) : gb207 ≠ gb205));have n11_:=aK ((by rw [hg];exact Nat.ne_of_lt (blk_lt (g:=gb206) (o:=.cells #[.slice none 0 0,.int .u64 0,.int .u64 0,.int .u64 0] 28 (0,0)) (by (with_reducible repeat (first|apply bN|apply bD|apply bA));exact BK206.out)) : gb206 ≠ gb207));have n12_:=aK ((by rw [hg];exact Nat.ne_of_gt (blk_lt (g:=gb206) (o:=.cells #[.slice none 0 0,.int .u64 0,.int .u64 0,.int .u64 0] 28 (0,0)) (by (with_reducible repeat (first|apply bN|apply bD|apply bA));exact BK206.out)) : gb207 ≠ gb206));clear BK204;clear BK205;clear BK206;clear HB;have BK204:=n0_;have BK205:=n1_;have BK206:=n2_;have HB:=n3_;have BK207:=n4_;have GW207:=n5_;have GE207:=n6_;have NB204_207:=n7_;have NB207_204:=n8_;have NB205_207:=n9_;have NB207_205:=n10_;have NB206_207:=n11_;have NB207_206:=n12_;clear n0_ n1_ n2_ n3_ n4_ n5_ n6_ n7_ n8_ n9_ n10_ n11_ n12_;clear hb hbox hg;have hnb12:=NB207_204.out;have hnc12:=NB204_207.out;have hnb13:=NB207_205.out;have hnc13:=NB205_207.out;have hnb14:=NB207_206.out;have hnc14:=NB206_207.out;have hcz15_0 : w11.cell? ⟨gb207,0,none⟩ = some (.slice none 0 0):=(aC BK207.out 0).trans rfl;have hcz15_1 : w11.cell? ⟨gb207,1,none⟩ = some (.int .u64 0):=(aC BK207.out 1).trans rfl;have hcz15_2 : w11.cell? ⟨gb207,2,none⟩ = some (.int .u64 0):=(aC BK207.out 2).trans rfl;have hcz15_3 : w11.cell? ⟨gb207,3,none⟩ = some (.int .u64 0):=(aC BK207.out 3).trans rfl;have hfz15_0:=blk_frozen BK207.out 0;have hfz15_1:=blk_frozen BK207.out 1;have hfz15_2:=blk_frozen BK207.out 2;have hfz15_3:=blk_frozen BK207.out 3;have hcz16_0 : w11.cell? ⟨gb204,0,none⟩ = some (.slice A0_0 l0_0.length c0_0):=(aC BK204.out 0).trans rfl;have hcz16_1 : w11.cell? ⟨gb204,1,none⟩ = some (.int .u64 a0_1):=(aC BK204.out 1).trans rfl;have hcz16_2 : w11.cell? ⟨gb204,2,none⟩ = some (.int .u64 a0_2):=(aC BK204.out 2).trans rfl;have hcz16_3 : w11.cell? ⟨gb204,3,none⟩ = some (.int .u64 a0_3):=(aC BK204.out 3).trans rfl;have hfz16_0:=blk_frozen BK204.out 0;have hfz16_1:=blk_frozen BK204.out 1;have hfz16_2:=blk_frozen BK204.out 2;have hfz16_3:=blk_frozen BK204.out 3)|((with_reducible refine gate_builtin (b:=.append) (xs:=#[.tmp 17,.tmp 19]) rfl ?_);(try (refine gate_guard (by rfl) ?_;dsimp only));at_builtin;refine Kd.R_append_rows k58 (w0:=w) w.heap.size rfl (.tmp 17) (.tmp 19) 22 58 (.agg #[(.int .u64 0),(.int .u64 0),(.string ⟨#[]⟩),(.string ⟨#[]⟩)]) 48 rfl Try.underlying22 info58 rfl (by decide) (by omega) (.slice none 0 0) ([] : List (S58)) l0_0 _ _ _ (fun _ => True) (fun _ => False) rfl rfl ?aO ?aR (fun _ _ h => h) (fun _ h => h.elim) ?aF ?aB ?aS ?aL ?_;(case aR => exact Kd.C_below HR0_0.out (by repeat (first|(with_reducible first|exact HB.out|apply aA|apply aW|apply aD|refine below_set ?_ GE204.out|refine below_set ?_ GE205.out|refine below_set ?_ GE206.out|refine below_set ?_ GE207.out)|exact HB.out)));(case aB => exact (by repeat (first|(with_reducible first|exact HB.out|apply aA|apply aW|apply aD|refine below_set ?_ GE204.out|refine below_set ?_ GE205.out|refine below_set ?_ GE206.out|refine below_set ?_ GE207.out)|exact HB.out)));(case aF => exact (fun _ _ => trivial));(case aO => exact ((Kd.R_nil _ _ _ _ (fun _ => True))));(case aS => exact (below_size (by repeat (first|(with_reducible first|exact HB.out|apply aA|apply aW|apply aD|refine below_set ?_ GE204.out|refine below_set ?_ GE205.out|refine below_set ?_ GE206.out|refine below_set ?_ GE207.out)|exact HB.out))));(case aL => have:=LMc3.out;omega);intro v209 w17 ho hb hg hat;rw [← Ny208.out] at ho;have n0_:=aK (blk_grown (g:=gb204) (o:=.cells #[.slice A0_0 l0_0.length c0_0,.int .u64 a0_1,.int .u64 a0_2,.int .u64 a0_3] 28 (0,0)) (by (with_reducible repeat (first|apply bN|apply bD|apply bA));refine aX ?_ NB204_207.out _;(with_reducible repeat (first|apply bN|apply bD|apply bA));refine aX ?_ NB204_207.out _;(with_reducible repeat (first|apply bN|apply bD|apply bA));refine aX ?_ NB204_207.out _;(with_reducible repeat (first|apply bN|apply bD|apply bA));refine aX ?_ NB204_207.out _;(with_reducible repeat (first|apply bN|apply bD|apply bA));refine aX ?_ NB204_207.out _;(with_reducible repeat (first|apply bN|apply bD|apply bA));exact BK204.out) hg (by simp [Value.ownBlock]));have n1_:=aK (blk_grown (g:=gb205) (o:=.cells #[.slice A1_0 l1_0.length c1_0,.int .u64 a1_1,.int .u64 a1_2,.int .u64 a1_3] 25 (0,0)) (by (with_reducible repeat (first|apply bN|apply bD|apply bA));refine aX ?_ NB205_207.out _;(with_reducible repeat (first|apply bN|apply bD|apply bA));refine aX ?_ NB205_207.out _;(with_reducible repeat (first|apply bN|apply bD|apply bA));refine aX ?_ NB205_207.out _;(with_reducible repeat (first|apply bN|apply bD|apply bA));refine aX ?_ NB205_207.out _;(with_reducible repeat (first|apply bN|apply bD|apply bA));refine aX ?_ NB205_207.out _;(with_reducible repeat (first|apply bN|apply bD|apply bA));exact BK205.out) hg (by simp [Value.ownBlock]));have n2_:=aK (blk_grown (g:=gb206) (o:=.cells #[.slice none 0 0,.int .u64 0,.int .u64 0,.int .u64 0] 28 (0,0)) (by (with_reducible repeat (first|apply bN|apply bD|apply bA));refine aX ?_ NB206_207.out _;(with_reducible repeat (first|apply bN|apply bD|apply bA));refine aX ?_ NB206_207.out _;(with_reducible repeat (first|apply bN|apply bD|apply bA));refine aX ?_ NB206_207.out _;(with_reducible repeat (first|apply bN|apply bD|apply bA));refine aX ?_ NB206_207.out _;(with_reducible repeat (first|apply bN|apply bD|apply bA));refine aX ?_ NB206_207.out _;(with_reducible repeat (first|apply bN|apply bD|apply bA));exact BK206.out) hg (by simp [Value.ownBlock]));have n3_:=aK (blk_grown (g:=gb207) (o:=.cells #[.slice none 0 0,.int .u64 a0_1,.int .u64 a0_2,.int .u64 a0_3] 28 (0,0)) (by (with_reducible repeat (first|apply bN|apply bD|apply bA));refine blk_put (cs:=#[.slice A0_0 l0_0.length c0_0,.int .u64 a0_1,.int .u64 a0_2,.int .u64 a0_3]) ?_ 0 _ rfl;(with_reducible repeat (first|apply bN|apply bD|apply bA));refine blk_put (cs:=#[.slice A0_0 l0_0.length c0_0,.int .u64 a0_1,.int .u64 a0_2,.int .u64 0]) ?_ 3 _ rfl;(with_reducible repeat (first|apply bN|apply bD|apply bA));refine blk_put (cs:=#[.slice A0_0 l0_0.length c0_0,.int .u64 a0_1,.int .u64 0,.int .u64 0]) ?_ 2 _ rfl;(with_reducible repeat (first|apply bN|apply bD|apply bA));refine blk_put (cs:=#[.slice A0_0 l0_0.length c0_0,.int .u64 0,.int .u64 0,.int .u64 0]) ?_ 1 _ rfl;(with_reducible repeat (first|apply bN|apply bD|apply bA));refine blk_put (cs:=#[.slice none 0 0,.int .u64 0,.int .u64 0,.int .u64 0]) ?_ 0 _ rfl;(with_reducible repeat (first|apply bN|apply bD|apply bA));exact BK207.out) hg (by simp [Value.ownBlock]));have n4_:=aK (hb);have n5_:=aK (ho);clear BK204;clear BK205;clear BK206;clear BK207;clear HB;have BK204:=n0_;have BK205:=n1_;have BK206:=n2_;have BK207:=n3_;have HB:=n4_;have HO210:=n5_;clear n0_ n1_ n2_ n3_ n4_ n5_;clear ho hb hg hat;obtain ⟨Ao18,co18,eo18⟩:=Kd.R_slice HO210.out;subst eo18;have hcz19_0 : w17.cell? ⟨gb207,0,none⟩ = some (.slice none 0 0):=(aC BK207.out 0).trans rfl;have hcz19_1 : w17.cell? ⟨gb207,1,none⟩ = some (.int .u64 a0_1):=(aC BK207.out 1).trans rfl;have hcz19_2 : w17.cell? ⟨gb207,2,none⟩ = some (.int .u64 a0_2):=(aC BK207.out 2).trans rfl;have hcz19_3 : w17.cell? ⟨gb207,3,none⟩ = some (.int .u64 a0_3):=(aC BK207.out 3).trans rfl;have hfz19_0:=blk_frozen BK207.out 0;have hfz19_1:=blk_frozen BK207.out 1;have hfz19_2:=blk_frozen BK207.out 2;have hfz19_3:=blk_frozen BK207.out 3;have hcz20_0 : w17.cell? ⟨gb204,0,none⟩ = some (.slice A0_0 l0_0.length c0_0):=(aC BK204.out 0).trans rfl;have hcz20_1 : w17.cell? ⟨gb204,1,none⟩ = some (.int .u64 a0_1):=(aC BK204.out 1).trans rfl;have hcz20_2 : w17.cell? ⟨gb204,2,none⟩ = some (.int .u64 a0_2):=(aC BK204.out 2).trans rfl;have hcz20_3 : w17.cell? ⟨gb204,3,none⟩ = some (.int .u64 a0_3):=(aC BK204.out 3).trans rfl;have hfz20_0:=blk_frozen BK204.out 0;have hfz20_1:=blk_frozen BK204.out 1;have hfz20_2:=blk_frozen BK204.out 2;have hfz20_3:=blk_frozen BK204.out 3))
 (try simp only [Act.put,sA,sZ,sS])
 go_cut [52] (fun v52 wc => ∃ (kq : Nat) (x52_3 : Bool),v52 = .bool x52_3 ∧ Aside0 (ratlineref09_Apply.j0 kq x52_3 l0_0 a0_1 a0_2 a0_3 l1_0 a1_1 a1_2 a1_3 y208 a0_1 a0_2 a0_3 = some (r1,r2,r3,r4,r5)) ∧ Aside0 (kq ≤ k) ∧ Aside0 (Kd.R k58 58 wc w.heap.size (fun _ => True) (.slice Ao18 y208.length co18) y208) ∧ Aside0 (wc.heap[gb204]? = some (.cells #[(.slice A0_0 l0_0.length c0_0),.int .u64 a0_1,.int .u64 a0_2,.int .u64 a0_3] 28 (0,0))) ∧ Aside0 (wc.heap[gb205]? = some (.cells #[(.slice A1_0 l1_0.length c1_0),.int .u64 a1_1,.int .u64 a1_2,.int .u64 a1_3] 25 (0,0))) ∧ Aside0 (wc.heap[gb206]? = some (.cells #[(.slice none 0 0),.int .u64 0,.int .u64 0,.int .u64 0] 28 (0,0))) ∧ Aside0 (wc.heap[gb207]? = some (.cells #[(.slice Ao18 y208.length co18),.int .u64 a0_1,.int .u64 a0_2,.int .u64 a0_3] 28 (0,0))) ∧ Aside0 (Below w.heap.size w wc))
 case first =>
  have H:=HC4.out
  clear HC4
  replace H:=Option.bind_eq_some_iff.mp H
  obtain ⟨t211,A210,H⟩:=H
  replace H : (if t211 = true then (if (l0_0.length : Int) > 0 then (if (l1_0.length : Int) > 0 then (if 0 < (l1_0.length : Int) then (if 0 ≤ (wrap64 ((l0_0.length : Int) - 1)) then (if (wrap64 ((l0_0.length : Int) - 1)) < (l0_0.length : Int) then (ratlineref09_Apply.j0 k (decide (((rd_T58 l1_0 0).f0) ≤ ((rd_T58 l0_0 (wrap64 ((l0_0.length : Int) - 1))).f0))) l0_0 a0_1 a0_2 a0_3 l1_0 a1_1 a1_2 a1_3 y208 a0_1 a0_2 a0_3) else (none)) else (none)) else (none)) else (ratlineref09_Apply.j0 k false l0_0 a0_1 a0_2 a0_3 l1_0 a1_1 a1_2 a1_3 y208 a0_1 a0_2 a0_3)) else (ratlineref09_Apply.j0 k false l0_0 a0_1 a0_2 a0_3 l1_0 a1_1 a1_2 a1_3 y208 a0_1 a0_2 a0_3)) else (ratlineref09_Apply.j0 k true l0_0 a0_1 a0_2 a0_3 l1_0 a1_1 a1_2 a1_3 y208 a0_1 a0_2 a0_3)) = some (r1,r2,r3,r4,r5):=H
  have A21:=aK A210
  clear A210
  by_cases c22 : t211 = true
  ·subst c22
   have H1 : (if (l0_0.length : Int) > 0 then (if (l1_0.length : Int) > 0 then (if 0 < (l1_0.length : Int) then (if 0 ≤ (wrap64 ((l0_0.length : Int) - 1)) then (if (wrap64 ((l0_0.length : Int) - 1)) < (l0_0.length : Int) then (ratlineref09_Apply.j0 k (decide (((rd_T58 l1_0 0).f0) ≤ ((rd_T58 l0_0 (wrap64 ((l0_0.length : Int) - 1))).f0))) l0_0 a0_1 a0_2 a0_3 l1_0 a1_1 a1_2 a1_3 y208 a0_1 a0_2 a0_3) else (none)) else (none)) else (none)) else (ratlineref09_Apply.j0 k false l0_0 a0_1 a0_2 a0_3 l1_0 a1_1 a1_2 a1_3 y208 a0_1 a0_2 a0_3)) else (ratlineref09_Apply.j0 k false l0_0 a0_1 a0_2 a0_3 l1_0 a1_1 a1_2 a1_3 y208 a0_1 a0_2 a0_3)) = some (r1,r2,r3,r4,r5):=by rw [if_pos rfl] at H;exact H
   clear H
   have H:=H1
   clear H1
   by_cases c23 : (l0_0.length : Int) > 0
   ·rw [if_pos c23] at H
    have c23b0 : decide (0 < (l0_0.length : Int)) = true:=decide_eq_true c23
    have c23b1 : decide (0 < l0_0.length) = true:=decide_eq_true (by omega)
    clear c23
    (first|rw [c23b0]|(simp only [i64_w,i32_w];rw [c23b0])|skip)
    by_cases c24 : (l1_0.length : Int) > 0
    ·rw [if_pos c24] at H
     have c24b0 : decide (0 < (l1_0.length : Int)) = true:=decide_eq_true c24
     have c24b1 : decide (0 < l1_0.length) = true:=decide_eq_true (by omega)
     clear c24
     by_cases c25 : 0 < (l1_0.length : Int)
     rotate_left
     ·rw [if_neg c25] at H
      exact absurd H (by simp)
     rw [if_pos c25] at H
     have c25b0 : decide (0 < (l1_0.length : Int)) = true:=decide_eq_true c25
     have c25b1 : decide (0 < l1_0.length) = true:=decide_eq_true (by omega)
     clear c25
     obtain ⟨ji26,hji26⟩ : ∃ j_ : Int,(wrap64 ((l0_0.length : Int) - 1)) = j_:=⟨_,rfl⟩
     replace H : (if 0 ≤ (ji26) then (if (ji26) < (l0_0.length : Int) then (ratlineref09_Apply.j0 k (decide (((rd_T58 l1_0 0).f0) ≤ ((rd_T58 l0_0 (ji26)).f0))) l0_0 a0_1 a0_2 a0_3 l1_0 a1_1 a1_2 a1_3 y208 a0_1 a0_2 a0_3) else (none)) else (none)) = some (r1,r2,r3,r4,r5):=by first|(rw [hji26] at H;exact H)|(simp only [hji26] at H ⊢;exact H)
     (try rw [hji26] at A21)
     have hji26w : (IntKind.i64.wrap ((l0_0.length : Int) - 1)) = ji26:=(i64_w _).trans hji26
     by_cases c27 : 0 ≤ (ji26)
     rotate_left
     ·rw [if_neg c27] at H
      exact absurd H (by simp)
     rw [if_pos c27] at H
     have c27b0 : decide (0 ≤ (ji26)) = true:=decide_eq_true c27
     clear c27
     by_cases c28 : (ji26) < (l0_0.length : Int)
     rotate_left
     ·rw [if_neg c28] at H
      exact absurd H (by simp)
     rw [if_pos c28] at H
     have c28b0 : decide ((ji26) < (l0_0.length : Int)) = true:=decide_eq_true c28
     clear c28
     have H':=aK H
     clear H
     try go_wp2
     have n0_ : Aside0 (Kd.R k58 58 (w17.setCell ⟨gb207,0,none⟩ (.slice Ao18 y208.length co18)) w.heap.size (fun _ => True) (.slice Ao18 y208.length co18) y208):=⟨by (with_reducible repeat (first|apply zA|apply zN|apply zD));exact Kd.R_mono (aY (p:=⟨gb207,0,none⟩) (Kd.R_types HO210.out BK207.out (by decide)) (fun _ hk => hk.2) (.slice Ao18 y208.length co18)) (fun _ hk => trivial)⟩
     have n1_ : Aside0 ((w17.setCell ⟨gb207,0,none⟩ (.slice Ao18 y208.length co18)).heap[gb204]? = some (.cells #[.slice A0_0 l0_0.length c0_0,.int .u64 a0_1,.int .u64 a0_2,.int .u64 a0_3] 28 (0,0))):=⟨by (with_reducible repeat (first|apply bN|apply bD|apply bA));refine aX ?_ NB204_207.out _;(with_reducible repeat (first|apply bN|apply bD|apply bA));exact BK204.out⟩
     have n2_ : Aside0 ((w17.setCell ⟨gb207,0,none⟩ (.slice Ao18 y208.length co18)).heap[gb205]? = some (.cells #[.slice A1_0 l1_0.length c1_0,.int .u64 a1_1,.int .u64 a1_2,.int .u64 a1_3] 25 (0,0))):=⟨by (with_reducible repeat (first|apply bN|apply bD|apply bA));refine aX ?_ NB205_207.out _;(with_reducible repeat (first|apply bN|apply bD|apply bA));exact BK205.out⟩
     have n3_ : Aside0 ((w17.setCell ⟨gb207,0,none⟩ (.slice Ao18 y208.length co18)).heap[gb206]? = some (.cells #[.slice none 0 0,.int .u64 0,.int .u64 0,.int .u64 0] 28 (0,0))):=⟨by (with_reducible repeat (first|apply bN|apply bD|apply bA));refine aX ?_ NB206_207.out _;(with_reducible repeat (first|apply bN|apply bD|apply bA));exact BK206.out⟩
     have n4_ : Aside0 ((w17.setCell ⟨gb207,0,none⟩ (.slice Ao18 y208.length co18)).heap[gb207]? = some (.cells #[.slice Ao18 y208.length co18,.int .u64 a0_1,.int .u64 a0_2,.int .u64 a0_3] 28 (0,0))):=⟨by (with_reducible repeat (first|apply bN|apply bD|apply bA));refine blk_put (cs:=#[.slice none 0 0,.int .u64 a0_1,.int .u64 a0_2,.int .u64 a0_3]) ?_ 0 _ rfl;(with_reducible repeat (first|apply bN|apply bD|apply bA));exact BK207.out⟩
     have n5_ : Aside0 (Below w.heap.size w (w17.setCell ⟨gb207,0,none⟩ (.slice Ao18 y208.length co18))):=⟨by repeat (first|(with_reducible first|exact HB.out|apply aA|apply aW|apply aD|refine below_set ?_ GE204.out|refine below_set ?_ GE205.out|refine below_set ?_ GE206.out|refine below_set ?_ GE207.out)|exact HB.out)⟩
     (try clear HO210)
     (try clear BK204)
     (try clear BK205)
     (try clear BK206)
     (try clear BK207)
     (try clear HB)
     generalize (w17.setCell ⟨gb207,0,none⟩ (.slice Ao18 y208.length co18)) = w29 at n0_ n1_ n2_ n3_ n4_ n5_ ⊢
     have HO210:=n0_
     have BK204:=n1_
     have BK205:=n2_
     have BK206:=n3_
     have BK207:=n4_
     have HB:=n5_
     clear n0_ n1_ n2_ n3_ n4_ n5_
     have n0_:=aK (Kd.R_drew HO210.out)
     have n1_:=aK (blk_drew BK204.out)
     have n2_:=aK (blk_drew BK205.out)
     have n3_:=aK (blk_drew BK206.out)
     have n4_:=aK (blk_drew BK207.out)
     have n5_:=aK (aD HB.out)
     clear HO210
     clear BK204
     clear BK205
     clear BK206
     clear BK207
     clear HB
     have HO210:=n0_
     have BK204:=n1_
     have BK205:=n2_
     have BK206:=n3_
     have BK207:=n4_
     have HB:=n5_
     clear n0_ n1_ n2_ n3_ n4_ n5_
     have p212 : 0 ≤ (0 : Int):=(by omega)
     have q212 : 0 < (l1_0.length : Int):=of_decide_eq_true (by first|(with_reducible assumption)|assumption)
     obtain ⟨ad212,e212,hx212_0,hx212_1,hx212_2,hx212_3⟩:=at_T58 HR1_0.out 0 p212 q212
     have hw212_3:=hx212_3
     (try rw [show ((0 : Int)).toNat = 0 from rfl] at hw212_3)
     (try rw [show 0 * 4 = 0 from rfl] at hw212_3)
     (try rw [Addr.add_zero'] at hw212_3)
     have hw212_2:=hx212_2
     (try rw [show ((0 : Int)).toNat = 0 from rfl] at hw212_2)
     (try rw [show 0 * 4 = 0 from rfl] at hw212_2)
     (try rw [Addr.add_zero'] at hw212_2)
     have hw212_1:=hx212_1
     (try rw [show ((0 : Int)).toNat = 0 from rfl] at hw212_1)
     (try rw [show 0 * 4 = 0 from rfl] at hw212_1)
     (try rw [Addr.add_zero'] at hw212_1)
     have hw212_0:=hx212_0
     (try rw [show ((0 : Int)).toNat = 0 from rfl] at hw212_0)
     (try rw [show 0 * 4 = 0 from rfl] at hw212_0)
     (try rw [Addr.add_zero'] at hw212_0)
     cases e212
     have qi212 : (0 < l1_0.length) = True:=eq_true (by omega)
     (try rw [show ((0 : Int)).toNat = 0 from rfl] at hx212_0)
     (try rw [show 0 * 4 = 0 from rfl] at hx212_0)
     (try rw [Addr.add_zero'] at hx212_0)
     (try rw [show ((0 : Int)).toNat = 0 from rfl] at hx212_1)
     (try rw [show 0 * 4 = 0 from rfl] at hx212_1)
     (try rw [Addr.add_zero'] at hx212_1)
     (try rw [show ((0 : Int)).toNat = 0 from rfl] at hx212_2)
     (try rw [show 0 * 4 = 0 from rfl] at hx212_2)
     (try rw [Addr.add_zero'] at hx212_2)
     (try rw [show ((0 : Int)).toNat = 0 from rfl] at hx212_3)
     (try rw [show 0 * 4 = 0 from rfl] at hx212_3)
     (try rw [Addr.add_zero'] at hx212_3)
     replace hx212_0:=(HB.out.cell (World.block_lt_of_cell? w _ hx212_0)).trans hx212_0
     replace hx212_1:=(HB.out.cell (World.block_lt_of_cell? w _ hx212_1)).trans hx212_1
     replace hx212_2:=(HB.out.cell (World.block_lt_of_cell? w _ hx212_2)).trans hx212_2
     replace hx212_3:=(HB.out.cell (World.block_lt_of_cell? w _ hx212_3)).trans hx212_3
     replace p212:=eq_true p212
     replace q212:=eq_true q212
     have p213 : 0 ≤ ((ji26) : Int):=of_decide_eq_true (by first|(with_reducible assumption)|assumption)
     have q213 : (ji26) < (l0_0.length : Int):=of_decide_eq_true (by first|(with_reducible assumption)|assumption)
     obtain ⟨ad213,e213,hx213_0,hx213_1,hx213_2,hx213_3⟩:=at_T58 HR0_0.out (ji26) p213 q213
     have hw213_3:=hx213_3
     have hw213_2:=hx213_2
     have hw213_1:=hx213_1
     have hw213_0:=hx213_0
     cases e213
     replace hx213_0:=(HB.out.cell (World.block_lt_of_cell? w _ hx213_0)).trans hx213_0
     replace hx213_1:=(HB.out.cell (World.block_lt_of_cell? w _ hx213_1)).trans hx213_1
     replace hx213_2:=(HB.out.cell (World.block_lt_of_cell? w _ hx213_2)).trans hx213_2
     replace hx213_3:=(HB.out.cell (World.block_lt_of_cell? w _ hx213_3)).trans hx213_3
     replace p213:=eq_true p213
     replace q213:=eq_true q213
     refine start_ (n:=28) (S:=fun w' => w'.cell? ⟨gb205,0,none⟩ = some (.slice (some ad212) l1_0.length c1_0) ∧ w'.cell? ⟨gb205,1,none⟩ = some (.int .u64 a1_1) ∧ w'.cell? ⟨gb205,2,none⟩ = some (.int .u64 a1_2) ∧ w'.cell? ⟨gb205,3,none⟩ = some (.int .u64 a1_3) ∧ w'.cell? ⟨gb204,0,none⟩ = some (.slice (some ad213) l0_0.length c0_0) ∧ w'.cell? ⟨gb204,1,none⟩ = some (.int .u64 a0_1) ∧ w'.cell? ⟨gb204,2,none⟩ = some (.int .u64 a0_2) ∧ w'.cell? ⟨gb204,3,none⟩ = some (.int .u64 a0_3) ∧ w'.cell? ad212 = some (.int .u64 ((rd_T58 l1_0 0).f0)) ∧ w'.cell? ⟨ad212.block,ad212.off + 1,none⟩ = some (.int .u64 ((rd_T58 l1_0 0).f1)) ∧ w'.cell? ⟨ad212.block,ad212.off + 2,none⟩ = some (.string ((rd_T58 l1_0 0).f2)) ∧ w'.cell? ⟨ad212.block,ad212.off + 3,none⟩ = some (.string ((rd_T58 l1_0 0).f3)) ∧ w'.cell? (ad213.add (((ji26)).toNat * 4)) = some (.int .u64 ((rd_T58 l0_0 (ji26)).f0)) ∧ w'.cell? ⟨(ad213.add (((ji26)).toNat * 4)).block,(ad213.add (((ji26)).toNat * 4)).off + 1,none⟩ = some (.int .u64 ((rd_T58 l0_0 (ji26)).f1)) ∧ w'.cell? ⟨(ad213.add (((ji26)).toNat * 4)).block,(ad213.add (((ji26)).toNat * 4)).off + 2,none⟩ = some (.string ((rd_T58 l0_0 (ji26)).f2)) ∧ w'.cell? ⟨(ad213.add (((ji26)).toNat * 4)).block,(ad213.add (((ji26)).toNat * 4)).off + 3,none⟩ = some (.string ((rd_T58 l0_0 (ji26)).f3))) (ds:=[]) #[ff,ff,ff,ff,ff,ff,ff,ff,ff,ff,ff,ff,ff,ff,ff,ff,ff,ff,ff,ff,ff,ff,ff,ff,ff,ff,ff,ff] (by kernel_rfl) rfl rfl ⟨(aC BK205.out 0).trans rfl,(aC BK205.out 1).trans rfl,(aC BK205.out 2).trans rfl,(aC BK205.out 3).trans rfl,(aC BK204.out 0).trans rfl,(aC BK204.out 1).trans rfl,(aC BK204.out 2).trans rfl,(aC BK204.out 3).trans rfl,((HB.out.cell (World.block_lt_of_cell? w _ hw212_0)).trans hw212_0),((HB.out.cell (World.block_lt_of_cell? w _ hw212_1)).trans hw212_1),((HB.out.cell (World.block_lt_of_cell? w _ hw212_2)).trans hw212_2),((HB.out.cell (World.block_lt_of_cell? w _ hw212_3)).trans hw212_3),((HB.out.cell (World.block_lt_of_cell? w _ hw213_0)).trans hw213_0),((HB.out.cell (World.block_lt_of_cell? w _ hw213_1)).trans hw213_1),((HB.out.cell (World.block_lt_of_cell? w _ hw213_2)).trans hw213_2),((HB.out.cell (World.block_lt_of_cell? w _ hw213_3)).trans hw213_3)⟩ (fun hHeld => ?_);refine with_tabW ratlineref09_Apply.tab5 ratlineref09_Apply.bits5 (fun HT_ HW_ => ?_)
     generalize w29.drew = w30 at HO210 BK204 BK205 BK206 BK207 HB hx212_0 hx212_1 hx212_2 hx212_3 hx213_0 hx213_1 hx213_2 hx213_3 hHeld ⊢
     refine take_ (i:=0) (N:=some 25) (v:=?_) (a':=?_) #[tt,ff,ff,ff,ff,ff,ff,ff,ff,ff,ff,ff,ff,ff,ff,ff,ff,ff,ff,ff,ff,ff,ff,ff,ff,ff,ff,ff] rfl rfl (take_ofW HT_.out HW_.out (by kernel_rfl)) (fun _ _ _ h => h) (Or.inl ⟨by rfl,?_⟩) hHeld ?_ ?_
     rotate_left
     ·rintro w' ⟨s0,s1,s2,s3,s4,s5,s6,s7,s8,s9,s10,s11,s12,s13,s14,s15⟩
      go_simp
      with_reducible rfl
     rotate_left
     ·simp only [Act.put,sA,sZ,sS,i64_w,i32_w]
      rfl
     refine one_ (i:=1) (N:=some 26) #[tt,tt,ff,ff,ff,ff,ff,ff,ff,ff,ff,ff,ff,ff,ff,ff,ff,ff,ff,ff,ff,ff,ff,ff,ff,ff,ff,ff] rfl rfl (one_of HT_.out (by kernel_rfl)) (by decide) (fun K hK => ?_)
     refine goes_ Try.func18 (by kernel_rfl) rfl #[.agg #[.slice (some ad212) l1_0.length c1_0,.int .u64 a1_1,.int .u64 a1_2,.int .u64 a1_3]] (by rfl) rfl rfl (by (try simp only [List.map_toArray,List.map_cons,List.map_nil]);first|done|rfl|(simp only [List.length_drop,List.length_take];rfl)) ?_
     with_reducible refine (ratlineref09_Right.calls k _ _ l1_0 a1_1 a1_2 a1_3 true _ ?side1 ?side2 A21.out).mono ?_
     (case side1 => repeat (first|exact (Kd.C_below HR1_0.out HB.out)|(with_reducible refine Kd.C_alloc ?_ _)|(with_reducible refine Kd.C_drewN ?_ _)|(with_reducible refine Kd.C_drew ?_)))
     (case side2 => exact HC1_0.out)
     rintro e w31 ⟨rfl,hb⟩
     refine ⟨_,rfl,?_⟩
     have n0_:=aK (Kd.R_below (by (with_reducible repeat (first|apply zA|apply zN|apply zD));exact HO210.out) hb)
     have n1_:=aK (blk_below (g:=gb204) (o:=.cells #[.slice (some ad213) l0_0.length c0_0,.int .u64 a0_1,.int .u64 a0_2,.int .u64 a0_3] 28 (0,0)) (by (with_reducible repeat (first|apply bN|apply bD|apply bA));exact BK204.out) hb)
     have n2_:=aK (blk_below (g:=gb205) (o:=.cells #[.slice (some ad212) l1_0.length c1_0,.int .u64 a1_1,.int .u64 a1_2,.int .u64 a1_3] 25 (0,0)) (by (with_reducible repeat (first|apply bN|apply bD|apply bA));exact BK205.out) hb)
     have n3_:=aK (blk_below (g:=gb206) (o:=.cells #[.slice none 0 0,.int .u64 0,.int .u64 0,.int .u64 0] 28 (0,0)) (by (with_reducible repeat (first|apply bN|apply bD|apply bA));exact BK206.out) hb)
     have n4_:=aK (blk_below (g:=gb207) (o:=.cells #[.slice Ao18 y208.length co18,.int .u64 a0_1,.int .u64 a0_2,.int .u64 a0_3] 28 (0,0)) (by (with_reducible repeat (first|apply bN|apply bD|apply bA));exact BK207.out) hb)
     have n5_:=aK (below_step (by repeat (first|(with_reducible first|exact HB.out|apply aA|apply aW|apply aD|refine below_set ?_ GE204.out|refine below_set ?_ GE205.out|refine below_set ?_ GE206.out|refine below_set ?_ GE207.out)|exact HB.out)) hb)
     clear HO210
     clear BK204
     clear BK205
     clear BK206
     clear BK207
     clear HB
     have HO210:=n0_
     have BK204:=n1_
     have BK205:=n2_
     have BK206:=n3_
     have BK207:=n4_
     have HB:=n5_
     clear n0_ n1_ n2_ n3_ n4_ n5_
     (try clear hb)
     (try clear hb2)
     (try clear hk)
     (try clear hi)
     refine hK.out _ _ ⟨(aC BK205.out 0).trans rfl,(aC BK205.out 1).trans rfl,(aC BK205.out 2).trans rfl,(aC BK205.out 3).trans rfl,(aC BK204.out 0).trans rfl,(aC BK204.out 1).trans rfl,(aC BK204.out 2).trans rfl,(aC BK204.out 3).trans rfl,((HB.out.cell (World.block_lt_of_cell? w _ hw212_0)).trans hw212_0),((HB.out.cell (World.block_lt_of_cell? w _ hw212_1)).trans hw212_1),((HB.out.cell (World.block_lt_of_cell? w _ hw212_2)).trans hw212_2),((HB.out.cell (World.block_lt_of_cell? w _ hw212_3)).trans hw212_3),((HB.out.cell (World.block_lt_of_cell? w _ hw213_0)).trans hw213_0),((HB.out.cell (World.block_lt_of_cell? w _ hw213_1)).trans hw213_1),((HB.out.cell (World.block_lt_of_cell? w _ hw213_2)).trans hw213_2),((HB.out.cell (World.block_lt_of_cell? w _ hw213_3)).trans hw213_3)⟩ (fun hHeld => ?_)
     clear hK K
     refine norm_ (a':=?_) ?_ ?_
     rotate_left
     ·show Act.put _ (some 26) _ = _
      simp only [Act.put,sA,sZ,sS,i64_w,i32_w]
      rfl
     refine pure_ (i:=2) (N:=some 27) (v:=?_) (a':=?_) #[tt,tt,tt,ff,ff,ff,ff,ff,ff,ff,ff,ff,ff,ff,ff,ff,ff,ff,ff,ff,ff,ff,ff,ff,ff,ff,ff,ff] rfl rfl (any_of HT_.out (by kernel_rfl)) (fun _ _ _ h => h) (Or.inl ⟨by rfl,?_⟩) ?_ ?_
     rotate_left
     ·intro w'
      go_simp
      with_reducible rfl
     rotate_left
     ·simp only [Act.put,sA,sZ,sS,i64_w,i32_w]
      rfl
     refine pure_ (i:=3) (N:=some 28) (v:=?_) (a':=?_) #[tt,tt,tt,tt,ff,ff,ff,ff,ff,ff,ff,ff,ff,ff,ff,ff,ff,ff,ff,ff,ff,ff,ff,ff,ff,ff,ff,ff] rfl rfl (any_of HT_.out (by kernel_rfl)) (fun _ _ _ h => h) (Or.inl ⟨by rfl,?_⟩) ?_ ?_
     rotate_left
     ·intro w'
      go_simp
      with_reducible rfl
     rotate_left
     ·simp only [Act.put,sA,sZ,sS,i64_w,i32_w]
      rfl
     refine pure_ (i:=4) (N:=some 29) (v:=?_) (a':=?_) #[tt,tt,tt,tt,tt,ff,ff,ff,ff,ff,ff,ff,ff,ff,ff,ff,ff,ff,ff,ff,ff,ff,ff,ff,ff,ff,ff,ff] rfl rfl (any_of HT_.out (by kernel_rfl)) (fun _ _ _ h => h) (Or.inl ⟨by rfl,?_⟩) ?_ ?_
     rotate_left
     ·intro w'
      go_simp
      with_reducible rfl
     rotate_left
     ·simp only [Act.put,sA,sZ,sS,i64_w,i32_w]
      rfl
     refine pure_ (i:=5) (N:=some 30) (v:=?_) (a':=?_) #[tt,tt,tt,tt,tt,tt,ff,ff,ff,ff,ff,ff,ff,ff,ff,ff,ff,ff,ff,ff,ff,ff,ff,ff,ff,ff,ff,ff] rfl rfl (any_of HT_.out (by kernel_rfl)) (fun _ _ _ h => h) (Or.inl ⟨by rfl,?_⟩) ?_ ?_
     rotate_left
     ·intro w'
      go_simp
      with_reducible rfl
     rotate_left
     ·simp only [Act.put,sA,sZ,sS,i64_w,i32_w]
      rfl
     refine pure_ (i:=6) (N:=some 31) (v:=?_) (a':=?_) #[tt,tt,tt,tt,tt,tt,tt,ff,ff,ff,ff,ff,ff,ff,ff,ff,ff,ff,ff,ff,ff,ff,ff,ff,ff,ff,ff,ff] rfl rfl (any_of HT_.out (by kernel_rfl)) (fun _ _ _ h => h) (Or.inl ⟨by rfl,?_⟩) ?_ ?_
     rotate_left
     ·intro w'
      go_simp
      with_reducible rfl
     rotate_left
     ·simp only [Act.put,sA,sZ,sS,i64_w,i32_w]
      rfl
     refine pure_ (i:=7) (N:=some 32) (v:=?_) (a':=?_) #[tt,tt,tt,tt,tt,tt,tt,tt,ff,ff,ff,ff,ff,ff,ff,ff,ff,ff,ff,ff,ff,ff,ff,ff,ff,ff,ff,ff] rfl rfl (any_of HT_.out (by kernel_rfl)) (fun _ _ _ h => h) (Or.inl ⟨by rfl,?_⟩) ?_ ?_
     rotate_left
     ·intro w'
      go_simp
      with_reducible rfl
     rotate_left
     ·simp only [Act.put,sA,sZ,sS,i64_w,i32_w]
      rfl
     refine take_ (i:=8) (N:=some 33) (v:=?_) (a':=?_) #[tt,tt,tt,tt,tt,tt,tt,tt,tt,ff,ff,ff,ff,ff,ff,ff,ff,ff,ff,ff,ff,ff,ff,ff,ff,ff,ff,ff] rfl rfl (take_ofW HT_.out HW_.out (by kernel_rfl)) (fun _ _ _ h => h) (Or.inl ⟨by rfl,?_⟩) hHeld ?_ ?_
     rotate_left
     ·rintro w' ⟨s0,s1,s2,s3,s4,s5,s6,s7,s8,s9,s10,s11,s12,s13,s14,s15⟩
      go_simp
      with_reducible rfl
     rotate_left
     ·simp only [Act.put,sA,sZ,sS,i64_w,i32_w]
      rfl
     refine pure_ (i:=9) (N:=some 34) (v:=?_) (a':=?_) #[tt,tt,tt,tt,tt,tt,tt,tt,tt,tt,ff,ff,ff,ff,ff,ff,ff,ff,ff,ff,ff,ff,ff,ff,ff,ff,ff,ff] rfl rfl (any_of HT_.out (by kernel_rfl)) (fun _ _ _ h => h) (Or.inl ⟨by rfl,?_⟩) ?_ ?_
     rotate_left
     ·intro w'
      go_simp
      with_reducible rfl
     rotate_left
     ·simp only [Act.put,sA,sZ,sS,i64_w,i32_w]
      rfl
     refine pure_ (i:=10) (N:=some 35) (v:=?_) (a':=?_) #[tt,tt,tt,tt,tt,tt,tt,tt,tt,tt,tt,ff,ff,ff,ff,ff,ff,ff,ff,ff,ff,ff,ff,ff,ff,ff,ff,ff] rfl rfl (any_of HT_.out (by kernel_rfl)) (fun _ _ _ h => h) (Or.inl ⟨by rfl,?_⟩) ?_ ?_
     rotate_left
     ·intro w'
      go_simp
      with_reducible rfl
     rotate_left
     ·simp only [Act.put,sA,sZ,sS,i64_w,i32_w]
      rfl
     refine pure_ (i:=11) (N:=some 36) (v:=?_) (a':=?_) #[tt,tt,tt,tt,tt,tt,tt,tt,tt,tt,tt,tt,ff,ff,ff,ff,ff,ff,ff,ff,ff,ff,ff,ff,ff,ff,ff,ff] rfl rfl (any_of HT_.out (by kernel_rfl)) (fun _ _ _ h => h) (Or.inl ⟨by rfl,?_⟩) ?_ ?_
     rotate_left
     ·intro w'
      go_simp
      with_reducible rfl
     rotate_left
     ·simp only [Act.put,sA,sZ,sS,i64_w,i32_w]
      rfl
     refine pure_ (i:=12) (N:=some 37) (v:=?_) (a':=?_) #[tt,tt,tt,tt,tt,tt,tt,tt,tt,tt,tt,tt,tt,ff,ff,ff,ff,ff,ff,ff,ff,ff,ff,ff,ff,ff,ff,ff] rfl rfl (any_of HT_.out (by kernel_rfl)) (fun _ _ _ h => h) (Or.inl ⟨by rfl,?_⟩) ?_ ?_
     rotate_left
     ·intro w'
      go_simp
      with_reducible rfl
     rotate_left
     ·simp only [Act.put,sA,sZ,sS,i64_w,i32_w]
      rfl
     refine pure_ (i:=13) (N:=some 38) (v:=?_) (a':=?_) #[tt,tt,tt,tt,tt,tt,tt,tt,tt,tt,tt,tt,tt,tt,ff,ff,ff,ff,ff,ff,ff,ff,ff,ff,ff,ff,ff,ff] rfl rfl (any_of HT_.out (by kernel_rfl)) (fun _ _ _ h => h) (Or.inl ⟨by rfl,?_⟩) ?_ ?_
     rotate_left
     ·intro w'
      go_simp
      with_reducible rfl
     rotate_left
     ·simp only [Act.put,sA,sZ,sS,i64_w,i32_w]
      rfl
     refine pure_ (i:=18) (N:=some 43) (v:=?_) (a':=?_) #[tt,tt,tt,tt,tt,tt,tt,tt,tt,tt,tt,tt,tt,tt,ff,ff,ff,ff,tt,ff,ff,ff,ff,ff,ff,ff,ff,ff] rfl rfl (any_of HT_.out (by kernel_rfl)) (fun _ _ _ h => h) (Or.inl ⟨by rfl,?_⟩) ?_ ?_
     rotate_left
     ·intro w'
      go_simp
      with_reducible rfl
     rotate_left
     ·simp only [Act.put,sA,sZ,sS,i64_w,i32_w]
      rfl
     refine pure_ (i:=20) (N:=some 45) (v:=?_) (a':=?_) #[tt,tt,tt,tt,tt,tt,tt,tt,tt,tt,tt,tt,tt,tt,ff,ff,ff,ff,tt,ff,tt,ff,ff,ff,ff,ff,ff,ff] rfl rfl (any_of HT_.out (by kernel_rfl)) (fun _ _ _ h => h) (Or.inl ⟨by rfl,?_⟩) ?_ ?_
     rotate_left
     ·intro w'
      go_simp
      with_reducible rfl
     rotate_left
     ·simp only [Act.put,sA,sZ,sS,i64_w,i32_w]
      rfl
     refine pure_ (i:=21) (N:=some 46) (v:=?_) (a':=?_) #[tt,tt,tt,tt,tt,tt,tt,tt,tt,tt,tt,tt,tt,tt,ff,ff,ff,ff,tt,ff,tt,tt,ff,ff,ff,ff,ff,ff] rfl rfl (any_of HT_.out (by kernel_rfl)) (fun _ _ _ h => h) (Or.inl ⟨by rfl,?_⟩) ?_ ?_
     rotate_left
     ·intro w'
      go_simp
      with_reducible rfl
     rotate_left
     ·simp only [Act.put,sA,sZ,sS,i64_w,i32_w]
      rfl
     refine take_ (i:=14) (N:=some 39) (v:=?_) (a':=?_) #[tt,tt,tt,tt,tt,tt,tt,tt,tt,tt,tt,tt,tt,tt,tt,ff,ff,ff,tt,ff,tt,tt,ff,ff,ff,ff,ff,ff] rfl rfl (take_ofW HT_.out HW_.out (by kernel_rfl)) (fun _ _ _ h => h) (Or.inl ⟨by rfl,?_⟩) hHeld ?_ ?_
     rotate_left
     ·rintro w' ⟨s0,s1,s2,s3,s4,s5,s6,s7,s8,s9,s10,s11,s12,s13,s14,s15⟩
      go_simp
      with_reducible rfl
     rotate_left
     ·simp only [Act.put,sA,sZ,sS,i64_w,i32_w]
      rfl
     refine pure_ (i:=15) (N:=some 40) (v:=?_) (a':=?_) #[tt,tt,tt,tt,tt,tt,tt,tt,tt,tt,tt,tt,tt,tt,tt,tt,ff,ff,tt,ff,tt,tt,ff,ff,ff,ff,ff,ff] rfl rfl (any_of HT_.out (by kernel_rfl)) (fun _ _ _ h => h) (Or.inl ⟨by rfl,?_⟩) ?_ ?_
     rotate_left
     ·intro w'
      go_simp
      with_reducible rfl
     rotate_left
     ·simp only [Act.put,sA,sZ,sS,i64_w,i32_w]
      rfl
     refine pure_ (i:=16) (N:=some 41) (v:=?_) (a':=?_) #[tt,tt,tt,tt,tt,tt,tt,tt,tt,tt,tt,tt,tt,tt,tt,tt,tt,ff,tt,ff,tt,tt,ff,ff,ff,ff,ff,ff] rfl rfl (any_of HT_.out (by kernel_rfl)) (fun _ _ _ h => h) (Or.inl ⟨by rfl,?_⟩) ?_ ?_
     rotate_left
     ·intro w'
      go_simp
      with_reducible rfl
     rotate_left
     ·simp only [Act.put,sA,sZ,sS,i64_w,i32_w]
      rfl
     refine take_ (i:=17) (N:=some 42) (v:=?_) (a':=?_) #[tt,tt,tt,tt,tt,tt,tt,tt,tt,tt,tt,tt,tt,tt,tt,tt,tt,tt,tt,ff,tt,tt,ff,ff,ff,ff,ff,ff] rfl rfl (take_ofW HT_.out HW_.out (by kernel_rfl)) (fun _ _ _ h => h) (Or.inl ⟨by rfl,?_⟩) hHeld ?_ ?_
     rotate_left
     ·rintro w' ⟨s0,s1,s2,s3,s4,s5,s6,s7,s8,s9,s10,s11,s12,s13,s14,s15⟩
      go_simp
      with_reducible rfl
     rotate_left
     ·simp only [Act.put,sA,sZ,sS,i64_w,i32_w]
      rfl
     refine take_ (i:=19) (N:=some 44) (v:=?_) (a':=?_) #[tt,tt,tt,tt,tt,tt,tt,tt,tt,tt,tt,tt,tt,tt,tt,tt,tt,tt,tt,tt,tt,tt,ff,ff,ff,ff,ff,ff] rfl rfl (take_ofW HT_.out HW_.out (by kernel_rfl)) (fun _ _ _ h => h) (Or.inl ⟨by rfl,?_⟩) hHeld ?_ ?_
     rotate_left
     ·rintro w' ⟨s0,s1,s2,s3,s4,s5,s6,s7,s8,s9,s10,s11,s12,s13,s14,s15⟩
      go_simp
      with_reducible rfl
     rotate_left
     ·simp only [Act.put,sA,sZ,sS,i64_w,i32_w]
      rfl
     refine pure_ (i:=22) (N:=some 47) (v:=?_) (a':=?_) #[tt,tt,tt,tt,tt,tt,tt,tt,tt,tt,tt,tt,tt,tt,tt,tt,tt,tt,tt,tt,tt,tt,tt,ff,ff,ff,ff,ff] rfl rfl (any_of HT_.out (by kernel_rfl)) (fun _ _ _ h => h) (Or.inl ⟨by rfl,?_⟩) ?_ ?_
     rotate_left
     ·intro w'
      go_simp
      with_reducible rfl
     rotate_left
     ·simp only [Act.put,sA,sZ,sS,i64_w,i32_w]
      rfl
     refine pure_ (i:=23) (N:=some 48) (v:=?_) (a':=?_) #[tt,tt,tt,tt,tt,tt,tt,tt,tt,tt,tt,tt,tt,tt,tt,tt,tt,tt,tt,tt,tt,tt,tt,tt,ff,ff,ff,ff] rfl rfl (any_of HT_.out (by kernel_rfl)) (fun _ _ _ h => h) (Or.inl ⟨by rfl,?_⟩) ?_ ?_
     rotate_left
     ·intro w'
      go_simp
      with_reducible rfl
     rotate_left
     ·simp only [Act.put,sA,sZ,sS,i64_w,i32_w]
      rfl
     refine take_ (i:=24) (N:=some 49) (v:=?_) (a':=?_) #[tt,tt,tt,tt,tt,tt,tt,tt,tt,tt,tt,tt,tt,tt,tt,tt,tt,tt,tt,tt,tt,tt,tt,tt,tt,ff,ff,ff] rfl rfl (take_ofW HT_.out HW_.out (by kernel_rfl)) (fun _ _ _ h => h) (Or.inl ⟨by rfl,?_⟩) hHeld ?_ ?_
     rotate_left
     ·rintro w' ⟨s0,s1,s2,s3,s4,s5,s6,s7,s8,s9,s10,s11,s12,s13,s14,s15⟩
      go_simp
      with_reducible rfl
     rotate_left
     ·simp only [Act.put,sA,sZ,sS,i64_w,i32_w]
      rfl
     refine pure_ (i:=25) (N:=some 50) (v:=?_) (a':=?_) #[tt,tt,tt,tt,tt,tt,tt,tt,tt,tt,tt,tt,tt,tt,tt,tt,tt,tt,tt,tt,tt,tt,tt,tt,tt,tt,ff,ff] rfl rfl (any_of HT_.out (by kernel_rfl)) (fun _ _ _ h => h) (Or.inl ⟨by rfl,?_⟩) ?_ ?_
     rotate_left
     ·intro w'
      go_simp
      with_reducible rfl
     rotate_left
     ·simp only [Act.put,sA,sZ,sS,i64_w,i32_w]
      rfl
     refine pure_ (i:=26) (N:=some 51) (v:=?_) (a':=?_) #[tt,tt,tt,tt,tt,tt,tt,tt,tt,tt,tt,tt,tt,tt,tt,tt,tt,tt,tt,tt,tt,tt,tt,tt,tt,tt,tt,ff] rfl rfl (any_of HT_.out (by kernel_rfl)) (fun _ _ _ h => h) (Or.inl ⟨by rfl,?_⟩) ?_ ?_
     rotate_left
     ·intro w'
      go_simp
      with_reducible rfl
     rotate_left
     ·simp only [Act.put,sA,sZ,sS,i64_w,i32_w]
      rfl
     refine pure_ (i:=27) (N:=some 52) (v:=?_) (a':=?_) #[tt,tt,tt,tt,tt,tt,tt,tt,tt,tt,tt,tt,tt,tt,tt,tt,tt,tt,tt,tt,tt,tt,tt,tt,tt,tt,tt,tt] rfl rfl (any_of HT_.out (by kernel_rfl)) (fun _ _ _ h => h) (Or.inl ⟨by rfl,?_⟩) ?_ ?_
     rotate_left
     ·intro w'
      go_simp
      with_reducible rfl
     rotate_left
     ·simp only [Act.put,sA,sZ,sS,i64_w,i32_w]
      rfl
     refine done_ (done_of HT_.out (by kernel_rfl)) ?_
     try go_wp2
     go_meet
     case rel => exact ⟨_,(decide (((rd_T58 l1_0 0).f0) ≤ ((rd_T58 l0_0 (ji26)).f0))),(by first|rfl|(simp;done)|(simp only [← hji26] <;> (first|rfl|simp))|(simp [*];done)),H',⟨by first|omega|exact Nat.le_refl _⟩,⟨by (with_reducible repeat (first|apply zA|apply zN|apply zD));exact HO210.out⟩,⟨by (with_reducible repeat (first|apply bN|apply bD|apply bA));exact BK204.out⟩,⟨by (with_reducible repeat (first|apply bN|apply bD|apply bA));exact BK205.out⟩,⟨by (with_reducible repeat (first|apply bN|apply bD|apply bA));exact BK206.out⟩,⟨by (with_reducible repeat (first|apply bN|apply bD|apply bA));exact BK207.out⟩,⟨by repeat (first|(with_reducible first|exact HB.out|apply aA|apply aW|apply aD|refine below_set ?_ GE204.out|refine below_set ?_ GE205.out|refine below_set ?_ GE206.out|refine below_set ?_ GE207.out)|exact HB.out)⟩⟩
    ·rw [if_neg c24] at H
     have c24b0 : decide (0 < (l1_0.length : Int)) = false:=decide_eq_false c24
     have c24b1 : decide (0 < l1_0.length) = false:=decide_eq_false (by omega)
     clear c24
     have H':=aK H
     clear H
     try go_wp2
     have n0_ : Aside0 (Kd.R k58 58 (w17.setCell ⟨gb207,0,none⟩ (.slice Ao18 y208.length co18)) w.heap.size (fun _ => True) (.slice Ao18 y208.length co18) y208):=⟨by (with_reducible repeat (first|apply zA|apply zN|apply zD));exact Kd.R_mono (aY (p:=⟨gb207,0,none⟩) (Kd.R_types HO210.out BK207.out (by decide)) (fun _ hk => hk.2) (.slice Ao18 y208.length co18)) (fun _ hk => trivial)⟩
     have n1_ : Aside0 ((w17.setCell ⟨gb207,0,none⟩ (.slice Ao18 y208.length co18)).heap[gb204]? = some (.cells #[.slice A0_0 l0_0.length c0_0,.int .u64 a0_1,.int .u64 a0_2,.int .u64 a0_3] 28 (0,0))):=⟨by (with_reducible repeat (first|apply bN|apply bD|apply bA));refine aX ?_ NB204_207.out _;(with_reducible repeat (first|apply bN|apply bD|apply bA));exact BK204.out⟩
     have n2_ : Aside0 ((w17.setCell ⟨gb207,0,none⟩ (.slice Ao18 y208.length co18)).heap[gb205]? = some (.cells #[.slice A1_0 l1_0.length c1_0,.int .u64 a1_1,.int .u64 a1_2,.int .u64 a1_3] 25 (0,0))):=⟨by (with_reducible repeat (first|apply bN|apply bD|apply bA));refine aX ?_ NB205_207.out _;(with_reducible repeat (first|apply bN|apply bD|apply bA));exact BK205.out⟩
     have n3_ : Aside0 ((w17.setCell ⟨gb207,0,none⟩ (.slice Ao18 y208.length co18)).heap[gb206]? = some (.cells #[.slice none 0 0,.int .u64 0,.int .u64 0,.int .u64 0] 28 (0,0))):=⟨by (with_reducible repeat (first|apply bN|apply bD|apply bA));refine aX ?_ NB206_207.out _;(with_reducible repeat (first|apply bN|apply bD|apply bA));exact BK206.out⟩
     have n4_ : Aside0 ((w17.setCell ⟨gb207,0,none⟩ (.slice Ao18 y208.length co18)).heap[gb207]? = some (.cells #[.slice Ao18 y208.length co18,.int .u64 a0_1,.int .u64 a0_2,.int .u64 a0_3] 28 (0,0))):=⟨by (with_reducible repeat (first|apply bN|apply bD|apply bA));refine blk_put (cs:=#[.slice none 0 0,.int .u64 a0_1,.int .u64 a0_2,.int .u64 a0_3]) ?_ 0 _ rfl;(with_reducible repeat (first|apply bN|apply bD|apply bA));exact BK207.out⟩
     have n5_ : Aside0 (Below w.heap.size w (w17.setCell ⟨gb207,0,none⟩ (.slice Ao18 y208.length co18))):=⟨by repeat (first|(with_reducible first|exact HB.out|apply aA|apply aW|apply aD|refine below_set ?_ GE204.out|refine below_set ?_ GE205.out|refine below_set ?_ GE206.out|refine below_set ?_ GE207.out)|exact HB.out)⟩
     (try clear HO210)
     (try clear BK204)
     (try clear BK205)
     (try clear BK206)
     (try clear BK207)
     (try clear HB)
     generalize (w17.setCell ⟨gb207,0,none⟩ (.slice Ao18 y208.length co18)) = w32 at n0_ n1_ n2_ n3_ n4_ n5_ ⊢
     have HO210:=n0_
     have BK204:=n1_
     have BK205:=n2_
     have BK206:=n3_
     have BK207:=n4_
     have HB:=n5_
     clear n0_ n1_ n2_ n3_ n4_ n5_
     have n0_:=aK (Kd.R_drew HO210.out)
     have n1_:=aK (blk_drew BK204.out)
     have n2_:=aK (blk_drew BK205.out)
     have n3_:=aK (blk_drew BK206.out)
     have n4_:=aK (blk_drew BK207.out)
     have n5_:=aK (aD HB.out)
     clear HO210
     clear BK204
     clear BK205
     clear BK206
     clear BK207
     clear HB
     have HO210:=n0_
     have BK204:=n1_
     have BK205:=n2_
     have BK206:=n3_
     have BK207:=n4_
     have HB:=n5_
     clear n0_ n1_ n2_ n3_ n4_ n5_
     refine start_ (n:=28) (S:=fun w' => w'.cell? ⟨gb205,0,none⟩ = some (.slice A1_0 l1_0.length c1_0) ∧ w'.cell? ⟨gb205,1,none⟩ = some (.int .u64 a1_1) ∧ w'.cell? ⟨gb205,2,none⟩ = some (.int .u64 a1_2) ∧ w'.cell? ⟨gb205,3,none⟩ = some (.int .u64 a1_3)) (ds:=[]) #[ff,ff,ff,ff,ff,ff,ff,ff,ff,ff,ff,ff,ff,ff,ff,ff,ff,ff,ff,ff,ff,ff,ff,ff,ff,ff,ff,ff] (by kernel_rfl) rfl rfl ⟨(aC BK205.out 0).trans rfl,(aC BK205.out 1).trans rfl,(aC BK205.out 2).trans rfl,(aC BK205.out 3).trans rfl⟩ (fun hHeld => ?_);refine with_tabW ratlineref09_Apply.tab5 ratlineref09_Apply.bits5 (fun HT_ HW_ => ?_)
     generalize w32.drew = w33 at HO210 BK204 BK205 BK206 BK207 HB hHeld ⊢
     refine take_ (i:=0) (N:=some 25) (v:=?_) (a':=?_) #[tt,ff,ff,ff,ff,ff,ff,ff,ff,ff,ff,ff,ff,ff,ff,ff,ff,ff,ff,ff,ff,ff,ff,ff,ff,ff,ff,ff] rfl rfl (take_ofW HT_.out HW_.out (by kernel_rfl)) (fun _ _ _ h => h) (Or.inl ⟨by rfl,?_⟩) hHeld ?_ ?_
     rotate_left
     ·rintro w' ⟨s0,s1,s2,s3⟩
      go_simp
      with_reducible rfl
     rotate_left
     ·simp only [Act.put,sA,sZ,sS,i64_w,i32_w]
      rfl
     refine one_ (i:=1) (N:=some 26) #[tt,tt,ff,ff,ff,ff,ff,ff,ff,ff,ff,ff,ff,ff,ff,ff,ff,ff,ff,ff,ff,ff,ff,ff,ff,ff,ff,ff] rfl rfl (one_of HT_.out (by kernel_rfl)) (by decide) (fun K hK => ?_)
     refine goes_ Try.func18 (by kernel_rfl) rfl #[.agg #[.slice A1_0 l1_0.length c1_0,.int .u64 a1_1,.int .u64 a1_2,.int .u64 a1_3]] (by rfl) rfl rfl (by (try simp only [List.map_toArray,List.map_cons,List.map_nil]);first|done|rfl|(simp only [List.length_drop,List.length_take];rfl)) ?_
     with_reducible refine (ratlineref09_Right.calls k _ _ l1_0 a1_1 a1_2 a1_3 true _ ?side1 ?side2 A21.out).mono ?_
     (case side1 => repeat (first|exact (Kd.C_below HR1_0.out HB.out)|(with_reducible refine Kd.C_alloc ?_ _)|(with_reducible refine Kd.C_drewN ?_ _)|(with_reducible refine Kd.C_drew ?_)))
     (case side2 => exact HC1_0.out)
     rintro e w34 ⟨rfl,hb⟩
     refine ⟨_,rfl,?_⟩
     have n0_:=aK (Kd.R_below (by (with_reducible repeat (first|apply zA|apply zN|apply zD));exact HO210.out) hb)
     have n1_:=aK (blk_below (g:=gb204) (o:=.cells #[.slice A0_0 l0_0.length c0_0,.int .u64 a0_1,.int .u64 a0_2,.int .u64 a0_3] 28 (0,0)) (by (with_reducible repeat (first|apply bN|apply bD|apply bA));exact BK204.out) hb)
     have n2_:=aK (blk_below (g:=gb205) (o:=.cells #[.slice A1_0 l1_0.length c1_0,.int .u64 a1_1,.int .u64 a1_2,.int .u64 a1_3] 25 (0,0)) (by (with_reducible repeat (first|apply bN|apply bD|apply bA));exact BK205.out) hb)
     have n3_:=aK (blk_below (g:=gb206) (o:=.cells #[.slice none 0 0,.int .u64 0,.int .u64 0,.int .u64 0] 28 (0,0)) (by (with_reducible repeat (first|apply bN|apply bD|apply bA));exact BK206.out) hb)
     have n4_:=aK (blk_below (g:=gb207) (o:=.cells #[.slice Ao18 y208.length co18,.int .u64 a0_1,.int .u64 a0_2,.int .u64 a0_3] 28 (0,0)) (by (with_reducible repeat (first|apply bN|apply bD|apply bA));exact BK207.out) hb)
     have n5_:=aK (below_step (by repeat (first|(with_reducible first|exact HB.out|apply aA|apply aW|apply aD|refine below_set ?_ GE204.out|refine below_set ?_ GE205.out|refine below_set ?_ GE206.out|refine below_set ?_ GE207.out)|exact HB.out)) hb)
     clear HO210
     clear BK204
     clear BK205
     clear BK206
     clear BK207
     clear HB
     have HO210:=n0_
     have BK204:=n1_
     have BK205:=n2_
     have BK206:=n3_
     have BK207:=n4_
     have HB:=n5_
     clear n0_ n1_ n2_ n3_ n4_ n5_
     (try clear hb)
     (try clear hb2)
     (try clear hk)
     (try clear hi)
     refine hK.out _ _ ⟨(aC BK205.out 0).trans rfl,(aC BK205.out 1).trans rfl,(aC BK205.out 2).trans rfl,(aC BK205.out 3).trans rfl⟩ (fun hHeld => ?_)
     clear hK K
     refine norm_ (a':=?_) ?_ ?_
     rotate_left
     ·show Act.put _ (some 26) _ = _
      simp only [Act.put,sA,sZ,sS,i64_w,i32_w]
      rfl
     refine pure_ (i:=2) (N:=some 27) (v:=?_) (a':=?_) #[tt,tt,tt,ff,ff,ff,ff,ff,ff,ff,ff,ff,ff,ff,ff,ff,ff,ff,ff,ff,ff,ff,ff,ff,ff,ff,ff,ff] rfl rfl (any_of HT_.out (by kernel_rfl)) (fun _ _ _ h => h) (Or.inl ⟨by rfl,?_⟩) ?_ ?_
     rotate_left
     ·intro w'
      go_simp
      with_reducible rfl
     rotate_left
     ·simp only [Act.put,sA,sZ,sS,i64_w,i32_w]
      rfl
     refine pure_ (i:=3) (N:=some 28) (v:=?_) (a':=?_) #[tt,tt,tt,tt,ff,ff,ff,ff,ff,ff,ff,ff,ff,ff,ff,ff,ff,ff,ff,ff,ff,ff,ff,ff,ff,ff,ff,ff] rfl rfl (any_of HT_.out (by kernel_rfl)) (fun _ _ _ h => h) (Or.inl ⟨by rfl,?_⟩) ?_ ?_
     rotate_left
     ·intro w'
      go_simp
      with_reducible rfl
     rotate_left
     ·simp only [Act.put,sA,sZ,sS,i64_w,i32_w]
      rfl
     refine pure_ (i:=4) (N:=some 29) (v:=?_) (a':=?_) #[tt,tt,tt,tt,tt,ff,ff,ff,ff,ff,ff,ff,ff,ff,ff,ff,ff,ff,ff,ff,ff,ff,ff,ff,ff,ff,ff,ff] rfl rfl (any_of HT_.out (by kernel_rfl)) (fun _ _ _ h => h) (Or.inl ⟨by rfl,?_⟩) ?_ ?_
     rotate_left
     ·intro w'
      go_simp
      with_reducible rfl
     rotate_left
     ·simp only [Act.put,sA,sZ,sS,i64_w,i32_w]
      rfl
     refine pure_ (i:=5) (N:=some 30) (v:=?_) (a':=?_) #[tt,tt,tt,tt,tt,tt,ff,ff,ff,ff,ff,ff,ff,ff,ff,ff,ff,ff,ff,ff,ff,ff,ff,ff,ff,ff,ff,ff] rfl rfl (any_of HT_.out (by kernel_rfl)) (fun _ _ _ h => h) (Or.inl ⟨by rfl,?_⟩) ?_ ?_
     rotate_left
     ·intro w'
      go_simp
      with_reducible rfl
     rotate_left
     ·simp only [Act.put,sA,sZ,sS,i64_w,i32_w]
      rfl
     refine pure_ (i:=6) (N:=some 31) (v:=?_) (a':=?_) #[tt,tt,tt,tt,tt,tt,tt,ff,ff,ff,ff,ff,ff,ff,ff,ff,ff,ff,ff,ff,ff,ff,ff,ff,ff,ff,ff,ff] rfl rfl (any_of HT_.out (by kernel_rfl)) (fun _ _ _ h => h) (Or.inl ⟨by rfl,?_⟩) ?_ ?_
     rotate_left
     ·intro w'
      go_simp
      with_reducible rfl
     rotate_left
     ·simp only [Act.put,sA,sZ,sS,i64_w,i32_w]
      rfl
     refine pure_ (i:=7) (N:=some 32) (v:=?_) (a':=?_) #[tt,tt,tt,tt,tt,tt,tt,tt,ff,ff,ff,ff,ff,ff,ff,ff,ff,ff,ff,ff,ff,ff,ff,ff,ff,ff,ff,ff] rfl rfl (any_of HT_.out (by kernel_rfl)) (fun _ _ _ h => h) (Or.inl ⟨by rfl,?_⟩) ?_ ?_
     rotate_left
     ·intro w'
      go_simp
      with_reducible rfl
     rotate_left
     ·simp only [Act.put,sA,sZ,sS,i64_w,i32_w]
      rfl
     refine take_ (i:=8) (N:=some 33) (v:=?_) (a':=?_) #[tt,tt,tt,tt,tt,tt,tt,tt,tt,ff,ff,ff,ff,ff,ff,ff,ff,ff,ff,ff,ff,ff,ff,ff,ff,ff,ff,ff] rfl rfl (take_ofW HT_.out HW_.out (by kernel_rfl)) (fun _ _ _ h => h) (Or.inl ⟨by rfl,?_⟩) hHeld ?_ ?_
     rotate_left
     ·rintro w' ⟨s0,s1,s2,s3⟩
      go_simp
      with_reducible rfl
     rotate_left
     ·simp only [Act.put,sA,sZ,sS,i64_w,i32_w]
      rfl
     refine pure_ (i:=9) (N:=some 34) (v:=?_) (a':=?_) #[tt,tt,tt,tt,tt,tt,tt,tt,tt,tt,ff,ff,ff,ff,ff,ff,ff,ff,ff,ff,ff,ff,ff,ff,ff,ff,ff,ff] rfl rfl (any_of HT_.out (by kernel_rfl)) (fun _ _ _ h => h) (Or.inl ⟨by rfl,?_⟩) ?_ ?_
     rotate_left
     ·intro w'
      go_simp
      with_reducible rfl
     rotate_left
     ·simp only [Act.put,sA,sZ,sS,i64_w,i32_w]
      rfl
     refine pure_ (i:=10) (N:=some 35) (v:=?_) (a':=?_) #[tt,tt,tt,tt,tt,tt,tt,tt,tt,tt,tt,ff,ff,ff,ff,ff,ff,ff,ff,ff,ff,ff,ff,ff,ff,ff,ff,ff] rfl rfl (any_of HT_.out (by kernel_rfl)) (fun _ _ _ h => h) (Or.inl ⟨by rfl,?_⟩) ?_ ?_
     rotate_left
     ·intro w'
      go_simp
      with_reducible rfl
     rotate_left
     ·simp only [Act.put,sA,sZ,sS,i64_w,i32_w]
      rfl
     refine pure_ (i:=11) (N:=some 36) (v:=?_) (a':=?_) #[tt,tt,tt,tt,tt,tt,tt,tt,tt,tt,tt,tt,ff,ff,ff,ff,ff,ff,ff,ff,ff,ff,ff,ff,ff,ff,ff,ff] rfl rfl (any_of HT_.out (by kernel_rfl)) (fun _ _ _ h => h) (Or.inl ⟨by rfl,?_⟩) ?_ ?_
     rotate_left
     ·intro w'
      go_simp
      with_reducible rfl
     rotate_left
     ·simp only [Act.put,sA,sZ,sS,i64_w,i32_w]
      rfl
     refine pure_ (i:=12) (N:=some 37) (v:=?_) (a':=?_) #[tt,tt,tt,tt,tt,tt,tt,tt,tt,tt,tt,tt,tt,ff,ff,ff,ff,ff,ff,ff,ff,ff,ff,ff,ff,ff,ff,ff] rfl rfl (any_of HT_.out (by kernel_rfl)) (fun _ _ _ h => h) (Or.inl ⟨by rfl,?_⟩) ?_ ?_
     rotate_left
     ·intro w'
      go_simp
      with_reducible rfl
     rotate_left
     ·simp only [Act.put,sA,sZ,sS,i64_w,i32_w]
      rfl
     refine pure_ (i:=13) (N:=some 38) (v:=undef) (a':=?_) #[tt,tt,tt,tt,tt,tt,tt,tt,tt,tt,tt,tt,tt,tt,ff,ff,ff,ff,ff,ff,ff,ff,ff,ff,ff,ff,ff,ff] rfl rfl (any_of HT_.out (by kernel_rfl)) (fun _ _ _ h => h) (Or.inr ⟨by rfl,rfl⟩) ?_ ?_
     rotate_left
     ·simp only [Act.put,sA,sZ,sS,i64_w,i32_w]
      rfl
     refine pure_ (i:=14) (N:=some 39) (v:=undef) (a':=?_) #[tt,tt,tt,tt,tt,tt,tt,tt,tt,tt,tt,tt,tt,tt,tt,ff,ff,ff,ff,ff,ff,ff,ff,ff,ff,ff,ff,ff] rfl rfl (any_of HT_.out (by kernel_rfl)) (fun _ _ _ h => h) (Or.inr ⟨by rfl,rfl⟩) ?_ ?_
     rotate_left
     ·simp only [Act.put,sA,sZ,sS,i64_w,i32_w]
      rfl
     refine pure_ (i:=15) (N:=some 40) (v:=undef) (a':=?_) #[tt,tt,tt,tt,tt,tt,tt,tt,tt,tt,tt,tt,tt,tt,tt,tt,ff,ff,ff,ff,ff,ff,ff,ff,ff,ff,ff,ff] rfl rfl (any_of HT_.out (by kernel_rfl)) (fun _ _ _ h => h) (Or.inr ⟨by rfl,rfl⟩) ?_ ?_
     rotate_left
     ·simp only [Act.put,sA,sZ,sS,i64_w,i32_w]
      rfl
     refine pure_ (i:=16) (N:=some 41) (v:=undef) (a':=?_) #[tt,tt,tt,tt,tt,tt,tt,tt,tt,tt,tt,tt,tt,tt,tt,tt,tt,ff,ff,ff,ff,ff,ff,ff,ff,ff,ff,ff] rfl rfl (any_of HT_.out (by kernel_rfl)) (fun _ _ _ h => h) (Or.inr ⟨by rfl,rfl⟩) ?_ ?_
     rotate_left
     ·simp only [Act.put,sA,sZ,sS,i64_w,i32_w]
      rfl
     refine pure_ (i:=17) (N:=some 42) (v:=undef) (a':=?_) #[tt,tt,tt,tt,tt,tt,tt,tt,tt,tt,tt,tt,tt,tt,tt,tt,tt,tt,ff,ff,ff,ff,ff,ff,ff,ff,ff,ff] rfl rfl (any_of HT_.out (by kernel_rfl)) (fun _ _ _ h => h) (Or.inr ⟨by rfl,rfl⟩) ?_ ?_
     rotate_left
     ·simp only [Act.put,sA,sZ,sS,i64_w,i32_w]
      rfl
     refine pure_ (i:=18) (N:=some 43) (v:=undef) (a':=?_) #[tt,tt,tt,tt,tt,tt,tt,tt,tt,tt,tt,tt,tt,tt,tt,tt,tt,tt,tt,ff,ff,ff,ff,ff,ff,ff,ff,ff] rfl rfl (any_of HT_.out (by kernel_rfl)) (fun _ _ _ h => h) (Or.inr ⟨by rfl,rfl⟩) ?_ ?_
     rotate_left
     ·simp only [Act.put,sA,sZ,sS,i64_w,i32_w]
      rfl
     refine pure_ (i:=19) (N:=some 44) (v:=undef) (a':=?_) #[tt,tt,tt,tt,tt,tt,tt,tt,tt,tt,tt,tt,tt,tt,tt,tt,tt,tt,tt,tt,ff,ff,ff,ff,ff,ff,ff,ff] rfl rfl (any_of HT_.out (by kernel_rfl)) (fun _ _ _ h => h) (Or.inr ⟨by rfl,rfl⟩) ?_ ?_
     rotate_left
     ·simp only [Act.put,sA,sZ,sS,i64_w,i32_w]
      rfl
     refine pure_ (i:=20) (N:=some 45) (v:=undef) (a':=?_) #[tt,tt,tt,tt,tt,tt,tt,tt,tt,tt,tt,tt,tt,tt,tt,tt,tt,tt,tt,tt,tt,ff,ff,ff,ff,ff,ff,ff] rfl rfl (any_of HT_.out (by kernel_rfl)) (fun _ _ _ h => h) (Or.inr ⟨by rfl,rfl⟩) ?_ ?_
     rotate_left
     ·simp only [Act.put,sA,sZ,sS,i64_w,i32_w]
      rfl
     refine pure_ (i:=21) (N:=some 46) (v:=undef) (a':=?_) #[tt,tt,tt,tt,tt,tt,tt,tt,tt,tt,tt,tt,tt,tt,tt,tt,tt,tt,tt,tt,tt,tt,ff,ff,ff,ff,ff,ff] rfl rfl (any_of HT_.out (by kernel_rfl)) (fun _ _ _ h => h) (Or.inr ⟨by rfl,rfl⟩) ?_ ?_
     rotate_left
     ·simp only [Act.put,sA,sZ,sS,i64_w,i32_w]
      rfl
     refine pure_ (i:=22) (N:=some 47) (v:=undef) (a':=?_) #[tt,tt,tt,tt,tt,tt,tt,tt,tt,tt,tt,tt,tt,tt,tt,tt,tt,tt,tt,tt,tt,tt,tt,ff,ff,ff,ff,ff] rfl rfl (any_of HT_.out (by kernel_rfl)) (fun _ _ _ h => h) (Or.inr ⟨by rfl,rfl⟩) ?_ ?_
     rotate_left
     ·simp only [Act.put,sA,sZ,sS,i64_w,i32_w]
      rfl
     refine pure_ (i:=23) (N:=some 48) (v:=undef) (a':=?_) #[tt,tt,tt,tt,tt,tt,tt,tt,tt,tt,tt,tt,tt,tt,tt,tt,tt,tt,tt,tt,tt,tt,tt,tt,ff,ff,ff,ff] rfl rfl (any_of HT_.out (by kernel_rfl)) (fun _ _ _ h => h) (Or.inr ⟨by rfl,rfl⟩) ?_ ?_
     rotate_left
     ·simp only [Act.put,sA,sZ,sS,i64_w,i32_w]
      rfl
     refine pure_ (i:=24) (N:=some 49) (v:=undef) (a':=?_) #[tt,tt,tt,tt,tt,tt,tt,tt,tt,tt,tt,tt,tt,tt,tt,tt,tt,tt,tt,tt,tt,tt,tt,tt,tt,ff,ff,ff] rfl rfl (any_of HT_.out (by kernel_rfl)) (fun _ _ _ h => h) (Or.inr ⟨by rfl,rfl⟩) ?_ ?_
     rotate_left
     ·simp only [Act.put,sA,sZ,sS,i64_w,i32_w]
      rfl
     refine pure_ (i:=25) (N:=some 50) (v:=undef) (a':=?_) #[tt,tt,tt,tt,tt,tt,tt,tt,tt,tt,tt,tt,tt,tt,tt,tt,tt,tt,tt,tt,tt,tt,tt,tt,tt,tt,ff,ff] rfl rfl (any_of HT_.out (by kernel_rfl)) (fun _ _ _ h => h) (Or.inr ⟨by rfl,rfl⟩) ?_ ?_
     rotate_left
     ·simp only [Act.put,sA,sZ,sS,i64_w,i32_w]
      rfl
     refine pure_ (i:=26) (N:=some 51) (v:=?_) (a':=?_) #[tt,tt,tt,tt,tt,tt,tt,tt,tt,tt,tt,tt,tt,tt,tt,tt,tt,tt,tt,tt,tt,tt,tt,tt,tt,tt,tt,ff] rfl rfl (any_of HT_.out (by kernel_rfl)) (fun _ _ _ h => h) (Or.inl ⟨by rfl,?_⟩) ?_ ?_
     rotate_left
     ·intro w'
      go_simp
      with_reducible rfl
     rotate_left
     ·simp only [Act.put,sA,sZ,sS,i64_w,i32_w]
      rfl
     refine pure_ (i:=27) (N:=some 52) (v:=?_) (a':=?_) #[tt,tt,tt,tt,tt,tt,tt,tt,tt,tt,tt,tt,tt,tt,tt,tt,tt,tt,tt,tt,tt,tt,tt,tt,tt,tt,tt,tt] rfl rfl (any_of HT_.out (by kernel_rfl)) (fun _ _ _ h => h) (Or.inl ⟨by rfl,?_⟩) ?_ ?_
     rotate_left
     ·intro w'
      go_simp
      with_reducible rfl
     rotate_left
     ·simp only [Act.put,sA,sZ,sS,i64_w,i32_w]
      rfl
     refine done_ (done_of HT_.out (by kernel_rfl)) ?_
     try go_wp2
     go_meet
     case rel => exact ⟨_,(false),(by first|rfl|(simp;done)|(simp [*];done)),H',⟨by first|omega|exact Nat.le_refl _⟩,⟨by (with_reducible repeat (first|apply zA|apply zN|apply zD));exact HO210.out⟩,⟨by (with_reducible repeat (first|apply bN|apply bD|apply bA));exact BK204.out⟩,⟨by (with_reducible repeat (first|apply bN|apply bD|apply bA));exact BK205.out⟩,⟨by (with_reducible repeat (first|apply bN|apply bD|apply bA));exact BK206.out⟩,⟨by (with_reducible repeat (first|apply bN|apply bD|apply bA));exact BK207.out⟩,⟨by repeat (first|(with_reducible first|exact HB.out|apply aA|apply aW|apply aD|refine below_set ?_ GE204.out|refine below_set ?_ GE205.out|refine below_set ?_ GE206.out|refine below_set ?_ GE207.out)|exact HB.out)⟩⟩
   ·rw [if_neg c23] at H
    have c23b0 : decide (0 < (l0_0.length : Int)) = false:=decide_eq_false c23
    have c23b1 : decide (0 < l0_0.length) = false:=decide_eq_false (by omega)
    clear c23
    (first|rw [c23b0]|(simp only [i64_w,i32_w];rw [c23b0])|skip)
    have H':=aK H
    clear H
    try go_wp2
    have n0_ : Aside0 (Kd.R k58 58 (w17.setCell ⟨gb207,0,none⟩ (.slice Ao18 y208.length co18)) w.heap.size (fun _ => True) (.slice Ao18 y208.length co18) y208):=⟨by (with_reducible repeat (first|apply zA|apply zN|apply zD));exact Kd.R_mono (aY (p:=⟨gb207,0,none⟩) (Kd.R_types HO210.out BK207.out (by decide)) (fun _ hk => hk.2) (.slice Ao18 y208.length co18)) (fun _ hk => trivial)⟩
    have n1_ : Aside0 ((w17.setCell ⟨gb207,0,none⟩ (.slice Ao18 y208.length co18)).heap[gb204]? = some (.cells #[.slice A0_0 l0_0.length c0_0,.int .u64 a0_1,.int .u64 a0_2,.int .u64 a0_3] 28 (0,0))):=⟨by (with_reducible repeat (first|apply bN|apply bD|apply bA));refine aX ?_ NB204_207.out _;(with_reducible repeat (first|apply bN|apply bD|apply bA));exact BK204.out⟩
    have n2_ : Aside0 ((w17.setCell ⟨gb207,0,none⟩ (.slice Ao18 y208.length co18)).heap[gb205]? = some (.cells #[.slice A1_0 l1_0.length c1_0,.int .u64 a1_1,.int .u64 a1_2,.int .u64 a1_3] 25 (0,0))):=⟨by (with_reducible repeat (first|apply bN|apply bD|apply bA));refine aX ?_ NB205_207.out _;(with_reducible repeat (first|apply bN|apply bD|apply bA));exact BK205.out⟩
    have n3_ : Aside0 ((w17.setCell ⟨gb207,0,none⟩ (.slice Ao18 y208.length co18)).heap[gb206]? = some (.cells #[.slice none 0 0,.int .u64 0,.int .u64 0,.int .u64 0] 28 (0,0))):=⟨by (with_reducible repeat (first|apply bN|apply bD|apply bA));refine aX ?_ NB206_207.out _;(with_reducible repeat (first|apply bN|apply bD|apply bA));exact BK206.out⟩
    have n4_ : Aside0 ((w17.setCell ⟨gb207,0,none⟩ (.slice Ao18 y208.length co18)).heap[gb207]? = some (.cells #[.slice Ao18 y208.length co18,.int .u64 a0_1,.int .u64 a0_2,.int .u64 a0_3] 28 (0,0))):=⟨by (with_reducible repeat (first|apply bN|apply bD|apply bA));refine blk_put (cs:=#[.slice none 0 0,.int .u64 a0_1,.int .u64 a0_2,.int .u64 a0_3]) ?_ 0 _ rfl;(with_reducible repeat (first|apply bN|apply bD|apply bA));exact BK207.out⟩
    have n5_ : Aside0 (Below w.heap.size w (w17.setCell ⟨gb207,0,none⟩ (.slice Ao18 y208.length co18))):=⟨by repeat (first|(with_reducible first|exact HB.out|apply aA|apply aW|apply aD|refine below_set ?_ GE204.out|refine below_set ?_ GE205.out|refine below_set ?_ GE206.out|refine below_set ?_ GE207.out)|exact HB.out)⟩
    (try clear HO210)
    (try clear BK204)
    (try clear BK205)
    (try clear BK206)
    (try clear BK207)
    (try clear HB)
    generalize (w17.setCell ⟨gb207,0,none⟩ (.slice Ao18 y208.length co18)) = w35 at n0_ n1_ n2_ n3_ n4_ n5_ ⊢
    have HO210:=n0_
    have BK204:=n1_
    have BK205:=n2_
    have BK206:=n3_
    have BK207:=n4_
    have HB:=n5_
    clear n0_ n1_ n2_ n3_ n4_ n5_
    have n0_:=aK (Kd.R_drew HO210.out)
    have n1_:=aK (blk_drew BK204.out)
    have n2_:=aK (blk_drew BK205.out)
    have n3_:=aK (blk_drew BK206.out)
    have n4_:=aK (blk_drew BK207.out)
    have n5_:=aK (aD HB.out)
    clear HO210
    clear BK204
    clear BK205
    clear BK206
    clear BK207
    clear HB
    have HO210:=n0_
    have BK204:=n1_
    have BK205:=n2_
    have BK206:=n3_
    have BK207:=n4_
    have HB:=n5_
    clear n0_ n1_ n2_ n3_ n4_ n5_
    refine start_ (n:=28) (S:=fun w' => w'.cell? ⟨gb205,0,none⟩ = some (.slice A1_0 l1_0.length c1_0) ∧ w'.cell? ⟨gb205,1,none⟩ = some (.int .u64 a1_1) ∧ w'.cell? ⟨gb205,2,none⟩ = some (.int .u64 a1_2) ∧ w'.cell? ⟨gb205,3,none⟩ = some (.int .u64 a1_3)) (ds:=[]) #[ff,ff,ff,ff,ff,ff,ff,ff,ff,ff,ff,ff,ff,ff,ff,ff,ff,ff,ff,ff,ff,ff,ff,ff,ff,ff,ff,ff] (by kernel_rfl) rfl rfl ⟨(aC BK205.out 0).trans rfl,(aC BK205.out 1).trans rfl,(aC BK205.out 2).trans rfl,(aC BK205.out 3).trans rfl⟩ (fun hHeld => ?_);refine with_tabW ratlineref09_Apply.tab5 ratlineref09_Apply.bits5 (fun HT_ HW_ => ?_)
    generalize w35.drew = w36 at HO210 BK204 BK205 BK206 BK207 HB hHeld ⊢
    refine take_ (i:=0) (N:=some 25) (v:=?_) (a':=?_) #[tt,ff,ff,ff,ff,ff,ff,ff,ff,ff,ff,ff,ff,ff,ff,ff,ff,ff,ff,ff,ff,ff,ff,ff,ff,ff,ff,ff] rfl rfl (take_ofW HT_.out HW_.out (by kernel_rfl)) (fun _ _ _ h => h) (Or.inl ⟨by rfl,?_⟩) hHeld ?_ ?_
    rotate_left
    ·rintro w' ⟨s0,s1,s2,s3⟩
     go_simp
     with_reducible rfl
    rotate_left
    ·simp only [Act.put,sA,sZ,sS,i64_w,i32_w]
     rfl
    refine one_ (i:=1) (N:=some 26) #[tt,tt,ff,ff,ff,ff,ff,ff,ff,ff,ff,ff,ff,ff,ff,ff,ff,ff,ff,ff,ff,ff,ff,ff,ff,ff,ff,ff] rfl rfl (one_of HT_.out (by kernel_rfl)) (by decide) (fun K hK => ?_)
    refine goes_ Try.func18 (by kernel_rfl) rfl #[.agg #[.slice A1_0 l1_0.length c1_0,.int .u64 a1_1,.int .u64 a1_2,.int .u64 a1_3]] (by rfl) rfl rfl (by (try simp only [List.map_toArray,List.map_cons,List.map_nil]);first|done|rfl|(simp only [List.length_drop,List.length_take];rfl)) ?_
    with_reducible refine (ratlineref09_Right.calls k _ _ l1_0 a1_1 a1_2 a1_3 true _ ?side1 ?side2 A21.out).mono ?_
    (case side1 => repeat (first|exact (Kd.C_below HR1_0.out HB.out)|(with_reducible refine Kd.C_alloc ?_ _)|(with_reducible refine Kd.C_drewN ?_ _)|(with_reducible refine Kd.C_drew ?_)))
    (case side2 => exact HC1_0.out)
    rintro e w37 ⟨rfl,hb⟩
    refine ⟨_,rfl,?_⟩
    have n0_:=aK (Kd.R_below (by (with_reducible repeat (first|apply zA|apply zN|apply zD));exact HO210.out) hb)
    have n1_:=aK (blk_below (g:=gb204) (o:=.cells #[.slice A0_0 l0_0.length c0_0,.int .u64 a0_1,.int .u64 a0_2,.int .u64 a0_3] 28 (0,0)) (by (with_reducible repeat (first|apply bN|apply bD|apply bA));exact BK204.out) hb)
    have n2_:=aK (blk_below (g:=gb205) (o:=.cells #[.slice A1_0 l1_0.length c1_0,.int .u64 a1_1,.int .u64 a1_2,.int .u64 a1_3] 25 (0,0)) (by (with_reducible repeat (first|apply bN|apply bD|apply bA));exact BK205.out) hb)
    have n3_:=aK (blk_below (g:=gb206) (o:=.cells #[.slice none 0 0,.int .u64 0,.int .u64 0,.int .u64 0] 28 (0,0)) (by (with_reducible repeat (first|apply bN|apply bD|apply bA));exact BK206.out) hb)
    have n4_:=aK (blk_below (g:=gb207) (o:=.cells #[.slice Ao18 y208.length co18,.int .u64 a0_1,.int .u64 a0_2,.int .u64 a0_3] 28 (0,0)) (by (with_reducible repeat (first|apply bN|apply bD|apply bA));exact BK207.out) hb)
    have n5_:=aK (below_step (by repeat (first|(with_reducible first|exact HB.out|apply aA|apply aW|apply aD|refine below_set ?_ GE204.out|refine below_set ?_ GE205.out|refine below_set ?_ GE206.out|refine below_set ?_ GE207.out)|exact HB.out)) hb)
    clear HO210
    clear BK204
    clear BK205
    clear BK206
    clear BK207
    clear HB
    have HO210:=n0_
    have BK204:=n1_
    have BK205:=n2_
    have BK206:=n3_
    have BK207:=n4_
    have HB:=n5_
    clear n0_ n1_ n2_ n3_ n4_ n5_
    (try clear hb)
    (try clear hb2)
    (try clear hk)
    (try clear hi)
    refine hK.out _ _ ⟨(aC BK205.out 0).trans rfl,(aC BK205.out 1).trans rfl,(aC BK205.out 2).trans rfl,(aC BK205.out 3).trans rfl⟩ (fun hHeld => ?_)
    clear hK K
    refine norm_ (a':=?_) ?_ ?_
    rotate_left
    ·show Act.put _ (some 26) _ = _
     simp only [Act.put,sA,sZ,sS,i64_w,i32_w]
     rfl
    refine pure_ (i:=2) (N:=some 27) (v:=?_) (a':=?_) #[tt,tt,tt,ff,ff,ff,ff,ff,ff,ff,ff,ff,ff,ff,ff,ff,ff,ff,ff,ff,ff,ff,ff,ff,ff,ff,ff,ff] rfl rfl (any_of HT_.out (by kernel_rfl)) (fun _ _ _ h => h) (Or.inl ⟨by rfl,?_⟩) ?_ ?_
    rotate_left
    ·intro w'
     go_simp
     with_reducible rfl
    rotate_left
    ·simp only [Act.put,sA,sZ,sS,i64_w,i32_w]
     rfl
    refine pure_ (i:=3) (N:=some 28) (v:=?_) (a':=?_) #[tt,tt,tt,tt,ff,ff,ff,ff,ff,ff,ff,ff,ff,ff,ff,ff,ff,ff,ff,ff,ff,ff,ff,ff,ff,ff,ff,ff] rfl rfl (any_of HT_.out (by kernel_rfl)) (fun _ _ _ h => h) (Or.inl ⟨by rfl,?_⟩) ?_ ?_
    rotate_left
    ·intro w'
     go_simp
     with_reducible rfl
    rotate_left
    ·simp only [Act.put,sA,sZ,sS,i64_w,i32_w]
     rfl
    refine pure_ (i:=4) (N:=some 29) (v:=?_) (a':=?_) #[tt,tt,tt,tt,tt,ff,ff,ff,ff,ff,ff,ff,ff,ff,ff,ff,ff,ff,ff,ff,ff,ff,ff,ff,ff,ff,ff,ff] rfl rfl (any_of HT_.out (by kernel_rfl)) (fun _ _ _ h => h) (Or.inl ⟨by rfl,?_⟩) ?_ ?_
    rotate_left
    ·intro w'
     go_simp
     with_reducible rfl
    rotate_left
    ·simp only [Act.put,sA,sZ,sS,i64_w,i32_w]
     rfl
    refine pure_ (i:=5) (N:=some 30) (v:=?_) (a':=?_) #[tt,tt,tt,tt,tt,tt,ff,ff,ff,ff,ff,ff,ff,ff,ff,ff,ff,ff,ff,ff,ff,ff,ff,ff,ff,ff,ff,ff] rfl rfl (any_of HT_.out (by kernel_rfl)) (fun _ _ _ h => h) (Or.inl ⟨by rfl,?_⟩) ?_ ?_
    rotate_left
    ·intro w'
     go_simp
     with_reducible rfl
    rotate_left
    ·simp only [Act.put,sA,sZ,sS,i64_w,i32_w]
     rfl
    refine pure_ (i:=6) (N:=some 31) (v:=?_) (a':=?_) #[tt,tt,tt,tt,tt,tt,tt,ff,ff,ff,ff,ff,ff,ff,ff,ff,ff,ff,ff,ff,ff,ff,ff,ff,ff,ff,ff,ff] rfl rfl (any_of HT_.out (by kernel_rfl)) (fun _ _ _ h => h) (Or.inl ⟨by rfl,?_⟩) ?_ ?_
    rotate_left
    ·intro w'
     go_simp
     with_reducible rfl
    rotate_left
    ·simp only [Act.put,sA,sZ,sS,i64_w,i32_w]
     rfl
    refine pure_ (i:=7) (N:=some 32) (v:=undef) (a':=?_) #[tt,tt,tt,tt,tt,tt,tt,tt,ff,ff,ff,ff,ff,ff,ff,ff,ff,ff,ff,ff,ff,ff,ff,ff,ff,ff,ff,ff] rfl rfl (any_of HT_.out (by kernel_rfl)) (fun _ _ _ h => h) (Or.inr ⟨by rfl,rfl⟩) ?_ ?_
    rotate_left
    ·simp only [Act.put,sA,sZ,sS,i64_w,i32_w]
     rfl
    refine pure_ (i:=8) (N:=some 33) (v:=undef) (a':=?_) #[tt,tt,tt,tt,tt,tt,tt,tt,tt,ff,ff,ff,ff,ff,ff,ff,ff,ff,ff,ff,ff,ff,ff,ff,ff,ff,ff,ff] rfl rfl (any_of HT_.out (by kernel_rfl)) (fun _ _ _ h => h) (Or.inr ⟨by rfl,rfl⟩) ?_ ?_
    rotate_left
    ·simp only [Act.put,sA,sZ,sS,i64_w,i32_w]
     rfl
    refine pure_ (i:=9) (N:=some 34) (v:=undef) (a':=?_) #[tt,tt,tt,tt,tt,tt,tt,tt,tt,tt,ff,ff,ff,ff,ff,ff,ff,ff,ff,ff,ff,ff,ff,ff,ff,ff,ff,ff] rfl rfl (any_of HT_.out (by kernel_rfl)) (fun _ _ _ h => h) (Or.inr ⟨by rfl,rfl⟩) ?_ ?_
    rotate_left
    ·simp only [Act.put,sA,sZ,sS,i64_w,i32_w]
     rfl
    refine pure_ (i:=10) (N:=some 35) (v:=undef) (a':=?_) #[tt,tt,tt,tt,tt,tt,tt,tt,tt,tt,tt,ff,ff,ff,ff,ff,ff,ff,ff,ff,ff,ff,ff,ff,ff,ff,ff,ff] rfl rfl (any_of HT_.out (by kernel_rfl)) (fun _ _ _ h => h) (Or.inr ⟨by rfl,rfl⟩) ?_ ?_
    rotate_left
    ·simp only [Act.put,sA,sZ,sS,i64_w,i32_w]
     rfl
    refine pure_ (i:=11) (N:=some 36) (v:=?_) (a':=?_) #[tt,tt,tt,tt,tt,tt,tt,tt,tt,tt,tt,tt,ff,ff,ff,ff,ff,ff,ff,ff,ff,ff,ff,ff,ff,ff,ff,ff] rfl rfl (any_of HT_.out (by kernel_rfl)) (fun _ _ _ h => h) (Or.inl ⟨by rfl,?_⟩) ?_ ?_
    rotate_left
    ·intro w'
     go_simp
     with_reducible rfl
    rotate_left
    ·simp only [Act.put,sA,sZ,sS,i64_w,i32_w]
     rfl
    refine pure_ (i:=12) (N:=some 37) (v:=?_) (a':=?_) #[tt,tt,tt,tt,tt,tt,tt,tt,tt,tt,tt,tt,tt,ff,ff,ff,ff,ff,ff,ff,ff,ff,ff,ff,ff,ff,ff,ff] rfl rfl (any_of HT_.out (by kernel_rfl)) (fun _ _ _ h => h) (Or.inl ⟨by rfl,?_⟩) ?_ ?_
    rotate_left
    ·intro w'
     go_simp
     with_reducible rfl
    rotate_left
    ·simp only [Act.put,sA,sZ,sS,i64_w,i32_w]
     rfl
    refine pure_ (i:=13) (N:=some 38) (v:=undef) (a':=?_) #[tt,tt,tt,tt,tt,tt,tt,tt,tt,tt,tt,tt,tt,tt,ff,ff,ff,ff,ff,ff,ff,ff,ff,ff,ff,ff,ff,ff] rfl rfl (any_of HT_.out (by kernel_rfl)) (fun _ _ _ h => h) (Or.inr ⟨by rfl,rfl⟩) ?_ ?_
    rotate_left
    ·simp only [Act.put,sA,sZ,sS,i64_w,i32_w]
     rfl
    refine pure_ (i:=14) (N:=some 39) (v:=undef) (a':=?_) #[tt,tt,tt,tt,tt,tt,tt,tt,tt,tt,tt,tt,tt,tt,tt,ff,ff,ff,ff,ff,ff,ff,ff,ff,ff,ff,ff,ff] rfl rfl (any_of HT_.out (by kernel_rfl)) (fun _ _ _ h => h) (Or.inr ⟨by rfl,rfl⟩) ?_ ?_
    rotate_left
    ·simp only [Act.put,sA,sZ,sS,i64_w,i32_w]
     rfl
    refine pure_ (i:=15) (N:=some 40) (v:=undef) (a':=?_) #[tt,tt,tt,tt,tt,tt,tt,tt,tt,tt,tt,tt,tt,tt,tt,tt,ff,ff,ff,ff,ff,ff,ff,ff,ff,ff,ff,ff] rfl rfl (any_of HT_.out (by kernel_rfl)) (fun _ _ _ h => h) (Or.inr ⟨by rfl,rfl⟩) ?_ ?_
    rotate_left
    ·simp only [Act.put,sA,sZ,sS,i64_w,i32_w]
     rfl
    refine pure_ (i:=16) (N:=some 41) (v:=undef) (a':=?_) #[tt,tt,tt,tt,tt,tt,tt,tt,tt,tt,tt,tt,tt,tt,tt,tt,tt,ff,ff,ff,ff,ff,ff,ff,ff,ff,ff,ff] rfl rfl (any_of HT_.out (by kernel_rfl)) (fun _ _ _ h => h) (Or.inr ⟨by rfl,rfl⟩) ?_ ?_
    rotate_left
    ·simp only [Act.put,sA,sZ,sS,i64_w,i32_w]
     rfl
    refine pure_ (i:=17) (N:=some 42) (v:=undef) (a':=?_) #[tt,tt,tt,tt,tt,tt,tt,tt,tt,tt,tt,tt,tt,tt,tt,tt,tt,tt,ff,ff,ff,ff,ff,ff,ff,ff,ff,ff] rfl rfl (any_of HT_.out (by kernel_rfl)) (fun _ _ _ h => h) (Or.inr ⟨by rfl,rfl⟩) ?_ ?_
    rotate_left
    ·simp only [Act.put,sA,sZ,sS,i64_w,i32_w]
     rfl
    refine pure_ (i:=18) (N:=some 43) (v:=undef) (a':=?_) #[tt,tt,tt,tt,tt,tt,tt,tt,tt,tt,tt,tt,tt,tt,tt,tt,tt,tt,tt,ff,ff,ff,ff,ff,ff,ff,ff,ff] rfl rfl (any_of HT_.out (by kernel_rfl)) (fun _ _ _ h => h) (Or.inr ⟨by rfl,rfl⟩) ?_ ?_
    rotate_left
    ·simp only [Act.put,sA,sZ,sS,i64_w,i32_w]
     rfl
    refine pure_ (i:=19) (N:=some 44) (v:=undef) (a':=?_) #[tt,tt,tt,tt,tt,tt,tt,tt,tt,tt,tt,tt,tt,tt,tt,tt,tt,tt,tt,tt,ff,ff,ff,ff,ff,ff,ff,ff] rfl rfl (any_of HT_.out (by kernel_rfl)) (fun _ _ _ h => h) (Or.inr ⟨by rfl,rfl⟩) ?_ ?_
    rotate_left
    ·simp only [Act.put,sA,sZ,sS,i64_w,i32_w]
     rfl
    refine pure_ (i:=20) (N:=some 45) (v:=undef) (a':=?_) #[tt,tt,tt,tt,tt,tt,tt,tt,tt,tt,tt,tt,tt,tt,tt,tt,tt,tt,tt,tt,tt,ff,ff,ff,ff,ff,ff,ff] rfl rfl (any_of HT_.out (by kernel_rfl)) (fun _ _ _ h => h) (Or.inr ⟨by rfl,rfl⟩) ?_ ?_
    rotate_left
    ·simp only [Act.put,sA,sZ,sS,i64_w,i32_w]
     rfl
    refine pure_ (i:=21) (N:=some 46) (v:=undef) (a':=?_) #[tt,tt,tt,tt,tt,tt,tt,tt,tt,tt,tt,tt,tt,tt,tt,tt,tt,tt,tt,tt,tt,tt,ff,ff,ff,ff,ff,ff] rfl rfl (any_of HT_.out (by kernel_rfl)) (fun _ _ _ h => h) (Or.inr ⟨by rfl,rfl⟩) ?_ ?_
    rotate_left
    ·simp only [Act.put,sA,sZ,sS,i64_w,i32_w]
     rfl
    refine pure_ (i:=22) (N:=some 47) (v:=undef) (a':=?_) #[tt,tt,tt,tt,tt,tt,tt,tt,tt,tt,tt,tt,tt,tt,tt,tt,tt,tt,tt,tt,tt,tt,tt,ff,ff,ff,ff,ff] rfl rfl (any_of HT_.out (by kernel_rfl)) (fun _ _ _ h => h) (Or.inr ⟨by rfl,rfl⟩) ?_ ?_
    rotate_left
    ·simp only [Act.put,sA,sZ,sS,i64_w,i32_w]
     rfl
    refine pure_ (i:=23) (N:=some 48) (v:=undef) (a':=?_) #[tt,tt,tt,tt,tt,tt,tt,tt,tt,tt,tt,tt,tt,tt,tt,tt,tt,tt,tt,tt,tt,tt,tt,tt,ff,ff,ff,ff] rfl rfl (any_of HT_.out (by kernel_rfl)) (fun _ _ _ h => h) (Or.inr ⟨by rfl,rfl⟩) ?_ ?_
    rotate_left
    ·simp only [Act.put,sA,sZ,sS,i64_w,i32_w]
     rfl
    refine pure_ (i:=24) (N:=some 49) (v:=undef) (a':=?_) #[tt,tt,tt,tt,tt,tt,tt,tt,tt,tt,tt,tt,tt,tt,tt,tt,tt,tt,tt,tt,tt,tt,tt,tt,tt,ff,ff,ff] rfl rfl (any_of HT_.out (by kernel_rfl)) (fun _ _ _ h => h) (Or.inr ⟨by rfl,rfl⟩) ?_ ?_
    rotate_left
    ·simp only [Act.put,sA,sZ,sS,i64_w,i32_w]
     rfl
    refine pure_ (i:=25) (N:=some 50) (v:=undef) (a':=?_) #[tt,tt,tt,tt,tt,tt,tt,tt,tt,tt,tt,tt,tt,tt,tt,tt,tt,tt,tt,tt,tt,tt,tt,tt,tt,tt,ff,ff] rfl rfl (any_of HT_.out (by kernel_rfl)) (fun _ _ _ h => h) (Or.inr ⟨by rfl,rfl⟩) ?_ ?_
    rotate_left
    ·simp only [Act.put,sA,sZ,sS,i64_w,i32_w]
     rfl
    refine pure_ (i:=26) (N:=some 51) (v:=?_) (a':=?_) #[tt,tt,tt,tt,tt,tt,tt,tt,tt,tt,tt,tt,tt,tt,tt,tt,tt,tt,tt,tt,tt,tt,tt,tt,tt,tt,tt,ff] rfl rfl (any_of HT_.out (by kernel_rfl)) (fun _ _ _ h => h) (Or.inl ⟨by rfl,?_⟩) ?_ ?_
    rotate_left
    ·intro w'
     go_simp
     with_reducible rfl
    rotate_left
    ·simp only [Act.put,sA,sZ,sS,i64_w,i32_w]
     rfl
    refine pure_ (i:=27) (N:=some 52) (v:=?_) (a':=?_) #[tt,tt,tt,tt,tt,tt,tt,tt,tt,tt,tt,tt,tt,tt,tt,tt,tt,tt,tt,tt,tt,tt,tt,tt,tt,tt,tt,tt] rfl rfl (any_of HT_.out (by kernel_rfl)) (fun _ _ _ h => h) (Or.inl ⟨by rfl,?_⟩) ?_ ?_
    rotate_left
    ·intro w'
     go_simp
     with_reducible rfl
    rotate_left
    ·simp only [Act.put,sA,sZ,sS,i64_w,i32_w]
     rfl
    refine done_ (done_of HT_.out (by kernel_rfl)) ?_
    try go_wp2
    go_meet
    case rel => exact ⟨_,(false),(by first|rfl|(simp;done)|(simp [*];done)),H',⟨by first|omega|exact Nat.le_refl _⟩,⟨by (with_reducible repeat (first|apply zA|apply zN|apply zD));exact HO210.out⟩,⟨by (with_reducible repeat (first|apply bN|apply bD|apply bA));exact BK204.out⟩,⟨by (with_reducible repeat (first|apply bN|apply bD|apply bA));exact BK205.out⟩,⟨by (with_reducible repeat (first|apply bN|apply bD|apply bA));exact BK206.out⟩,⟨by (with_reducible repeat (first|apply bN|apply bD|apply bA));exact BK207.out⟩,⟨by repeat (first|(with_reducible first|exact HB.out|apply aA|apply aW|apply aD|refine below_set ?_ GE204.out|refine below_set ?_ GE205.out|refine below_set ?_ GE206.out|refine below_set ?_ GE207.out)|exact HB.out)⟩⟩
  ·replace c22:=Bool.eq_false_iff.mpr c22
   subst c22
   have H1 : (ratlineref09_Apply.j0 k true l0_0 a0_1 a0_2 a0_3 l1_0 a1_1 a1_2 a1_3 y208 a0_1 a0_2 a0_3) = some (r1,r2,r3,r4,r5):=by rw [if_neg (show ¬ (false = true) by decide)] at H;exact H
   clear H
   have H:=H1
   clear H1
   have H':=aK H
   clear H
   try go_wp2
   have n0_ : Aside0 (Kd.R k58 58 (w17.setCell ⟨gb207,0,none⟩ (.slice Ao18 y208.length co18)) w.heap.size (fun _ => True) (.slice Ao18 y208.length co18) y208):=⟨by (with_reducible repeat (first|apply zA|apply zN|apply zD));exact Kd.R_mono (aY (p:=⟨gb207,0,none⟩) (Kd.R_types HO210.out BK207.out (by decide)) (fun _ hk => hk.2) (.slice Ao18 y208.length co18)) (fun _ hk => trivial)⟩
   have n1_ : Aside0 ((w17.setCell ⟨gb207,0,none⟩ (.slice Ao18 y208.length co18)).heap[gb204]? = some (.cells #[.slice A0_0 l0_0.length c0_0,.int .u64 a0_1,.int .u64 a0_2,.int .u64 a0_3] 28 (0,0))):=⟨by (with_reducible repeat (first|apply bN|apply bD|apply bA));refine aX ?_ NB204_207.out _;(with_reducible repeat (first|apply bN|apply bD|apply bA));exact BK204.out⟩
   have n2_ : Aside0 ((w17.setCell ⟨gb207,0,none⟩ (.slice Ao18 y208.length co18)).heap[gb205]? = some (.cells #[.slice A1_0 l1_0.length c1_0,.int .u64 a1_1,.int .u64 a1_2,.int .u64 a1_3] 25 (0,0))):=⟨by (with_reducible repeat (first|apply bN|apply bD|apply bA));refine aX ?_ NB205_207.out _;(with_reducible repeat (first|apply bN|apply bD|apply bA));exact BK205.out⟩
   have n3_ : Aside0 ((w17.setCell ⟨gb207,0,none⟩ (.slice Ao18 y208.length co18)).heap[gb206]? = some (.cells #[.slice none 0 0,.int .u64 0,.int .u64 0,.int .u64 0] 28 (0,0))):=⟨by (with_reducible repeat (first|apply bN|apply bD|apply bA));refine aX ?_ NB206_207.out _;(with_reducible repeat (first|apply bN|apply bD|apply bA));exact BK206.out⟩
   have n4_ : Aside0 ((w17.setCell ⟨gb207,0,none⟩ (.slice Ao18 y208.length co18)).heap[gb207]? = some (.cells #[.slice Ao18 y208.length co18,.int .u64 a0_1,.int .u64 a0_2,.int .u64 a0_3] 28 (0,0))):=⟨by (with_reducible repeat (first|apply bN|apply bD|apply bA));refine blk_put (cs:=#[.slice none 0 0,.int .u64 a0_1,.int .u64 a0_2,.int .u64 a0_3]) ?_ 0 _ rfl;(with_reducible repeat (first|apply bN|apply bD|apply bA));exact BK207.out⟩
   have n5_ : Aside0 (Below w.heap.size w (w17.setCell ⟨gb207,0,none⟩ (.slice Ao18 y208.length co18))):=⟨by repeat (first|(with_reducible first|exact HB.out|apply aA|apply aW|apply aD|refine below_set ?_ GE204.out|refine below_set ?_ GE205.out|refine below_set ?_ GE206.out|refine below_set ?_ GE207.out)|exact HB.out)⟩
   (try clear HO210)
   (try clear BK204)
   (try clear BK205)
   (try clear BK206)
   (try clear BK207)
   (try clear HB)
   generalize (w17.setCell ⟨gb207,0,none⟩ (.slice Ao18 y208.length co18)) = w38 at n0_ n1_ n2_ n3_ n4_ n5_ ⊢
   have HO210:=n0_
   have BK204:=n1_
   have BK205:=n2_
   have BK206:=n3_
   have BK207:=n4_
   have HB:=n5_
   clear n0_ n1_ n2_ n3_ n4_ n5_
   have n0_:=aK (Kd.R_drew HO210.out)
   have n1_:=aK (blk_drew BK204.out)
   have n2_:=aK (blk_drew BK205.out)
   have n3_:=aK (blk_drew BK206.out)
   have n4_:=aK (blk_drew BK207.out)
   have n5_:=aK (aD HB.out)
   clear HO210
   clear BK204
   clear BK205
   clear BK206
   clear BK207
   clear HB
   have HO210:=n0_
   have BK204:=n1_
   have BK205:=n2_
   have BK206:=n3_
   have BK207:=n4_
   have HB:=n5_
   clear n0_ n1_ n2_ n3_ n4_ n5_
   refine start_ (n:=28) (S:=fun w' => w'.cell? ⟨gb205,0,none⟩ = some (.slice A1_0 l1_0.length c1_0) ∧ w'.cell? ⟨gb205,1,none⟩ = some (.int .u64 a1_1) ∧ w'.cell? ⟨gb205,2,none⟩ = some (.int .u64 a1_2) ∧ w'.cell? ⟨gb205,3,none⟩ = some (.int .u64 a1_3)) (ds:=[]) #[ff,ff,ff,ff,ff,ff,ff,ff,ff,ff,ff,ff,ff,ff,ff,ff,ff,ff,ff,ff,ff,ff,ff,ff,ff,ff,ff,ff] (by kernel_rfl) rfl rfl ⟨(aC BK205.out 0).trans rfl,(aC BK205.out 1).trans rfl,(aC BK205.out 2).trans rfl,(aC BK205.out 3).trans rfl⟩ (fun hHeld => ?_);refine with_tabW ratlineref09_Apply.tab5 ratlineref09_Apply.bits5 (fun HT_ HW_ => ?_)
   generalize w38.drew = w39 at HO210 BK204 BK205 BK206 BK207 HB hHeld ⊢
   refine take_ (i:=0) (N:=some 25) (v:=?_) (a':=?_) #[tt,ff,ff,ff,ff,ff,ff,ff,ff,ff,ff,ff,ff,ff,ff,ff,ff,ff,ff,ff,ff,ff,ff,ff,ff,ff,ff,ff] rfl rfl (take_ofW HT_.out HW_.out (by kernel_rfl)) (fun _ _ _ h => h) (Or.inl ⟨by rfl,?_⟩) hHeld ?_ ?_
   rotate_left
   ·rintro w' ⟨s0,s1,s2,s3⟩
    go_simp
    with_reducible rfl
   rotate_left
   ·simp only [Act.put,sA,sZ,sS,i64_w,i32_w]
    rfl
   refine one_ (i:=1) (N:=some 26) #[tt,tt,ff,ff,ff,ff,ff,ff,ff,ff,ff,ff,ff,ff,ff,ff,ff,ff,ff,ff,ff,ff,ff,ff,ff,ff,ff,ff] rfl rfl (one_of HT_.out (by kernel_rfl)) (by decide) (fun K hK => ?_)
   refine goes_ Try.func18 (by kernel_rfl) rfl #[.agg #[.slice A1_0 l1_0.length c1_0,.int .u64 a1_1,.int .u64 a1_2,.int .u64 a1_3]] (by rfl) rfl rfl (by (try simp only [List.map_toArray,List.map_cons,List.map_nil]);first|done|rfl|(simp only [List.length_drop,List.length_take];rfl)) ?_
   with_reducible refine (ratlineref09_Right.calls k _ _ l1_0 a1_1 a1_2 a1_3 false _ ?side1 ?side2 A21.out).mono ?_
   (case side1 => repeat (first|exact (Kd.C_below HR1_0.out HB.out)|(with_reducible refine Kd.C_alloc ?_ _)|(with_reducible refine Kd.C_drewN ?_ _)|(with_reducible refine Kd.C_drew ?_)))
   (case side2 => exact HC1_0.out)
   rintro e w40 ⟨rfl,hb⟩
   refine ⟨_,rfl,?_⟩
   have n0_:=aK (Kd.R_below (by (with_reducible repeat (first|apply zA|apply zN|apply zD));exact HO210.out) hb)
   have n1_:=aK (blk_below (g:=gb204) (o:=.cells #[.slice A0_0 l0_0.length c0_0,.int .u64 a0_1,.int .u64 a0_2,.int .u64 a0_3] 28 (0,0)) (by (with_reducible repeat (first|apply bN|apply bD|apply bA));exact BK204.out) hb)
   have n2_:=aK (blk_below (g:=gb205) (o:=.cells #[.slice A1_0 l1_0.length c1_0,.int .u64 a1_1,.int .u64 a1_2,.int .u64 a1_3] 25 (0,0)) (by (with_reducible repeat (first|apply bN|apply bD|apply bA));exact BK205.out) hb)
   have n3_:=aK (blk_below (g:=gb206) (o:=.cells #[.slice none 0 0,.int .u64 0,.int .u64 0,.int .u64 0] 28 (0,0)) (by (with_reducible repeat (first|apply bN|apply bD|apply bA));exact BK206.out) hb)
   have n4_:=aK (blk_below (g:=gb207) (o:=.cells #[.slice Ao18 y208.length co18,.int .u64 a0_1,.int .u64 a0_2,.int .u64 a0_3] 28 (0,0)) (by (with_reducible repeat (first|apply bN|apply bD|apply bA));exact BK207.out) hb)
   have n5_:=aK (below_step (by repeat (first|(with_reducible first|exact HB.out|apply aA|apply aW|apply aD|refine below_set ?_ GE204.out|refine below_set ?_ GE205.out|refine below_set ?_ GE206.out|refine below_set ?_ GE207.out)|exact HB.out)) hb)
   clear HO210
   clear BK204
   clear BK205
   clear BK206
   clear BK207
   clear HB
   have HO210:=n0_
   have BK204:=n1_
   have BK205:=n2_
   have BK206:=n3_
   have BK207:=n4_
   have HB:=n5_
   clear n0_ n1_ n2_ n3_ n4_ n5_
   (try clear hb)
   (try clear hb2)
   (try clear hk)
   (try clear hi)
   refine hK.out _ _ ⟨(aC BK205.out 0).trans rfl,(aC BK205.out 1).trans rfl,(aC BK205.out 2).trans rfl,(aC BK205.out 3).trans rfl⟩ (fun hHeld => ?_)
   clear hK K
   refine norm_ (a':=?_) ?_ ?_
   rotate_left
   ·show Act.put _ (some 26) _ = _
    simp only [Act.put,sA,sZ,sS,i64_w,i32_w]
    rfl
   refine pure_ (i:=2) (N:=some 27) (v:=?_) (a':=?_) #[tt,tt,tt,ff,ff,ff,ff,ff,ff,ff,ff,ff,ff,ff,ff,ff,ff,ff,ff,ff,ff,ff,ff,ff,ff,ff,ff,ff] rfl rfl (any_of HT_.out (by kernel_rfl)) (fun _ _ _ h => h) (Or.inl ⟨by rfl,?_⟩) ?_ ?_
   rotate_left
   ·intro w'
    go_simp
    with_reducible rfl
   rotate_left
   ·simp only [Act.put,sA,sZ,sS,i64_w,i32_w]
    rfl
   refine pure_ (i:=3) (N:=some 28) (v:=?_) (a':=?_) #[tt,tt,tt,tt,ff,ff,ff,ff,ff,ff,ff,ff,ff,ff,ff,ff,ff,ff,ff,ff,ff,ff,ff,ff,ff,ff,ff,ff] rfl rfl (any_of HT_.out (by kernel_rfl)) (fun _ _ _ h => h) (Or.inl ⟨by rfl,?_⟩) ?_ ?_
   rotate_left
   ·intro w'
    go_simp
    with_reducible rfl
   rotate_left
   ·simp only [Act.put,sA,sZ,sS,i64_w,i32_w]
    rfl
   refine pure_ (i:=4) (N:=some 29) (v:=undef) (a':=?_) #[tt,tt,tt,tt,tt,ff,ff,ff,ff,ff,ff,ff,ff,ff,ff,ff,ff,ff,ff,ff,ff,ff,ff,ff,ff,ff,ff,ff] rfl rfl (any_of HT_.out (by kernel_rfl)) (fun _ _ _ h => h) (Or.inr ⟨by rfl,rfl⟩) ?_ ?_
   rotate_left
   ·simp only [Act.put,sA,sZ,sS,i64_w,i32_w]
    rfl
   refine pure_ (i:=5) (N:=some 30) (v:=undef) (a':=?_) #[tt,tt,tt,tt,tt,tt,ff,ff,ff,ff,ff,ff,ff,ff,ff,ff,ff,ff,ff,ff,ff,ff,ff,ff,ff,ff,ff,ff] rfl rfl (any_of HT_.out (by kernel_rfl)) (fun _ _ _ h => h) (Or.inr ⟨by rfl,rfl⟩) ?_ ?_
   rotate_left
   ·simp only [Act.put,sA,sZ,sS,i64_w,i32_w]
    rfl
   refine pure_ (i:=6) (N:=some 31) (v:=undef) (a':=?_) #[tt,tt,tt,tt,tt,tt,tt,ff,ff,ff,ff,ff,ff,ff,ff,ff,ff,ff,ff,ff,ff,ff,ff,ff,ff,ff,ff,ff] rfl rfl (any_of HT_.out (by kernel_rfl)) (fun _ _ _ h => h) (Or.inr ⟨by rfl,rfl⟩) ?_ ?_
   rotate_left
   ·simp only [Act.put,sA,sZ,sS,i64_w,i32_w]
    rfl
   refine pure_ (i:=7) (N:=some 32) (v:=undef) (a':=?_) #[tt,tt,tt,tt,tt,tt,tt,tt,ff,ff,ff,ff,ff,ff,ff,ff,ff,ff,ff,ff,ff,ff,ff,ff,ff,ff,ff,ff] rfl rfl (any_of HT_.out (by kernel_rfl)) (fun _ _ _ h => h) (Or.inr ⟨by rfl,rfl⟩) ?_ ?_
   rotate_left
   ·simp only [Act.put,sA,sZ,sS,i64_w,i32_w]
    rfl
   refine pure_ (i:=8) (N:=some 33) (v:=undef) (a':=?_) #[tt,tt,tt,tt,tt,tt,tt,tt,tt,ff,ff,ff,ff,ff,ff,ff,ff,ff,ff,ff,ff,ff,ff,ff,ff,ff,ff,ff] rfl rfl (any_of HT_.out (by kernel_rfl)) (fun _ _ _ h => h) (Or.inr ⟨by rfl,rfl⟩) ?_ ?_
   rotate_left
   ·simp only [Act.put,sA,sZ,sS,i64_w,i32_w]
    rfl
   refine pure_ (i:=9) (N:=some 34) (v:=undef) (a':=?_) #[tt,tt,tt,tt,tt,tt,tt,tt,tt,tt,ff,ff,ff,ff,ff,ff,ff,ff,ff,ff,ff,ff,ff,ff,ff,ff,ff,ff] rfl rfl (any_of HT_.out (by kernel_rfl)) (fun _ _ _ h => h) (Or.inr ⟨by rfl,rfl⟩) ?_ ?_
   rotate_left
   ·simp only [Act.put,sA,sZ,sS,i64_w,i32_w]
    rfl
   refine pure_ (i:=10) (N:=some 35) (v:=undef) (a':=?_) #[tt,tt,tt,tt,tt,tt,tt,tt,tt,tt,tt,ff,ff,ff,ff,ff,ff,ff,ff,ff,ff,ff,ff,ff,ff,ff,ff,ff] rfl rfl (any_of HT_.out (by kernel_rfl)) (fun _ _ _ h => h) (Or.inr ⟨by rfl,rfl⟩) ?_ ?_
   rotate_left
   ·simp only [Act.put,sA,sZ,sS,i64_w,i32_w]
    rfl
   refine pure_ (i:=11) (N:=some 36) (v:=undef) (a':=?_) #[tt,tt,tt,tt,tt,tt,tt,tt,tt,tt,tt,tt,ff,ff,ff,ff,ff,ff,ff,ff,ff,ff,ff,ff,ff,ff,ff,ff] rfl rfl (any_of HT_.out (by kernel_rfl)) (fun _ _ _ h => h) (Or.inr ⟨by rfl,rfl⟩) ?_ ?_
   rotate_left
   ·simp only [Act.put,sA,sZ,sS,i64_w,i32_w]
    rfl
   refine pure_ (i:=12) (N:=some 37) (v:=undef) (a':=?_) #[tt,tt,tt,tt,tt,tt,tt,tt,tt,tt,tt,tt,tt,ff,ff,ff,ff,ff,ff,ff,ff,ff,ff,ff,ff,ff,ff,ff] rfl rfl (any_of HT_.out (by kernel_rfl)) (fun _ _ _ h => h) (Or.inr ⟨by rfl,rfl⟩) ?_ ?_
   rotate_left
   ·simp only [Act.put,sA,sZ,sS,i64_w,i32_w]
    rfl
   refine pure_ (i:=13) (N:=some 38) (v:=undef) (a':=?_) #[tt,tt,tt,tt,tt,tt,tt,tt,tt,tt,tt,tt,tt,tt,ff,ff,ff,ff,ff,ff,ff,ff,ff,ff,ff,ff,ff,ff] rfl rfl (any_of HT_.out (by kernel_rfl)) (fun _ _ _ h => h) (Or.inr ⟨by rfl,rfl⟩) ?_ ?_
   rotate_left
   ·simp only [Act.put,sA,sZ,sS,i64_w,i32_w]
    rfl
   refine pure_ (i:=14) (N:=some 39) (v:=undef) (a':=?_) #[tt,tt,tt,tt,tt,tt,tt,tt,tt,tt,tt,tt,tt,tt,tt,ff,ff,ff,ff,ff,ff,ff,ff,ff,ff,ff,ff,ff] rfl rfl (any_of HT_.out (by kernel_rfl)) (fun _ _ _ h => h) (Or.inr ⟨by rfl,rfl⟩) ?_ ?_
   rotate_left
   ·simp only [Act.put,sA,sZ,sS,i64_w,i32_w]
    rfl
   refine pure_ (i:=15) (N:=some 40) (v:=undef) (a':=?_) #[tt,tt,tt,tt,tt,tt,tt,tt,tt,tt,tt,tt,tt,tt,tt,tt,ff,ff,ff,ff,ff,ff,ff,ff,ff,ff,ff,ff] rfl rfl (any_of HT_.out (by kernel_rfl)) (fun _ _ _ h => h) (Or.inr ⟨by rfl,rfl⟩) ?_ ?_
   rotate_left
   ·simp only [Act.put,sA,sZ,sS,i64_w,i32_w]
    rfl
   refine pure_ (i:=16) (N:=some 41) (v:=undef) (a':=?_) #[tt,tt,tt,tt,tt,tt,tt,tt,tt,tt,tt,tt,tt,tt,tt,tt,tt,ff,ff,ff,ff,ff,ff,ff,ff,ff,ff,ff] rfl rfl (any_of HT_.out (by kernel_rfl)) (fun _ _ _ h => h) (Or.inr ⟨by rfl,rfl⟩) ?_ ?_
   rotate_left
   ·simp only [Act.put,sA,sZ,sS,i64_w,i32_w]
    rfl
   refine pure_ (i:=17) (N:=some 42) (v:=undef) (a':=?_) #[tt,tt,tt,tt,tt,tt,tt,tt,tt,tt,tt,tt,tt,tt,tt,tt,tt,tt,ff,ff,ff,ff,ff,ff,ff,ff,ff,ff] rfl rfl (any_of HT_.out (by kernel_rfl)) (fun _ _ _ h => h) (Or.inr ⟨by rfl,rfl⟩) ?_ ?_
   rotate_left
   ·simp only [Act.put,sA,sZ,sS,i64_w,i32_w]
    rfl
   refine pure_ (i:=18) (N:=some 43) (v:=undef) (a':=?_) #[tt,tt,tt,tt,tt,tt,tt,tt,tt,tt,tt,tt,tt,tt,tt,tt,tt,tt,tt,ff,ff,ff,ff,ff,ff,ff,ff,ff] rfl rfl (any_of HT_.out (by kernel_rfl)) (fun _ _ _ h => h) (Or.inr ⟨by rfl,rfl⟩) ?_ ?_
   rotate_left
   ·simp only [Act.put,sA,sZ,sS,i64_w,i32_w]
    rfl
   refine pure_ (i:=19) (N:=some 44) (v:=undef) (a':=?_) #[tt,tt,tt,tt,tt,tt,tt,tt,tt,tt,tt,tt,tt,tt,tt,tt,tt,tt,tt,tt,ff,ff,ff,ff,ff,ff,ff,ff] rfl rfl (any_of HT_.out (by kernel_rfl)) (fun _ _ _ h => h) (Or.inr ⟨by rfl,rfl⟩) ?_ ?_
   rotate_left
   ·simp only [Act.put,sA,sZ,sS,i64_w,i32_w]
    rfl
   refine pure_ (i:=20) (N:=some 45) (v:=undef) (a':=?_) #[tt,tt,tt,tt,tt,tt,tt,tt,tt,tt,tt,tt,tt,tt,tt,tt,tt,tt,tt,tt,tt,ff,ff,ff,ff,ff,ff,ff] rfl rfl (any_of HT_.out (by kernel_rfl)) (fun _ _ _ h => h) (Or.inr ⟨by rfl,rfl⟩) ?_ ?_
   rotate_left
   ·simp only [Act.put,sA,sZ,sS,i64_w,i32_w]
    rfl
   refine pure_ (i:=21) (N:=some 46) (v:=undef) (a':=?_) #[tt,tt,tt,tt,tt,tt,tt,tt,tt,tt,tt,tt,tt,tt,tt,tt,tt,tt,tt,tt,tt,tt,ff,ff,ff,ff,ff,ff] rfl rfl (any_of HT_.out (by kernel_rfl)) (fun _ _ _ h => h) (Or.inr ⟨by rfl,rfl⟩) ?_ ?_
   rotate_left
   ·simp only [Act.put,sA,sZ,sS,i64_w,i32_w]
    rfl
   refine pure_ (i:=22) (N:=some 47) (v:=undef) (a':=?_) #[tt,tt,tt,tt,tt,tt,tt,tt,tt,tt,tt,tt,tt,tt,tt,tt,tt,tt,tt,tt,tt,tt,tt,ff,ff,ff,ff,ff] rfl rfl (any_of HT_.out (by kernel_rfl)) (fun _ _ _ h => h) (Or.inr ⟨by rfl,rfl⟩) ?_ ?_
   rotate_left
   ·simp only [Act.put,sA,sZ,sS,i64_w,i32_w]
    rfl
   refine pure_ (i:=23) (N:=some 48) (v:=undef) (a':=?_) #[tt,tt,tt,tt,tt,tt,tt,tt,tt,tt,tt,tt,tt,tt,tt,tt,tt,tt,tt,tt,tt,tt,tt,tt,ff,ff,ff,ff] rfl rfl (any_of HT_.out (by kernel_rfl)) (fun _ _ _ h => h) (Or.inr ⟨by rfl,rfl⟩) ?_ ?_
   rotate_left
   ·simp only [Act.put,sA,sZ,sS,i64_w,i32_w]
    rfl
   refine pure_ (i:=24) (N:=some 49) (v:=undef) (a':=?_) #[tt,tt,tt,tt,tt,tt,tt,tt,tt,tt,tt,tt,tt,tt,tt,tt,tt,tt,tt,tt,tt,tt,tt,tt,tt,ff,ff,ff] rfl rfl (any_of HT_.out (by kernel_rfl)) (fun _ _ _ h => h) (Or.inr ⟨by rfl,rfl⟩) ?_ ?_
   rotate_left
   ·simp only [Act.put,sA,sZ,sS,i64_w,i32_w]
    rfl
   refine pure_ (i:=25) (N:=some 50) (v:=undef) (a':=?_) #[tt,tt,tt,tt,tt,tt,tt,tt,tt,tt,tt,tt,tt,tt,tt,tt,tt,tt,tt,tt,tt,tt,tt,tt,tt,tt,ff,ff] rfl rfl (any_of HT_.out (by kernel_rfl)) (fun _ _ _ h => h) (Or.inr ⟨by rfl,rfl⟩) ?_ ?_
   rotate_left
   ·simp only [Act.put,sA,sZ,sS,i64_w,i32_w]
    rfl
   refine pure_ (i:=26) (N:=some 51) (v:=undef) (a':=?_) #[tt,tt,tt,tt,tt,tt,tt,tt,tt,tt,tt,tt,tt,tt,tt,tt,tt,tt,tt,tt,tt,tt,tt,tt,tt,tt,tt,ff] rfl rfl (any_of HT_.out (by kernel_rfl)) (fun _ _ _ h => h) (Or.inr ⟨by rfl,rfl⟩) ?_ ?_
   rotate_left
   ·simp only [Act.put,sA,sZ,sS,i64_w,i32_w]
    rfl
   refine pure_ (i:=27) (N:=some 52) (v:=?_) (a':=?_) #[tt,tt,tt,tt,tt,tt,tt,tt,tt,tt,tt,tt,tt,tt,tt,tt,tt,tt,tt,tt,tt,tt,tt,tt,tt,tt,tt,tt] rfl rfl (any_of HT_.out (by kernel_rfl)) (fun _ _ _ h => h) (Or.inl ⟨by rfl,?_⟩) ?_ ?_
   rotate_left
   ·intro w'
    go_simp
    with_reducible rfl
   rotate_left
   ·simp only [Act.put,sA,sZ,sS,i64_w,i32_w]
    rfl
   refine done_ (done_of HT_.out (by kernel_rfl)) ?_
   try go_wp2
   go_meet
   case rel => exact ⟨_,(true),(by first|rfl|(simp;done)|(simp [*];done)),H',⟨by first|omega|exact Nat.le_refl _⟩,⟨by (with_reducible repeat (first|apply zA|apply zN|apply zD));exact HO210.out⟩,⟨by (with_reducible repeat (first|apply bN|apply bD|apply bA));exact BK204.out⟩,⟨by (with_reducible repeat (first|apply bN|apply bD|apply bA));exact BK205.out⟩,⟨by (with_reducible repeat (first|apply bN|apply bD|apply bA));exact BK206.out⟩,⟨by (with_reducible repeat (first|apply bN|apply bD|apply bA));exact BK207.out⟩,⟨by repeat (first|(with_reducible first|exact HB.out|apply aA|apply aW|apply aD|refine below_set ?_ GE204.out|refine below_set ?_ GE205.out|refine below_set ?_ GE206.out|refine below_set ?_ GE207.out)|exact HB.out)⟩⟩
 case rest =>
  clear HC4
  try clear c1
  try clear c2
  try clear p2
  try clear c18
  try clear c22
  try clear c23
  try clear c23b0
  try clear c23b1
  obtain ⟨kq,x52_3,rfl,HA,HJ3,HO_208000,BK204,BK205,BK206,BK207,HB⟩:=hcut
  cases kq with
  | zero => exact absurd HA.out (by simp [ratlineref09_Apply.j0])
  | succ kj3 =>
   have H:=HA.out
   clear HA
   simp only [ratlineref09_Apply.j0] at H
   by_cases c41 : x52_3 = true
   ·subst c41
    have H1 : (some (y208,a0_1,a0_2,a0_3,90)) = some (r1,r2,r3,r4,r5):=by rw [if_pos rfl] at H;exact H
    clear H
    have H:=H1
    clear H1
    simp only [Option.some.injEq,Prod.mk.injEq] at H
    obtain ⟨rfl,rfl,rfl,rfl,rfl⟩:=H
    have hnb42:=NB207_204.out
    have hnc42:=NB204_207.out
    have hnb43:=NB207_205.out
    have hnc43:=NB205_207.out
    have hnb44:=NB207_206.out
    have hnc44:=NB206_207.out
    have hcz45_0 : wc.cell? ⟨gb207,0,none⟩ = some (.slice Ao18 y208.length co18):=(aC BK207.out 0).trans rfl
    have hcz45_1 : wc.cell? ⟨gb207,1,none⟩ = some (.int .u64 a0_1):=(aC BK207.out 1).trans rfl
    have hcz45_2 : wc.cell? ⟨gb207,2,none⟩ = some (.int .u64 a0_2):=(aC BK207.out 2).trans rfl
    have hcz45_3 : wc.cell? ⟨gb207,3,none⟩ = some (.int .u64 a0_3):=(aC BK207.out 3).trans rfl
    have hfz45_0:=blk_frozen BK207.out 0
    have hfz45_1:=blk_frozen BK207.out 1
    have hfz45_2:=blk_frozen BK207.out 2
    have hfz45_3:=blk_frozen BK207.out 3
    have hnb46:=NB206_204.out
    have hnc46:=NB204_206.out
    have hnb47:=NB206_205.out
    have hnc47:=NB205_206.out
    have hcz48_0 : wc.cell? ⟨gb206,0,none⟩ = some (.slice none 0 0):=(aC BK206.out 0).trans rfl
    have hcz48_1 : wc.cell? ⟨gb206,1,none⟩ = some (.int .u64 0):=(aC BK206.out 1).trans rfl
    have hcz48_2 : wc.cell? ⟨gb206,2,none⟩ = some (.int .u64 0):=(aC BK206.out 2).trans rfl
    have hcz48_3 : wc.cell? ⟨gb206,3,none⟩ = some (.int .u64 0):=(aC BK206.out 3).trans rfl
    have hfz48_0:=blk_frozen BK206.out 0
    have hfz48_1:=blk_frozen BK206.out 1
    have hfz48_2:=blk_frozen BK206.out 2
    have hfz48_3:=blk_frozen BK206.out 3
    go_wp2
    refine bodyPost_ret (results_ct rfl _ _ gb206 28 #[.slice Ao18 y208.length co18,.int .u64 a0_1,.int .u64 a0_2,.int .u64 a0_3] (0,0) _ rfl (by (with_reducible repeat (first|apply bN|apply bD|apply bA));refine blk_put (cs:=#[.slice Ao18 y208.length co18,.int .u64 a0_1,.int .u64 a0_2,.int .u64 0]) ?_ 3 _ rfl;(with_reducible repeat (first|apply bN|apply bD|apply bA));refine blk_put (cs:=#[.slice Ao18 y208.length co18,.int .u64 a0_1,.int .u64 0,.int .u64 0]) ?_ 2 _ rfl;(with_reducible repeat (first|apply bN|apply bD|apply bA));refine blk_put (cs:=#[.slice Ao18 y208.length co18,.int .u64 0,.int .u64 0,.int .u64 0]) ?_ 1 _ rfl;(with_reducible repeat (first|apply bN|apply bD|apply bA));refine blk_put (cs:=#[.slice none 0 0,.int .u64 0,.int .u64 0,.int .u64 0]) ?_ 0 _ rfl;(with_reducible repeat (first|apply bN|apply bD|apply bA));exact BK206.out) Try.underlying28 rfl (by kernel_rfl)) rfl ?_
    exact ⟨_,by first|rfl|(simp [errW_none,errW_some] <;> rfl)|(simp [*,errW_none,errW_some] <;> rfl),by (with_reducible repeat (first|apply zA|apply zN|apply zD));exact Kd.R_mono (aY (p:=⟨gb206,3,none⟩) (aY (p:=⟨gb206,2,none⟩) (aY (p:=⟨gb206,1,none⟩) (aY (p:=⟨gb206,0,none⟩) (Kd.R_types HO_208000.out BK206.out (by decide)) (fun _ hk => hk.2) (.slice Ao18 y208.length co18)) (fun _ hk => hk.2) (.int .u64 a0_1)) (fun _ hk => hk.2) (.int .u64 a0_2)) (fun _ hk => hk.2) (.int .u64 a0_3)) (fun _ hk => trivial),by repeat (first|(with_reducible first|exact HB.out|apply aA|apply aW|apply aD|refine below_set ?_ GE204.out|refine below_set ?_ GE205.out|refine below_set ?_ GE206.out|refine below_set ?_ GE207.out)|exact HB.out)⟩
   ·replace c41:=Bool.eq_false_iff.mpr c41
    subst c41
    have H1 : ((ratlineref09_newer.f a0_1 a1_1).bind fun bt214 => ((ratlineref09_newer.f a0_2 a1_2).bind fun bt216 => ((ratlineref09_newer.f a0_3 a1_3).bind fun bt218 => (if bt214.2 = true then (if bt216.2 = true then (if bt218.2 = true then (if y208.length + l1_0.length < 2932031007402 then (some ((y208 ++ l1_0),bt214.1,bt216.1,bt218.1,0)) else (none)) else (some (y208,a0_1,a0_2,a0_3,90))) else (some (y208,a0_1,a0_2,a0_3,90))) else (some (y208,a0_1,a0_2,a0_3,90)))))) = some (r1,r2,r3,r4,r5):=by rw [if_neg (show ¬ (false = true) by decide)] at H;exact H
    clear H
    have H:=H1
    clear H1
    replace H:=Option.bind_eq_some_iff.mp H
    obtain ⟨⟨t214,t215⟩,A490,H⟩:=H
    replace H : ((ratlineref09_newer.f a0_2 a1_2).bind fun bt216 => ((ratlineref09_newer.f a0_3 a1_3).bind fun bt218 => (if t215 = true then (if bt216.2 = true then (if bt218.2 = true then (if y208.length + l1_0.length < 2932031007402 then (some ((y208 ++ l1_0),t214,bt216.1,bt218.1,0)) else (none)) else (some (y208,a0_1,a0_2,a0_3,90))) else (some (y208,a0_1,a0_2,a0_3,90))) else (some (y208,a0_1,a0_2,a0_3,90))))) = some (r1,r2,r3,r4,r5):=H
    have A49:=aK A490
    clear A490
    replace H:=Option.bind_eq_some_iff.mp H
    obtain ⟨⟨t216,t217⟩,A500,H⟩:=H
    replace H : ((ratlineref09_newer.f a0_3 a1_3).bind fun bt218 => (if t215 = true then (if t217 = true then (if bt218.2 = true then (if y208.length + l1_0.length < 2932031007402 then (some ((y208 ++ l1_0),t214,t216,bt218.1,0)) else (none)) else (some (y208,a0_1,a0_2,a0_3,90))) else (some (y208,a0_1,a0_2,a0_3,90))) else (some (y208,a0_1,a0_2,a0_3,90)))) = some (r1,r2,r3,r4,r5):=H
    have A50:=aK A500
    clear A500
    replace H:=Option.bind_eq_some_iff.mp H
    obtain ⟨⟨t218,t219⟩,A510,H⟩:=H
    replace H : (if t215 = true then (if t217 = true then (if t219 = true then (if y208.length + l1_0.length < 2932031007402 then (some ((y208 ++ l1_0),t214,t216,t218,0)) else (none)) else (some (y208,a0_1,a0_2,a0_3,90))) else (some (y208,a0_1,a0_2,a0_3,90))) else (some (y208,a0_1,a0_2,a0_3,90))) = some (r1,r2,r3,r4,r5):=H
    have A51:=aK A510
    clear A510
    by_cases c52 : t215 = true
    ·subst c52
     have H1 : (if t217 = true then (if t219 = true then (if y208.length + l1_0.length < 2932031007402 then (some ((y208 ++ l1_0),t214,t216,t218,0)) else (none)) else (some (y208,a0_1,a0_2,a0_3,90))) else (some (y208,a0_1,a0_2,a0_3,90))) = some (r1,r2,r3,r4,r5):=by rw [if_pos rfl] at H;exact H
     clear H
     have H:=H1
     clear H1
     by_cases c53 : t217 = true
     ·subst c53
      have H1 : (if t219 = true then (if y208.length + l1_0.length < 2932031007402 then (some ((y208 ++ l1_0),t214,t216,t218,0)) else (none)) else (some (y208,a0_1,a0_2,a0_3,90))) = some (r1,r2,r3,r4,r5):=by rw [if_pos rfl] at H;exact H
      clear H
      have H:=H1
      clear H1
      by_cases c54 : t219 = true
      ·subst c54
       have H1 : (if y208.length + l1_0.length < 2932031007402 then (some ((y208 ++ l1_0),t214,t216,t218,0)) else (none)) = some (r1,r2,r3,r4,r5):=by rw [if_pos rfl] at H;exact H
       clear H
       have H:=H1
       clear H1
       by_cases c55 : y208.length + l1_0.length < 2932031007402
       rotate_left
       ·rw [if_neg c55] at H
        exact absurd H (by simp)
       rw [if_pos c55] at H
       have LMc55:=aK c55
       clear c55
       obtain ⟨y220,hy220⟩ : ∃ y_ : List (S58),y_ = (y208 ++ l1_0):=⟨_,rfl⟩
       replace H : (some (y220,t214,t216,t218,0)) = some (r1,r2,r3,r4,r5):=by first|(rw [hy220];with_reducible exact H)|(have H2_:=(Option.bind_some _ _).symm.trans H;rw [hy220];with_reducible exact H2_)|(have H2_:=(Option.bind_some _ _).symm.trans H;with_reducible exact H2_)|with_reducible exact H|(rw [hy220];exact H)|exact H
       have Ny220:=aK hy220
       clear hy220
       simp only [Option.some.injEq,Prod.mk.injEq] at H
       obtain ⟨rfl,rfl,rfl,rfl,rfl⟩:=H
       have hnb56:=NB204_205.out
       have hnc56:=NB205_204.out
       have hnb57:=NB204_206.out
       have hnc57:=NB206_204.out
       have hnb58:=NB204_207.out
       have hnc58:=NB207_204.out
       have hcz59_0 : wc.cell? ⟨gb204,0,none⟩ = some (.slice A0_0 l0_0.length c0_0):=(aC BK204.out 0).trans rfl
       have hcz59_1 : wc.cell? ⟨gb204,1,none⟩ = some (.int .u64 a0_1):=(aC BK204.out 1).trans rfl
       have hcz59_2 : wc.cell? ⟨gb204,2,none⟩ = some (.int .u64 a0_2):=(aC BK204.out 2).trans rfl
       have hcz59_3 : wc.cell? ⟨gb204,3,none⟩ = some (.int .u64 a0_3):=(aC BK204.out 3).trans rfl
       have hfz59_0:=blk_frozen BK204.out 0
       have hfz59_1:=blk_frozen BK204.out 1
       have hfz59_2:=blk_frozen BK204.out 2
       have hfz59_3:=blk_frozen BK204.out 3
       have hnb60:=NB205_206.out
       have hnc60:=NB206_205.out
       have hnb61:=NB205_207.out
       have hnc61:=NB207_205.out
       have hcz62_0 : wc.cell? ⟨gb205,0,none⟩ = some (.slice A1_0 l1_0.length c1_0):=(aC BK205.out 0).trans rfl
       have hcz62_1 : wc.cell? ⟨gb205,1,none⟩ = some (.int .u64 a1_1):=(aC BK205.out 1).trans rfl
       have hcz62_2 : wc.cell? ⟨gb205,2,none⟩ = some (.int .u64 a1_2):=(aC BK205.out 2).trans rfl
       have hcz62_3 : wc.cell? ⟨gb205,3,none⟩ = some (.int .u64 a1_3):=(aC BK205.out 3).trans rfl
       have hfz62_0:=blk_frozen BK205.out 0
       have hfz62_1:=blk_frozen BK205.out 1
       have hfz62_2:=blk_frozen BK205.out 2
       have hfz62_3:=blk_frozen BK205.out 3
       go_wp2_with (first|((with_reducible refine gate_callee (f:=40) rfl ?_);refine goesL_ (some 59) rfl rfl Try.func40 (by kernel_rfl) rfl #[.int .u64 a0_1,.int .u64 a1_1] rfl (by (try simp only [List.map_toArray,List.map_cons,List.map_nil]);first|done|rfl|(simp only [List.length_drop,List.length_take];rfl)) ?_;(with_reducible refine (ratlineref09_newer.calls a0_1 a1_1 t214 true _ A49.out).mono ?_);rintro e w' ⟨rfl,⟨nd,rfl⟩⟩;refine ⟨_,rfl,?_⟩;(try (rw [drewN_self wc];generalize hq_ : World.drewN wc _ = wc;have n0_ : Aside0 (Kd.R k58 58 wc w.heap.size (fun _ => True) (.slice Ao18 y208.length co18) y208):=⟨by rw [← hq_];exact (by (with_reducible repeat (first|apply zA|apply zN|apply zD));exact HO_208000.out)⟩;have n1_ : Aside0 (wc.heap[gb204]? = some (.cells #[.slice A0_0 l0_0.length c0_0,.int .u64 a0_1,.int .u64 a0_2,.int .u64 a0_3] 28 (0,0))):=⟨by rw [← hq_];exact (by (with_reducible repeat (first|apply bN|apply bD|apply bA));exact BK204.out)⟩;have n2_ : Aside0 (wc.heap[gb205]? = some (.cells #[.slice A1_0 l1_0.length c1_0,.int .u64 a1_1,.int .u64 a1_2,.int .u64 a1_3] 25 (0,0))):=⟨by rw [← hq_];exact (by (with_reducible repeat (first|apply bN|apply bD|apply bA));exact BK205.out)⟩;have n3_ : Aside0 (wc.heap[gb206]? = some (.cells #[.slice none 0 0,.int .u64 0,.int .u64 0,.int .u64 0] 28 (0,0))):=⟨by rw [← hq_];exact (by (with_reducible repeat (first|apply bN|apply bD|apply bA));exact BK206.out)⟩;have n4_ : Aside0 (wc.heap[gb207]? = some (.cells #[.slice Ao18 y208.length co18,.int .u64 a0_1,.int .u64 a0_2,.int .u64 a0_3] 28 (0,0))):=⟨by rw [← hq_];exact (by (with_reducible repeat (first|apply bN|apply bD|apply bA));exact BK207.out)⟩;have n5_ : Aside0 (Below w.heap.size w wc):=⟨by rw [← hq_];exact (by repeat (first|(with_reducible first|exact HB.out|apply aA|apply aW|apply aD|refine below_set ?_ GE204.out|refine below_set ?_ GE205.out|refine below_set ?_ GE206.out|refine below_set ?_ GE207.out)|exact HB.out))⟩;clear HO_208000 BK204 BK205 BK206 BK207 HB hq_;have HO_208000:=n0_;have BK204:=n1_;have BK205:=n2_;have BK206:=n3_;have BK207:=n4_;have HB:=n5_;clear n0_ n1_ n2_ n3_ n4_ n5_));have hq204_0 : wc.cell? ⟨gb204,0,none⟩ = some (.slice A0_0 l0_0.length c0_0):=(aC BK204.out 0).trans rfl;have hq204_1 : wc.cell? ⟨gb204,1,none⟩ = some (.int .u64 a0_1):=(aC BK204.out 1).trans rfl;have hq204_2 : wc.cell? ⟨gb204,2,none⟩ = some (.int .u64 a0_2):=(aC BK204.out 2).trans rfl;have hq204_3 : wc.cell? ⟨gb204,3,none⟩ = some (.int .u64 a0_3):=(aC BK204.out 3).trans rfl;have hq205_0 : wc.cell? ⟨gb205,0,none⟩ = some (.slice A1_0 l1_0.length c1_0):=(aC BK205.out 0).trans rfl;have hq205_1 : wc.cell? ⟨gb205,1,none⟩ = some (.int .u64 a1_1):=(aC BK205.out 1).trans rfl;have hq205_2 : wc.cell? ⟨gb205,2,none⟩ = some (.int .u64 a1_2):=(aC BK205.out 2).trans rfl;have hq205_3 : wc.cell? ⟨gb205,3,none⟩ = some (.int .u64 a1_3):=(aC BK205.out 3).trans rfl;have hq206_0 : wc.cell? ⟨gb206,0,none⟩ = some (.slice none 0 0):=(aC BK206.out 0).trans rfl;have hq206_1 : wc.cell? ⟨gb206,1,none⟩ = some (.int .u64 0):=(aC BK206.out 1).trans rfl;have hq206_2 : wc.cell? ⟨gb206,2,none⟩ = some (.int .u64 0):=(aC BK206.out 2).trans rfl;have hq206_3 : wc.cell? ⟨gb206,3,none⟩ = some (.int .u64 0):=(aC BK206.out 3).trans rfl;have hq207_0 : wc.cell? ⟨gb207,0,none⟩ = some (.slice Ao18 y208.length co18):=(aC BK207.out 0).trans rfl;have hq207_1 : wc.cell? ⟨gb207,1,none⟩ = some (.int .u64 a0_1):=(aC BK207.out 1).trans rfl;have hq207_2 : wc.cell? ⟨gb207,2,none⟩ = some (.int .u64 a0_2):=(aC BK207.out 2).trans rfl;have hq207_3 : wc.cell? ⟨gb207,3,none⟩ = some (.int .u64 a0_3):=(aC BK207.out 3).trans rfl)|((with_reducible refine gate_callee (f:=40) rfl ?_);refine goesL_ (some 67) rfl rfl Try.func40 (by kernel_rfl) rfl #[.int .u64 a0_2,.int .u64 a1_2] rfl (by (try simp only [List.map_toArray,List.map_cons,List.map_nil]);first|done|rfl|(simp only [List.length_drop,List.length_take];rfl)) ?_;(with_reducible refine (ratlineref09_newer.calls a0_2 a1_2 t216 true _ A50.out).mono ?_);rintro e w' ⟨rfl,⟨nd,rfl⟩⟩;refine ⟨_,rfl,?_⟩;(try (rw [drewN_self wc];generalize hq_ : World.drewN wc _ = wc;have n0_ : Aside0 (Kd.R k58 58 wc w.heap.size (fun _ => True) (.slice Ao18 y208.length co18) y208):=⟨by rw [← hq_];exact (by (with_reducible repeat (first|apply zA|apply zN|apply zD));exact HO_208000.out)⟩;have n1_ : Aside0 (wc.heap[gb204]? = some (.cells #[.slice A0_0 l0_0.length c0_0,.int .u64 a0_1,.int .u64 a0_2,.int .u64 a0_3] 28 (0,0))):=⟨by rw [← hq_];exact (by (with_reducible repeat (first|apply bN|apply bD|apply bA));exact BK204.out)⟩;have n2_ : Aside0 (wc.heap[gb205]? = some (.cells #[.slice A1_0 l1_0.length c1_0,.int .u64 a1_1,.int .u64 a1_2,.int .u64 a1_3] 25 (0,0))):=⟨by rw [← hq_];exact (by (with_reducible repeat (first|apply bN|apply bD|apply bA));exact BK205.out)⟩;have n3_ : Aside0 (wc.heap[gb206]? = some (.cells #[.slice none 0 0,.int .u64 0,.int .u64 0,.int .u64 0] 28 (0,0))):=⟨by rw [← hq_];exact (by (with_reducible repeat (first|apply bN|apply bD|apply bA));exact BK206.out)⟩;have n4_ : Aside0 (wc.heap[gb207]? = some (.cells #[.slice Ao18 y208.length co18,.int .u64 a0_1,.int .u64 a0_2,.int .u64 a0_3] 28 (0,0))):=⟨by rw [← hq_];exact (by (with_reducible repeat (first|apply bN|apply bD|apply bA));exact BK207.out)⟩;have n5_ : Aside0 (Below w.heap.size w wc):=⟨by rw [← hq_];exact (by repeat (first|(with_reducible first|exact HB.out|apply aA|apply aW|apply aD|refine below_set ?_ GE204.out|refine below_set ?_ GE205.out|refine below_set ?_ GE206.out|refine below_set ?_ GE207.out)|exact HB.out))⟩;clear HO_208000 BK204 BK205 BK206 BK207 HB hq_;have HO_208000:=n0_;have BK204:=n1_;have BK205:=n2_;have BK206:=n3_;have BK207:=n4_;have HB:=n5_;clear n0_ n1_ n2_ n3_ n4_ n5_));have hq204_0 : wc.cell? ⟨gb204,0,none⟩ = some (.slice A0_0 l0_0.length c0_0):=(aC BK204.out 0).trans rfl;have hq204_1 : wc.cell? ⟨gb204,1,none⟩ = some (.int .u64 a0_1):=(aC BK204.out 1).trans rfl;have hq204_2 : wc.cell? ⟨gb204,2,none⟩ = some (.int .u64 a0_2):=(aC BK204.out 2).trans rfl;have hq204_3 : wc.cell? ⟨gb204,3,none⟩ = some (.int .u64 a0_3):=(aC BK204.out 3).trans rfl;have hq205_0 : wc.cell? ⟨gb205,0,none⟩ = some (.slice A1_0 l1_0.length c1_0):=(aC BK205.out 0).trans rfl;have hq205_1 : wc.cell? ⟨gb205,1,none⟩ = some (.int .u64 a1_1):=(aC BK205.out 1).trans rfl;have hq205_2 : wc.cell? ⟨gb205,2,none⟩ = some (.int .u64 a1_2):=(aC BK205.out 2).trans rfl;have hq205_3 : wc.cell? ⟨gb205,3,none⟩ = some (.int .u64 a1_3):=(aC BK205.out 3).trans rfl;have hq206_0 : wc.cell? ⟨gb206,0,none⟩ = some (.slice none 0 0):=(aC BK206.out 0).trans rfl;have hq206_1 : wc.cell? ⟨gb206,1,none⟩ = some (.int .u64 0):=(aC BK206.out 1).trans rfl;have hq206_2 : wc.cell? ⟨gb206,2,none⟩ = some (.int .u64 0):=(aC BK206.out 2).trans rfl;have hq206_3 : wc.cell? ⟨gb206,3,none⟩ = some (.int .u64 0):=(aC BK206.out 3).trans rfl;have hq207_0 : wc.cell? ⟨gb207,0,none⟩ = some (.slice Ao18 y208.length co18):=(aC BK207.out 0).trans rfl;have hq207_1 : wc.cell? ⟨gb207,1,none⟩ = some (.int .u64 a0_1):=(aC BK207.out 1).trans rfl;have hq207_2 : wc.cell? ⟨gb207,2,none⟩ = some (.int .u64 a0_2):=(aC BK207.out 2).trans rfl;have hq207_3 : wc.cell? ⟨gb207,3,none⟩ = some (.int .u64 a0_3):=(aC BK207.out 3).trans rfl)|((with_reducible refine gate_callee (f:=40) rfl ?_);refine goesL_ (some 75) rfl rfl Try.func40 (by kernel_rfl) rfl #[.int .u64 a0_3,.int .u64 a1_3] rfl (by (try simp only [List.map_toArray,List.map_cons,List.map_nil]);first|done|rfl|(simp only [List.length_drop,List.length_take];rfl)) ?_;(with_reducible refine (ratlineref09_newer.calls a0_3 a1_3 t218 true _ A51.out).mono ?_);rintro e w' ⟨rfl,⟨nd,rfl⟩⟩;refine ⟨_,rfl,?_⟩;(try (rw [drewN_self wc];generalize hq_ : World.drewN wc _ = wc;have n0_ : Aside0 (Kd.R k58 58 wc w.heap.size (fun _ => True) (.slice Ao18 y208.length co18) y208):=⟨by rw [← hq_];exact (by (with_reducible repeat (first|apply zA|apply zN|apply zD));exact HO_208000.out)⟩;have n1_ : Aside0 (wc.heap[gb204]? = some (.cells #[.slice A0_0 l0_0.length c0_0,.int .u64 a0_1,.int .u64 a0_2,.int .u64 a0_3] 28 (0,0))):=⟨by rw [← hq_];exact (by (with_reducible repeat (first|apply bN|apply bD|apply bA));exact BK204.out)⟩;have n2_ : Aside0 (wc.heap[gb205]? = some (.cells #[.slice A1_0 l1_0.length c1_0,.int .u64 a1_1,.int .u64 a1_2,.int .u64 a1_3] 25 (0,0))):=⟨by rw [← hq_];exact (by (with_reducible repeat (first|apply bN|apply bD|apply bA));exact BK205.out)⟩;have n3_ : Aside0 (wc.heap[gb206]? = some (.cells #[.slice none 0 0,.int .u64 0,.int .u64 0,.int .u64 0] 28 (0,0))):=⟨by rw [← hq_];exact (by (with_reducible repeat (first|apply bN|apply bD|apply bA));exact BK206.out)⟩;have n4_ : Aside0 (wc.heap[gb207]? = some (.cells #[.slice Ao18 y208.length co18,.int .u64 a0_1,.int .u64 a0_2,.int .u64 a0_3] 28 (0,0))):=⟨by rw [← hq_];exact (by (with_reducible repeat (first|apply bN|apply bD|apply bA));exact BK207.out)⟩;have n5_ : Aside0 (Below w.heap.size w wc):=⟨by rw [← hq_];exact (by repeat (first|(with_reducible first|exact HB.out|apply aA|apply aW|apply aD|refine below_set ?_ GE204.out|refine below_set ?_ GE205.out|refine below_set ?_ GE206.out|refine below_set ?_ GE207.out)|exact HB.out))⟩;clear HO_208000 BK204 BK205 BK206 BK207 HB hq_;have HO_208000:=n0_;have BK204:=n1_;have BK205:=n2_;have BK206:=n3_;have BK207:=n4_;have HB:=n5_;clear n0_ n1_ n2_ n3_ n4_ n5_));have hq204_0 : wc.cell? ⟨gb204,0,none⟩ = some (.slice A0_0 l0_0.length c0_0):=(aC BK204.out 0).trans rfl;have hq204_1 : wc.cell? ⟨gb204,1,none⟩ = some (.int .u64 a0_1):=(aC BK204.out 1).trans rfl;have hq204_2 : wc.cell? ⟨gb204,2,none⟩ = some (.int .u64 a0_2):=(aC BK204.out 2).trans rfl;have hq204_3 : wc.cell? ⟨gb204,3,none⟩ = some (.int .u64 a0_3):=(aC BK204.out 3).trans rfl;have hq205_0 : wc.cell? ⟨gb205,0,none⟩ = some (.slice A1_0 l1_0.length c1_0):=(aC BK205.out 0).trans rfl;have hq205_1 : wc.cell? ⟨gb205,1,none⟩ = some (.int .u64 a1_1):=(aC BK205.out 1).trans rfl;have hq205_2 : wc.cell? ⟨gb205,2,none⟩ = some (.int .u64 a1_2):=(aC BK205.out 2).trans rfl;have hq205_3 : wc.cell? ⟨gb205,3,none⟩ = some (.int .u64 a1_3):=(aC BK205.out 3).trans rfl;have hq206_0 : wc.cell? ⟨gb206,0,none⟩ = some (.slice none 0 0):=(aC BK206.out 0).trans rfl;have hq206_1 : wc.cell? ⟨gb206,1,none⟩ = some (.int .u64 0):=(aC BK206.out 1).trans rfl;have hq206_2 : wc.cell? ⟨gb206,2,none⟩ = some (.int .u64 0):=(aC BK206.out 2).trans rfl;have hq206_3 : wc.cell? ⟨gb206,3,none⟩ = some (.int .u64 0):=(aC BK206.out 3).trans rfl;have hq207_0 : wc.cell? ⟨gb207,0,none⟩ = some (.slice Ao18 y208.length co18):=(aC BK207.out 0).trans rfl;have hq207_1 : wc.cell? ⟨gb207,1,none⟩ = some (.int .u64 a0_1):=(aC BK207.out 1).trans rfl;have hq207_2 : wc.cell? ⟨gb207,2,none⟩ = some (.int .u64 a0_2):=(aC BK207.out 2).trans rfl;have hq207_3 : wc.cell? ⟨gb207,3,none⟩ = some (.int .u64 a0_3):=(aC BK207.out 3).trans rfl;have hnb63:=NB207_206.out;have hnc63:=NB206_207.out;have hcz64_0 : wc.cell? ⟨gb207,0,none⟩ = some (.slice Ao18 y208.length co18):=(aC BK207.out 0).trans rfl;have hcz64_1 : wc.cell? ⟨gb207,1,none⟩ = some (.int .u64 a0_1):=(aC BK207.out 1).trans rfl;have hcz64_2 : wc.cell? ⟨gb207,2,none⟩ = some (.int .u64 a0_2):=(aC BK207.out 2).trans rfl;have hcz64_3 : wc.cell? ⟨gb207,3,none⟩ = some (.int .u64 a0_3):=(aC BK207.out 3).trans rfl;have hfz64_0:=blk_frozen BK207.out 0;have hfz64_1:=blk_frozen BK207.out 1;have hfz64_2:=blk_frozen BK207.out 2;have hfz64_3:=blk_frozen BK207.out 3)|((with_reducible refine gate_builtin (b:=.append) (xs:=#[.tmp 90,.tmp 92]) rfl ?_);(try (refine gate_guard (by rfl) ?_;dsimp only));at_builtin;refine Kd.R_append_rows k58 (w0:=w) w.heap.size rfl (.tmp 90) (.tmp 92) 22 58 (.agg #[(.int .u64 0),(.int .u64 0),(.string ⟨#[]⟩),(.string ⟨#[]⟩)]) 48 rfl Try.underlying22 info58 rfl (by decide) (by omega) (.slice Ao18 y208.length co18) y208 l1_0 _ _ _ (fun _ => True) (fun _ => False) rfl rfl ?aO ?aR (fun _ _ h => h) (fun _ h => h.elim) ?aF ?aB ?aS ?aL ?_;(case aR => repeat (first|exact (Kd.C_below HR1_0.out HB.out)|(with_reducible refine Kd.C_alloc ?_ _)|(with_reducible refine Kd.C_drewN ?_ _)|(with_reducible refine Kd.C_drew ?_)));(case aB => exact (by repeat (first|(with_reducible first|exact HB.out|apply aA|apply aW|apply aD|refine below_set ?_ GE204.out|refine below_set ?_ GE205.out|refine below_set ?_ GE206.out|refine below_set ?_ GE207.out)|exact HB.out)));(case aF => exact (fun _ _ => trivial));(case aO => exact (by (with_reducible repeat (first|apply zA|apply zN|apply zD));exact HO_208000.out));(case aS => exact (below_size (by repeat (first|(with_reducible first|exact HB.out|apply aA|apply aW|apply aD|refine below_set ?_ GE204.out|refine below_set ?_ GE205.out|refine below_set ?_ GE206.out|refine below_set ?_ GE207.out)|exact HB.out))));(case aL => have:=LMc55.out;omega);intro v221 w65 ho hb hg hat;rw [← Ny220.out] at ho;have n0_:=aK (blk_grown (g:=gb204) (o:=.cells #[.slice A0_0 l0_0.length c0_0,.int .u64 a0_1,.int .u64 a0_2,.int .u64 a0_3] 28 (0,0)) (by (with_reducible repeat (first|apply bN|apply bD|apply bA));exact BK204.out) hg (Kd.R_ne HO_208000.out BK204.out (by decide)));have n1_:=aK (blk_grown (g:=gb205) (o:=.cells #[.slice A1_0 l1_0.length c1_0,.int .u64 a1_1,.int .u64 a1_2,.int .u64 a1_3] 25 (0,0)) (by (with_reducible repeat (first|apply bN|apply bD|apply bA));exact BK205.out) hg (Kd.R_ne HO_208000.out BK205.out (by decide)));have n2_:=aK (blk_grown (g:=gb206) (o:=.cells #[.slice none 0 0,.int .u64 0,.int .u64 0,.int .u64 0] 28 (0,0)) (by (with_reducible repeat (first|apply bN|apply bD|apply bA));exact BK206.out) hg (Kd.R_ne HO_208000.out BK206.out (by decide)));have n3_:=aK (blk_grown (g:=gb207) (o:=.cells #[.slice Ao18 y208.length co18,.int .u64 a0_1,.int .u64 a0_2,.int .u64 a0_3] 28 (0,0)) (by (with_reducible repeat (first|apply bN|apply bD|apply bA));exact BK207.out) hg (Kd.R_ne HO_208000.out BK207.out (by decide)));have n4_:=aK (hb);have n5_:=aK (ho);clear BK204;clear BK205;clear BK206;clear BK207;clear HB;clear HO_208000;have BK204:=n0_;have BK205:=n1_;have BK206:=n2_;have BK207:=n3_;have HB:=n4_;have HO222:=n5_;clear n0_ n1_ n2_ n3_ n4_ n5_;clear ho hb hg hat;obtain ⟨Ao66,co66,eo66⟩:=Kd.R_slice HO222.out;subst eo66;have hcz67_0 : w65.cell? ⟨gb207,0,none⟩ = some (.slice Ao18 y208.length co18):=(aC BK207.out 0).trans rfl;have hcz67_1 : w65.cell? ⟨gb207,1,none⟩ = some (.int .u64 a0_1):=(aC BK207.out 1).trans rfl;have hcz67_2 : w65.cell? ⟨gb207,2,none⟩ = some (.int .u64 a0_2):=(aC BK207.out 2).trans rfl;have hcz67_3 : w65.cell? ⟨gb207,3,none⟩ = some (.int .u64 a0_3):=(aC BK207.out 3).trans rfl;have hfz67_0:=blk_frozen BK207.out 0;have hfz67_1:=blk_frozen BK207.out 1;have hfz67_2:=blk_frozen BK207.out 2;have hfz67_3:=blk_frozen BK207.out 3;have hcz68_0 : w65.cell? ⟨gb206,0,none⟩ = some (.slice none 0 0):=(aC BK206.out 0).trans rfl;have hcz68_1 : w65.cell? ⟨gb206,1,none⟩ = some (.int .u64 0):=(aC BK206.out 1).trans rfl;have hcz68_2 : w65.cell? ⟨gb206,2,none⟩ = some (.int .u64 0):=(aC BK206.out 2).trans rfl;have hcz68_3 : w65.cell? ⟨gb206,3,none⟩ = some (.int .u64 0):=(aC BK206.out 3).trans rfl;have hfz68_0:=blk_frozen BK206.out 0;have hfz68_1:=blk_frozen BK206.out 1;have hfz68_2:=blk_frozen BK206.out 2;have hfz68_3:=blk_frozen BK206.out 3))
       refine bodyPost_ret (results_ct rfl _ _ gb206 28 #[.slice Ao66 y220.length co66,.int .u64 t214,.int .u64 t216,.int .u64 t218] (0,0) _ rfl (by (with_reducible repeat (first|apply bN|apply bD|apply bA));refine blk_put (cs:=#[.slice Ao66 y220.length co66,.int .u64 t214,.int .u64 t216,.int .u64 0]) ?_ 3 _ rfl;(with_reducible repeat (first|apply bN|apply bD|apply bA));refine blk_put (cs:=#[.slice Ao66 y220.length co66,.int .u64 t214,.int .u64 0,.int .u64 0]) ?_ 2 _ rfl;(with_reducible repeat (first|apply bN|apply bD|apply bA));refine blk_put (cs:=#[.slice Ao66 y220.length co66,.int .u64 0,.int .u64 0,.int .u64 0]) ?_ 1 _ rfl;(with_reducible repeat (first|apply bN|apply bD|apply bA));refine blk_put (cs:=#[.slice none 0 0,.int .u64 0,.int .u64 0,.int .u64 0]) ?_ 0 _ rfl;(with_reducible repeat (first|apply bN|apply bD|apply bA));refine aX ?_ NB206_207.out _;(with_reducible repeat (first|apply bN|apply bD|apply bA));refine aX ?_ NB206_207.out _;(with_reducible repeat (first|apply bN|apply bD|apply bA));refine aX ?_ NB206_207.out _;(with_reducible repeat (first|apply bN|apply bD|apply bA));refine aX ?_ NB206_207.out _;(with_reducible repeat (first|apply bN|apply bD|apply bA));exact BK206.out) Try.underlying28 rfl (by kernel_rfl)) rfl ?_
       exact ⟨_,by first|rfl|(simp [errW_none,errW_some] <;> rfl)|(simp [*,errW_none,errW_some] <;> rfl),by (with_reducible repeat (first|apply zA|apply zN|apply zD));exact Kd.R_mono (aY (p:=⟨gb206,3,none⟩) (aY (p:=⟨gb206,2,none⟩) (aY (p:=⟨gb206,1,none⟩) (aY (p:=⟨gb206,0,none⟩) (aY (p:=⟨gb207,3,none⟩) (aY (p:=⟨gb207,2,none⟩) (aY (p:=⟨gb207,1,none⟩) (aY (p:=⟨gb207,0,none⟩) (Kd.R_types (Kd.R_types HO222.out BK207.out (by decide)) BK206.out (by decide)) (fun _ hk => hk.1.2) (.slice Ao66 y220.length co66)) (fun _ hk => hk.1.2) (.int .u64 t214)) (fun _ hk => hk.1.2) (.int .u64 t216)) (fun _ hk => hk.1.2) (.int .u64 t218)) (fun _ hk => hk.2) (.slice Ao66 y220.length co66)) (fun _ hk => hk.2) (.int .u64 t214)) (fun _ hk => hk.2) (.int .u64 t216)) (fun _ hk => hk.2) (.int .u64 t218)) (fun _ hk => trivial),by repeat (first|(with_reducible first|exact HB.out|apply aA|apply aW|apply aD|refine below_set ?_ GE204.out|refine below_set ?_ GE205.out|refine below_set ?_ GE206.out|refine below_set ?_ GE207.out)|exact HB.out)⟩
      ·replace c54:=Bool.eq_false_iff.mpr c54
       subst c54
       have H1 : (some (y208,a0_1,a0_2,a0_3,90)) = some (r1,r2,r3,r4,r5):=by rw [if_neg (show ¬ (false = true) by decide)] at H;exact H
       clear H
       have H:=H1
       clear H1
       simp only [Option.some.injEq,Prod.mk.injEq] at H
       obtain ⟨rfl,rfl,rfl,rfl,rfl⟩:=H
       have hnb69:=NB204_205.out
       have hnc69:=NB205_204.out
       have hnb70:=NB204_206.out
       have hnc70:=NB206_204.out
       have hnb71:=NB204_207.out
       have hnc71:=NB207_204.out
       have hcz72_0 : wc.cell? ⟨gb204,0,none⟩ = some (.slice A0_0 l0_0.length c0_0):=(aC BK204.out 0).trans rfl
       have hcz72_1 : wc.cell? ⟨gb204,1,none⟩ = some (.int .u64 a0_1):=(aC BK204.out 1).trans rfl
       have hcz72_2 : wc.cell? ⟨gb204,2,none⟩ = some (.int .u64 a0_2):=(aC BK204.out 2).trans rfl
       have hcz72_3 : wc.cell? ⟨gb204,3,none⟩ = some (.int .u64 a0_3):=(aC BK204.out 3).trans rfl
       have hfz72_0:=blk_frozen BK204.out 0
       have hfz72_1:=blk_frozen BK204.out 1
       have hfz72_2:=blk_frozen BK204.out 2
       have hfz72_3:=blk_frozen BK204.out 3
       have hnb73:=NB205_206.out
       have hnc73:=NB206_205.out
       have hnb74:=NB205_207.out
       have hnc74:=NB207_205.out
       have hcz75_0 : wc.cell? ⟨gb205,0,none⟩ = some (.slice A1_0 l1_0.length c1_0):=(aC BK205.out 0).trans rfl
       have hcz75_1 : wc.cell? ⟨gb205,1,none⟩ = some (.int .u64 a1_1):=(aC BK205.out 1).trans rfl
       have hcz75_2 : wc.cell? ⟨gb205,2,none⟩ = some (.int .u64 a1_2):=(aC BK205.out 2).trans rfl
       have hcz75_3 : wc.cell? ⟨gb205,3,none⟩ = some (.int .u64 a1_3):=(aC BK205.out 3).trans rfl
       have hfz75_0:=blk_frozen BK205.out 0
       have hfz75_1:=blk_frozen BK205.out 1
       have hfz75_2:=blk_frozen BK205.out 2
       have hfz75_3:=blk_frozen BK205.out 3
       go_wp2_with (first|((with_reducible refine gate_callee (f:=40) rfl ?_);refine goesL_ (some 59) rfl rfl Try.func40 (by kernel_rfl) rfl #[.int .u64 a0_1,.int .u64 a1_1] rfl (by (try simp only [List.map_toArray,List.map_cons,List.map_nil]);first|done|rfl|(simp only [List.length_drop,List.length_take];rfl)) ?_;(with_reducible refine (ratlineref09_newer.calls a0_1 a1_1 t214 true _ A49.out).mono ?_);rintro e w' ⟨rfl,⟨nd,rfl⟩⟩;refine ⟨_,rfl,?_⟩;skip)|((with_reducible refine gate_callee (f:=40) rfl ?_);refine goesL_ (some 67) rfl rfl Try.func40 (by kernel_rfl) rfl #[.int .u64 a0_2,.int .u64 a1_2] rfl (by (try simp only [List.map_toArray,List.map_cons,List.map_nil]);first|done|rfl|(simp only [List.length_drop,List.length_take];rfl)) ?_;(with_reducible refine (ratlineref09_newer.calls a0_2 a1_2 t216 true _ A50.out).mono ?_);rintro e w' ⟨rfl,⟨nd,rfl⟩⟩;refine ⟨_,rfl,?_⟩;skip)|((with_reducible refine gate_callee (f:=40) rfl ?_);refine goesL_ (some 75) rfl rfl Try.func40 (by kernel_rfl) rfl #[.int .u64 a0_3,.int .u64 a1_3] rfl (by (try simp only [List.map_toArray,List.map_cons,List.map_nil]);first|done|rfl|(simp only [List.length_drop,List.length_take];rfl)) ?_;(with_reducible refine (ratlineref09_newer.calls a0_3 a1_3 t218 false _ A51.out).mono ?_);rintro e w' ⟨rfl,⟨nd,rfl⟩⟩;refine ⟨_,rfl,?_⟩;skip;have hnb76:=NB207_206.out;have hnc76:=NB206_207.out;have hcz77_0 : wc.cell? ⟨gb207,0,none⟩ = some (.slice Ao18 y208.length co18):=(aC BK207.out 0).trans rfl;have hcz77_1 : wc.cell? ⟨gb207,1,none⟩ = some (.int .u64 a0_1):=(aC BK207.out 1).trans rfl;have hcz77_2 : wc.cell? ⟨gb207,2,none⟩ = some (.int .u64 a0_2):=(aC BK207.out 2).trans rfl;have hcz77_3 : wc.cell? ⟨gb207,3,none⟩ = some (.int .u64 a0_3):=(aC BK207.out 3).trans rfl;have hfz77_0:=blk_frozen BK207.out 0;have hfz77_1:=blk_frozen BK207.out 1;have hfz77_2:=blk_frozen BK207.out 2;have hfz77_3:=blk_frozen BK207.out 3;have hcz78_0 : wc.cell? ⟨gb206,0,none⟩ = some (.slice none 0 0):=(aC BK206.out 0).trans rfl;have hcz78_1 : wc.cell? ⟨gb206,1,none⟩ = some (.int .u64 0):=(aC BK206.out 1).trans rfl;have hcz78_2 : wc.cell? ⟨gb206,2,none⟩ = some (.int .u64 0):=(aC BK206.out 2).trans rfl;have hcz78_3 : wc.cell? ⟨gb206,3,none⟩ = some (.int .u64 0):=(aC BK206.out 3).trans rfl;have hfz78_0:=blk_frozen BK206.out 0;have hfz78_1:=blk_frozen BK206.out 1;have hfz78_2:=blk_frozen BK206.out 2;have hfz78_3:=blk_frozen BK206.out 3))
       refine bodyPost_ret (results_ct rfl _ _ gb206 28 #[.slice Ao18 y208.length co18,.int .u64 a0_1,.int .u64 a0_2,.int .u64 a0_3] (0,0) _ rfl (by (with_reducible repeat (first|apply bN|apply bD|apply bA));refine blk_put (cs:=#[.slice Ao18 y208.length co18,.int .u64 a0_1,.int .u64 a0_2,.int .u64 0]) ?_ 3 _ rfl;(with_reducible repeat (first|apply bN|apply bD|apply bA));refine blk_put (cs:=#[.slice Ao18 y208.length co18,.int .u64 a0_1,.int .u64 0,.int .u64 0]) ?_ 2 _ rfl;(with_reducible repeat (first|apply bN|apply bD|apply bA));refine blk_put (cs:=#[.slice Ao18 y208.length co18,.int .u64 0,.int .u64 0,.int .u64 0]) ?_ 1 _ rfl;(with_reducible repeat (first|apply bN|apply bD|apply bA));refine blk_put (cs:=#[.slice none 0 0,.int .u64 0,.int .u64 0,.int .u64 0]) ?_ 0 _ rfl;(with_reducible repeat (first|apply bN|apply bD|apply bA));exact BK206.out) Try.underlying28 rfl (by kernel_rfl)) rfl ?_
       exact ⟨_,by first|rfl|(simp [errW_none,errW_some] <;> rfl)|(simp [*,errW_none,errW_some] <;> rfl),by (with_reducible repeat (first|apply zA|apply zN|apply zD));exact Kd.R_mono (aY (p:=⟨gb206,3,none⟩) (aY (p:=⟨gb206,2,none⟩) (aY (p:=⟨gb206,1,none⟩) (aY (p:=⟨gb206,0,none⟩) (Kd.R_types HO_208000.out BK206.out (by decide)) (fun _ hk => hk.2) (.slice Ao18 y208.length co18)) (fun _ hk => hk.2) (.int .u64 a0_1)) (fun _ hk => hk.2) (.int .u64 a0_2)) (fun _ hk => hk.2) (.int .u64 a0_3)) (fun _ hk => trivial),by repeat (first|(with_reducible first|exact HB.out|apply aA|apply aW|apply aD|refine below_set ?_ GE204.out|refine below_set ?_ GE205.out|refine below_set ?_ GE206.out|refine below_set ?_ GE207.out)|exact HB.out)⟩
     ·replace c53:=Bool.eq_false_iff.mpr c53
      subst c53
      have H1 : (some (y208,a0_1,a0_2,a0_3,90)) = some (r1,r2,r3,r4,r5):=by rw [if_neg (show ¬ (false = true) by decide)] at H;exact H
      clear H
      have H:=H1
      clear H1
      simp only [Option.some.injEq,Prod.mk.injEq] at H
      obtain ⟨rfl,rfl,rfl,rfl,rfl⟩:=H
      have hnb79:=NB204_205.out
      have hnc79:=NB205_204.out
      have hnb80:=NB204_206.out
      have hnc80:=NB206_204.out
      have hnb81:=NB204_207.out
      have hnc81:=NB207_204.out
      have hcz82_0 : wc.cell? ⟨gb204,0,none⟩ = some (.slice A0_0 l0_0.length c0_0):=(aC BK204.out 0).trans rfl
      have hcz82_1 : wc.cell? ⟨gb204,1,none⟩ = some (.int .u64 a0_1):=(aC BK204.out 1).trans rfl
      have hcz82_2 : wc.cell? ⟨gb204,2,none⟩ = some (.int .u64 a0_2):=(aC BK204.out 2).trans rfl
      have hcz82_3 : wc.cell? ⟨gb204,3,none⟩ = some (.int .u64 a0_3):=(aC BK204.out 3).trans rfl
      have hfz82_0:=blk_frozen BK204.out 0
      have hfz82_1:=blk_frozen BK204.out 1
      have hfz82_2:=blk_frozen BK204.out 2
      have hfz82_3:=blk_frozen BK204.out 3
      have hnb83:=NB205_206.out
      have hnc83:=NB206_205.out
      have hnb84:=NB205_207.out
      have hnc84:=NB207_205.out
      have hcz85_0 : wc.cell? ⟨gb205,0,none⟩ = some (.slice A1_0 l1_0.length c1_0):=(aC BK205.out 0).trans rfl
      have hcz85_1 : wc.cell? ⟨gb205,1,none⟩ = some (.int .u64 a1_1):=(aC BK205.out 1).trans rfl
      have hcz85_2 : wc.cell? ⟨gb205,2,none⟩ = some (.int .u64 a1_2):=(aC BK205.out 2).trans rfl
      have hcz85_3 : wc.cell? ⟨gb205,3,none⟩ = some (.int .u64 a1_3):=(aC BK205.out 3).trans rfl
      have hfz85_0:=blk_frozen BK205.out 0
      have hfz85_1:=blk_frozen BK205.out 1
      have hfz85_2:=blk_frozen BK205.out 2
      have hfz85_3:=blk_frozen BK205.out 3
      go_wp2_with (first|((with_reducible refine gate_callee (f:=40) rfl ?_);refine goesL_ (some 59) rfl rfl Try.func40 (by kernel_rfl) rfl #[.int .u64 a0_1,.int .u64 a1_1] rfl (by (try simp only [List.map_toArray,List.map_cons,List.map_nil]);first|done|rfl|(simp only [List.length_drop,List.length_take];rfl)) ?_;(with_reducible refine (ratlineref09_newer.calls a0_1 a1_1 t214 true _ A49.out).mono ?_);rintro e w' ⟨rfl,⟨nd,rfl⟩⟩;refine ⟨_,rfl,?_⟩;skip)|((with_reducible refine gate_callee (f:=40) rfl ?_);refine goesL_ (some 67) rfl rfl Try.func40 (by kernel_rfl) rfl #[.int .u64 a0_2,.int .u64 a1_2] rfl (by (try simp only [List.map_toArray,List.map_cons,List.map_nil]);first|done|rfl|(simp only [List.length_drop,List.length_take];rfl)) ?_;(with_reducible refine (ratlineref09_newer.calls a0_2 a1_2 t216 false _ A50.out).mono ?_);rintro e w' ⟨rfl,⟨nd,rfl⟩⟩;refine ⟨_,rfl,?_⟩;skip)|((with_reducible refine gate_callee (f:=40) rfl ?_);refine goesL_ (some 75) rfl rfl Try.func40 (by kernel_rfl) rfl #[.int .u64 a0_3,.int .u64 a1_3] rfl (by (try simp only [List.map_toArray,List.map_cons,List.map_nil]);first|done|rfl|(simp only [List.length_drop,List.length_take];rfl)) ?_;(with_reducible refine (ratlineref09_newer.calls a0_3 a1_3 t218 t219 _ A51.out).mono ?_);rintro e w' ⟨rfl,⟨nd,rfl⟩⟩;refine ⟨_,rfl,?_⟩;skip;have hnb86:=NB207_206.out;have hnc86:=NB206_207.out;have hcz87_0 : wc.cell? ⟨gb207,0,none⟩ = some (.slice Ao18 y208.length co18):=(aC BK207.out 0).trans rfl;have hcz87_1 : wc.cell? ⟨gb207,1,none⟩ = some (.int .u64 a0_1):=(aC BK207.out 1).trans rfl;have hcz87_2 : wc.cell? ⟨gb207,2,none⟩ = some (.int .u64 a0_2):=(aC BK207.out 2).trans rfl;have hcz87_3 : wc.cell? ⟨gb207,3,none⟩ = some (.int .u64 a0_3):=(aC BK207.out 3).trans rfl;have hfz87_0:=blk_frozen BK207.out 0;have hfz87_1:=blk_frozen BK207.out 1;have hfz87_2:=blk_frozen BK207.out 2;have hfz87_3:=blk_frozen BK207.out 3;have hcz88_0 : wc.cell? ⟨gb206,0,none⟩ = some (.slice none 0 0):=(aC BK206.out 0).trans rfl;have hcz88_1 : wc.cell? ⟨gb206,1,none⟩ = some (.int .u64 0):=(aC BK206.out 1).trans rfl;have hcz88_2 : wc.cell? ⟨gb206,2,none⟩ = some (.int .u64 0):=(aC BK206.out 2).trans rfl;have hcz88_3 : wc.cell? ⟨gb206,3,none⟩ = some (.int .u64 0):=(aC BK206.out 3).trans rfl;have hfz88_0:=blk_frozen BK206.out 0;have hfz88_1:=blk_frozen BK206.out 1;have hfz88_2:=blk_frozen BK206.out 2;have hfz88_3:=blk_frozen BK206.out 3))
      refine bodyPost_ret (results_ct rfl _ _ gb206 28 #[.slice Ao18 y208.length co18,.int .u64 a0_1,.int .u64 a0_2,.int .u64 a0_3] (0,0) _ rfl (by (with_reducible repeat (first|apply bN|apply bD|apply bA));refine blk_put (cs:=#[.slice Ao18 y208.length co18,.int .u64 a0_1,.int .u64 a0_2,.int .u64 0]) ?_ 3 _ rfl;(with_reducible repeat (first|apply bN|apply bD|apply bA));refine blk_put (cs:=#[.slice Ao18 y208.length co18,.int .u64 a0_1,.int .u64 0,.int .u64 0]) ?_ 2 _ rfl;(with_reducible repeat (first|apply bN|apply bD|apply bA));refine blk_put (cs:=#[.slice Ao18 y208.length co18,.int .u64 0,.int .u64 0,.int .u64 0]) ?_ 1 _ rfl;(with_reducible repeat (first|apply bN|apply bD|apply bA));refine blk_put (cs:=#[.slice none 0 0,.int .u64 0,.int .u64 0,.int .u64 0]) ?_ 0 _ rfl;(with_reducible repeat (first|apply bN|apply bD|apply bA));exact BK206.out) Try.underlying28 rfl (by kernel_rfl)) rfl ?_
      exact ⟨_,by first|rfl|(simp [errW_none,errW_some] <;> rfl)|(simp [*,errW_none,errW_some] <;> rfl),by (with_reducible repeat (first|apply zA|apply zN|apply zD));exact Kd.R_mono (aY (p:=⟨gb206,3,none⟩) (aY (p:=⟨gb206,2,none⟩) (aY (p:=⟨gb206,1,none⟩) (aY (p:=⟨gb206,0,none⟩) (Kd.R_types HO_208000.out BK206.out (by decide)) (fun _ hk => hk.2) (.slice Ao18 y208.length co18)) (fun _ hk => hk.2) (.int .u64 a0_1)) (fun _ hk => hk.2) (.int .u64 a0_2)) (fun _ hk => hk.2) (.int .u64 a0_3)) (fun _ hk => trivial),by repeat (first|(with_reducible first|exact HB.out|apply aA|apply aW|apply aD|refine below_set ?_ GE204.out|refine below_set ?_ GE205.out|refine below_set ?_ GE206.out|refine below_set ?_ GE207.out)|exact HB.out)⟩
    ·replace c52:=Bool.eq_false_iff.mpr c52
     subst c52
     have H1 : (some (y208,a0_1,a0_2,a0_3,90)) = some (r1,r2,r3,r4,r5):=by rw [if_neg (show ¬ (false = true) by decide)] at H;exact H
     clear H
     have H:=H1
     clear H1
     simp only [Option.some.injEq,Prod.mk.injEq] at H
     obtain ⟨rfl,rfl,rfl,rfl,rfl⟩:=H
     have hnb89:=NB204_205.out
     have hnc89:=NB205_204.out
     have hnb90:=NB204_206.out
     have hnc90:=NB206_204.out
     have hnb91:=NB204_207.out
     have hnc91:=NB207_204.out
     have hcz92_0 : wc.cell? ⟨gb204,0,none⟩ = some (.slice A0_0 l0_0.length c0_0):=(aC BK204.out 0).trans rfl
     have hcz92_1 : wc.cell? ⟨gb204,1,none⟩ = some (.int .u64 a0_1):=(aC BK204.out 1).trans rfl
     have hcz92_2 : wc.cell? ⟨gb204,2,none⟩ = some (.int .u64 a0_2):=(aC BK204.out 2).trans rfl
     have hcz92_3 : wc.cell? ⟨gb204,3,none⟩ = some (.int .u64 a0_3):=(aC BK204.out 3).trans rfl
     have hfz92_0:=blk_frozen BK204.out 0
     have hfz92_1:=blk_frozen BK204.out 1
     have hfz92_2:=blk_frozen BK204.out 2
     have hfz92_3:=blk_frozen BK204.out 3
     have hnb93:=NB205_206.out
     have hnc93:=NB206_205.out
     have hnb94:=NB205_207.out
     have hnc94:=NB207_205.out
     have hcz95_0 : wc.cell? ⟨gb205,0,none⟩ = some (.slice A1_0 l1_0.length c1_0):=(aC BK205.out 0).trans rfl
     have hcz95_1 : wc.cell? ⟨gb205,1,none⟩ = some (.int .u64 a1_1):=(aC BK205.out 1).trans rfl
     have hcz95_2 : wc.cell? ⟨gb205,2,none⟩ = some (.int .u64 a1_2):=(aC BK205.out 2).trans rfl
     have hcz95_3 : wc.cell? ⟨gb205,3,none⟩ = some (.int .u64 a1_3):=(aC BK205.out 3).trans rfl
     have hfz95_0:=blk_frozen BK205.out 0
     have hfz95_1:=blk_frozen BK205.out 1
     have hfz95_2:=blk_frozen BK205.out 2
     have hfz95_3:=blk_frozen BK205.out 3
     go_wp2_with (first|((with_reducible refine gate_callee (f:=40) rfl ?_);refine goesL_ (some 59) rfl rfl Try.func40 (by kernel_rfl) rfl #[.int .u64 a0_1,.int .u64 a1_1] rfl (by (try simp only [List.map_toArray,List.map_cons,List.map_nil]);first|done|rfl|(simp only [List.length_drop,List.length_take];rfl)) ?_;(with_reducible refine (ratlineref09_newer.calls a0_1 a1_1 t214 false _ A49.out).mono ?_);rintro e w' ⟨rfl,⟨nd,rfl⟩⟩;refine ⟨_,rfl,?_⟩;skip)|((with_reducible refine gate_callee (f:=40) rfl ?_);refine goesL_ (some 67) rfl rfl Try.func40 (by kernel_rfl) rfl #[.int .u64 a0_2,.int .u64 a1_2] rfl (by (try simp only [List.map_toArray,List.map_cons,List.map_nil]);first|done|rfl|(simp only [List.length_drop,List.length_take];rfl)) ?_;(with_reducible refine (ratlineref09_newer.calls a0_2 a1_2 t216 t217 _ A50.out).mono ?_);rintro e w' ⟨rfl,⟨nd,rfl⟩⟩;refine ⟨_,rfl,?_⟩;skip)|((with_reducible refine gate_callee (f:=40) rfl ?_);refine goesL_ (some 75) rfl rfl Try.func40 (by kernel_rfl) rfl #[.int .u64 a0_3,.int .u64 a1_3] rfl (by (try simp only [List.map_toArray,List.map_cons,List.map_nil]);first|done|rfl|(simp only [List.length_drop,List.length_take];rfl)) ?_;(with_reducible refine (ratlineref09_newer.calls a0_3 a1_3 t218 t219 _ A51.out).mono ?_);rintro e w' ⟨rfl,⟨nd,rfl⟩⟩;refine ⟨_,rfl,?_⟩;skip;have hnb96:=NB207_206.out;have hnc96:=NB206_207.out;have hcz97_0 : wc.cell? ⟨gb207,0,none⟩ = some (.slice Ao18 y208.length co18):=(aC BK207.out 0).trans rfl;have hcz97_1 : wc.cell? ⟨gb207,1,none⟩ = some (.int .u64 a0_1):=(aC BK207.out 1).trans rfl;have hcz97_2 : wc.cell? ⟨gb207,2,none⟩ = some (.int .u64 a0_2):=(aC BK207.out 2).trans rfl;have hcz97_3 : wc.cell? ⟨gb207,3,none⟩ = some (.int .u64 a0_3):=(aC BK207.out 3).trans rfl;have hfz97_0:=blk_frozen BK207.out 0;have hfz97_1:=blk_frozen BK207.out 1;have hfz97_2:=blk_frozen BK207.out 2;have hfz97_3:=blk_frozen BK207.out 3;have hcz98_0 : wc.cell? ⟨gb206,0,none⟩ = some (.slice none 0 0):=(aC BK206.out 0).trans rfl;have hcz98_1 : wc.cell? ⟨gb206,1,none⟩ = some (.int .u64 0):=(aC BK206.out 1).trans rfl;have hcz98_2 : wc.cell? ⟨gb206,2,none⟩ = some (.int .u64 0):=(aC BK206.out 2).trans rfl;have hcz98_3 : wc.cell? ⟨gb206,3,none⟩ = some (.int .u64 0):=(aC BK206.out 3).trans rfl;have hfz98_0:=blk_frozen BK206.out 0;have hfz98_1:=blk_frozen BK206.out 1;have hfz98_2:=blk_frozen BK206.out 2;have hfz98_3:=blk_frozen BK206.out 3))
     refine bodyPost_ret (results_ct rfl _ _ gb206 28 #[.slice Ao18 y208.length co18,.int .u64 a0_1,.int .u64 a0_2,.int .u64 a0_3] (0,0) _ rfl (by (with_reducible repeat (first|apply bN|apply bD|apply bA));refine blk_put (cs:=#[.slice Ao18 y208.length co18,.int .u64 a0_1,.int .u64 a0_2,.int .u64 0]) ?_ 3 _ rfl;(with_reducible repeat (first|apply bN|apply bD|apply bA));refine blk_put (cs:=#[.slice Ao18 y208.length co18,.int .u64 a0_1,.int .u64 0,.int .u64 0]) ?_ 2 _ rfl;(with_reducible repeat (first|apply bN|apply bD|apply bA));refine blk_put (cs:=#[.slice Ao18 y208.length co18,.int .u64 0,.int .u64 0,.int .u64 0]) ?_ 1 _ rfl;(with_reducible repeat (first|apply bN|apply bD|apply bA));refine blk_put (cs:=#[.slice none 0 0,.int .u64 0,.int .u64 0,.int .u64 0]) ?_ 0 _ rfl;(with_reducible repeat (first|apply bN|apply bD|apply bA));exact BK206.out) Try.underlying28 rfl (by kernel_rfl)) rfl ?_
     exact ⟨_,by first|rfl|(simp [errW_none,errW_some] <;> rfl)|(simp [*,errW_none,errW_some] <;> rfl),by (with_reducible repeat (first|apply zA|apply zN|apply zD));exact Kd.R_mono (aY (p:=⟨gb206,3,none⟩) (aY (p:=⟨gb206,2,none⟩) (aY (p:=⟨gb206,1,none⟩) (aY (p:=⟨gb206,0,none⟩) (Kd.R_types HO_208000.out BK206.out (by decide)) (fun _ hk => hk.2) (.slice Ao18 y208.length co18)) (fun _ hk => hk.2) (.int .u64 a0_1)) (fun _ hk => hk.2) (.int .u64 a0_2)) (fun _ hk => hk.2) (.int .u64 a0_3)) (fun _ hk => trivial),by repeat (first|(with_reducible first|exact HB.out|apply aA|apply aW|apply aD|refine below_set ?_ GE204.out|refine below_set ?_ GE205.out|refine below_set ?_ GE206.out|refine below_set ?_ GE207.out)|exact HB.out)⟩
end Go.Proofs.Ytcagajobpnpicaa.P

end

section
namespace Go.Proofs.Ytcagajobpnpicaa.P
open Go.RowKit Go.Proofs.YtcagajobpnpicaaG Go.Proofs.YtcagajobpnpicaaW.PrintWords Go.Proofs.YtcagajobpnpicaaW.PrintLast Go.Proofs.YtcagajobpnpicaaW.PrintMore
attribute [local go_sem] str_gtr str_geq str_leq max2_int min2_int max_two min_two max_three min_three max_four min_four   -- for this text's walks alone
set_option linter.unusedVariables false
set_option linter.unusedSimpArgs false

theorem eqA58 (d : Nat) (w : World) (x0 y0 : Int) (x1 y1 : Int) (x2 y2 : BA) (x3 y3 : BA) :
 (Op.equalIn (d + 2) 58 (.agg #[.int .u64 x0,.int .u64 x1,.string x2,.string x3]) (.agg #[.int .u64 y0,.int .u64 y1,.string y2,.string y3])).run Try.prog w = .ok (x0 == y0 && (x1 == y1 && (x2.toList == y2.toList && (x3.toList == y3.toList)))) w:=by
 refine eqA_of Try.underlying58 (by kernel_rfl) ?_
 refine eqf_cons (by rfl) (by go_simp;rfl) (by go_simp;rfl) (by go_simp) ?_
 refine eqf_cons (by rfl) (by go_simp;rfl) (by go_simp;rfl) (by go_simp) ?_
 refine eqf_cons (by rfl) (by go_simp;rfl) (by go_simp;rfl) (by go_simp) ?_
 exact eqf_last (by rfl) (by go_simp;rfl) (by go_simp;rfl) (by go_simp)
end Go.Proofs.Ytcagajobpnpicaa.P

end

section
namespace Go.Proofs.Ytcagajobpnpicaa.P
open Go.RowKit Go.Proofs.YtcagajobpnpicaaG Go.Proofs.YtcagajobpnpicaaW.PrintWords Go.Proofs.YtcagajobpnpicaaW.PrintLast Go.Proofs.YtcagajobpnpicaaW.PrintMore
attribute [local go_sem] str_gtr str_geq str_leq max2_int min2_int max_two min_two max_three min_three max_four min_four   -- for this text's walks alone
set_option linter.unusedVariables false
set_option linter.unusedSimpArgs false

attribute [local go_sem high] eqA58
def api_Meta_43.l0 : Nat → List (S58) → List (S58) → Int → Int → Option (Bool)
 | 0,_,_,_,_=>none
 | k + 1,x0,x1,x12,x13=>if x13 < x12 then (if 0 ≤ x13 then (if x13 < (x0.length : Int) then (if x13 < (x1.length : Int) then (if (!(((rd_T58 x0 x13).f0) == ((rd_T58 x1 x13).f0)) || (!(((rd_T58 x0 x13).f1) == ((rd_T58 x1 x13).f1)) || (!((((rd_T58 x0 x13).f2).toList) == (((rd_T58 x1 x13).f2).toList)) || (!((((rd_T58 x0 x13).f3).toList) == (((rd_T58 x1 x13).f3).toList)))))) = true then (some false) else (api_Meta_43.l0 k x0 x1 x12 (wrap64 (x13 + 1)))) else (none)) else (none)) else (none)) else (some true)
def api_Meta_43.f (k : Nat) (l0 : List (S58)) (l1 : List (S58)) : Option (Bool):=if (l0.length : Int) = (l1.length : Int) then (api_Meta_43.l0 k l0 l1 (l0.length : Int) 0) else (some false)
set_option maxHeartbeats 8000000 in
set_option maxRecDepth 100000 in
theorem api_Meta_43.calls (k : Nat) (A0 : Option Addr) (c0 : Nat) (l0 : List (S58)) (A1 : Option Addr) (c1 : Nat) (l1 : List (S58)) (r : Bool) (w : World) (hr0 : Kd.C k58 w A0 l0.length l0) (hc0 : l0.length ≤ c0) (hr1 : Kd.C k58 w A1 l1.length l1) (hc1 : l1.length ≤ c1) (h : api_Meta_43.f k l0 l1 = some r) :
  Calls Try.prog 43 #[.slice A0 l0.length c0,.slice A1 l1.length c1] w fun e w'=>e = .returned (.bool r) ∧ Drawn0 w w':=by
 have hu58:=Try.underlying58
 have HR0:=Aside0.mk hr0
 have HC0:=Aside0.mk hc0
 clear hr0 hc0
 have HR1:=Aside0.mk hr1
 have HC1:=Aside0.mk hc1
 clear hr1 hc1
 have H : (if (l0.length : Int) = (l1.length : Int) then (api_Meta_43.l0 k l0 l1 (l0.length : Int) 0) else (some false)) = some r:=h
 clear h
 by_cases c3 : (l0.length : Int) = (l1.length : Int)
 ·rw [if_pos c3] at H
  have c3b0 : ((l0.length : Int) == (l1.length : Int)) = true:=beq_iff_eq.mpr c3
  have c3b1 : ((l0.length : Int) != (l1.length : Int)) = false:=bne_eq_false_iff_eq.mpr c3
  have c3b2 : (l0.length == l1.length) = true:=by first|simpa using c3|(simp at c3 ⊢;omega)
  clear c3
  have H':=Aside0.mk H
  clear H
  go_enter Try.func43,Try.ntmps43
  go_wp2
  repeat (go_quiet (fail);try go_wp2)
  go_loopg [13] k (fun kq v13 w'=>∃ (x13_1 : Int),v13 = .int .i64 x13_1 ∧ Aside0 (api_Meta_43.l0 kq l0 l1 (l0.length : Int) x13_1 = some r) ∧ Aside0 (kq ≤ k) ∧ Drawn0 w w')
  case atStart=>exact ⟨(0),(by first|rfl|(simp;done)|(simp [*];done)),H',⟨Nat.le_refl _⟩,by repeat (first|exact Drawn0.refl _|apply Drawn0.step)⟩
  case round =>
   clear H'
   try clear c1
   try clear p2
   try clear c3
   try clear c3b0
   try clear c3b1
   try clear c3b2
   obtain ⟨x13_1,rfl,HA,HK1,⟨m1,rfl⟩⟩:=hrel
   cases gk with
   | zero=>exact absurd HA.out (by simp [api_Meta_43.l0])
   | succ k1 =>
    have H:=HA.out
    clear HA
    simp only [api_Meta_43.l0] at H
    by_cases c4 : x13_1 < (l0.length : Int)
    ·rw [if_pos c4] at H
     have c4b0 : decide (x13_1 < (l0.length : Int)) = true:=decide_eq_true c4
     clear c4
     by_cases c5 : 0 ≤ x13_1
     ·rw [if_pos c5] at H
      have c5b0 : decide (0 ≤ x13_1) = true:=decide_eq_true c5
      clear c5
      by_cases c6 : x13_1 < (l0.length : Int)
      ·rw [if_pos c6] at H
       have c6b0 : decide (x13_1 < (l0.length : Int)) = true:=decide_eq_true c6
       clear c6
       by_cases c7 : x13_1 < (l1.length : Int)
       ·rw [if_pos c7] at H
        have c7b0 : decide (x13_1 < (l1.length : Int)) = true:=decide_eq_true c7
        clear c7
        by_cases c8 : (!(((rd_T58 l0 x13_1).f0) == ((rd_T58 l1 x13_1).f0)) || (!(((rd_T58 l0 x13_1).f1) == ((rd_T58 l1 x13_1).f1)) || (!((((rd_T58 l0 x13_1).f2).toList) == (((rd_T58 l1 x13_1).f2).toList)) || (!((((rd_T58 l0 x13_1).f3).toList) == (((rd_T58 l1 x13_1).f3).toList)))))) = true
        ·rw [if_pos c8] at H
         have c8b0 : (!(((rd_T58 l0 x13_1).f0) == ((rd_T58 l1 x13_1).f0)) || (!(((rd_T58 l0 x13_1).f1) == ((rd_T58 l1 x13_1).f1)) || (!((((rd_T58 l0 x13_1).f2).toList) == (((rd_T58 l1 x13_1).f2).toList)) || (!((((rd_T58 l0 x13_1).f3).toList) == (((rd_T58 l1 x13_1).f3).toList)))))) = true:=c8
         clear c8
         obtain rfl:=Option.some.inj H
         have p223 : 0 ≤ (x13_1 : Int):=of_decide_eq_true (by first|(with_reducible assumption)|assumption)
         have q223 : x13_1 < (l0.length : Int):=of_decide_eq_true (by first|(with_reducible assumption)|assumption)
         obtain ⟨ad223,e223,hx223_0,hx223_1,hx223_2,hx223_3⟩:=at_T58 HR0.out x13_1 p223 q223
         cases e223
         replace p223:=eq_true p223
         replace q223:=eq_true q223
         have p224 : 0 ≤ (x13_1 : Int):=of_decide_eq_true (by first|(with_reducible assumption)|assumption)
         have q224 : x13_1 < (l1.length : Int):=of_decide_eq_true (by first|(with_reducible assumption)|assumption)
         obtain ⟨ad224,e224,hx224_0,hx224_1,hx224_2,hx224_3⟩:=at_T58 HR1.out x13_1 p224 q224
         cases e224
         replace p224:=eq_true p224
         replace q224:=eq_true q224
         go_wp2
         repeat (go_quiet (fail);try go_wp2)
         go_ret
         exact ⟨by first|rfl|(simp;done)|(simp [*];done),by repeat (first|exact Drawn0.refl _|apply Drawn0.step)⟩
        ·rw [if_neg c8] at H
         have c8b0 : (!(((rd_T58 l0 x13_1).f0) == ((rd_T58 l1 x13_1).f0)) || (!(((rd_T58 l0 x13_1).f1) == ((rd_T58 l1 x13_1).f1)) || (!((((rd_T58 l0 x13_1).f2).toList) == (((rd_T58 l1 x13_1).f2).toList)) || (!((((rd_T58 l0 x13_1).f3).toList) == (((rd_T58 l1 x13_1).f3).toList)))))) = false:=by simpa using c8
         clear c8
         have H':=Aside0.mk H
         clear H
         have p223 : 0 ≤ (x13_1 : Int):=of_decide_eq_true (by first|(with_reducible assumption)|assumption)
         have q223 : x13_1 < (l0.length : Int):=of_decide_eq_true (by first|(with_reducible assumption)|assumption)
         obtain ⟨ad223,e223,hx223_0,hx223_1,hx223_2,hx223_3⟩:=at_T58 HR0.out x13_1 p223 q223
         cases e223
         replace p223:=eq_true p223
         replace q223:=eq_true q223
         have p224 : 0 ≤ (x13_1 : Int):=of_decide_eq_true (by first|(with_reducible assumption)|assumption)
         have q224 : x13_1 < (l1.length : Int):=of_decide_eq_true (by first|(with_reducible assumption)|assumption)
         obtain ⟨ad224,e224,hx224_0,hx224_1,hx224_2,hx224_3⟩:=at_T58 HR1.out x13_1 p224 q224
         cases e224
         replace p224:=eq_true p224
         replace q224:=eq_true q224
         go_wp2
         repeat (go_quiet (fail);try go_wp2)
         go_roundg k1
         case measure=>have:=HK1.out;omega
         case rel=>exact ⟨(wrap64 (x13_1 + 1)),(by first|rfl|(simp;done)|(simp [*];done)),H',⟨by have:=HK1.out;omega⟩,by repeat (first|exact Drawn0.refl _|apply Drawn0.step)⟩
       ·rw [if_neg c7] at H
        exact absurd H (by simp)
      ·rw [if_neg c6] at H
       exact absurd H (by simp)
     ·rw [if_neg c5] at H
      exact absurd H (by simp)
    ·rw [if_neg c4] at H
     have c4b0 : decide (x13_1 < (l0.length : Int)) = false:=decide_eq_false c4
     clear c4
     obtain rfl:=Option.some.inj H
     go_wp2
     repeat (go_quiet (fail);try go_wp2)
     go_ret
     exact ⟨by first|rfl|(simp;done)|(simp [*];done),by repeat (first|exact Drawn0.refl _|apply Drawn0.step)⟩
 ·rw [if_neg c3] at H
  have c3b0 : ((l0.length : Int) == (l1.length : Int)) = false:=beq_eq_false_iff_ne.mpr c3
  have c3b1 : ((l0.length : Int) != (l1.length : Int)) = true:=bne_iff_ne.mpr c3
  have c3b2 : (l0.length == l1.length) = false:=by first|simpa using c3|(simp at c3 ⊢;omega)
  obtain rfl:=Option.some.inj H
  go_enter Try.func43,Try.ntmps43
  go_wp2
  repeat (go_quiet (fail);try go_wp2)
  go_ret
  exact ⟨by first|rfl|(simp;done)|(simp [*];done),by repeat (first|exact Drawn0.refl _|apply Drawn0.step)⟩

end Go.Proofs.Ytcagajobpnpicaa.P

end

section
namespace Go.Proofs.Ytcagajobpnpicaa.P
open Go.RowKit Go.Proofs.YtcagajobpnpicaaG Go.Proofs.YtcagajobpnpicaaW.PrintWords Go.Proofs.YtcagajobpnpicaaW.PrintLast Go.Proofs.YtcagajobpnpicaaW.PrintMore
attribute [local go_sem] str_gtr str_geq str_leq max2_int min2_int max_two min_two max_three min_three max_four min_four   -- for this text's walks alone
set_option linter.unusedVariables false
set_option linter.unusedSimpArgs false

def edit_Same.f (k : Nat) (l0_0 : List (S58)) (a0_1 : Int) (a0_2 : Int) (a0_3 : Int) (l1_0 : List (S58)) (a1_1 : Int) (a1_2 : Int) (a1_3 : Int) : Option (Bool):=(api_Meta_43.f k l0_0 l1_0).bind fun t227 => (if t227 = true then (if a0_1 = a1_1 then (if a0_2 = a1_2 then (some (a0_3 == a1_3)) else (some false)) else (some false)) else (some false))
set_option maxHeartbeats 8000000 in
set_option maxRecDepth 100000 in
theorem edit_Same.calls (k : Nat) (A0_0 : Option Addr) (c0_0 : Nat) (l0_0 : List (S58)) (a0_1 : Int) (a0_2 : Int) (a0_3 : Int) (A1_0 : Option Addr) (c1_0 : Nat) (l1_0 : List (S58)) (a1_1 : Int) (a1_2 : Int) (a1_3 : Int) (r : Bool) (w : World) (hr0_0 : Kd.C k58 w A0_0 l0_0.length l0_0) (hc0_0 : l0_0.length ≤ c0_0) (hr1_0 : Kd.C k58 w A1_0 l1_0.length l1_0) (hc1_0 : l1_0.length ≤ c1_0) (h : edit_Same.f k l0_0 a0_1 a0_2 a0_3 l1_0 a1_1 a1_2 a1_3 = some r) :
  Calls Try.prog 19 #[.agg #[.slice A0_0 l0_0.length c0_0,.int .u64 a0_1,.int .u64 a0_2,.int .u64 a0_3],.agg #[.slice A1_0 l1_0.length c1_0,.int .u64 a1_1,.int .u64 a1_2,.int .u64 a1_3]] w fun e w' => e = .returned (.bool r) ∧ Below w.heap.size w w':=by
 have hu25:=Try.underlying25
 have HR0_0:=Aside0.mk hr0_0
 have HC0_0:=Aside0.mk hc0_0
 clear hr0_0 hc0_0
 have HR1_0:=Aside0.mk hr1_0
 have HC1_0:=Aside0.mk hc1_0
 clear hr1_0 hc1_0
 have HB:=Aside0.mk (Below.refl w.heap.size w)
 have H : ((api_Meta_43.f k l0_0 l1_0).bind fun t227 => (if t227 = true then (if a0_1 = a1_1 then (if a0_2 = a1_2 then (some (a0_3 == a1_3)) else (some false)) else (some false)) else (some false))) = some r:=h
 clear h
 replace H:=Option.bind_eq_some_iff.mp H
 obtain ⟨t227,A30,H⟩:=H
 replace H : (if t227 = true then (if a0_1 = a1_1 then (if a0_2 = a1_2 then (some (a0_3 == a1_3)) else (some false)) else (some false)) else (some false)) = some r:=H
 have A3:=Aside0.mk A30
 clear A30
 by_cases c4 : t227 = true
 ·subst c4
  have H1 : (if a0_1 = a1_1 then (if a0_2 = a1_2 then (some (a0_3 == a1_3)) else (some false)) else (some false)) = some r:=by rw [if_pos rfl] at H;exact H
  clear H
  have H:=H1
  clear H1
  by_cases c5 : a0_1 = a1_1
  ·rw [if_pos c5] at H
   have c5b0 : (a0_1 == a1_1) = true:=beq_iff_eq.mpr c5
   have c5b1 : (a0_1 != a1_1) = false:=bne_eq_false_iff_eq.mpr c5
   clear c5
   by_cases c6 : a0_2 = a1_2
   ·rw [if_pos c6] at H
    have c6b0 : (a0_2 == a1_2) = true:=beq_iff_eq.mpr c6
    have c6b1 : (a0_2 != a1_2) = false:=bne_eq_false_iff_eq.mpr c6
    clear c6
    obtain rfl:=Option.some.inj H
    go_enter Try.func19,Try.ntmps19
    go_wp2_with (first|((with_reducible refine gate_dst (N:=2) rfl ?_);refine box_event ?hg (N:=2) ?hd (cs:=#[.slice A0_0 l0_0.length c0_0,.int .u64 a0_1,.int .u64 a0_2,.int .u64 a0_3]) (t:=25) ?hr ?_;(case hd => rfl);(case hg => rfl);(case hr => first|(go_simp;done)|(go_simp;rfl));intro gb225 hg w7 hbox hb;have n0_:=Aside0.mk (below_step (by repeat (first|(with_reducible first|exact HB.out|apply below_alloc|apply pw_below_drewN|apply below_drew1)|exact HB.out)) hb);have n1_:=Aside0.mk (hbox);have n2_:=Aside0.mk ((by rw [hg];exact (below_size (by repeat (first|(with_reducible first|exact HB.out|apply below_alloc|apply pw_below_drewN|apply below_drew1)|exact HB.out))) : w.heap.size ≤ gb225));have n3_:=Aside0.mk ((by rw [hg];exact (below_size (by repeat (first|(with_reducible first|exact HB.out|apply below_alloc|apply pw_below_drewN|apply below_drew1)|exact HB.out))) : w.heap.size ≤ gb225));clear HB;have HB:=n0_;have BK225:=n1_;have GW225:=n2_;have GE225:=n3_;clear n0_ n1_ n2_ n3_;clear hb hbox hg)|((with_reducible refine gate_dst (N:=3) rfl ?_);refine box_event ?hg (N:=3) ?hd (cs:=#[.slice A1_0 l1_0.length c1_0,.int .u64 a1_1,.int .u64 a1_2,.int .u64 a1_3]) (t:=25) ?hr ?_;(case hd => rfl);(case hg => rfl);(case hr => first|(go_simp;done)|(go_simp;rfl));intro gb226 hg w8 hbox hb;have n0_:=Aside0.mk (blk_below (g:=gb225) (o:=.cells #[.slice A0_0 l0_0.length c0_0,.int .u64 a0_1,.int .u64 a0_2,.int .u64 a0_3] 25 (0,0)) (by (with_reducible repeat (first|refine bN ?_ _|refine bD ?_|refine bA ?_ _));exact BK225.out) hb);have n1_:=Aside0.mk (below_step (by repeat (first|(with_reducible first|exact HB.out|apply below_alloc|apply pw_below_drewN|apply below_drew1|refine below_set ?_ GE225.out)|exact HB.out)) hb);have n2_:=Aside0.mk (hbox);have n3_:=Aside0.mk ((by rw [hg];exact (below_size (by repeat (first|(with_reducible first|exact HB.out|apply below_alloc|apply pw_below_drewN|apply below_drew1|refine below_set ?_ GE225.out)|exact HB.out))) : w.heap.size ≤ gb226));have n4_:=Aside0.mk ((by rw [hg];exact (below_size (by repeat (first|(with_reducible first|exact HB.out|apply below_alloc|apply pw_below_drewN|apply below_drew1|refine below_set ?_ GE225.out)|exact HB.out))) : w.heap.size ≤ gb226));have n5_:=Aside0.mk ((by rw [hg];exact Nat.ne_of_lt (blk_lt (g:=gb225) (o:=.cells #[.slice A0_0 l0_0.length c0_0,.int .u64 a0_1,.int .u64 a0_2,.int .u64 a0_3] 25 (0,0)) (by (with_reducible repeat (first|refine bN ?_ _|refine bD ?_|refine bA ?_ _));exact BK225.out)) : gb225 ≠ gb226));have n6_:=Aside0.mk ((by rw [hg];exact Nat.ne_of_gt (blk_lt (g:=gb225) (o:=.cells #[.slice A0_0 l0_0.length c0_0,.int .u64 a0_1,.int .u64 a0_2,.int .u64 a0_3] 25 (0,0)) (by (with_reducible repeat (first|refine bN ?_ _|refine bD ?_|refine bA ?_ _));exact BK225.out)) : gb226 ≠ gb225));clear BK225;clear HB;have BK225:=n0_;have HB:=n1_;have BK226:=n2_;have GW226:=n3_;have GE226:=n4_;have NB225_226:=n5_;have NB226_225:=n6_;clear n0_ n1_ n2_ n3_ n4_ n5_ n6_;clear hb hbox hg;have hnb9:=NB225_226.out;have hnc9:=NB226_225.out;have hcz10_0 : w8.cell? ⟨gb225,0,none⟩ = some (.slice A0_0 l0_0.length c0_0):=(blk_cell BK225.out 0).trans rfl;have hcz10_1 : w8.cell? ⟨gb225,1,none⟩ = some (.int .u64 a0_1):=(blk_cell BK225.out 1).trans rfl;have hcz10_2 : w8.cell? ⟨gb225,2,none⟩ = some (.int .u64 a0_2):=(blk_cell BK225.out 2).trans rfl;have hcz10_3 : w8.cell? ⟨gb225,3,none⟩ = some (.int .u64 a0_3):=(blk_cell BK225.out 3).trans rfl;have hfz10_0:=blk_frozen BK225.out 0;have hfz10_1:=blk_frozen BK225.out 1;have hfz10_2:=blk_frozen BK225.out 2;have hfz10_3:=blk_frozen BK225.out 3;have hcz11_0 : w8.cell? ⟨gb226,0,none⟩ = some (.slice A1_0 l1_0.length c1_0):=(blk_cell BK226.out 0).trans rfl;have hcz11_1 : w8.cell? ⟨gb226,1,none⟩ = some (.int .u64 a1_1):=(blk_cell BK226.out 1).trans rfl;have hcz11_2 : w8.cell? ⟨gb226,2,none⟩ = some (.int .u64 a1_2):=(blk_cell BK226.out 2).trans rfl;have hcz11_3 : w8.cell? ⟨gb226,3,none⟩ = some (.int .u64 a1_3):=(blk_cell BK226.out 3).trans rfl;have hfz11_0:=blk_frozen BK226.out 0;have hfz11_1:=blk_frozen BK226.out 1;have hfz11_2:=blk_frozen BK226.out 2;have hfz11_3:=blk_frozen BK226.out 3)|((with_reducible refine gate_callee (f:=43) rfl ?_);refine goesL_ (some 9) rfl rfl Try.func43 (by kernel_rfl) rfl #[.slice A0_0 l0_0.length c0_0,.slice A1_0 l1_0.length c1_0] rfl (by (try simp only [List.map_toArray,List.map_cons,List.map_nil]);first|done|rfl|(simp only [List.length_drop,List.length_take];rfl)) ?_;(with_reducible refine (api_Meta_43.calls k _ _ l0_0 _ _ l1_0 true _ ?side1 ?side2 ?side3 ?side4 A3.out).mono ?_);(case side1 => repeat (first|exact (Kd.C_below HR0_0.out HB.out)|(with_reducible refine Kd.C_alloc ?_ _)|(with_reducible refine Kd.C_drewN ?_ _)|(with_reducible refine Kd.C_drew ?_)));(case side2 => exact HC0_0.out);(case side3 => repeat (first|exact (Kd.C_below HR1_0.out HB.out)|(with_reducible refine Kd.C_alloc ?_ _)|(with_reducible refine Kd.C_drewN ?_ _)|(with_reducible refine Kd.C_drew ?_)));(case side4 => exact HC1_0.out);rintro e w' ⟨rfl,⟨nd,rfl⟩⟩;refine ⟨_,rfl,?_⟩))
    go_ret
    exact ⟨by first|rfl|(simp [errW_none,errW_some] <;> rfl)|(simp [*,errW_none,errW_some] <;> rfl),by repeat (first|(with_reducible first|exact HB.out|apply below_alloc|apply pw_below_drewN|apply below_drew1|refine below_set ?_ GE225.out|refine below_set ?_ GE226.out)|exact HB.out)⟩
   ·rw [if_neg c6] at H
    have c6b0 : (a0_2 == a1_2) = false:=beq_eq_false_iff_ne.mpr c6
    have c6b1 : (a0_2 != a1_2) = true:=bne_iff_ne.mpr c6
    obtain rfl:=Option.some.inj H
    go_enter Try.func19,Try.ntmps19
    go_wp2_with (first|((with_reducible refine gate_dst (N:=2) rfl ?_);refine box_event ?hg (N:=2) ?hd (cs:=#[.slice A0_0 l0_0.length c0_0,.int .u64 a0_1,.int .u64 a0_2,.int .u64 a0_3]) (t:=25) ?hr ?_;(case hd => rfl);(case hg => rfl);(case hr => first|(go_simp;done)|(go_simp;rfl));intro gb225 hg w12 hbox hb;have n0_:=Aside0.mk (below_step (by repeat (first|(with_reducible first|exact HB.out|apply below_alloc|apply pw_below_drewN|apply below_drew1)|exact HB.out)) hb);have n1_:=Aside0.mk (hbox);have n2_:=Aside0.mk ((by rw [hg];exact (below_size (by repeat (first|(with_reducible first|exact HB.out|apply below_alloc|apply pw_below_drewN|apply below_drew1)|exact HB.out))) : w.heap.size ≤ gb225));have n3_:=Aside0.mk ((by rw [hg];exact (below_size (by repeat (first|(with_reducible first|exact HB.out|apply below_alloc|apply pw_below_drewN|apply below_drew1)|exact HB.out))) : w.heap.size ≤ gb225));clear HB;have HB:=n0_;have BK225:=n1_;have GW225:=n2_;have GE225:=n3_;clear n0_ n1_ n2_ n3_;clear hb hbox hg)|((with_reducible refine gate_dst (N:=3) rfl ?_);refine box_event ?hg (N:=3) ?hd (cs:=#[.slice A1_0 l1_0.length c1_0,.int .u64 a1_1,.int .u64 a1_2,.int .u64 a1_3]) (t:=25) ?hr ?_;(case hd => rfl);(case hg => rfl);(case hr => first|(go_simp;done)|(go_simp;rfl));intro gb226 hg w13 hbox hb;have n0_:=Aside0.mk (blk_below (g:=gb225) (o:=.cells #[.slice A0_0 l0_0.length c0_0,.int .u64 a0_1,.int .u64 a0_2,.int .u64 a0_3] 25 (0,0)) (by (with_reducible repeat (first|refine bN ?_ _|refine bD ?_|refine bA ?_ _));exact BK225.out) hb);have n1_:=Aside0.mk (below_step (by repeat (first|(with_reducible first|exact HB.out|apply below_alloc|apply pw_below_drewN|apply below_drew1|refine below_set ?_ GE225.out)|exact HB.out)) hb);have n2_:=Aside0.mk (hbox);have n3_:=Aside0.mk ((by rw [hg];exact (below_size (by repeat (first|(with_reducible first|exact HB.out|apply below_alloc|apply pw_below_drewN|apply below_drew1|refine below_set ?_ GE225.out)|exact HB.out))) : w.heap.size ≤ gb226));have n4_:=Aside0.mk ((by rw [hg];exact (below_size (by repeat (first|(with_reducible first|exact HB.out|apply below_alloc|apply pw_below_drewN|apply below_drew1|refine below_set ?_ GE225.out)|exact HB.out))) : w.heap.size ≤ gb226));have n5_:=Aside0.mk ((by rw [hg];exact Nat.ne_of_lt (blk_lt (g:=gb225) (o:=.cells #[.slice A0_0 l0_0.length c0_0,.int .u64 a0_1,.int .u64 a0_2,.int .u64 a0_3] 25 (0,0)) (by (with_reducible repeat (first|refine bN ?_ _|refine bD ?_|refine bA ?_ _));exact BK225.out)) : gb225 ≠ gb226));have n6_:=Aside0.mk ((by rw [hg];exact Nat.ne_of_gt (blk_lt (g:=gb225) (o:=.cells #[.slice A0_0 l0_0.length c0_0,.int .u64 a0_1,.int .u64 a0_2,.int .u64 a0_3] 25 (0,0)) (by (with_reducible repeat (first|refine bN ?_ _|refine bD ?_|refine bA ?_ _));exact BK225.out)) : gb226 ≠ gb225));clear BK225;clear HB;have BK225:=n0_;have HB:=n1_;have BK226:=n2_;have GW226:=n3_;have GE226:=n4_;have NB225_226:=n5_;have NB226_225:=n6_;clear n0_ n1_ n2_ n3_ n4_ n5_ n6_;clear hb hbox hg;have hnb14:=NB225_226.out;have hnc14:=NB226_225.out;have hcz15_0 : w13.cell? ⟨gb225,0,none⟩ = some (.slice A0_0 l0_0.length c0_0):=(blk_cell BK225.out 0).trans rfl;have hcz15_1 : w13.cell? ⟨gb225,1,none⟩ = some (.int .u64 a0_1):=(blk_cell BK225.out 1).trans rfl;have hcz15_2 : w13.cell? ⟨gb225,2,none⟩ = some (.int .u64 a0_2):=(blk_cell BK225.out 2).trans rfl;have hcz15_3 : w13.cell? ⟨gb225,3,none⟩ = some (.int .u64 a0_3):=(blk_cell BK225.out 3).trans rfl;have hfz15_0:=blk_frozen BK225.out 0;have hfz15_1:=blk_frozen BK225.out 1;have hfz15_2:=blk_frozen BK225.out 2;have hfz15_3:=blk_frozen BK225.out 3;have hcz16_0 : w13.cell? ⟨gb226,0,none⟩ = some (.slice A1_0 l1_0.length c1_0):=(blk_cell BK226.out 0).trans rfl;have hcz16_1 : w13.cell? ⟨gb226,1,none⟩ = some (.int .u64 a1_1):=(blk_cell BK226.out 1).trans rfl;have hcz16_2 : w13.cell? ⟨gb226,2,none⟩ = some (.int .u64 a1_2):=(blk_cell BK226.out 2).trans rfl;have hcz16_3 : w13.cell? ⟨gb226,3,none⟩ = some (.int .u64 a1_3):=(blk_cell BK226.out 3).trans rfl;have hfz16_0:=blk_frozen BK226.out 0;have hfz16_1:=blk_frozen BK226.out 1;have hfz16_2:=blk_frozen BK226.out 2;have hfz16_3:=blk_frozen BK226.out 3)|((with_reducible refine gate_callee (f:=43) rfl ?_);refine goesL_ (some 9) rfl rfl Try.func43 (by kernel_rfl) rfl #[.slice A0_0 l0_0.length c0_0,.slice A1_0 l1_0.length c1_0] rfl (by (try simp only [List.map_toArray,List.map_cons,List.map_nil]);first|done|rfl|(simp only [List.length_drop,List.length_take];rfl)) ?_;(with_reducible refine (api_Meta_43.calls k _ _ l0_0 _ _ l1_0 true _ ?side1 ?side2 ?side3 ?side4 A3.out).mono ?_);(case side1 => repeat (first|exact (Kd.C_below HR0_0.out HB.out)|(with_reducible refine Kd.C_alloc ?_ _)|(with_reducible refine Kd.C_drewN ?_ _)|(with_reducible refine Kd.C_drew ?_)));(case side2 => exact HC0_0.out);(case side3 => repeat (first|exact (Kd.C_below HR1_0.out HB.out)|(with_reducible refine Kd.C_alloc ?_ _)|(with_reducible refine Kd.C_drewN ?_ _)|(with_reducible refine Kd.C_drew ?_)));(case side4 => exact HC1_0.out);rintro e w' ⟨rfl,⟨nd,rfl⟩⟩;refine ⟨_,rfl,?_⟩))
    go_ret
    exact ⟨by first|rfl|(simp [errW_none,errW_some] <;> rfl)|(simp [*,errW_none,errW_some] <;> rfl),by repeat (first|(with_reducible first|exact HB.out|apply below_alloc|apply pw_below_drewN|apply below_drew1|refine below_set ?_ GE225.out|refine below_set ?_ GE226.out)|exact HB.out)⟩
  ·rw [if_neg c5] at H
   have c5b0 : (a0_1 == a1_1) = false:=beq_eq_false_iff_ne.mpr c5
   have c5b1 : (a0_1 != a1_1) = true:=bne_iff_ne.mpr c5
   obtain rfl:=Option.some.inj H
   go_enter Try.func19,Try.ntmps19
   go_wp2_with (first|((with_reducible refine gate_dst (N:=2) rfl ?_);refine box_event ?hg (N:=2) ?hd (cs:=#[.slice A0_0 l0_0.length c0_0,.int .u64 a0_1,.int .u64 a0_2,.int .u64 a0_3]) (t:=25) ?hr ?_;(case hd => rfl);(case hg => rfl);(case hr => first|(go_simp;done)|(go_simp;rfl));intro gb225 hg w17 hbox hb;have n0_:=Aside0.mk (below_step (by repeat (first|(with_reducible first|exact HB.out|apply below_alloc|apply pw_below_drewN|apply below_drew1)|exact HB.out)) hb);have n1_:=Aside0.mk (hbox);have n2_:=Aside0.mk ((by rw [hg];exact (below_size (by repeat (first|(with_reducible first|exact HB.out|apply below_alloc|apply pw_below_drewN|apply below_drew1)|exact HB.out))) : w.heap.size ≤ gb225));have n3_:=Aside0.mk ((by rw [hg];exact (below_size (by repeat (first|(with_reducible first|exact HB.out|apply below_alloc|apply pw_below_drewN|apply below_drew1)|exact HB.out))) : w.heap.size ≤ gb225));clear HB;have HB:=n0_;have BK225:=n1_;have GW225:=n2_;have GE225:=n3_;clear n0_ n1_ n2_ n3_;clear hb hbox hg)|((with_reducible refine gate_dst (N:=3) rfl ?_);refine box_event ?hg (N:=3) ?hd (cs:=#[.slice A1_0 l1_0.length c1_0,.int .u64 a1_1,.int .u64 a1_2,.int .u64 a1_3]) (t:=25) ?hr ?_;(case hd => rfl);(case hg => rfl);(case hr => first|(go_simp;done)|(go_simp;rfl));intro gb226 hg w18 hbox hb;have n0_:=Aside0.mk (blk_below (g:=gb225) (o:=.cells #[.slice A0_0 l0_0.length c0_0,.int .u64 a0_1,.int .u64 a0_2,.int .u64 a0_3] 25 (0,0)) (by (with_reducible repeat (first|refine bN ?_ _|refine bD ?_|refine bA ?_ _));exact BK225.out) hb);have n1_:=Aside0.mk (below_step (by repeat (first|(with_reducible first|exact HB.out|apply below_alloc|apply pw_below_drewN|apply below_drew1|refine below_set ?_ GE225.out)|exact HB.out)) hb);have n2_:=Aside0.mk (hbox);have n3_:=Aside0.mk ((by rw [hg];exact (below_size (by repeat (first|(with_reducible first|exact HB.out|apply below_alloc|apply pw_below_drewN|apply below_drew1|refine below_set ?_ GE225.out)|exact HB.out))) : w.heap.size ≤ gb226));have n4_:=Aside0.mk ((by rw [hg];exact (below_size (by repeat (first|(with_reducible first|exact HB.out|apply below_alloc|apply pw_below_drewN|apply below_drew1|refine below_set ?_ GE225.out)|exact HB.out))) : w.heap.size ≤ gb226));have n5_:=Aside0.mk ((by rw [hg];exact Nat.ne_of_lt (blk_lt (g:=gb225) (o:=.cells #[.slice A0_0 l0_0.length c0_0,.int .u64 a0_1,.int .u64 a0_2,.int .u64 a0_3] 25 (0,0)) (by (with_reducible repeat (first|refine bN ?_ _|refine bD ?_|refine bA ?_ _));exact BK225.out)) : gb225 ≠ gb226));have n6_:=Aside0.mk ((by rw [hg];exact Nat.ne_of_gt (blk_lt (g:=gb225) (o:=.cells #[.slice A0_0 l0_0.length c0_0,.int .u64 a0_1,.int .u64 a0_2,.int .u64 a0_3] 25 (0,0)) (by (with_reducible repeat (first|refine bN ?_ _|refine bD ?_|refine bA ?_ _));exact BK225.out)) : gb226 ≠ gb225));clear BK225;clear HB;have BK225:=n0_;have HB:=n1_;have BK226:=n2_;have GW226:=n3_;have GE226:=n4_;have NB225_226:=n5_;have NB226_225:=n6_;clear n0_ n1_ n2_ n3_ n4_ n5_ n6_;clear hb hbox hg;have hnb19:=NB225_226.out;have hnc19:=NB226_225.out;have hcz20_0 : w18.cell? ⟨gb225,0,none⟩ = some (.slice A0_0 l0_0.length c0_0):=(blk_cell BK225.out 0).trans rfl;have hcz20_1 : w18.cell? ⟨gb225,1,none⟩ = some (.int .u64 a0_1):=(blk_cell BK225.out 1).trans rfl;have hcz20_2 : w18.cell? ⟨gb225,2,none⟩ = some (.int .u64 a0_2):=(blk_cell BK225.out 2).trans rfl;have hcz20_3 : w18.cell? ⟨gb225,3,none⟩ = some (.int .u64 a0_3):=(blk_cell BK225.out 3).trans rfl;have hfz20_0:=blk_frozen BK225.out 0;have hfz20_1:=blk_frozen BK225.out 1;have hfz20_2:=blk_frozen BK225.out 2;have hfz20_3:=blk_frozen BK225.out 3;have hcz21_0 : w18.cell? ⟨gb226,0,none⟩ = some (.slice A1_0 l1_0.length c1_0):=(blk_cell BK226.out 0).trans rfl;have hcz21_1 : w18.cell? ⟨gb226,1,none⟩ = some (.int .u64 a1_1):=(blk_cell BK226.out 1).trans rfl;have hcz21_2 : w18.cell? ⟨gb226,2,none⟩ = some (.int .u64 a1_2):=(blk_cell BK226.out 2).trans rfl;have hcz21_3 : w18.cell? ⟨gb226,3,none⟩ = some (.int .u64 a1_3):=(blk_cell BK226.out 3).trans rfl;have hfz21_0:=blk_frozen BK226.out 0;have hfz21_1:=blk_frozen BK226.out 1;have hfz21_2:=blk_frozen BK226.out 2;have hfz21_3:=blk_frozen BK226.out 3)|((with_reducible refine gate_callee (f:=43) rfl ?_);refine goesL_ (some 9) rfl rfl Try.func43 (by kernel_rfl) rfl #[.slice A0_0 l0_0.length c0_0,.slice A1_0 l1_0.length c1_0] rfl (by (try simp only [List.map_toArray,List.map_cons,List.map_nil]);first|done|rfl|(simp only [List.length_drop,List.length_take];rfl)) ?_;(with_reducible refine (api_Meta_43.calls k _ _ l0_0 _ _ l1_0 true _ ?side1 ?side2 ?side3 ?side4 A3.out).mono ?_);(case side1 => repeat (first|exact (Kd.C_below HR0_0.out HB.out)|(with_reducible refine Kd.C_alloc ?_ _)|(with_reducible refine Kd.C_drewN ?_ _)|(with_reducible refine Kd.C_drew ?_)));(case side2 => exact HC0_0.out);(case side3 => repeat (first|exact (Kd.C_below HR1_0.out HB.out)|(with_reducible refine Kd.C_alloc ?_ _)|(with_reducible refine Kd.C_drewN ?_ _)|(with_reducible refine Kd.C_drew ?_)));(case side4 => exact HC1_0.out);rintro e w' ⟨rfl,⟨nd,rfl⟩⟩;refine ⟨_,rfl,?_⟩))
   go_ret
   exact ⟨by first|rfl|(simp [errW_none,errW_some] <;> rfl)|(simp [*,errW_none,errW_some] <;> rfl),by repeat (first|(with_reducible first|exact HB.out|apply below_alloc|apply pw_below_drewN|apply below_drew1|refine below_set ?_ GE225.out|refine below_set ?_ GE226.out)|exact HB.out)⟩
 ·replace c4:=Bool.eq_false_iff.mpr c4
  subst c4
  have H1 : (some false) = some r:=by rw [if_neg (show ¬ (false = true) by decide)] at H;exact H
  clear H
  have H:=H1
  clear H1
  obtain rfl:=Option.some.inj H
  go_enter Try.func19,Try.ntmps19
  go_wp2_with (first|((with_reducible refine gate_dst (N:=2) rfl ?_);refine box_event ?hg (N:=2) ?hd (cs:=#[.slice A0_0 l0_0.length c0_0,.int .u64 a0_1,.int .u64 a0_2,.int .u64 a0_3]) (t:=25) ?hr ?_;(case hd => rfl);(case hg => rfl);(case hr => first|(go_simp;done)|(go_simp;rfl));intro gb225 hg w22 hbox hb;have n0_:=Aside0.mk (below_step (by repeat (first|(with_reducible first|exact HB.out|apply below_alloc|apply pw_below_drewN|apply below_drew1)|exact HB.out)) hb);have n1_:=Aside0.mk (hbox);have n2_:=Aside0.mk ((by rw [hg];exact (below_size (by repeat (first|(with_reducible first|exact HB.out|apply below_alloc|apply pw_below_drewN|apply below_drew1)|exact HB.out))) : w.heap.size ≤ gb225));have n3_:=Aside0.mk ((by rw [hg];exact (below_size (by repeat (first|(with_reducible first|exact HB.out|apply below_alloc|apply pw_below_drewN|apply below_drew1)|exact HB.out))) : w.heap.size ≤ gb225));clear HB;have HB:=n0_;have BK225:=n1_;have GW225:=n2_;have GE225:=n3_;clear n0_ n1_ n2_ n3_;clear hb hbox hg)|((with_reducible refine gate_dst (N:=3) rfl ?_);refine box_event ?hg (N:=3) ?hd (cs:=#[.slice A1_0 l1_0.length c1_0,.int .u64 a1_1,.int .u64 a1_2,.int .u64 a1_3]) (t:=25) ?hr ?_;(case hd => rfl);(case hg => rfl);(case hr => first|(go_simp;done)|(go_simp;rfl));intro gb226 hg w23 hbox hb;have n0_:=Aside0.mk (blk_below (g:=gb225) (o:=.cells #[.slice A0_0 l0_0.length c0_0,.int .u64 a0_1,.int .u64 a0_2,.int .u64 a0_3] 25 (0,0)) (by (with_reducible repeat (first|refine bN ?_ _|refine bD ?_|refine bA ?_ _));exact BK225.out) hb);have n1_:=Aside0.mk (below_step (by repeat (first|(with_reducible first|exact HB.out|apply below_alloc|apply pw_below_drewN|apply below_drew1|refine below_set ?_ GE225.out)|exact HB.out)) hb);have n2_:=Aside0.mk (hbox);have n3_:=Aside0.mk ((by rw [hg];exact (below_size (by repeat (first|(with_reducible first|exact HB.out|apply below_alloc|apply pw_below_drewN|apply below_drew1|refine below_set ?_ GE225.out)|exact HB.out))) : w.heap.size ≤ gb226));have n4_:=Aside0.mk ((by rw [hg];exact (below_size (by repeat (first|(with_reducible first|exact HB.out|apply below_alloc|apply pw_below_drewN|apply below_drew1|refine below_set ?_ GE225.out)|exact HB.out))) : w.heap.size ≤ gb226));have n5_:=Aside0.mk ((by rw [hg];exact Nat.ne_of_lt (blk_lt (g:=gb225) (o:=.cells #[.slice A0_0 l0_0.length c0_0,.int .u64 a0_1,.int .u64 a0_2,.int .u64 a0_3] 25 (0,0)) (by (with_reducible repeat (first|refine bN ?_ _|refine bD ?_|refine bA ?_ _));exact BK225.out)) : gb225 ≠ gb226));have n6_:=Aside0.mk ((by rw [hg];exact Nat.ne_of_gt (blk_lt (g:=gb225) (o:=.cells #[.slice A0_0 l0_0.length c0_0,.int .u64 a0_1,.int .u64 a0_2,.int .u64 a0_3] 25 (0,0)) (by (with_reducible repeat (first|refine bN ?_ _|refine bD ?_|refine bA ?_ _));exact BK225.out)) : gb226 ≠ gb225));clear BK225;clear HB;have BK225:=n0_;have HB:=n1_;have BK226:=n2_;have GW226:=n3_;have GE226:=n4_;have NB225_226:=n5_;have NB226_225:=n6_;clear n0_ n1_ n2_ n3_ n4_ n5_ n6_;clear hb hbox hg;have hnb24:=NB225_226.out;have hnc24:=NB226_225.out;have hcz25_0 : w23.cell? ⟨gb225,0,none⟩ = some (.slice A0_0 l0_0.length c0_0):=(blk_cell BK225.out 0).trans rfl;have hcz25_1 : w23.cell? ⟨gb225,1,none⟩ = some (.int .u64 a0_1):=(blk_cell BK225.out 1).trans rfl;have hcz25_2 : w23.cell? ⟨gb225,2,none⟩ = some (.int .u64 a0_2):=(blk_cell BK225.out 2).trans rfl;have hcz25_3 : w23.cell? ⟨gb225,3,none⟩ = some (.int .u64 a0_3):=(blk_cell BK225.out 3).trans rfl;have hfz25_0:=blk_frozen BK225.out 0;have hfz25_1:=blk_frozen BK225.out 1;have hfz25_2:=blk_frozen BK225.out 2;have hfz25_3:=blk_frozen BK225.out 3;have hcz26_0 : w23.cell? ⟨gb226,0,none⟩ = some (.slice A1_0 l1_0.length c1_0):=(blk_cell BK226.out 0).trans rfl;have hcz26_1 : w23.cell? ⟨gb226,1,none⟩ = some (.int .u64 a1_1):=(blk_cell BK226.out 1).trans rfl;have hcz26_2 : w23.cell? ⟨gb226,2,none⟩ = some (.int .u64 a1_2):=(blk_cell BK226.out 2).trans rfl;have hcz26_3 : w23.cell? ⟨gb226,3,none⟩ = some (.int .u64 a1_3):=(blk_cell BK226.out 3).trans rfl;have hfz26_0:=blk_frozen BK226.out 0;have hfz26_1:=blk_frozen BK226.out 1;have hfz26_2:=blk_frozen BK226.out 2;have hfz26_3:=blk_frozen BK226.out 3)|((with_reducible refine gate_callee (f:=43) rfl ?_);refine goesL_ (some 9) rfl rfl Try.func43 (by kernel_rfl) rfl #[.slice A0_0 l0_0.length c0_0,.slice A1_0 l1_0.length c1_0] rfl (by (try simp only [List.map_toArray,List.map_cons,List.map_nil]);first|done|rfl|(simp only [List.length_drop,List.length_take];rfl)) ?_;(with_reducible refine (api_Meta_43.calls k _ _ l0_0 _ _ l1_0 false _ ?side1 ?side2 ?side3 ?side4 A3.out).mono ?_);(case side1 => repeat (first|exact (Kd.C_below HR0_0.out HB.out)|(with_reducible refine Kd.C_alloc ?_ _)|(with_reducible refine Kd.C_drewN ?_ _)|(with_reducible refine Kd.C_drew ?_)));(case side2 => exact HC0_0.out);(case side3 => repeat (first|exact (Kd.C_below HR1_0.out HB.out)|(with_reducible refine Kd.C_alloc ?_ _)|(with_reducible refine Kd.C_drewN ?_ _)|(with_reducible refine Kd.C_drew ?_)));(case side4 => exact HC1_0.out);rintro e w' ⟨rfl,⟨nd,rfl⟩⟩;refine ⟨_,rfl,?_⟩))
  go_ret
  exact ⟨by first|rfl|(simp [errW_none,errW_some] <;> rfl)|(simp [*,errW_none,errW_some] <;> rfl),by repeat (first|(with_reducible first|exact HB.out|apply below_alloc|apply pw_below_drewN|apply below_drew1|refine below_set ?_ GE225.out|refine below_set ?_ GE226.out)|exact HB.out)⟩

end Go.Proofs.Ytcagajobpnpicaa.P

end

section
namespace Go.Proofs.Ytcagajobpnpicaa.P
open Go.RowKit Go.Proofs.YtcagajobpnpicaaG Go.Proofs.YtcagajobpnpicaaW.PrintWords Go.Proofs.YtcagajobpnpicaaW.PrintLast Go.Proofs.YtcagajobpnpicaaW.PrintMore
attribute [local go_sem] str_gtr str_geq str_leq max2_int min2_int max_two min_two max_three min_three max_four min_four   -- for this text's walks alone
set_option linter.unusedVariables false
set_option linter.unusedSimpArgs false

attribute [local go_sem high] eqA58
namespace APx21
abbrev aW := @pw_below_drewN
abbrev aA := @below_alloc
abbrev aD := @below_drew1
abbrev aF := @blk_frozen
abbrev aK := @Aside0.mk
abbrev aS := @below_set
abbrev aC := @blk_cell
end APx21
open APx21
mutual
def ratlineref09_Same.j0 : Nat → Bool → List (S58) → Int → Int → Int → List (S58) → Int → Int → Int → Option (Bool)
 | 0,_,_,_,_,_,_,_,_,_ => none
 | k + 1,x33,x229000,x229001,x229002,x229003,x230000,x230001,x230002,x230003 => if x33 = true then (some false) else (ratlineref09_Same.l0 k 0 x229000 x229001 x229002 x229003 x230000 x230001 x230002 x230003)
def ratlineref09_Same.l0 : Nat → Int → List (S58) → Int → Int → Int → List (S58) → Int → Int → Int → Option (Bool)
 | 0,_,_,_,_,_,_,_,_,_ => none
 | k + 1,x5,x229000,x229001,x229002,x229003,x230000,x230001,x230002,x230003 => if x5 < (x229000.length : Int) then (if 0 ≤ x5 then (if x5 < (x230000.length : Int) then (if (!(((rd_T58 x229000 x5).f0) == ((rd_T58 x230000 x5).f0)) || (!(((rd_T58 x229000 x5).f1) == ((rd_T58 x230000 x5).f1)) || (!((((rd_T58 x229000 x5).f2).toList) == (((rd_T58 x230000 x5).f2).toList)) || (!((((rd_T58 x229000 x5).f3).toList) == (((rd_T58 x230000 x5).f3).toList)))))) = true then (some false) else (ratlineref09_Same.l0 k (wrap64 (x5 + 1)) x229000 x229001 x229002 x229003 x230000 x230001 x230002 x230003)) else (none)) else (none)) else (some true)
end
def ratlineref09_Same.f (k : Nat) (l0_0 : List (S58)) (a0_1 : Int) (a0_2 : Int) (a0_3 : Int) (l1_0 : List (S58)) (a1_1 : Int) (a1_2 : Int) (a1_3 : Int) : Option (Bool):=if (l0_0.length : Int) = (l1_0.length : Int) then (if a0_1 = a1_1 then (if a0_2 = a1_2 then (ratlineref09_Same.j0 k (a0_3 != a1_3) l0_0 a0_1 a0_2 a0_3 l1_0 a1_1 a1_2 a1_3) else (ratlineref09_Same.j0 k true l0_0 a0_1 a0_2 a0_3 l1_0 a1_1 a1_2 a1_3)) else (ratlineref09_Same.j0 k true l0_0 a0_1 a0_2 a0_3 l1_0 a1_1 a1_2 a1_3)) else (ratlineref09_Same.j0 k true l0_0 a0_1 a0_2 a0_3 l1_0 a1_1 a1_2 a1_3)
set_option maxHeartbeats 8000000 in
set_option maxRecDepth 100000 in
theorem ratlineref09_Same.calls (k : Nat) (A0_0 : Option Addr) (c0_0 : Nat) (l0_0 : List (S58)) (a0_1 : Int) (a0_2 : Int) (a0_3 : Int) (A1_0 : Option Addr) (c1_0 : Nat) (l1_0 : List (S58)) (a1_1 : Int) (a1_2 : Int) (a1_3 : Int) (r : Bool) (w : World) (hr0_0 : Kd.C k58 w A0_0 l0_0.length l0_0) (hc0_0 : l0_0.length ≤ c0_0) (hr1_0 : Kd.C k58 w A1_0 l1_0.length l1_0) (hc1_0 : l1_0.length ≤ c1_0) (h : ratlineref09_Same.f k l0_0 a0_1 a0_2 a0_3 l1_0 a1_1 a1_2 a1_3 = some r) :
  Calls Try.prog 20 #[.agg #[.slice A0_0 l0_0.length c0_0,.int .u64 a0_1,.int .u64 a0_2,.int .u64 a0_3],.agg #[.slice A1_0 l1_0.length c1_0,.int .u64 a1_1,.int .u64 a1_2,.int .u64 a1_3]] w fun e w' => e = .returned (.bool r) ∧ Below w.heap.size w w':=by
 have hu25:=Try.underlying25
 have hu58:=Try.underlying58
 have HR0_0:=aK hr0_0
 have HC0_0:=aK hc0_0
 clear hr0_0 hc0_0
 have HR1_0:=aK hr1_0
 have HC1_0:=aK hc1_0
 clear hr1_0 hc1_0
 have HB:=aK (Below.refl w.heap.size w)
 have H : (if (l0_0.length : Int) = (l1_0.length : Int) then (if a0_1 = a1_1 then (if a0_2 = a1_2 then (ratlineref09_Same.j0 k (a0_3 != a1_3) l0_0 a0_1 a0_2 a0_3 l1_0 a1_1 a1_2 a1_3) else (ratlineref09_Same.j0 k true l0_0 a0_1 a0_2 a0_3 l1_0 a1_1 a1_2 a1_3)) else (ratlineref09_Same.j0 k true l0_0 a0_1 a0_2 a0_3 l1_0 a1_1 a1_2 a1_3)) else (ratlineref09_Same.j0 k true l0_0 a0_1 a0_2 a0_3 l1_0 a1_1 a1_2 a1_3)) = some r:=h
 clear h
 have HC3:=aK H
 clear H
 go_enter Try.func20,Try.ntmps20
 go_upto_region 1 with (first|((with_reducible refine gate_dst (N:=2) rfl ?_);refine box_event ?hg (N:=2) ?hd (cs:=#[.slice A0_0 l0_0.length c0_0,.int .u64 a0_1,.int .u64 a0_2,.int .u64 a0_3]) (t:=25) ?hr ?_;(case hd => rfl);(case hg => rfl);(case hr => first|(go_simp;done)|(go_simp;rfl));intro gb228 hg w4 hbox hb;have n0_:=aK (below_step (by repeat (first|(with_reducible first|exact HB.out|apply aA|apply aW|apply aD)|exact HB.out)) hb);have n1_:=aK (hbox);have n2_:=aK ((by rw [hg];exact (below_size (by repeat (first|(with_reducible first|exact HB.out|apply aA|apply aW|apply aD)|exact HB.out))) : w.heap.size ≤ gb228));have n3_:=aK ((by rw [hg];exact (below_size (by repeat (first|(with_reducible first|exact HB.out|apply aA|apply aW|apply aD)|exact HB.out))) : w.heap.size ≤ gb228));clear HB;have HB:=n0_;have BK228:=n1_;have GW228:=n2_;have GE228:=n3_;clear n0_ n1_ n2_ n3_;clear hb hbox hg)|((with_reducible refine gate_dst (N:=3) rfl ?_);refine box_event ?hg (N:=3) ?hd (cs:=#[.slice A1_0 l1_0.length c1_0,.int .u64 a1_1,.int .u64 a1_2,.int .u64 a1_3]) (t:=25) ?hr ?_;(case hd => rfl);(case hg => rfl);(case hr => first|(go_simp;done)|(go_simp;rfl));intro gb229 hg w5 hbox hb;have n0_:=aK (blk_below (g:=gb228) (o:=.cells #[.slice A0_0 l0_0.length c0_0,.int .u64 a0_1,.int .u64 a0_2,.int .u64 a0_3] 25 (0,0)) (by (with_reducible repeat (first|apply bN|apply bD|apply bA));exact BK228.out) hb);have n1_:=aK (below_step (by repeat (first|(with_reducible first|exact HB.out|apply aA|apply aW|apply aD|refine aS ?_ GE228.out)|exact HB.out)) hb);have n2_:=aK (hbox);have n3_:=aK ((by rw [hg];exact (below_size (by repeat (first|(with_reducible first|exact HB.out|apply aA|apply aW|apply aD|refine aS ?_ GE228.out)|exact HB.out))) : w.heap.size ≤ gb229));have n4_:=aK ((by rw [hg];exact (below_size (by repeat (first|(with_reducible first|exact HB.out|apply aA|apply aW|apply aD|refine aS ?_ GE228.out)|exact HB.out))) : w.heap.size ≤ gb229));have n5_:=aK ((by rw [hg];exact Nat.ne_of_lt (blk_lt (g:=gb228) (o:=.cells #[.slice A0_0 l0_0.length c0_0,.int .u64 a0_1,.int .u64 a0_2,.int .u64 a0_3] 25 (0,0)) (by (with_reducible repeat (first|apply bN|apply bD|apply bA));exact BK228.out)) : gb228 ≠ gb229));have n6_:=aK ((by rw [hg];exact Nat.ne_of_gt (blk_lt (g:=gb228) (o:=.cells #[.slice A0_0 l0_0.length c0_0,.int .u64 a0_1,.int .u64 a0_2,.int .u64 a0_3] 25 (0,0)) (by (with_reducible repeat (first|apply bN|apply bD|apply bA));exact BK228.out)) : gb229 ≠ gb228));clear BK228;clear HB;have BK228:=n0_;have HB:=n1_;have BK229:=n2_;have GW229:=n3_;have GE229:=n4_;have NB228_229:=n5_;have NB229_228:=n6_;clear n0_ n1_ n2_ n3_ n4_ n5_ n6_;clear hb hbox hg))
 repeat (go_quiet (first|((with_reducible refine gate_dst (N:=2) rfl ?_);refine box_event ?hg (N:=2) ?hd (cs:=#[.slice A0_0 l0_0.length c0_0,.int .u64 a0_1,.int .u64 a0_2,.int .u64 a0_3]) (t:=25) ?hr ?_;(case hd => rfl);(case hg => rfl);(case hr => first|(go_simp;done)|(go_simp;rfl));intro gb228 hg w4 hbox hb;have n0_:=aK (below_step (by repeat (first|(with_reducible first|exact HB.out|apply aA|apply aW|apply aD)|exact HB.out)) hb);have n1_:=aK (hbox);have n2_:=aK ((by rw [hg];exact (below_size (by repeat (first|(with_reducible first|exact HB.out|apply aA|apply aW|apply aD)|exact HB.out))) : w.heap.size ≤ gb228));have n3_:=aK ((by rw [hg];exact (below_size (by repeat (first|(with_reducible first|exact HB.out|apply aA|apply aW|apply aD)|exact HB.out))) : w.heap.size ≤ gb228));clear HB;have HB:=n0_;have BK228:=n1_;have GW228:=n2_;have GE228:=n3_;clear n0_ n1_ n2_ n3_;clear hb hbox hg)|((with_reducible refine gate_dst (N:=3) rfl ?_);refine box_event ?hg (N:=3) ?hd (cs:=#[.slice A1_0 l1_0.length c1_0,.int .u64 a1_1,.int .u64 a1_2,.int .u64 a1_3]) (t:=25) ?hr ?_;(case hd => rfl);(case hg => rfl);(case hr => first|(go_simp;done)|(go_simp;rfl));intro gb229 hg w5 hbox hb;have n0_:=aK (blk_below (g:=gb228) (o:=.cells #[.slice A0_0 l0_0.length c0_0,.int .u64 a0_1,.int .u64 a0_2,.int .u64 a0_3] 25 (0,0)) (by (with_reducible repeat (first|apply bN|apply bD|apply bA));exact BK228.out) hb);have n1_:=aK (below_step (by repeat (first|(with_reducible first|exact HB.out|apply aA|apply aW|apply aD|refine aS ?_ GE228.out)|exact HB.out)) hb);have n2_:=aK (hbox);have n3_:=aK ((by rw [hg];exact (below_size (by repeat (first|(with_reducible first|exact HB.out|apply aA|apply aW|apply aD|refine aS ?_ GE228.out)|exact HB.out))) : w.heap.size ≤ gb229));have n4_:=aK ((by rw [hg];exact (below_size (by repeat (first|(with_reducible first|exact HB.out|apply aA|apply aW|apply aD|refine aS ?_ GE228.out)|exact HB.out))) : w.heap.size ≤ gb229));have n5_:=aK ((by rw [hg];exact Nat.ne_of_lt (blk_lt (g:=gb228) (o:=.cells #[.slice A0_0 l0_0.length c0_0,.int .u64 a0_1,.int .u64 a0_2,.int .u64 a0_3] 25 (0,0)) (by (with_reducible repeat (first|apply bN|apply bD|apply bA));exact BK228.out)) : gb228 ≠ gb229));have n6_:=aK ((by rw [hg];exact Nat.ne_of_gt (blk_lt (g:=gb228) (o:=.cells #[.slice A0_0 l0_0.length c0_0,.int .u64 a0_1,.int .u64 a0_2,.int .u64 a0_3] 25 (0,0)) (by (with_reducible repeat (first|apply bN|apply bD|apply bA));exact BK228.out)) : gb229 ≠ gb228));clear BK228;clear HB;have BK228:=n0_;have HB:=n1_;have BK229:=n2_;have GW229:=n3_;have GE229:=n4_;have NB228_229:=n5_;have NB229_228:=n6_;clear n0_ n1_ n2_ n3_ n4_ n5_ n6_;clear hb hbox hg));go_upto_region 1 with (first|((with_reducible refine gate_dst (N:=2) rfl ?_);refine box_event ?hg (N:=2) ?hd (cs:=#[.slice A0_0 l0_0.length c0_0,.int .u64 a0_1,.int .u64 a0_2,.int .u64 a0_3]) (t:=25) ?hr ?_;(case hd => rfl);(case hg => rfl);(case hr => first|(go_simp;done)|(go_simp;rfl));intro gb228 hg w4 hbox hb;have n0_:=aK (below_step (by repeat (first|(with_reducible first|exact HB.out|apply aA|apply aW|apply aD)|exact HB.out)) hb);have n1_:=aK (hbox);have n2_:=aK ((by rw [hg];exact (below_size (by repeat (first|(with_reducible first|exact HB.out|apply aA|apply aW|apply aD)|exact HB.out))) : w.heap.size ≤ gb228));have n3_:=aK ((by rw [hg];exact (below_size (by repeat (first|(with_reducible first|exact HB.out|apply aA|apply aW|apply aD)|exact HB.out))) : w.heap.size ≤ gb228));clear HB;have HB:=n0_;have BK228:=n1_;have GW228:=n2_;have GE228:=n3_;clear n0_ n1_ n2_ n3_;clear hb hbox hg)|((with_reducible refine gate_dst (N:=3) rfl ?_);refine box_event ?hg (N:=3) ?hd (cs:=#[.slice A1_0 l1_0.length c1_0,.int .u64 a1_1,.int .u64 a1_2,.int .u64 a1_3]) (t:=25) ?hr ?_;(case hd => rfl);(case hg => rfl);(case hr => first|(go_simp;done)|(go_simp;rfl));intro gb229 hg w5 hbox hb;have n0_:=aK (blk_below (g:=gb228) (o:=.cells #[.slice A0_0 l0_0.length c0_0,.int .u64 a0_1,.int .u64 a0_2,.int .u64 a0_3] 25 (0,0)) (by (with_reducible repeat (first|apply bN|apply bD|apply bA));exact BK228.out) hb);have n1_:=aK (below_step (by repeat (first|(with_reducible first|exact HB.out|apply aA|apply aW|apply aD|refine aS ?_ GE228.out)|exact HB.out)) hb);have n2_:=aK (hbox);have n3_:=aK ((by rw [hg];exact (below_size (by repeat (first|(with_reducible first|exact HB.out|apply aA|apply aW|apply aD|refine aS ?_ GE228.out)|exact HB.out))) : w.heap.size ≤ gb229));have n4_:=aK ((by rw [hg];exact (below_size (by repeat (first|(with_reducible first|exact HB.out|apply aA|apply aW|apply aD|refine aS ?_ GE228.out)|exact HB.out))) : w.heap.size ≤ gb229));have n5_:=aK ((by rw [hg];exact Nat.ne_of_lt (blk_lt (g:=gb228) (o:=.cells #[.slice A0_0 l0_0.length c0_0,.int .u64 a0_1,.int .u64 a0_2,.int .u64 a0_3] 25 (0,0)) (by (with_reducible repeat (first|apply bN|apply bD|apply bA));exact BK228.out)) : gb228 ≠ gb229));have n6_:=aK ((by rw [hg];exact Nat.ne_of_gt (blk_lt (g:=gb228) (o:=.cells #[.slice A0_0 l0_0.length c0_0,.int .u64 a0_1,.int .u64 a0_2,.int .u64 a0_3] 25 (0,0)) (by (with_reducible repeat (first|apply bN|apply bD|apply bA));exact BK228.out)) : gb229 ≠ gb228));clear BK228;clear HB;have BK228:=n0_;have HB:=n1_;have BK229:=n2_;have GW229:=n3_;have GE229:=n4_;have NB228_229:=n5_;have NB229_228:=n6_;clear n0_ n1_ n2_ n3_ n4_ n5_ n6_;clear hb hbox hg)))
 (try simp only [Act.put,sA,sZ,sS])
 go_cut [33] (fun v33 wc => ∃ (kq : Nat) (x33_2 : Bool),v33 = .bool x33_2 ∧ Aside0 (ratlineref09_Same.j0 kq x33_2 l0_0 a0_1 a0_2 a0_3 l1_0 a1_1 a1_2 a1_3 = some r) ∧ Aside0 (kq ≤ k) ∧ Aside0 (wc.heap[gb228]? = some (.cells #[(.slice A0_0 l0_0.length c0_0),.int .u64 a0_1,.int .u64 a0_2,.int .u64 a0_3] 25 (0,0))) ∧ Aside0 (wc.heap[gb229]? = some (.cells #[(.slice A1_0 l1_0.length c1_0),.int .u64 a1_1,.int .u64 a1_2,.int .u64 a1_3] 25 (0,0))) ∧ Aside0 (Below w.heap.size w wc))
 case first =>
  have H:=HC3.out
  clear HC3
  by_cases c6 : (l0_0.length : Int) = (l1_0.length : Int)
  ·rw [if_pos c6] at H
   have c6b0 : ((l0_0.length : Int) == (l1_0.length : Int)) = true:=beq_iff_eq.mpr c6
   have c6b1 : ((l0_0.length : Int) != (l1_0.length : Int)) = false:=bne_eq_false_iff_eq.mpr c6
   have c6b2 : (l0_0.length == l1_0.length) = true:=by first|simpa using c6|(simp at c6 ⊢;omega)
   clear c6
   (first|rw [c6b0]|(simp only [i64_w,i32_w];rw [c6b0])|skip)
   by_cases c7 : a0_1 = a1_1
   ·rw [if_pos c7] at H
    have c7b0 : (a0_1 == a1_1) = true:=beq_iff_eq.mpr c7
    have c7b1 : (a0_1 != a1_1) = false:=bne_eq_false_iff_eq.mpr c7
    clear c7
    by_cases c8 : a0_2 = a1_2
    ·rw [if_pos c8] at H
     have c8b0 : (a0_2 == a1_2) = true:=beq_iff_eq.mpr c8
     have c8b1 : (a0_2 != a1_2) = false:=bne_eq_false_iff_eq.mpr c8
     clear c8
     have H':=aK H
     clear H
     have hnb9:=NB228_229.out
     have hnc9:=NB229_228.out
     have hcz10_0 : w5.cell? ⟨gb228,0,none⟩ = some (.slice A0_0 l0_0.length c0_0):=(aC BK228.out 0).trans rfl
     have hcz10_1 : w5.cell? ⟨gb228,1,none⟩ = some (.int .u64 a0_1):=(aC BK228.out 1).trans rfl
     have hcz10_2 : w5.cell? ⟨gb228,2,none⟩ = some (.int .u64 a0_2):=(aC BK228.out 2).trans rfl
     have hcz10_3 : w5.cell? ⟨gb228,3,none⟩ = some (.int .u64 a0_3):=(aC BK228.out 3).trans rfl
     have hfz10_0:=aF BK228.out 0
     have hfz10_1:=aF BK228.out 1
     have hfz10_2:=aF BK228.out 2
     have hfz10_3:=aF BK228.out 3
     have hcz11_0 : w5.cell? ⟨gb229,0,none⟩ = some (.slice A1_0 l1_0.length c1_0):=(aC BK229.out 0).trans rfl
     have hcz11_1 : w5.cell? ⟨gb229,1,none⟩ = some (.int .u64 a1_1):=(aC BK229.out 1).trans rfl
     have hcz11_2 : w5.cell? ⟨gb229,2,none⟩ = some (.int .u64 a1_2):=(aC BK229.out 2).trans rfl
     have hcz11_3 : w5.cell? ⟨gb229,3,none⟩ = some (.int .u64 a1_3):=(aC BK229.out 3).trans rfl
     have hfz11_0:=aF BK229.out 0
     have hfz11_1:=aF BK229.out 1
     have hfz11_2:=aF BK229.out 2
     have hfz11_3:=aF BK229.out 3
     go_wp2
     repeat (go_quiet (fail);try go_wp2)
     go_meet
     case rel => exact ⟨_,((a0_3 != a1_3)),(by first|rfl|(simp;done)|(simp [*];done)),H',⟨by first|omega|exact Nat.le_refl _⟩,⟨by (with_reducible repeat (first|apply bN|apply bD|apply bA));exact BK228.out⟩,⟨by (with_reducible repeat (first|apply bN|apply bD|apply bA));exact BK229.out⟩,⟨by repeat (first|(with_reducible first|exact HB.out|apply aA|apply aW|apply aD|refine aS ?_ GE228.out|refine aS ?_ GE229.out)|exact HB.out)⟩⟩
    ·rw [if_neg c8] at H
     have c8b0 : (a0_2 == a1_2) = false:=beq_eq_false_iff_ne.mpr c8
     have c8b1 : (a0_2 != a1_2) = true:=bne_iff_ne.mpr c8
     have H':=aK H
     clear H
     have hnb12:=NB228_229.out
     have hnc12:=NB229_228.out
     have hcz13_0 : w5.cell? ⟨gb228,0,none⟩ = some (.slice A0_0 l0_0.length c0_0):=(aC BK228.out 0).trans rfl
     have hcz13_1 : w5.cell? ⟨gb228,1,none⟩ = some (.int .u64 a0_1):=(aC BK228.out 1).trans rfl
     have hcz13_2 : w5.cell? ⟨gb228,2,none⟩ = some (.int .u64 a0_2):=(aC BK228.out 2).trans rfl
     have hcz13_3 : w5.cell? ⟨gb228,3,none⟩ = some (.int .u64 a0_3):=(aC BK228.out 3).trans rfl
     have hfz13_0:=aF BK228.out 0
     have hfz13_1:=aF BK228.out 1
     have hfz13_2:=aF BK228.out 2
     have hfz13_3:=aF BK228.out 3
     have hcz14_0 : w5.cell? ⟨gb229,0,none⟩ = some (.slice A1_0 l1_0.length c1_0):=(aC BK229.out 0).trans rfl
     have hcz14_1 : w5.cell? ⟨gb229,1,none⟩ = some (.int .u64 a1_1):=(aC BK229.out 1).trans rfl
     have hcz14_2 : w5.cell? ⟨gb229,2,none⟩ = some (.int .u64 a1_2):=(aC BK229.out 2).trans rfl
     have hcz14_3 : w5.cell? ⟨gb229,3,none⟩ = some (.int .u64 a1_3):=(aC BK229.out 3).trans rfl
     have hfz14_0:=aF BK229.out 0
     have hfz14_1:=aF BK229.out 1
     have hfz14_2:=aF BK229.out 2
     have hfz14_3:=aF BK229.out 3
     go_wp2
     repeat (go_quiet (fail);try go_wp2)
     go_meet
     case rel => exact ⟨_,(true),(by first|rfl|(simp;done)|(simp [*];done)),H',⟨by first|omega|exact Nat.le_refl _⟩,⟨by (with_reducible repeat (first|apply bN|apply bD|apply bA));exact BK228.out⟩,⟨by (with_reducible repeat (first|apply bN|apply bD|apply bA));exact BK229.out⟩,⟨by repeat (first|(with_reducible first|exact HB.out|apply aA|apply aW|apply aD|refine aS ?_ GE228.out|refine aS ?_ GE229.out)|exact HB.out)⟩⟩
   ·rw [if_neg c7] at H
    have c7b0 : (a0_1 == a1_1) = false:=beq_eq_false_iff_ne.mpr c7
    have c7b1 : (a0_1 != a1_1) = true:=bne_iff_ne.mpr c7
    have H':=aK H
    clear H
    have hnb15:=NB228_229.out
    have hnc15:=NB229_228.out
    have hcz16_0 : w5.cell? ⟨gb228,0,none⟩ = some (.slice A0_0 l0_0.length c0_0):=(aC BK228.out 0).trans rfl
    have hcz16_1 : w5.cell? ⟨gb228,1,none⟩ = some (.int .u64 a0_1):=(aC BK228.out 1).trans rfl
    have hcz16_2 : w5.cell? ⟨gb228,2,none⟩ = some (.int .u64 a0_2):=(aC BK228.out 2).trans rfl
    have hcz16_3 : w5.cell? ⟨gb228,3,none⟩ = some (.int .u64 a0_3):=(aC BK228.out 3).trans rfl
    have hfz16_0:=aF BK228.out 0
    have hfz16_1:=aF BK228.out 1
    have hfz16_2:=aF BK228.out 2
    have hfz16_3:=aF BK228.out 3
    have hcz17_0 : w5.cell? ⟨gb229,0,none⟩ = some (.slice A1_0 l1_0.length c1_0):=(aC BK229.out 0).trans rfl
    have hcz17_1 : w5.cell? ⟨gb229,1,none⟩ = some (.int .u64 a1_1):=(aC BK229.out 1).trans rfl
    have hcz17_2 : w5.cell? ⟨gb229,2,none⟩ = some (.int .u64 a1_2):=(aC BK229.out 2).trans rfl
    have hcz17_3 : w5.cell? ⟨gb229,3,none⟩ = some (.int .u64 a1_3):=(aC BK229.out 3).trans rfl
    have hfz17_0:=aF BK229.out 0
    have hfz17_1:=aF BK229.out 1
    have hfz17_2:=aF BK229.out 2
    have hfz17_3:=aF BK229.out 3
    go_wp2
    repeat (go_quiet (fail);try go_wp2)
    go_meet
    case rel => exact ⟨_,(true),(by first|rfl|(simp;done)|(simp [*];done)),H',⟨by first|omega|exact Nat.le_refl _⟩,⟨by (with_reducible repeat (first|apply bN|apply bD|apply bA));exact BK228.out⟩,⟨by (with_reducible repeat (first|apply bN|apply bD|apply bA));exact BK229.out⟩,⟨by repeat (first|(with_reducible first|exact HB.out|apply aA|apply aW|apply aD|refine aS ?_ GE228.out|refine aS ?_ GE229.out)|exact HB.out)⟩⟩
  ·rw [if_neg c6] at H
   have c6b0 : ((l0_0.length : Int) == (l1_0.length : Int)) = false:=beq_eq_false_iff_ne.mpr c6
   have c6b1 : ((l0_0.length : Int) != (l1_0.length : Int)) = true:=bne_iff_ne.mpr c6
   have c6b2 : (l0_0.length == l1_0.length) = false:=by first|simpa using c6|(simp at c6 ⊢;omega)
   (first|rw [c6b0]|(simp only [i64_w,i32_w];rw [c6b0])|skip)
   have H':=aK H
   clear H
   have hnb18:=NB228_229.out
   have hnc18:=NB229_228.out
   have hcz19_0 : w5.cell? ⟨gb228,0,none⟩ = some (.slice A0_0 l0_0.length c0_0):=(aC BK228.out 0).trans rfl
   have hcz19_1 : w5.cell? ⟨gb228,1,none⟩ = some (.int .u64 a0_1):=(aC BK228.out 1).trans rfl
   have hcz19_2 : w5.cell? ⟨gb228,2,none⟩ = some (.int .u64 a0_2):=(aC BK228.out 2).trans rfl
   have hcz19_3 : w5.cell? ⟨gb228,3,none⟩ = some (.int .u64 a0_3):=(aC BK228.out 3).trans rfl
   have hfz19_0:=aF BK228.out 0
   have hfz19_1:=aF BK228.out 1
   have hfz19_2:=aF BK228.out 2
   have hfz19_3:=aF BK228.out 3
   have hcz20_0 : w5.cell? ⟨gb229,0,none⟩ = some (.slice A1_0 l1_0.length c1_0):=(aC BK229.out 0).trans rfl
   have hcz20_1 : w5.cell? ⟨gb229,1,none⟩ = some (.int .u64 a1_1):=(aC BK229.out 1).trans rfl
   have hcz20_2 : w5.cell? ⟨gb229,2,none⟩ = some (.int .u64 a1_2):=(aC BK229.out 2).trans rfl
   have hcz20_3 : w5.cell? ⟨gb229,3,none⟩ = some (.int .u64 a1_3):=(aC BK229.out 3).trans rfl
   have hfz20_0:=aF BK229.out 0
   have hfz20_1:=aF BK229.out 1
   have hfz20_2:=aF BK229.out 2
   have hfz20_3:=aF BK229.out 3
   go_wp2
   repeat (go_quiet (fail);try go_wp2)
   go_meet
   case rel => exact ⟨_,(true),(by first|rfl|(simp;done)|(simp [*];done)),H',⟨by first|omega|exact Nat.le_refl _⟩,⟨by (with_reducible repeat (first|apply bN|apply bD|apply bA));exact BK228.out⟩,⟨by (with_reducible repeat (first|apply bN|apply bD|apply bA));exact BK229.out⟩,⟨by repeat (first|(with_reducible first|exact HB.out|apply aA|apply aW|apply aD|refine aS ?_ GE228.out|refine aS ?_ GE229.out)|exact HB.out)⟩⟩
 case rest =>
  clear HC3
  try clear c1
  try clear c2
  try clear p2
  try clear c6
  try clear c6b0
  try clear c6b1
  try clear c6b2
  try clear c7
  try clear c7b0
  try clear c7b1
  try clear c8
  try clear c8b0
  try clear c8b1
  try clear c9
  try clear c12
  try clear c15
  try clear c18
  try clear c20
  try clear hcz10_0
  try clear hcz10_1
  try clear hcz10_2
  try clear hcz10_3
  try clear hcz11_0
  try clear hcz11_1
  try clear hcz11_2
  try clear hcz11_3
  try clear hcz13_0
  try clear hcz13_1
  try clear hcz13_2
  try clear hcz13_3
  try clear hcz14_0
  try clear hcz14_1
  try clear hcz14_2
  try clear hcz14_3
  try clear hcz16_0
  try clear hcz16_1
  try clear hcz16_2
  try clear hcz16_3
  try clear hcz17_0
  try clear hcz17_1
  try clear hcz17_2
  try clear hcz17_3
  try clear hcz19_0
  try clear hcz19_1
  try clear hcz19_2
  try clear hcz19_3
  try clear hcz20_0
  try clear hcz20_1
  try clear hcz20_2
  try clear hcz20_3
  try clear hfz10_0
  try clear hfz10_1
  try clear hfz10_2
  try clear hfz10_3
  try clear hfz11_0
  try clear hfz11_1
  try clear hfz11_2
  try clear hfz11_3
  try clear hfz13_0
  try clear hfz13_1
  try clear hfz13_2
  try clear hfz13_3
  try clear hfz14_0
  try clear hfz14_1
  try clear hfz14_2
  try clear hfz14_3
  try clear hfz16_0
  try clear hfz16_1
  try clear hfz16_2
  try clear hfz16_3
  try clear hfz17_0
  try clear hfz17_1
  try clear hfz17_2
  try clear hfz17_3
  try clear hfz19_0
  try clear hfz19_1
  try clear hfz19_2
  try clear hfz19_3
  try clear hfz20_0
  try clear hfz20_1
  try clear hfz20_2
  try clear hfz20_3
  obtain ⟨kq,x33_2,rfl,HA,HJ2,BK228,BK229,HB⟩:=hcut
  cases kq with
  | zero => exact absurd HA.out (by simp [ratlineref09_Same.j0])
  | succ kj2 =>
   have H:=HA.out
   clear HA
   simp only [ratlineref09_Same.j0] at H
   by_cases c21 : x33_2 = true
   ·subst c21
    have H1 : (some false) = some r:=by rw [if_pos rfl] at H;exact H
    clear H
    have H:=H1
    clear H1
    obtain rfl:=Option.some.inj H
    go_wp2
    repeat (go_quiet (fail);try go_wp2)
    go_ret
    exact ⟨by first|rfl|(simp [errW_none,errW_some] <;> rfl)|(simp [*,errW_none,errW_some] <;> rfl),by repeat (first|(with_reducible first|exact HB.out|apply aA|apply aW|apply aD|refine aS ?_ GE228.out|refine aS ?_ GE229.out)|exact HB.out)⟩
   ·replace c21:=Bool.eq_false_iff.mpr c21
    subst c21
    have H1 : (ratlineref09_Same.l0 kj2 0 l0_0 a0_1 a0_2 a0_3 l1_0 a1_1 a1_2 a1_3) = some r:=by rw [if_neg (show ¬ (false = true) by decide)] at H;exact H
    clear H
    have H:=H1
    clear H1
    have H':=aK H
    clear H
    go_wp2
    repeat (go_quiet (fail);try go_wp2)
    go_loopg [5] kj2 (fun kq v5 w' => ∃ (x5_2 : Int),v5 = .int .i64 x5_2 ∧ Aside0 (ratlineref09_Same.l0 kq x5_2 l0_0 a0_1 a0_2 a0_3 l1_0 a1_1 a1_2 a1_3 = some r) ∧ Aside0 (kq ≤ kj2) ∧ Aside0 (w'.heap[gb228]? = some (.cells #[(.slice A0_0 l0_0.length c0_0),.int .u64 a0_1,.int .u64 a0_2,.int .u64 a0_3] 25 (0,0))) ∧ Aside0 (w'.heap[gb229]? = some (.cells #[(.slice A1_0 l1_0.length c1_0),.int .u64 a1_1,.int .u64 a1_2,.int .u64 a1_3] 25 (0,0))) ∧ Aside0 (Below w.heap.size w w'))
    case atStart => exact ⟨(0),(by first|rfl|(simp;done)|(simp [*];done)),H',⟨Nat.le_refl _⟩,⟨by (with_reducible repeat (first|apply bN|apply bD|apply bA));exact BK228.out⟩,⟨by (with_reducible repeat (first|apply bN|apply bD|apply bA));exact BK229.out⟩,⟨by repeat (first|(with_reducible first|exact HB.out|apply aA|apply aW|apply aD|refine aS ?_ GE228.out|refine aS ?_ GE229.out)|exact HB.out)⟩⟩
    case round =>
     clear H'
     try clear c1
     try clear c2
     try clear p2
     try clear c6
     try clear c6b0
     try clear c6b1
     try clear c6b2
     try clear c7
     try clear c7b0
     try clear c7b1
     try clear c8
     try clear c8b0
     try clear c8b1
     try clear c9
     try clear c12
     try clear c15
     try clear c18
     try clear c20
     try clear c21
     try clear hcz10_0
     try clear hcz10_1
     try clear hcz10_2
     try clear hcz10_3
     try clear hcz11_0
     try clear hcz11_1
     try clear hcz11_2
     try clear hcz11_3
     try clear hcz13_0
     try clear hcz13_1
     try clear hcz13_2
     try clear hcz13_3
     try clear hcz14_0
     try clear hcz14_1
     try clear hcz14_2
     try clear hcz14_3
     try clear hcz16_0
     try clear hcz16_1
     try clear hcz16_2
     try clear hcz16_3
     try clear hcz17_0
     try clear hcz17_1
     try clear hcz17_2
     try clear hcz17_3
     try clear hcz19_0
     try clear hcz19_1
     try clear hcz19_2
     try clear hcz19_3
     try clear hcz20_0
     try clear hcz20_1
     try clear hcz20_2
     try clear hcz20_3
     try clear hfz10_0
     try clear hfz10_1
     try clear hfz10_2
     try clear hfz10_3
     try clear hfz11_0
     try clear hfz11_1
     try clear hfz11_2
     try clear hfz11_3
     try clear hfz13_0
     try clear hfz13_1
     try clear hfz13_2
     try clear hfz13_3
     try clear hfz14_0
     try clear hfz14_1
     try clear hfz14_2
     try clear hfz14_3
     try clear hfz16_0
     try clear hfz16_1
     try clear hfz16_2
     try clear hfz16_3
     try clear hfz17_0
     try clear hfz17_1
     try clear hfz17_2
     try clear hfz17_3
     try clear hfz19_0
     try clear hfz19_1
     try clear hfz19_2
     try clear hfz19_3
     try clear hfz20_0
     try clear hfz20_1
     try clear hfz20_2
     try clear hfz20_3
     try clear p2
     obtain ⟨x5_2,rfl,HA,HK2,BK228,BK229,HB⟩:=hrel
     cases gk with
     | zero => exact absurd HA.out (by simp [ratlineref09_Same.l0])
     | succ k2 =>
      have H:=HA.out
      clear HA
      simp only [ratlineref09_Same.l0] at H
      by_cases c22 : x5_2 < (l0_0.length : Int)
      ·rw [if_pos c22] at H
       have c22b0 : decide (x5_2 < (l0_0.length : Int)) = true:=decide_eq_true c22
       clear c22
       by_cases c23 : 0 ≤ x5_2
       rotate_left
       ·rw [if_neg c23] at H
        exact absurd H (by simp)
       rw [if_pos c23] at H
       have c23b0 : decide (0 ≤ x5_2) = true:=decide_eq_true c23
       clear c23
       by_cases c24 : x5_2 < (l1_0.length : Int)
       rotate_left
       ·rw [if_neg c24] at H
        exact absurd H (by simp)
       rw [if_pos c24] at H
       have c24b0 : decide (x5_2 < (l1_0.length : Int)) = true:=decide_eq_true c24
       clear c24
       by_cases c25 : (!(((rd_T58 l0_0 x5_2).f0) == ((rd_T58 l1_0 x5_2).f0)) || (!(((rd_T58 l0_0 x5_2).f1) == ((rd_T58 l1_0 x5_2).f1)) || (!((((rd_T58 l0_0 x5_2).f2).toList) == (((rd_T58 l1_0 x5_2).f2).toList)) || (!((((rd_T58 l0_0 x5_2).f3).toList) == (((rd_T58 l1_0 x5_2).f3).toList)))))) = true
       ·rw [if_pos c25] at H
        have c25b0 : (!(((rd_T58 l0_0 x5_2).f0) == ((rd_T58 l1_0 x5_2).f0)) || (!(((rd_T58 l0_0 x5_2).f1) == ((rd_T58 l1_0 x5_2).f1)) || (!((((rd_T58 l0_0 x5_2).f2).toList) == (((rd_T58 l1_0 x5_2).f2).toList)) || (!((((rd_T58 l0_0 x5_2).f3).toList) == (((rd_T58 l1_0 x5_2).f3).toList)))))) = true:=c25
        clear c25
        obtain rfl:=Option.some.inj H
        have hnb26:=NB228_229.out
        have hnc26:=NB229_228.out
        have hcz27_0 : wr.cell? ⟨gb228,0,none⟩ = some (.slice A0_0 l0_0.length c0_0):=(aC BK228.out 0).trans rfl
        have hcz27_1 : wr.cell? ⟨gb228,1,none⟩ = some (.int .u64 a0_1):=(aC BK228.out 1).trans rfl
        have hcz27_2 : wr.cell? ⟨gb228,2,none⟩ = some (.int .u64 a0_2):=(aC BK228.out 2).trans rfl
        have hcz27_3 : wr.cell? ⟨gb228,3,none⟩ = some (.int .u64 a0_3):=(aC BK228.out 3).trans rfl
        have hfz27_0:=aF BK228.out 0
        have hfz27_1:=aF BK228.out 1
        have hfz27_2:=aF BK228.out 2
        have hfz27_3:=aF BK228.out 3
        have p230 : 0 ≤ (x5_2 : Int):=of_decide_eq_true (by first|(with_reducible assumption)|assumption)
        have q230 : x5_2 < (l0_0.length : Int):=of_decide_eq_true (by first|(with_reducible assumption)|assumption)
        obtain ⟨ad230,e230,hx230_0,hx230_1,hx230_2,hx230_3⟩:=at_T58 HR0_0.out x5_2 p230 q230
        cases e230
        replace hx230_0:=(HB.out.cell (World.block_lt_of_cell? w _ hx230_0)).trans hx230_0
        replace hx230_1:=(HB.out.cell (World.block_lt_of_cell? w _ hx230_1)).trans hx230_1
        replace hx230_2:=(HB.out.cell (World.block_lt_of_cell? w _ hx230_2)).trans hx230_2
        replace hx230_3:=(HB.out.cell (World.block_lt_of_cell? w _ hx230_3)).trans hx230_3
        replace p230:=eq_true p230
        replace q230:=eq_true q230
        have hcz28_0 : wr.cell? ⟨gb229,0,none⟩ = some (.slice A1_0 l1_0.length c1_0):=(aC BK229.out 0).trans rfl
        have hcz28_1 : wr.cell? ⟨gb229,1,none⟩ = some (.int .u64 a1_1):=(aC BK229.out 1).trans rfl
        have hcz28_2 : wr.cell? ⟨gb229,2,none⟩ = some (.int .u64 a1_2):=(aC BK229.out 2).trans rfl
        have hcz28_3 : wr.cell? ⟨gb229,3,none⟩ = some (.int .u64 a1_3):=(aC BK229.out 3).trans rfl
        have hfz28_0:=aF BK229.out 0
        have hfz28_1:=aF BK229.out 1
        have hfz28_2:=aF BK229.out 2
        have hfz28_3:=aF BK229.out 3
        have p231 : 0 ≤ (x5_2 : Int):=of_decide_eq_true (by first|(with_reducible assumption)|assumption)
        have q231 : x5_2 < (l1_0.length : Int):=of_decide_eq_true (by first|(with_reducible assumption)|assumption)
        obtain ⟨ad231,e231,hx231_0,hx231_1,hx231_2,hx231_3⟩:=at_T58 HR1_0.out x5_2 p231 q231
        cases e231
        replace hx231_0:=(HB.out.cell (World.block_lt_of_cell? w _ hx231_0)).trans hx231_0
        replace hx231_1:=(HB.out.cell (World.block_lt_of_cell? w _ hx231_1)).trans hx231_1
        replace hx231_2:=(HB.out.cell (World.block_lt_of_cell? w _ hx231_2)).trans hx231_2
        replace hx231_3:=(HB.out.cell (World.block_lt_of_cell? w _ hx231_3)).trans hx231_3
        replace p231:=eq_true p231
        replace q231:=eq_true q231
        go_wp2
        repeat (go_quiet (fail);try go_wp2)
        go_ret
        exact ⟨by first|rfl|(simp [errW_none,errW_some] <;> rfl)|(simp [*,errW_none,errW_some] <;> rfl),by repeat (first|(with_reducible first|exact HB.out|apply aA|apply aW|apply aD|refine aS ?_ GE228.out|refine aS ?_ GE229.out)|exact HB.out)⟩
       ·rw [if_neg c25] at H
        have c25b0 : (!(((rd_T58 l0_0 x5_2).f0) == ((rd_T58 l1_0 x5_2).f0)) || (!(((rd_T58 l0_0 x5_2).f1) == ((rd_T58 l1_0 x5_2).f1)) || (!((((rd_T58 l0_0 x5_2).f2).toList) == (((rd_T58 l1_0 x5_2).f2).toList)) || (!((((rd_T58 l0_0 x5_2).f3).toList) == (((rd_T58 l1_0 x5_2).f3).toList)))))) = false:=by simpa using c25
        clear c25
        have H':=aK H
        clear H
        have hnb29:=NB228_229.out
        have hnc29:=NB229_228.out
        have hcz30_0 : wr.cell? ⟨gb228,0,none⟩ = some (.slice A0_0 l0_0.length c0_0):=(aC BK228.out 0).trans rfl
        have hcz30_1 : wr.cell? ⟨gb228,1,none⟩ = some (.int .u64 a0_1):=(aC BK228.out 1).trans rfl
        have hcz30_2 : wr.cell? ⟨gb228,2,none⟩ = some (.int .u64 a0_2):=(aC BK228.out 2).trans rfl
        have hcz30_3 : wr.cell? ⟨gb228,3,none⟩ = some (.int .u64 a0_3):=(aC BK228.out 3).trans rfl
        have hfz30_0:=aF BK228.out 0
        have hfz30_1:=aF BK228.out 1
        have hfz30_2:=aF BK228.out 2
        have hfz30_3:=aF BK228.out 3
        have p230 : 0 ≤ (x5_2 : Int):=of_decide_eq_true (by first|(with_reducible assumption)|assumption)
        have q230 : x5_2 < (l0_0.length : Int):=of_decide_eq_true (by first|(with_reducible assumption)|assumption)
        obtain ⟨ad230,e230,hx230_0,hx230_1,hx230_2,hx230_3⟩:=at_T58 HR0_0.out x5_2 p230 q230
        cases e230
        replace hx230_0:=(HB.out.cell (World.block_lt_of_cell? w _ hx230_0)).trans hx230_0
        replace hx230_1:=(HB.out.cell (World.block_lt_of_cell? w _ hx230_1)).trans hx230_1
        replace hx230_2:=(HB.out.cell (World.block_lt_of_cell? w _ hx230_2)).trans hx230_2
        replace hx230_3:=(HB.out.cell (World.block_lt_of_cell? w _ hx230_3)).trans hx230_3
        replace p230:=eq_true p230
        replace q230:=eq_true q230
        have hcz31_0 : wr.cell? ⟨gb229,0,none⟩ = some (.slice A1_0 l1_0.length c1_0):=(aC BK229.out 0).trans rfl
        have hcz31_1 : wr.cell? ⟨gb229,1,none⟩ = some (.int .u64 a1_1):=(aC BK229.out 1).trans rfl
        have hcz31_2 : wr.cell? ⟨gb229,2,none⟩ = some (.int .u64 a1_2):=(aC BK229.out 2).trans rfl
        have hcz31_3 : wr.cell? ⟨gb229,3,none⟩ = some (.int .u64 a1_3):=(aC BK229.out 3).trans rfl
        have hfz31_0:=aF BK229.out 0
        have hfz31_1:=aF BK229.out 1
        have hfz31_2:=aF BK229.out 2
        have hfz31_3:=aF BK229.out 3
        have p231 : 0 ≤ (x5_2 : Int):=of_decide_eq_true (by first|(with_reducible assumption)|assumption)
        have q231 : x5_2 < (l1_0.length : Int):=of_decide_eq_true (by first|(with_reducible assumption)|assumption)
        obtain ⟨ad231,e231,hx231_0,hx231_1,hx231_2,hx231_3⟩:=at_T58 HR1_0.out x5_2 p231 q231
        cases e231
        replace hx231_0:=(HB.out.cell (World.block_lt_of_cell? w _ hx231_0)).trans hx231_0
        replace hx231_1:=(HB.out.cell (World.block_lt_of_cell? w _ hx231_1)).trans hx231_1
        replace hx231_2:=(HB.out.cell (World.block_lt_of_cell? w _ hx231_2)).trans hx231_2
        replace hx231_3:=(HB.out.cell (World.block_lt_of_cell? w _ hx231_3)).trans hx231_3
        replace p231:=eq_true p231
        replace q231:=eq_true q231
        go_wp2
        repeat (go_quiet (fail);try go_wp2)
        go_roundg k2
        case measure => have:=HJ2.out;have:=HK2.out;omega
        case rel => exact ⟨(wrap64 (x5_2 + 1)),(by first|rfl|(simp;done)|(simp [*];done)),H',⟨by have:=HJ2.out;have:=HK2.out;omega⟩,⟨by (with_reducible repeat (first|apply bN|apply bD|apply bA));exact BK228.out⟩,⟨by (with_reducible repeat (first|apply bN|apply bD|apply bA));exact BK229.out⟩,⟨by repeat (first|(with_reducible first|exact HB.out|apply aA|apply aW|apply aD|refine aS ?_ GE228.out|refine aS ?_ GE229.out)|exact HB.out)⟩⟩
      ·rw [if_neg c22] at H
       have c22b0 : decide (x5_2 < (l0_0.length : Int)) = false:=decide_eq_false c22
       clear c22
       obtain rfl:=Option.some.inj H
       have hnb32:=NB228_229.out
       have hnc32:=NB229_228.out
       have hcz33_0 : wr.cell? ⟨gb228,0,none⟩ = some (.slice A0_0 l0_0.length c0_0):=(aC BK228.out 0).trans rfl
       have hcz33_1 : wr.cell? ⟨gb228,1,none⟩ = some (.int .u64 a0_1):=(aC BK228.out 1).trans rfl
       have hcz33_2 : wr.cell? ⟨gb228,2,none⟩ = some (.int .u64 a0_2):=(aC BK228.out 2).trans rfl
       have hcz33_3 : wr.cell? ⟨gb228,3,none⟩ = some (.int .u64 a0_3):=(aC BK228.out 3).trans rfl
       have hfz33_0:=aF BK228.out 0
       have hfz33_1:=aF BK228.out 1
       have hfz33_2:=aF BK228.out 2
       have hfz33_3:=aF BK228.out 3
       go_wp2
       repeat (go_quiet (fail);try go_wp2)
       go_ret
       exact ⟨by first|rfl|(simp [errW_none,errW_some] <;> rfl)|(simp [*,errW_none,errW_some] <;> rfl),by repeat (first|(with_reducible first|exact HB.out|apply aA|apply aW|apply aD|refine aS ?_ GE228.out|refine aS ?_ GE229.out)|exact HB.out)⟩

end Go.Proofs.Ytcagajobpnpicaa.P

end

section
namespace Go.Proofs.Ytcagajobpnpicaa.P
open Go.RowKit Go.Proofs.YtcagajobpnpicaaG Go.Proofs.YtcagajobpnpicaaW.PrintWords Go.Proofs.YtcagajobpnpicaaW.PrintLast Go.Proofs.YtcagajobpnpicaaW.PrintMore
attribute [local go_sem] str_gtr str_geq str_leq max2_int min2_int max_two min_two max_three min_three max_four min_four   -- for this text's walks alone
set_option linter.unusedVariables false
set_option linter.unusedSimpArgs false

def ratlinelaw09_Versions.f (k : Nat) (l0_0 : List (S58)) (a0_1 : Int) (a0_2 : Int) (a0_3 : Int) (l1_0 : List (S58)) (a1_1 : Int) (a1_2 : Int) (a1_3 : Int) : Option (Bool):=(ratlineref09_Whole.f l0_0 a0_1 a0_2 a0_3).bind fun bt234 => ((ratlineref09_Whole.f l1_0 a1_1 a1_2 a1_3).bind fun bt240 => ((ratlineref09_Same.f k bt234.1 bt234.2.1 bt234.2.2.1 bt234.2.2.2 bt240.1 bt240.2.1 bt240.2.2.1 bt240.2.2.2).bind fun t246 => (some t246)))
set_option maxHeartbeats 8000000 in
set_option maxRecDepth 100000 in
theorem ratlinelaw09_Versions.calls (k : Nat) (A0_0 : Option Addr) (c0_0 : Nat) (l0_0 : List (S58)) (a0_1 : Int) (a0_2 : Int) (a0_3 : Int) (A1_0 : Option Addr) (c1_0 : Nat) (l1_0 : List (S58)) (a1_1 : Int) (a1_2 : Int) (a1_3 : Int) (r : Bool) (w : World) (hr0_0 : Kd.C k58 w A0_0 l0_0.length l0_0) (hc0_0 : l0_0.length ≤ c0_0) (hr1_0 : Kd.C k58 w A1_0 l1_0.length l1_0) (hc1_0 : l1_0.length ≤ c1_0) (h : ratlinelaw09_Versions.f k l0_0 a0_1 a0_2 a0_3 l1_0 a1_1 a1_2 a1_3 = some r) :
  Calls Try.prog 22 #[.agg #[.slice A0_0 l0_0.length c0_0,.int .u64 a0_1,.int .u64 a0_2,.int .u64 a0_3],.agg #[.slice A1_0 l1_0.length c1_0,.int .u64 a1_1,.int .u64 a1_2,.int .u64 a1_3]] w fun e w' => e = .returned (.bool r) ∧ Below w.heap.size w w':=by
 have hu28:=Try.underlying28
 have HR0_0:=Aside0.mk hr0_0
 have HC0_0:=Aside0.mk hc0_0
 clear hr0_0 hc0_0
 have HR1_0:=Aside0.mk hr1_0
 have HC1_0:=Aside0.mk hc1_0
 clear hr1_0 hc1_0
 have HB:=Aside0.mk (Below.refl w.heap.size w)
 have H : ((ratlineref09_Whole.f l0_0 a0_1 a0_2 a0_3).bind fun bt234 => ((ratlineref09_Whole.f l1_0 a1_1 a1_2 a1_3).bind fun bt240 => ((ratlineref09_Same.f k bt234.1 bt234.2.1 bt234.2.2.1 bt234.2.2.2 bt240.1 bt240.2.1 bt240.2.2.1 bt240.2.2.2).bind fun t246 => (some t246)))) = some r:=h
 clear h
 replace H:=Option.bind_eq_some_iff.mp H
 obtain ⟨⟨t234,t237,t238,t239⟩,A30,H⟩:=H
 replace H : ((ratlineref09_Whole.f l1_0 a1_1 a1_2 a1_3).bind fun bt240 => ((ratlineref09_Same.f k t234 t237 t238 t239 bt240.1 bt240.2.1 bt240.2.2.1 bt240.2.2.2).bind fun t246 => (some t246))) = some r:=H
 have A3:=Aside0.mk A30
 clear A30
 replace H:=Option.bind_eq_some_iff.mp H
 obtain ⟨⟨t240,t243,t244,t245⟩,A40,H⟩:=H
 replace H : ((ratlineref09_Same.f k t234 t237 t238 t239 t240 t243 t244 t245).bind fun t246 => (some t246)) = some r:=H
 have A4:=Aside0.mk A40
 clear A40
 replace H:=Option.bind_eq_some_iff.mp H
 obtain ⟨t246,A50,H⟩:=H
 replace H : (some t246) = some r:=H
 have A5:=Aside0.mk A50
 clear A50
 obtain rfl:=Option.some.inj H
 go_enter Try.func22,Try.ntmps22
 try go_wp2_with (first|((with_reducible refine gate_dst (N:=2) rfl ?_);refine box_event ?hg (N:=2) ?hd (cs:=#[.slice A0_0 l0_0.length c0_0,.int .u64 a0_1,.int .u64 a0_2,.int .u64 a0_3]) (t:=28) ?hr ?_;(case hd => rfl);(case hg => rfl);(case hr => first|(go_simp;done)|(go_simp;rfl));intro gb232 hg w6 hbox hb;have n0_:=Aside0.mk (below_step (by repeat (first|(with_reducible first|exact HB.out|apply below_alloc|apply pw_below_drewN|apply below_drew1)|exact HB.out)) hb);have n1_:=Aside0.mk (hbox);have n2_:=Aside0.mk ((by rw [hg];exact (below_size (by repeat (first|(with_reducible first|exact HB.out|apply below_alloc|apply pw_below_drewN|apply below_drew1)|exact HB.out))) : w.heap.size ≤ gb232));have n3_:=Aside0.mk ((by rw [hg];exact (below_size (by repeat (first|(with_reducible first|exact HB.out|apply below_alloc|apply pw_below_drewN|apply below_drew1)|exact HB.out))) : w.heap.size ≤ gb232));clear HB;have HB:=n0_;have BK232:=n1_;have GW232:=n2_;have GE232:=n3_;clear n0_ n1_ n2_ n3_;clear hb hbox hg)|((with_reducible refine gate_dst (N:=3) rfl ?_);refine box_event ?hg (N:=3) ?hd (cs:=#[.slice A1_0 l1_0.length c1_0,.int .u64 a1_1,.int .u64 a1_2,.int .u64 a1_3]) (t:=28) ?hr ?_;(case hd => rfl);(case hg => rfl);(case hr => first|(go_simp;done)|(go_simp;rfl));intro gb233 hg w7 hbox hb;have n0_:=Aside0.mk (blk_below (g:=gb232) (o:=.cells #[.slice A0_0 l0_0.length c0_0,.int .u64 a0_1,.int .u64 a0_2,.int .u64 a0_3] 28 (0,0)) (by (with_reducible repeat (first|refine bN ?_ _|refine bD ?_|refine bA ?_ _));exact BK232.out) hb);have n1_:=Aside0.mk (below_step (by repeat (first|(with_reducible first|exact HB.out|apply below_alloc|apply pw_below_drewN|apply below_drew1|refine below_set ?_ GE232.out)|exact HB.out)) hb);have n2_:=Aside0.mk (hbox);have n3_:=Aside0.mk ((by rw [hg];exact (below_size (by repeat (first|(with_reducible first|exact HB.out|apply below_alloc|apply pw_below_drewN|apply below_drew1|refine below_set ?_ GE232.out)|exact HB.out))) : w.heap.size ≤ gb233));have n4_:=Aside0.mk ((by rw [hg];exact (below_size (by repeat (first|(with_reducible first|exact HB.out|apply below_alloc|apply pw_below_drewN|apply below_drew1|refine below_set ?_ GE232.out)|exact HB.out))) : w.heap.size ≤ gb233));have n5_:=Aside0.mk ((by rw [hg];exact Nat.ne_of_lt (blk_lt (g:=gb232) (o:=.cells #[.slice A0_0 l0_0.length c0_0,.int .u64 a0_1,.int .u64 a0_2,.int .u64 a0_3] 28 (0,0)) (by (with_reducible repeat (first|refine bN ?_ _|refine bD ?_|refine bA ?_ _));exact BK232.out)) : gb232 ≠ gb233));have n6_:=Aside0.mk ((by rw [hg];exact Nat.ne_of_gt (blk_lt (g:=gb232) (o:=.cells #[.slice A0_0 l0_0.length c0_0,.int .u64 a0_1,.int .u64 a0_2,.int .u64 a0_3] 28 (0,0)) (by (with_reducible repeat (first|refine bN ?_ _|refine bD ?_|refine bA ?_ _));exact BK232.out)) : gb233 ≠ gb232));clear BK232;clear HB;have BK232:=n0_;have HB:=n1_;have BK233:=n2_;have GW233:=n3_;have GE233:=n4_;have NB232_233:=n5_;have NB233_232:=n6_;clear n0_ n1_ n2_ n3_ n4_ n5_ n6_;clear hb hbox hg))
 have n0_:=Aside0.mk (blk_drew BK232.out)
 have n1_:=Aside0.mk (blk_drew BK233.out)
 have n2_:=Aside0.mk (below_drew1 HB.out)
 clear BK232
 clear BK233
 clear HB
 have BK232:=n0_
 have BK233:=n1_
 have HB:=n2_
 clear n0_ n1_ n2_
 refine start_ (n:=6) (S:=fun w' => w'.cell? ⟨gb232,0,none⟩ = some (.slice A0_0 l0_0.length c0_0) ∧ w'.cell? ⟨gb232,1,none⟩ = some (.int .u64 a0_1) ∧ w'.cell? ⟨gb232,2,none⟩ = some (.int .u64 a0_2) ∧ w'.cell? ⟨gb232,3,none⟩ = some (.int .u64 a0_3) ∧ w'.cell? ⟨gb233,0,none⟩ = some (.slice A1_0 l1_0.length c1_0) ∧ w'.cell? ⟨gb233,1,none⟩ = some (.int .u64 a1_1) ∧ w'.cell? ⟨gb233,2,none⟩ = some (.int .u64 a1_2) ∧ w'.cell? ⟨gb233,3,none⟩ = some (.int .u64 a1_3)) (ds:=[]) #[ff,ff,ff,ff,ff,ff] (by kernel_rfl) rfl rfl ⟨(blk_cell BK232.out 0).trans rfl,(blk_cell BK232.out 1).trans rfl,(blk_cell BK232.out 2).trans rfl,(blk_cell BK232.out 3).trans rfl,(blk_cell BK233.out 0).trans rfl,(blk_cell BK233.out 1).trans rfl,(blk_cell BK233.out 2).trans rfl,(blk_cell BK233.out 3).trans rfl⟩ (fun hHeld => ?_)
 generalize w7.drew = w8 at BK232 BK233 HB hHeld ⊢
 refine take_ (i:=0) (N:=some 5) (v:=?_) (a':=?_) #[tt,ff,ff,ff,ff,ff] rfl rfl (by kernel_rfl) (fun _ _ _ h => h) (Or.inl ⟨by rfl,?_⟩) hHeld ?_ ?_
 rotate_left
 ·rintro w' ⟨s0,s1,s2,s3,s4,s5,s6,s7⟩
  go_simp
  with_reducible rfl
 rotate_left
 ·simp only [Act.put,sA,sZ,sS,i64_w,i32_w]
  rfl
 refine take_ (i:=2) (N:=some 7) (v:=?_) (a':=?_) #[tt,ff,tt,ff,ff,ff] rfl rfl (by kernel_rfl) (fun _ _ _ h => h) (Or.inl ⟨by rfl,?_⟩) hHeld ?_ ?_
 rotate_left
 ·rintro w' ⟨s0,s1,s2,s3,s4,s5,s6,s7⟩
  go_simp
  with_reducible rfl
 rotate_left
 ·simp only [Act.put,sA,sZ,sS,i64_w,i32_w]
  rfl
 refine one_ (i:=1) (N:=some 6) #[tt,tt,tt,ff,ff,ff] rfl rfl (by kernel_rfl) (by decide) (fun K hK => ?_)
 refine goes_ Try.func9 (by kernel_rfl) rfl #[.agg #[.slice A0_0 l0_0.length c0_0,.int .u64 a0_1,.int .u64 a0_2,.int .u64 a0_3]] (by rfl) rfl rfl (by (try simp only [List.map_toArray,List.map_cons,List.map_nil]);first|done|rfl|(simp only [List.length_drop,List.length_take];rfl)) ?_
 with_reducible refine (ratlineref09_Whole.calls _ _ l0_0 a0_1 a0_2 a0_3 t234 t237 t238 t239 _ ?side1 ?side2 A3.out).mono ?_
 (case side1 => repeat (first|exact (Kd.C_below HR0_0.out HB.out)|(with_reducible refine Kd.C_alloc ?_ _)|(with_reducible refine Kd.C_drewN ?_ _)|(with_reducible refine Kd.C_drew ?_)))
 (case side2 => exact HC0_0.out)
 rintro e w9 ⟨v235,rfl,ho0,hb⟩
 refine ⟨_,rfl,?_⟩
 have n0_:=Aside0.mk (Kd.R_lower ho0 (below_size (by repeat (first|(with_reducible first|exact HB.out|apply below_alloc|apply pw_below_drewN|apply below_drew1|refine below_set ?_ GE232.out|refine below_set ?_ GE233.out)|exact HB.out))))
 have n1_:=Aside0.mk (blk_below (g:=gb232) (o:=.cells #[.slice A0_0 l0_0.length c0_0,.int .u64 a0_1,.int .u64 a0_2,.int .u64 a0_3] 28 (0,0)) (by (with_reducible repeat (first|refine bN ?_ _|refine bD ?_|refine bA ?_ _));exact BK232.out) hb)
 have n2_:=Aside0.mk (blk_below (g:=gb233) (o:=.cells #[.slice A1_0 l1_0.length c1_0,.int .u64 a1_1,.int .u64 a1_2,.int .u64 a1_3] 28 (0,0)) (by (with_reducible repeat (first|refine bN ?_ _|refine bD ?_|refine bA ?_ _));exact BK233.out) hb)
 have n3_:=Aside0.mk (below_step (by repeat (first|(with_reducible first|exact HB.out|apply below_alloc|apply pw_below_drewN|apply below_drew1|refine below_set ?_ GE232.out|refine below_set ?_ GE233.out)|exact HB.out)) hb)
 clear BK232
 clear BK233
 clear HB
 have HO236:=n0_
 have BK232:=n1_
 have BK233:=n2_
 have HB:=n3_
 clear n0_ n1_ n2_ n3_
 (try clear hb)
 (try clear hb2)
 (try clear hk)
 (try clear hi)
 (try clear ho0)
 refine hK.out _ _ ⟨(blk_cell BK232.out 0).trans rfl,(blk_cell BK232.out 1).trans rfl,(blk_cell BK232.out 2).trans rfl,(blk_cell BK232.out 3).trans rfl,(blk_cell BK233.out 0).trans rfl,(blk_cell BK233.out 1).trans rfl,(blk_cell BK233.out 2).trans rfl,(blk_cell BK233.out 3).trans rfl⟩ (fun hHeld => ?_)
 clear hK K
 refine norm_ (a':=?_) ?_ ?_
 rotate_left
 ·show Act.put _ (some 6) _ = _
  simp only [Act.put,sA,sZ,sS,i64_w,i32_w]
  rfl
 refine one_ (i:=3) (N:=some 8) #[tt,tt,tt,tt,ff,ff] rfl rfl (by kernel_rfl) (by decide) (fun K hK => ?_)
 refine goes_ Try.func9 (by kernel_rfl) rfl #[.agg #[.slice A1_0 l1_0.length c1_0,.int .u64 a1_1,.int .u64 a1_2,.int .u64 a1_3]] (by rfl) rfl rfl (by (try simp only [List.map_toArray,List.map_cons,List.map_nil]);first|done|rfl|(simp only [List.length_drop,List.length_take];rfl)) ?_
 with_reducible refine (ratlineref09_Whole.calls _ _ l1_0 a1_1 a1_2 a1_3 t240 t243 t244 t245 _ ?side1 ?side2 A4.out).mono ?_
 (case side1 => repeat (first|exact (Kd.C_below HR1_0.out HB.out)|(with_reducible refine Kd.C_alloc ?_ _)|(with_reducible refine Kd.C_drewN ?_ _)|(with_reducible refine Kd.C_drew ?_)))
 (case side2 => exact HC1_0.out)
 rintro e w10 ⟨v241,rfl,ho0,hb⟩
 refine ⟨_,rfl,?_⟩
 have n0_:=Aside0.mk (Kd.R_elder' (by (with_reducible repeat (first|apply zA|apply zN|apply zD));exact HO236.out) (Kd.R_base ho0) hb)
 have n1_:=Aside0.mk (Kd.R_lower (Kd.R_new' ho0 (Kd.R_lt (by (with_reducible repeat (first|apply zA|apply zN|apply zD));exact HO236.out))) (below_size (by repeat (first|(with_reducible first|exact HB.out|apply below_alloc|apply pw_below_drewN|apply below_drew1|refine below_set ?_ GE232.out|refine below_set ?_ GE233.out)|exact HB.out))))
 have n2_:=Aside0.mk (blk_below (g:=gb232) (o:=.cells #[.slice A0_0 l0_0.length c0_0,.int .u64 a0_1,.int .u64 a0_2,.int .u64 a0_3] 28 (0,0)) (by (with_reducible repeat (first|refine bN ?_ _|refine bD ?_|refine bA ?_ _));exact BK232.out) hb)
 have n3_:=Aside0.mk (blk_below (g:=gb233) (o:=.cells #[.slice A1_0 l1_0.length c1_0,.int .u64 a1_1,.int .u64 a1_2,.int .u64 a1_3] 28 (0,0)) (by (with_reducible repeat (first|refine bN ?_ _|refine bD ?_|refine bA ?_ _));exact BK233.out) hb)
 have n4_:=Aside0.mk (below_step (by repeat (first|(with_reducible first|exact HB.out|apply below_alloc|apply pw_below_drewN|apply below_drew1|refine below_set ?_ GE232.out|refine below_set ?_ GE233.out)|exact HB.out)) hb)
 clear HO236
 clear BK232
 clear BK233
 clear HB
 have HO236:=n0_
 have HO242:=n1_
 have BK232:=n2_
 have BK233:=n3_
 have HB:=n4_
 clear n0_ n1_ n2_ n3_ n4_
 (try clear hb)
 (try clear hb2)
 (try clear hk)
 (try clear hi)
 (try clear ho0)
 obtain ⟨Ao11,co11,eo11⟩:=Kd.R_slice HO236.out
 (first|subst eo11|(injection eo11 with f1_ f2_ f3_;have f4_:=f1_.symm;have f5_:=f3_.symm;clear f1_ f2_ f3_;subst f4_;subst f5_))
 obtain ⟨Ao12,co12,eo12⟩:=Kd.R_slice HO242.out
 (first|subst eo12|(injection eo12 with f1_ f2_ f3_;have f4_:=f1_.symm;have f5_:=f3_.symm;clear f1_ f2_ f3_;subst f4_;subst f5_))
 refine hK.out _ _ ⟨(blk_cell BK232.out 0).trans rfl,(blk_cell BK232.out 1).trans rfl,(blk_cell BK232.out 2).trans rfl,(blk_cell BK232.out 3).trans rfl,(blk_cell BK233.out 0).trans rfl,(blk_cell BK233.out 1).trans rfl,(blk_cell BK233.out 2).trans rfl,(blk_cell BK233.out 3).trans rfl⟩ (fun hHeld => ?_)
 clear hK K
 refine norm_ (a':=?_) ?_ ?_
 rotate_left
 ·show Act.put _ (some 8) _ = _
  simp only [Act.put,sA,sZ,sS,i64_w,i32_w]
  rfl
 refine one_ (i:=4) (N:=some 9) #[tt,tt,tt,tt,tt,ff] rfl rfl (by kernel_rfl) (by decide) (fun K hK => ?_)
 refine goes_ Try.func20 (by kernel_rfl) rfl #[.agg #[.slice Ao11 t234.length co11,.int .u64 t237,.int .u64 t238,.int .u64 t239],.agg #[.slice Ao12 t240.length co12,.int .u64 t243,.int .u64 t244,.int .u64 t245]] (by rfl) rfl rfl (by (try simp only [List.map_toArray,List.map_cons,List.map_nil]);first|done|rfl|(simp only [List.length_drop,List.length_take];rfl)) ?_
 with_reducible refine (ratlineref09_Same.calls k _ _ t234 t237 t238 t239 _ _ t240 t243 t244 t245 t246 _ ?side1 ?side2 ?side3 ?side4 A5.out).mono ?_
 (case side1 => repeat (first|exact (Kd.R_reads' HO236.out).2.2|(with_reducible refine Kd.C_alloc ?_ _)|(with_reducible refine Kd.C_drewN ?_ _)|(with_reducible refine Kd.C_drew ?_)))
 (case side2 => exact (Kd.R_reads' HO236.out).2.1)
 (case side3 => repeat (first|exact (Kd.R_reads' HO242.out).2.2|(with_reducible refine Kd.C_alloc ?_ _)|(with_reducible refine Kd.C_drewN ?_ _)|(with_reducible refine Kd.C_drew ?_)))
 (case side4 => exact (Kd.R_reads' HO242.out).2.1)
 rintro e w13 ⟨rfl,hb⟩
 refine ⟨_,rfl,?_⟩
 have n0_:=Aside0.mk (Kd.R_below (by (with_reducible repeat (first|apply zA|apply zN|apply zD));exact HO236.out) hb)
 have n1_:=Aside0.mk (Kd.R_below (by (with_reducible repeat (first|apply zA|apply zN|apply zD));exact HO242.out) hb)
 have n2_:=Aside0.mk (blk_below (g:=gb232) (o:=.cells #[.slice A0_0 l0_0.length c0_0,.int .u64 a0_1,.int .u64 a0_2,.int .u64 a0_3] 28 (0,0)) (by (with_reducible repeat (first|refine bN ?_ _|refine bD ?_|refine bA ?_ _));exact BK232.out) hb)
 have n3_:=Aside0.mk (blk_below (g:=gb233) (o:=.cells #[.slice A1_0 l1_0.length c1_0,.int .u64 a1_1,.int .u64 a1_2,.int .u64 a1_3] 28 (0,0)) (by (with_reducible repeat (first|refine bN ?_ _|refine bD ?_|refine bA ?_ _));exact BK233.out) hb)
 have n4_:=Aside0.mk (below_step (by repeat (first|(with_reducible first|exact HB.out|apply below_alloc|apply pw_below_drewN|apply below_drew1|refine below_set ?_ GE232.out|refine below_set ?_ GE233.out)|exact HB.out)) hb)
 clear HO236
 clear HO242
 clear BK232
 clear BK233
 clear HB
 have HO236:=n0_
 have HO242:=n1_
 have BK232:=n2_
 have BK233:=n3_
 have HB:=n4_
 clear n0_ n1_ n2_ n3_ n4_
 (try clear hb)
 (try clear hb2)
 (try clear hk)
 (try clear hi)
 refine hK.out _ _ ⟨(blk_cell BK232.out 0).trans rfl,(blk_cell BK232.out 1).trans rfl,(blk_cell BK232.out 2).trans rfl,(blk_cell BK232.out 3).trans rfl,(blk_cell BK233.out 0).trans rfl,(blk_cell BK233.out 1).trans rfl,(blk_cell BK233.out 2).trans rfl,(blk_cell BK233.out 3).trans rfl⟩ (fun hHeld => ?_)
 clear hK K
 refine norm_ (a':=?_) ?_ ?_
 rotate_left
 ·show Act.put _ (some 9) _ = _
  simp only [Act.put,sA,sZ,sS,i64_w,i32_w]
  rfl
 refine pure_ (i:=5) (N:=some 4) (v:=?_) (a':=?_) #[tt,tt,tt,tt,tt,tt] rfl rfl (by kernel_rfl) (fun _ _ _ h => h) (Or.inl ⟨by rfl,?_⟩) ?_ ?_
 rotate_left
 ·intro w'
  go_simp
  with_reducible rfl
 rotate_left
 ·simp only [Act.put,sA,sZ,sS,i64_w,i32_w]
  rfl
 refine done_ (by kernel_rfl) ?_
 try go_wp2
 go_ret
 exact ⟨by first|rfl|(simp [errW_none,errW_some] <;> rfl)|(simp [*,errW_none,errW_some] <;> rfl),by repeat (first|(with_reducible first|exact HB.out|apply below_alloc|apply pw_below_drewN|apply below_drew1|refine below_set ?_ GE232.out|refine below_set ?_ GE233.out)|exact HB.out)⟩

end Go.Proofs.Ytcagajobpnpicaa.P

end

section
set_option linter.unusedVariables false
set_option linter.unusedSimpArgs false
namespace Go.Proofs.YtcagajobpnpicaaG
open Go Go.RowKit Go.Proofs.YtcagajobpnpicaaR Go.Proofs.Ytcagajobpnpicaa.P Go.Proofs.YtcagajobpnpicaaW.PrintWords
attribute [local go_sem] Oper.semAt_some
theorem R_lit0 {α : Type} (d : Kd α) (W : World) (e : TypeId) (ok : Nat → Prop) (hok : ok W.heap.size) : d.R e (W.alloc (.cells #[] e)) W.heap.size ok (.slice (some ⟨W.heap.size,0,none⟩) 0 0) ([] : List α):=by
 refine ⟨fun k hk=>?_,[],?_,⟨by simp,fun j p hj=>by simp at hj⟩⟩
 ·have : W.heap.size = k:=by simpa [Value.ownBlock] using hk
  rw [← this]
  exact hok
 ·have h2:=World.ownsRow_lit (base:=W.heap.size) (e:=e) (size:=d.sz) W #[] 0 (Nat.le_refl _) (by simp) (by simp)
  simpa using h2
def api_Meta_38.f (l0 : List S58) : Option (List S58):=if l0.length < 2932031007402 then some l0 else none
set_option maxHeartbeats 1000000 in
theorem clone_calls (A0 : Option Addr) (c0 : Nat) (l0 : List S58) (w : World) (hr0 : Kd.C k58 w A0 l0.length l0) (hc0 : l0.length ≤ c0) (hl : l0.length < 2932031007402) :
  Calls Try.prog 38 #[.slice A0 l0.length c0] w fun e w'=>∃ v0_ : Value,e = .returned (v0_) ∧ Kd.R k58 58 w' w.heap.size (fun _=>True) v0_ l0 ∧ Below w.heap.size w w':=by
 have HR0:=Aside0.mk hr0
 have HC0:=Aside0.mk hc0
 have HL:=Aside0.mk hl
 clear hr0 hc0 hl
 have hnil:=fun W=>Lib.run_eql_slice_nil (P:=Try.prog) W 22 58 A0 l0.length c0 0 0 Try.underlying22
 cases A0 with
 | none =>
  have hz : l0 = []:=by
   cases l0 with
   | nil=>rfl
   | cons x xs =>
    obtain ⟨ad,e,_⟩:=HR0.out.2.2 (by simp)
    cases e
  subst hz
  have hnil0:=fun W=>Lib.run_eql_slice_nil (P:=Try.prog) W 22 58 none 0 c0 0 0 Try.underlying22
  clear hnil
  go_enter Try.func38,Try.ntmps38
  go_wp2
  go_ret
  exact ⟨_,rfl,Kd.R_nil _ _ _ _ _,Below.refl _ _⟩
 | some ad =>
  have HE : Aside0 (Kd.R k58 58 (w.alloc (.cells #[] 58)) w.heap.size (fun _=>True) (.slice (some ⟨w.heap.size,0,none⟩) 0 0) ([] : List S58)):=⟨R_lit0 _ w _ _ trivial⟩
  go_enter Try.func38,Try.ntmps38
  go_wp2_with (first|((with_reducible refine gate_builtin (b:=.append) (xs:=#[.tmp 5,.tmp 6]) rfl ?_);at_builtin;refine Kd.R_append_rows k58 (w0:=w) w.heap.size rfl (.tmp 5) (.tmp 6) 22 58 (.agg #[.int .u64 0,.int .u64 0,.string ⟨#[]⟩,.string ⟨#[]⟩]) 48 rfl Try.underlying22 info58 rfl (by decide) (by decide) (.slice (some ⟨w.heap.size,0,none⟩) 0 0) ([] : List S58) l0 _ _ _ (fun _=>True) (fun _=>False) rfl rfl ?aO ?aR (fun _ _ h=>h) (fun _ h=>h.elim) ?aF ?aB ?aS ?aL ?_;(case aR=>exact Kd.C_alloc HR0.out _);(case aB=>exact (Below.refl _ _).alloc (Nat.le_refl _) _);(case aF=>exact (fun _ _=>trivial));(case aO=>exact HE.out);(case aS=>exact by simp);(case aL=>have:=HL.out;simp;omega);intro v1 w1 ho hb hg hat;have HO:=Aside0.mk ho;have HB:=Aside0.mk hb;clear ho hb hg hat))
  go_ret
  exact ⟨_,rfl,HO.out,HB.out⟩
theorem api_Meta_38.calls (A0 : Option Addr) (c0 : Nat) (l0 : List S58) (r : List S58) (w : World) (hr0 : Kd.C k58 w A0 l0.length l0) (hc0 : l0.length ≤ c0) (h : api_Meta_38.f l0 = some r) :
  Calls Try.prog 38 #[.slice A0 l0.length c0] w fun e w'=>∃ v0_ : Value,e = .returned (v0_) ∧ Kd.R k58 58 w' w.heap.size (fun _=>True) v0_ r ∧ Below w.heap.size w w':=by
 unfold api_Meta_38.f at h
 by_cases hc : l0.length < 2932031007402
 ·rw [if_pos hc] at h
  obtain rfl:=Option.some.inj h
  exact clone_calls A0 c0 l0 w hr0 hc0 hc
 ·rw [if_neg hc] at h
  cases h
end Go.Proofs.YtcagajobpnpicaaG

end

section
namespace Go.Proofs.Ytcagajobpnpicaa.P
open Go.RowKit Go.Proofs.YtcagajobpnpicaaG Go.Proofs.YtcagajobpnpicaaW.PrintWords Go.Proofs.YtcagajobpnpicaaW.PrintLast Go.Proofs.YtcagajobpnpicaaW.PrintMore
attribute [local go_sem] str_gtr str_geq str_leq max2_int min2_int max_two min_two max_three min_three max_four min_four   -- for this text's walks alone
set_option linter.unusedVariables false
set_option linter.unusedSimpArgs false

def edit_Whole.f (l0_0 : List (S58)) (a0_1 : Int) (a0_2 : Int) (a0_3 : Int) : Option ((List (S58)) × Int × Int × Int):=(api_Meta_38.f l0_0).bind fun t249 => (some (t249,a0_1,a0_2,a0_3))
def edit_Whole.T1 : Bool × List (List Nat × List Nat):=(true,[([],[]),([0],[0]),([1],[1]),([],[]),([3],[3]),([],[]),([5],[5]),([],[]),([7],[7]),([2,4,6,8],[2,4,6,8]),([9,2,0,1,2,3,4,5,6,7,8,9],[9])])
def edit_Whole.B1 : List Nat:=[0,1,3,0,8,0,32,0,128,511,1023]
theorem edit_Whole.tab1 : rtab .any (opsOf Try.f23 1) = edit_Whole.T1:=by kernel_rfl
theorem edit_Whole.bits1 : waitsOk edit_Whole.T1.2 edit_Whole.B1 = true:=by kernel_rfl
set_option maxHeartbeats 8000000 in
set_option maxRecDepth 100000 in
theorem edit_Whole.calls (A0_0 : Option Addr) (c0_0 : Nat) (l0_0 : List (S58)) (a0_1 : Int) (a0_2 : Int) (a0_3 : Int) (r1 : List (S58)) (r2 : Int) (r3 : Int) (r4 : Int) (w : World) (hr0_0 : Kd.C k58 w A0_0 l0_0.length l0_0) (hc0_0 : l0_0.length ≤ c0_0) (h : edit_Whole.f l0_0 a0_1 a0_2 a0_3 = some (r1,r2,r3,r4)) :
  Calls Try.prog 23 #[.agg #[.slice A0_0 l0_0.length c0_0,.int .u64 a0_1,.int .u64 a0_2,.int .u64 a0_3]] w fun e w' => ∃ v0_ : Value,e = .returned (.agg #[v0_,.int .u64 r2,.int .u64 r3,.int .u64 r4]) ∧ Kd.R k58 58 w' w.heap.size (fun _ => True) v0_ r1 ∧ Below w.heap.size w w':=by
 have hu28:=Try.underlying28
 have hu25:=Try.underlying25
 have HR0_0:=Aside0.mk hr0_0
 have HC0_0:=Aside0.mk hc0_0
 clear hr0_0 hc0_0
 have HB:=Aside0.mk (Below.refl w.heap.size w)
 have H : ((api_Meta_38.f l0_0).bind fun t249 => (some (t249,a0_1,a0_2,a0_3))) = some (r1,r2,r3,r4):=h
 clear h
 replace H:=Option.bind_eq_some_iff.mp H
 obtain ⟨t249,A20,H⟩:=H
 replace H : (some (t249,a0_1,a0_2,a0_3)) = some (r1,r2,r3,r4):=H
 have A2:=Aside0.mk A20
 clear A20
 simp only [Option.some.injEq,Prod.mk.injEq] at H
 obtain ⟨rfl,rfl,rfl,rfl⟩:=H
 go_enter Try.func23,Try.ntmps23
 try go_wp2_with (first|((with_reducible refine gate_dst (N:=1) rfl ?_);refine box_event ?hg (N:=1) ?hd (cs:=#[.slice A0_0 l0_0.length c0_0,.int .u64 a0_1,.int .u64 a0_2,.int .u64 a0_3]) (t:=28) ?hr ?_;(case hd => rfl);(case hg => rfl);(case hr => first|(go_simp;done)|(go_simp;rfl));intro gb247 hg w3 hbox hb;have n0_:=Aside0.mk (below_step (by repeat (first|(with_reducible first|exact HB.out|apply below_alloc|apply pw_below_drewN|apply below_drew1)|exact HB.out)) hb);have n1_:=Aside0.mk (hbox);have n2_:=Aside0.mk ((by rw [hg];exact (below_size (by repeat (first|(with_reducible first|exact HB.out|apply below_alloc|apply pw_below_drewN|apply below_drew1)|exact HB.out))) : w.heap.size ≤ gb247));have n3_:=Aside0.mk ((by rw [hg];exact (below_size (by repeat (first|(with_reducible first|exact HB.out|apply below_alloc|apply pw_below_drewN|apply below_drew1)|exact HB.out))) : w.heap.size ≤ gb247));clear HB;have HB:=n0_;have BK247:=n1_;have GW247:=n2_;have GE247:=n3_;clear n0_ n1_ n2_ n3_;clear hb hbox hg)|((with_reducible refine gate_dst (N:=2) rfl ?_);refine box_event ?hg (N:=2) ?hd (cs:=#[.slice none 0 0,.int .u64 0,.int .u64 0,.int .u64 0]) (t:=25) ?hr ?_;(case hd => rfl);(case hg => rfl);(case hr => first|(go_simp;done)|(go_simp;rfl));intro gb248 hg w4 hbox hb;have n0_:=Aside0.mk (blk_below (g:=gb247) (o:=.cells #[.slice A0_0 l0_0.length c0_0,.int .u64 a0_1,.int .u64 a0_2,.int .u64 a0_3] 28 (0,0)) (by (with_reducible repeat (first|refine bN ?_ _|refine bD ?_|refine bA ?_ _));exact BK247.out) hb);have n1_:=Aside0.mk (below_step (by repeat (first|(with_reducible first|exact HB.out|apply below_alloc|apply pw_below_drewN|apply below_drew1|refine below_set ?_ GE247.out)|exact HB.out)) hb);have n2_:=Aside0.mk (hbox);have n3_:=Aside0.mk ((by rw [hg];exact (below_size (by repeat (first|(with_reducible first|exact HB.out|apply below_alloc|apply pw_below_drewN|apply below_drew1|refine below_set ?_ GE247.out)|exact HB.out))) : w.heap.size ≤ gb248));have n4_:=Aside0.mk ((by rw [hg];exact (below_size (by repeat (first|(with_reducible first|exact HB.out|apply below_alloc|apply pw_below_drewN|apply below_drew1|refine below_set ?_ GE247.out)|exact HB.out))) : w.heap.size ≤ gb248));have n5_:=Aside0.mk ((by rw [hg];exact Nat.ne_of_lt (blk_lt (g:=gb247) (o:=.cells #[.slice A0_0 l0_0.length c0_0,.int .u64 a0_1,.int .u64 a0_2,.int .u64 a0_3] 28 (0,0)) (by (with_reducible repeat (first|refine bN ?_ _|refine bD ?_|refine bA ?_ _));exact BK247.out)) : gb247 ≠ gb248));have n6_:=Aside0.mk ((by rw [hg];exact Nat.ne_of_gt (blk_lt (g:=gb247) (o:=.cells #[.slice A0_0 l0_0.length c0_0,.int .u64 a0_1,.int .u64 a0_2,.int .u64 a0_3] 28 (0,0)) (by (with_reducible repeat (first|refine bN ?_ _|refine bD ?_|refine bA ?_ _));exact BK247.out)) : gb248 ≠ gb247));clear BK247;clear HB;have BK247:=n0_;have HB:=n1_;have BK248:=n2_;have GW248:=n3_;have GE248:=n4_;have NB247_248:=n5_;have NB248_247:=n6_;clear n0_ n1_ n2_ n3_ n4_ n5_ n6_;clear hb hbox hg))
 have n0_:=Aside0.mk (blk_drew BK247.out)
 have n1_:=Aside0.mk (blk_drew BK248.out)
 have n2_:=Aside0.mk (below_drew1 HB.out)
 clear BK247
 clear BK248
 clear HB
 have BK247:=n0_
 have BK248:=n1_
 have HB:=n2_
 clear n0_ n1_ n2_
 refine start_ (n:=11) (S:=fun w' => w'.cell? ⟨gb247,0,none⟩ = some (.slice A0_0 l0_0.length c0_0) ∧ w'.cell? ⟨gb247,1,none⟩ = some (.int .u64 a0_1) ∧ w'.cell? ⟨gb247,2,none⟩ = some (.int .u64 a0_2) ∧ w'.cell? ⟨gb247,3,none⟩ = some (.int .u64 a0_3)) (ds:=[]) #[ff,ff,ff,ff,ff,ff,ff,ff,ff,ff,ff] (by kernel_rfl) rfl rfl ⟨(blk_cell BK247.out 0).trans rfl,(blk_cell BK247.out 1).trans rfl,(blk_cell BK247.out 2).trans rfl,(blk_cell BK247.out 3).trans rfl⟩ (fun hHeld => ?_);refine with_tabW edit_Whole.tab1 edit_Whole.bits1 (fun HT_ HW_ => ?_)
 generalize w4.drew = w5 at BK247 BK248 HB hHeld ⊢
 refine pure_ (i:=0) (N:=some 3) (v:=?_) (a':=?_) #[tt,ff,ff,ff,ff,ff,ff,ff,ff,ff,ff] rfl rfl (any_of HT_.out (by kernel_rfl)) (fun _ _ _ h => h) (Or.inl ⟨by rfl,?_⟩) ?_ ?_
 rotate_left
 ·intro w'
  go_simp
  with_reducible rfl
 rotate_left
 ·simp only [Act.put,sA,sZ,sS,i64_w,i32_w]
  rfl
 refine pure_ (i:=3) (N:=some 6) (v:=?_) (a':=?_) #[tt,ff,ff,tt,ff,ff,ff,ff,ff,ff,ff] rfl rfl (any_of HT_.out (by kernel_rfl)) (fun _ _ _ h => h) (Or.inl ⟨by rfl,?_⟩) ?_ ?_
 rotate_left
 ·intro w'
  go_simp
  with_reducible rfl
 rotate_left
 ·simp only [Act.put,sA,sZ,sS,i64_w,i32_w]
  rfl
 refine pure_ (i:=5) (N:=some 8) (v:=?_) (a':=?_) #[tt,ff,ff,tt,ff,tt,ff,ff,ff,ff,ff] rfl rfl (any_of HT_.out (by kernel_rfl)) (fun _ _ _ h => h) (Or.inl ⟨by rfl,?_⟩) ?_ ?_
 rotate_left
 ·intro w'
  go_simp
  with_reducible rfl
 rotate_left
 ·simp only [Act.put,sA,sZ,sS,i64_w,i32_w]
  rfl
 refine pure_ (i:=7) (N:=some 10) (v:=?_) (a':=?_) #[tt,ff,ff,tt,ff,tt,ff,tt,ff,ff,ff] rfl rfl (any_of HT_.out (by kernel_rfl)) (fun _ _ _ h => h) (Or.inl ⟨by rfl,?_⟩) ?_ ?_
 rotate_left
 ·intro w'
  go_simp
  with_reducible rfl
 rotate_left
 ·simp only [Act.put,sA,sZ,sS,i64_w,i32_w]
  rfl
 refine take_ (i:=1) (N:=some 4) (v:=?_) (a':=?_) #[tt,tt,ff,tt,ff,tt,ff,tt,ff,ff,ff] rfl rfl (take_ofW HT_.out HW_.out (by kernel_rfl)) (fun _ _ _ h => h) (Or.inl ⟨by rfl,?_⟩) hHeld ?_ ?_
 rotate_left
 ·rintro w' ⟨s0,s1,s2,s3⟩
  go_simp
  with_reducible rfl
 rotate_left
 ·simp only [Act.put,sA,sZ,sS,i64_w,i32_w]
  rfl
 refine take_ (i:=4) (N:=some 7) (v:=?_) (a':=?_) #[tt,tt,ff,tt,tt,tt,ff,tt,ff,ff,ff] rfl rfl (take_ofW HT_.out HW_.out (by kernel_rfl)) (fun _ _ _ h => h) (Or.inl ⟨by rfl,?_⟩) hHeld ?_ ?_
 rotate_left
 ·rintro w' ⟨s0,s1,s2,s3⟩
  go_simp
  with_reducible rfl
 rotate_left
 ·simp only [Act.put,sA,sZ,sS,i64_w,i32_w]
  rfl
 refine take_ (i:=6) (N:=some 9) (v:=?_) (a':=?_) #[tt,tt,ff,tt,tt,tt,tt,tt,ff,ff,ff] rfl rfl (take_ofW HT_.out HW_.out (by kernel_rfl)) (fun _ _ _ h => h) (Or.inl ⟨by rfl,?_⟩) hHeld ?_ ?_
 rotate_left
 ·rintro w' ⟨s0,s1,s2,s3⟩
  go_simp
  with_reducible rfl
 rotate_left
 ·simp only [Act.put,sA,sZ,sS,i64_w,i32_w]
  rfl
 refine take_ (i:=8) (N:=some 11) (v:=?_) (a':=?_) #[tt,tt,ff,tt,tt,tt,tt,tt,tt,ff,ff] rfl rfl (take_ofW HT_.out HW_.out (by kernel_rfl)) (fun _ _ _ h => h) (Or.inl ⟨by rfl,?_⟩) hHeld ?_ ?_
 rotate_left
 ·rintro w' ⟨s0,s1,s2,s3⟩
  go_simp
  with_reducible rfl
 rotate_left
 ·simp only [Act.put,sA,sZ,sS,i64_w,i32_w]
  rfl
 refine one_ (i:=2) (N:=some 5) #[tt,tt,tt,tt,tt,tt,tt,tt,tt,ff,ff] rfl rfl (one_of HT_.out (by kernel_rfl)) (by decide) (fun K hK => ?_)
 refine goes_ Try.func38 (by kernel_rfl) rfl #[.slice A0_0 l0_0.length c0_0] (by rfl) rfl rfl (by (try simp only [List.map_toArray,List.map_cons,List.map_nil]);first|done|rfl|(simp only [List.length_drop,List.length_take];rfl)) ?_
 with_reducible refine (api_Meta_38.calls _ _ l0_0 t249 _ ?side1 ?side2 A2.out).mono ?_
 (case side1 => repeat (first|exact (Kd.C_below HR0_0.out HB.out)|(with_reducible refine Kd.C_alloc ?_ _)|(with_reducible refine Kd.C_drewN ?_ _)|(with_reducible refine Kd.C_drew ?_)))
 (case side2 => exact HC0_0.out)
 rintro e w6 ⟨v250,rfl,ho0,hb⟩
 refine ⟨_,rfl,?_⟩
 have n0_:=Aside0.mk (Kd.R_lower ho0 (below_size (by repeat (first|(with_reducible first|exact HB.out|apply below_alloc|apply pw_below_drewN|apply below_drew1|refine below_set ?_ GE247.out|refine below_set ?_ GE248.out)|exact HB.out))))
 have n1_:=Aside0.mk (blk_below (g:=gb247) (o:=.cells #[.slice A0_0 l0_0.length c0_0,.int .u64 a0_1,.int .u64 a0_2,.int .u64 a0_3] 28 (0,0)) (by (with_reducible repeat (first|refine bN ?_ _|refine bD ?_|refine bA ?_ _));exact BK247.out) hb)
 have n2_:=Aside0.mk (blk_below (g:=gb248) (o:=.cells #[.slice none 0 0,.int .u64 0,.int .u64 0,.int .u64 0] 25 (0,0)) (by (with_reducible repeat (first|refine bN ?_ _|refine bD ?_|refine bA ?_ _));exact BK248.out) hb)
 have n3_:=Aside0.mk (below_step (by repeat (first|(with_reducible first|exact HB.out|apply below_alloc|apply pw_below_drewN|apply below_drew1|refine below_set ?_ GE247.out|refine below_set ?_ GE248.out)|exact HB.out)) hb)
 clear BK247
 clear BK248
 clear HB
 have HO251:=n0_
 have BK247:=n1_
 have BK248:=n2_
 have HB:=n3_
 clear n0_ n1_ n2_ n3_
 (try clear hb)
 (try clear hb2)
 (try clear hk)
 (try clear hi)
 (try clear ho0)
 obtain ⟨Ao7,co7,eo7⟩:=Kd.R_slice HO251.out
 (first|subst eo7|(injection eo7 with f1_ f2_ f3_;have f4_:=f1_.symm;have f5_:=f3_.symm;clear f1_ f2_ f3_;subst f4_;subst f5_))
 refine hK.out _ _ ⟨(blk_cell BK247.out 0).trans rfl,(blk_cell BK247.out 1).trans rfl,(blk_cell BK247.out 2).trans rfl,(blk_cell BK247.out 3).trans rfl⟩ (fun hHeld => ?_)
 clear hK K
 refine norm_ (a':=?_) ?_ ?_
 rotate_left
 ·show Act.put _ (some 5) _ = _
  simp only [Act.put,sA,sZ,sS,i64_w,i32_w]
  rfl
 refine pure_ (i:=9) (N:=some 12) (v:=?_) (a':=?_) #[tt,tt,tt,tt,tt,tt,tt,tt,tt,tt,ff] rfl rfl (any_of HT_.out (by kernel_rfl)) (fun _ _ _ h => h) (Or.inl ⟨by rfl,?_⟩) ?_ ?_
 rotate_left
 ·intro w'
  go_simp
  with_reducible rfl
 rotate_left
 ·simp only [Act.put,sA,sZ,sS,i64_w,i32_w]
  rfl
 refine one_ (i:=10) (N:=none) #[tt,tt,tt,tt,tt,tt,tt,tt,tt,tt,tt] rfl rfl (one_of HT_.out (by kernel_rfl)) (by decide) (fun K hK => ?_)
 have hs8 : w6.cell? ⟨gb248,0,none⟩ = some (.slice none 0 0):=(blk_cell BK248.out 0).trans rfl
 have hfs8:=blk_frozen BK248.out 0
 have hns8_0:=NB247_248.out
 have hms8_0:=NB248_247.out
 have hs9 : w6.cell? ⟨gb248,1,none⟩ = some (.int .u64 0):=(blk_cell BK248.out 1).trans rfl
 have hfs9:=blk_frozen BK248.out 1
 have hns9_0:=NB247_248.out
 have hms9_0:=NB248_247.out
 have hs10 : w6.cell? ⟨gb248,2,none⟩ = some (.int .u64 0):=(blk_cell BK248.out 2).trans rfl
 have hfs10:=blk_frozen BK248.out 2
 have hns10_0:=NB247_248.out
 have hms10_0:=NB248_247.out
 have hs11 : w6.cell? ⟨gb248,3,none⟩ = some (.int .u64 0):=(blk_cell BK248.out 3).trans rfl
 have hfs11:=blk_frozen BK248.out 3
 have hns11_0:=NB247_248.out
 have hms11_0:=NB248_247.out
 refine skip_ (w1:=?_) (by rfl) rfl ?_ ?_
 rotate_left
 ·go_simp
  rfl
 refine hK.out _ _ ⟨((cell_far (p:=⟨gb248,_,none⟩) NB247_248.out _).trans (((cell_far (p:=⟨gb248,_,none⟩) NB247_248.out _).trans (((cell_far (p:=⟨gb248,_,none⟩) NB247_248.out _).trans (((cell_far (p:=⟨gb248,_,none⟩) NB247_248.out _).trans (hHeld.1)))))))),((cell_far (p:=⟨gb248,_,none⟩) NB247_248.out _).trans (((cell_far (p:=⟨gb248,_,none⟩) NB247_248.out _).trans (((cell_far (p:=⟨gb248,_,none⟩) NB247_248.out _).trans (((cell_far (p:=⟨gb248,_,none⟩) NB247_248.out _).trans (hHeld.2.1)))))))),((cell_far (p:=⟨gb248,_,none⟩) NB247_248.out _).trans (((cell_far (p:=⟨gb248,_,none⟩) NB247_248.out _).trans (((cell_far (p:=⟨gb248,_,none⟩) NB247_248.out _).trans (((cell_far (p:=⟨gb248,_,none⟩) NB247_248.out _).trans (hHeld.2.2.1)))))))),((cell_far (p:=⟨gb248,_,none⟩) NB247_248.out _).trans (((cell_far (p:=⟨gb248,_,none⟩) NB247_248.out _).trans (((cell_far (p:=⟨gb248,_,none⟩) NB247_248.out _).trans (((cell_far (p:=⟨gb248,_,none⟩) NB247_248.out _).trans (hHeld.2.2.2))))))))⟩ (fun hHeld => ?_)
 clear hK K
 refine done_ (done_of HT_.out (by kernel_rfl)) ?_
 try go_wp2
 refine bodyPost_ret (results_cell_row rfl _ _ gb248 25 #[.slice Ao7 t249.length co7,.int .u64 a0_1,.int .u64 a0_2,.int .u64 a0_3] (0,0) _ rfl (by (with_reducible repeat (first|refine bN ?_ _|refine bD ?_|refine bA ?_ _));refine blk_put (cs:=#[.slice Ao7 t249.length co7,.int .u64 a0_1,.int .u64 a0_2,.int .u64 0]) ?_ 3 _ rfl;(with_reducible repeat (first|refine bN ?_ _|refine bD ?_|refine bA ?_ _));refine blk_put (cs:=#[.slice Ao7 t249.length co7,.int .u64 a0_1,.int .u64 0,.int .u64 0]) ?_ 2 _ rfl;(with_reducible repeat (first|refine bN ?_ _|refine bD ?_|refine bA ?_ _));refine blk_put (cs:=#[.slice Ao7 t249.length co7,.int .u64 0,.int .u64 0,.int .u64 0]) ?_ 1 _ rfl;(with_reducible repeat (first|refine bN ?_ _|refine bD ?_|refine bA ?_ _));refine blk_put (cs:=#[.slice none 0 0,.int .u64 0,.int .u64 0,.int .u64 0]) ?_ 0 _ rfl;(with_reducible repeat (first|refine bN ?_ _|refine bD ?_|refine bA ?_ _));exact BK248.out) Try.underlying25 rfl (by kernel_rfl)) rfl ?_
 exact ⟨_,by first|rfl|(simp [errW_none,errW_some] <;> rfl)|(simp [*,errW_none,errW_some] <;> rfl),by (with_reducible repeat (first|apply zA|apply zN|apply zD));exact Kd.R_mono (Kd.R_far (p:=⟨gb248,3,none⟩) (Kd.R_far (p:=⟨gb248,2,none⟩) (Kd.R_far (p:=⟨gb248,1,none⟩) (Kd.R_far (p:=⟨gb248,0,none⟩) (Kd.R_types HO251.out BK248.out (by decide)) (fun _ hk => hk.2) (.slice Ao7 t249.length co7)) (fun _ hk => hk.2) (.int .u64 a0_1)) (fun _ hk => hk.2) (.int .u64 a0_2)) (fun _ hk => hk.2) (.int .u64 a0_3)) (fun _ hk => trivial),by repeat (first|(with_reducible first|exact HB.out|apply below_alloc|apply pw_below_drewN|apply below_drew1|refine below_set ?_ GE247.out|refine below_set ?_ GE248.out)|exact HB.out)⟩

end Go.Proofs.Ytcagajobpnpicaa.P

end

section
set_option linter.unusedVariables false
namespace Go.Proofs.YtcagajobpnpicaaG
open Go Go.RowKit Go.Proofs.Ytcagajobpnpicaa.P Go.Proofs.YtcagajobpnpicaaW.PrintWords

abbrev MetaS:=S58
/-- A note that is right. -/
def noteB (m : MetaS) : Bool:=decide (0 < m.f0) && decide (0 < m.f1) && decide (1 ≤ m.f2.size) && decide (m.f2.size ≤ 64) && decide (1 ≤ m.f3.size) && decide (m.f3.size ≤ 64) && !Op.bytesLess m.f3.toList m.f2.toList
/-- Notes that are right, and rise from a number on. -/
def upB : Option Int → Int → Bool
 | none,_=>true
 | some q,x=>decide (q < x)
def notesB (p : Option Int) (l : List MetaS) : Bool:=match l with
 | []=>true
 | m :: r=>noteB m && upB p m.f0 && notesB (some m.f0) r
theorem notesB_nil (p : Option Int) : notesB p [] = true:=by rw [notesB]
theorem notesB_cons (p : Option Int) (m : MetaS) (r : List MetaS) : notesB p (m :: r) = (noteB m && upB p m.f0 && notesB (some m.f0) r):=by rw [notesB]
/-- Which edits are right. -/
def rightB (l : List MetaS) (a b c : Int) : Bool:=notesB none l && (decide (l.length ≤ 64) && decide (b ≤ 72057594037927935) && (decide (0 < l.length) || decide (a ≠ 0) || decide (b ≠ 0) || decide (c ≠ 0)))
/-- A note's bytes. -/
def noteF (m : MetaS) : List Int:=vint m.f0.toNat ++ (vint m.f1.toNat ++ (vint m.f2.size ++ (bytesOf m.f2 ++ (vint m.f3.size ++ bytesOf m.f3))))
def notesF : List MetaS → List Int
 | []=>[]
 | m :: r=>noteF m ++ notesF r
def addF (l : List MetaS) : List Int:=if 0 < l.length then vint l.length ++ notesF l else []
def numF (x : Int) : List Int:=if 0 < x then vint x.toNat else []
def bitF (x k : Int) : Int:=if 0 < x then k else 0
def headF (l : List MetaS) (a b c : Int) : Int:=bitF l.length 1 + bitF a 2 + bitF b 4 + bitF c 8
def bodyF (l : List MetaS) (a b c : Int) : List Int:=addF l ++ (numF a ++ (numF b ++ numF c))
def formE (l : List MetaS) (a b c : Int) : List Int:=headF l a b c :: bodyF l a b c
def U64 (x : Int) : Prop:=0 ≤ x ∧ x < 18446744073709551616
instance decU64 (x : Int) : Decidable (U64 x):=by unfold U64;infer_instance
def WfM (m : MetaS) : Prop:=U64 m.f0 ∧ U64 m.f1
instance decWfM (m : MetaS) : Decidable (WfM m):=by unfold WfM;infer_instance
def WfE (l : List MetaS) (a b c : Int) : Prop:=(∀ m ∈ l,WfM m) ∧ U64 a ∧ U64 b ∧ U64 c
instance decWfE (l : List MetaS) (a b c : Int) : Decidable (WfE l a b c):=by unfold WfE;infer_instance
def edit_Bytes.f (l : List MetaS) (a b c : Int) : Option (List Int × Int):=if WfE l a b c then some (if rightB l a b c then (formE l a b c,0) else ([],90)) else none
end Go.Proofs.YtcagajobpnpicaaG

end

section
set_option linter.unusedVariables false
namespace Go.Proofs.YtcagajobpnpicaaL
open Go Go.RowKit Go.Proofs.YtcagajobpnpicaaW.PrintWords
section
variable {α β γ δ ε ζ : Type} {r : α}
theorem ev_some (r : α) : Ev (fun _=>some r) r:=Ev.now r
theorem ev_bind {o : Option β} {a : β} {f : Nat → β → Option α} (h : o = some a) (k : Ev (fun n=>f n a) r) : Ev (fun n=>o.bind (f n)) r:=Ev.bind (g:=fun _=>o) (by rw [h];exact Ev.now a) k
theorem ev_call {g : Nat → Option β} {a : β} {f : Nat → β → Option α} (h : Ev g a) (k : Ev (fun n=>f n a) r) : Ev (fun n=>(g n).bind (f n)) r:=Ev.bind h k
theorem ev_pos {c : Prop} [Decidable c] {a b : Nat → Option α} (h : c) (k : Ev a r) : Ev (fun n=>if c then a n else b n) r:=k.congr (fun n=>if_pos h)
theorem ev_neg {c : Prop} [Decidable c] {a b : Nat → Option α} (h : ¬ c) (k : Ev b r) : Ev (fun n=>if c then a n else b n) r:=k.congr (fun n=>if_neg h)
/-- One round of what has rounds. -/
theorem ev_step {g f : Nat → Option α} (h : ∀ k,g (k + 1) = f k) (k : Ev f r) : Ev g r:=Ev.step h k
theorem ev_of {g : Nat → Option α} (N : Nat) (h : ∀ k,g (k + N) = some r) : Ev g r:=⟨N,fun k hk=>by rw [show k = (k - N) + N from by omega];exact h _⟩
end
theorem up1 {a : Nat} (h : a < 9223372036854775800) : wrap64 ((a : Int) + 1) = ((a + 1 : Nat) : Int):=by unfold wrap64;omega
theorem getD_at {α : Type} {l : List α} {z : α} {j : Nat} (h : j < l.length) : l.getD ((j : Int)).toNat z = l[j]:=by
 rw [Int.toNat_natCast,List.getD_eq_getElem?_getD,List.getElem?_eq_getElem h]
 rfl
end Go.Proofs.YtcagajobpnpicaaL

end

section
set_option linter.unusedVariables false
namespace Go.Proofs.YtcagajobpnpicaaL
open Go Go.RowKit Go.Proofs.YtcagajobpnpicaaW.PrintWords

theorem bind3 {α β γ δ : Type} {o : Option (α × β × γ)} {a : α} {b : β} {c : γ} {f : α × β × γ → Option δ} {r : Option δ} (h : o = some (a,b,c)) (k : ∀ t,t.1 = a → t.2.1 = b → t.2.2 = c → f t = r) : o.bind f = r:=by
 rw [h]
 exact k _ rfl rfl rfl
theorem bind1 {α δ : Type} {o : Option α} {a : α} {f : α → Option δ} {r : Option δ} (h : o = some a) (k : f a = r) : o.bind f = r:=by
 rw [h]
 exact k
/-- Bytes. -/
def By (l : List Int) : Prop:=∀ c ∈ l,0 ≤ c ∧ c < 256
theorem By.nil : By []:=fun c h=>by cases h
theorem By.cons {c : Int} {l : List Int} (h0 : 0 ≤ c) (h1 : c < 256) (h : By l) : By (c :: l):=fun d hd=>by
 rcases List.mem_cons.1 hd with rfl|hd
 ·exact ⟨h0,h1⟩
 ·exact h d hd
theorem By.append {a b : List Int} (ha : By a) (hb : By b) : By (a ++ b):=fun c h=>(List.mem_append.1 h).elim (ha c) (hb c)
theorem By.right {a b : List Int} (h : By (a ++ b)) : By b:=fun c hc=>h c (List.mem_append_right _ hc)
theorem By.take {l : List Int} (h : By l) (n : Nat) : By (l.take n):=fun c hc=>h c (List.mem_of_mem_take hc)
theorem By.drop {l : List Int} (h : By l) (n : Nat) : By (l.drop n):=fun c hc=>h c (List.mem_of_mem_drop hc)
theorem By.tail {c : Int} {l : List Int} (h : By (c :: l)) : By l:=fun d hd=>h d (List.mem_cons_of_mem _ hd)
theorem By.head {c : Int} {l : List Int} (h : By (c :: l)) : 0 ≤ c ∧ c < 256:=h c (List.mem_cons_self ..)
theorem By.of_wf {l : List Int} (h : ∀ x ∈ l,(Lit.int .u8 x).wf = true) : By l:=fun c hc=>by
 have:=h c hc
 simp [Lit.wf,IntKind.min,IntKind.max,IntKind.bits,IntKind.signed] at this
 omega
theorem toList_data (s : ByteArray) : s.toList = s.data.toList:=Lib.toList_data s
theorem ba_ext {s t : ByteArray} (h : s.toList = t.toList) : s = t:=by
 rw [toList_data,toList_data] at h
 cases s;cases t
 simpa using h
theorem str_bytes (s : ByteArray) : strOfNums (bytesOf s) = s:=by
 refine ba_ext ?_
 rw [toList_data,strOfNums_data,bytesOf,List.map_map,toList_data]
 conv=>rhs;rw [← List.map_id s.data.toList]
 refine List.map_congr_left (fun b _=>?_)
 simp
theorem bytes_str {l : List Int} (h : By l) : bytesOf (strOfNums l) = l:=by
 rw [bytesOf,strOfNums_data,List.map_map]
 conv=>rhs;rw [← List.map_id l]
 refine List.map_congr_left (fun c hc=>?_)
 have:=h c hc
 simp only [Function.comp,UInt8.toNat_ofNat',id]
 omega
theorem bytesOf_by (s : ByteArray) : By (bytesOf s):=by
 intro c hc
 obtain ⟨b,_,rfl⟩:=List.mem_map.1 hc
 have:=b.toNat_lt
 omega
theorem str_inj {a b : List Int} (ha : By a) (hb : By b) (h : strOfNums a = strOfNums b) : a = b:=by rw [← bytes_str ha,h,bytes_str hb]

end Go.Proofs.YtcagajobpnpicaaL

end

section
set_option linter.unusedVariables false
namespace Go.Proofs.YtcagajobpnpicaaL
open Go Go.RowKit Go.Proofs.YtcagajobpnpicaaG Go.Proofs.Ytcagajobpnpicaa.P Go.Proofs.YtcagajobpnpicaaW.PrintWords Go.Proofs.YtcagajobpnpicaaW.PrintMore

def lt (a b : ByteArray) : Prop:=Op.bytesLess a.toList b.toList = true
instance (a b : ByteArray) : Decidable (lt a b):=inferInstanceAs (Decidable (_ = true))
theorem lt_asymm {a b : ByteArray} (h : lt a b) : ¬ lt b a:=by
 unfold lt at *
 rw [← bytesLess_gtr,h]
 simp
theorem lt_irrefl (a : ByteArray) : ¬ lt a a:=fun h=>lt_asymm h h
theorem ba_eq_iff {a b : ByteArray} : a.toList = b.toList ↔ a = b:=⟨ba_ext,fun h=>by rw [h]⟩
theorem ba_nil_iff {a : ByteArray} : a.toList = [] ↔ a.size = 0:=by
 rw [toList_data]
 exact ⟨fun h=>by show a.data.size = 0;rw [← Array.length_toList,h];rfl,fun h=>List.eq_nil_of_length_eq_zero (by rw [Array.length_toList];exact h)⟩

end Go.Proofs.YtcagajobpnpicaaL

end

section
set_option linter.unusedVariables false
set_option linter.unusedSimpArgs false
namespace Go.Proofs.YtcagajobpnpicaaL
open Go Go.RowKit Go.Proofs.YtcagajobpnpicaaG Go.Proofs.Ytcagajobpnpicaa.P Go.Proofs.YtcagajobpnpicaaW.PrintWords

theorem key_f (s : ByteArray) : edit_key.f s = some (decide (1 ≤ s.size) && decide (s.size ≤ 64)):=by
 unfold edit_key.f
 by_cases h : s.size = 0
 ·rw [if_pos (ba_nil_iff.2 h),h]
  rfl
 ·rw [if_neg (fun e=>h (ba_nil_iff.1 e)),decide_eq_true (show 1 ≤ s.size by omega),Bool.true_and]
  congr 1
  exact decide_eq_decide.2 (by omega)
theorem odd_f (m : MetaS) (h : WfM m) : edit_odd.f m.f0 m.f1 m.f2 m.f3 = some (!noteB m):=by
 obtain ⟨⟨h1,_⟩,h2,_⟩:=h
 unfold edit_odd.f noteB
 by_cases c1 : m.f0 = 0
 ·rw [if_pos c1,decide_eq_false (show ¬ 0 < m.f0 by omega)]
  simp
 rw [if_neg c1,decide_eq_true (show 0 < m.f0 by omega)]
 by_cases c2 : m.f1 = 0
 ·rw [if_pos c2,decide_eq_false (show ¬ 0 < m.f1 by omega)]
  simp
 rw [if_neg c2,decide_eq_true (show 0 < m.f1 by omega),key_f,key_f]
 simp only [Option.bind_some]
 by_cases c3 : (decide (1 ≤ m.f2.size) && decide (m.f2.size ≤ 64)) = true
 ·rw [if_pos c3]
  by_cases c4 : (decide (1 ≤ m.f3.size) && decide (m.f3.size ≤ 64)) = true
  ·rw [if_pos c4]
   simp only [Bool.and_eq_true] at c3 c4
   simp [c3.1,c3.2,c4.1,c4.2]
  ·rw [if_neg c4]
   have c4':=Bool.eq_false_iff.2 c4
   congr 1
   symm
   rw [Bool.not_eq_true',Bool.and_assoc,Bool.and_assoc,← Bool.and_assoc (decide (1 ≤ m.f3.size)),c4']
   simp
 ·rw [if_neg c3]
  have c3':=Bool.eq_false_iff.2 c3
  congr 1
  symm
  rw [Bool.not_eq_true',Bool.and_assoc,Bool.and_assoc,Bool.and_assoc,Bool.and_assoc,← Bool.and_assoc (decide (1 ≤ m.f2.size)),c3']
  simp
theorem or_zero {a b : Int} (ha : U64 a) (hb : U64 b) : U64 (bits .or .u64 a b) ∧ (bits .or .u64 a b = 0 ↔ a = 0 ∧ b = 0):=by
 obtain ⟨x,rfl⟩:=Int.eq_ofNat_of_zero_le ha.1
 obtain ⟨y,rfl⟩:=Int.eq_ofNat_of_zero_le hb.1
 have h1:=ha.2
 have h2:=hb.2
 have e : bits .or .u64 (x : Int) (y : Int) = ((x ||| y : Nat) : Int):=by
  show IntKind.u64.wrap ((BitVec.ofInt 64 (x : Int) ||| BitVec.ofInt 64 (y : Int)).toNat : Int) = _
  rw [BitVec.ofInt_natCast,BitVec.ofInt_natCast,BitVec.toNat_or,BitVec.toNat_ofNat,BitVec.toNat_ofNat,Nat.mod_eq_of_lt (show x < 2 ^ 64 by omega),Nat.mod_eq_of_lt (show y < 2 ^ 64 by omega)]
  have h3 : x ||| y < 2 ^ 64:=Nat.or_lt_two_pow (by omega) (by omega)
  show ((x ||| y : Nat) : Int) % 18446744073709551616 = _
  omega
 have h3 : x ||| y < 2 ^ 64:=Nat.or_lt_two_pow (by omega) (by omega)
 rw [e]
 refine ⟨⟨by omega,by omega⟩,?_⟩
 constructor
 ·intro h
  have h4 : x ||| y = 0:=by omega
  have:=Nat.or_eq_zero_iff.1 h4
  omega
 ·rintro ⟨h5,h6⟩
  have h7 : x = 0:=by omega
  have h8 : y = 0:=by omega
  rw [h7,h8]
  rfl
theorem or3 {a b c : Int} (ha : U64 a) (hb : U64 b) (hc : U64 c) : (bits .or .u64 (bits .or .u64 a b) c != 0) = (decide (a ≠ 0) || decide (b ≠ 0) || decide (c ≠ 0)):=by
 have h1:=or_zero ha hb
 have h2:=or_zero h1.1 hc
 rw [Bool.eq_iff_iff,bne_iff_ne,ne_eq,h2.2,h1.2]
 simp only [Bool.or_eq_true,decide_eq_true_eq]
 omega
theorem up1' {a : Nat} (h : a < 9223372036854775807) : wrap64 ((a : Int) + 1) = ((a + 1 : Nat) : Int):=by unfold wrap64;omega
/-- What stands ahead of a note. -/
def ahead (l : List MetaS) : Nat → Option Int
 | 0=>none
 | i + 1=>(l[i]?).map (·.f0)
theorem right_loop (l : List MetaS) (a b c : Int) (hl : l.length ≤ 9223372036854775807) (hw : ∀ m ∈ l,WfM m) (ha : U64 a) (hb : U64 b) (hc : U64 c) :
  ∀ (n i : Nat),i + n = l.length → Ev (fun k=>edit_Right.l0 k (l.length : Int) i l a b c) (notesB (ahead l i) (l.drop i) && (decide (l.length ≤ 64) && decide (b ≤ 72057594037927935) && (decide (0 < l.length) || decide (a ≠ 0) || decide (b ≠ 0) || decide (c ≠ 0)))):=by
 intro n
 induction n with
 | zero =>
  intro i hi
  have hd : l.drop i = []:=List.drop_eq_nil_of_le (by omega)
  rw [hd,notesB_nil,Bool.true_and]
  refine ev_of 1 (fun k=>?_)
  rw [edit_Right.l0,if_neg (by omega)]
  by_cases c1 : (l.length : Int) ≤ 64
  ·rw [if_pos c1,decide_eq_true (show l.length ≤ 64 by omega),Bool.true_and]
   by_cases c2 : b ≤ 72057594037927935
   ·rw [if_pos c2,decide_eq_true c2,Bool.true_and]
    by_cases c3 : (l.length : Int) > 0
    ·rw [if_pos c3,decide_eq_true (show 0 < l.length by omega)]
     simp
    ·rw [if_neg c3,or3 ha hb hc,decide_eq_false (show ¬ 0 < l.length by omega),Bool.false_or]
   ·rw [if_neg c2,decide_eq_false c2,Bool.false_and]
  ·rw [if_neg c1,decide_eq_false (show ¬ l.length ≤ 64 by omega),Bool.false_and,Bool.false_and]
 | succ n ih =>
  intro i hi
  have hlt : i < l.length:=by omega
  have hr : rd_T58 l (i : Int) = l[i]:=getD_at hlt
  have hwm:=hw l[i] (List.getElem_mem hlt)
  rw [List.drop_eq_getElem_cons hlt,notesB_cons]
  have hn:=ih (i + 1) (by omega)
  have ha' : ahead l (i + 1) = some (l[i]).f0:=by rw [ahead,List.getElem?_eq_getElem hlt];rfl
  rw [ha'] at hn
  have hs : ∀ k,edit_Right.l0 (k + 1) (l.length : Int) i l a b c = if (!noteB l[i]) = true then some false else (if (i : Int) > 0 then (if 0 ≤ (wrap64 ((i : Int) - 1)) then (if (wrap64 ((i : Int) - 1)) < (l.length : Int) then (if (l[i]).f0 ≤ ((rd_T58 l (wrap64 ((i : Int) - 1))).f0) then (some false) else (edit_Right.l0 k (l.length : Int) (wrap64 ((i : Int) + 1)) l a b c)) else (none)) else (none)) else (edit_Right.l0 k (l.length : Int) (wrap64 ((i : Int) + 1)) l a b c)):=by
   intro k
   rw [edit_Right.l0,if_pos (by omega),if_pos (by omega),if_pos (by omega),hr,odd_f _ hwm]
   rfl
  by_cases c1 : noteB l[i] = true
  ·rw [c1,Bool.true_and]
   cases i with
   | zero =>
    rw [ahead,upB,Bool.true_and]
    refine ev_step (fun k=>?_) hn
    rw [hs,c1,if_neg (by simp),if_neg (by omega),up1' (by omega)]
   | succ j =>
    have hw1 : wrap64 (((j + 1 : Nat) : Int) - 1) = (j : Int):=by unfold wrap64;omega
    have hrj : rd_T58 l (j : Int) = l[j]:=getD_at (by omega)
    have haj : ahead l (j + 1) = some (l[j]).f0:=by rw [ahead,List.getElem?_eq_getElem (show j < l.length by omega)];rfl
    rw [haj,upB]
    by_cases c2 : (l[j]).f0 < (l[j + 1]).f0
    ·rw [decide_eq_true c2,Bool.true_and]
     refine ev_step (fun k=>?_) hn
     rw [hs,c1,if_neg (by simp),if_pos (by omega),hw1,if_pos (by omega),if_pos (by omega),hrj,if_neg (by omega),up1' (by omega)]
    ·rw [decide_eq_false c2,Bool.false_and,Bool.false_and]
     refine ev_of 1 (fun k=>?_)
     rw [hs,c1,if_neg (by simp),if_pos (by omega),hw1,if_pos (by omega),if_pos (by omega),hrj,if_pos (by omega)]
  ·have c1':=Bool.eq_false_iff.2 c1
   rw [c1',Bool.false_and,Bool.false_and,Bool.false_and]
   refine ev_of 1 (fun k=>?_)
   rw [hs,c1',if_pos (by decide)]
theorem right_ev (l : List MetaS) (a b c : Int) (hl : l.length ≤ 9223372036854775807) (h : WfE l a b c) : Ev (fun k=>edit_Right.f k l a b c) (rightB l a b c):=by
 have:=right_loop l a b c hl h.1 h.2.1 h.2.2.1 h.2.2.2 l.length 0 (by omega)
 rw [List.drop_zero] at this
 exact this
theorem right_calls (A : Option Addr) (cp : Nat) (l : List MetaS) (a b c : Int) (w : World) (hr : Kd.C k58 w A l.length l) (hc : l.length ≤ cp) (h : WfE l a b c) :
  Calls Try.prog 17 #[.agg #[.slice A l.length cp,.int .u64 a,.int .u64 b,.int .u64 c]] w fun e w'=>e = .returned (.bool (rightB l a b c)) ∧ Below w.heap.size w w':=by
 have hl : l.length ≤ 9223372036854775807:=hr.2.1
 obtain ⟨N,hN⟩:=right_ev l a b c hl h
 exact edit_Right.calls N A cp l a b c _ w hr hc (hN N (Nat.le_refl _))
end Go.Proofs.YtcagajobpnpicaaL

end

section
set_option linter.unusedVariables false
namespace Go.Proofs.YtcagajobpnpicaaG
open Go Go.RowKit
theorem list_range {α : Type} (l : List α) (z : α) (n : Nat) (h : l.length = n) : l = (List.range n).map (fun k=>l.getD k z):=by
 apply List.ext_getElem
 ·simp [h]
 ·intro i h1 h2
  rw [List.getElem_map,List.getElem_range,List.getD_eq_getElem?_getD,List.getElem?_eq_getElem h1]
  rfl
theorem to_fun (a : Act) (hs : a.tmps.size = 92) (hd : a.defers = []) : ∃ u : Nat → Value,a = { tmps:=#[u 0,u 1,u 2,u 3,u 4,u 5,u 6,u 7,u 8,u 9,u 10,u 11,u 12,u 13,u 14,u 15,u 16,u 17,u 18,u 19,u 20,u 21,u 22,u 23,u 24,u 25,u 26,u 27,u 28,u 29,u 30,u 31,u 32,u 33,u 34,u 35,u 36,u 37,u 38,u 39,u 40,u 41,u 42,u 43,u 44,u 45,u 46,u 47,u 48,u 49,u 50,u 51,u 52,u 53,u 54,u 55,u 56,u 57,u 58,u 59,u 60,u 61,u 62,u 63,u 64,u 65,u 66,u 67,u 68,u 69,u 70,u 71,u 72,u 73,u 74,u 75,u 76,u 77,u 78,u 79,u 80,u 81,u 82,u 83,u 84,u 85,u 86,u 87,u 88,u 89,u 90,u 91],defers:=[] } ∧ ∀ k,u k = a.tmps.getD k undef:=by
 obtain ⟨⟨l⟩,d⟩:=a
 have hd' : d = []:=hd
 subst hd'
 have hl : l.length = 92:=hs
 refine ⟨fun k=>l.getD k undef,?_,fun k=>by show l.getD k undef = (Array.mk l).getD k undef;simp [List.getD_eq_getElem?_getD]⟩
 have h:=list_range l undef 92 hl
 have h2 : (List.range 92).map (fun k=>l.getD k undef) = [l.getD 0 undef,l.getD 1 undef,l.getD 2 undef,l.getD 3 undef,l.getD 4 undef,l.getD 5 undef,l.getD 6 undef,l.getD 7 undef,l.getD 8 undef,l.getD 9 undef,l.getD 10 undef,l.getD 11 undef,l.getD 12 undef,l.getD 13 undef,l.getD 14 undef,l.getD 15 undef,l.getD 16 undef,l.getD 17 undef,l.getD 18 undef,l.getD 19 undef,l.getD 20 undef,l.getD 21 undef,l.getD 22 undef,l.getD 23 undef,l.getD 24 undef,l.getD 25 undef,l.getD 26 undef,l.getD 27 undef,l.getD 28 undef,l.getD 29 undef,l.getD 30 undef,l.getD 31 undef,l.getD 32 undef,l.getD 33 undef,l.getD 34 undef,l.getD 35 undef,l.getD 36 undef,l.getD 37 undef,l.getD 38 undef,l.getD 39 undef,l.getD 40 undef,l.getD 41 undef,l.getD 42 undef,l.getD 43 undef,l.getD 44 undef,l.getD 45 undef,l.getD 46 undef,l.getD 47 undef,l.getD 48 undef,l.getD 49 undef,l.getD 50 undef,l.getD 51 undef,l.getD 52 undef,l.getD 53 undef,l.getD 54 undef,l.getD 55 undef,l.getD 56 undef,l.getD 57 undef,l.getD 58 undef,l.getD 59 undef,l.getD 60 undef,l.getD 61 undef,l.getD 62 undef,l.getD 63 undef,l.getD 64 undef,l.getD 65 undef,l.getD 66 undef,l.getD 67 undef,l.getD 68 undef,l.getD 69 undef,l.getD 70 undef,l.getD 71 undef,l.getD 72 undef,l.getD 73 undef,l.getD 74 undef,l.getD 75 undef,l.getD 76 undef,l.getD 77 undef,l.getD 78 undef,l.getD 79 undef,l.getD 80 undef,l.getD 81 undef,l.getD 82 undef,l.getD 83 undef,l.getD 84 undef,l.getD 85 undef,l.getD 86 undef,l.getD 87 undef,l.getD 88 undef,l.getD 89 undef,l.getD 90 undef,l.getD 91 undef]:=rfl
 rw [h2] at h
 have h3 : (Act.mk ⟨l⟩ [] : Act) = Act.mk (List.toArray l) []:=rfl
 rw [h3]
 congr 1
 exact congrArg List.toArray h
end Go.Proofs.YtcagajobpnpicaaG

end

section
set_option linter.unusedVariables false
set_option linter.unusedSimpArgs false
namespace Go.Proofs.YtcagajobpnpicaaG
open Go Go.RowKit Go.Proofs.YtcagajobpnpicaaR Go.Proofs.YtcagajobpnpicaaL Go.Proofs.Ytcagajobpnpicaa.P Go.Proofs.YtcagajobpnpicaaW.PrintWords Go.Proofs.YtcagajobpnpicaaW.PrintMore
attribute [local go_sem] Oper.semAt_some max2_int

theorem right_fit' {l : List MetaS} {a b c : Int} (h : rightB l a b c = true) : l.length ≤ 64 ∧ True:=by
 unfold rightB at h
 simp only [Bool.and_eq_true,decide_eq_true_eq] at h
 exact ⟨h.2.1.1,trivial⟩
def fallsB (was now : Int) : Bool:=decide (0 < now) && decide (now < was)
def lowB (l0 l1 : List MetaS) : Bool:=decide (0 < l0.length) && decide (0 < l1.length) && decide ((rd_T58 l1 0).f0 ≤ (rd_T58 l0 ((l0.length : Int) - 1)).f0)
def okB (l0 : List MetaS) (a b c : Int) (l1 : List MetaS) (d e f : Int) : Bool:=rightB l1 d e f && !fallsB a d && !fallsB b e && !fallsB c f && !lowB l0 l1
def edit_Apply.f (l0 : List MetaS) (a b c : Int) (l1 : List MetaS) (d e f : Int) : Option (List MetaS × Int × Int × Int × Int) :=
 if WfE l1 d e f ∧ l0.length + 64 < 2932031007402 then some (if okB l0 a b c l1 d e f = true then (l0 ++ l1,mx a d,mx b e,mx c f,0) else (l0,a,b,c,90)) else none
set_option maxRecDepth 100000 in
theorem falls_calls (was now : Int) (w : World) : Calls Try.prog 39 #[.int .u64 was,.int .u64 now] w fun e w'=>e = .returned (.bool (fallsB was now)) ∧ w = w':=by
 by_cases h : 0 < now
 ·have hd : decide (0 < now) = true:=decide_eq_true h
  clear h
  go_enter Try.func39,Try.ntmps39
  go_wp2
  go_ret
  exact ⟨by unfold fallsB;rw [hd,Bool.true_and];rfl,rfl⟩
 ·have hd : decide (0 < now) = false:=decide_eq_false h
  clear h
  go_enter Try.func39,Try.ntmps39
  go_wp2
  go_ret
  exact ⟨by unfold fallsB;rw [hd,Bool.false_and];rfl,rfl⟩
abbrev vBx (v : Value) (a b c : Int) : Obj:=.cells #[v,.int .u64 a,.int .u64 b,.int .u64 c] 28
abbrev eBx' (A : Option Addr) (n cp : Nat) (a b c : Int) : Obj:=.cells #[.slice A n cp,.int .u64 a,.int .u64 b,.int .u64 c] 25
structure ASt (w : World) (v : Value) (l : List MetaS) (a b c : Int) (Ae : Option Addr) (l1 : List MetaS) (ce : Nat) (d e f : Int) (W : World) : Prop where
 vbx : W.heap[w.heap.size]? = some (vBx v a b c)
 ebx : W.heap[w.heap.size + 1]? = some (eBx' Ae l1.length ce d e f)
 rbx : W.heap[w.heap.size + 1 + 1]? = some (vBx (.slice none 0 0) 0 0 0)
 row : Kd.R k58 58 W w.heap.size (fun _=>True) v l
 bel : Below w.heap.size w W
theorem ASt.below {w : World} {v : Value} {l : List MetaS} {a b c : Int} {Ae : Option Addr} {l1 : List MetaS} {ce : Nat} {d e f : Int} {W W' : World} (h : ASt w v l a b c Ae l1 ce d e f W) (hb : Below W.heap.size W W') : ASt w v l a b c Ae l1 ce d e f W' :=
 ⟨(hb.block _ (blk_lt h.vbx)).trans h.vbx,(hb.block _ (blk_lt h.ebx)).trans h.ebx,(hb.block _ (blk_lt h.rbx)).trans h.rbx,Kd.R_below h.row hb,below_then h.bel h.bel.size hb⟩

theorem ast_one {w W0 w1 : World} {A0 : Option Addr} {l0 : List MetaS} {c0 : Nat} {a b c : Int} {Ae : Option Addr} {l1 : List MetaS} {ce : Nat} {d e f : Int} {v : Value} (hB : Below w.heap.size w W0) (hd : Below W0.heap.size W0 w1) (hv : W0.heap[w.heap.size]? = some (vBx (.slice A0 l0.length c0) a b c)) (he : W0.heap[w.heap.size + 1]? = some (eBx' Ae l1.length ce d e f)) (hr : W0.heap[w.heap.size + 1 + 1]? = some (vBx (.slice none 0 0) 0 0 0))
  (hR : Kd.R k58 58 w1 w.heap.size (fun _=>True) v l0) (_h : True) : ASt w v l0 a b c Ae l1 ce d e f (w1.setCell ⟨w.heap.size,0,none⟩ v):=by
 have hv1:=(hd.block _ (blk_lt hv)).trans hv
 have he1:=(hd.block _ (blk_lt he)).trans he
 have hr1:=(hd.block _ (blk_lt hr)).trans hr
 exact ⟨blk_put hv1 0 v rfl,blk_far (p:=⟨w.heap.size,0,none⟩) he1 (by show w.heap.size + 1 ≠ w.heap.size;omega) v,blk_far (p:=⟨w.heap.size,0,none⟩) hr1 (by show w.heap.size + 1 + 1 ≠ w.heap.size;omega) v,Kd.R_mono (Kd.R_far (p:=⟨w.heap.size,0,none⟩) (Kd.R_types hR hv1 (by decide)) (fun k hk=>hk.2) v) (fun _ _=>trivial),(below_then hB hB.size hd).setCell (p:=⟨w.heap.size,0,none⟩) (Nat.le_refl _) v⟩

theorem ast_grown {w W W1 : World} {v : Value} {l : List MetaS} {a b c : Int} {Ae : Option Addr} {l1 : List MetaS} {ce : Nat} {d e f : Int} {nq : Nat} {row : Option Nat} (h : ASt w v l a b c Ae l1 ce d e f W) (hg : (W.drewN nq).grownBy W1 row) (hne : ∀ k,row = some k → k ≠ w.heap.size ∧ k ≠ w.heap.size + 1 ∧ k ≠ w.heap.size + 1 + 1) :
  W1.heap[w.heap.size]? = some (vBx v a b c) ∧ W1.heap[w.heap.size + 1]? = some (eBx' Ae l1.length ce d e f) ∧ W1.heap[w.heap.size + 1 + 1]? = some (vBx (.slice none 0 0) 0 0 0) :=
 ⟨blk_grown (blk_drewN h.vbx nq) hg (fun e=>(hne _ e.symm).1 rfl),blk_grown (blk_drewN h.ebx nq) hg (fun e=>(hne _ e.symm).2.1 rfl),blk_grown (blk_drewN h.rbx nq) hg (fun e=>(hne _ e.symm).2.2 rfl)⟩
theorem ASt.ne {w : World} {v : Value} {l : List MetaS} {a b c : Int} {Ae : Option Addr} {l1 : List MetaS} {ce : Nat} {d e f : Int} {W : World} (h : ASt w v l a b c Ae l1 ce d e f W) : ∀ k,v.ownBlock = some k → k ≠ w.heap.size ∧ k ≠ w.heap.size + 1 ∧ k ≠ w.heap.size + 1 + 1:=fun k hk =>
 ⟨((Kd.R_types h.row h.vbx (by decide)).1 k hk).2,((Kd.R_types h.row h.ebx (by decide)).1 k hk).2,((Kd.R_types h.row h.rbx (by decide)).1 k hk).2⟩

theorem ast_put {w W1 : World} {v v5 : Value} {l : List MetaS} {a b c : Int} {Ae : Option Addr} {l1 : List MetaS} {ce : Nat} {d e f : Int} (h : W1.heap[w.heap.size]? = some (vBx v a b c) ∧ W1.heap[w.heap.size + 1]? = some (eBx' Ae l1.length ce d e f) ∧ W1.heap[w.heap.size + 1 + 1]? = some (vBx (.slice none 0 0) 0 0 0)) (ho : Kd.R k58 58 W1 w.heap.size (fun _=>True) v5 l) (hb : Below w.heap.size w W1) : ASt w v5 l a b c Ae l1 ce d e f (W1.setCell ⟨w.heap.size,0,none⟩ v5) :=
 ⟨blk_put h.1 0 v5 rfl,blk_far (p:=⟨w.heap.size,0,none⟩) h.2.1 (by show w.heap.size + 1 ≠ w.heap.size;omega) v5,blk_far (p:=⟨w.heap.size,0,none⟩) h.2.2 (by show w.heap.size + 1 + 1 ≠ w.heap.size;omega) v5,Kd.R_mono (Kd.R_far (p:=⟨w.heap.size,0,none⟩) (Kd.R_types ho h.1 (by decide)) (fun k hk=>hk.2) v5) (fun _ _=>trivial),hb.setCell (p:=⟨w.heap.size,0,none⟩) (Nat.le_refl _) v5⟩

theorem ast_nums {w W : World} {v : Value} {l : List MetaS} {a b c x y z : Int} {Ae : Option Addr} {l1 : List MetaS} {ce : Nat} {d e f : Int} (h : ASt w v l a b c Ae l1 ce d e f W) : ASt w v l x y z Ae l1 ce d e f (((W.setCell ⟨w.heap.size,1,none⟩ (.int .u64 x)).setCell ⟨w.heap.size,2,none⟩ (.int .u64 y)).setCell ⟨w.heap.size,3,none⟩ (.int .u64 z)).drew:=by
 have hn1 : w.heap.size + 1 ≠ w.heap.size:=by omega
 have hn2 : w.heap.size + 1 + 1 ≠ w.heap.size:=by omega
 refine ⟨blk_drew (blk_put (cs':=#[v,.int .u64 x,.int .u64 y,.int .u64 z]) (blk_put (cs':=#[v,.int .u64 x,.int .u64 y,.int .u64 c]) (blk_put (cs':=#[v,.int .u64 x,.int .u64 b,.int .u64 c]) h.vbx 1 _ rfl) 2 _ rfl) 3 _ rfl),blk_drew (blk_far (p:=⟨w.heap.size,3,none⟩) (blk_far (p:=⟨w.heap.size,2,none⟩) (blk_far (p:=⟨w.heap.size,1,none⟩) h.ebx hn1 _) hn1 _) hn1 _),blk_drew (blk_far (p:=⟨w.heap.size,3,none⟩) (blk_far (p:=⟨w.heap.size,2,none⟩) (blk_far (p:=⟨w.heap.size,1,none⟩) h.rbx hn2 _) hn2 _) hn2 _),?_,?_⟩
 ·exact Kd.R_drew (Kd.R_mono (Kd.R_far (p:=⟨w.heap.size,3,none⟩) (Kd.R_far (p:=⟨w.heap.size,2,none⟩) (Kd.R_far (p:=⟨w.heap.size,1,none⟩) (Kd.R_types h.row h.vbx (by decide)) (fun k hk=>hk.2) _) (fun k hk=>hk.2) _) (fun k hk=>hk.2) _) (fun _ _=>trivial))
 ·exact below_drew1 (((h.bel.setCell (p:=⟨w.heap.size,1,none⟩) (Nat.le_refl _) _).setCell (p:=⟨w.heap.size,2,none⟩) (Nat.le_refl _) _).setCell (p:=⟨w.heap.size,3,none⟩) (Nat.le_refl _) _)

theorem ast_nums9 {w W : World} {v : Value} {l : List MetaS} {a b c x y z : Int} {Ae : Option Addr} {l1 : List MetaS} {ce : Nat} {d e f : Int} (hx : mx a d = x) (hy : mx b e = y) (hz : mx c f = z) (h : ASt w v l a b c Ae l1 ce d e f W) : ASt w v l x y z Ae l1 ce d e f (((W.setCell ⟨w.heap.size,1,none⟩ (.int .u64 (if a < d then d else a))).setCell ⟨w.heap.size,2,none⟩ (.int .u64 (if b < e then e else b))).setCell ⟨w.heap.size,3,none⟩ (.int .u64 (if c < f then f else c))).drew:=by
 subst hx;subst hy;subst hz
 exact ast_nums h
end Go.Proofs.YtcagajobpnpicaaG

end
