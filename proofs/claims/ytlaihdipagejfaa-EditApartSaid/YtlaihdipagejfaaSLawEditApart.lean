/- Proved here: the row of EditApart, and what it needs. Conditions: those of each theorem. Written for this claim by programs; what the claim does not use is left out. -/
import Derived.ChangeArms
import Derived.DataReads
import Derived.DataElems
import Derived.OpenShut
import Derived.SizedLaws
import Derived.Test.YtlaihdipagejfaaRows
import Derived.WalkKit
import Derived.ProofKit
import Derived.ShutString
import Derived.ChangeOld
import Derived.Below
import Derived.Test.YtlaihdipagejfaaSEditApart2
section
namespace Go.Proofs.Ytlaihdipagejfaa.P
open Go.RowKit Go.Proofs.YtlaihdipagejfaaG Go.Proofs.YtlaihdipagejfaaW.PrintWords Go.Proofs.YtlaihdipagejfaaW.PrintLast Go.Proofs.YtlaihdipagejfaaW.PrintMore
attribute [local go_sem] str_gtr str_geq str_leq max2_int min2_int max_two min_two max_three min_three max_four min_four   -- for this text's walks alone
set_option linter.unusedVariables false
set_option linter.unusedSimpArgs false

attribute [local go_sem high] eqA62
mutual
def ratlinelaw09_EditApart.l0 : Nat → Int → Int → List Int → List (S62) → Int → Int → List (S62) → Int → Int → Int → List (S62) → Int → Int → Int → List (S62) → Int → Int → Int → List (S62) → Int → Int → Int → Option (Bool)
 | 0,_,_,_,_,_,_,_,_,_,_,_,_,_,_,_,_,_,_,_,_,_,_ => none
 | k + 1,x6,x8,x9,x12,x49,x50,x505000,x505001,x505002,x505003,x519000,x519001,x519002,x519003,x527000,x527001,x527002,x527003,x538000,x538001,x538002,x538003 => if x50 < x49 then (if 0 ≤ x50 then (if x50 < (x527000.length : Int) then (ratlinelaw09_EditApart.l0 k x6 x8 x9 x12 x49 (wrap64 (x50 + 1)) x505000 x505001 x505002 x505003 x519000 x519001 x519002 x519003 (x527000.set (x50 : Int).toNat (⟨IntKind.u64.wrap (((rd_T62 x527000 x50).f0) + 1),(rd_T62 x527000 x50).f1,(rd_T62 x527000 x50).f2,(rd_T62 x527000 x50).f3⟩ : S62)) x527001 x527002 x527003 x538000 x538001 x538002 x538003) else (none)) else (none)) else (ratlinelaw09_EditApart.l1 k x6 x8 x9 x12 (x538000.length : Int) 0 x505000 x505001 x505002 x505003 x519000 x519001 x519002 x519003 x538000 x538001 x538002 x538003)
def ratlinelaw09_EditApart.l1 : Nat → Int → Int → List Int → List (S62) → Int → Int → List (S62) → Int → Int → Int → List (S62) → Int → Int → Int → List (S62) → Int → Int → Int → Option (Bool)
 | 0,_,_,_,_,_,_,_,_,_,_,_,_,_,_,_,_,_,_ => none
 | k + 1,x6,x8,x9,x12,x65,x66,x505000,x505001,x505002,x505003,x519000,x519001,x519002,x519003,x538000,x538001,x538002,x538003 => if x66 < x65 then (if 0 ≤ x66 then (if x66 < (x538000.length : Int) then (ratlinelaw09_EditApart.l1 k x6 x8 x9 x12 x65 (wrap64 (x66 + 1)) x505000 x505001 x505002 x505003 x519000 x519001 x519002 x519003 (x538000.set (x66 : Int).toNat (⟨IntKind.u64.wrap (((rd_T62 x538000 x66).f0) + 1),(rd_T62 x538000 x66).f1,(rd_T62 x538000 x66).f2,(rd_T62 x538000 x66).f3⟩ : S62)) x538001 x538002 x538003) else (none)) else (none)) else (ratlinelaw09_EditApart.l2 k x6 x8 x9 x12 (x12.length : Int) 0 x505000 x505001 x505002 x505003 x519000 x519001 x519002 x519003)
def ratlinelaw09_EditApart.l2 : Nat → Int → Int → List Int → List (S62) → Int → Int → List (S62) → Int → Int → Int → List (S62) → Int → Int → Int → Option (Bool)
 | 0,_,_,_,_,_,_,_,_,_,_,_,_,_,_ => none
 | k + 1,x6,x8,x9,x12,x80,x81,x505000,x505001,x505002,x505003,x519000,x519001,x519002,x519003 => if x81 < x80 then (if 0 ≤ x81 then (if x81 < (x519000.length : Int) then (if x81 < (x12.length : Int) then (if (!(((rd_T62 x519000 x81).f0) == ((rd_T62 x12 x81).f0)) || (!(((rd_T62 x519000 x81).f1) == ((rd_T62 x12 x81).f1)) || (!((((rd_T62 x519000 x81).f2).toList) == (((rd_T62 x12 x81).f2).toList)) || (!((((rd_T62 x519000 x81).f3).toList) == (((rd_T62 x12 x81).f3).toList)))))) = true then (none) else (if x6 = 0 then (if x81 < (x505000.length : Int) then (if (!(((rd_T62 x505000 x81).f0) == ((rd_T62 x12 x81).f0)) || (!(((rd_T62 x505000 x81).f1) == ((rd_T62 x12 x81).f1)) || (!((((rd_T62 x505000 x81).f2).toList) == (((rd_T62 x12 x81).f2).toList)) || (!((((rd_T62 x505000 x81).f3).toList) == (((rd_T62 x12 x81).f3).toList)))))) = true then (none) else (ratlinelaw09_EditApart.l2 k x6 x8 x9 x12 x80 (wrap64 (x81 + 1)) x505000 x505001 x505002 x505003 x519000 x519001 x519002 x519003)) else (none)) else (ratlinelaw09_EditApart.l2 k x6 x8 x9 x12 x80 (wrap64 (x81 + 1)) x505000 x505001 x505002 x505003 x519000 x519001 x519002 x519003))) else (none)) else (none)) else (none)) else ((edit_Bytes.f x505000 x505001 x505002 x505003).bind fun bt552 => ((ratlinelaw02_Same.f x9 bt552.1).bind fun t556 => (if t556 = true then (if x8 = 0 then ((ratlinelaw09_awake.f).bind fun t557 => (some t557)) else (if x8 = 90 then ((ratlinelaw09_awake.f).bind fun t558 => (some t558)) else (none))) else (none))))
end
def ratlinelaw09_EditApart.f (k : Nat) (l0_0 : List (S62)) (a0_1 : Int) (a0_2 : Int) (a0_3 : Int) (l1_0 : List (S62)) (a1_1 : Int) (a1_2 : Int) (a1_3 : Int) : Option (Bool):=(ratlinelaw09_Few.f k (([(⟨l0_0,a0_1,a0_2,a0_3⟩ : S54),(⟨l1_0,a1_1,a1_2,a1_3⟩ : S54)] : List (S54)))).bind fun t509 => (if t509 = true then ((edit_Apply.f ([] : List (S62)) 0 0 0 l0_0 a0_1 a0_2 a0_3).bind fun bt511 => ((edit_Apply.f bt511.1 bt511.2.1 bt511.2.2.1 bt511.2.2.2.1 l1_0 a1_1 a1_2 a1_3).bind fun bt519 => ((edit_Bytes.f l0_0 a0_1 a0_2 a0_3).bind fun bt527 => ((edit_Whole.f bt511.1 bt511.2.1 bt511.2.2.1 bt511.2.2.2.1).bind fun bt531 => ((some (([] : List (S62)) : List (S62))).bind fun y538 => (if y538.length + bt511.1.length < 2932031007402 then (ratlinelaw09_EditApart.l0 k bt511.2.2.2.2 bt519.2.2.2.2 bt527.1 (y538 ++ bt511.1) (bt519.1.length : Int) 0 l0_0 a0_1 a0_2 a0_3 bt511.1 bt511.2.1 bt511.2.2.1 bt511.2.2.2.1 bt519.1 bt519.2.1 bt519.2.2.1 bt519.2.2.2.1 bt531.1 bt531.2.1 bt531.2.2.1 bt531.2.2.2) else (none))))))) else ((ratlinelaw09_awake.f).bind fun t510 => (some t510)))
set_option maxHeartbeats 8000000 in
set_option maxRecDepth 100000 in
theorem ratlinelaw09_EditApart.calls (k : Nat) (P0_0_ : Nat → Prop) (A0_0 : Option Addr) (c0_0 : Nat) (l0_0 : List (S62)) (a0_1 : Int) (a0_2 : Int) (a0_3 : Int) (P1_0_ : Nat → Prop) (A1_0 : Option Addr) (c1_0 : Nat) (l1_0 : List (S62)) (a1_1 : Int) (a1_2 : Int) (a1_3 : Int) (r : Bool) (w : World) (hs0_0 : Kd.V k62 62 w w.heap.size (fun k_ => P0_0_ k_) (.slice A0_0 l0_0.length c0_0) l0_0) (hs1_0 : Kd.V k62 62 w w.heap.size (fun k_ => P1_0_ k_) (.slice A1_0 l1_0.length c1_0) l1_0) (h : ratlinelaw09_EditApart.f k l0_0 a0_1 a0_2 a0_3 l1_0 a1_1 a1_2 a1_3 = some r) :
  Calls Try.prog 9 #[.agg #[.slice A0_0 l0_0.length c0_0,.int .u64 a0_1,.int .u64 a0_2,.int .u64 a0_3],.agg #[.slice A1_0 l1_0.length c1_0,.int .u64 a1_1,.int .u64 a1_2,.int .u64 a1_3]] w fun e w' => e = .returned (.bool r) ∧ Below w.heap.size w w':=by
 have hu54:=Try.underlying54
 have hu57:=Try.underlying57
 have hu62:=Try.underlying62
 have HO0_0:=Aside0.mk (show Kd.V k62 62 w w.heap.size (fun k_ => ((P0_0_ k_ ∨ P1_0_ k_) ∨ w.heap.size ≤ k_)) (.slice A0_0 l0_0.length c0_0) l0_0 from Kd.V_mono hs0_0 (fun k_ hk => .inl (.inl hk)))
 have HO1_0:=Aside0.mk (show Kd.V k62 62 w w.heap.size (fun k_ => ((P0_0_ k_ ∨ P1_0_ k_) ∨ w.heap.size ≤ k_)) (.slice A1_0 l1_0.length c1_0) l1_0 from Kd.V_mono hs1_0 (fun k_ hk => .inl (.inr hk)))
 have HB:=Aside0.mk (Below.refl w.heap.size w)
 have H : ((ratlinelaw09_Few.f k (([(⟨l0_0,a0_1,a0_2,a0_3⟩ : S54),(⟨l1_0,a1_1,a1_2,a1_3⟩ : S54)] : List (S54)))).bind fun t509 => (if t509 = true then ((edit_Apply.f ([] : List (S62)) 0 0 0 l0_0 a0_1 a0_2 a0_3).bind fun bt511 => ((edit_Apply.f bt511.1 bt511.2.1 bt511.2.2.1 bt511.2.2.2.1 l1_0 a1_1 a1_2 a1_3).bind fun bt519 => ((edit_Bytes.f l0_0 a0_1 a0_2 a0_3).bind fun bt527 => ((edit_Whole.f bt511.1 bt511.2.1 bt511.2.2.1 bt511.2.2.2.1).bind fun bt531 => ((some (([] : List (S62)) : List (S62))).bind fun y538 => (if y538.length + bt511.1.length < 2932031007402 then (ratlinelaw09_EditApart.l0 k bt511.2.2.2.2 bt519.2.2.2.2 bt527.1 (y538 ++ bt511.1) (bt519.1.length : Int) 0 l0_0 a0_1 a0_2 a0_3 bt511.1 bt511.2.1 bt511.2.2.1 bt511.2.2.2.1 bt519.1 bt519.2.1 bt519.2.2.1 bt519.2.2.2.1 bt531.1 bt531.2.1 bt531.2.2.1 bt531.2.2.2) else (none))))))) else ((ratlinelaw09_awake.f).bind fun t510 => (some t510)))) = some r:=h
 clear h
 obtain ⟨y506,hy506⟩ : ∃ y_ : List (S54),y_ = (([(⟨l0_0,a0_1,a0_2,a0_3⟩ : S54),(⟨l1_0,a1_1,a1_2,a1_3⟩ : S54)] : List (S54))):=⟨_,rfl⟩
 replace H : ((ratlinelaw09_Few.f k y506).bind fun t509 => (if t509 = true then ((edit_Apply.f ([] : List (S62)) 0 0 0 l0_0 a0_1 a0_2 a0_3).bind fun bt511 => ((edit_Apply.f bt511.1 bt511.2.1 bt511.2.2.1 bt511.2.2.2.1 l1_0 a1_1 a1_2 a1_3).bind fun bt519 => ((edit_Bytes.f l0_0 a0_1 a0_2 a0_3).bind fun bt527 => ((edit_Whole.f bt511.1 bt511.2.1 bt511.2.2.1 bt511.2.2.2.1).bind fun bt531 => ((some (([] : List (S62)) : List (S62))).bind fun y538 => (if y538.length + bt511.1.length < 2932031007402 then (ratlinelaw09_EditApart.l0 k bt511.2.2.2.2 bt519.2.2.2.2 bt527.1 (y538 ++ bt511.1) (bt519.1.length : Int) 0 l0_0 a0_1 a0_2 a0_3 bt511.1 bt511.2.1 bt511.2.2.1 bt511.2.2.2.1 bt519.1 bt519.2.1 bt519.2.2.1 bt519.2.2.2.1 bt531.1 bt531.2.1 bt531.2.2.1 bt531.2.2.2) else (none))))))) else ((ratlinelaw09_awake.f).bind fun t510 => (some t510)))) = some r:=by first|(rw [hy506];with_reducible exact H)|(have H2_:=(Option.bind_some _ _).symm.trans H;rw [hy506];with_reducible exact H2_)|(have H2_:=(Option.bind_some _ _).symm.trans H;with_reducible exact H2_)|with_reducible exact H|(rw [hy506];exact H)|exact H
 have Ny506:=Aside0.mk hy506
 clear hy506
 replace H:=Option.bind_eq_some_iff.mp H
 obtain ⟨t509,A30,H⟩:=H
 have A3:=Aside0.mk A30
 clear A30
 by_cases c4 : t509 = true
 rotate_left
 ·replace c4:=Bool.eq_false_iff.mpr c4
  subst c4
  have H1 : ((ratlinelaw09_awake.f).bind fun t510 => (some t510)) = some r:=by rw [if_neg (show ¬ (false = true) by decide)] at H;exact H
  clear H
  have H:=H1
  clear H1
  replace H:=Option.bind_eq_some_iff.mp H
  obtain ⟨t510,A1330,H⟩:=H
  replace H : (some t510) = some r:=H
  have A133:=Aside0.mk A1330
  clear A1330
  obtain rfl:=Option.some.inj H
  go_enter Try.func9,Try.ntmps9
  go_wp2_with (first|((with_reducible refine gate_dst (N:=2) rfl ?_);refine box_event ?hg (N:=2) ?hd (cs:=#[.slice A0_0 l0_0.length c0_0,.int .u64 a0_1,.int .u64 a0_2,.int .u64 a0_3]) (t:=54) ?hr ?_;(case hd => rfl);(case hg => rfl);(case hr => first|(go_simp;done)|(go_simp;rfl));intro gb504 hg w134 hbox hb;have n0_:=Aside0.mk (Kd.V_below (Kd.V_elderB (by (with_reducible repeat (first|apply vA|apply vN|apply vD));exact HO0_0.out) gb504 (Nat.le_of_eq hg.symm)) hb);have n1_:=Aside0.mk (Kd.V_below (Kd.V_elderB (by (with_reducible repeat (first|apply vA|apply vN|apply vD));exact HO1_0.out) gb504 (Nat.le_of_eq hg.symm)) hb);have n2_:=Aside0.mk (below_step (by repeat (first|(with_reducible first|exact HB.out|apply below_alloc|apply pw_below_drewN|apply below_drew1)|exact HB.out)) hb);have n3_:=Aside0.mk (hbox);have n4_:=Aside0.mk ((by rw [hg];exact (below_size (by repeat (first|(with_reducible first|exact HB.out|apply below_alloc|apply pw_below_drewN|apply below_drew1)|exact HB.out))) : w.heap.size ≤ gb504));have n5_:=Aside0.mk ((by rw [hg];exact (below_size (by repeat (first|(with_reducible first|exact HB.out|apply below_alloc|apply pw_below_drewN|apply below_drew1)|exact HB.out))) : w.heap.size ≤ gb504));clear HO0_0;clear HO1_0;clear HB;have HO0_0:=n0_;have HO1_0:=n1_;have HB:=n2_;have BK504:=n3_;have GW504:=n4_;have GE504:=n5_;clear n0_ n1_ n2_ n3_ n4_ n5_;clear hb hbox hg)|((with_reducible refine gate_dst (N:=3) rfl ?_);refine box_event ?hg (N:=3) ?hd (cs:=#[.slice A1_0 l1_0.length c1_0,.int .u64 a1_1,.int .u64 a1_2,.int .u64 a1_3]) (t:=54) ?hr ?_;(case hd => rfl);(case hg => rfl);(case hr => first|(go_simp;done)|(go_simp;rfl));intro gb505 hg w135 hbox hb;have n0_:=Aside0.mk (Kd.V_below (Kd.V_elderB (by (with_reducible repeat (first|apply vA|apply vN|apply vD));exact HO0_0.out) gb505 (Nat.le_of_eq hg.symm)) hb);have n1_:=Aside0.mk (Kd.V_below (Kd.V_elderB (by (with_reducible repeat (first|apply vA|apply vN|apply vD));exact HO1_0.out) gb505 (Nat.le_of_eq hg.symm)) hb);have n2_:=Aside0.mk (blk_below (g:=gb504) (o:=.cells #[.slice A0_0 l0_0.length c0_0,.int .u64 a0_1,.int .u64 a0_2,.int .u64 a0_3] 54 (0,0)) (by (with_reducible repeat (first|refine bN ?_ _|refine bD ?_|refine bA ?_ _));exact BK504.out) hb);have n3_:=Aside0.mk (below_step (by repeat (first|(with_reducible first|exact HB.out|apply below_alloc|apply pw_below_drewN|apply below_drew1|refine below_set ?_ GE504.out)|exact HB.out)) hb);have n4_:=Aside0.mk (hbox);have n5_:=Aside0.mk ((by rw [hg];exact (below_size (by repeat (first|(with_reducible first|exact HB.out|apply below_alloc|apply pw_below_drewN|apply below_drew1|refine below_set ?_ GE504.out)|exact HB.out))) : w.heap.size ≤ gb505));have n6_:=Aside0.mk ((by rw [hg];exact (below_size (by repeat (first|(with_reducible first|exact HB.out|apply below_alloc|apply pw_below_drewN|apply below_drew1|refine below_set ?_ GE504.out)|exact HB.out))) : w.heap.size ≤ gb505));have n7_:=Aside0.mk ((by rw [hg];exact Nat.ne_of_lt (blk_lt (g:=gb504) (o:=.cells #[.slice A0_0 l0_0.length c0_0,.int .u64 a0_1,.int .u64 a0_2,.int .u64 a0_3] 54 (0,0)) (by (with_reducible repeat (first|refine bN ?_ _|refine bD ?_|refine bA ?_ _));exact BK504.out)) : gb504 ≠ gb505));have n8_:=Aside0.mk ((by rw [hg];exact Nat.ne_of_gt (blk_lt (g:=gb504) (o:=.cells #[.slice A0_0 l0_0.length c0_0,.int .u64 a0_1,.int .u64 a0_2,.int .u64 a0_3] 54 (0,0)) (by (with_reducible repeat (first|refine bN ?_ _|refine bD ?_|refine bA ?_ _));exact BK504.out)) : gb505 ≠ gb504));clear HO0_0;clear HO1_0;clear BK504;clear HB;have HO0_0:=n0_;have HO1_0:=n1_;have BK504:=n2_;have HB:=n3_;have BK505:=n4_;have GW505:=n5_;have GE505:=n6_;have NB504_505:=n7_;have NB505_504:=n8_;clear n0_ n1_ n2_ n3_ n4_ n5_ n6_ n7_ n8_;clear hb hbox hg;have hnb136:=NB504_505.out;have hnc136:=NB505_504.out;have hcz137_0 : w135.cell? ⟨gb504,0,none⟩ = some (.slice A0_0 l0_0.length c0_0):=(blk_cell BK504.out 0).trans rfl;have hcz137_1 : w135.cell? ⟨gb504,1,none⟩ = some (.int .u64 a0_1):=(blk_cell BK504.out 1).trans rfl;have hcz137_2 : w135.cell? ⟨gb504,2,none⟩ = some (.int .u64 a0_2):=(blk_cell BK504.out 2).trans rfl;have hcz137_3 : w135.cell? ⟨gb504,3,none⟩ = some (.int .u64 a0_3):=(blk_cell BK504.out 3).trans rfl;have hfz137_0:=blk_frozen BK504.out 0;have hfz137_1:=blk_frozen BK504.out 1;have hfz137_2:=blk_frozen BK504.out 2;have hfz137_3:=blk_frozen BK504.out 3;have hcz138_0 : w135.cell? ⟨gb505,0,none⟩ = some (.slice A1_0 l1_0.length c1_0):=(blk_cell BK505.out 0).trans rfl;have hcz138_1 : w135.cell? ⟨gb505,1,none⟩ = some (.int .u64 a1_1):=(blk_cell BK505.out 1).trans rfl;have hcz138_2 : w135.cell? ⟨gb505,2,none⟩ = some (.int .u64 a1_2):=(blk_cell BK505.out 2).trans rfl;have hcz138_3 : w135.cell? ⟨gb505,3,none⟩ = some (.int .u64 a1_3):=(blk_cell BK505.out 3).trans rfl;have hfz138_0:=blk_frozen BK505.out 0;have hfz138_1:=blk_frozen BK505.out 1;have hfz138_2:=blk_frozen BK505.out 2;have hfz138_3:=blk_frozen BK505.out 3)|((with_reducible refine gate_dst (N:=20) rfl ?_);refine Kd.N_lit k54 _ 54 ?hg (N':=20) ?hd (xs:=([(⟨l0_0,a0_1,a0_2,a0_3⟩ : S54),(⟨l1_0,a1_1,a1_2,a1_3⟩ : S54)] : List (S54))) (inner:=[.slice A0_0 l0_0.length c0_0,.int .u64 a0_1,.int .u64 a0_2,.int .u64 a0_3,.slice A1_0 l1_0.length c1_0,.int .u64 a1_1,.int .u64 a1_2,.int .u64 a1_3]) (ok:=(fun k_ => ((P0_0_ k_ ∨ P1_0_ k_) ∨ w.heap.size ≤ k_) ∧ k_ ≠ gb504 ∧ k_ ≠ gb505)) (okp:=(fun k_ => ((P0_0_ k_ ∨ P1_0_ k_) ∨ w.heap.size ≤ k_) ∧ k_ ≠ gb504 ∧ k_ ≠ gb505)) ?hr ?hp (fun _ hk => hk) ((show ∀ k_,w135.heap.size ≤ k_ → (fun k_ => ((P0_0_ k_ ∨ P1_0_ k_) ∨ w.heap.size ≤ k_) ∧ k_ ≠ gb504 ∧ k_ ≠ gb505) k_ from fun k_ hk => ⟨(.inr (Nat.le_trans (below_size (by repeat (first|(with_reducible first|exact HB.out|apply below_alloc|apply pw_below_drewN|apply below_drew1|refine below_set ?_ GE504.out|refine below_set ?_ GE505.out)|exact HB.out))) hk)),Kd.freshB (g:=gb504) (o:=.cells #[.slice A0_0 l0_0.length c0_0,.int .u64 a0_1,.int .u64 a0_2,.int .u64 a0_3] 54 (0,0)) (by (with_reducible repeat (first|refine bN ?_ _|refine bD ?_|refine bA ?_ _));exact BK504.out) k_ hk,Kd.freshB (g:=gb505) (o:=.cells #[.slice A1_0 l1_0.length c1_0,.int .u64 a1_1,.int .u64 a1_2,.int .u64 a1_3] 54 (0,0)) (by (with_reducible repeat (first|refine bN ?_ _|refine bD ?_|refine bA ?_ _));exact BK505.out) k_ hk⟩) _ (Nat.le_refl _)) (Below.refl _ _) (Nat.le_refl _) (by simp) ?_;(case hd => rfl);(case hg => rfl);(case hr => first|(go_simp;done)|(go_simp;rfl));(case hp => exact (Reps.c4 (show Kd.FK k54 _ _ (⟨l0_0,a0_1,a0_2,a0_3⟩ : S54) [.slice A0_0 l0_0.length c0_0,.int .u64 a0_1,.int .u64 a0_2,.int .u64 a0_3] from (k54_mkF _ _ (⟨l0_0,a0_1,a0_2,a0_3⟩ : S54) (Kd.V_reads' (Kd.V_mono (ok':=(fun k_ => ((P0_0_ k_ ∨ P1_0_ k_) ∨ w.heap.size ≤ k_) ∧ k_ ≠ gb504 ∧ k_ ≠ gb505)) (HO0_0.out) (fun k_ hk => ⟨hk.1.1,⟨hk.1.2,hk.2⟩⟩))).2.1 (Kd.V_F (Kd.V_mono (ok':=(fun k_ => ((P0_0_ k_ ∨ P1_0_ k_) ∨ w.heap.size ≤ k_) ∧ k_ ≠ gb504 ∧ k_ ≠ gb505)) (HO0_0.out) (fun k_ hk => ⟨hk.1.1,⟨hk.1.2,hk.2⟩⟩))))) (Reps.c4 (show Kd.FK k54 _ _ (⟨l1_0,a1_1,a1_2,a1_3⟩ : S54) [.slice A1_0 l1_0.length c1_0,.int .u64 a1_1,.int .u64 a1_2,.int .u64 a1_3] from (k54_mkF _ _ (⟨l1_0,a1_1,a1_2,a1_3⟩ : S54) (Kd.V_reads' (Kd.V_mono (ok':=(fun k_ => ((P0_0_ k_ ∨ P1_0_ k_) ∨ w.heap.size ≤ k_) ∧ k_ ≠ gb504 ∧ k_ ≠ gb505)) (HO1_0.out) (fun k_ hk => ⟨hk.1.1,⟨hk.1.2,hk.2⟩⟩))).2.1 (Kd.V_F (Kd.V_mono (ok':=(fun k_ => ((P0_0_ k_ ∨ P1_0_ k_) ∨ w.heap.size ≤ k_) ∧ k_ ≠ gb504 ∧ k_ ≠ gb505)) (HO1_0.out) (fun k_ hk => ⟨hk.1.1,⟨hk.1.2,hk.2⟩⟩))))) (Reps.none _ _))));intro v507 w139 ho140 hb hg_ hnew_;clear hg_ hnew_;(first|rw [← Ny506.out] at ho140|(simp only [Int.reduceToNat] at ho140;rw [← Ny506.out] at ho140));have n0_:=Aside0.mk (Kd.V_elder' (by (with_reducible repeat (first|apply vA|apply vN|apply vD));exact HO0_0.out) (Kd.N_base ho140) hb);have n1_:=Aside0.mk (Kd.V_elder' (by (with_reducible repeat (first|apply vA|apply vN|apply vD));exact HO1_0.out) (Kd.N_base ho140) hb);have n2_:=Aside0.mk (Kd.N_lower ho140 (below_size (by repeat (first|(with_reducible first|exact HB.out|apply below_alloc|apply pw_below_drewN|apply below_drew1|refine below_set ?_ GE504.out|refine below_set ?_ GE505.out)|exact HB.out))));have n3_:=Aside0.mk (blk_below (g:=gb504) (o:=.cells #[.slice A0_0 l0_0.length c0_0,.int .u64 a0_1,.int .u64 a0_2,.int .u64 a0_3] 54 (0,0)) (by (with_reducible repeat (first|refine bN ?_ _|refine bD ?_|refine bA ?_ _));exact BK504.out) hb);have n4_:=Aside0.mk (blk_below (g:=gb505) (o:=.cells #[.slice A1_0 l1_0.length c1_0,.int .u64 a1_1,.int .u64 a1_2,.int .u64 a1_3] 54 (0,0)) (by (with_reducible repeat (first|refine bN ?_ _|refine bD ?_|refine bA ?_ _));exact BK505.out) hb);have n5_:=Aside0.mk (below_step (by repeat (first|(with_reducible first|exact HB.out|apply below_alloc|apply pw_below_drewN|apply below_drew1|refine below_set ?_ GE504.out|refine below_set ?_ GE505.out)|exact HB.out)) hb);clear HO0_0;clear HO1_0;clear BK504;clear BK505;clear HB;have HO0_0:=n0_;have HO1_0:=n1_;have HO508:=n2_;have BK504:=n3_;have BK505:=n4_;have HB:=n5_;clear n0_ n1_ n2_ n3_ n4_ n5_;clear hb ho140;obtain ⟨Ao141,co141,eo141⟩:=Kd.N_slice HO508.out;subst eo141)|(go_at_call 30;(with_reducible refine (ratlinelaw09_Few.calls k _ _ y506 false _ ?side1 ?side2 A3.out).mono ?_);(case side1 => repeat (first|exact (Kd.N_reads' HO508.out).2.2|(with_reducible refine Kd.C_alloc ?_ _)|(with_reducible refine Kd.C_drewN ?_ _)|(with_reducible refine Kd.C_drew ?_)));(case side2 => exact (Kd.N_reads' HO508.out).2.1);rintro e w142 ⟨rfl,hb⟩;have n0_:=Aside0.mk (Kd.V_below (by (with_reducible repeat (first|apply vA|apply vN|apply vD));exact HO0_0.out) hb);have n1_:=Aside0.mk (Kd.V_below (by (with_reducible repeat (first|apply vA|apply vN|apply vD));exact HO1_0.out) hb);have n2_:=Aside0.mk (Kd.N_below (by (with_reducible repeat (first|apply nA|apply nN|apply nD));exact HO508.out) hb);have n3_:=Aside0.mk (blk_below (g:=gb504) (o:=.cells #[.slice A0_0 l0_0.length c0_0,.int .u64 a0_1,.int .u64 a0_2,.int .u64 a0_3] 54 (0,0)) (by (with_reducible repeat (first|refine bN ?_ _|refine bD ?_|refine bA ?_ _));exact BK504.out) hb);have n4_:=Aside0.mk (blk_below (g:=gb505) (o:=.cells #[.slice A1_0 l1_0.length c1_0,.int .u64 a1_1,.int .u64 a1_2,.int .u64 a1_3] 54 (0,0)) (by (with_reducible repeat (first|refine bN ?_ _|refine bD ?_|refine bA ?_ _));exact BK505.out) hb);have n5_:=Aside0.mk (below_step (by repeat (first|(with_reducible first|exact HB.out|apply below_alloc|apply pw_below_drewN|apply below_drew1|refine below_set ?_ GE504.out|refine below_set ?_ GE505.out)|exact HB.out)) hb);clear HO0_0;clear HO1_0;clear HO508;clear BK504;clear BK505;clear HB;have HO0_0:=n0_;have HO1_0:=n1_;have HO508:=n2_;have BK504:=n3_;have BK505:=n4_;have HB:=n5_;clear n0_ n1_ n2_ n3_ n4_ n5_;(try clear hb);(try clear hb2);(try clear hk);(try clear hi))|(go_at_call 31;(with_reducible refine (ratlinelaw09_awake.calls  t510 _ A133.out).mono ?_);rintro e w143 ⟨rfl,hb⟩;have n0_:=Aside0.mk (Kd.V_below (by (with_reducible repeat (first|apply vA|apply vN|apply vD));exact HO0_0.out) hb);have n1_:=Aside0.mk (Kd.V_below (by (with_reducible repeat (first|apply vA|apply vN|apply vD));exact HO1_0.out) hb);have n2_:=Aside0.mk (Kd.N_below (by (with_reducible repeat (first|apply nA|apply nN|apply nD));exact HO508.out) hb);have n3_:=Aside0.mk (blk_below (g:=gb504) (o:=.cells #[.slice A0_0 l0_0.length c0_0,.int .u64 a0_1,.int .u64 a0_2,.int .u64 a0_3] 54 (0,0)) (by (with_reducible repeat (first|refine bN ?_ _|refine bD ?_|refine bA ?_ _));exact BK504.out) hb);have n4_:=Aside0.mk (blk_below (g:=gb505) (o:=.cells #[.slice A1_0 l1_0.length c1_0,.int .u64 a1_1,.int .u64 a1_2,.int .u64 a1_3] 54 (0,0)) (by (with_reducible repeat (first|refine bN ?_ _|refine bD ?_|refine bA ?_ _));exact BK505.out) hb);have n5_:=Aside0.mk (below_step (by repeat (first|(with_reducible first|exact HB.out|apply below_alloc|apply pw_below_drewN|apply below_drew1|refine below_set ?_ GE504.out|refine below_set ?_ GE505.out)|exact HB.out)) hb);clear HO0_0;clear HO1_0;clear HO508;clear BK504;clear BK505;clear HB;have HO0_0:=n0_;have HO1_0:=n1_;have HO508:=n2_;have BK504:=n3_;have BK505:=n4_;have HB:=n5_;clear n0_ n1_ n2_ n3_ n4_ n5_;(try clear hb);(try clear hb2);(try clear hk);(try clear hi);(try apply_assumption)))
  repeat (go_quiet (fail);try go_wp2)
  go_ret
  exact ⟨by first|rfl|(simp [errW_none,errW_some] <;> rfl)|(simp [*,errW_none,errW_some] <;> rfl),by repeat (first|(with_reducible first|exact HB.out|apply below_alloc|apply pw_below_drewN|apply below_drew1|refine below_set ?_ GE504.out|refine below_set ?_ GE505.out)|exact HB.out)⟩

 subst c4
 have H1 : ((edit_Apply.f ([] : List (S62)) 0 0 0 l0_0 a0_1 a0_2 a0_3).bind fun bt511 => ((edit_Apply.f bt511.1 bt511.2.1 bt511.2.2.1 bt511.2.2.2.1 l1_0 a1_1 a1_2 a1_3).bind fun bt519 => ((edit_Bytes.f l0_0 a0_1 a0_2 a0_3).bind fun bt527 => ((edit_Whole.f bt511.1 bt511.2.1 bt511.2.2.1 bt511.2.2.2.1).bind fun bt531 => ((some (([] : List (S62)) : List (S62))).bind fun y538 => (if y538.length + bt511.1.length < 2932031007402 then (ratlinelaw09_EditApart.l0 k bt511.2.2.2.2 bt519.2.2.2.2 bt527.1 (y538 ++ bt511.1) (bt519.1.length : Int) 0 l0_0 a0_1 a0_2 a0_3 bt511.1 bt511.2.1 bt511.2.2.1 bt511.2.2.2.1 bt519.1 bt519.2.1 bt519.2.2.1 bt519.2.2.2.1 bt531.1 bt531.2.1 bt531.2.2.1 bt531.2.2.2) else (none))))))) = some r:=by rw [if_pos rfl] at H;exact H
 clear H
 have H:=H1
 clear H1
 replace H:=Option.bind_eq_some_iff.mp H
 obtain ⟨⟨t511,t514,t515,t516,t517⟩,A50,H⟩:=H
 replace H : ((edit_Apply.f t511 t514 t515 t516 l1_0 a1_1 a1_2 a1_3).bind fun bt519 => ((edit_Bytes.f l0_0 a0_1 a0_2 a0_3).bind fun bt527 => ((edit_Whole.f t511 t514 t515 t516).bind fun bt531 => ((some (([] : List (S62)) : List (S62))).bind fun y538 => (if y538.length + t511.length < 2932031007402 then (ratlinelaw09_EditApart.l0 k t517 bt519.2.2.2.2 bt527.1 (y538 ++ t511) (bt519.1.length : Int) 0 l0_0 a0_1 a0_2 a0_3 t511 t514 t515 t516 bt519.1 bt519.2.1 bt519.2.2.1 bt519.2.2.2.1 bt531.1 bt531.2.1 bt531.2.2.1 bt531.2.2.2) else (none)))))) = some r:=H
 have A5:=Aside0.mk A50
 clear A50
 replace H:=Option.bind_eq_some_iff.mp H
 obtain ⟨⟨t519,t522,t523,t524,t525⟩,A60,H⟩:=H
 replace H : ((edit_Bytes.f l0_0 a0_1 a0_2 a0_3).bind fun bt527 => ((edit_Whole.f t511 t514 t515 t516).bind fun bt531 => ((some (([] : List (S62)) : List (S62))).bind fun y538 => (if y538.length + t511.length < 2932031007402 then (ratlinelaw09_EditApart.l0 k t517 t525 bt527.1 (y538 ++ t511) (t519.length : Int) 0 l0_0 a0_1 a0_2 a0_3 t511 t514 t515 t516 t519 t522 t523 t524 bt531.1 bt531.2.1 bt531.2.2.1 bt531.2.2.2) else (none))))) = some r:=H
 have A6:=Aside0.mk A60
 clear A60
 replace H:=Option.bind_eq_some_iff.mp H
 obtain ⟨⟨t527,t530⟩,A70,H⟩:=H
 replace H : ((edit_Whole.f t511 t514 t515 t516).bind fun bt531 => ((some (([] : List (S62)) : List (S62))).bind fun y538 => (if y538.length + t511.length < 2932031007402 then (ratlinelaw09_EditApart.l0 k t517 t525 t527 (y538 ++ t511) (t519.length : Int) 0 l0_0 a0_1 a0_2 a0_3 t511 t514 t515 t516 t519 t522 t523 t524 bt531.1 bt531.2.1 bt531.2.2.1 bt531.2.2.2) else (none)))) = some r:=H
 have A7:=Aside0.mk A70
 clear A70
 replace H:=Option.bind_eq_some_iff.mp H
 obtain ⟨⟨t531,t534,t535,t536⟩,A80,H⟩:=H
 replace H : ((some (([] : List (S62)) : List (S62))).bind fun y538 => (if y538.length + t511.length < 2932031007402 then (ratlinelaw09_EditApart.l0 k t517 t525 t527 (y538 ++ t511) (t519.length : Int) 0 l0_0 a0_1 a0_2 a0_3 t511 t514 t515 t516 t519 t522 t523 t524 t531 t534 t535 t536) else (none))) = some r:=H
 have A8:=Aside0.mk A80
 clear A80
 obtain ⟨y538,hy538⟩ : ∃ y_ : List (S62),y_ = (([] : List (S62))):=⟨_,rfl⟩
 replace H : (if y538.length + t511.length < 2932031007402 then (ratlinelaw09_EditApart.l0 k t517 t525 t527 (y538 ++ t511) (t519.length : Int) 0 l0_0 a0_1 a0_2 a0_3 t511 t514 t515 t516 t519 t522 t523 t524 t531 t534 t535 t536) else (none)) = some r:=by first|(rw [hy538];with_reducible exact H)|(have H2_:=(Option.bind_some _ _).symm.trans H;rw [hy538];with_reducible exact H2_)|(have H2_:=(Option.bind_some _ _).symm.trans H;with_reducible exact H2_)|with_reducible exact H|(rw [hy538];exact H)|exact H
 have Ny538:=Aside0.mk hy538
 clear hy538
 by_cases c9 : y538.length + t511.length < 2932031007402
 rotate_left
 ·rw [if_neg c9] at H
  exact absurd H (by simp)
 rw [if_pos c9] at H
 have LMc9:=Aside0.mk c9
 clear c9
 obtain ⟨y541,hy541⟩ : ∃ y_ : List (S62),y_ = (y538 ++ t511):=⟨_,rfl⟩
 replace H : (ratlinelaw09_EditApart.l0 k t517 t525 t527 y541 (t519.length : Int) 0 l0_0 a0_1 a0_2 a0_3 t511 t514 t515 t516 t519 t522 t523 t524 t531 t534 t535 t536) = some r:=by first|(rw [hy541];with_reducible exact H)|(have H2_:=(Option.bind_some _ _).symm.trans H;rw [hy541];with_reducible exact H2_)|(have H2_:=(Option.bind_some _ _).symm.trans H;with_reducible exact H2_)|with_reducible exact H|(rw [hy541];exact H)|exact H
 have Ny541:=Aside0.mk hy541
 clear hy541
 have H':=Aside0.mk H
 clear H
 go_enter Try.func9,Try.ntmps9
 go_wp2_with (first|((with_reducible refine gate_dst (N:=2) rfl ?_);refine box_event ?hg (N:=2) ?hd (cs:=#[.slice A0_0 l0_0.length c0_0,.int .u64 a0_1,.int .u64 a0_2,.int .u64 a0_3]) (t:=54) ?hr ?_;(case hd => rfl);(case hg => rfl);(case hr => first|(go_simp;done)|(go_simp;rfl));intro gb504 hg w10 hbox hb;have n0_:=Aside0.mk (Kd.V_below (Kd.V_elderB (by (with_reducible repeat (first|apply vA|apply vN|apply vD));exact HO0_0.out) gb504 (Nat.le_of_eq hg.symm)) hb);have n1_:=Aside0.mk (Kd.V_below (Kd.V_elderB (by (with_reducible repeat (first|apply vA|apply vN|apply vD));exact HO1_0.out) gb504 (Nat.le_of_eq hg.symm)) hb);have n2_:=Aside0.mk (below_step (by repeat (first|(with_reducible first|exact HB.out|apply below_alloc|apply pw_below_drewN|apply below_drew1)|exact HB.out)) hb);have n3_:=Aside0.mk (hbox);have n4_:=Aside0.mk ((by rw [hg];exact (below_size (by repeat (first|(with_reducible first|exact HB.out|apply below_alloc|apply pw_below_drewN|apply below_drew1)|exact HB.out))) : w.heap.size ≤ gb504));have n5_:=Aside0.mk ((by rw [hg];exact (below_size (by repeat (first|(with_reducible first|exact HB.out|apply below_alloc|apply pw_below_drewN|apply below_drew1)|exact HB.out))) : w.heap.size ≤ gb504));clear HO0_0;clear HO1_0;clear HB;have HO0_0:=n0_;have HO1_0:=n1_;have HB:=n2_;have BK504:=n3_;have GW504:=n4_;have GE504:=n5_;clear n0_ n1_ n2_ n3_ n4_ n5_;clear hb hbox hg)|((with_reducible refine gate_dst (N:=3) rfl ?_);refine box_event ?hg (N:=3) ?hd (cs:=#[.slice A1_0 l1_0.length c1_0,.int .u64 a1_1,.int .u64 a1_2,.int .u64 a1_3]) (t:=54) ?hr ?_;(case hd => rfl);(case hg => rfl);(case hr => first|(go_simp;done)|(go_simp;rfl));intro gb505 hg w11 hbox hb;have n0_:=Aside0.mk (Kd.V_below (Kd.V_elderB (by (with_reducible repeat (first|apply vA|apply vN|apply vD));exact HO0_0.out) gb505 (Nat.le_of_eq hg.symm)) hb);have n1_:=Aside0.mk (Kd.V_below (Kd.V_elderB (by (with_reducible repeat (first|apply vA|apply vN|apply vD));exact HO1_0.out) gb505 (Nat.le_of_eq hg.symm)) hb);have n2_:=Aside0.mk (blk_below (g:=gb504) (o:=.cells #[.slice A0_0 l0_0.length c0_0,.int .u64 a0_1,.int .u64 a0_2,.int .u64 a0_3] 54 (0,0)) (by (with_reducible repeat (first|refine bN ?_ _|refine bD ?_|refine bA ?_ _));exact BK504.out) hb);have n3_:=Aside0.mk (below_step (by repeat (first|(with_reducible first|exact HB.out|apply below_alloc|apply pw_below_drewN|apply below_drew1|refine below_set ?_ GE504.out)|exact HB.out)) hb);have n4_:=Aside0.mk (hbox);have n5_:=Aside0.mk ((by rw [hg];exact (below_size (by repeat (first|(with_reducible first|exact HB.out|apply below_alloc|apply pw_below_drewN|apply below_drew1|refine below_set ?_ GE504.out)|exact HB.out))) : w.heap.size ≤ gb505));have n6_:=Aside0.mk ((by rw [hg];exact (below_size (by repeat (first|(with_reducible first|exact HB.out|apply below_alloc|apply pw_below_drewN|apply below_drew1|refine below_set ?_ GE504.out)|exact HB.out))) : w.heap.size ≤ gb505));have n7_:=Aside0.mk ((by rw [hg];exact Nat.ne_of_lt (blk_lt (g:=gb504) (o:=.cells #[.slice A0_0 l0_0.length c0_0,.int .u64 a0_1,.int .u64 a0_2,.int .u64 a0_3] 54 (0,0)) (by (with_reducible repeat (first|refine bN ?_ _|refine bD ?_|refine bA ?_ _));exact BK504.out)) : gb504 ≠ gb505));have n8_:=Aside0.mk ((by rw [hg];exact Nat.ne_of_gt (blk_lt (g:=gb504) (o:=.cells #[.slice A0_0 l0_0.length c0_0,.int .u64 a0_1,.int .u64 a0_2,.int .u64 a0_3] 54 (0,0)) (by (with_reducible repeat (first|refine bN ?_ _|refine bD ?_|refine bA ?_ _));exact BK504.out)) : gb505 ≠ gb504));clear HO0_0;clear HO1_0;clear BK504;clear HB;have HO0_0:=n0_;have HO1_0:=n1_;have BK504:=n2_;have HB:=n3_;have BK505:=n4_;have GW505:=n5_;have GE505:=n6_;have NB504_505:=n7_;have NB505_504:=n8_;clear n0_ n1_ n2_ n3_ n4_ n5_ n6_ n7_ n8_;clear hb hbox hg;have hnb12:=NB504_505.out;have hnc12:=NB505_504.out;have hcz13_0 : w11.cell? ⟨gb504,0,none⟩ = some (.slice A0_0 l0_0.length c0_0):=(blk_cell BK504.out 0).trans rfl;have hcz13_1 : w11.cell? ⟨gb504,1,none⟩ = some (.int .u64 a0_1):=(blk_cell BK504.out 1).trans rfl;have hcz13_2 : w11.cell? ⟨gb504,2,none⟩ = some (.int .u64 a0_2):=(blk_cell BK504.out 2).trans rfl;have hcz13_3 : w11.cell? ⟨gb504,3,none⟩ = some (.int .u64 a0_3):=(blk_cell BK504.out 3).trans rfl;have hfz13_0:=blk_frozen BK504.out 0;have hfz13_1:=blk_frozen BK504.out 1;have hfz13_2:=blk_frozen BK504.out 2;have hfz13_3:=blk_frozen BK504.out 3;have hcz14_0 : w11.cell? ⟨gb505,0,none⟩ = some (.slice A1_0 l1_0.length c1_0):=(blk_cell BK505.out 0).trans rfl;have hcz14_1 : w11.cell? ⟨gb505,1,none⟩ = some (.int .u64 a1_1):=(blk_cell BK505.out 1).trans rfl;have hcz14_2 : w11.cell? ⟨gb505,2,none⟩ = some (.int .u64 a1_2):=(blk_cell BK505.out 2).trans rfl;have hcz14_3 : w11.cell? ⟨gb505,3,none⟩ = some (.int .u64 a1_3):=(blk_cell BK505.out 3).trans rfl;have hfz14_0:=blk_frozen BK505.out 0;have hfz14_1:=blk_frozen BK505.out 1;have hfz14_2:=blk_frozen BK505.out 2;have hfz14_3:=blk_frozen BK505.out 3)|((with_reducible refine gate_dst (N:=20) rfl ?_);refine Kd.N_lit k54 _ 54 ?hg (N':=20) ?hd (xs:=([(⟨l0_0,a0_1,a0_2,a0_3⟩ : S54),(⟨l1_0,a1_1,a1_2,a1_3⟩ : S54)] : List (S54))) (inner:=[.slice A0_0 l0_0.length c0_0,.int .u64 a0_1,.int .u64 a0_2,.int .u64 a0_3,.slice A1_0 l1_0.length c1_0,.int .u64 a1_1,.int .u64 a1_2,.int .u64 a1_3]) (ok:=(fun k_ => ((P0_0_ k_ ∨ P1_0_ k_) ∨ w.heap.size ≤ k_) ∧ k_ ≠ gb504 ∧ k_ ≠ gb505)) (okp:=(fun k_ => ((P0_0_ k_ ∨ P1_0_ k_) ∨ w.heap.size ≤ k_) ∧ k_ ≠ gb504 ∧ k_ ≠ gb505)) ?hr ?hp (fun _ hk => hk) ((show ∀ k_,w11.heap.size ≤ k_ → (fun k_ => ((P0_0_ k_ ∨ P1_0_ k_) ∨ w.heap.size ≤ k_) ∧ k_ ≠ gb504 ∧ k_ ≠ gb505) k_ from fun k_ hk => ⟨(.inr (Nat.le_trans (below_size (by repeat (first|(with_reducible first|exact HB.out|apply below_alloc|apply pw_below_drewN|apply below_drew1|refine below_set ?_ GE504.out|refine below_set ?_ GE505.out)|exact HB.out))) hk)),Kd.freshB (g:=gb504) (o:=.cells #[.slice A0_0 l0_0.length c0_0,.int .u64 a0_1,.int .u64 a0_2,.int .u64 a0_3] 54 (0,0)) (by (with_reducible repeat (first|refine bN ?_ _|refine bD ?_|refine bA ?_ _));exact BK504.out) k_ hk,Kd.freshB (g:=gb505) (o:=.cells #[.slice A1_0 l1_0.length c1_0,.int .u64 a1_1,.int .u64 a1_2,.int .u64 a1_3] 54 (0,0)) (by (with_reducible repeat (first|refine bN ?_ _|refine bD ?_|refine bA ?_ _));exact BK505.out) k_ hk⟩) _ (Nat.le_refl _)) (Below.refl _ _) (Nat.le_refl _) (by simp) ?_;(case hd => rfl);(case hg => rfl);(case hr => first|(go_simp;done)|(go_simp;rfl));(case hp => exact (Reps.c4 (show Kd.FK k54 _ _ (⟨l0_0,a0_1,a0_2,a0_3⟩ : S54) [.slice A0_0 l0_0.length c0_0,.int .u64 a0_1,.int .u64 a0_2,.int .u64 a0_3] from (k54_mkF _ _ (⟨l0_0,a0_1,a0_2,a0_3⟩ : S54) (Kd.V_reads' (Kd.V_mono (ok':=(fun k_ => ((P0_0_ k_ ∨ P1_0_ k_) ∨ w.heap.size ≤ k_) ∧ k_ ≠ gb504 ∧ k_ ≠ gb505)) (HO0_0.out) (fun k_ hk => ⟨hk.1.1,⟨hk.1.2,hk.2⟩⟩))).2.1 (Kd.V_F (Kd.V_mono (ok':=(fun k_ => ((P0_0_ k_ ∨ P1_0_ k_) ∨ w.heap.size ≤ k_) ∧ k_ ≠ gb504 ∧ k_ ≠ gb505)) (HO0_0.out) (fun k_ hk => ⟨hk.1.1,⟨hk.1.2,hk.2⟩⟩))))) (Reps.c4 (show Kd.FK k54 _ _ (⟨l1_0,a1_1,a1_2,a1_3⟩ : S54) [.slice A1_0 l1_0.length c1_0,.int .u64 a1_1,.int .u64 a1_2,.int .u64 a1_3] from (k54_mkF _ _ (⟨l1_0,a1_1,a1_2,a1_3⟩ : S54) (Kd.V_reads' (Kd.V_mono (ok':=(fun k_ => ((P0_0_ k_ ∨ P1_0_ k_) ∨ w.heap.size ≤ k_) ∧ k_ ≠ gb504 ∧ k_ ≠ gb505)) (HO1_0.out) (fun k_ hk => ⟨hk.1.1,⟨hk.1.2,hk.2⟩⟩))).2.1 (Kd.V_F (Kd.V_mono (ok':=(fun k_ => ((P0_0_ k_ ∨ P1_0_ k_) ∨ w.heap.size ≤ k_) ∧ k_ ≠ gb504 ∧ k_ ≠ gb505)) (HO1_0.out) (fun k_ hk => ⟨hk.1.1,⟨hk.1.2,hk.2⟩⟩))))) (Reps.none _ _))));intro v507 w15 ho16 hb hg_ hnew_;clear hg_ hnew_;(first|rw [← Ny506.out] at ho16|(simp only [Int.reduceToNat] at ho16;rw [← Ny506.out] at ho16));have n0_:=Aside0.mk (Kd.V_elder' (by (with_reducible repeat (first|apply vA|apply vN|apply vD));exact HO0_0.out) (Kd.N_base ho16) hb);have n1_:=Aside0.mk (Kd.V_elder' (by (with_reducible repeat (first|apply vA|apply vN|apply vD));exact HO1_0.out) (Kd.N_base ho16) hb);have n2_:=Aside0.mk (Kd.N_lower ho16 (below_size (by repeat (first|(with_reducible first|exact HB.out|apply below_alloc|apply pw_below_drewN|apply below_drew1|refine below_set ?_ GE504.out|refine below_set ?_ GE505.out)|exact HB.out))));have n3_:=Aside0.mk (blk_below (g:=gb504) (o:=.cells #[.slice A0_0 l0_0.length c0_0,.int .u64 a0_1,.int .u64 a0_2,.int .u64 a0_3] 54 (0,0)) (by (with_reducible repeat (first|refine bN ?_ _|refine bD ?_|refine bA ?_ _));exact BK504.out) hb);have n4_:=Aside0.mk (blk_below (g:=gb505) (o:=.cells #[.slice A1_0 l1_0.length c1_0,.int .u64 a1_1,.int .u64 a1_2,.int .u64 a1_3] 54 (0,0)) (by (with_reducible repeat (first|refine bN ?_ _|refine bD ?_|refine bA ?_ _));exact BK505.out) hb);have n5_:=Aside0.mk (below_step (by repeat (first|(with_reducible first|exact HB.out|apply below_alloc|apply pw_below_drewN|apply below_drew1|refine below_set ?_ GE504.out|refine below_set ?_ GE505.out)|exact HB.out)) hb);clear HO0_0;clear HO1_0;clear BK504;clear BK505;clear HB;have HO0_0:=n0_;have HO1_0:=n1_;have HO508:=n2_;have BK504:=n3_;have BK505:=n4_;have HB:=n5_;clear n0_ n1_ n2_ n3_ n4_ n5_;clear hb ho16;obtain ⟨Ao17,co17,eo17⟩:=Kd.N_slice HO508.out;subst eo17)|(go_at_call 30;(with_reducible refine (ratlinelaw09_Few.calls k _ _ y506 true _ ?side1 ?side2 A3.out).mono ?_);(case side1 => repeat (first|exact (Kd.N_reads' HO508.out).2.2|(with_reducible refine Kd.C_alloc ?_ _)|(with_reducible refine Kd.C_drewN ?_ _)|(with_reducible refine Kd.C_drew ?_)));(case side2 => exact (Kd.N_reads' HO508.out).2.1);rintro e w18 ⟨rfl,hb⟩;have n0_:=Aside0.mk (Kd.V_below (by (with_reducible repeat (first|apply vA|apply vN|apply vD));exact HO0_0.out) hb);have n1_:=Aside0.mk (Kd.V_below (by (with_reducible repeat (first|apply vA|apply vN|apply vD));exact HO1_0.out) hb);have n2_:=Aside0.mk (Kd.N_below (by (with_reducible repeat (first|apply nA|apply nN|apply nD));exact HO508.out) hb);have n3_:=Aside0.mk (blk_below (g:=gb504) (o:=.cells #[.slice A0_0 l0_0.length c0_0,.int .u64 a0_1,.int .u64 a0_2,.int .u64 a0_3] 54 (0,0)) (by (with_reducible repeat (first|refine bN ?_ _|refine bD ?_|refine bA ?_ _));exact BK504.out) hb);have n4_:=Aside0.mk (blk_below (g:=gb505) (o:=.cells #[.slice A1_0 l1_0.length c1_0,.int .u64 a1_1,.int .u64 a1_2,.int .u64 a1_3] 54 (0,0)) (by (with_reducible repeat (first|refine bN ?_ _|refine bD ?_|refine bA ?_ _));exact BK505.out) hb);have n5_:=Aside0.mk (below_step (by repeat (first|(with_reducible first|exact HB.out|apply below_alloc|apply pw_below_drewN|apply below_drew1|refine below_set ?_ GE504.out|refine below_set ?_ GE505.out)|exact HB.out)) hb);clear HO0_0;clear HO1_0;clear HO508;clear BK504;clear BK505;clear HB;have HO0_0:=n0_;have HO1_0:=n1_;have HO508:=n2_;have BK504:=n3_;have BK505:=n4_;have HB:=n5_;clear n0_ n1_ n2_ n3_ n4_ n5_;(try clear hb);(try clear hb2);(try clear hk);(try clear hi);have hcz19_0 : w18.cell? ⟨gb504,0,none⟩ = some (.slice A0_0 l0_0.length c0_0):=(blk_cell BK504.out 0).trans rfl;have hcz19_1 : w18.cell? ⟨gb504,1,none⟩ = some (.int .u64 a0_1):=(blk_cell BK504.out 1).trans rfl;have hcz19_2 : w18.cell? ⟨gb504,2,none⟩ = some (.int .u64 a0_2):=(blk_cell BK504.out 2).trans rfl;have hcz19_3 : w18.cell? ⟨gb504,3,none⟩ = some (.int .u64 a0_3):=(blk_cell BK504.out 3).trans rfl;have hfz19_0:=blk_frozen BK504.out 0;have hfz19_1:=blk_frozen BK504.out 1;have hfz19_2:=blk_frozen BK504.out 2;have hfz19_3:=blk_frozen BK504.out 3)|(go_at_call 32;(refine calls_of_args (args':=#[.agg #[.slice none (([] : List (S62))).length 0,.int .u64 0,.int .u64 0,.int .u64 0],.agg #[.slice A0_0 l0_0.length c0_0,.int .u64 a0_1,.int .u64 a0_2,.int .u64 a0_3]]) (by rfl) ?_;with_reducible refine (edit_Apply.calls _ _ ([] : List (S62)) 0 0 0 _ _ l0_0 a0_1 a0_2 a0_3 t511 t514 t515 t516 t517 _ ?side1 ?side2 ?side3 ?side4 A5.out).mono ?_);(case side1 => exact Kd.C_nil _ _);(case side2 => exact Nat.le_refl _);(case side3 => repeat (first|exact (Kd.V_reads' HO0_0.out).2.2|(with_reducible refine Kd.C_alloc ?_ _)|(with_reducible refine Kd.C_drewN ?_ _)|(with_reducible refine Kd.C_drew ?_)));(case side4 => exact (Kd.V_reads' HO0_0.out).2.1);rintro e w20 ⟨v512,rfl,ho0,hb⟩;have n0_:=Aside0.mk (Kd.V_elder' (by (with_reducible repeat (first|apply vA|apply vN|apply vD));exact HO0_0.out) (Kd.R_base ho0) hb);have n1_:=Aside0.mk (Kd.V_elder' (by (with_reducible repeat (first|apply vA|apply vN|apply vD));exact HO1_0.out) (Kd.R_base ho0) hb);have n2_:=Aside0.mk (Kd.N_elder' (by (with_reducible repeat (first|apply nA|apply nN|apply nD));exact HO508.out) (Kd.R_base ho0) hb);have n3_:=Aside0.mk (Kd.R_lower (Kd.R_newM (M:=fun k_ => (w.heap.size ≤ k_)) ho0 (below_size (by repeat (first|(with_reducible first|exact HB.out|apply below_alloc|apply pw_below_drewN|apply below_drew1|refine below_set ?_ GE504.out|refine below_set ?_ GE505.out)|exact HB.out))) (fun k_ h_ => h_)) (below_size (by repeat (first|(with_reducible first|exact HB.out|apply below_alloc|apply pw_below_drewN|apply below_drew1|refine below_set ?_ GE504.out|refine below_set ?_ GE505.out)|exact HB.out))));have n4_:=Aside0.mk (blk_below (g:=gb504) (o:=.cells #[.slice A0_0 l0_0.length c0_0,.int .u64 a0_1,.int .u64 a0_2,.int .u64 a0_3] 54 (0,0)) (by (with_reducible repeat (first|refine bN ?_ _|refine bD ?_|refine bA ?_ _));exact BK504.out) hb);have n5_:=Aside0.mk (blk_below (g:=gb505) (o:=.cells #[.slice A1_0 l1_0.length c1_0,.int .u64 a1_1,.int .u64 a1_2,.int .u64 a1_3] 54 (0,0)) (by (with_reducible repeat (first|refine bN ?_ _|refine bD ?_|refine bA ?_ _));exact BK505.out) hb);have n6_:=Aside0.mk (below_step (by repeat (first|(with_reducible first|exact HB.out|apply below_alloc|apply pw_below_drewN|apply below_drew1|refine below_set ?_ GE504.out|refine below_set ?_ GE505.out)|exact HB.out)) hb);clear HO0_0;clear HO1_0;clear HO508;clear BK504;clear BK505;clear HB;have HO0_0:=n0_;have HO1_0:=n1_;have HO508:=n2_;have HO513:=n3_;have BK504:=n4_;have BK505:=n5_;have HB:=n6_;clear n0_ n1_ n2_ n3_ n4_ n5_ n6_;(try clear hb);(try clear hb2);(try clear hk);(try clear hi);(try clear ho0))|((with_reducible refine gate_dst (N:=5) rfl ?_);refine box_event ?hg (N:=5) ?hd (cs:=#[.slice none 0 0,.int .u64 0,.int .u64 0,.int .u64 0]) (t:=57) ?hr ?_;(case hd => rfl);(case hg => rfl);(case hr => first|(go_simp;done)|(go_simp;rfl));intro gb518 hg w21 hbox hb;have n0_:=Aside0.mk (Kd.V_below (Kd.V_elderB (by (with_reducible repeat (first|apply vA|apply vN|apply vD));exact HO0_0.out) gb518 (Nat.le_of_eq hg.symm)) hb);have n1_:=Aside0.mk (Kd.V_below (Kd.V_elderB (by (with_reducible repeat (first|apply vA|apply vN|apply vD));exact HO1_0.out) gb518 (Nat.le_of_eq hg.symm)) hb);have n2_:=Aside0.mk (Kd.N_below (Kd.N_elderB (by (with_reducible repeat (first|apply nA|apply nN|apply nD));exact HO508.out) gb518 (Nat.le_of_eq hg.symm)) hb);have n3_:=Aside0.mk (Kd.R_below (by (with_reducible repeat (first|apply zA|apply zN|apply zD));exact HO513.out) hb);have n4_:=Aside0.mk (blk_below (g:=gb504) (o:=.cells #[.slice A0_0 l0_0.length c0_0,.int .u64 a0_1,.int .u64 a0_2,.int .u64 a0_3] 54 (0,0)) (by (with_reducible repeat (first|refine bN ?_ _|refine bD ?_|refine bA ?_ _));exact BK504.out) hb);have n5_:=Aside0.mk (blk_below (g:=gb505) (o:=.cells #[.slice A1_0 l1_0.length c1_0,.int .u64 a1_1,.int .u64 a1_2,.int .u64 a1_3] 54 (0,0)) (by (with_reducible repeat (first|refine bN ?_ _|refine bD ?_|refine bA ?_ _));exact BK505.out) hb);have n6_:=Aside0.mk (below_step (by repeat (first|(with_reducible first|exact HB.out|apply below_alloc|apply pw_below_drewN|apply below_drew1|refine below_set ?_ GE504.out|refine below_set ?_ GE505.out)|exact HB.out)) hb);have n7_:=Aside0.mk (hbox);have n8_:=Aside0.mk ((by rw [hg];exact (below_size (by repeat (first|(with_reducible first|exact HB.out|apply below_alloc|apply pw_below_drewN|apply below_drew1|refine below_set ?_ GE504.out|refine below_set ?_ GE505.out)|exact HB.out))) : w.heap.size ≤ gb518));have n9_:=Aside0.mk ((by rw [hg];exact (below_size (by repeat (first|(with_reducible first|exact HB.out|apply below_alloc|apply pw_below_drewN|apply below_drew1|refine below_set ?_ GE504.out|refine below_set ?_ GE505.out)|exact HB.out))) : w.heap.size ≤ gb518));have n10_:=Aside0.mk ((by rw [hg];exact Nat.ne_of_lt (blk_lt (g:=gb504) (o:=.cells #[.slice A0_0 l0_0.length c0_0,.int .u64 a0_1,.int .u64 a0_2,.int .u64 a0_3] 54 (0,0)) (by (with_reducible repeat (first|refine bN ?_ _|refine bD ?_|refine bA ?_ _));exact BK504.out)) : gb504 ≠ gb518));have n11_:=Aside0.mk ((by rw [hg];exact Nat.ne_of_gt (blk_lt (g:=gb504) (o:=.cells #[.slice A0_0 l0_0.length c0_0,.int .u64 a0_1,.int .u64 a0_2,.int .u64 a0_3] 54 (0,0)) (by (with_reducible repeat (first|refine bN ?_ _|refine bD ?_|refine bA ?_ _));exact BK504.out)) : gb518 ≠ gb504));have n12_:=Aside0.mk ((by rw [hg];exact Nat.ne_of_lt (blk_lt (g:=gb505) (o:=.cells #[.slice A1_0 l1_0.length c1_0,.int .u64 a1_1,.int .u64 a1_2,.int .u64 a1_3] 54 (0,0)) (by (with_reducible repeat (first|refine bN ?_ _|refine bD ?_|refine bA ?_ _));exact BK505.out)) : gb505 ≠ gb518));have n13_:=Aside0.mk ((by rw [hg];exact Nat.ne_of_gt (blk_lt (g:=gb505) (o:=.cells #[.slice A1_0 l1_0.length c1_0,.int .u64 a1_1,.int .u64 a1_2,.int .u64 a1_3] 54 (0,0)) (by (with_reducible repeat (first|refine bN ?_ _|refine bD ?_|refine bA ?_ _));exact BK505.out)) : gb518 ≠ gb505));clear HO0_0;clear HO1_0;clear HO508;clear HO513;clear BK504;clear BK505;clear HB;have HO0_0:=n0_;have HO1_0:=n1_;have HO508:=n2_;have HO513:=n3_;have BK504:=n4_;have BK505:=n5_;have HB:=n6_;have BK518:=n7_;have GW518:=n8_;have GE518:=n9_;have NB504_518:=n10_;have NB518_504:=n11_;have NB505_518:=n12_;have NB518_505:=n13_;clear n0_ n1_ n2_ n3_ n4_ n5_ n6_ n7_ n8_ n9_ n10_ n11_ n12_ n13_;clear hb hbox hg;obtain ⟨Ao22,co22,eo22⟩:=Kd.R_slice HO513.out;subst eo22;have hnb23:=NB518_504.out;have hnc23:=NB504_518.out;have hnb24:=NB518_505.out;have hnc24:=NB505_518.out;have hcz25_0 : w21.cell? ⟨gb518,0,none⟩ = some (.slice none 0 0):=(blk_cell BK518.out 0).trans rfl;have hcz25_1 : w21.cell? ⟨gb518,1,none⟩ = some (.int .u64 0):=(blk_cell BK518.out 1).trans rfl;have hcz25_2 : w21.cell? ⟨gb518,2,none⟩ = some (.int .u64 0):=(blk_cell BK518.out 2).trans rfl;have hcz25_3 : w21.cell? ⟨gb518,3,none⟩ = some (.int .u64 0):=(blk_cell BK518.out 3).trans rfl;have hfz25_0:=blk_frozen BK518.out 0;have hfz25_1:=blk_frozen BK518.out 1;have hfz25_2:=blk_frozen BK518.out 2;have hfz25_3:=blk_frozen BK518.out 3;have hcz26_0 : w21.cell? ⟨gb505,0,none⟩ = some (.slice A1_0 l1_0.length c1_0):=(blk_cell BK505.out 0).trans rfl;have hcz26_1 : w21.cell? ⟨gb505,1,none⟩ = some (.int .u64 a1_1):=(blk_cell BK505.out 1).trans rfl;have hcz26_2 : w21.cell? ⟨gb505,2,none⟩ = some (.int .u64 a1_2):=(blk_cell BK505.out 2).trans rfl;have hcz26_3 : w21.cell? ⟨gb505,3,none⟩ = some (.int .u64 a1_3):=(blk_cell BK505.out 3).trans rfl;have hfz26_0:=blk_frozen BK505.out 0;have hfz26_1:=blk_frozen BK505.out 1;have hfz26_2:=blk_frozen BK505.out 2;have hfz26_3:=blk_frozen BK505.out 3)|(go_at_call 32;(with_reducible refine (edit_Apply.calls _ _ t511 t514 t515 t516 _ _ l1_0 a1_1 a1_2 a1_3 t519 t522 t523 t524 t525 _ ?side1 ?side2 ?side3 ?side4 A6.out).mono ?_);(case side1 => refine (Kd.R_reads' (e:=62) (base:=w.heap.size) (ok:=fun k_ => ((w.heap.size ≤ k_) ∧ True)) (n:=t511.length) (c:=co22) ?_).2.2;exact (by (with_reducible repeat (first|apply zA|apply zN|apply zD));exact (Kd.R_mono (Kd.R_far (p:=⟨gb518,3,none⟩) (Kd.R_far (p:=⟨gb518,2,none⟩) (Kd.R_far (p:=⟨gb518,1,none⟩) (Kd.R_far (p:=⟨gb518,0,none⟩) (Kd.R_types HO513.out BK518.out (by decide)) (fun _ hk => hk.2) (.slice Ao22 t511.length co22)) (fun _ hk => hk.2) (.int .u64 t514)) (fun _ hk => hk.2) (.int .u64 t515)) (fun _ hk => hk.2) (.int .u64 t516)) (fun _ h_ => h_.1))));(case side2 => exact (Kd.R_reads' HO513.out).2.1);(case side3 => refine (Kd.V_reads' (e:=62) (base:=w.heap.size) (ok:=fun k_ => (((((((P0_0_ k_ ∨ P1_0_ k_) ∨ w.heap.size ≤ k_) ∧ k_ ≠ gb504) ∧ k_ ≠ gb505) ∧ nB k_ Ao17 y506.length co17) ∧ nB k_ Ao22 t511.length co22) ∧ k_ ≠ gb518)) (n:=l1_0.length) (c:=c1_0) ?_).2.2;exact (by (with_reducible repeat (first|apply vA|apply vN|apply vD));exact (Kd.V_mono (Kd.V_far (p:=⟨gb518,3,none⟩) (Kd.V_far (p:=⟨gb518,2,none⟩) (Kd.V_far (p:=⟨gb518,1,none⟩) (Kd.V_far (p:=⟨gb518,0,none⟩) (Kd.V_mono HO1_0.out (fun k_ hk => (⟨hk,hk.2⟩ : _ ∧ k_ ≠ gb518))) (fun _ hk => hk.2) (.slice Ao22 t511.length co22)) (fun _ hk => hk.2) (.int .u64 t514)) (fun _ hk => hk.2) (.int .u64 t515)) (fun _ hk => hk.2) (.int .u64 t516)) (fun _ h_ => h_.1))));(case side4 => exact (Kd.V_reads' HO1_0.out).2.1);rintro e w27 ⟨v520,rfl,ho0,hb⟩;have n0_:=Aside0.mk (Kd.V_elder' (by (with_reducible repeat (first|apply vA|apply vN|apply vD));exact (Kd.V_mono (Kd.V_far (p:=⟨gb518,3,none⟩) (Kd.V_far (p:=⟨gb518,2,none⟩) (Kd.V_far (p:=⟨gb518,1,none⟩) (Kd.V_far (p:=⟨gb518,0,none⟩) (Kd.V_mono HO0_0.out (fun k_ hk => (⟨hk,hk.2⟩ : _ ∧ k_ ≠ gb518))) (fun _ hk => hk.2) (.slice Ao22 t511.length co22)) (fun _ hk => hk.2) (.int .u64 t514)) (fun _ hk => hk.2) (.int .u64 t515)) (fun _ hk => hk.2) (.int .u64 t516)) (fun _ h_ => h_.1))) (Kd.R_base ho0) hb);have n1_:=Aside0.mk (Kd.V_elder' (by (with_reducible repeat (first|apply vA|apply vN|apply vD));exact (Kd.V_mono (Kd.V_far (p:=⟨gb518,3,none⟩) (Kd.V_far (p:=⟨gb518,2,none⟩) (Kd.V_far (p:=⟨gb518,1,none⟩) (Kd.V_far (p:=⟨gb518,0,none⟩) (Kd.V_mono HO1_0.out (fun k_ hk => (⟨hk,hk.2⟩ : _ ∧ k_ ≠ gb518))) (fun _ hk => hk.2) (.slice Ao22 t511.length co22)) (fun _ hk => hk.2) (.int .u64 t514)) (fun _ hk => hk.2) (.int .u64 t515)) (fun _ hk => hk.2) (.int .u64 t516)) (fun _ h_ => h_.1))) (Kd.R_base ho0) hb);have n2_:=Aside0.mk (Kd.N_elder' (by (with_reducible repeat (first|apply nA|apply nN|apply nD));exact (Kd.N_mono (Kd.N_far (p:=⟨gb518,3,none⟩) (Kd.N_far (p:=⟨gb518,2,none⟩) (Kd.N_far (p:=⟨gb518,1,none⟩) (Kd.N_far (p:=⟨gb518,0,none⟩) (Kd.N_mono HO508.out (fun k_ hk => (⟨hk,hk.2⟩ : _ ∧ k_ ≠ gb518))) (fun _ hk => hk.2) (.slice Ao22 t511.length co22)) (fun _ hk => hk.2) (.int .u64 t514)) (fun _ hk => hk.2) (.int .u64 t515)) (fun _ hk => hk.2) (.int .u64 t516)) (fun _ h_ => h_.1))) (Kd.R_base ho0) hb);have n3_:=Aside0.mk (Kd.R_elder' (by (with_reducible repeat (first|apply zA|apply zN|apply zD));exact (Kd.R_mono (Kd.R_far (p:=⟨gb518,3,none⟩) (Kd.R_far (p:=⟨gb518,2,none⟩) (Kd.R_far (p:=⟨gb518,1,none⟩) (Kd.R_far (p:=⟨gb518,0,none⟩) (Kd.R_types HO513.out BK518.out (by decide)) (fun _ hk => hk.2) (.slice Ao22 t511.length co22)) (fun _ hk => hk.2) (.int .u64 t514)) (fun _ hk => hk.2) (.int .u64 t515)) (fun _ hk => hk.2) (.int .u64 t516)) (fun _ h_ => h_.1))) (Kd.R_base ho0) hb);have n4_:=Aside0.mk (Kd.R_lower (Kd.R_new' (Kd.R_newM (M:=fun k_ => (w.heap.size ≤ k_)) ho0 (below_size (by repeat (first|(with_reducible first|exact HB.out|apply below_alloc|apply pw_below_drewN|apply below_drew1|refine below_set ?_ GE504.out|refine below_set ?_ GE505.out|refine below_set ?_ GE518.out)|exact HB.out))) (fun k_ h_ => h_)) (Kd.R_lt (by (with_reducible repeat (first|apply zA|apply zN|apply zD));exact (Kd.R_mono (Kd.R_far (p:=⟨gb518,3,none⟩) (Kd.R_far (p:=⟨gb518,2,none⟩) (Kd.R_far (p:=⟨gb518,1,none⟩) (Kd.R_far (p:=⟨gb518,0,none⟩) (Kd.R_types HO513.out BK518.out (by decide)) (fun _ hk => hk.2) (.slice Ao22 t511.length co22)) (fun _ hk => hk.2) (.int .u64 t514)) (fun _ hk => hk.2) (.int .u64 t515)) (fun _ hk => hk.2) (.int .u64 t516)) (fun _ h_ => h_.1))))) (below_size (by repeat (first|(with_reducible first|exact HB.out|apply below_alloc|apply pw_below_drewN|apply below_drew1|refine below_set ?_ GE504.out|refine below_set ?_ GE505.out|refine below_set ?_ GE518.out)|exact HB.out))));have n5_:=Aside0.mk (blk_below (g:=gb504) (o:=.cells #[.slice A0_0 l0_0.length c0_0,.int .u64 a0_1,.int .u64 a0_2,.int .u64 a0_3] 54 (0,0)) (by (with_reducible repeat (first|refine bN ?_ _|refine bD ?_|refine bA ?_ _));refine blk_far ?_ NB504_518.out _;(with_reducible repeat (first|refine bN ?_ _|refine bD ?_|refine bA ?_ _));refine blk_far ?_ NB504_518.out _;(with_reducible repeat (first|refine bN ?_ _|refine bD ?_|refine bA ?_ _));refine blk_far ?_ NB504_518.out _;(with_reducible repeat (first|refine bN ?_ _|refine bD ?_|refine bA ?_ _));refine blk_far ?_ NB504_518.out _;(with_reducible repeat (first|refine bN ?_ _|refine bD ?_|refine bA ?_ _));exact BK504.out) hb);have n6_:=Aside0.mk (blk_below (g:=gb505) (o:=.cells #[.slice A1_0 l1_0.length c1_0,.int .u64 a1_1,.int .u64 a1_2,.int .u64 a1_3] 54 (0,0)) (by (with_reducible repeat (first|refine bN ?_ _|refine bD ?_|refine bA ?_ _));refine blk_far ?_ NB505_518.out _;(with_reducible repeat (first|refine bN ?_ _|refine bD ?_|refine bA ?_ _));refine blk_far ?_ NB505_518.out _;(with_reducible repeat (first|refine bN ?_ _|refine bD ?_|refine bA ?_ _));refine blk_far ?_ NB505_518.out _;(with_reducible repeat (first|refine bN ?_ _|refine bD ?_|refine bA ?_ _));refine blk_far ?_ NB505_518.out _;(with_reducible repeat (first|refine bN ?_ _|refine bD ?_|refine bA ?_ _));exact BK505.out) hb);have n7_:=Aside0.mk (blk_below (g:=gb518) (o:=.cells #[.slice Ao22 t511.length co22,.int .u64 t514,.int .u64 t515,.int .u64 t516] 57 (0,0)) (by (with_reducible repeat (first|refine bN ?_ _|refine bD ?_|refine bA ?_ _));refine blk_put (cs:=#[.slice Ao22 t511.length co22,.int .u64 t514,.int .u64 t515,.int .u64 0]) ?_ 3 _ rfl;(with_reducible repeat (first|refine bN ?_ _|refine bD ?_|refine bA ?_ _));refine blk_put (cs:=#[.slice Ao22 t511.length co22,.int .u64 t514,.int .u64 0,.int .u64 0]) ?_ 2 _ rfl;(with_reducible repeat (first|refine bN ?_ _|refine bD ?_|refine bA ?_ _));refine blk_put (cs:=#[.slice Ao22 t511.length co22,.int .u64 0,.int .u64 0,.int .u64 0]) ?_ 1 _ rfl;(with_reducible repeat (first|refine bN ?_ _|refine bD ?_|refine bA ?_ _));refine blk_put (cs:=#[.slice none 0 0,.int .u64 0,.int .u64 0,.int .u64 0]) ?_ 0 _ rfl;(with_reducible repeat (first|refine bN ?_ _|refine bD ?_|refine bA ?_ _));exact BK518.out) hb);have n8_:=Aside0.mk (below_step (by repeat (first|(with_reducible first|exact HB.out|apply below_alloc|apply pw_below_drewN|apply below_drew1|refine below_set ?_ GE504.out|refine below_set ?_ GE505.out|refine below_set ?_ GE518.out)|exact HB.out)) hb);clear HO0_0;clear HO1_0;clear HO508;clear HO513;clear BK504;clear BK505;clear BK518;clear HB;have HO0_0:=n0_;have HO1_0:=n1_;have HO508:=n2_;have HO513:=n3_;have HO521:=n4_;have BK504:=n5_;have BK505:=n6_;have BK518:=n7_;have HB:=n8_;clear n0_ n1_ n2_ n3_ n4_ n5_ n6_ n7_ n8_;(try clear hb);(try clear hb2);(try clear hk);(try clear hi);(try clear ho0))|((with_reducible refine gate_dst (N:=7) rfl ?_);refine box_event ?hg (N:=7) ?hd (cs:=#[.slice none 0 0,.int .u64 0,.int .u64 0,.int .u64 0]) (t:=57) ?hr ?_;(case hd => rfl);(case hg => rfl);(case hr => first|(go_simp;done)|(go_simp;rfl));intro gb526 hg w28 hbox hb;have n0_:=Aside0.mk (Kd.V_below (Kd.V_elderB (by (with_reducible repeat (first|apply vA|apply vN|apply vD));exact HO0_0.out) gb526 (Nat.le_of_eq hg.symm)) hb);have n1_:=Aside0.mk (Kd.V_below (Kd.V_elderB (by (with_reducible repeat (first|apply vA|apply vN|apply vD));exact HO1_0.out) gb526 (Nat.le_of_eq hg.symm)) hb);have n2_:=Aside0.mk (Kd.N_below (Kd.N_elderB (by (with_reducible repeat (first|apply nA|apply nN|apply nD));exact HO508.out) gb526 (Nat.le_of_eq hg.symm)) hb);have n3_:=Aside0.mk (Kd.R_below (by (with_reducible repeat (first|apply zA|apply zN|apply zD));exact HO513.out) hb);have n4_:=Aside0.mk (Kd.R_below (by (with_reducible repeat (first|apply zA|apply zN|apply zD));exact HO521.out) hb);have n5_:=Aside0.mk (blk_below (g:=gb504) (o:=.cells #[.slice A0_0 l0_0.length c0_0,.int .u64 a0_1,.int .u64 a0_2,.int .u64 a0_3] 54 (0,0)) (by (with_reducible repeat (first|refine bN ?_ _|refine bD ?_|refine bA ?_ _));exact BK504.out) hb);have n6_:=Aside0.mk (blk_below (g:=gb505) (o:=.cells #[.slice A1_0 l1_0.length c1_0,.int .u64 a1_1,.int .u64 a1_2,.int .u64 a1_3] 54 (0,0)) (by (with_reducible repeat (first|refine bN ?_ _|refine bD ?_|refine bA ?_ _));exact BK505.out) hb);have n7_:=Aside0.mk (blk_below (g:=gb518) (o:=.cells #[.slice Ao22 t511.length co22,.int .u64 t514,.int .u64 t515,.int .u64 t516] 57 (0,0)) (by (with_reducible repeat (first|refine bN ?_ _|refine bD ?_|refine bA ?_ _));exact BK518.out) hb);have n8_:=Aside0.mk (below_step (by repeat (first|(with_reducible first|exact HB.out|apply below_alloc|apply pw_below_drewN|apply below_drew1|refine below_set ?_ GE504.out|refine below_set ?_ GE505.out|refine below_set ?_ GE518.out)|exact HB.out)) hb);have n9_:=Aside0.mk (hbox);have n10_:=Aside0.mk ((by rw [hg];exact (below_size (by repeat (first|(with_reducible first|exact HB.out|apply below_alloc|apply pw_below_drewN|apply below_drew1|refine below_set ?_ GE504.out|refine below_set ?_ GE505.out|refine below_set ?_ GE518.out)|exact HB.out))) : w.heap.size ≤ gb526));have n11_:=Aside0.mk ((by rw [hg];exact (below_size (by repeat (first|(with_reducible first|exact HB.out|apply below_alloc|apply pw_below_drewN|apply below_drew1|refine below_set ?_ GE504.out|refine below_set ?_ GE505.out|refine below_set ?_ GE518.out)|exact HB.out))) : w.heap.size ≤ gb526));have n12_:=Aside0.mk ((by rw [hg];exact Nat.ne_of_lt (blk_lt (g:=gb504) (o:=.cells #[.slice A0_0 l0_0.length c0_0,.int .u64 a0_1,.int .u64 a0_2,.int .u64 a0_3] 54 (0,0)) (by (with_reducible repeat (first|refine bN ?_ _|refine bD ?_|refine bA ?_ _));exact BK504.out)) : gb504 ≠ gb526));have n13_:=Aside0.mk ((by rw [hg];exact Nat.ne_of_gt (blk_lt (g:=gb504) (o:=.cells #[.slice A0_0 l0_0.length c0_0,.int .u64 a0_1,.int .u64 a0_2,.int .u64 a0_3] 54 (0,0)) (by (with_reducible repeat (first|refine bN ?_ _|refine bD ?_|refine bA ?_ _));exact BK504.out)) : gb526 ≠ gb504));have n14_:=Aside0.mk ((by rw [hg];exact Nat.ne_of_lt (blk_lt (g:=gb505) (o:=.cells #[.slice A1_0 l1_0.length c1_0,.int .u64 a1_1,.int .u64 a1_2,.int .u64 a1_3] 54 (0,0)) (by (with_reducible repeat (first|refine bN ?_ _|refine bD ?_|refine bA ?_ _));exact BK505.out)) : gb505 ≠ gb526));have n15_:=Aside0.mk ((by rw [hg];exact Nat.ne_of_gt (blk_lt (g:=gb505) (o:=.cells #[.slice A1_0 l1_0.length c1_0,.int .u64 a1_1,.int .u64 a1_2,.int .u64 a1_3] 54 (0,0)) (by (with_reducible repeat (first|refine bN ?_ _|refine bD ?_|refine bA ?_ _));exact BK505.out)) : gb526 ≠ gb505));have n16_:=Aside0.mk ((by rw [hg];exact Nat.ne_of_lt (blk_lt (g:=gb518) (o:=.cells #[.slice Ao22 t511.length co22,.int .u64 t514,.int .u64 t515,.int .u64 t516] 57 (0,0)) (by (with_reducible repeat (first|refine bN ?_ _|refine bD ?_|refine bA ?_ _));exact BK518.out)) : gb518 ≠ gb526));have n17_:=Aside0.mk ((by rw [hg];exact Nat.ne_of_gt (blk_lt (g:=gb518) (o:=.cells #[.slice Ao22 t511.length co22,.int .u64 t514,.int .u64 t515,.int .u64 t516] 57 (0,0)) (by (with_reducible repeat (first|refine bN ?_ _|refine bD ?_|refine bA ?_ _));exact BK518.out)) : gb526 ≠ gb518));clear HO0_0;clear HO1_0;clear HO508;clear HO513;clear HO521;clear BK504;clear BK505;clear BK518;clear HB;have HO0_0:=n0_;have HO1_0:=n1_;have HO508:=n2_;have HO513:=n3_;have HO521:=n4_;have BK504:=n5_;have BK505:=n6_;have BK518:=n7_;have HB:=n8_;have BK526:=n9_;have GW526:=n10_;have GE526:=n11_;have NB504_526:=n12_;have NB526_504:=n13_;have NB505_526:=n14_;have NB526_505:=n15_;have NB518_526:=n16_;have NB526_518:=n17_;clear n0_ n1_ n2_ n3_ n4_ n5_ n6_ n7_ n8_ n9_ n10_ n11_ n12_ n13_ n14_ n15_ n16_ n17_;clear hb hbox hg;obtain ⟨Ao29,co29,eo29⟩:=Kd.R_slice HO521.out;subst eo29;have hnb30:=NB526_504.out;have hnc30:=NB504_526.out;have hnb31:=NB526_505.out;have hnc31:=NB505_526.out;have hnb32:=NB526_518.out;have hnc32:=NB518_526.out;have hcz33_0 : w28.cell? ⟨gb526,0,none⟩ = some (.slice none 0 0):=(blk_cell BK526.out 0).trans rfl;have hcz33_1 : w28.cell? ⟨gb526,1,none⟩ = some (.int .u64 0):=(blk_cell BK526.out 1).trans rfl;have hcz33_2 : w28.cell? ⟨gb526,2,none⟩ = some (.int .u64 0):=(blk_cell BK526.out 2).trans rfl;have hcz33_3 : w28.cell? ⟨gb526,3,none⟩ = some (.int .u64 0):=(blk_cell BK526.out 3).trans rfl;have hfz33_0:=blk_frozen BK526.out 0;have hfz33_1:=blk_frozen BK526.out 1;have hfz33_2:=blk_frozen BK526.out 2;have hfz33_3:=blk_frozen BK526.out 3;have hcz34_0 : w28.cell? ⟨gb504,0,none⟩ = some (.slice A0_0 l0_0.length c0_0):=(blk_cell BK504.out 0).trans rfl;have hcz34_1 : w28.cell? ⟨gb504,1,none⟩ = some (.int .u64 a0_1):=(blk_cell BK504.out 1).trans rfl;have hcz34_2 : w28.cell? ⟨gb504,2,none⟩ = some (.int .u64 a0_2):=(blk_cell BK504.out 2).trans rfl;have hcz34_3 : w28.cell? ⟨gb504,3,none⟩ = some (.int .u64 a0_3):=(blk_cell BK504.out 3).trans rfl;have hfz34_0:=blk_frozen BK504.out 0;have hfz34_1:=blk_frozen BK504.out 1;have hfz34_2:=blk_frozen BK504.out 2;have hfz34_3:=blk_frozen BK504.out 3)|(go_at_call 34;(with_reducible refine (edit_Bytes.calls _ _ l0_0 a0_1 a0_2 a0_3 t527 t530 _ ?side1 ?side2 A7.out).mono ?_);(case side1 => refine (Kd.V_reads' (e:=62) (base:=w.heap.size) (ok:=fun k_ => (((((((((P0_0_ k_ ∨ P1_0_ k_) ∨ w.heap.size ≤ k_) ∧ k_ ≠ gb504) ∧ k_ ≠ gb505) ∧ nB k_ Ao17 y506.length co17) ∧ nB k_ Ao22 t511.length co22) ∧ k_ ≠ gb518) ∧ nB k_ Ao29 t519.length co29) ∧ k_ ≠ gb526)) (n:=l0_0.length) (c:=c0_0) ?_).2.2;exact (by (with_reducible repeat (first|apply vA|apply vN|apply vD));exact (Kd.V_mono (Kd.V_far (p:=⟨gb526,3,none⟩) (Kd.V_far (p:=⟨gb526,2,none⟩) (Kd.V_far (p:=⟨gb526,1,none⟩) (Kd.V_far (p:=⟨gb526,0,none⟩) (Kd.V_mono HO0_0.out (fun k_ hk => (⟨hk,hk.2⟩ : _ ∧ k_ ≠ gb526))) (fun _ hk => hk.2) (.slice Ao29 t519.length co29)) (fun _ hk => hk.2) (.int .u64 t522)) (fun _ hk => hk.2) (.int .u64 t523)) (fun _ hk => hk.2) (.int .u64 t524)) (fun _ h_ => h_.1))));(case side2 => exact (Kd.V_reads' HO0_0.out).2.1);rintro e w35 ⟨v528,rfl,ho0,hb⟩;have n0_:=Aside0.mk (Kd.V_elder' (by (with_reducible repeat (first|apply vA|apply vN|apply vD));exact (Kd.V_mono (Kd.V_far (p:=⟨gb526,3,none⟩) (Kd.V_far (p:=⟨gb526,2,none⟩) (Kd.V_far (p:=⟨gb526,1,none⟩) (Kd.V_far (p:=⟨gb526,0,none⟩) (Kd.V_mono HO0_0.out (fun k_ hk => (⟨hk,hk.2⟩ : _ ∧ k_ ≠ gb526))) (fun _ hk => hk.2) (.slice Ao29 t519.length co29)) (fun _ hk => hk.2) (.int .u64 t522)) (fun _ hk => hk.2) (.int .u64 t523)) (fun _ hk => hk.2) (.int .u64 t524)) (fun _ h_ => h_.1))) (Kd.R_base ho0) hb);have n1_:=Aside0.mk (Kd.V_elder' (by (with_reducible repeat (first|apply vA|apply vN|apply vD));exact (Kd.V_mono (Kd.V_far (p:=⟨gb526,3,none⟩) (Kd.V_far (p:=⟨gb526,2,none⟩) (Kd.V_far (p:=⟨gb526,1,none⟩) (Kd.V_far (p:=⟨gb526,0,none⟩) (Kd.V_mono HO1_0.out (fun k_ hk => (⟨hk,hk.2⟩ : _ ∧ k_ ≠ gb526))) (fun _ hk => hk.2) (.slice Ao29 t519.length co29)) (fun _ hk => hk.2) (.int .u64 t522)) (fun _ hk => hk.2) (.int .u64 t523)) (fun _ hk => hk.2) (.int .u64 t524)) (fun _ h_ => h_.1))) (Kd.R_base ho0) hb);have n2_:=Aside0.mk (Kd.N_elder' (by (with_reducible repeat (first|apply nA|apply nN|apply nD));exact (Kd.N_mono (Kd.N_far (p:=⟨gb526,3,none⟩) (Kd.N_far (p:=⟨gb526,2,none⟩) (Kd.N_far (p:=⟨gb526,1,none⟩) (Kd.N_far (p:=⟨gb526,0,none⟩) (Kd.N_mono HO508.out (fun k_ hk => (⟨hk,hk.2⟩ : _ ∧ k_ ≠ gb526))) (fun _ hk => hk.2) (.slice Ao29 t519.length co29)) (fun _ hk => hk.2) (.int .u64 t522)) (fun _ hk => hk.2) (.int .u64 t523)) (fun _ hk => hk.2) (.int .u64 t524)) (fun _ h_ => h_.1))) (Kd.R_base ho0) hb);have n3_:=Aside0.mk (Kd.R_below (by (with_reducible repeat (first|apply zA|apply zN|apply zD));exact (Kd.R_mono (Kd.R_far (p:=⟨gb526,3,none⟩) (Kd.R_far (p:=⟨gb526,2,none⟩) (Kd.R_far (p:=⟨gb526,1,none⟩) (Kd.R_far (p:=⟨gb526,0,none⟩) (Kd.R_types HO513.out BK526.out (by decide)) (fun _ hk => hk.2) (.slice Ao29 t519.length co29)) (fun _ hk => hk.2) (.int .u64 t522)) (fun _ hk => hk.2) (.int .u64 t523)) (fun _ hk => hk.2) (.int .u64 t524)) (fun _ h_ => h_.1))) hb);have n4_:=Aside0.mk (Kd.R_below (by (with_reducible repeat (first|apply zA|apply zN|apply zD));exact (Kd.R_mono (Kd.R_far (p:=⟨gb526,3,none⟩) (Kd.R_far (p:=⟨gb526,2,none⟩) (Kd.R_far (p:=⟨gb526,1,none⟩) (Kd.R_far (p:=⟨gb526,0,none⟩) (Kd.R_types HO521.out BK526.out (by decide)) (fun _ hk => hk.2) (.slice Ao29 t519.length co29)) (fun _ hk => hk.2) (.int .u64 t522)) (fun _ hk => hk.2) (.int .u64 t523)) (fun _ hk => hk.2) (.int .u64 t524)) (fun _ h_ => h_.1))) hb);have n5_:=Aside0.mk (Kd.R_lower (Kd.R_newM (M:=fun k_ => (w.heap.size ≤ k_)) ho0 (below_size (by repeat (first|(with_reducible first|exact HB.out|apply below_alloc|apply pw_below_drewN|apply below_drew1|refine below_set ?_ GE504.out|refine below_set ?_ GE505.out|refine below_set ?_ GE518.out|refine below_set ?_ GE526.out)|exact HB.out))) (fun k_ h_ => h_)) (below_size (by repeat (first|(with_reducible first|exact HB.out|apply below_alloc|apply pw_below_drewN|apply below_drew1|refine below_set ?_ GE504.out|refine below_set ?_ GE505.out|refine below_set ?_ GE518.out|refine below_set ?_ GE526.out)|exact HB.out))));have n6_:=Aside0.mk (blk_below (g:=gb504) (o:=.cells #[.slice A0_0 l0_0.length c0_0,.int .u64 a0_1,.int .u64 a0_2,.int .u64 a0_3] 54 (0,0)) (by (with_reducible repeat (first|refine bN ?_ _|refine bD ?_|refine bA ?_ _));refine blk_far ?_ NB504_526.out _;(with_reducible repeat (first|refine bN ?_ _|refine bD ?_|refine bA ?_ _));refine blk_far ?_ NB504_526.out _;(with_reducible repeat (first|refine bN ?_ _|refine bD ?_|refine bA ?_ _));refine blk_far ?_ NB504_526.out _;(with_reducible repeat (first|refine bN ?_ _|refine bD ?_|refine bA ?_ _));refine blk_far ?_ NB504_526.out _;(with_reducible repeat (first|refine bN ?_ _|refine bD ?_|refine bA ?_ _));exact BK504.out) hb);have n7_:=Aside0.mk (blk_below (g:=gb505) (o:=.cells #[.slice A1_0 l1_0.length c1_0,.int .u64 a1_1,.int .u64 a1_2,.int .u64 a1_3] 54 (0,0)) (by (with_reducible repeat (first|refine bN ?_ _|refine bD ?_|refine bA ?_ _));refine blk_far ?_ NB505_526.out _;(with_reducible repeat (first|refine bN ?_ _|refine bD ?_|refine bA ?_ _));refine blk_far ?_ NB505_526.out _;(with_reducible repeat (first|refine bN ?_ _|refine bD ?_|refine bA ?_ _));refine blk_far ?_ NB505_526.out _;(with_reducible repeat (first|refine bN ?_ _|refine bD ?_|refine bA ?_ _));refine blk_far ?_ NB505_526.out _;(with_reducible repeat (first|refine bN ?_ _|refine bD ?_|refine bA ?_ _));exact BK505.out) hb);have n8_:=Aside0.mk (blk_below (g:=gb518) (o:=.cells #[.slice Ao22 t511.length co22,.int .u64 t514,.int .u64 t515,.int .u64 t516] 57 (0,0)) (by (with_reducible repeat (first|refine bN ?_ _|refine bD ?_|refine bA ?_ _));refine blk_far ?_ NB518_526.out _;(with_reducible repeat (first|refine bN ?_ _|refine bD ?_|refine bA ?_ _));refine blk_far ?_ NB518_526.out _;(with_reducible repeat (first|refine bN ?_ _|refine bD ?_|refine bA ?_ _));refine blk_far ?_ NB518_526.out _;(with_reducible repeat (first|refine bN ?_ _|refine bD ?_|refine bA ?_ _));refine blk_far ?_ NB518_526.out _;(with_reducible repeat (first|refine bN ?_ _|refine bD ?_|refine bA ?_ _));exact BK518.out) hb);have n9_:=Aside0.mk (blk_below (g:=gb526) (o:=.cells #[.slice Ao29 t519.length co29,.int .u64 t522,.int .u64 t523,.int .u64 t524] 57 (0,0)) (by (with_reducible repeat (first|refine bN ?_ _|refine bD ?_|refine bA ?_ _));refine blk_put (cs:=#[.slice Ao29 t519.length co29,.int .u64 t522,.int .u64 t523,.int .u64 0]) ?_ 3 _ rfl;(with_reducible repeat (first|refine bN ?_ _|refine bD ?_|refine bA ?_ _));refine blk_put (cs:=#[.slice Ao29 t519.length co29,.int .u64 t522,.int .u64 0,.int .u64 0]) ?_ 2 _ rfl;(with_reducible repeat (first|refine bN ?_ _|refine bD ?_|refine bA ?_ _));refine blk_put (cs:=#[.slice Ao29 t519.length co29,.int .u64 0,.int .u64 0,.int .u64 0]) ?_ 1 _ rfl;(with_reducible repeat (first|refine bN ?_ _|refine bD ?_|refine bA ?_ _));refine blk_put (cs:=#[.slice none 0 0,.int .u64 0,.int .u64 0,.int .u64 0]) ?_ 0 _ rfl;(with_reducible repeat (first|refine bN ?_ _|refine bD ?_|refine bA ?_ _));exact BK526.out) hb);have n10_:=Aside0.mk (below_step (by repeat (first|(with_reducible first|exact HB.out|apply below_alloc|apply pw_below_drewN|apply below_drew1|refine below_set ?_ GE504.out|refine below_set ?_ GE505.out|refine below_set ?_ GE518.out|refine below_set ?_ GE526.out)|exact HB.out)) hb);clear HO0_0;clear HO1_0;clear HO508;clear HO513;clear HO521;clear BK504;clear BK505;clear BK518;clear BK526;clear HB;have HO0_0:=n0_;have HO1_0:=n1_;have HO508:=n2_;have HO513:=n3_;have HO521:=n4_;have HO529:=n5_;have BK504:=n6_;have BK505:=n7_;have BK518:=n8_;have BK526:=n9_;have HB:=n10_;clear n0_ n1_ n2_ n3_ n4_ n5_ n6_ n7_ n8_ n9_ n10_;(try clear hb);(try clear hb2);(try clear hk);(try clear hi);(try clear ho0);have hcz36_0 : w35.cell? ⟨gb518,0,none⟩ = some (.slice Ao22 t511.length co22):=(blk_cell BK518.out 0).trans rfl;have hcz36_1 : w35.cell? ⟨gb518,1,none⟩ = some (.int .u64 t514):=(blk_cell BK518.out 1).trans rfl;have hcz36_2 : w35.cell? ⟨gb518,2,none⟩ = some (.int .u64 t515):=(blk_cell BK518.out 2).trans rfl;have hcz36_3 : w35.cell? ⟨gb518,3,none⟩ = some (.int .u64 t516):=(blk_cell BK518.out 3).trans rfl;have hfz36_0:=blk_frozen BK518.out 0;have hfz36_1:=blk_frozen BK518.out 1;have hfz36_2:=blk_frozen BK518.out 2;have hfz36_3:=blk_frozen BK518.out 3)|(go_at_call 35;(with_reducible refine (edit_Whole.calls _ _ t511 t514 t515 t516 t531 t534 t535 t536 _ ?side1 ?side2 A8.out).mono ?_);(case side1 => repeat (first|exact (Kd.R_reads' HO513.out).2.2|(with_reducible refine Kd.C_alloc ?_ _)|(with_reducible refine Kd.C_drewN ?_ _)|(with_reducible refine Kd.C_drew ?_)));(case side2 => exact (Kd.R_reads' HO513.out).2.1);rintro e w37 ⟨v532,rfl,ho0,hb⟩;have n0_:=Aside0.mk (Kd.V_elder' (by (with_reducible repeat (first|apply vA|apply vN|apply vD));exact HO0_0.out) (Kd.R_base ho0) hb);have n1_:=Aside0.mk (Kd.V_elder' (by (with_reducible repeat (first|apply vA|apply vN|apply vD));exact HO1_0.out) (Kd.R_base ho0) hb);have n2_:=Aside0.mk (Kd.N_elder' (by (with_reducible repeat (first|apply nA|apply nN|apply nD));exact HO508.out) (Kd.R_base ho0) hb);have n3_:=Aside0.mk (Kd.R_elder' (by (with_reducible repeat (first|apply zA|apply zN|apply zD));exact HO513.out) (Kd.R_base ho0) hb);have n4_:=Aside0.mk (Kd.R_elder' (by (with_reducible repeat (first|apply zA|apply zN|apply zD));exact HO521.out) (Kd.R_base ho0) hb);have n5_:=Aside0.mk (Kd.R_below (by (with_reducible repeat (first|apply zA|apply zN|apply zD));exact HO529.out) hb);have n6_:=Aside0.mk (Kd.R_lower (Kd.R_new' (Kd.R_new' (Kd.R_newM (M:=fun k_ => (w.heap.size ≤ k_)) ho0 (below_size (by repeat (first|(with_reducible first|exact HB.out|apply below_alloc|apply pw_below_drewN|apply below_drew1|refine below_set ?_ GE504.out|refine below_set ?_ GE505.out|refine below_set ?_ GE518.out|refine below_set ?_ GE526.out)|exact HB.out))) (fun k_ h_ => h_)) (Kd.R_lt (by (with_reducible repeat (first|apply zA|apply zN|apply zD));exact HO513.out))) (Kd.R_lt (by (with_reducible repeat (first|apply zA|apply zN|apply zD));exact HO521.out))) (below_size (by repeat (first|(with_reducible first|exact HB.out|apply below_alloc|apply pw_below_drewN|apply below_drew1|refine below_set ?_ GE504.out|refine below_set ?_ GE505.out|refine below_set ?_ GE518.out|refine below_set ?_ GE526.out)|exact HB.out))));have n7_:=Aside0.mk (blk_below (g:=gb504) (o:=.cells #[.slice A0_0 l0_0.length c0_0,.int .u64 a0_1,.int .u64 a0_2,.int .u64 a0_3] 54 (0,0)) (by (with_reducible repeat (first|refine bN ?_ _|refine bD ?_|refine bA ?_ _));exact BK504.out) hb);have n8_:=Aside0.mk (blk_below (g:=gb505) (o:=.cells #[.slice A1_0 l1_0.length c1_0,.int .u64 a1_1,.int .u64 a1_2,.int .u64 a1_3] 54 (0,0)) (by (with_reducible repeat (first|refine bN ?_ _|refine bD ?_|refine bA ?_ _));exact BK505.out) hb);have n9_:=Aside0.mk (blk_below (g:=gb518) (o:=.cells #[.slice Ao22 t511.length co22,.int .u64 t514,.int .u64 t515,.int .u64 t516] 57 (0,0)) (by (with_reducible repeat (first|refine bN ?_ _|refine bD ?_|refine bA ?_ _));exact BK518.out) hb);have n10_:=Aside0.mk (blk_below (g:=gb526) (o:=.cells #[.slice Ao29 t519.length co29,.int .u64 t522,.int .u64 t523,.int .u64 t524] 57 (0,0)) (by (with_reducible repeat (first|refine bN ?_ _|refine bD ?_|refine bA ?_ _));exact BK526.out) hb);have n11_:=Aside0.mk (below_step (by repeat (first|(with_reducible first|exact HB.out|apply below_alloc|apply pw_below_drewN|apply below_drew1|refine below_set ?_ GE504.out|refine below_set ?_ GE505.out|refine below_set ?_ GE518.out|refine below_set ?_ GE526.out)|exact HB.out)) hb);clear HO0_0;clear HO1_0;clear HO508;clear HO513;clear HO521;clear HO529;clear BK504;clear BK505;clear BK518;clear BK526;clear HB;have HO0_0:=n0_;have HO1_0:=n1_;have HO508:=n2_;have HO513:=n3_;have HO521:=n4_;have HO529:=n5_;have HO533:=n6_;have BK504:=n7_;have BK505:=n8_;have BK518:=n9_;have BK526:=n10_;have HB:=n11_;clear n0_ n1_ n2_ n3_ n4_ n5_ n6_ n7_ n8_ n9_ n10_ n11_;(try clear hb);(try clear hb2);(try clear hk);(try clear hi);(try clear ho0))|((with_reducible refine gate_dst (N:=11) rfl ?_);refine box_event ?hg (N:=11) ?hd (cs:=#[.slice none 0 0,.int .u64 0,.int .u64 0,.int .u64 0]) (t:=54) ?hr ?_;(case hd => rfl);(case hg => rfl);(case hr => first|(go_simp;done)|(go_simp;rfl));intro gb537 hg w38 hbox hb;have n0_:=Aside0.mk (Kd.V_below (Kd.V_elderB (by (with_reducible repeat (first|apply vA|apply vN|apply vD));exact HO0_0.out) gb537 (Nat.le_of_eq hg.symm)) hb);have n1_:=Aside0.mk (Kd.V_below (Kd.V_elderB (by (with_reducible repeat (first|apply vA|apply vN|apply vD));exact HO1_0.out) gb537 (Nat.le_of_eq hg.symm)) hb);have n2_:=Aside0.mk (Kd.N_below (Kd.N_elderB (by (with_reducible repeat (first|apply nA|apply nN|apply nD));exact HO508.out) gb537 (Nat.le_of_eq hg.symm)) hb);have n3_:=Aside0.mk (Kd.R_below (by (with_reducible repeat (first|apply zA|apply zN|apply zD));exact HO513.out) hb);have n4_:=Aside0.mk (Kd.R_below (by (with_reducible repeat (first|apply zA|apply zN|apply zD));exact HO521.out) hb);have n5_:=Aside0.mk (Kd.R_below (by (with_reducible repeat (first|apply zA|apply zN|apply zD));exact HO529.out) hb);have n6_:=Aside0.mk (Kd.R_below (by (with_reducible repeat (first|apply zA|apply zN|apply zD));exact HO533.out) hb);have n7_:=Aside0.mk (blk_below (g:=gb504) (o:=.cells #[.slice A0_0 l0_0.length c0_0,.int .u64 a0_1,.int .u64 a0_2,.int .u64 a0_3] 54 (0,0)) (by (with_reducible repeat (first|refine bN ?_ _|refine bD ?_|refine bA ?_ _));exact BK504.out) hb);have n8_:=Aside0.mk (blk_below (g:=gb505) (o:=.cells #[.slice A1_0 l1_0.length c1_0,.int .u64 a1_1,.int .u64 a1_2,.int .u64 a1_3] 54 (0,0)) (by (with_reducible repeat (first|refine bN ?_ _|refine bD ?_|refine bA ?_ _));exact BK505.out) hb);have n9_:=Aside0.mk (blk_below (g:=gb518) (o:=.cells #[.slice Ao22 t511.length co22,.int .u64 t514,.int .u64 t515,.int .u64 t516] 57 (0,0)) (by (with_reducible repeat (first|refine bN ?_ _|refine bD ?_|refine bA ?_ _));exact BK518.out) hb);have n10_:=Aside0.mk (blk_below (g:=gb526) (o:=.cells #[.slice Ao29 t519.length co29,.int .u64 t522,.int .u64 t523,.int .u64 t524] 57 (0,0)) (by (with_reducible repeat (first|refine bN ?_ _|refine bD ?_|refine bA ?_ _));exact BK526.out) hb);have n11_:=Aside0.mk (below_step (by repeat (first|(with_reducible first|exact HB.out|apply below_alloc|apply pw_below_drewN|apply below_drew1|refine below_set ?_ GE504.out|refine below_set ?_ GE505.out|refine below_set ?_ GE518.out|refine below_set ?_ GE526.out)|exact HB.out)) hb);have n12_:=Aside0.mk (hbox);have n13_:=Aside0.mk ((by rw [hg];exact (below_size (by repeat (first|(with_reducible first|exact HB.out|apply below_alloc|apply pw_below_drewN|apply below_drew1|refine below_set ?_ GE504.out|refine below_set ?_ GE505.out|refine below_set ?_ GE518.out|refine below_set ?_ GE526.out)|exact HB.out))) : w.heap.size ≤ gb537));have n14_:=Aside0.mk ((by rw [hg];exact (below_size (by repeat (first|(with_reducible first|exact HB.out|apply below_alloc|apply pw_below_drewN|apply below_drew1|refine below_set ?_ GE504.out|refine below_set ?_ GE505.out|refine below_set ?_ GE518.out|refine below_set ?_ GE526.out)|exact HB.out))) : w.heap.size ≤ gb537));have n15_:=Aside0.mk ((by rw [hg];exact Nat.ne_of_lt (blk_lt (g:=gb504) (o:=.cells #[.slice A0_0 l0_0.length c0_0,.int .u64 a0_1,.int .u64 a0_2,.int .u64 a0_3] 54 (0,0)) (by (with_reducible repeat (first|refine bN ?_ _|refine bD ?_|refine bA ?_ _));exact BK504.out)) : gb504 ≠ gb537));have n16_:=Aside0.mk ((by rw [hg];exact Nat.ne_of_gt (blk_lt (g:=gb504) (o:=.cells #[.slice A0_0 l0_0.length c0_0,.int .u64 a0_1,.int .u64 a0_2,.int .u64 a0_3] 54 (0,0)) (by (with_reducible repeat (first|refine bN ?_ _|refine bD ?_|refine bA ?_ _));exact BK504.out)) : gb537 ≠ gb504));have n17_:=Aside0.mk ((by rw [hg];exact Nat.ne_of_lt (blk_lt (g:=gb505) (o:=.cells #[.slice A1_0 l1_0.length c1_0,.int .u64 a1_1,.int .u64 a1_2,.int .u64 a1_3] 54 (0,0)) (by (with_reducible repeat (first|refine bN ?_ _|refine bD ?_|refine bA ?_ _));exact BK505.out)) : gb505 ≠ gb537));have n18_:=Aside0.mk ((by rw [hg];exact Nat.ne_of_gt (blk_lt (g:=gb505) (o:=.cells #[.slice A1_0 l1_0.length c1_0,.int .u64 a1_1,.int .u64 a1_2,.int .u64 a1_3] 54 (0,0)) (by (with_reducible repeat (first|refine bN ?_ _|refine bD ?_|refine bA ?_ _));exact BK505.out)) : gb537 ≠ gb505));have n19_:=Aside0.mk ((by rw [hg];exact Nat.ne_of_lt (blk_lt (g:=gb518) (o:=.cells #[.slice Ao22 t511.length co22,.int .u64 t514,.int .u64 t515,.int .u64 t516] 57 (0,0)) (by (with_reducible repeat (first|refine bN ?_ _|refine bD ?_|refine bA ?_ _));exact BK518.out)) : gb518 ≠ gb537));have n20_:=Aside0.mk ((by rw [hg];exact Nat.ne_of_gt (blk_lt (g:=gb518) (o:=.cells #[.slice Ao22 t511.length co22,.int .u64 t514,.int .u64 t515,.int .u64 t516] 57 (0,0)) (by (with_reducible repeat (first|refine bN ?_ _|refine bD ?_|refine bA ?_ _));exact BK518.out)) : gb537 ≠ gb518));have n21_:=Aside0.mk ((by rw [hg];exact Nat.ne_of_lt (blk_lt (g:=gb526) (o:=.cells #[.slice Ao29 t519.length co29,.int .u64 t522,.int .u64 t523,.int .u64 t524] 57 (0,0)) (by (with_reducible repeat (first|refine bN ?_ _|refine bD ?_|refine bA ?_ _));exact BK526.out)) : gb526 ≠ gb537));have n22_:=Aside0.mk ((by rw [hg];exact Nat.ne_of_gt (blk_lt (g:=gb526) (o:=.cells #[.slice Ao29 t519.length co29,.int .u64 t522,.int .u64 t523,.int .u64 t524] 57 (0,0)) (by (with_reducible repeat (first|refine bN ?_ _|refine bD ?_|refine bA ?_ _));exact BK526.out)) : gb537 ≠ gb526));clear HO0_0;clear HO1_0;clear HO508;clear HO513;clear HO521;clear HO529;clear HO533;clear BK504;clear BK505;clear BK518;clear BK526;clear HB;have HO0_0:=n0_;have HO1_0:=n1_;have HO508:=n2_;have HO513:=n3_;have HO521:=n4_;have HO529:=n5_;have HO533:=n6_;have BK504:=n7_;have BK505:=n8_;have BK518:=n9_;have BK526:=n10_;have HB:=n11_;have BK537:=n12_;have GW537:=n13_;have GE537:=n14_;have NB504_537:=n15_;have NB537_504:=n16_;have NB505_537:=n17_;have NB537_505:=n18_;have NB518_537:=n19_;have NB537_518:=n20_;have NB526_537:=n21_;have NB537_526:=n22_;clear n0_ n1_ n2_ n3_ n4_ n5_ n6_ n7_ n8_ n9_ n10_ n11_ n12_ n13_ n14_ n15_ n16_ n17_ n18_ n19_ n20_ n21_ n22_;clear hb hbox hg;obtain ⟨Ao39,co39,eo39⟩:=Kd.R_slice HO533.out;subst eo39;have hnb40:=NB537_504.out;have hnc40:=NB504_537.out;have hnb41:=NB537_505.out;have hnc41:=NB505_537.out;have hnb42:=NB537_518.out;have hnc42:=NB518_537.out;have hnb43:=NB537_526.out;have hnc43:=NB526_537.out;have hcz44_0 : w38.cell? ⟨gb537,0,none⟩ = some (.slice none 0 0):=(blk_cell BK537.out 0).trans rfl;have hcz44_1 : w38.cell? ⟨gb537,1,none⟩ = some (.int .u64 0):=(blk_cell BK537.out 1).trans rfl;have hcz44_2 : w38.cell? ⟨gb537,2,none⟩ = some (.int .u64 0):=(blk_cell BK537.out 2).trans rfl;have hcz44_3 : w38.cell? ⟨gb537,3,none⟩ = some (.int .u64 0):=(blk_cell BK537.out 3).trans rfl;have hfz44_0:=blk_frozen BK537.out 0;have hfz44_1:=blk_frozen BK537.out 1;have hfz44_2:=blk_frozen BK537.out 2;have hfz44_3:=blk_frozen BK537.out 3)|((with_reducible refine gate_dst (N:=43) rfl ?_);refine Kd.R_lit k62 _ 62 ?hg (N:=43) ?hd (xs:=([] : List (S62))) (inner:=[]) (ok:=fun _ => True) (okp:=fun _ => True) ?hr ?hp (fun _ hk => hk) trivial (Below.refl _ _) (Nat.le_refl _) (by simp) ?_;(case hd => rfl);(case hg => rfl);(case hr => first|(go_simp;done)|(go_simp;rfl));(case hp => exact (Reps.none _ _));intro v539 w45 ho46 hb hg_ hnew_;clear hg_ hnew_;(first|rw [← Ny538.out] at ho46|(simp only [Int.reduceToNat] at ho46;rw [← Ny538.out] at ho46));have n0_:=Aside0.mk (Kd.V_elder' (by (with_reducible repeat (first|apply vA|apply vN|apply vD));exact (Kd.V_mono (Kd.V_far (p:=⟨gb537,3,none⟩) (Kd.V_far (p:=⟨gb537,2,none⟩) (Kd.V_far (p:=⟨gb537,1,none⟩) (Kd.V_far (p:=⟨gb537,0,none⟩) (Kd.V_mono HO0_0.out (fun k_ hk => (⟨hk,hk.2⟩ : _ ∧ k_ ≠ gb537))) (fun _ hk => hk.2) (.slice Ao39 t531.length co39)) (fun _ hk => hk.2) (.int .u64 t534)) (fun _ hk => hk.2) (.int .u64 t535)) (fun _ hk => hk.2) (.int .u64 t536)) (fun _ h_ => h_.1))) (Kd.R_base ho46) hb);have n1_:=Aside0.mk (Kd.V_elder' (by (with_reducible repeat (first|apply vA|apply vN|apply vD));exact (Kd.V_mono (Kd.V_far (p:=⟨gb537,3,none⟩) (Kd.V_far (p:=⟨gb537,2,none⟩) (Kd.V_far (p:=⟨gb537,1,none⟩) (Kd.V_far (p:=⟨gb537,0,none⟩) (Kd.V_mono HO1_0.out (fun k_ hk => (⟨hk,hk.2⟩ : _ ∧ k_ ≠ gb537))) (fun _ hk => hk.2) (.slice Ao39 t531.length co39)) (fun _ hk => hk.2) (.int .u64 t534)) (fun _ hk => hk.2) (.int .u64 t535)) (fun _ hk => hk.2) (.int .u64 t536)) (fun _ h_ => h_.1))) (Kd.R_base ho46) hb);have n2_:=Aside0.mk (Kd.N_elder' (by (with_reducible repeat (first|apply nA|apply nN|apply nD));exact (Kd.N_mono (Kd.N_far (p:=⟨gb537,3,none⟩) (Kd.N_far (p:=⟨gb537,2,none⟩) (Kd.N_far (p:=⟨gb537,1,none⟩) (Kd.N_far (p:=⟨gb537,0,none⟩) (Kd.N_mono HO508.out (fun k_ hk => (⟨hk,hk.2⟩ : _ ∧ k_ ≠ gb537))) (fun _ hk => hk.2) (.slice Ao39 t531.length co39)) (fun _ hk => hk.2) (.int .u64 t534)) (fun _ hk => hk.2) (.int .u64 t535)) (fun _ hk => hk.2) (.int .u64 t536)) (fun _ h_ => h_.1))) (Kd.R_base ho46) hb);have n3_:=Aside0.mk (Kd.R_elder' (by (with_reducible repeat (first|apply zA|apply zN|apply zD));exact (Kd.R_mono (Kd.R_far (p:=⟨gb537,3,none⟩) (Kd.R_far (p:=⟨gb537,2,none⟩) (Kd.R_far (p:=⟨gb537,1,none⟩) (Kd.R_far (p:=⟨gb537,0,none⟩) (Kd.R_types HO513.out BK537.out (by decide)) (fun _ hk => hk.2) (.slice Ao39 t531.length co39)) (fun _ hk => hk.2) (.int .u64 t534)) (fun _ hk => hk.2) (.int .u64 t535)) (fun _ hk => hk.2) (.int .u64 t536)) (fun _ h_ => h_.1))) (Kd.R_base ho46) hb);have n4_:=Aside0.mk (Kd.R_elder' (by (with_reducible repeat (first|apply zA|apply zN|apply zD));exact (Kd.R_mono (Kd.R_far (p:=⟨gb537,3,none⟩) (Kd.R_far (p:=⟨gb537,2,none⟩) (Kd.R_far (p:=⟨gb537,1,none⟩) (Kd.R_far (p:=⟨gb537,0,none⟩) (Kd.R_types HO521.out BK537.out (by decide)) (fun _ hk => hk.2) (.slice Ao39 t531.length co39)) (fun _ hk => hk.2) (.int .u64 t534)) (fun _ hk => hk.2) (.int .u64 t535)) (fun _ hk => hk.2) (.int .u64 t536)) (fun _ h_ => h_.1))) (Kd.R_base ho46) hb);have n5_:=Aside0.mk (Kd.R_below (by (with_reducible repeat (first|apply zA|apply zN|apply zD));exact (Kd.R_mono (Kd.R_far (p:=⟨gb537,3,none⟩) (Kd.R_far (p:=⟨gb537,2,none⟩) (Kd.R_far (p:=⟨gb537,1,none⟩) (Kd.R_far (p:=⟨gb537,0,none⟩) (Kd.R_types HO529.out BK537.out (by decide)) (fun _ hk => hk.2) (.slice Ao39 t531.length co39)) (fun _ hk => hk.2) (.int .u64 t534)) (fun _ hk => hk.2) (.int .u64 t535)) (fun _ hk => hk.2) (.int .u64 t536)) (fun _ h_ => h_.1))) hb);have n6_:=Aside0.mk (Kd.R_elder' (by (with_reducible repeat (first|apply zA|apply zN|apply zD));exact (Kd.R_mono (Kd.R_far (p:=⟨gb537,3,none⟩) (Kd.R_far (p:=⟨gb537,2,none⟩) (Kd.R_far (p:=⟨gb537,1,none⟩) (Kd.R_far (p:=⟨gb537,0,none⟩) (Kd.R_types HO533.out BK537.out (by decide)) (fun _ hk => hk.2) (.slice Ao39 t531.length co39)) (fun _ hk => hk.2) (.int .u64 t534)) (fun _ hk => hk.2) (.int .u64 t535)) (fun _ hk => hk.2) (.int .u64 t536)) (fun _ h_ => h_.1))) (Kd.R_base ho46) hb);have n7_:=Aside0.mk (Kd.R_lower (Kd.R_new' (Kd.R_new' (Kd.R_new' (Kd.R_newM (M:=fun k_ => (w.heap.size ≤ k_)) ho46 (below_size (by repeat (first|(with_reducible first|exact HB.out|apply below_alloc|apply pw_below_drewN|apply below_drew1|refine below_set ?_ GE504.out|refine below_set ?_ GE505.out|refine below_set ?_ GE518.out|refine below_set ?_ GE526.out|refine below_set ?_ GE537.out)|exact HB.out))) (fun k_ h_ => h_)) (Kd.R_lt (by (with_reducible repeat (first|apply zA|apply zN|apply zD));exact (Kd.R_mono (Kd.R_far (p:=⟨gb537,3,none⟩) (Kd.R_far (p:=⟨gb537,2,none⟩) (Kd.R_far (p:=⟨gb537,1,none⟩) (Kd.R_far (p:=⟨gb537,0,none⟩) (Kd.R_types HO513.out BK537.out (by decide)) (fun _ hk => hk.2) (.slice Ao39 t531.length co39)) (fun _ hk => hk.2) (.int .u64 t534)) (fun _ hk => hk.2) (.int .u64 t535)) (fun _ hk => hk.2) (.int .u64 t536)) (fun _ h_ => h_.1))))) (Kd.R_lt (by (with_reducible repeat (first|apply zA|apply zN|apply zD));exact (Kd.R_mono (Kd.R_far (p:=⟨gb537,3,none⟩) (Kd.R_far (p:=⟨gb537,2,none⟩) (Kd.R_far (p:=⟨gb537,1,none⟩) (Kd.R_far (p:=⟨gb537,0,none⟩) (Kd.R_types HO521.out BK537.out (by decide)) (fun _ hk => hk.2) (.slice Ao39 t531.length co39)) (fun _ hk => hk.2) (.int .u64 t534)) (fun _ hk => hk.2) (.int .u64 t535)) (fun _ hk => hk.2) (.int .u64 t536)) (fun _ h_ => h_.1))))) (Kd.R_lt (by (with_reducible repeat (first|apply zA|apply zN|apply zD));exact (Kd.R_mono (Kd.R_far (p:=⟨gb537,3,none⟩) (Kd.R_far (p:=⟨gb537,2,none⟩) (Kd.R_far (p:=⟨gb537,1,none⟩) (Kd.R_far (p:=⟨gb537,0,none⟩) (Kd.R_types HO533.out BK537.out (by decide)) (fun _ hk => hk.2) (.slice Ao39 t531.length co39)) (fun _ hk => hk.2) (.int .u64 t534)) (fun _ hk => hk.2) (.int .u64 t535)) (fun _ hk => hk.2) (.int .u64 t536)) (fun _ h_ => h_.1))))) (below_size (by repeat (first|(with_reducible first|exact HB.out|apply below_alloc|apply pw_below_drewN|apply below_drew1|refine below_set ?_ GE504.out|refine below_set ?_ GE505.out|refine below_set ?_ GE518.out|refine below_set ?_ GE526.out|refine below_set ?_ GE537.out)|exact HB.out))));have n8_:=Aside0.mk (blk_below (g:=gb504) (o:=.cells #[.slice A0_0 l0_0.length c0_0,.int .u64 a0_1,.int .u64 a0_2,.int .u64 a0_3] 54 (0,0)) (by (with_reducible repeat (first|refine bN ?_ _|refine bD ?_|refine bA ?_ _));refine blk_far ?_ NB504_537.out _;(with_reducible repeat (first|refine bN ?_ _|refine bD ?_|refine bA ?_ _));refine blk_far ?_ NB504_537.out _;(with_reducible repeat (first|refine bN ?_ _|refine bD ?_|refine bA ?_ _));refine blk_far ?_ NB504_537.out _;(with_reducible repeat (first|refine bN ?_ _|refine bD ?_|refine bA ?_ _));refine blk_far ?_ NB504_537.out _;(with_reducible repeat (first|refine bN ?_ _|refine bD ?_|refine bA ?_ _));exact BK504.out) hb);have n9_:=Aside0.mk (blk_below (g:=gb505) (o:=.cells #[.slice A1_0 l1_0.length c1_0,.int .u64 a1_1,.int .u64 a1_2,.int .u64 a1_3] 54 (0,0)) (by (with_reducible repeat (first|refine bN ?_ _|refine bD ?_|refine bA ?_ _));refine blk_far ?_ NB505_537.out _;(with_reducible repeat (first|refine bN ?_ _|refine bD ?_|refine bA ?_ _));refine blk_far ?_ NB505_537.out _;(with_reducible repeat (first|refine bN ?_ _|refine bD ?_|refine bA ?_ _));refine blk_far ?_ NB505_537.out _;(with_reducible repeat (first|refine bN ?_ _|refine bD ?_|refine bA ?_ _));refine blk_far ?_ NB505_537.out _;(with_reducible repeat (first|refine bN ?_ _|refine bD ?_|refine bA ?_ _));exact BK505.out) hb);have n10_:=Aside0.mk (blk_below (g:=gb518) (o:=.cells #[.slice Ao22 t511.length co22,.int .u64 t514,.int .u64 t515,.int .u64 t516] 57 (0,0)) (by (with_reducible repeat (first|refine bN ?_ _|refine bD ?_|refine bA ?_ _));refine blk_far ?_ NB518_537.out _;(with_reducible repeat (first|refine bN ?_ _|refine bD ?_|refine bA ?_ _));refine blk_far ?_ NB518_537.out _;(with_reducible repeat (first|refine bN ?_ _|refine bD ?_|refine bA ?_ _));refine blk_far ?_ NB518_537.out _;(with_reducible repeat (first|refine bN ?_ _|refine bD ?_|refine bA ?_ _));refine blk_far ?_ NB518_537.out _;(with_reducible repeat (first|refine bN ?_ _|refine bD ?_|refine bA ?_ _));exact BK518.out) hb);have n11_:=Aside0.mk (blk_below (g:=gb526) (o:=.cells #[.slice Ao29 t519.length co29,.int .u64 t522,.int .u64 t523,.int .u64 t524] 57 (0,0)) (by (with_reducible repeat (first|refine bN ?_ _|refine bD ?_|refine bA ?_ _));refine blk_far ?_ NB526_537.out _;(with_reducible repeat (first|refine bN ?_ _|refine bD ?_|refine bA ?_ _));refine blk_far ?_ NB526_537.out _;(with_reducible repeat (first|refine bN ?_ _|refine bD ?_|refine bA ?_ _));refine blk_far ?_ NB526_537.out _;(with_reducible repeat (first|refine bN ?_ _|refine bD ?_|refine bA ?_ _));refine blk_far ?_ NB526_537.out _;(with_reducible repeat (first|refine bN ?_ _|refine bD ?_|refine bA ?_ _));exact BK526.out) hb);have n12_:=Aside0.mk (blk_below (g:=gb537) (o:=.cells #[.slice Ao39 t531.length co39,.int .u64 t534,.int .u64 t535,.int .u64 t536] 54 (0,0)) (by (with_reducible repeat (first|refine bN ?_ _|refine bD ?_|refine bA ?_ _));refine blk_put (cs:=#[.slice Ao39 t531.length co39,.int .u64 t534,.int .u64 t535,.int .u64 0]) ?_ 3 _ rfl;(with_reducible repeat (first|refine bN ?_ _|refine bD ?_|refine bA ?_ _));refine blk_put (cs:=#[.slice Ao39 t531.length co39,.int .u64 t534,.int .u64 0,.int .u64 0]) ?_ 2 _ rfl;(with_reducible repeat (first|refine bN ?_ _|refine bD ?_|refine bA ?_ _));refine blk_put (cs:=#[.slice Ao39 t531.length co39,.int .u64 0,.int .u64 0,.int .u64 0]) ?_ 1 _ rfl;(with_reducible repeat (first|refine bN ?_ _|refine bD ?_|refine bA ?_ _));refine blk_put (cs:=#[.slice none 0 0,.int .u64 0,.int .u64 0,.int .u64 0]) ?_ 0 _ rfl;(with_reducible repeat (first|refine bN ?_ _|refine bD ?_|refine bA ?_ _));exact BK537.out) hb);have n13_:=Aside0.mk (below_step (by repeat (first|(with_reducible first|exact HB.out|apply below_alloc|apply pw_below_drewN|apply below_drew1|refine below_set ?_ GE504.out|refine below_set ?_ GE505.out|refine below_set ?_ GE518.out|refine below_set ?_ GE526.out|refine below_set ?_ GE537.out)|exact HB.out)) hb);clear HO0_0;clear HO1_0;clear HO508;clear HO513;clear HO521;clear HO529;clear HO533;clear BK504;clear BK505;clear BK518;clear BK526;clear BK537;clear HB;have HO0_0:=n0_;have HO1_0:=n1_;have HO508:=n2_;have HO513:=n3_;have HO521:=n4_;have HO529:=n5_;have HO533:=n6_;have HO540:=n7_;have BK504:=n8_;have BK505:=n9_;have BK518:=n10_;have BK526:=n11_;have BK537:=n12_;have HB:=n13_;clear n0_ n1_ n2_ n3_ n4_ n5_ n6_ n7_ n8_ n9_ n10_ n11_ n12_ n13_;clear hb ho46;have hcz47_0 : w45.cell? ⟨gb518,0,none⟩ = some (.slice Ao22 t511.length co22):=(blk_cell BK518.out 0).trans rfl;have hcz47_1 : w45.cell? ⟨gb518,1,none⟩ = some (.int .u64 t514):=(blk_cell BK518.out 1).trans rfl;have hcz47_2 : w45.cell? ⟨gb518,2,none⟩ = some (.int .u64 t515):=(blk_cell BK518.out 2).trans rfl;have hcz47_3 : w45.cell? ⟨gb518,3,none⟩ = some (.int .u64 t516):=(blk_cell BK518.out 3).trans rfl;have hfz47_0:=blk_frozen BK518.out 0;have hfz47_1:=blk_frozen BK518.out 1;have hfz47_2:=blk_frozen BK518.out 2;have hfz47_3:=blk_frozen BK518.out 3)|((with_reducible refine gate_builtin (b:=.append) (xs:=#[.tmp 43,.tmp 45]) rfl ?_);at_builtin;refine Kd.R_append_rows k62 (w0:=w) w.heap.size rfl (.tmp 43) (.tmp 45) 52 62 (.agg #[(.int .u64 0),(.int .u64 0),(.string ⟨#[]⟩),(.string ⟨#[]⟩)]) 48 rfl Try.underlying52 info62 rfl (by decide) (by omega) v539 y538 t511 _ _ _ (fun k_ => (w.heap.size ≤ k_) ∧ nB k_ Ao22 t511.length co22 ∧ nB k_ Ao29 t519.length co29 ∧ nB k_ Ao39 t531.length co39) (fun _ => False) rfl rfl ?aO ?aR (fun _ _ h => h) (fun _ h => h.elim) ?aF ?aB ?aS ?aL ?_;(case aR => repeat (first|exact (Kd.R_reads' HO513.out).2.2|(with_reducible refine Kd.C_alloc ?_ _)|(with_reducible refine Kd.C_drewN ?_ _)|(with_reducible refine Kd.C_drew ?_)));(case aB => exact (by repeat (first|(with_reducible first|exact HB.out|apply below_alloc|apply pw_below_drewN|apply below_drew1|refine below_set ?_ GE504.out|refine below_set ?_ GE505.out|refine below_set ?_ GE518.out|refine below_set ?_ GE526.out|refine below_set ?_ GE537.out)|exact HB.out)));(case aF => exact (fun k_ hk => ⟨(Nat.le_trans (below_size (by repeat (first|(with_reducible first|exact HB.out|apply below_alloc|apply pw_below_drewN|apply below_drew1|refine below_set ?_ GE504.out|refine below_set ?_ GE505.out|refine below_set ?_ GE518.out|refine below_set ?_ GE526.out|refine below_set ?_ GE537.out)|exact HB.out))) hk),Kd.fresh' (Kd.R_lt (by (with_reducible repeat (first|apply zA|apply zN|apply zD));exact HO513.out)) k_ hk,Kd.fresh' (Kd.R_lt (by (with_reducible repeat (first|apply zA|apply zN|apply zD));exact HO521.out)) k_ hk,Kd.fresh' (Kd.R_lt (by (with_reducible repeat (first|apply zA|apply zN|apply zD));exact HO533.out)) k_ hk⟩));(case aO => exact (by (with_reducible repeat (first|apply zA|apply zN|apply zD));exact Kd.R_mono HO540.out (fun _ hk => ⟨hk.1.1.1.1,⟨hk.1.1.2,⟨hk.1.2,hk.2⟩⟩⟩)));(case aS => exact (below_size (by repeat (first|(with_reducible first|exact HB.out|apply below_alloc|apply pw_below_drewN|apply below_drew1|refine below_set ?_ GE504.out|refine below_set ?_ GE505.out|refine below_set ?_ GE518.out|refine below_set ?_ GE526.out|refine below_set ?_ GE537.out)|exact HB.out))));(case aL => have:=LMc9.out;omega);intro v542 w48 ho hb hg hat;rw [← Ny541.out] at ho;have n0_:=Aside0.mk (Kd.V_afterv (ok:=(fun k_ => ((P0_0_ k_ ∨ P1_0_ k_) ∨ w.heap.size ≤ k_) ∧ nB k_ Ao17 y506.length co17 ∧ nB k_ Ao22 t511.length co22 ∧ nB k_ Ao29 t519.length co29 ∧ nO k_ v528 ∧ nB k_ Ao39 t531.length co39 ∧ k_ ≠ gb504 ∧ k_ ≠ gb505 ∧ k_ ≠ gb518 ∧ k_ ≠ gb526 ∧ k_ ≠ gb537)) (by (with_reducible repeat (first|apply vA|apply vN|apply vD));exact Kd.V_mono HO0_0.out (fun _ hk => ⟨⟨hk.1.1.1.1.1.1.1.1.1.1.1,⟨hk.1.1.1.1.1.1.1.1.2,⟨hk.1.1.1.1.1.1.1.2,⟨hk.1.1.1.1.1.2,⟨hk.1.1.1.2,⟨hk.1.1.2,⟨hk.1.1.1.1.1.1.1.1.1.1.2,⟨hk.1.1.1.1.1.1.1.1.1.2,⟨hk.1.1.1.1.1.1.2,⟨hk.1.1.1.1.2,hk.1.2⟩⟩⟩⟩⟩⟩⟩⟩⟩⟩,hk.2⟩)) hg hat);have n1_:=Aside0.mk (Kd.V_afterv (ok:=(fun k_ => ((P0_0_ k_ ∨ P1_0_ k_) ∨ w.heap.size ≤ k_) ∧ nB k_ Ao17 y506.length co17 ∧ nB k_ Ao22 t511.length co22 ∧ nB k_ Ao29 t519.length co29 ∧ nO k_ v528 ∧ nB k_ Ao39 t531.length co39 ∧ k_ ≠ gb504 ∧ k_ ≠ gb505 ∧ k_ ≠ gb518 ∧ k_ ≠ gb526 ∧ k_ ≠ gb537)) (by (with_reducible repeat (first|apply vA|apply vN|apply vD));exact Kd.V_mono HO1_0.out (fun _ hk => ⟨⟨hk.1.1.1.1.1.1.1.1.1.1.1,⟨hk.1.1.1.1.1.1.1.1.2,⟨hk.1.1.1.1.1.1.1.2,⟨hk.1.1.1.1.1.2,⟨hk.1.1.1.2,⟨hk.1.1.2,⟨hk.1.1.1.1.1.1.1.1.1.1.2,⟨hk.1.1.1.1.1.1.1.1.1.2,⟨hk.1.1.1.1.1.1.2,⟨hk.1.1.1.1.2,hk.1.2⟩⟩⟩⟩⟩⟩⟩⟩⟩⟩,hk.2⟩)) hg hat);have n2_:=Aside0.mk (blk_grown (g:=gb504) (o:=.cells #[.slice A0_0 l0_0.length c0_0,.int .u64 a0_1,.int .u64 a0_2,.int .u64 a0_3] 54 (0,0)) (by (with_reducible repeat (first|refine bN ?_ _|refine bD ?_|refine bA ?_ _));exact BK504.out) hg (Kd.R_ne HO540.out BK504.out (by decide)));have n3_:=Aside0.mk (blk_grown (g:=gb505) (o:=.cells #[.slice A1_0 l1_0.length c1_0,.int .u64 a1_1,.int .u64 a1_2,.int .u64 a1_3] 54 (0,0)) (by (with_reducible repeat (first|refine bN ?_ _|refine bD ?_|refine bA ?_ _));exact BK505.out) hg (Kd.R_ne HO540.out BK505.out (by decide)));have n4_:=Aside0.mk (Kd.N_afterv (ok:=(fun k_ => ((P0_0_ k_ ∨ P1_0_ k_) ∨ w.heap.size ≤ k_) ∧ nB k_ Ao22 t511.length co22 ∧ nB k_ Ao29 t519.length co29 ∧ nO k_ v528 ∧ nB k_ Ao39 t531.length co39 ∧ k_ ≠ gb504 ∧ k_ ≠ gb505 ∧ k_ ≠ gb518 ∧ k_ ≠ gb526 ∧ k_ ≠ gb537)) (by (with_reducible repeat (first|apply nA|apply nN|apply nD));exact Kd.N_mono HO508.out (fun _ hk => ⟨⟨hk.1.1.1.1.1.1.1.1.1,⟨hk.1.1.1.1.1.1.1.2,⟨hk.1.1.1.1.1.2,⟨hk.1.1.1.2,⟨hk.1.1.2,⟨hk.1.1.1.1.1.1.1.1.2.1,⟨hk.1.1.1.1.1.1.1.1.2.2,⟨hk.1.1.1.1.1.1.2,⟨hk.1.1.1.1.2,hk.1.2⟩⟩⟩⟩⟩⟩⟩⟩⟩,hk.2⟩)) hg hat);have n5_:=Aside0.mk (Kd.R_after (ok:=(fun k_ => (w.heap.size ≤ k_) ∧ nB k_ Ao29 t519.length co29 ∧ nB k_ Ao39 t531.length co39)) (by (with_reducible repeat (first|apply zA|apply zN|apply zD));exact Kd.R_mono HO513.out (fun _ hk => ⟨⟨hk.1.1.1.1,⟨hk.1.1.2,hk.1.2⟩⟩,hk.2⟩)) hg hat);have n6_:=Aside0.mk (blk_grown (g:=gb518) (o:=.cells #[.slice Ao22 t511.length co22,.int .u64 t514,.int .u64 t515,.int .u64 t516] 57 (0,0)) (by (with_reducible repeat (first|refine bN ?_ _|refine bD ?_|refine bA ?_ _));exact BK518.out) hg (Kd.R_ne HO540.out BK518.out (by decide)));have n7_:=Aside0.mk (Kd.R_after (ok:=(fun k_ => (w.heap.size ≤ k_) ∧ nB k_ Ao22 t511.length co22 ∧ nB k_ Ao39 t531.length co39)) (by (with_reducible repeat (first|apply zA|apply zN|apply zD));exact Kd.R_mono HO521.out (fun _ hk => ⟨⟨hk.1.1.1.1,⟨hk.1.1.2,hk.1.2⟩⟩,hk.2⟩)) hg hat);have n8_:=Aside0.mk (blk_grown (g:=gb526) (o:=.cells #[.slice Ao29 t519.length co29,.int .u64 t522,.int .u64 t523,.int .u64 t524] 57 (0,0)) (by (with_reducible repeat (first|refine bN ?_ _|refine bD ?_|refine bA ?_ _));exact BK526.out) hg (Kd.R_ne HO540.out BK526.out (by decide)));have n9_:=Aside0.mk (Kd.R_over' (by (with_reducible repeat (first|apply zA|apply zN|apply zD));exact HO529.out) (Kd.R_typed (by (with_reducible repeat (first|apply zA|apply zN|apply zD));exact HO540.out)) (by decide) hg);have n10_:=Aside0.mk (Kd.R_after (ok:=(fun k_ => (w.heap.size ≤ k_) ∧ nB k_ Ao22 t511.length co22 ∧ nB k_ Ao29 t519.length co29)) (by (with_reducible repeat (first|apply zA|apply zN|apply zD));exact Kd.R_mono HO533.out (fun _ hk => ⟨⟨hk.1.1.1.1,⟨hk.1.1.2,hk.1.2⟩⟩,hk.2⟩)) hg hat);have n11_:=Aside0.mk (blk_grown (g:=gb537) (o:=.cells #[.slice Ao39 t531.length co39,.int .u64 t534,.int .u64 t535,.int .u64 t536] 54 (0,0)) (by (with_reducible repeat (first|refine bN ?_ _|refine bD ?_|refine bA ?_ _));exact BK537.out) hg (Kd.R_ne HO540.out BK537.out (by decide)));have n12_:=Aside0.mk (hb);have n13_:=Aside0.mk (ho);clear HO0_0;clear HO1_0;clear BK504;clear BK505;clear HO508;clear HO513;clear BK518;clear HO521;clear BK526;clear HO529;clear HO533;clear BK537;clear HB;clear HO540;have HO0_0:=n0_;have HO1_0:=n1_;have BK504:=n2_;have BK505:=n3_;have HO508:=n4_;have HO513:=n5_;have BK518:=n6_;have HO521:=n7_;have BK526:=n8_;have HO529:=n9_;have HO533:=n10_;have BK537:=n11_;have HB:=n12_;have HO543:=n13_;clear n0_ n1_ n2_ n3_ n4_ n5_ n6_ n7_ n8_ n9_ n10_ n11_ n12_ n13_;clear ho hb hg hat;have hcz49_0 : w48.cell? ⟨gb526,0,none⟩ = some (.slice Ao29 t519.length co29):=(blk_cell BK526.out 0).trans rfl;have hcz49_1 : w48.cell? ⟨gb526,1,none⟩ = some (.int .u64 t522):=(blk_cell BK526.out 1).trans rfl;have hcz49_2 : w48.cell? ⟨gb526,2,none⟩ = some (.int .u64 t523):=(blk_cell BK526.out 2).trans rfl;have hcz49_3 : w48.cell? ⟨gb526,3,none⟩ = some (.int .u64 t524):=(blk_cell BK526.out 3).trans rfl;have hfz49_0:=blk_frozen BK526.out 0;have hfz49_1:=blk_frozen BK526.out 1;have hfz49_2:=blk_frozen BK526.out 2;have hfz49_3:=blk_frozen BK526.out 3))
 repeat (go_quiet (fail);try go_wp2)
 go_loopg [50] k (fun kq v50 w' => ∃ (x12_1 : List (S62)) (x50_1 : Int) (x505000_1 : List (S62)) (x506000_1 : List (S62)) (x519000_1 : List (S62)) (x527000_1 : List (S62)) (x538000_1 : List (S62)) (u505000 : Value) (u506000 : Value) (u519000 : Value) (u527000 : Value) (u538000 : Value),v50 = .int .i64 x50_1 ∧ Aside0 (ratlinelaw09_EditApart.l0 kq t517 t525 t527 x12_1 (t519.length : Int) x50_1 x505000_1 a0_1 a0_2 a0_3 x519000_1 t514 t515 t516 x527000_1 t522 t523 t524 x538000_1 t534 t535 t536 = some r) ∧ Aside0 (kq ≤ k) ∧ Aside0 (Kd.R (Kd.int .u8) 5 w' w.heap.size (fun k_ => (w.heap.size ≤ k_)) v528 t527) ∧ Aside0 (Kd.R k62 62 w' w.heap.size (fun k_ => (w.heap.size ≤ k_) ∧ nO k_ u519000 ∧ nO k_ u527000 ∧ nO k_ u538000) v542 x12_1) ∧ Aside0 (Kd.V k62 62 w' w.heap.size (fun k_ => ((P0_0_ k_ ∨ P1_0_ k_) ∨ w.heap.size ≤ k_) ∧ nO k_ v528 ∧ nO k_ v542 ∧ nO k_ u519000 ∧ nO k_ u527000 ∧ nO k_ u538000 ∧ k_ ≠ gb504 ∧ k_ ≠ gb505 ∧ k_ ≠ gb518 ∧ k_ ≠ gb526 ∧ k_ ≠ gb537) u505000 x505000_1) ∧ Aside0 (Kd.V k62 62 w' w.heap.size (fun k_ => ((P0_0_ k_ ∨ P1_0_ k_) ∨ w.heap.size ≤ k_) ∧ nO k_ v528 ∧ nO k_ v542 ∧ nO k_ u519000 ∧ nO k_ u527000 ∧ nO k_ u538000 ∧ k_ ≠ gb504 ∧ k_ ≠ gb505 ∧ k_ ≠ gb518 ∧ k_ ≠ gb526 ∧ k_ ≠ gb537) u506000 x506000_1) ∧ Aside0 (Kd.R k62 62 w' w.heap.size (fun k_ => (w.heap.size ≤ k_) ∧ nO k_ v542 ∧ nO k_ u527000 ∧ nO k_ u538000) u519000 x519000_1) ∧ Aside0 (Kd.R k62 62 w' w.heap.size (fun k_ => (w.heap.size ≤ k_) ∧ nO k_ v542 ∧ nO k_ u519000 ∧ nO k_ u538000) u527000 x527000_1) ∧ Aside0 (Kd.R k62 62 w' w.heap.size (fun k_ => (w.heap.size ≤ k_) ∧ nO k_ v542 ∧ nO k_ u519000 ∧ nO k_ u527000) u538000 x538000_1) ∧ Aside0 (w'.heap[gb504]? = some (.cells #[u505000,.int .u64 a0_1,.int .u64 a0_2,.int .u64 a0_3] 54 (0,0))) ∧ Aside0 (w'.heap[gb505]? = some (.cells #[u506000,.int .u64 a1_1,.int .u64 a1_2,.int .u64 a1_3] 54 (0,0))) ∧ Aside0 (w'.heap[gb518]? = some (.cells #[u519000,.int .u64 t514,.int .u64 t515,.int .u64 t516] 57 (0,0))) ∧ Aside0 (w'.heap[gb526]? = some (.cells #[u527000,.int .u64 t522,.int .u64 t523,.int .u64 t524] 57 (0,0))) ∧ Aside0 (w'.heap[gb537]? = some (.cells #[u538000,.int .u64 t534,.int .u64 t535,.int .u64 t536] 54 (0,0))) ∧ Aside0 (Below w.heap.size w w'))
 case atStart => exact ⟨(y541),(0),(l0_0),(l1_0),(t511),(t519),(t531),(.slice A0_0 l0_0.length c0_0),(.slice A1_0 l1_0.length c1_0),(.slice Ao22 t511.length co22),(.slice Ao29 t519.length co29),(.slice Ao39 t531.length co39),(by first|rfl|(simp;done)|(simp [*];done)),H',⟨Nat.le_refl _⟩,⟨by (with_reducible repeat (first|apply zA|apply zN|apply zD));exact Kd.R_mono HO529.out (fun _ hk => hk.1)⟩,⟨by (with_reducible repeat (first|apply zA|apply zN|apply zD));exact HO543.out⟩,⟨by (with_reducible repeat (first|apply vA|apply vN|apply vD));exact Kd.V_mono HO0_0.out (fun _ hk => ⟨hk.1.1,⟨hk.1.2.2.2.2.1,⟨hk.2,⟨hk.1.2.2.1,⟨hk.1.2.2.2.1,⟨hk.1.2.2.2.2.2.1,⟨hk.1.2.2.2.2.2.2.1,⟨hk.1.2.2.2.2.2.2.2.1,⟨hk.1.2.2.2.2.2.2.2.2.1,⟨hk.1.2.2.2.2.2.2.2.2.2.1,hk.1.2.2.2.2.2.2.2.2.2.2⟩⟩⟩⟩⟩⟩⟩⟩⟩⟩)⟩,⟨by (with_reducible repeat (first|apply vA|apply vN|apply vD));exact Kd.V_mono HO1_0.out (fun _ hk => ⟨hk.1.1,⟨hk.1.2.2.2.2.1,⟨hk.2,⟨hk.1.2.2.1,⟨hk.1.2.2.2.1,⟨hk.1.2.2.2.2.2.1,⟨hk.1.2.2.2.2.2.2.1,⟨hk.1.2.2.2.2.2.2.2.1,⟨hk.1.2.2.2.2.2.2.2.2.1,⟨hk.1.2.2.2.2.2.2.2.2.2.1,hk.1.2.2.2.2.2.2.2.2.2.2⟩⟩⟩⟩⟩⟩⟩⟩⟩⟩)⟩,⟨by (with_reducible repeat (first|apply zA|apply zN|apply zD));exact Kd.R_mono HO513.out (fun _ hk => ⟨hk.1.1,⟨hk.2,⟨hk.1.2.1,hk.1.2.2⟩⟩⟩)⟩,⟨by (with_reducible repeat (first|apply zA|apply zN|apply zD));exact Kd.R_mono HO521.out (fun _ hk => ⟨hk.1.1,⟨hk.2,⟨hk.1.2.1,hk.1.2.2⟩⟩⟩)⟩,⟨by (with_reducible repeat (first|apply zA|apply zN|apply zD));exact Kd.R_mono HO533.out (fun _ hk => ⟨hk.1.1,⟨hk.2,⟨hk.1.2.1,hk.1.2.2⟩⟩⟩)⟩,⟨by (with_reducible repeat (first|refine bN ?_ _|refine bD ?_|refine bA ?_ _));exact BK504.out⟩,⟨by (with_reducible repeat (first|refine bN ?_ _|refine bD ?_|refine bA ?_ _));exact BK505.out⟩,⟨by (with_reducible repeat (first|refine bN ?_ _|refine bD ?_|refine bA ?_ _));exact BK518.out⟩,⟨by (with_reducible repeat (first|refine bN ?_ _|refine bD ?_|refine bA ?_ _));exact BK526.out⟩,⟨by (with_reducible repeat (first|refine bN ?_ _|refine bD ?_|refine bA ?_ _));exact BK537.out⟩,⟨by repeat (first|(with_reducible first|exact HB.out|apply below_alloc|apply pw_below_drewN|apply below_drew1|refine below_set ?_ GE504.out|refine below_set ?_ GE505.out|refine below_set ?_ GE518.out|refine below_set ?_ GE526.out|refine below_set ?_ GE537.out)|exact HB.out)⟩⟩
 case round =>
  clear H'
  try clear c1
  try clear c2
  try clear p2
  try clear c3
  try clear c4
  try clear c9
  try clear c12
  try clear c23
  try clear c24
  try clear c30
  try clear c31
  try clear c32
  try clear c40
  try clear c41
  try clear c42
  try clear c43
  try clear hcz13_0
  try clear hcz13_1
  try clear hcz13_2
  try clear hcz13_3
  try clear hcz14_0
  try clear hcz14_1
  try clear hcz14_2
  try clear hcz14_3
  try clear hcz19_0
  try clear hcz19_1
  try clear hcz19_2
  try clear hcz19_3
  try clear hcz25_0
  try clear hcz25_1
  try clear hcz25_2
  try clear hcz25_3
  try clear hcz26_0
  try clear hcz26_1
  try clear hcz26_2
  try clear hcz26_3
  try clear hcz33_0
  try clear hcz33_1
  try clear hcz33_2
  try clear hcz33_3
  try clear hcz34_0
  try clear hcz34_1
  try clear hcz34_2
  try clear hcz34_3
  try clear hcz36_0
  try clear hcz36_1
  try clear hcz36_2
  try clear hcz36_3
  try clear hcz44_0
  try clear hcz44_1
  try clear hcz44_2
  try clear hcz44_3
  try clear hcz47_0
  try clear hcz47_1
  try clear hcz47_2
  try clear hcz47_3
  try clear hcz49_0
  try clear hcz49_1
  try clear hcz49_2
  try clear hcz49_3
  try clear hfz13_0
  try clear hfz13_1
  try clear hfz13_2
  try clear hfz13_3
  try clear hfz14_0
  try clear hfz14_1
  try clear hfz14_2
  try clear hfz14_3
  try clear hfz19_0
  try clear hfz19_1
  try clear hfz19_2
  try clear hfz19_3
  try clear hfz25_0
  try clear hfz25_1
  try clear hfz25_2
  try clear hfz25_3
  try clear hfz26_0
  try clear hfz26_1
  try clear hfz26_2
  try clear hfz26_3
  try clear hfz33_0
  try clear hfz33_1
  try clear hfz33_2
  try clear hfz33_3
  try clear hfz34_0
  try clear hfz34_1
  try clear hfz34_2
  try clear hfz34_3
  try clear hfz36_0
  try clear hfz36_1
  try clear hfz36_2
  try clear hfz36_3
  try clear hfz44_0
  try clear hfz44_1
  try clear hfz44_2
  try clear hfz44_3
  try clear hfz47_0
  try clear hfz47_1
  try clear hfz47_2
  try clear hfz47_3
  try clear hfz49_0
  try clear hfz49_1
  try clear hfz49_2
  try clear hfz49_3
  obtain ⟨x12_1,x50_1,x505000_1,x506000_1,x519000_1,x527000_1,x538000_1,u505000,u506000,u519000,u527000,u538000,rfl,HA,HK1,HO_9,HO_12,HO_505000,HO_506000,HO_519000,HO_527000,HO_538000,BK504,BK505,BK518,BK526,BK537,HB⟩:=hrel
  cases gk with
  | zero => exact absurd HA.out (by simp [ratlinelaw09_EditApart.l0])
  | succ k1 =>
   have H:=HA.out
   clear HA
   simp only [ratlinelaw09_EditApart.l0] at H
   by_cases c50 : x50_1 < (t519.length : Int)
   ·rw [if_pos c50] at H
    have c50b0 : decide (x50_1 < (t519.length : Int)) = true:=decide_eq_true c50
    clear c50
    by_cases c51 : 0 ≤ x50_1
    rotate_left
    ·rw [if_neg c51] at H
     exact absurd H (by simp)
    rw [if_pos c51] at H
    have c51b0 : decide (0 ≤ x50_1) = true:=decide_eq_true c51
    clear c51
    by_cases c52 : x50_1 < (x527000_1.length : Int)
    rotate_left
    ·rw [if_neg c52] at H
     exact absurd H (by simp)
    rw [if_pos c52] at H
    have c52b0 : decide (x50_1 < (x527000_1.length : Int)) = true:=decide_eq_true c52
    clear c52
    obtain ⟨y545,hy545⟩ : ∃ y_ : List (S62),y_ = (x527000_1.set (x50_1 : Int).toNat (⟨IntKind.u64.wrap (((rd_T62 x527000_1 x50_1).f0) + 1),(rd_T62 x527000_1 x50_1).f1,(rd_T62 x527000_1 x50_1).f2,(rd_T62 x527000_1 x50_1).f3⟩ : S62)):=⟨_,rfl⟩
    replace H : (ratlinelaw09_EditApart.l0 k1 t517 t525 t527 x12_1 (t519.length : Int) (wrap64 (x50_1 + 1)) x505000_1 a0_1 a0_2 a0_3 x519000_1 t514 t515 t516 y545 t522 t523 t524 x538000_1 t534 t535 t536) = some r:=by first|(rw [hy545];with_reducible exact H)|(have H2_:=(Option.bind_some _ _).symm.trans H;rw [hy545];with_reducible exact H2_)|(have H2_:=(Option.bind_some _ _).symm.trans H;with_reducible exact H2_)|with_reducible exact H|(rw [hy545];exact H)|exact H
    have Ny545:=Aside0.mk hy545
    clear hy545
    have H':=Aside0.mk H
    clear H
    have hnb54:=NB526_504.out
    have hnc54:=NB504_526.out
    have hnb55:=NB526_505.out
    have hnc55:=NB505_526.out
    have hnb56:=NB526_518.out
    have hnc56:=NB518_526.out
    have hnb57:=NB526_537.out
    have hnc57:=NB537_526.out
    have hcz58_0 : wr.cell? ⟨gb526,0,none⟩ = some (u527000):=(blk_cell BK526.out 0).trans rfl
    have hcz58_1 : wr.cell? ⟨gb526,1,none⟩ = some (.int .u64 t522):=(blk_cell BK526.out 1).trans rfl
    have hcz58_2 : wr.cell? ⟨gb526,2,none⟩ = some (.int .u64 t523):=(blk_cell BK526.out 2).trans rfl
    have hcz58_3 : wr.cell? ⟨gb526,3,none⟩ = some (.int .u64 t524):=(blk_cell BK526.out 3).trans rfl
    have hfz58_0:=blk_frozen BK526.out 0
    have hfz58_1:=blk_frozen BK526.out 1
    have hfz58_2:=blk_frozen BK526.out 2
    have hfz58_3:=blk_frozen BK526.out 3
    obtain ⟨Ao59,co59,eo59⟩:=Kd.R_slice HO_527000.out
    subst eo59
    have p544 : 0 ≤ (x50_1 : Int):=of_decide_eq_true (by first|(with_reducible assumption)|assumption)
    have q544 : x50_1 < (x527000_1.length : Int):=of_decide_eq_true (by first|(with_reducible assumption)|assumption)
    obtain ⟨ad544,e544,hx544_0,hx544_1,hx544_2,hx544_3⟩:=at_T62 (Kd.R_reads' HO_527000.out).2.2 x50_1 p544 q544
    cases e544
    replace p544:=eq_true p544
    replace q544:=eq_true q544
    have p53 : 0 ≤ (x50_1 : Int):=of_decide_eq_true (by first|(with_reducible assumption)|assumption)
    have q53 : (x50_1 : Int) < ((x527000_1.length : Int) : Int):=of_decide_eq_true (by first|(with_reducible assumption)|assumption)
    obtain ⟨go53,co53,eo53,gb53,gl53,cl53,HG53⟩:=Kd.R_form HO_527000.out (by omega)
    (first|cases eo53|(injection eo53 with ea_ en_ ec_;(first|subst ea_|(injection ea_ with ea_;subst ea_));subst ec_;clear en_))
    have GB53:=Aside0.mk gb53
    have GG53:=Aside0.mk HG53
    clear gb53 gl53 HG53
    (first|simp only [add_plain] at hx544_0|skip)
    (first|simp only [add_plain] at hx544_1|skip)
    (first|simp only [add_plain] at hx544_2|skip)
    (first|simp only [add_plain] at hx544_3|skip)
    obtain ⟨ce53,hcl53,hM53,hcc53,hfr53⟩:=Kd.R_elem HO_527000.out z62 (x50_1 : Int) p53 q53
    obtain rfl:=k62_openM hM53
    have hx53_0 : wr.cell? ⟨go53,(x50_1 : Int).toNat * 4,none⟩ = some (.int .u64 ((rd_T62 x527000_1 x50_1).f0)):=hcc53 0 _ rfl
    have hx53_1 : wr.cell? ⟨go53,(x50_1 : Int).toNat * 4 + 1,none⟩ = some (.int .u64 ((rd_T62 x527000_1 x50_1).f1)):=hcc53 1 _ rfl
    have hx53_2 : wr.cell? ⟨go53,(x50_1 : Int).toNat * 4 + 2,none⟩ = some (.string ((rd_T62 x527000_1 x50_1).f2)):=hcc53 2 _ rfl
    have hx53_3 : wr.cell? ⟨go53,(x50_1 : Int).toNat * 4 + 3,none⟩ = some (.string ((rd_T62 x527000_1 x50_1).f3)):=hcc53 3 _ rfl
    have hf53_0 : wr.frozen? ⟨go53,(x50_1 : Int).toNat * 4,none⟩ = false:=hfr53 0
    have hf53_1 : wr.frozen? ⟨go53,(x50_1 : Int).toNat * 4 + 1,none⟩ = false:=hfr53 1
    have hf53_2 : wr.frozen? ⟨go53,(x50_1 : Int).toNat * 4 + 2,none⟩ = false:=hfr53 2
    have hf53_3 : wr.frozen? ⟨go53,(x50_1 : Int).toNat * 4 + 3,none⟩ = false:=hfr53 3
    clear hcl53 hcc53 hfr53 hM53
    replace p53:=eq_true p53
    replace q53:=eq_true q53
    have HX60:=Aside0.mk (show Kd.R k62 62 wr w.heap.size (fun k_ => (w.heap.size ≤ k_) ∧ nO k_ v542 ∧ nO k_ u519000 ∧ nO k_ u538000) (.slice (some ⟨go53,0,none⟩) x527000_1.length co59) x527000_1 from (by (with_reducible repeat (first|apply zA|apply zN|apply zD));exact HO_527000.out))
    obtain ⟨ce60,hcl60,hM60,hcc60,hfr60⟩:=Kd.R_elem HX60.out z62 (x50_1 : Int) (of_decide_eq_true (by first|(with_reducible assumption)|assumption)) (by have h_ : (x50_1 : Int) < ((x527000_1.length : Int) : Int):=of_decide_eq_true (by first|(with_reducible assumption)|assumption);first|exact h_|(have e_:=(Kd.R_reads' HO_527000.out).1;omega)|simpa using h_)
    obtain rfl:=k62_openM hM60
    have HP60:=Kd.R_seg HX60.out (x50_1 : Int) (of_decide_eq_true (by first|(with_reducible assumption)|assumption)) (by have h_ : (x50_1 : Int) < ((x527000_1.length : Int) : Int):=of_decide_eq_true (by first|(with_reducible assumption)|assumption);first|exact h_|(have e_:=(Kd.R_reads' HO_527000.out).1;omega)|simpa using h_) (seg:=[.int .u64 (IntKind.u64.wrap (((rd_T62 x527000_1 x50_1).f0) + 1))]) (j:=0) hcl60 hcc60 (show 1 ≤ 4 from by decide) (x':=(⟨IntKind.u64.wrap (((rd_T62 x527000_1 x50_1).f0) + 1),(rd_T62 x527000_1 x50_1).f1,(rd_T62 x527000_1 x50_1).f2,(rd_T62 x527000_1 x50_1).f3⟩ : S62)) (k62_mkM _ _ _ (⟨IntKind.u64.wrap (((rd_T62 x527000_1 x50_1).f0) + 1),(rd_T62 x527000_1 x50_1).f1,(rd_T62 x527000_1 x50_1).f2,(rd_T62 x527000_1 x50_1).f3⟩ : S62) ) (fun _ hk => hk)
    have hx60_0:=hcc60 0 _ rfl
    (try simp only [show (k62).sz = 4 from rfl,Nat.mul_one,Nat.add_zero] at hx60_0)
    have hf60_0:=hfr60 0
    (try simp only [show (k62).sz = 4 from rfl,Nat.mul_one,Nat.add_zero] at hf60_0)
    clear hcl60 hcc60 hfr60 hM60
    go_wp2_with (first|((with_reducible refine gate_store (t:=35) (p:=61) rfl ?_);(try (rw [drewN_self wr];generalize hq_ : World.drewN wr _ = wr;have n0_:=Aside0.mk (Kd.R_at hq_ HO_9.out);have n1_:=Aside0.mk (Kd.R_at hq_ HO_12.out);have n2_:=Aside0.mk (Kd.V_at hq_ HO_505000.out);have n3_:=Aside0.mk (Kd.V_at hq_ HO_506000.out);have n4_:=Aside0.mk (Kd.R_at hq_ HO_519000.out);have n5_:=Aside0.mk (Kd.R_at hq_ HO_527000.out);have n6_:=Aside0.mk (Kd.R_at hq_ HO_538000.out);have n7_:=Aside0.mk (blk_at hq_ BK504.out);have n8_:=Aside0.mk (blk_at hq_ BK505.out);have n9_:=Aside0.mk (blk_at hq_ BK518.out);have n10_:=Aside0.mk (blk_at hq_ BK526.out);have n11_:=Aside0.mk (blk_at hq_ BK537.out);have n12_:=Aside0.mk (below_at hq_ HB.out);clear hq_ HO_9 HO_12 HO_505000 HO_506000 HO_519000 HO_527000 HO_538000 BK504 BK505 BK518 BK526 BK537 HB;have HO_9:=n0_;have HO_12:=n1_;have HO_505000:=n2_;have HO_506000:=n3_;have HO_519000:=n4_;have HO_527000:=n5_;have HO_538000:=n6_;have BK504:=n7_;have BK505:=n8_;have BK518:=n9_;have BK526:=n10_;have BK537:=n11_;have HB:=n12_;clear n0_ n1_ n2_ n3_ n4_ n5_ n6_ n7_ n8_ n9_ n10_ n11_ n12_;(try (have HX60:=Aside0.mk (show Kd.R k62 62 wr w.heap.size (fun k_ => (w.heap.size ≤ k_) ∧ nO k_ v542 ∧ nO k_ u519000 ∧ nO k_ u538000) (.slice (some ⟨go53,0,none⟩) x527000_1.length co59) x527000_1 from (by (with_reducible repeat (first|apply zA|apply zN|apply zD));exact HO_527000.out))));(try (obtain ⟨ce60,hcl60,hM60,hcc60,hfr60⟩:=Kd.R_elem HX60.out z62 (x50_1 : Int) (of_decide_eq_true (by first|(with_reducible assumption)|assumption)) (by have h_ : (x50_1 : Int) < ((x527000_1.length : Int) : Int):=of_decide_eq_true (by first|(with_reducible assumption)|assumption);first|exact h_|(have e_:=(Kd.R_reads' HO_527000.out).1;omega)|simpa using h_)));(try (obtain rfl:=k62_openM hM60));(try (have HP60:=Kd.R_seg HX60.out (x50_1 : Int) (of_decide_eq_true (by first|(with_reducible assumption)|assumption)) (by have h_ : (x50_1 : Int) < ((x527000_1.length : Int) : Int):=of_decide_eq_true (by first|(with_reducible assumption)|assumption);first|exact h_|(have e_:=(Kd.R_reads' HO_527000.out).1;omega)|simpa using h_) (seg:=[.int .u64 (IntKind.u64.wrap (((rd_T62 x527000_1 x50_1).f0) + 1))]) (j:=0) hcl60 hcc60 (show 1 ≤ 4 from by decide) (x':=(⟨IntKind.u64.wrap (((rd_T62 x527000_1 x50_1).f0) + 1),(rd_T62 x527000_1 x50_1).f1,(rd_T62 x527000_1 x50_1).f2,(rd_T62 x527000_1 x50_1).f3⟩ : S62)) (k62_mkM _ _ _ (⟨IntKind.u64.wrap (((rd_T62 x527000_1 x50_1).f0) + 1),(rd_T62 x527000_1 x50_1).f1,(rd_T62 x527000_1 x50_1).f2,(rd_T62 x527000_1 x50_1).f3⟩ : S62) ) (fun _ hk => hk)));(try (have hx60_0:=hcc60 0 _ rfl));(try (try simp only [show (k62).sz = 4 from rfl,Nat.mul_one,Nat.add_zero] at hx60_0));(try (have hf60_0:=hfr60 0));(try (try simp only [show (k62).sz = 4 from rfl,Nat.mul_one,Nat.add_zero] at hf60_0));(try (clear hcl60 hcc60 hfr60 hM60))));refine store_event (t:=35) (p:=61) (v:=?vo_w61) (w1:=(wr.setCell ⟨go53,(x50_1 : Int).toNat * 4,none⟩ (.int .u64 (IntKind.u64.wrap (((rd_T62 x527000_1 x50_1).f0) + 1))))) ?hg ?ho ?hn ?hr ?_;(case ho => rfl);(case hg => rfl);(case hn => rfl);(case hr => first|(go_simp;done)|(go_simp;rfl));intro w61 hw;have hg : wr.grownBy w61 (some go53):=(by rw [hw];exact HP60.2);have hp_ : Kd.R k62 62 w61 w.heap.size (fun k_ => (w.heap.size ≤ k_) ∧ nO k_ v542 ∧ nO k_ u519000 ∧ nO k_ u538000) (.slice (some ⟨go53,0,none⟩) x527000_1.length co59) y545:=(by rw [hw,Ny545.out];exact HP60.1);clear HP60;have n0_:=Aside0.mk (Kd.R_over' (v:=(.slice (some ⟨go53,0,none⟩) x527000_1.length co59)) (by (with_reducible repeat (first|apply zA|apply zN|apply zD));exact HO_9.out) (Kd.R_typed HO_527000.out) (by decide) hg);have n1_:=Aside0.mk (Kd.R_after (v:=(.slice (some ⟨go53,0,none⟩) x527000_1.length co59)) (v1:=(.slice (some ⟨go53,0,none⟩) x527000_1.length co59)) (ok:=(fun k_ => (w.heap.size ≤ k_) ∧ nO k_ u519000 ∧ nO k_ u538000)) (by (with_reducible repeat (first|apply zA|apply zN|apply zD));exact Kd.R_mono HO_12.out (fun _ hk => ⟨⟨hk.1,⟨hk.2.1,hk.2.2.2⟩⟩,hk.2.2.1⟩)) hg (.inl rfl));have n2_:=Aside0.mk (Kd.V_afterv (v:=(.slice (some ⟨go53,0,none⟩) x527000_1.length co59)) (v1:=(.slice (some ⟨go53,0,none⟩) x527000_1.length co59)) (ok:=(fun k_ => ((P0_0_ k_ ∨ P1_0_ k_) ∨ w.heap.size ≤ k_) ∧ nO k_ v528 ∧ nO k_ v542 ∧ nO k_ u519000 ∧ nO k_ u538000 ∧ k_ ≠ gb504 ∧ k_ ≠ gb505 ∧ k_ ≠ gb518 ∧ k_ ≠ gb526 ∧ k_ ≠ gb537)) (by (with_reducible repeat (first|apply vA|apply vN|apply vD));exact Kd.V_mono HO_505000.out (fun _ hk => ⟨⟨hk.1,⟨hk.2.1,⟨hk.2.2.1,⟨hk.2.2.2.1,⟨hk.2.2.2.2.2.1,⟨hk.2.2.2.2.2.2.1,⟨hk.2.2.2.2.2.2.2.1,⟨hk.2.2.2.2.2.2.2.2.1,⟨hk.2.2.2.2.2.2.2.2.2.1,hk.2.2.2.2.2.2.2.2.2.2⟩⟩⟩⟩⟩⟩⟩⟩⟩,hk.2.2.2.2.1⟩)) hg (.inl rfl));have n3_:=Aside0.mk (Kd.V_afterv (v:=(.slice (some ⟨go53,0,none⟩) x527000_1.length co59)) (v1:=(.slice (some ⟨go53,0,none⟩) x527000_1.length co59)) (ok:=(fun k_ => ((P0_0_ k_ ∨ P1_0_ k_) ∨ w.heap.size ≤ k_) ∧ nO k_ v528 ∧ nO k_ v542 ∧ nO k_ u519000 ∧ nO k_ u538000 ∧ k_ ≠ gb504 ∧ k_ ≠ gb505 ∧ k_ ≠ gb518 ∧ k_ ≠ gb526 ∧ k_ ≠ gb537)) (by (with_reducible repeat (first|apply vA|apply vN|apply vD));exact Kd.V_mono HO_506000.out (fun _ hk => ⟨⟨hk.1,⟨hk.2.1,⟨hk.2.2.1,⟨hk.2.2.2.1,⟨hk.2.2.2.2.2.1,⟨hk.2.2.2.2.2.2.1,⟨hk.2.2.2.2.2.2.2.1,⟨hk.2.2.2.2.2.2.2.2.1,⟨hk.2.2.2.2.2.2.2.2.2.1,hk.2.2.2.2.2.2.2.2.2.2⟩⟩⟩⟩⟩⟩⟩⟩⟩,hk.2.2.2.2.1⟩)) hg (.inl rfl));have n4_:=Aside0.mk (Kd.R_after (v:=(.slice (some ⟨go53,0,none⟩) x527000_1.length co59)) (v1:=(.slice (some ⟨go53,0,none⟩) x527000_1.length co59)) (ok:=(fun k_ => (w.heap.size ≤ k_) ∧ nO k_ v542 ∧ nO k_ u538000)) (by (with_reducible repeat (first|apply zA|apply zN|apply zD));exact Kd.R_mono HO_519000.out (fun _ hk => ⟨⟨hk.1,⟨hk.2.1,hk.2.2.2⟩⟩,hk.2.2.1⟩)) hg (.inl rfl));have n5_:=Aside0.mk (hp_);have n6_:=Aside0.mk (Kd.R_after (v:=(.slice (some ⟨go53,0,none⟩) x527000_1.length co59)) (v1:=(.slice (some ⟨go53,0,none⟩) x527000_1.length co59)) (ok:=(fun k_ => (w.heap.size ≤ k_) ∧ nO k_ v542 ∧ nO k_ u519000)) (by (with_reducible repeat (first|apply zA|apply zN|apply zD));exact Kd.R_mono HO_538000.out (fun _ hk => ⟨⟨hk.1,⟨hk.2.1,hk.2.2.1⟩⟩,hk.2.2.2⟩)) hg (.inl rfl));have n7_:=Aside0.mk (blk_grown (g:=gb504) (o:=.cells #[u505000,.int .u64 a0_1,.int .u64 a0_2,.int .u64 a0_3] 54 (0,0)) (by (with_reducible repeat (first|refine bN ?_ _|refine bD ?_|refine bA ?_ _));exact BK504.out) hg (Kd.R_ne HO_527000.out BK504.out (by decide)));have n8_:=Aside0.mk (blk_grown (g:=gb505) (o:=.cells #[u506000,.int .u64 a1_1,.int .u64 a1_2,.int .u64 a1_3] 54 (0,0)) (by (with_reducible repeat (first|refine bN ?_ _|refine bD ?_|refine bA ?_ _));exact BK505.out) hg (Kd.R_ne HO_527000.out BK505.out (by decide)));have n9_:=Aside0.mk (blk_grown (g:=gb518) (o:=.cells #[u519000,.int .u64 t514,.int .u64 t515,.int .u64 t516] 57 (0,0)) (by (with_reducible repeat (first|refine bN ?_ _|refine bD ?_|refine bA ?_ _));exact BK518.out) hg (Kd.R_ne HO_527000.out BK518.out (by decide)));have n10_:=Aside0.mk (blk_grown (g:=gb526) (o:=.cells #[.slice (some ⟨go53,0,none⟩) x527000_1.length co59,.int .u64 t522,.int .u64 t523,.int .u64 t524] 57 (0,0)) (by (with_reducible repeat (first|refine bN ?_ _|refine bD ?_|refine bA ?_ _));exact BK526.out) hg (Kd.R_ne HO_527000.out BK526.out (by decide)));have n11_:=Aside0.mk (blk_grown (g:=gb537) (o:=.cells #[u538000,.int .u64 t534,.int .u64 t535,.int .u64 t536] 54 (0,0)) (by (with_reducible repeat (first|refine bN ?_ _|refine bD ?_|refine bA ?_ _));exact BK537.out) hg (Kd.R_ne HO_527000.out BK537.out (by decide)));have n12_:=Aside0.mk ((by rw [hw];exact below_set (HB.out) GB53.out : Below w.heap.size w w61));clear HO_9;clear HO_12;clear HO_505000;clear HO_506000;clear HO_519000;clear HO_527000;clear HO_538000;clear BK504;clear BK505;clear BK518;clear BK526;clear BK537;clear HB;have HO_9:=n0_;have HO_12:=n1_;have HO_505000:=n2_;have HO_506000:=n3_;have HO_519000:=n4_;have HO_527000:=n5_;have HO_538000:=n6_;have BK504:=n7_;have BK505:=n8_;have BK518:=n9_;have BK526:=n10_;have BK537:=n11_;have HB:=n12_;clear n0_ n1_ n2_ n3_ n4_ n5_ n6_ n7_ n8_ n9_ n10_ n11_ n12_;clear hg hw hp_))
    repeat (go_quiet (fail);try go_wp2)
    go_roundg k1
    case measure => have:=HK1.out;omega
    case rel => exact ⟨(x12_1),(wrap64 (x50_1 + 1)),(x505000_1),(x506000_1),(x519000_1),(y545),(x538000_1),(u505000),(u506000),(u519000),(.slice (some ⟨go53,0,none⟩) x527000_1.length co59),(u538000),(by first|rfl|(simp;done)|(simp [*];done)),H',⟨by have:=HK1.out;omega⟩,⟨by (with_reducible repeat (first|apply zA|apply zN|apply zD));exact HO_9.out⟩,⟨by (with_reducible repeat (first|apply zA|apply zN|apply zD));exact Kd.R_mono HO_12.out (fun _ hk => ⟨hk.1.1,⟨hk.1.2.1,⟨hk.2,hk.1.2.2⟩⟩⟩)⟩,⟨by (with_reducible repeat (first|apply vA|apply vN|apply vD));exact Kd.V_mono HO_505000.out (fun _ hk => ⟨hk.1.1,⟨hk.1.2.1,⟨hk.1.2.2.1,⟨hk.1.2.2.2.1,⟨hk.2,⟨hk.1.2.2.2.2.1,⟨hk.1.2.2.2.2.2.1,⟨hk.1.2.2.2.2.2.2.1,⟨hk.1.2.2.2.2.2.2.2.1,⟨hk.1.2.2.2.2.2.2.2.2.1,hk.1.2.2.2.2.2.2.2.2.2⟩⟩⟩⟩⟩⟩⟩⟩⟩⟩)⟩,⟨by (with_reducible repeat (first|apply vA|apply vN|apply vD));exact Kd.V_mono HO_506000.out (fun _ hk => ⟨hk.1.1,⟨hk.1.2.1,⟨hk.1.2.2.1,⟨hk.1.2.2.2.1,⟨hk.2,⟨hk.1.2.2.2.2.1,⟨hk.1.2.2.2.2.2.1,⟨hk.1.2.2.2.2.2.2.1,⟨hk.1.2.2.2.2.2.2.2.1,⟨hk.1.2.2.2.2.2.2.2.2.1,hk.1.2.2.2.2.2.2.2.2.2⟩⟩⟩⟩⟩⟩⟩⟩⟩⟩)⟩,⟨by (with_reducible repeat (first|apply zA|apply zN|apply zD));exact Kd.R_mono HO_519000.out (fun _ hk => ⟨hk.1.1,⟨hk.1.2.1,⟨hk.2,hk.1.2.2⟩⟩⟩)⟩,⟨by (with_reducible repeat (first|apply zA|apply zN|apply zD));exact HO_527000.out⟩,⟨by (with_reducible repeat (first|apply zA|apply zN|apply zD));exact Kd.R_mono HO_538000.out (fun _ hk => ⟨hk.1.1,⟨hk.1.2.1,⟨hk.1.2.2,hk.2⟩⟩⟩)⟩,⟨by (with_reducible repeat (first|refine bN ?_ _|refine bD ?_|refine bA ?_ _));exact BK504.out⟩,⟨by (with_reducible repeat (first|refine bN ?_ _|refine bD ?_|refine bA ?_ _));exact BK505.out⟩,⟨by (with_reducible repeat (first|refine bN ?_ _|refine bD ?_|refine bA ?_ _));exact BK518.out⟩,⟨by (with_reducible repeat (first|refine bN ?_ _|refine bD ?_|refine bA ?_ _));exact BK526.out⟩,⟨by (with_reducible repeat (first|refine bN ?_ _|refine bD ?_|refine bA ?_ _));exact BK537.out⟩,⟨by repeat (first|(with_reducible first|exact HB.out|apply below_alloc|apply pw_below_drewN|apply below_drew1|refine below_set ?_ GE504.out|refine below_set ?_ GE505.out|refine below_set ?_ GE518.out|refine below_set ?_ GE526.out|refine below_set ?_ GE537.out)|exact HB.out)⟩⟩
   ·rw [if_neg c50] at H
    have c50b0 : decide (x50_1 < (t519.length : Int)) = false:=decide_eq_false c50
    clear c50
    have H':=Aside0.mk H
    clear H
    have hnb62:=NB537_504.out
    have hnc62:=NB504_537.out
    have hnb63:=NB537_505.out
    have hnc63:=NB505_537.out
    have hnb64:=NB537_518.out
    have hnc64:=NB518_537.out
    have hnb65:=NB537_526.out
    have hnc65:=NB526_537.out
    have hcz66_0 : wr.cell? ⟨gb537,0,none⟩ = some (u538000):=(blk_cell BK537.out 0).trans rfl
    have hcz66_1 : wr.cell? ⟨gb537,1,none⟩ = some (.int .u64 t534):=(blk_cell BK537.out 1).trans rfl
    have hcz66_2 : wr.cell? ⟨gb537,2,none⟩ = some (.int .u64 t535):=(blk_cell BK537.out 2).trans rfl
    have hcz66_3 : wr.cell? ⟨gb537,3,none⟩ = some (.int .u64 t536):=(blk_cell BK537.out 3).trans rfl
    have hfz66_0:=blk_frozen BK537.out 0
    have hfz66_1:=blk_frozen BK537.out 1
    have hfz66_2:=blk_frozen BK537.out 2
    have hfz66_3:=blk_frozen BK537.out 3
    obtain ⟨Ao67,co67,eo67⟩:=Kd.R_slice HO_538000.out
    subst eo67
    go_wp2
    repeat (go_quiet (fail);try go_wp2)
    go_loopg [66] k1 (fun kq v66 w' => ∃ (x12_2 : List (S62)) (x66_2 : Int) (x505000_2 : List (S62)) (x506000_2 : List (S62)) (x519000_2 : List (S62)) (x527000_2 : List (S62)) (x538000_2 : List (S62)) (u505000 : Value) (u506000 : Value) (u519000 : Value) (u527000 : Value) (u538000 : Value),v66 = .int .i64 x66_2 ∧ Aside0 (ratlinelaw09_EditApart.l1 kq t517 t525 t527 x12_2 (x538000_1.length : Int) x66_2 x505000_2 a0_1 a0_2 a0_3 x519000_2 t514 t515 t516 x538000_2 t534 t535 t536 = some r) ∧ Aside0 (kq ≤ k1) ∧ Aside0 (Kd.R (Kd.int .u8) 5 w' w.heap.size (fun k_ => (w.heap.size ≤ k_)) v528 t527) ∧ Aside0 (Kd.R k62 62 w' w.heap.size (fun k_ => (w.heap.size ≤ k_) ∧ nO k_ u519000 ∧ nO k_ u527000 ∧ nO k_ u538000) v542 x12_2) ∧ Aside0 (Kd.V k62 62 w' w.heap.size (fun k_ => ((P0_0_ k_ ∨ P1_0_ k_) ∨ w.heap.size ≤ k_) ∧ nO k_ v528 ∧ nO k_ v542 ∧ nO k_ u519000 ∧ nO k_ u527000 ∧ nO k_ u538000 ∧ k_ ≠ gb504 ∧ k_ ≠ gb505 ∧ k_ ≠ gb518 ∧ k_ ≠ gb526 ∧ k_ ≠ gb537) u505000 x505000_2) ∧ Aside0 (Kd.V k62 62 w' w.heap.size (fun k_ => ((P0_0_ k_ ∨ P1_0_ k_) ∨ w.heap.size ≤ k_) ∧ nO k_ v528 ∧ nO k_ v542 ∧ nO k_ u519000 ∧ nO k_ u527000 ∧ nO k_ u538000 ∧ k_ ≠ gb504 ∧ k_ ≠ gb505 ∧ k_ ≠ gb518 ∧ k_ ≠ gb526 ∧ k_ ≠ gb537) u506000 x506000_2) ∧ Aside0 (Kd.R k62 62 w' w.heap.size (fun k_ => (w.heap.size ≤ k_) ∧ nO k_ v542 ∧ nO k_ u527000 ∧ nO k_ u538000) u519000 x519000_2) ∧ Aside0 (Kd.R k62 62 w' w.heap.size (fun k_ => (w.heap.size ≤ k_) ∧ nO k_ v542 ∧ nO k_ u519000 ∧ nO k_ u538000) u527000 x527000_2) ∧ Aside0 (Kd.R k62 62 w' w.heap.size (fun k_ => (w.heap.size ≤ k_) ∧ nO k_ v542 ∧ nO k_ u519000 ∧ nO k_ u527000) u538000 x538000_2) ∧ Aside0 (w'.heap[gb504]? = some (.cells #[u505000,.int .u64 a0_1,.int .u64 a0_2,.int .u64 a0_3] 54 (0,0))) ∧ Aside0 (w'.heap[gb505]? = some (.cells #[u506000,.int .u64 a1_1,.int .u64 a1_2,.int .u64 a1_3] 54 (0,0))) ∧ Aside0 (w'.heap[gb518]? = some (.cells #[u519000,.int .u64 t514,.int .u64 t515,.int .u64 t516] 57 (0,0))) ∧ Aside0 (w'.heap[gb526]? = some (.cells #[u527000,.int .u64 t522,.int .u64 t523,.int .u64 t524] 57 (0,0))) ∧ Aside0 (w'.heap[gb537]? = some (.cells #[u538000,.int .u64 t534,.int .u64 t535,.int .u64 t536] 54 (0,0))) ∧ Aside0 (Below w.heap.size w w'))
    case atStart => exact ⟨(x12_1),(0),(x505000_1),(x506000_1),(x519000_1),(x527000_1),(x538000_1),(u505000),(u506000),(u519000),(u527000),(.slice Ao67 x538000_1.length co67),(by first|rfl|(simp;done)|(simp [*];done)),H',⟨Nat.le_refl _⟩,⟨by (with_reducible repeat (first|apply zA|apply zN|apply zD));exact HO_9.out⟩,⟨by (with_reducible repeat (first|apply zA|apply zN|apply zD));exact HO_12.out⟩,⟨by (with_reducible repeat (first|apply vA|apply vN|apply vD));exact HO_505000.out⟩,⟨by (with_reducible repeat (first|apply vA|apply vN|apply vD));exact HO_506000.out⟩,⟨by (with_reducible repeat (first|apply zA|apply zN|apply zD));exact HO_519000.out⟩,⟨by (with_reducible repeat (first|apply zA|apply zN|apply zD));exact HO_527000.out⟩,⟨by (with_reducible repeat (first|apply zA|apply zN|apply zD));exact HO_538000.out⟩,⟨by (with_reducible repeat (first|refine bN ?_ _|refine bD ?_|refine bA ?_ _));exact BK504.out⟩,⟨by (with_reducible repeat (first|refine bN ?_ _|refine bD ?_|refine bA ?_ _));exact BK505.out⟩,⟨by (with_reducible repeat (first|refine bN ?_ _|refine bD ?_|refine bA ?_ _));exact BK518.out⟩,⟨by (with_reducible repeat (first|refine bN ?_ _|refine bD ?_|refine bA ?_ _));exact BK526.out⟩,⟨by (with_reducible repeat (first|refine bN ?_ _|refine bD ?_|refine bA ?_ _));exact BK537.out⟩,⟨by repeat (first|(with_reducible first|exact HB.out|apply below_alloc|apply pw_below_drewN|apply below_drew1|refine below_set ?_ GE504.out|refine below_set ?_ GE505.out|refine below_set ?_ GE518.out|refine below_set ?_ GE526.out|refine below_set ?_ GE537.out)|exact HB.out)⟩⟩
    case round =>
     clear H'
     try clear c1
     try clear c2
     try clear p2
     try clear c3
     try clear c4
     try clear c5
     try clear p5
     try clear q5
     try clear hx5
     try clear hf5
     try clear c6
     try clear p6
     try clear hx6
     try clear hf6
     try clear c9
     try clear c12
     try clear c23
     try clear c24
     try clear c30
     try clear c31
     try clear c32
     try clear c40
     try clear c41
     try clear c42
     try clear c43
     try clear c50
     try clear c50b0
     try clear c51
     try clear c51b0
     try clear c52
     try clear c52b0
     try clear c53
     try clear p53
     try clear q53
     try clear hx53
     try clear hf53
     try clear c54
     try clear p54
     try clear q54
     try clear hx54
     try clear c55
     try clear c56
     try clear c57
     try clear c60
     try clear hx60
     try clear hf60
     try clear c62
     try clear c63
     try clear c64
     try clear p64
     try clear c65
     try clear hcz13_0
     try clear hcz13_1
     try clear hcz13_2
     try clear hcz13_3
     try clear hcz14_0
     try clear hcz14_1
     try clear hcz14_2
     try clear hcz14_3
     try clear hcz19_0
     try clear hcz19_1
     try clear hcz19_2
     try clear hcz19_3
     try clear hcz25_0
     try clear hcz25_1
     try clear hcz25_2
     try clear hcz25_3
     try clear hcz26_0
     try clear hcz26_1
     try clear hcz26_2
     try clear hcz26_3
     try clear hcz33_0
     try clear hcz33_1
     try clear hcz33_2
     try clear hcz33_3
     try clear hcz34_0
     try clear hcz34_1
     try clear hcz34_2
     try clear hcz34_3
     try clear hcz36_0
     try clear hcz36_1
     try clear hcz36_2
     try clear hcz36_3
     try clear hcz44_0
     try clear hcz44_1
     try clear hcz44_2
     try clear hcz44_3
     try clear hcz47_0
     try clear hcz47_1
     try clear hcz47_2
     try clear hcz47_3
     try clear hcz49_0
     try clear hcz49_1
     try clear hcz49_2
     try clear hcz49_3
     try clear hcz58_0
     try clear hcz58_1
     try clear hcz58_2
     try clear hcz58_3
     try clear hcz66_0
     try clear hcz66_1
     try clear hcz66_2
     try clear hcz66_3
     try clear hfz13_0
     try clear hfz13_1
     try clear hfz13_2
     try clear hfz13_3
     try clear hfz14_0
     try clear hfz14_1
     try clear hfz14_2
     try clear hfz14_3
     try clear hfz19_0
     try clear hfz19_1
     try clear hfz19_2
     try clear hfz19_3
     try clear hfz25_0
     try clear hfz25_1
     try clear hfz25_2
     try clear hfz25_3
     try clear hfz26_0
     try clear hfz26_1
     try clear hfz26_2
     try clear hfz26_3
     try clear hfz33_0
     try clear hfz33_1
     try clear hfz33_2
     try clear hfz33_3
     try clear hfz34_0
     try clear hfz34_1
     try clear hfz34_2
     try clear hfz34_3
     try clear hfz36_0
     try clear hfz36_1
     try clear hfz36_2
     try clear hfz36_3
     try clear hfz44_0
     try clear hfz44_1
     try clear hfz44_2
     try clear hfz44_3
     try clear hfz47_0
     try clear hfz47_1
     try clear hfz47_2
     try clear hfz47_3
     try clear hfz49_0
     try clear hfz49_1
     try clear hfz49_2
     try clear hfz49_3
     try clear hfz58_0
     try clear hfz58_1
     try clear hfz58_2
     try clear hfz58_3
     try clear hfz66_0
     try clear hfz66_1
     try clear hfz66_2
     try clear hfz66_3
     try clear hx53_0
     try clear hx53_1
     try clear hx53_2
     try clear hx53_3
     try clear hx544_0
     try clear hx544_1
     try clear hx544_2
     try clear hx544_3
     try clear hx60_0
     try clear p2
     try clear p53
     try clear p544
     try clear q53
     try clear q544
     obtain ⟨x12_2,x66_2,x505000_2,x506000_2,x519000_2,x527000_2,x538000_2,u505000,u506000,u519000,u527000,u538000,rfl,HA,HK2,HO_9,HO_12,HO_505000,HO_506000,HO_519000,HO_527000,HO_538000,BK504,BK505,BK518,BK526,BK537,HB⟩:=hrel
     cases gk with
     | zero => exact absurd HA.out (by simp [ratlinelaw09_EditApart.l1])
     | succ k2 =>
      have H:=HA.out
      clear HA
      simp only [ratlinelaw09_EditApart.l1] at H
      by_cases c68 : x66_2 < (x538000_1.length : Int)
      ·rw [if_pos c68] at H
       have c68b0 : decide (x66_2 < (x538000_1.length : Int)) = true:=decide_eq_true c68
       clear c68
       by_cases c69 : 0 ≤ x66_2
       rotate_left
       ·rw [if_neg c69] at H
        exact absurd H (by simp)
       rw [if_pos c69] at H
       have c69b0 : decide (0 ≤ x66_2) = true:=decide_eq_true c69
       clear c69
       by_cases c70 : x66_2 < (x538000_2.length : Int)
       rotate_left
       ·rw [if_neg c70] at H
        exact absurd H (by simp)
       rw [if_pos c70] at H
       have c70b0 : decide (x66_2 < (x538000_2.length : Int)) = true:=decide_eq_true c70
       clear c70
       obtain ⟨y547,hy547⟩ : ∃ y_ : List (S62),y_ = (x538000_2.set (x66_2 : Int).toNat (⟨IntKind.u64.wrap (((rd_T62 x538000_2 x66_2).f0) + 1),(rd_T62 x538000_2 x66_2).f1,(rd_T62 x538000_2 x66_2).f2,(rd_T62 x538000_2 x66_2).f3⟩ : S62)):=⟨_,rfl⟩
       replace H : (ratlinelaw09_EditApart.l1 k2 t517 t525 t527 x12_2 (x538000_1.length : Int) (wrap64 (x66_2 + 1)) x505000_2 a0_1 a0_2 a0_3 x519000_2 t514 t515 t516 y547 t534 t535 t536) = some r:=by first|(rw [hy547];with_reducible exact H)|(have H2_:=(Option.bind_some _ _).symm.trans H;rw [hy547];with_reducible exact H2_)|(have H2_:=(Option.bind_some _ _).symm.trans H;with_reducible exact H2_)|with_reducible exact H|(rw [hy547];exact H)|exact H
       have Ny547:=Aside0.mk hy547
       clear hy547
       have H':=Aside0.mk H
       clear H
       have hnb72:=NB537_504.out
       have hnc72:=NB504_537.out
       have hnb73:=NB537_505.out
       have hnc73:=NB505_537.out
       have hnb74:=NB537_518.out
       have hnc74:=NB518_537.out
       have hnb75:=NB537_526.out
       have hnc75:=NB526_537.out
       have hcz76_0 : wr.cell? ⟨gb537,0,none⟩ = some (u538000):=(blk_cell BK537.out 0).trans rfl
       have hcz76_1 : wr.cell? ⟨gb537,1,none⟩ = some (.int .u64 t534):=(blk_cell BK537.out 1).trans rfl
       have hcz76_2 : wr.cell? ⟨gb537,2,none⟩ = some (.int .u64 t535):=(blk_cell BK537.out 2).trans rfl
       have hcz76_3 : wr.cell? ⟨gb537,3,none⟩ = some (.int .u64 t536):=(blk_cell BK537.out 3).trans rfl
       have hfz76_0:=blk_frozen BK537.out 0
       have hfz76_1:=blk_frozen BK537.out 1
       have hfz76_2:=blk_frozen BK537.out 2
       have hfz76_3:=blk_frozen BK537.out 3
       obtain ⟨Ao77,co77,eo77⟩:=Kd.R_slice HO_538000.out
       subst eo77
       have p546 : 0 ≤ (x66_2 : Int):=of_decide_eq_true (by first|(with_reducible assumption)|assumption)
       have q546 : x66_2 < (x538000_2.length : Int):=of_decide_eq_true (by first|(with_reducible assumption)|assumption)
       obtain ⟨ad546,e546,hx546_0,hx546_1,hx546_2,hx546_3⟩:=at_T62 (Kd.R_reads' HO_538000.out).2.2 x66_2 p546 q546
       cases e546
       replace p546:=eq_true p546
       replace q546:=eq_true q546
       have p71 : 0 ≤ (x66_2 : Int):=of_decide_eq_true (by first|(with_reducible assumption)|assumption)
       have q71 : (x66_2 : Int) < ((x538000_2.length : Int) : Int):=of_decide_eq_true (by first|(with_reducible assumption)|assumption)
       obtain ⟨go71,co71,eo71,gb71,gl71,cl71,HG71⟩:=Kd.R_form HO_538000.out (by omega)
       (first|cases eo71|(injection eo71 with ea_ en_ ec_;(first|subst ea_|(injection ea_ with ea_;subst ea_));subst ec_;clear en_))
       have GB71:=Aside0.mk gb71
       have GG71:=Aside0.mk HG71
       clear gb71 gl71 HG71
       (first|simp only [add_plain] at hx546_0|skip)
       (first|simp only [add_plain] at hx546_1|skip)
       (first|simp only [add_plain] at hx546_2|skip)
       (first|simp only [add_plain] at hx546_3|skip)
       obtain ⟨ce71,hcl71,hM71,hcc71,hfr71⟩:=Kd.R_elem HO_538000.out z62 (x66_2 : Int) p71 q71
       obtain rfl:=k62_openM hM71
       have hx71_0 : wr.cell? ⟨go71,(x66_2 : Int).toNat * 4,none⟩ = some (.int .u64 ((rd_T62 x538000_2 x66_2).f0)):=hcc71 0 _ rfl
       have hx71_1 : wr.cell? ⟨go71,(x66_2 : Int).toNat * 4 + 1,none⟩ = some (.int .u64 ((rd_T62 x538000_2 x66_2).f1)):=hcc71 1 _ rfl
       have hx71_2 : wr.cell? ⟨go71,(x66_2 : Int).toNat * 4 + 2,none⟩ = some (.string ((rd_T62 x538000_2 x66_2).f2)):=hcc71 2 _ rfl
       have hx71_3 : wr.cell? ⟨go71,(x66_2 : Int).toNat * 4 + 3,none⟩ = some (.string ((rd_T62 x538000_2 x66_2).f3)):=hcc71 3 _ rfl
       have hf71_0 : wr.frozen? ⟨go71,(x66_2 : Int).toNat * 4,none⟩ = false:=hfr71 0
       have hf71_1 : wr.frozen? ⟨go71,(x66_2 : Int).toNat * 4 + 1,none⟩ = false:=hfr71 1
       have hf71_2 : wr.frozen? ⟨go71,(x66_2 : Int).toNat * 4 + 2,none⟩ = false:=hfr71 2
       have hf71_3 : wr.frozen? ⟨go71,(x66_2 : Int).toNat * 4 + 3,none⟩ = false:=hfr71 3
       clear hcl71 hcc71 hfr71 hM71
       replace p71:=eq_true p71
       replace q71:=eq_true q71
       have HX78:=Aside0.mk (show Kd.R k62 62 wr w.heap.size (fun k_ => (w.heap.size ≤ k_) ∧ nO k_ v542 ∧ nO k_ u519000 ∧ nO k_ u527000) (.slice (some ⟨go71,0,none⟩) x538000_2.length co77) x538000_2 from (by (with_reducible repeat (first|apply zA|apply zN|apply zD));exact HO_538000.out))
       obtain ⟨ce78,hcl78,hM78,hcc78,hfr78⟩:=Kd.R_elem HX78.out z62 (x66_2 : Int) (of_decide_eq_true (by first|(with_reducible assumption)|assumption)) (by have h_ : (x66_2 : Int) < ((x538000_2.length : Int) : Int):=of_decide_eq_true (by first|(with_reducible assumption)|assumption);first|exact h_|(have e_:=(Kd.R_reads' HO_538000.out).1;omega)|simpa using h_)
       obtain rfl:=k62_openM hM78
       have HP78:=Kd.R_seg HX78.out (x66_2 : Int) (of_decide_eq_true (by first|(with_reducible assumption)|assumption)) (by have h_ : (x66_2 : Int) < ((x538000_2.length : Int) : Int):=of_decide_eq_true (by first|(with_reducible assumption)|assumption);first|exact h_|(have e_:=(Kd.R_reads' HO_538000.out).1;omega)|simpa using h_) (seg:=[.int .u64 (IntKind.u64.wrap (((rd_T62 x538000_2 x66_2).f0) + 1))]) (j:=0) hcl78 hcc78 (show 1 ≤ 4 from by decide) (x':=(⟨IntKind.u64.wrap (((rd_T62 x538000_2 x66_2).f0) + 1),(rd_T62 x538000_2 x66_2).f1,(rd_T62 x538000_2 x66_2).f2,(rd_T62 x538000_2 x66_2).f3⟩ : S62)) (k62_mkM _ _ _ (⟨IntKind.u64.wrap (((rd_T62 x538000_2 x66_2).f0) + 1),(rd_T62 x538000_2 x66_2).f1,(rd_T62 x538000_2 x66_2).f2,(rd_T62 x538000_2 x66_2).f3⟩ : S62) ) (fun _ hk => hk)
       have hx78_0:=hcc78 0 _ rfl
       (try simp only [show (k62).sz = 4 from rfl,Nat.mul_one,Nat.add_zero] at hx78_0)
       have hf78_0:=hfr78 0
       (try simp only [show (k62).sz = 4 from rfl,Nat.mul_one,Nat.add_zero] at hf78_0)
       clear hcl78 hcc78 hfr78 hM78
       go_wp2_with (first|((with_reducible refine gate_store (t:=35) (p:=77) rfl ?_);(try (rw [drewN_self wr];generalize hq_ : World.drewN wr _ = wr;have n0_:=Aside0.mk (Kd.R_at hq_ HO_9.out);have n1_:=Aside0.mk (Kd.R_at hq_ HO_12.out);have n2_:=Aside0.mk (Kd.V_at hq_ HO_505000.out);have n3_:=Aside0.mk (Kd.V_at hq_ HO_506000.out);have n4_:=Aside0.mk (Kd.R_at hq_ HO_519000.out);have n5_:=Aside0.mk (Kd.R_at hq_ HO_527000.out);have n6_:=Aside0.mk (Kd.R_at hq_ HO_538000.out);have n7_:=Aside0.mk (blk_at hq_ BK504.out);have n8_:=Aside0.mk (blk_at hq_ BK505.out);have n9_:=Aside0.mk (blk_at hq_ BK518.out);have n10_:=Aside0.mk (blk_at hq_ BK526.out);have n11_:=Aside0.mk (blk_at hq_ BK537.out);have n12_:=Aside0.mk (below_at hq_ HB.out);clear hq_ HO_9 HO_12 HO_505000 HO_506000 HO_519000 HO_527000 HO_538000 BK504 BK505 BK518 BK526 BK537 HB;have HO_9:=n0_;have HO_12:=n1_;have HO_505000:=n2_;have HO_506000:=n3_;have HO_519000:=n4_;have HO_527000:=n5_;have HO_538000:=n6_;have BK504:=n7_;have BK505:=n8_;have BK518:=n9_;have BK526:=n10_;have BK537:=n11_;have HB:=n12_;clear n0_ n1_ n2_ n3_ n4_ n5_ n6_ n7_ n8_ n9_ n10_ n11_ n12_;(try (have HX78:=Aside0.mk (show Kd.R k62 62 wr w.heap.size (fun k_ => (w.heap.size ≤ k_) ∧ nO k_ v542 ∧ nO k_ u519000 ∧ nO k_ u527000) (.slice (some ⟨go71,0,none⟩) x538000_2.length co77) x538000_2 from (by (with_reducible repeat (first|apply zA|apply zN|apply zD));exact HO_538000.out))));(try (obtain ⟨ce78,hcl78,hM78,hcc78,hfr78⟩:=Kd.R_elem HX78.out z62 (x66_2 : Int) (of_decide_eq_true (by first|(with_reducible assumption)|assumption)) (by have h_ : (x66_2 : Int) < ((x538000_2.length : Int) : Int):=of_decide_eq_true (by first|(with_reducible assumption)|assumption);first|exact h_|(have e_:=(Kd.R_reads' HO_538000.out).1;omega)|simpa using h_)));(try (obtain rfl:=k62_openM hM78));(try (have HP78:=Kd.R_seg HX78.out (x66_2 : Int) (of_decide_eq_true (by first|(with_reducible assumption)|assumption)) (by have h_ : (x66_2 : Int) < ((x538000_2.length : Int) : Int):=of_decide_eq_true (by first|(with_reducible assumption)|assumption);first|exact h_|(have e_:=(Kd.R_reads' HO_538000.out).1;omega)|simpa using h_) (seg:=[.int .u64 (IntKind.u64.wrap (((rd_T62 x538000_2 x66_2).f0) + 1))]) (j:=0) hcl78 hcc78 (show 1 ≤ 4 from by decide) (x':=(⟨IntKind.u64.wrap (((rd_T62 x538000_2 x66_2).f0) + 1),(rd_T62 x538000_2 x66_2).f1,(rd_T62 x538000_2 x66_2).f2,(rd_T62 x538000_2 x66_2).f3⟩ : S62)) (k62_mkM _ _ _ (⟨IntKind.u64.wrap (((rd_T62 x538000_2 x66_2).f0) + 1),(rd_T62 x538000_2 x66_2).f1,(rd_T62 x538000_2 x66_2).f2,(rd_T62 x538000_2 x66_2).f3⟩ : S62) ) (fun _ hk => hk)));(try (have hx78_0:=hcc78 0 _ rfl));(try (try simp only [show (k62).sz = 4 from rfl,Nat.mul_one,Nat.add_zero] at hx78_0));(try (have hf78_0:=hfr78 0));(try (try simp only [show (k62).sz = 4 from rfl,Nat.mul_one,Nat.add_zero] at hf78_0));(try (clear hcl78 hcc78 hfr78 hM78))));refine store_event (t:=35) (p:=77) (v:=?vo_w79) (w1:=(wr.setCell ⟨go71,(x66_2 : Int).toNat * 4,none⟩ (.int .u64 (IntKind.u64.wrap (((rd_T62 x538000_2 x66_2).f0) + 1))))) ?hg ?ho ?hn ?hr ?_;(case ho => rfl);(case hg => rfl);(case hn => rfl);(case hr => first|(go_simp;done)|(go_simp;rfl));intro w79 hw;have hg : wr.grownBy w79 (some go71):=(by rw [hw];exact HP78.2);have hp_ : Kd.R k62 62 w79 w.heap.size (fun k_ => (w.heap.size ≤ k_) ∧ nO k_ v542 ∧ nO k_ u519000 ∧ nO k_ u527000) (.slice (some ⟨go71,0,none⟩) x538000_2.length co77) y547:=(by rw [hw,Ny547.out];exact HP78.1);clear HP78;have n0_:=Aside0.mk (Kd.R_over' (v:=(.slice (some ⟨go71,0,none⟩) x538000_2.length co77)) (by (with_reducible repeat (first|apply zA|apply zN|apply zD));exact HO_9.out) (Kd.R_typed HO_538000.out) (by decide) hg);have n1_:=Aside0.mk (Kd.R_after (v:=(.slice (some ⟨go71,0,none⟩) x538000_2.length co77)) (v1:=(.slice (some ⟨go71,0,none⟩) x538000_2.length co77)) (ok:=(fun k_ => (w.heap.size ≤ k_) ∧ nO k_ u519000 ∧ nO k_ u527000)) (by (with_reducible repeat (first|apply zA|apply zN|apply zD));exact Kd.R_mono HO_12.out (fun _ hk => ⟨⟨hk.1,⟨hk.2.1,hk.2.2.1⟩⟩,hk.2.2.2⟩)) hg (.inl rfl));have n2_:=Aside0.mk (Kd.V_afterv (v:=(.slice (some ⟨go71,0,none⟩) x538000_2.length co77)) (v1:=(.slice (some ⟨go71,0,none⟩) x538000_2.length co77)) (ok:=(fun k_ => ((P0_0_ k_ ∨ P1_0_ k_) ∨ w.heap.size ≤ k_) ∧ nO k_ v528 ∧ nO k_ v542 ∧ nO k_ u519000 ∧ nO k_ u527000 ∧ k_ ≠ gb504 ∧ k_ ≠ gb505 ∧ k_ ≠ gb518 ∧ k_ ≠ gb526 ∧ k_ ≠ gb537)) (by (with_reducible repeat (first|apply vA|apply vN|apply vD));exact Kd.V_mono HO_505000.out (fun _ hk => ⟨⟨hk.1,⟨hk.2.1,⟨hk.2.2.1,⟨hk.2.2.2.1,⟨hk.2.2.2.2.1,⟨hk.2.2.2.2.2.2.1,⟨hk.2.2.2.2.2.2.2.1,⟨hk.2.2.2.2.2.2.2.2.1,⟨hk.2.2.2.2.2.2.2.2.2.1,hk.2.2.2.2.2.2.2.2.2.2⟩⟩⟩⟩⟩⟩⟩⟩⟩,hk.2.2.2.2.2.1⟩)) hg (.inl rfl));have n3_:=Aside0.mk (Kd.V_afterv (v:=(.slice (some ⟨go71,0,none⟩) x538000_2.length co77)) (v1:=(.slice (some ⟨go71,0,none⟩) x538000_2.length co77)) (ok:=(fun k_ => ((P0_0_ k_ ∨ P1_0_ k_) ∨ w.heap.size ≤ k_) ∧ nO k_ v528 ∧ nO k_ v542 ∧ nO k_ u519000 ∧ nO k_ u527000 ∧ k_ ≠ gb504 ∧ k_ ≠ gb505 ∧ k_ ≠ gb518 ∧ k_ ≠ gb526 ∧ k_ ≠ gb537)) (by (with_reducible repeat (first|apply vA|apply vN|apply vD));exact Kd.V_mono HO_506000.out (fun _ hk => ⟨⟨hk.1,⟨hk.2.1,⟨hk.2.2.1,⟨hk.2.2.2.1,⟨hk.2.2.2.2.1,⟨hk.2.2.2.2.2.2.1,⟨hk.2.2.2.2.2.2.2.1,⟨hk.2.2.2.2.2.2.2.2.1,⟨hk.2.2.2.2.2.2.2.2.2.1,hk.2.2.2.2.2.2.2.2.2.2⟩⟩⟩⟩⟩⟩⟩⟩⟩,hk.2.2.2.2.2.1⟩)) hg (.inl rfl));have n4_:=Aside0.mk (Kd.R_after (v:=(.slice (some ⟨go71,0,none⟩) x538000_2.length co77)) (v1:=(.slice (some ⟨go71,0,none⟩) x538000_2.length co77)) (ok:=(fun k_ => (w.heap.size ≤ k_) ∧ nO k_ v542 ∧ nO k_ u527000)) (by (with_reducible repeat (first|apply zA|apply zN|apply zD));exact Kd.R_mono HO_519000.out (fun _ hk => ⟨⟨hk.1,⟨hk.2.1,hk.2.2.1⟩⟩,hk.2.2.2⟩)) hg (.inl rfl));have n5_:=Aside0.mk (Kd.R_after (v:=(.slice (some ⟨go71,0,none⟩) x538000_2.length co77)) (v1:=(.slice (some ⟨go71,0,none⟩) x538000_2.length co77)) (ok:=(fun k_ => (w.heap.size ≤ k_) ∧ nO k_ v542 ∧ nO k_ u519000)) (by (with_reducible repeat (first|apply zA|apply zN|apply zD));exact Kd.R_mono HO_527000.out (fun _ hk => ⟨⟨hk.1,⟨hk.2.1,hk.2.2.1⟩⟩,hk.2.2.2⟩)) hg (.inl rfl));have n6_:=Aside0.mk (hp_);have n7_:=Aside0.mk (blk_grown (g:=gb504) (o:=.cells #[u505000,.int .u64 a0_1,.int .u64 a0_2,.int .u64 a0_3] 54 (0,0)) (by (with_reducible repeat (first|refine bN ?_ _|refine bD ?_|refine bA ?_ _));exact BK504.out) hg (Kd.R_ne HO_538000.out BK504.out (by decide)));have n8_:=Aside0.mk (blk_grown (g:=gb505) (o:=.cells #[u506000,.int .u64 a1_1,.int .u64 a1_2,.int .u64 a1_3] 54 (0,0)) (by (with_reducible repeat (first|refine bN ?_ _|refine bD ?_|refine bA ?_ _));exact BK505.out) hg (Kd.R_ne HO_538000.out BK505.out (by decide)));have n9_:=Aside0.mk (blk_grown (g:=gb518) (o:=.cells #[u519000,.int .u64 t514,.int .u64 t515,.int .u64 t516] 57 (0,0)) (by (with_reducible repeat (first|refine bN ?_ _|refine bD ?_|refine bA ?_ _));exact BK518.out) hg (Kd.R_ne HO_538000.out BK518.out (by decide)));have n10_:=Aside0.mk (blk_grown (g:=gb526) (o:=.cells #[u527000,.int .u64 t522,.int .u64 t523,.int .u64 t524] 57 (0,0)) (by (with_reducible repeat (first|refine bN ?_ _|refine bD ?_|refine bA ?_ _));exact BK526.out) hg (Kd.R_ne HO_538000.out BK526.out (by decide)));have n11_:=Aside0.mk (blk_grown (g:=gb537) (o:=.cells #[.slice (some ⟨go71,0,none⟩) x538000_2.length co77,.int .u64 t534,.int .u64 t535,.int .u64 t536] 54 (0,0)) (by (with_reducible repeat (first|refine bN ?_ _|refine bD ?_|refine bA ?_ _));exact BK537.out) hg (Kd.R_ne HO_538000.out BK537.out (by decide)));have n12_:=Aside0.mk ((by rw [hw];exact below_set (HB.out) GB71.out : Below w.heap.size w w79));clear HO_9;clear HO_12;clear HO_505000;clear HO_506000;clear HO_519000;clear HO_527000;clear HO_538000;clear BK504;clear BK505;clear BK518;clear BK526;clear BK537;clear HB;have HO_9:=n0_;have HO_12:=n1_;have HO_505000:=n2_;have HO_506000:=n3_;have HO_519000:=n4_;have HO_527000:=n5_;have HO_538000:=n6_;have BK504:=n7_;have BK505:=n8_;have BK518:=n9_;have BK526:=n10_;have BK537:=n11_;have HB:=n12_;clear n0_ n1_ n2_ n3_ n4_ n5_ n6_ n7_ n8_ n9_ n10_ n11_ n12_;clear hg hw hp_))
       repeat (go_quiet (fail);try go_wp2)
       go_roundg k2
       case measure => have:=HK1.out;have:=HK2.out;omega
       case rel => exact ⟨(x12_2),(wrap64 (x66_2 + 1)),(x505000_2),(x506000_2),(x519000_2),(x527000_2),(y547),(u505000),(u506000),(u519000),(u527000),(.slice (some ⟨go71,0,none⟩) x538000_2.length co77),(by first|rfl|(simp;done)|(simp [*];done)),H',⟨by have:=HK1.out;have:=HK2.out;omega⟩,⟨by (with_reducible repeat (first|apply zA|apply zN|apply zD));exact HO_9.out⟩,⟨by (with_reducible repeat (first|apply zA|apply zN|apply zD));exact Kd.R_mono HO_12.out (fun _ hk => ⟨hk.1.1,⟨hk.1.2.1,⟨hk.1.2.2,hk.2⟩⟩⟩)⟩,⟨by (with_reducible repeat (first|apply vA|apply vN|apply vD));exact Kd.V_mono HO_505000.out (fun _ hk => ⟨hk.1.1,⟨hk.1.2.1,⟨hk.1.2.2.1,⟨hk.1.2.2.2.1,⟨hk.1.2.2.2.2.1,⟨hk.2,⟨hk.1.2.2.2.2.2.1,⟨hk.1.2.2.2.2.2.2.1,⟨hk.1.2.2.2.2.2.2.2.1,⟨hk.1.2.2.2.2.2.2.2.2.1,hk.1.2.2.2.2.2.2.2.2.2⟩⟩⟩⟩⟩⟩⟩⟩⟩⟩)⟩,⟨by (with_reducible repeat (first|apply vA|apply vN|apply vD));exact Kd.V_mono HO_506000.out (fun _ hk => ⟨hk.1.1,⟨hk.1.2.1,⟨hk.1.2.2.1,⟨hk.1.2.2.2.1,⟨hk.1.2.2.2.2.1,⟨hk.2,⟨hk.1.2.2.2.2.2.1,⟨hk.1.2.2.2.2.2.2.1,⟨hk.1.2.2.2.2.2.2.2.1,⟨hk.1.2.2.2.2.2.2.2.2.1,hk.1.2.2.2.2.2.2.2.2.2⟩⟩⟩⟩⟩⟩⟩⟩⟩⟩)⟩,⟨by (with_reducible repeat (first|apply zA|apply zN|apply zD));exact Kd.R_mono HO_519000.out (fun _ hk => ⟨hk.1.1,⟨hk.1.2.1,⟨hk.1.2.2,hk.2⟩⟩⟩)⟩,⟨by (with_reducible repeat (first|apply zA|apply zN|apply zD));exact Kd.R_mono HO_527000.out (fun _ hk => ⟨hk.1.1,⟨hk.1.2.1,⟨hk.1.2.2,hk.2⟩⟩⟩)⟩,⟨by (with_reducible repeat (first|apply zA|apply zN|apply zD));exact HO_538000.out⟩,⟨by (with_reducible repeat (first|refine bN ?_ _|refine bD ?_|refine bA ?_ _));exact BK504.out⟩,⟨by (with_reducible repeat (first|refine bN ?_ _|refine bD ?_|refine bA ?_ _));exact BK505.out⟩,⟨by (with_reducible repeat (first|refine bN ?_ _|refine bD ?_|refine bA ?_ _));exact BK518.out⟩,⟨by (with_reducible repeat (first|refine bN ?_ _|refine bD ?_|refine bA ?_ _));exact BK526.out⟩,⟨by (with_reducible repeat (first|refine bN ?_ _|refine bD ?_|refine bA ?_ _));exact BK537.out⟩,⟨by repeat (first|(with_reducible first|exact HB.out|apply below_alloc|apply pw_below_drewN|apply below_drew1|refine below_set ?_ GE504.out|refine below_set ?_ GE505.out|refine below_set ?_ GE518.out|refine below_set ?_ GE526.out|refine below_set ?_ GE537.out)|exact HB.out)⟩⟩
      ·rw [if_neg c68] at H
       have c68b0 : decide (x66_2 < (x538000_1.length : Int)) = false:=decide_eq_false c68
       clear c68
       have H':=Aside0.mk H
       clear H
       obtain ⟨Ao80,co80,eo80⟩:=Kd.R_slice HO_12.out
       subst eo80
       go_wp2
       repeat (go_quiet (fail);try go_wp2)
       go_loopg [81] k2 (fun kq v81 w' => ∃ (x81_3 : Int),v81 = .int .i64 x81_3 ∧ Aside0 (ratlinelaw09_EditApart.l2 kq t517 t525 t527 x12_2 (x12_2.length : Int) x81_3 x505000_2 a0_1 a0_2 a0_3 x519000_2 t514 t515 t516 = some r) ∧ Aside0 (kq ≤ k2) ∧ Aside0 (Kd.R (Kd.int .u8) 5 w' w.heap.size (fun k_ => (w.heap.size ≤ k_)) v528 t527) ∧ Aside0 (Kd.R k62 62 w' w.heap.size (fun k_ => (w.heap.size ≤ k_) ∧ nO k_ u519000 ∧ nO k_ u527000 ∧ nO k_ u538000) (.slice Ao80 x12_2.length co80) x12_2) ∧ Aside0 (Kd.V k62 62 w' w.heap.size (fun k_ => ((P0_0_ k_ ∨ P1_0_ k_) ∨ w.heap.size ≤ k_) ∧ nO k_ v528 ∧ nO k_ ((.slice Ao80 x12_2.length co80)) ∧ nO k_ u519000 ∧ nO k_ u527000 ∧ nO k_ u538000 ∧ k_ ≠ gb504 ∧ k_ ≠ gb505 ∧ k_ ≠ gb518 ∧ k_ ≠ gb526 ∧ k_ ≠ gb537) u505000 x505000_2) ∧ Aside0 (Kd.V k62 62 w' w.heap.size (fun k_ => ((P0_0_ k_ ∨ P1_0_ k_) ∨ w.heap.size ≤ k_) ∧ nO k_ v528 ∧ nO k_ ((.slice Ao80 x12_2.length co80)) ∧ nO k_ u519000 ∧ nO k_ u527000 ∧ nO k_ u538000 ∧ k_ ≠ gb504 ∧ k_ ≠ gb505 ∧ k_ ≠ gb518 ∧ k_ ≠ gb526 ∧ k_ ≠ gb537) u506000 x506000_2) ∧ Aside0 (Kd.R k62 62 w' w.heap.size (fun k_ => (w.heap.size ≤ k_) ∧ nO k_ ((.slice Ao80 x12_2.length co80)) ∧ nO k_ u527000 ∧ nO k_ u538000) u519000 x519000_2) ∧ Aside0 (Kd.R k62 62 w' w.heap.size (fun k_ => (w.heap.size ≤ k_) ∧ nO k_ ((.slice Ao80 x12_2.length co80)) ∧ nO k_ u519000 ∧ nO k_ u538000) u527000 x527000_2) ∧ Aside0 (Kd.R k62 62 w' w.heap.size (fun k_ => (w.heap.size ≤ k_) ∧ nO k_ ((.slice Ao80 x12_2.length co80)) ∧ nO k_ u519000 ∧ nO k_ u527000) u538000 x538000_2) ∧ Aside0 (w'.heap[gb504]? = some (.cells #[u505000,.int .u64 a0_1,.int .u64 a0_2,.int .u64 a0_3] 54 (0,0))) ∧ Aside0 (w'.heap[gb505]? = some (.cells #[u506000,.int .u64 a1_1,.int .u64 a1_2,.int .u64 a1_3] 54 (0,0))) ∧ Aside0 (w'.heap[gb518]? = some (.cells #[u519000,.int .u64 t514,.int .u64 t515,.int .u64 t516] 57 (0,0))) ∧ Aside0 (w'.heap[gb526]? = some (.cells #[u527000,.int .u64 t522,.int .u64 t523,.int .u64 t524] 57 (0,0))) ∧ Aside0 (w'.heap[gb537]? = some (.cells #[u538000,.int .u64 t534,.int .u64 t535,.int .u64 t536] 54 (0,0))) ∧ Aside0 (Below w.heap.size w w'))
       case atStart => exact ⟨(0),(by first|rfl|(simp;done)|(simp [*];done)),H',⟨Nat.le_refl _⟩,⟨by (with_reducible repeat (first|apply zA|apply zN|apply zD));exact HO_9.out⟩,⟨by (with_reducible repeat (first|apply zA|apply zN|apply zD));exact HO_12.out⟩,⟨by (with_reducible repeat (first|apply vA|apply vN|apply vD));exact HO_505000.out⟩,⟨by (with_reducible repeat (first|apply vA|apply vN|apply vD));exact HO_506000.out⟩,⟨by (with_reducible repeat (first|apply zA|apply zN|apply zD));exact HO_519000.out⟩,⟨by (with_reducible repeat (first|apply zA|apply zN|apply zD));exact HO_527000.out⟩,⟨by (with_reducible repeat (first|apply zA|apply zN|apply zD));exact HO_538000.out⟩,⟨by (with_reducible repeat (first|refine bN ?_ _|refine bD ?_|refine bA ?_ _));exact BK504.out⟩,⟨by (with_reducible repeat (first|refine bN ?_ _|refine bD ?_|refine bA ?_ _));exact BK505.out⟩,⟨by (with_reducible repeat (first|refine bN ?_ _|refine bD ?_|refine bA ?_ _));exact BK518.out⟩,⟨by (with_reducible repeat (first|refine bN ?_ _|refine bD ?_|refine bA ?_ _));exact BK526.out⟩,⟨by (with_reducible repeat (first|refine bN ?_ _|refine bD ?_|refine bA ?_ _));exact BK537.out⟩,⟨by repeat (first|(with_reducible first|exact HB.out|apply below_alloc|apply pw_below_drewN|apply below_drew1|refine below_set ?_ GE504.out|refine below_set ?_ GE505.out|refine below_set ?_ GE518.out|refine below_set ?_ GE526.out|refine below_set ?_ GE537.out)|exact HB.out)⟩⟩
       case round =>
        clear H'
        try clear c1
        try clear c2
        try clear p2
        try clear c3
        try clear c4
        try clear c5
        try clear p5
        try clear q5
        try clear hx5
        try clear hf5
        try clear c6
        try clear p6
        try clear hx6
        try clear hf6
        try clear c7
        try clear p7
        try clear q7
        try clear hx7
        try clear hf7
        try clear c9
        try clear c12
        try clear c23
        try clear c24
        try clear c30
        try clear c31
        try clear c32
        try clear c40
        try clear c41
        try clear c42
        try clear c43
        try clear c50
        try clear c50b0
        try clear c51
        try clear c51b0
        try clear c52
        try clear c52b0
        try clear c53
        try clear p53
        try clear q53
        try clear hx53
        try clear hf53
        try clear c54
        try clear p54
        try clear q54
        try clear hx54
        try clear c55
        try clear c56
        try clear c57
        try clear c60
        try clear hx60
        try clear hf60
        try clear c62
        try clear c63
        try clear c64
        try clear p64
        try clear c65
        try clear c68
        try clear c68b0
        try clear c69
        try clear c69b0
        try clear c70
        try clear c70b0
        try clear c71
        try clear p71
        try clear q71
        try clear hx71
        try clear hf71
        try clear c72
        try clear c73
        try clear c74
        try clear c75
        try clear c78
        try clear hx78
        try clear hf78
        try clear hcz13_0
        try clear hcz13_1
        try clear hcz13_2
        try clear hcz13_3
        try clear hcz14_0
        try clear hcz14_1
        try clear hcz14_2
        try clear hcz14_3
        try clear hcz19_0
        try clear hcz19_1
        try clear hcz19_2
        try clear hcz19_3
        try clear hcz25_0
        try clear hcz25_1
        try clear hcz25_2
        try clear hcz25_3
        try clear hcz26_0
        try clear hcz26_1
        try clear hcz26_2
        try clear hcz26_3
        try clear hcz33_0
        try clear hcz33_1
        try clear hcz33_2
        try clear hcz33_3
        try clear hcz34_0
        try clear hcz34_1
        try clear hcz34_2
        try clear hcz34_3
        try clear hcz36_0
        try clear hcz36_1
        try clear hcz36_2
        try clear hcz36_3
        try clear hcz44_0
        try clear hcz44_1
        try clear hcz44_2
        try clear hcz44_3
        try clear hcz47_0
        try clear hcz47_1
        try clear hcz47_2
        try clear hcz47_3
        try clear hcz49_0
        try clear hcz49_1
        try clear hcz49_2
        try clear hcz49_3
        try clear hcz58_0
        try clear hcz58_1
        try clear hcz58_2
        try clear hcz58_3
        try clear hcz66_0
        try clear hcz66_1
        try clear hcz66_2
        try clear hcz66_3
        try clear hcz76_0
        try clear hcz76_1
        try clear hcz76_2
        try clear hcz76_3
        try clear hfz13_0
        try clear hfz13_1
        try clear hfz13_2
        try clear hfz13_3
        try clear hfz14_0
        try clear hfz14_1
        try clear hfz14_2
        try clear hfz14_3
        try clear hfz19_0
        try clear hfz19_1
        try clear hfz19_2
        try clear hfz19_3
        try clear hfz25_0
        try clear hfz25_1
        try clear hfz25_2
        try clear hfz25_3
        try clear hfz26_0
        try clear hfz26_1
        try clear hfz26_2
        try clear hfz26_3
        try clear hfz33_0
        try clear hfz33_1
        try clear hfz33_2
        try clear hfz33_3
        try clear hfz34_0
        try clear hfz34_1
        try clear hfz34_2
        try clear hfz34_3
        try clear hfz36_0
        try clear hfz36_1
        try clear hfz36_2
        try clear hfz36_3
        try clear hfz44_0
        try clear hfz44_1
        try clear hfz44_2
        try clear hfz44_3
        try clear hfz47_0
        try clear hfz47_1
        try clear hfz47_2
        try clear hfz47_3
        try clear hfz49_0
        try clear hfz49_1
        try clear hfz49_2
        try clear hfz49_3
        try clear hfz58_0
        try clear hfz58_1
        try clear hfz58_2
        try clear hfz58_3
        try clear hfz66_0
        try clear hfz66_1
        try clear hfz66_2
        try clear hfz66_3
        try clear hfz76_0
        try clear hfz76_1
        try clear hfz76_2
        try clear hfz76_3
        try clear hx53_0
        try clear hx53_1
        try clear hx53_2
        try clear hx53_3
        try clear hx544_0
        try clear hx544_1
        try clear hx544_2
        try clear hx544_3
        try clear hx546_0
        try clear hx546_1
        try clear hx546_2
        try clear hx546_3
        try clear hx60_0
        try clear hx71_0
        try clear hx71_1
        try clear hx71_2
        try clear hx71_3
        try clear hx78_0
        try clear p2
        try clear p5
        try clear p53
        try clear p54
        try clear p544
        try clear p546
        try clear p6
        try clear p64
        try clear p71
        try clear q5
        try clear q53
        try clear q54
        try clear q544
        try clear q546
        try clear q71
        obtain ⟨x81_3,rfl,HA,HK3,HO_9,HO_12,HO_505000,HO_506000,HO_519000,HO_527000,HO_538000,BK504,BK505,BK518,BK526,BK537,HB⟩:=hrel
        cases gk with
        | zero => exact absurd HA.out (by simp [ratlinelaw09_EditApart.l2])
        | succ k3 =>
         have H:=HA.out
         clear HA
         simp only [ratlinelaw09_EditApart.l2] at H
         by_cases c81 : x81_3 < (x12_2.length : Int)
         ·rw [if_pos c81] at H
          have c81b0 : decide (x81_3 < (x12_2.length : Int)) = true:=decide_eq_true c81
          clear c81
          by_cases c82 : 0 ≤ x81_3
          rotate_left
          ·rw [if_neg c82] at H
           exact absurd H (by simp)
          rw [if_pos c82] at H
          have c82b0 : decide (0 ≤ x81_3) = true:=decide_eq_true c82
          clear c82
          by_cases c83 : x81_3 < (x519000_2.length : Int)
          rotate_left
          ·rw [if_neg c83] at H
           exact absurd H (by simp)
          rw [if_pos c83] at H
          have c83b0 : decide (x81_3 < (x519000_2.length : Int)) = true:=decide_eq_true c83
          clear c83
          by_cases c84 : x81_3 < (x12_2.length : Int)
          rotate_left
          ·rw [if_neg c84] at H
           exact absurd H (by simp)
          rw [if_pos c84] at H
          have c84b0 : decide (x81_3 < (x12_2.length : Int)) = true:=decide_eq_true c84
          clear c84
          by_cases c85 : (!(((rd_T62 x519000_2 x81_3).f0) == ((rd_T62 x12_2 x81_3).f0)) || (!(((rd_T62 x519000_2 x81_3).f1) == ((rd_T62 x12_2 x81_3).f1)) || (!((((rd_T62 x519000_2 x81_3).f2).toList) == (((rd_T62 x12_2 x81_3).f2).toList)) || (!((((rd_T62 x519000_2 x81_3).f3).toList) == (((rd_T62 x12_2 x81_3).f3).toList)))))) = true
          ·rw [if_pos c85] at H
           exact absurd H (by simp)
          ·rw [if_neg c85] at H
           have c85b0 : (!(((rd_T62 x519000_2 x81_3).f0) == ((rd_T62 x12_2 x81_3).f0)) || (!(((rd_T62 x519000_2 x81_3).f1) == ((rd_T62 x12_2 x81_3).f1)) || (!((((rd_T62 x519000_2 x81_3).f2).toList) == (((rd_T62 x12_2 x81_3).f2).toList)) || (!((((rd_T62 x519000_2 x81_3).f3).toList) == (((rd_T62 x12_2 x81_3).f3).toList)))))) = false:=by simpa using c85
           clear c85
           by_cases c86 : t517 = 0
           ·rw [if_pos c86] at H
            have c86b0 : (t517 == 0) = true:=beq_iff_eq.mpr c86
            have c86b1 : (t517 != 0) = false:=bne_eq_false_iff_eq.mpr c86
            clear c86
            by_cases c87 : x81_3 < (x505000_2.length : Int)
            rotate_left
            ·rw [if_neg c87] at H
             exact absurd H (by simp)
            rw [if_pos c87] at H
            have c87b0 : decide (x81_3 < (x505000_2.length : Int)) = true:=decide_eq_true c87
            clear c87
            by_cases c88 : (!(((rd_T62 x505000_2 x81_3).f0) == ((rd_T62 x12_2 x81_3).f0)) || (!(((rd_T62 x505000_2 x81_3).f1) == ((rd_T62 x12_2 x81_3).f1)) || (!((((rd_T62 x505000_2 x81_3).f2).toList) == (((rd_T62 x12_2 x81_3).f2).toList)) || (!((((rd_T62 x505000_2 x81_3).f3).toList) == (((rd_T62 x12_2 x81_3).f3).toList)))))) = true
            ·rw [if_pos c88] at H
             exact absurd H (by simp)
            ·rw [if_neg c88] at H
             have c88b0 : (!(((rd_T62 x505000_2 x81_3).f0) == ((rd_T62 x12_2 x81_3).f0)) || (!(((rd_T62 x505000_2 x81_3).f1) == ((rd_T62 x12_2 x81_3).f1)) || (!((((rd_T62 x505000_2 x81_3).f2).toList) == (((rd_T62 x12_2 x81_3).f2).toList)) || (!((((rd_T62 x505000_2 x81_3).f3).toList) == (((rd_T62 x12_2 x81_3).f3).toList)))))) = false:=by simpa using c88
             clear c88
             have H':=Aside0.mk H
             clear H
             have hnb89:=NB518_504.out
             have hnc89:=NB504_518.out
             have hnb90:=NB518_505.out
             have hnc90:=NB505_518.out
             have hnb91:=NB518_526.out
             have hnc91:=NB526_518.out
             have hnb92:=NB518_537.out
             have hnc92:=NB537_518.out
             have hcz93_0 : wr.cell? ⟨gb518,0,none⟩ = some (u519000):=(blk_cell BK518.out 0).trans rfl
             have hcz93_1 : wr.cell? ⟨gb518,1,none⟩ = some (.int .u64 t514):=(blk_cell BK518.out 1).trans rfl
             have hcz93_2 : wr.cell? ⟨gb518,2,none⟩ = some (.int .u64 t515):=(blk_cell BK518.out 2).trans rfl
             have hcz93_3 : wr.cell? ⟨gb518,3,none⟩ = some (.int .u64 t516):=(blk_cell BK518.out 3).trans rfl
             have hfz93_0:=blk_frozen BK518.out 0
             have hfz93_1:=blk_frozen BK518.out 1
             have hfz93_2:=blk_frozen BK518.out 2
             have hfz93_3:=blk_frozen BK518.out 3
             obtain ⟨Ao94,co94,eo94⟩:=Kd.R_slice HO_519000.out
             subst eo94
             have p548 : 0 ≤ (x81_3 : Int):=of_decide_eq_true (by first|(with_reducible assumption)|assumption)
             have q548 : x81_3 < (x519000_2.length : Int):=of_decide_eq_true (by first|(with_reducible assumption)|assumption)
             obtain ⟨ad548,e548,hx548_0,hx548_1,hx548_2,hx548_3⟩:=at_T62 (Kd.R_reads' HO_519000.out).2.2 x81_3 p548 q548
             cases e548
             replace p548:=eq_true p548
             replace q548:=eq_true q548
             have p549 : 0 ≤ (x81_3 : Int):=of_decide_eq_true (by first|(with_reducible assumption)|assumption)
             have q549 : x81_3 < (x12_2.length : Int):=of_decide_eq_true (by first|(with_reducible assumption)|assumption)
             obtain ⟨ad549,e549,hx549_0,hx549_1,hx549_2,hx549_3⟩:=at_T62 (Kd.R_reads' HO_12.out).2.2 x81_3 p549 q549
             cases e549
             replace p549:=eq_true p549
             replace q549:=eq_true q549
             have hnb95:=NB504_505.out
             have hnc95:=NB505_504.out
             have hnb96:=NB504_526.out
             have hnc96:=NB526_504.out
             have hnb97:=NB504_537.out
             have hnc97:=NB537_504.out
             have hcz98_0 : wr.cell? ⟨gb504,0,none⟩ = some (u505000):=(blk_cell BK504.out 0).trans rfl
             have hcz98_1 : wr.cell? ⟨gb504,1,none⟩ = some (.int .u64 a0_1):=(blk_cell BK504.out 1).trans rfl
             have hcz98_2 : wr.cell? ⟨gb504,2,none⟩ = some (.int .u64 a0_2):=(blk_cell BK504.out 2).trans rfl
             have hcz98_3 : wr.cell? ⟨gb504,3,none⟩ = some (.int .u64 a0_3):=(blk_cell BK504.out 3).trans rfl
             have hfz98_0:=blk_frozen BK504.out 0
             have hfz98_1:=blk_frozen BK504.out 1
             have hfz98_2:=blk_frozen BK504.out 2
             have hfz98_3:=blk_frozen BK504.out 3
             obtain ⟨Ao99,co99,eo99⟩:=Kd.V_slice HO_505000.out
             subst eo99
             have p550 : 0 ≤ (x81_3 : Int):=of_decide_eq_true (by first|(with_reducible assumption)|assumption)
             have q550 : x81_3 < (x505000_2.length : Int):=of_decide_eq_true (by first|(with_reducible assumption)|assumption)
             obtain ⟨ad550,e550,hx550_0,hx550_1,hx550_2,hx550_3⟩:=at_T62 (Kd.V_reads' HO_505000.out).2.2 x81_3 p550 q550
             cases e550
             replace p550:=eq_true p550
             replace q550:=eq_true q550
             have p551 : 0 ≤ (x81_3 : Int):=of_decide_eq_true (by first|(with_reducible assumption)|assumption)
             have q551 : x81_3 < (x12_2.length : Int):=of_decide_eq_true (by first|(with_reducible assumption)|assumption)
             obtain ⟨ad551,e551,hx551_0,hx551_1,hx551_2,hx551_3⟩:=at_T62 (Kd.R_reads' HO_12.out).2.2 x81_3 p551 q551
             obtain rfl : ad549 = ad551:=(by injection e551)
             replace p551:=eq_true p551
             replace q551:=eq_true q551
             go_wp2
             repeat (go_quiet (fail);try go_wp2)
             go_roundg k3
             case measure => have:=HK1.out;have:=HK2.out;have:=HK3.out;omega
             case rel => exact ⟨(wrap64 (x81_3 + 1)),(by first|rfl|(simp;done)|(simp [*];done)),H',⟨by have:=HK1.out;have:=HK2.out;have:=HK3.out;omega⟩,⟨by (with_reducible repeat (first|apply zA|apply zN|apply zD));exact HO_9.out⟩,⟨by (with_reducible repeat (first|apply zA|apply zN|apply zD));exact HO_12.out⟩,⟨by (with_reducible repeat (first|apply vA|apply vN|apply vD));exact HO_505000.out⟩,⟨by (with_reducible repeat (first|apply vA|apply vN|apply vD));exact HO_506000.out⟩,⟨by (with_reducible repeat (first|apply zA|apply zN|apply zD));exact HO_519000.out⟩,⟨by (with_reducible repeat (first|apply zA|apply zN|apply zD));exact HO_527000.out⟩,⟨by (with_reducible repeat (first|apply zA|apply zN|apply zD));exact HO_538000.out⟩,⟨by (with_reducible repeat (first|refine bN ?_ _|refine bD ?_|refine bA ?_ _));exact BK504.out⟩,⟨by (with_reducible repeat (first|refine bN ?_ _|refine bD ?_|refine bA ?_ _));exact BK505.out⟩,⟨by (with_reducible repeat (first|refine bN ?_ _|refine bD ?_|refine bA ?_ _));exact BK518.out⟩,⟨by (with_reducible repeat (first|refine bN ?_ _|refine bD ?_|refine bA ?_ _));exact BK526.out⟩,⟨by (with_reducible repeat (first|refine bN ?_ _|refine bD ?_|refine bA ?_ _));exact BK537.out⟩,⟨by repeat (first|(with_reducible first|exact HB.out|apply below_alloc|apply pw_below_drewN|apply below_drew1|refine below_set ?_ GE504.out|refine below_set ?_ GE505.out|refine below_set ?_ GE518.out|refine below_set ?_ GE526.out|refine below_set ?_ GE537.out)|exact HB.out)⟩⟩
           ·rw [if_neg c86] at H
            have c86b0 : (t517 == 0) = false:=beq_eq_false_iff_ne.mpr c86
            have c86b1 : (t517 != 0) = true:=bne_iff_ne.mpr c86
            have H':=Aside0.mk H
            clear H
            have hnb100:=NB518_504.out
            have hnc100:=NB504_518.out
            have hnb101:=NB518_505.out
            have hnc101:=NB505_518.out
            have hnb102:=NB518_526.out
            have hnc102:=NB526_518.out
            have hnb103:=NB518_537.out
            have hnc103:=NB537_518.out
            have hcz104_0 : wr.cell? ⟨gb518,0,none⟩ = some (u519000):=(blk_cell BK518.out 0).trans rfl
            have hcz104_1 : wr.cell? ⟨gb518,1,none⟩ = some (.int .u64 t514):=(blk_cell BK518.out 1).trans rfl
            have hcz104_2 : wr.cell? ⟨gb518,2,none⟩ = some (.int .u64 t515):=(blk_cell BK518.out 2).trans rfl
            have hcz104_3 : wr.cell? ⟨gb518,3,none⟩ = some (.int .u64 t516):=(blk_cell BK518.out 3).trans rfl
            have hfz104_0:=blk_frozen BK518.out 0
            have hfz104_1:=blk_frozen BK518.out 1
            have hfz104_2:=blk_frozen BK518.out 2
            have hfz104_3:=blk_frozen BK518.out 3
            obtain ⟨Ao105,co105,eo105⟩:=Kd.R_slice HO_519000.out
            subst eo105
            have p548 : 0 ≤ (x81_3 : Int):=of_decide_eq_true (by first|(with_reducible assumption)|assumption)
            have q548 : x81_3 < (x519000_2.length : Int):=of_decide_eq_true (by first|(with_reducible assumption)|assumption)
            obtain ⟨ad548,e548,hx548_0,hx548_1,hx548_2,hx548_3⟩:=at_T62 (Kd.R_reads' HO_519000.out).2.2 x81_3 p548 q548
            cases e548
            replace p548:=eq_true p548
            replace q548:=eq_true q548
            have p549 : 0 ≤ (x81_3 : Int):=of_decide_eq_true (by first|(with_reducible assumption)|assumption)
            have q549 : x81_3 < (x12_2.length : Int):=of_decide_eq_true (by first|(with_reducible assumption)|assumption)
            obtain ⟨ad549,e549,hx549_0,hx549_1,hx549_2,hx549_3⟩:=at_T62 (Kd.R_reads' HO_12.out).2.2 x81_3 p549 q549
            cases e549
            replace p549:=eq_true p549
            replace q549:=eq_true q549
            go_wp2
            repeat (go_quiet (fail);try go_wp2)
            go_roundg k3
            case measure => have:=HK1.out;have:=HK2.out;have:=HK3.out;omega
            case rel => exact ⟨(wrap64 (x81_3 + 1)),(by first|rfl|(simp;done)|(simp [*];done)),H',⟨by have:=HK1.out;have:=HK2.out;have:=HK3.out;omega⟩,⟨by (with_reducible repeat (first|apply zA|apply zN|apply zD));exact HO_9.out⟩,⟨by (with_reducible repeat (first|apply zA|apply zN|apply zD));exact HO_12.out⟩,⟨by (with_reducible repeat (first|apply vA|apply vN|apply vD));exact HO_505000.out⟩,⟨by (with_reducible repeat (first|apply vA|apply vN|apply vD));exact HO_506000.out⟩,⟨by (with_reducible repeat (first|apply zA|apply zN|apply zD));exact HO_519000.out⟩,⟨by (with_reducible repeat (first|apply zA|apply zN|apply zD));exact HO_527000.out⟩,⟨by (with_reducible repeat (first|apply zA|apply zN|apply zD));exact HO_538000.out⟩,⟨by (with_reducible repeat (first|refine bN ?_ _|refine bD ?_|refine bA ?_ _));exact BK504.out⟩,⟨by (with_reducible repeat (first|refine bN ?_ _|refine bD ?_|refine bA ?_ _));exact BK505.out⟩,⟨by (with_reducible repeat (first|refine bN ?_ _|refine bD ?_|refine bA ?_ _));exact BK518.out⟩,⟨by (with_reducible repeat (first|refine bN ?_ _|refine bD ?_|refine bA ?_ _));exact BK526.out⟩,⟨by (with_reducible repeat (first|refine bN ?_ _|refine bD ?_|refine bA ?_ _));exact BK537.out⟩,⟨by repeat (first|(with_reducible first|exact HB.out|apply below_alloc|apply pw_below_drewN|apply below_drew1|refine below_set ?_ GE504.out|refine below_set ?_ GE505.out|refine below_set ?_ GE518.out|refine below_set ?_ GE526.out|refine below_set ?_ GE537.out)|exact HB.out)⟩⟩
         ·rw [if_neg c81] at H
          have c81b0 : decide (x81_3 < (x12_2.length : Int)) = false:=decide_eq_false c81
          clear c81
          replace H:=Option.bind_eq_some_iff.mp H
          obtain ⟨⟨t552,t555⟩,A1060,H⟩:=H
          replace H : ((ratlinelaw02_Same.f t527 t552).bind fun t556 => (if t556 = true then (if t525 = 0 then ((ratlinelaw09_awake.f).bind fun t557 => (some t557)) else (if t525 = 90 then ((ratlinelaw09_awake.f).bind fun t558 => (some t558)) else (none))) else (none))) = some r:=H
          have A106:=Aside0.mk A1060
          clear A1060
          replace H:=Option.bind_eq_some_iff.mp H
          obtain ⟨t556,A1070,H⟩:=H
          replace H : (if t556 = true then (if t525 = 0 then ((ratlinelaw09_awake.f).bind fun t557 => (some t557)) else (if t525 = 90 then ((ratlinelaw09_awake.f).bind fun t558 => (some t558)) else (none))) else (none)) = some r:=H
          have A107:=Aside0.mk A1070
          clear A1070
          by_cases c108 : t556 = true
          rotate_left
          ·replace c108:=Bool.eq_false_iff.mpr c108
           subst c108
           have H1 : (none) = some r:=by rw [if_neg (show ¬ (false = true) by decide)] at H;exact H
           clear H
           have H:=H1
           clear H1
           exact absurd H (by simp)
          subst c108
          have H1 : (if t525 = 0 then ((ratlinelaw09_awake.f).bind fun t557 => (some t557)) else (if t525 = 90 then ((ratlinelaw09_awake.f).bind fun t558 => (some t558)) else (none))) = some r:=by rw [if_pos rfl] at H;exact H
          clear H
          have H:=H1
          clear H1
          by_cases c109 : t525 = 0
          ·rw [if_pos c109] at H
           have c109b0 : (t525 == 0) = true:=beq_iff_eq.mpr c109
           have c109b1 : (t525 != 0) = false:=bne_eq_false_iff_eq.mpr c109
           clear c109
           replace H:=Option.bind_eq_some_iff.mp H
           obtain ⟨t557,A1100,H⟩:=H
           replace H : (some t557) = some r:=H
           have A110:=Aside0.mk A1100
           clear A1100
           obtain rfl:=Option.some.inj H
           have hnb111:=NB504_505.out
           have hnc111:=NB505_504.out
           have hnb112:=NB504_518.out
           have hnc112:=NB518_504.out
           have hnb113:=NB504_526.out
           have hnc113:=NB526_504.out
           have hnb114:=NB504_537.out
           have hnc114:=NB537_504.out
           have hcz115_0 : wr.cell? ⟨gb504,0,none⟩ = some (u505000):=(blk_cell BK504.out 0).trans rfl
           have hcz115_1 : wr.cell? ⟨gb504,1,none⟩ = some (.int .u64 a0_1):=(blk_cell BK504.out 1).trans rfl
           have hcz115_2 : wr.cell? ⟨gb504,2,none⟩ = some (.int .u64 a0_2):=(blk_cell BK504.out 2).trans rfl
           have hcz115_3 : wr.cell? ⟨gb504,3,none⟩ = some (.int .u64 a0_3):=(blk_cell BK504.out 3).trans rfl
           have hfz115_0:=blk_frozen BK504.out 0
           have hfz115_1:=blk_frozen BK504.out 1
           have hfz115_2:=blk_frozen BK504.out 2
           have hfz115_3:=blk_frozen BK504.out 3
           obtain ⟨Ao116,co116,eo116⟩:=Kd.V_slice HO_505000.out
           subst eo116
           go_wp2_with (first|(go_at_call 34;(with_reducible refine (edit_Bytes.calls _ _ x505000_2 a0_1 a0_2 a0_3 t552 t555 _ ?side1 ?side2 A106.out).mono ?_);(case side1 => repeat (first|exact (Kd.V_reads' HO_505000.out).2.2|(with_reducible refine Kd.C_alloc ?_ _)|(with_reducible refine Kd.C_drewN ?_ _)|(with_reducible refine Kd.C_drew ?_)));(case side2 => exact (Kd.V_reads' HO_505000.out).2.1);rintro e w117 ⟨v553,rfl,ho0,hb⟩;have n0_:=Aside0.mk (Kd.R_elder' (by (with_reducible repeat (first|apply zA|apply zN|apply zD));exact HO_9.out) (Kd.R_base ho0) hb);have n1_:=Aside0.mk (Kd.R_below (by (with_reducible repeat (first|apply zA|apply zN|apply zD));exact HO_12.out) hb);have n2_:=Aside0.mk (Kd.V_elder' (by (with_reducible repeat (first|apply vA|apply vN|apply vD));exact HO_505000.out) (Kd.R_base ho0) hb);have n3_:=Aside0.mk (Kd.V_elder' (by (with_reducible repeat (first|apply vA|apply vN|apply vD));exact HO_506000.out) (Kd.R_base ho0) hb);have n4_:=Aside0.mk (Kd.R_below (by (with_reducible repeat (first|apply zA|apply zN|apply zD));exact HO_519000.out) hb);have n5_:=Aside0.mk (Kd.R_below (by (with_reducible repeat (first|apply zA|apply zN|apply zD));exact HO_527000.out) hb);have n6_:=Aside0.mk (Kd.R_below (by (with_reducible repeat (first|apply zA|apply zN|apply zD));exact HO_538000.out) hb);have n7_:=Aside0.mk (Kd.R_lower (Kd.R_new' (Kd.R_newM (M:=fun k_ => (w.heap.size ≤ k_)) ho0 (below_size (by repeat (first|(with_reducible first|exact HB.out|apply below_alloc|apply pw_below_drewN|apply below_drew1|refine below_set ?_ GE504.out|refine below_set ?_ GE505.out|refine below_set ?_ GE518.out|refine below_set ?_ GE526.out|refine below_set ?_ GE537.out)|exact HB.out))) (fun k_ h_ => h_)) (Kd.R_lt (by (with_reducible repeat (first|apply zA|apply zN|apply zD));exact HO_9.out))) (below_size (by repeat (first|(with_reducible first|exact HB.out|apply below_alloc|apply pw_below_drewN|apply below_drew1|refine below_set ?_ GE504.out|refine below_set ?_ GE505.out|refine below_set ?_ GE518.out|refine below_set ?_ GE526.out|refine below_set ?_ GE537.out)|exact HB.out))));have n8_:=Aside0.mk (blk_below (g:=gb504) (o:=.cells #[.slice Ao116 x505000_2.length co116,.int .u64 a0_1,.int .u64 a0_2,.int .u64 a0_3] 54 (0,0)) (by (with_reducible repeat (first|refine bN ?_ _|refine bD ?_|refine bA ?_ _));exact BK504.out) hb);have n9_:=Aside0.mk (blk_below (g:=gb505) (o:=.cells #[u506000,.int .u64 a1_1,.int .u64 a1_2,.int .u64 a1_3] 54 (0,0)) (by (with_reducible repeat (first|refine bN ?_ _|refine bD ?_|refine bA ?_ _));exact BK505.out) hb);have n10_:=Aside0.mk (blk_below (g:=gb518) (o:=.cells #[u519000,.int .u64 t514,.int .u64 t515,.int .u64 t516] 57 (0,0)) (by (with_reducible repeat (first|refine bN ?_ _|refine bD ?_|refine bA ?_ _));exact BK518.out) hb);have n11_:=Aside0.mk (blk_below (g:=gb526) (o:=.cells #[u527000,.int .u64 t522,.int .u64 t523,.int .u64 t524] 57 (0,0)) (by (with_reducible repeat (first|refine bN ?_ _|refine bD ?_|refine bA ?_ _));exact BK526.out) hb);have n12_:=Aside0.mk (blk_below (g:=gb537) (o:=.cells #[u538000,.int .u64 t534,.int .u64 t535,.int .u64 t536] 54 (0,0)) (by (with_reducible repeat (first|refine bN ?_ _|refine bD ?_|refine bA ?_ _));exact BK537.out) hb);have n13_:=Aside0.mk (below_step (by repeat (first|(with_reducible first|exact HB.out|apply below_alloc|apply pw_below_drewN|apply below_drew1|refine below_set ?_ GE504.out|refine below_set ?_ GE505.out|refine below_set ?_ GE518.out|refine below_set ?_ GE526.out|refine below_set ?_ GE537.out)|exact HB.out)) hb);clear HO_9;clear HO_12;clear HO_505000;clear HO_506000;clear HO_519000;clear HO_527000;clear HO_538000;clear BK504;clear BK505;clear BK518;clear BK526;clear BK537;clear HB;have HO_9:=n0_;have HO_12:=n1_;have HO_505000:=n2_;have HO_506000:=n3_;have HO_519000:=n4_;have HO_527000:=n5_;have HO_538000:=n6_;have HO554:=n7_;have BK504:=n8_;have BK505:=n9_;have BK518:=n10_;have BK526:=n11_;have BK537:=n12_;have HB:=n13_;clear n0_ n1_ n2_ n3_ n4_ n5_ n6_ n7_ n8_ n9_ n10_ n11_ n12_ n13_;(try clear hb);(try clear hb2);(try clear hk);(try clear hi);(try clear ho0);obtain ⟨Ao118,co118,eo118⟩:=Kd.R_slice HO_9.out;subst eo118;obtain ⟨Ao119,co119,eo119⟩:=Kd.R_slice HO554.out;subst eo119)|(go_at_call 19;(with_reducible refine (ratlinelaw02_Same.calls _ _ t527 _ _ t552 true _ ?side1 ?side2 ?side3 ?side4 A107.out).mono ?_);(case side1 => repeat (first|exact (Kd.R_reads' HO_9.out).2.2|(with_reducible refine Kd.C_alloc ?_ _)|(with_reducible refine Kd.C_drewN ?_ _)|(with_reducible refine Kd.C_drew ?_)));(case side2 => exact (Kd.R_reads' HO_9.out).2.1);(case side3 => repeat (first|exact (Kd.R_reads' HO554.out).2.2|(with_reducible refine Kd.C_alloc ?_ _)|(with_reducible refine Kd.C_drewN ?_ _)|(with_reducible refine Kd.C_drew ?_)));(case side4 => exact (Kd.R_reads' HO554.out).2.1);rintro e w' ⟨rfl,⟨nd,rfl⟩⟩;(try first|exact ⟨rfl,_,World.drewN_drewN _ _ _⟩|exact ⟨rfl,_,Eq.trans (World.drewN_drewN _ _ _) (congrArg (World.drewN _) (Nat.add_assoc _ _ _))⟩))|(go_at_call 31;(with_reducible refine (ratlinelaw09_awake.calls  t557 _ A110.out).mono ?_);rintro e w120 ⟨rfl,hb⟩;have n0_:=Aside0.mk (Kd.R_below (by (with_reducible repeat (first|apply zA|apply zN|apply zD));exact HO_9.out) hb);have n1_:=Aside0.mk (Kd.R_below (by (with_reducible repeat (first|apply zA|apply zN|apply zD));exact HO_12.out) hb);have n2_:=Aside0.mk (Kd.V_below (by (with_reducible repeat (first|apply vA|apply vN|apply vD));exact HO_505000.out) hb);have n3_:=Aside0.mk (Kd.V_below (by (with_reducible repeat (first|apply vA|apply vN|apply vD));exact HO_506000.out) hb);have n4_:=Aside0.mk (Kd.R_below (by (with_reducible repeat (first|apply zA|apply zN|apply zD));exact HO_519000.out) hb);have n5_:=Aside0.mk (Kd.R_below (by (with_reducible repeat (first|apply zA|apply zN|apply zD));exact HO_527000.out) hb);have n6_:=Aside0.mk (Kd.R_below (by (with_reducible repeat (first|apply zA|apply zN|apply zD));exact HO_538000.out) hb);have n7_:=Aside0.mk (Kd.R_below (by (with_reducible repeat (first|apply zA|apply zN|apply zD));exact HO554.out) hb);have n8_:=Aside0.mk (blk_below (g:=gb504) (o:=.cells #[.slice Ao116 x505000_2.length co116,.int .u64 a0_1,.int .u64 a0_2,.int .u64 a0_3] 54 (0,0)) (by (with_reducible repeat (first|refine bN ?_ _|refine bD ?_|refine bA ?_ _));exact BK504.out) hb);have n9_:=Aside0.mk (blk_below (g:=gb505) (o:=.cells #[u506000,.int .u64 a1_1,.int .u64 a1_2,.int .u64 a1_3] 54 (0,0)) (by (with_reducible repeat (first|refine bN ?_ _|refine bD ?_|refine bA ?_ _));exact BK505.out) hb);have n10_:=Aside0.mk (blk_below (g:=gb518) (o:=.cells #[u519000,.int .u64 t514,.int .u64 t515,.int .u64 t516] 57 (0,0)) (by (with_reducible repeat (first|refine bN ?_ _|refine bD ?_|refine bA ?_ _));exact BK518.out) hb);have n11_:=Aside0.mk (blk_below (g:=gb526) (o:=.cells #[u527000,.int .u64 t522,.int .u64 t523,.int .u64 t524] 57 (0,0)) (by (with_reducible repeat (first|refine bN ?_ _|refine bD ?_|refine bA ?_ _));exact BK526.out) hb);have n12_:=Aside0.mk (blk_below (g:=gb537) (o:=.cells #[u538000,.int .u64 t534,.int .u64 t535,.int .u64 t536] 54 (0,0)) (by (with_reducible repeat (first|refine bN ?_ _|refine bD ?_|refine bA ?_ _));exact BK537.out) hb);have n13_:=Aside0.mk (below_step (by repeat (first|(with_reducible first|exact HB.out|apply below_alloc|apply pw_below_drewN|apply below_drew1|refine below_set ?_ GE504.out|refine below_set ?_ GE505.out|refine below_set ?_ GE518.out|refine below_set ?_ GE526.out|refine below_set ?_ GE537.out)|exact HB.out)) hb);clear HO_9;clear HO_12;clear HO_505000;clear HO_506000;clear HO_519000;clear HO_527000;clear HO_538000;clear HO554;clear BK504;clear BK505;clear BK518;clear BK526;clear BK537;clear HB;have HO_9:=n0_;have HO_12:=n1_;have HO_505000:=n2_;have HO_506000:=n3_;have HO_519000:=n4_;have HO_527000:=n5_;have HO_538000:=n6_;have HO554:=n7_;have BK504:=n8_;have BK505:=n9_;have BK518:=n10_;have BK526:=n11_;have BK537:=n12_;have HB:=n13_;clear n0_ n1_ n2_ n3_ n4_ n5_ n6_ n7_ n8_ n9_ n10_ n11_ n12_ n13_;(try clear hb);(try clear hb2);(try clear hk);(try clear hi)))
           repeat (go_quiet (fail);try go_wp2)
           go_ret
           exact ⟨by first|rfl|(simp [errW_none,errW_some] <;> rfl)|(simp [*,errW_none,errW_some] <;> rfl),by repeat (first|(with_reducible first|exact HB.out|apply below_alloc|apply pw_below_drewN|apply below_drew1|refine below_set ?_ GE504.out|refine below_set ?_ GE505.out|refine below_set ?_ GE518.out|refine below_set ?_ GE526.out|refine below_set ?_ GE537.out)|exact HB.out)⟩
          ·rw [if_neg c109] at H
           have c109b0 : (t525 == 0) = false:=beq_eq_false_iff_ne.mpr c109
           have c109b1 : (t525 != 0) = true:=bne_iff_ne.mpr c109
           by_cases c121 : t525 = 90
           rotate_left
           ·rw [if_neg c121] at H
            exact absurd H (by simp)
           rw [if_pos c121] at H
           have c121b0 : (t525 == 90) = true:=beq_iff_eq.mpr c121
           have c121b1 : (t525 != 90) = false:=bne_eq_false_iff_eq.mpr c121
           clear c121
           replace H:=Option.bind_eq_some_iff.mp H
           obtain ⟨t558,A1220,H⟩:=H
           replace H : (some t558) = some r:=H
           have A122:=Aside0.mk A1220
           clear A1220
           obtain rfl:=Option.some.inj H
           have hnb123:=NB504_505.out
           have hnc123:=NB505_504.out
           have hnb124:=NB504_518.out
           have hnc124:=NB518_504.out
           have hnb125:=NB504_526.out
           have hnc125:=NB526_504.out
           have hnb126:=NB504_537.out
           have hnc126:=NB537_504.out
           have hcz127_0 : wr.cell? ⟨gb504,0,none⟩ = some (u505000):=(blk_cell BK504.out 0).trans rfl
           have hcz127_1 : wr.cell? ⟨gb504,1,none⟩ = some (.int .u64 a0_1):=(blk_cell BK504.out 1).trans rfl
           have hcz127_2 : wr.cell? ⟨gb504,2,none⟩ = some (.int .u64 a0_2):=(blk_cell BK504.out 2).trans rfl
           have hcz127_3 : wr.cell? ⟨gb504,3,none⟩ = some (.int .u64 a0_3):=(blk_cell BK504.out 3).trans rfl
           have hfz127_0:=blk_frozen BK504.out 0
           have hfz127_1:=blk_frozen BK504.out 1
           have hfz127_2:=blk_frozen BK504.out 2
           have hfz127_3:=blk_frozen BK504.out 3
           obtain ⟨Ao128,co128,eo128⟩:=Kd.V_slice HO_505000.out
           subst eo128
           go_wp2_with (first|(go_at_call 34;(with_reducible refine (edit_Bytes.calls _ _ x505000_2 a0_1 a0_2 a0_3 t552 t555 _ ?side1 ?side2 A106.out).mono ?_);(case side1 => repeat (first|exact (Kd.V_reads' HO_505000.out).2.2|(with_reducible refine Kd.C_alloc ?_ _)|(with_reducible refine Kd.C_drewN ?_ _)|(with_reducible refine Kd.C_drew ?_)));(case side2 => exact (Kd.V_reads' HO_505000.out).2.1);rintro e w129 ⟨v553,rfl,ho0,hb⟩;have n0_:=Aside0.mk (Kd.R_elder' (by (with_reducible repeat (first|apply zA|apply zN|apply zD));exact HO_9.out) (Kd.R_base ho0) hb);have n1_:=Aside0.mk (Kd.R_below (by (with_reducible repeat (first|apply zA|apply zN|apply zD));exact HO_12.out) hb);have n2_:=Aside0.mk (Kd.V_elder' (by (with_reducible repeat (first|apply vA|apply vN|apply vD));exact HO_505000.out) (Kd.R_base ho0) hb);have n3_:=Aside0.mk (Kd.V_elder' (by (with_reducible repeat (first|apply vA|apply vN|apply vD));exact HO_506000.out) (Kd.R_base ho0) hb);have n4_:=Aside0.mk (Kd.R_below (by (with_reducible repeat (first|apply zA|apply zN|apply zD));exact HO_519000.out) hb);have n5_:=Aside0.mk (Kd.R_below (by (with_reducible repeat (first|apply zA|apply zN|apply zD));exact HO_527000.out) hb);have n6_:=Aside0.mk (Kd.R_below (by (with_reducible repeat (first|apply zA|apply zN|apply zD));exact HO_538000.out) hb);have n7_:=Aside0.mk (Kd.R_lower (Kd.R_new' (Kd.R_newM (M:=fun k_ => (w.heap.size ≤ k_)) ho0 (below_size (by repeat (first|(with_reducible first|exact HB.out|apply below_alloc|apply pw_below_drewN|apply below_drew1|refine below_set ?_ GE504.out|refine below_set ?_ GE505.out|refine below_set ?_ GE518.out|refine below_set ?_ GE526.out|refine below_set ?_ GE537.out)|exact HB.out))) (fun k_ h_ => h_)) (Kd.R_lt (by (with_reducible repeat (first|apply zA|apply zN|apply zD));exact HO_9.out))) (below_size (by repeat (first|(with_reducible first|exact HB.out|apply below_alloc|apply pw_below_drewN|apply below_drew1|refine below_set ?_ GE504.out|refine below_set ?_ GE505.out|refine below_set ?_ GE518.out|refine below_set ?_ GE526.out|refine below_set ?_ GE537.out)|exact HB.out))));have n8_:=Aside0.mk (blk_below (g:=gb504) (o:=.cells #[.slice Ao128 x505000_2.length co128,.int .u64 a0_1,.int .u64 a0_2,.int .u64 a0_3] 54 (0,0)) (by (with_reducible repeat (first|refine bN ?_ _|refine bD ?_|refine bA ?_ _));exact BK504.out) hb);have n9_:=Aside0.mk (blk_below (g:=gb505) (o:=.cells #[u506000,.int .u64 a1_1,.int .u64 a1_2,.int .u64 a1_3] 54 (0,0)) (by (with_reducible repeat (first|refine bN ?_ _|refine bD ?_|refine bA ?_ _));exact BK505.out) hb);have n10_:=Aside0.mk (blk_below (g:=gb518) (o:=.cells #[u519000,.int .u64 t514,.int .u64 t515,.int .u64 t516] 57 (0,0)) (by (with_reducible repeat (first|refine bN ?_ _|refine bD ?_|refine bA ?_ _));exact BK518.out) hb);have n11_:=Aside0.mk (blk_below (g:=gb526) (o:=.cells #[u527000,.int .u64 t522,.int .u64 t523,.int .u64 t524] 57 (0,0)) (by (with_reducible repeat (first|refine bN ?_ _|refine bD ?_|refine bA ?_ _));exact BK526.out) hb);have n12_:=Aside0.mk (blk_below (g:=gb537) (o:=.cells #[u538000,.int .u64 t534,.int .u64 t535,.int .u64 t536] 54 (0,0)) (by (with_reducible repeat (first|refine bN ?_ _|refine bD ?_|refine bA ?_ _));exact BK537.out) hb);have n13_:=Aside0.mk (below_step (by repeat (first|(with_reducible first|exact HB.out|apply below_alloc|apply pw_below_drewN|apply below_drew1|refine below_set ?_ GE504.out|refine below_set ?_ GE505.out|refine below_set ?_ GE518.out|refine below_set ?_ GE526.out|refine below_set ?_ GE537.out)|exact HB.out)) hb);clear HO_9;clear HO_12;clear HO_505000;clear HO_506000;clear HO_519000;clear HO_527000;clear HO_538000;clear BK504;clear BK505;clear BK518;clear BK526;clear BK537;clear HB;have HO_9:=n0_;have HO_12:=n1_;have HO_505000:=n2_;have HO_506000:=n3_;have HO_519000:=n4_;have HO_527000:=n5_;have HO_538000:=n6_;have HO554:=n7_;have BK504:=n8_;have BK505:=n9_;have BK518:=n10_;have BK526:=n11_;have BK537:=n12_;have HB:=n13_;clear n0_ n1_ n2_ n3_ n4_ n5_ n6_ n7_ n8_ n9_ n10_ n11_ n12_ n13_;(try clear hb);(try clear hb2);(try clear hk);(try clear hi);(try clear ho0);obtain ⟨Ao130,co130,eo130⟩:=Kd.R_slice HO_9.out;subst eo130;obtain ⟨Ao131,co131,eo131⟩:=Kd.R_slice HO554.out;subst eo131)|(go_at_call 19;(with_reducible refine (ratlinelaw02_Same.calls _ _ t527 _ _ t552 true _ ?side1 ?side2 ?side3 ?side4 A107.out).mono ?_);(case side1 => repeat (first|exact (Kd.R_reads' HO_9.out).2.2|(with_reducible refine Kd.C_alloc ?_ _)|(with_reducible refine Kd.C_drewN ?_ _)|(with_reducible refine Kd.C_drew ?_)));(case side2 => exact (Kd.R_reads' HO_9.out).2.1);(case side3 => repeat (first|exact (Kd.R_reads' HO554.out).2.2|(with_reducible refine Kd.C_alloc ?_ _)|(with_reducible refine Kd.C_drewN ?_ _)|(with_reducible refine Kd.C_drew ?_)));(case side4 => exact (Kd.R_reads' HO554.out).2.1);rintro e w' ⟨rfl,⟨nd,rfl⟩⟩;(try first|exact ⟨rfl,_,World.drewN_drewN _ _ _⟩|exact ⟨rfl,_,Eq.trans (World.drewN_drewN _ _ _) (congrArg (World.drewN _) (Nat.add_assoc _ _ _))⟩))|(go_at_call 31;(with_reducible refine (ratlinelaw09_awake.calls  t558 _ A122.out).mono ?_);rintro e w132 ⟨rfl,hb⟩;have n0_:=Aside0.mk (Kd.R_below (by (with_reducible repeat (first|apply zA|apply zN|apply zD));exact HO_9.out) hb);have n1_:=Aside0.mk (Kd.R_below (by (with_reducible repeat (first|apply zA|apply zN|apply zD));exact HO_12.out) hb);have n2_:=Aside0.mk (Kd.V_below (by (with_reducible repeat (first|apply vA|apply vN|apply vD));exact HO_505000.out) hb);have n3_:=Aside0.mk (Kd.V_below (by (with_reducible repeat (first|apply vA|apply vN|apply vD));exact HO_506000.out) hb);have n4_:=Aside0.mk (Kd.R_below (by (with_reducible repeat (first|apply zA|apply zN|apply zD));exact HO_519000.out) hb);have n5_:=Aside0.mk (Kd.R_below (by (with_reducible repeat (first|apply zA|apply zN|apply zD));exact HO_527000.out) hb);have n6_:=Aside0.mk (Kd.R_below (by (with_reducible repeat (first|apply zA|apply zN|apply zD));exact HO_538000.out) hb);have n7_:=Aside0.mk (Kd.R_below (by (with_reducible repeat (first|apply zA|apply zN|apply zD));exact HO554.out) hb);have n8_:=Aside0.mk (blk_below (g:=gb504) (o:=.cells #[.slice Ao128 x505000_2.length co128,.int .u64 a0_1,.int .u64 a0_2,.int .u64 a0_3] 54 (0,0)) (by (with_reducible repeat (first|refine bN ?_ _|refine bD ?_|refine bA ?_ _));exact BK504.out) hb);have n9_:=Aside0.mk (blk_below (g:=gb505) (o:=.cells #[u506000,.int .u64 a1_1,.int .u64 a1_2,.int .u64 a1_3] 54 (0,0)) (by (with_reducible repeat (first|refine bN ?_ _|refine bD ?_|refine bA ?_ _));exact BK505.out) hb);have n10_:=Aside0.mk (blk_below (g:=gb518) (o:=.cells #[u519000,.int .u64 t514,.int .u64 t515,.int .u64 t516] 57 (0,0)) (by (with_reducible repeat (first|refine bN ?_ _|refine bD ?_|refine bA ?_ _));exact BK518.out) hb);have n11_:=Aside0.mk (blk_below (g:=gb526) (o:=.cells #[u527000,.int .u64 t522,.int .u64 t523,.int .u64 t524] 57 (0,0)) (by (with_reducible repeat (first|refine bN ?_ _|refine bD ?_|refine bA ?_ _));exact BK526.out) hb);have n12_:=Aside0.mk (blk_below (g:=gb537) (o:=.cells #[u538000,.int .u64 t534,.int .u64 t535,.int .u64 t536] 54 (0,0)) (by (with_reducible repeat (first|refine bN ?_ _|refine bD ?_|refine bA ?_ _));exact BK537.out) hb);have n13_:=Aside0.mk (below_step (by repeat (first|(with_reducible first|exact HB.out|apply below_alloc|apply pw_below_drewN|apply below_drew1|refine below_set ?_ GE504.out|refine below_set ?_ GE505.out|refine below_set ?_ GE518.out|refine below_set ?_ GE526.out|refine below_set ?_ GE537.out)|exact HB.out)) hb);clear HO_9;clear HO_12;clear HO_505000;clear HO_506000;clear HO_519000;clear HO_527000;clear HO_538000;clear HO554;clear BK504;clear BK505;clear BK518;clear BK526;clear BK537;clear HB;have HO_9:=n0_;have HO_12:=n1_;have HO_505000:=n2_;have HO_506000:=n3_;have HO_519000:=n4_;have HO_527000:=n5_;have HO_538000:=n6_;have HO554:=n7_;have BK504:=n8_;have BK505:=n9_;have BK518:=n10_;have BK526:=n11_;have BK537:=n12_;have HB:=n13_;clear n0_ n1_ n2_ n3_ n4_ n5_ n6_ n7_ n8_ n9_ n10_ n11_ n12_ n13_;(try clear hb);(try clear hb2);(try clear hk);(try clear hi)))
           repeat (go_quiet (fail);try go_wp2)
           go_ret
           exact ⟨by first|rfl|(simp [errW_none,errW_some] <;> rfl)|(simp [*,errW_none,errW_some] <;> rfl),by repeat (first|(with_reducible first|exact HB.out|apply below_alloc|apply pw_below_drewN|apply below_drew1|refine below_set ?_ GE504.out|refine below_set ?_ GE505.out|refine below_set ?_ GE518.out|refine below_set ?_ GE526.out|refine below_set ?_ GE537.out)|exact HB.out)⟩
end Go.Proofs.Ytlaihdipagejfaa.P

end

section
set_option linter.unusedVariables false
set_option linter.unusedSimpArgs false
namespace Go.Proofs.YtlaihdipagejfaaL
open Go Go.RowKit Go.Proofs.YtlaihdipagejfaaG Go.Proofs.Ytlaihdipagejfaa.P Go.Proofs.YtlaihdipagejfaaW.PrintWords Go.Proofs.YtlaihdipagejfaaW.PrintMore

theorem heap62 : Kd.Heap k62 := by
  unfold k62
  repeat (first | apply Kd.heap_slice | apply Kd.heap_iso | apply Kd.heap_pair | exact Kd.heap_string | exact Kd.heap_int _)
abbrev EdS := S54
theorem lit_u64 {x : Int} (h : (Lit.int .u64 x).wf = true) : U64 x := by
  simp [Lit.wf, IntKind.min, IntKind.max, IntKind.bits, IntKind.signed] at h
  exact ⟨by omega, by omega⟩
def shortB (m : MetaS) : Bool := decide (m.f2.size ≤ 70) && decide (m.f3.size ≤ 70)
def fewE (e : EdS) : Bool := e.f0.all shortB && decide (e.f0.length ≤ 70)
theorem few_l1 (L : List EdS) (x9 : Int) (l : List MetaS) (a b c : Int) (hl : l.length ≤ 9223372036854775807) (r : Bool) (hc : Ev (fun k => ratlinelaw09_Few.l0 k L (L.length : Int) (wrap64 (x9 + 1))) r) :
    ∀ (n i : Nat), i + n = l.length → Ev (fun k => ratlinelaw09_Few.l1 k L (L.length : Int) x9 l (l.length : Int) i l a b c) ((l.drop i).all shortB && decide (l.length ≤ 70) && r) := by
  intro n
  induction n with
  | zero =>
    intro i hi
    rw [List.drop_eq_nil_of_le (by omega), List.all_nil, Bool.true_and]
    by_cases h : l.length ≤ 70
    · rw [decide_eq_true h, Bool.true_and]
      exact ev_step (fun k => by rw [ratlinelaw09_Few.l1, if_neg (by omega), if_neg (by omega)]) hc
    · rw [decide_eq_false h, Bool.false_and]
      exact ev_of 1 (fun k => by rw [ratlinelaw09_Few.l1, if_neg (by omega), if_pos (by omega)])
  | succ n ih =>
    intro i hi
    have hlt : i < l.length := by omega
    have hr : rd_T62 l (i : Int) = l[i] := getD_at hlt
    have hn := ih (i + 1) (by omega)
    rw [List.drop_eq_getElem_cons hlt, List.all_cons]
    by_cases h2 : (l[i]).f2.size ≤ 70
    · by_cases h3 : (l[i]).f3.size ≤ 70
      · rw [show shortB l[i] = true by unfold shortB; rw [decide_eq_true h2, decide_eq_true h3]; rfl, Bool.true_and]
        exact ev_step (fun k => by rw [ratlinelaw09_Few.l1, if_pos (by omega), if_pos (by omega), if_pos (by omega), hr, if_neg (by omega), if_neg (by omega), up1' (by omega)]) hn
      · rw [show shortB l[i] = false by unfold shortB; rw [decide_eq_true h2, decide_eq_false h3]; rfl, Bool.false_and, Bool.false_and, Bool.false_and]
        exact ev_of 1 (fun k => by rw [ratlinelaw09_Few.l1, if_pos (by omega), if_pos (by omega), if_pos (by omega), hr, if_neg (by omega), if_pos (by omega)])
    · rw [show shortB l[i] = false by unfold shortB; rw [decide_eq_false h2]; rfl, Bool.false_and, Bool.false_and, Bool.false_and]
      exact ev_of 1 (fun k => by rw [ratlinelaw09_Few.l1, if_pos (by omega), if_pos (by omega), if_pos (by omega), hr, if_pos (by omega)])
theorem few_l0 (L : List EdS) (hL : L.length ≤ 1000) (hl : ∀ e ∈ L, e.f0.length ≤ 9223372036854775807) :
    ∀ (n i : Nat), i + n = L.length → Ev (fun k => ratlinelaw09_Few.l0 k L (L.length : Int) i) ((L.drop i).all fewE) := by
  intro n
  induction n with
  | zero =>
    intro i hi
    rw [List.drop_eq_nil_of_le (by omega), List.all_nil]
    exact ev_of 1 (fun k => by rw [ratlinelaw09_Few.l0, if_neg (by omega)])
  | succ n ih =>
    intro i hi
    have hlt : i < L.length := by omega
    have hr : rd_T54 L (i : Int) = L[i] := getD_at hlt
    have hn := ih (i + 1) (by omega)
    rw [List.drop_eq_getElem_cons hlt, List.all_cons]
    have h1 := few_l1 L (i : Int) (L[i]).f0 (L[i]).f1 (L[i]).f2 (L[i]).f3 (hl _ (List.getElem_mem hlt)) _ (by rw [up1 (by omega)]; exact hn) (L[i]).f0.length 0 (by omega)
    rw [List.drop_zero] at h1
    exact ev_step (fun k => by rw [ratlinelaw09_Few.l0, if_pos (by omega), if_pos (by omega), if_pos (by omega), hr]; rfl) h1
theorem few_ev (L : List EdS) (hL : L.length ≤ 1000) (hl : ∀ e ∈ L, e.f0.length ≤ 9223372036854775807) : Ev (fun k => ratlinelaw09_Few.f k L) (L.all fewE) := by
  have := few_l0 L hL hl L.length 0 (by omega)
  rw [List.drop_zero] at this
  exact this
theorem fewE_len {e : EdS} (h : fewE e = true) : e.f0.length ≤ 70 := by
  unfold fewE at h
  simp only [Bool.and_eq_true, decide_eq_true_eq] at h
  exact h.2
/-- What comes in. -/
def WfI (e : EdS) : Prop := (e.f0.length ≤ maxLen ∧ ∀ m ∈ e.f0, (Lit.int .u64 m.f0).wf = true ∧ (Lit.int .u64 m.f1).wf = true ∧ m.f2.size ≤ maxLen ∧ m.f3.size ≤ maxLen) ∧ (Lit.int .u64 e.f1).wf = true ∧ (Lit.int .u64 e.f2).wf = true ∧ (Lit.int .u64 e.f3).wf = true
theorem WfI.e {e : EdS} (h : WfI e) : WfE e.f0 e.f1 e.f2 e.f3 := ⟨fun m hm => ⟨lit_u64 (h.1.2 m hm).1, lit_u64 (h.1.2 m hm).2.1⟩, lit_u64 h.2.1, lit_u64 h.2.2.1, lit_u64 h.2.2.2⟩
theorem WfI.len {e : EdS} (h : WfI e) : e.f0.length ≤ 9223372036854775807 := h.1.1
end Go.Proofs.YtlaihdipagejfaaL

end

section
namespace Go.Proofs.Ytlaihdipagejfaa.P
open Go.RowKit Go.Proofs.YtlaihdipagejfaaG Go.Proofs.YtlaihdipagejfaaW.PrintWords Go.Proofs.YtlaihdipagejfaaW.PrintLast Go.Proofs.YtlaihdipagejfaaW.PrintMore
attribute [local go_sem] str_gtr str_geq str_leq max2_int min2_int max_two min_two max_three min_three max_four min_four   -- for this text's walks alone
set_option linter.unusedVariables false
set_option linter.unusedSimpArgs false

attribute [local go_sem high] eqA62
def api_Meta_61.l0 : Nat → List (S62) → List (S62) → Int → Int → Option (Bool)
  | 0, _, _, _, _ => none
  | k + 1, x0, x1, x12, x13 => if x13 < x12 then (if 0 ≤ x13 then (if x13 < (x0.length : Int) then (if x13 < (x1.length : Int) then (if (!(((rd_T62 x0 x13).f0) == ((rd_T62 x1 x13).f0)) || (!(((rd_T62 x0 x13).f1) == ((rd_T62 x1 x13).f1)) || (!((((rd_T62 x0 x13).f2).toList) == (((rd_T62 x1 x13).f2).toList)) || (!((((rd_T62 x0 x13).f3).toList) == (((rd_T62 x1 x13).f3).toList)))))) = true then (some false) else (api_Meta_61.l0 k x0 x1 x12 (wrap64 (x13 + 1)))) else (none)) else (none)) else (none)) else (some true)
def api_Meta_61.f (k : Nat) (l0 : List (S62)) (l1 : List (S62)) : Option (Bool) := if (l0.length : Int) = (l1.length : Int) then (api_Meta_61.l0 k l0 l1 (l0.length : Int) 0) else (some false)
end Go.Proofs.Ytlaihdipagejfaa.P

end

section
namespace Go.Proofs.Ytlaihdipagejfaa.P
open Go.RowKit Go.Proofs.YtlaihdipagejfaaG Go.Proofs.YtlaihdipagejfaaW.PrintWords Go.Proofs.YtlaihdipagejfaaW.PrintLast Go.Proofs.YtlaihdipagejfaaW.PrintMore
attribute [local go_sem] str_gtr str_geq str_leq max2_int min2_int max_two min_two max_three min_three max_four min_four   -- for this text's walks alone
set_option linter.unusedVariables false
set_option linter.unusedSimpArgs false

def edit_Same.f (k : Nat) (l0_0 : List (S62)) (a0_1 : Int) (a0_2 : Int) (a0_3 : Int) (l1_0 : List (S62)) (a1_1 : Int) (a1_2 : Int) (a1_3 : Int) : Option (Bool) := (api_Meta_61.f k l0_0 l1_0).bind fun t128 => (if t128 = true then (if a0_1 = a1_1 then (if a0_2 = a1_2 then (some (a0_3 == a1_3)) else (some false)) else (some false)) else (some false))
-- GIVEN: function 49 (nums_Take)

-- GIVEN: function 69 (slices_Clone_byte_byte)

end Go.Proofs.Ytlaihdipagejfaa.P

end

section
set_option linter.unusedVariables false
set_option linter.unusedSimpArgs false
namespace Go.Proofs.YtlaihdipagejfaaL
open Go Go.RowKit Go.Proofs.YtlaihdipagejfaaG Go.Proofs.Ytlaihdipagejfaa.P Go.Proofs.YtlaihdipagejfaaW.PrintWords Go.Proofs.YtlaihdipagejfaaW.PrintMore

theorem meta_ne (x y : MetaS) : ((!((x.f0) == (y.f0)) || (!((x.f1) == (y.f1)) || (!(((x.f2).toList) == ((y.f2).toList)) || (!(((x.f3).toList) == ((y.f3).toList)))))) = true) ↔ x ≠ y := by
  obtain ⟨x0, x1, x2, x3⟩ := x
  obtain ⟨y0, y1, y2, y3⟩ := y
  simp only [Bool.or_eq_true, Bool.not_eq_true', beq_eq_false_iff_ne, ne_eq, ba_eq_iff, S62.mk.injEq]
  constructor
  · rintro (h | h | h | h) ⟨h0, h1, h2, h3⟩
    · exact h h0
    · exact h h1
    · exact h h2
    · exact h h3
  · intro h
    by_cases h0 : x0 = y0
    · by_cases h1 : x1 = y1
      · by_cases h2 : x2 = y2
        · exact .inr (.inr (.inr (fun h3 => h ⟨h0, h1, h2, h3⟩)))
        · exact .inr (.inr (.inl h2))
      · exact .inr (.inl h1)
    · exact .inl h0
theorem whole_f (l : List MetaS) (a b c : Int) (hl : l.length < 2932031007402) : edit_Whole.f l a b c = some (l, a, b, c) := by
  unfold edit_Whole.f
  exact bind1 (show api_Meta_57.f l = some l from if_pos hl) rfl
theorem apply_eq {l0 : List MetaS} {a b c : Int} {l1 : List MetaS} {d e f : Int} (hw : WfE l1 d e f) (hl : l0.length ≤ 1000000) : edit_Apply.f l0 a b c l1 d e f = some (if okB l0 a b c l1 d e f = true then (l0 ++ l1, mx a d, mx b e, mx c f, 0) else (l0, a, b, c, 90)) := by
  unfold edit_Apply.f
  rw [if_pos ⟨hw, by omega⟩]
end Go.Proofs.YtlaihdipagejfaaL

end

section
set_option linter.unusedVariables false
set_option linter.unusedSimpArgs false
namespace Go.Proofs.Ytlaihdipagejfaa.Pure
open Go Go.RowKit Go.Proofs.Ytlaihdipagejfaa.P Go.Proofs.YtlaihdipagejfaaG Go.Proofs.YtlaihdipagejfaaL Go.Proofs.YtlaihdipagejfaaW.PrintWords Go.Proofs.YtlaihdipagejfaaW.PrintMore Go.Proofs.YtlaihdipagejfaaW.PrintLast

theorem awake_a : Ev (fun _ : Nat => (ratlinelaw09_awake.f).bind fun t => some t) true := ev_some true
theorem same_self (l : List Int) : ratlinelaw02_Same.f l l = some true := by
  unfold ratlinelaw02_Same.f
  simp
section
variable (la : List MetaS) (a1 a2 a3 e f : Int) (bx : List Int) (lv : List MetaS) (p q s : Int)
theorem apart_l2 (he : e = 0 → la = lv) (hf : f = 0 ∨ f = 90) {eb : Int} (hb : edit_Bytes.f la a1 a2 a3 = some (bx, eb)) (hl : lv.length ≤ 1000) :
    ∀ m j, j + m = lv.length → Ev (fun k => ratlinelaw09_EditApart.l2 k e f bx lv (lv.length : Int) (j : Int) la a1 a2 a3 lv p q s) true := by
  intro m
  induction m with
  | zero =>
    intro j hj
    obtain rfl : j = lv.length := by omega
    refine ev_step (fun k => by rw [ratlinelaw09_EditApart.l2, if_neg (Int.lt_irrefl _)]) ?_
    refine ev_bind hb ?_
    refine ev_bind (same_self bx) ?_
    refine ev_pos rfl ?_
    rcases hf with rfl | rfl
    · exact ev_pos rfl awake_a
    · exact ev_neg (by decide) (ev_pos rfl awake_a)
  | succ m ih =>
    intro j hj
    have hlt : j < lv.length := by omega
    have h := ih (j + 1) (by omega)
    refine ev_step (fun k => by rw [ratlinelaw09_EditApart.l2, if_pos (by omega), if_pos (by omega), if_pos (by omega), if_pos (by omega), if_neg (fun z => (meta_ne _ _).1 z rfl), up1 (by omega)]) ?_
    by_cases h0 : e = 0
    · obtain rfl := he h0
      refine ev_pos h0 ?_
      refine ev_pos (by omega) ?_
      refine ev_neg (fun z => (meta_ne _ _).1 z rfl) ?_
      exact h
    · refine ev_neg h0 ?_
      exact h
theorem apart_l1 (n : Nat) (hn : n ≤ 1000) (x y z : Int) (h2 : Ev (fun k => ratlinelaw09_EditApart.l2 k e f bx lv (lv.length : Int) 0 la a1 a2 a3 lv p q s) true) :
    ∀ (m j : Nat) (ys : List MetaS), j + m = n → ys.length = n → Ev (fun k => ratlinelaw09_EditApart.l1 k e f bx lv (n : Int) (j : Int) la a1 a2 a3 lv p q s ys x y z) true := by
  intro m
  induction m with
  | zero =>
    intro j ys hj hy
    obtain rfl : j = n := by omega
    exact ev_step (fun k => by rw [ratlinelaw09_EditApart.l1, if_neg (Int.lt_irrefl _)]) h2
  | succ m ih =>
    intro j ys hj hy
    have hlt : j < n := by omega
    refine ev_step (fun k => by rw [ratlinelaw09_EditApart.l1, if_pos (by omega), if_pos (by omega), if_pos (by omega), up1 (by omega)]) ?_
    exact ih (j + 1) _ (by omega) (by rw [List.length_set]; exact hy)
theorem apart_l0 (n : Nat) (hn : n ≤ 1000) (x y z : Int) (zs : List MetaS) (hz : zs.length ≤ 1000) (x' y' z' : Int) (h2 : Ev (fun k => ratlinelaw09_EditApart.l2 k e f bx lv (lv.length : Int) 0 la a1 a2 a3 lv p q s) true) :
    ∀ (m j : Nat) (ys : List MetaS), j + m = n → ys.length = n → Ev (fun k => ratlinelaw09_EditApart.l0 k e f bx lv (n : Int) (j : Int) la a1 a2 a3 lv p q s ys x y z zs x' y' z') true := by
  intro m
  induction m with
  | zero =>
    intro j ys hj hy
    obtain rfl : j = n := by omega
    exact ev_step (fun k => by rw [ratlinelaw09_EditApart.l0, if_neg (Int.lt_irrefl _)]; rfl) (apart_l1 la a1 a2 a3 e f bx lv p q s zs.length hz x' y' z' h2 zs.length 0 zs (by omega) rfl)
  | succ m ih =>
    intro j ys hj hy
    have hlt : j < n := by omega
    refine ev_step (fun k => by rw [ratlinelaw09_EditApart.l0, if_pos (by omega), if_pos (by omega), if_pos (by omega), up1 (by omega)]) ?_
    exact ih (j + 1) _ (by omega) (by rw [List.length_set]; exact hy)
end
theorem EditApart (e : EdS) (he : WfI e) (g : EdS) (hg : WfI g) : ∃ k, ratlinelaw09_EditApart.f k e.f0 e.f1 e.f2 e.f3 g.f0 g.f1 g.f2 g.f3 = some true := by
  refine Ev.rounds (g := fun k => ratlinelaw09_EditApart.f k e.f0 e.f1 e.f2 e.f3 g.f0 g.f1 g.f2 g.f3) ?_
  unfold ratlinelaw09_EditApart.f
  refine ev_call (few_ev [e, g] (by simp) (fun x hx => by
    simp only [List.mem_cons, List.not_mem_nil, or_false] at hx
    rcases hx with rfl | rfl
    · exact he.len
    · exact hg.len)) ?_
  by_cases hf : ([e, g].all fewE) = true
  · refine ev_pos hf ?_
    simp only [List.all_cons, List.all_nil, Bool.and_true, Bool.and_eq_true] at hf
    have h1 := fewE_len hf.1
    have h2 := fewE_len hf.2
    have hwe := he.e
    have hwg := hg.e
    have hA : ∃ lv p q s c, edit_Apply.f [] 0 0 0 e.f0 e.f1 e.f2 e.f3 = some (lv, p, q, s, c) ∧ (c = 0 → e.f0 = lv) ∧ lv.length ≤ 70 := by
      have := apply_eq (l0 := []) (a := 0) (b := 0) (c := 0) hwe (by simp)
      by_cases h : okB [] 0 0 0 e.f0 e.f1 e.f2 e.f3 = true
      · rw [if_pos h] at this
        exact ⟨_, _, _, _, _, this, fun _ => rfl, h1⟩
      · rw [if_neg h] at this
        exact ⟨_, _, _, _, _, this, fun z => (by cases z), by simp⟩
    obtain ⟨lv, p, q, s, c, hA, hc, hlv⟩ := hA
    have hB : ∃ lw p' q' s' d, edit_Apply.f lv p q s g.f0 g.f1 g.f2 g.f3 = some (lw, p', q', s', d) ∧ (d = 0 ∨ d = 90) ∧ lw.length ≤ 140 := by
      have := apply_eq (l0 := lv) (a := p) (b := q) (c := s) hwg (by omega)
      by_cases h : okB lv p q s g.f0 g.f1 g.f2 g.f3 = true
      · rw [if_pos h] at this
        exact ⟨_, _, _, _, _, this, .inl rfl, by rw [List.length_append]; omega⟩
      · rw [if_neg h] at this
        exact ⟨_, _, _, _, _, this, .inr rfl, by omega⟩
    obtain ⟨lw, p', q', s', d, hB, hd, hlw⟩ := hB
    obtain ⟨bx, eb, hC⟩ : ∃ bx eb, edit_Bytes.f e.f0 e.f1 e.f2 e.f3 = some (bx, eb) := ⟨_, _, if_pos hwe⟩
    refine ev_bind hA ?_
    refine ev_bind hB ?_
    refine ev_bind hC ?_
    refine ev_bind (whole_f lv p q s (by omega)) ?_
    refine ev_bind rfl ?_
    refine ev_pos (by show 0 + lv.length < _; omega) ?_
    exact apart_l0 e.f0 e.f1 e.f2 e.f3 c d bx lv p q s lw.length (by omega) p' q' s' lv (by omega) p q s (apart_l2 e.f0 e.f1 e.f2 e.f3 c d bx lv p q s hc hd hC (by omega) lv.length 0 (by omega)) lw.length 0 lw (by omega) rfl
  · refine ev_neg hf ?_
    exact awake_a
end Go.Proofs.Ytlaihdipagejfaa.Pure

end

section
set_option linter.unusedVariables false
namespace Go.Proofs.YtlaihdipagejfaaG
open Go Go.RowKit Go.Proofs.YtlaihdipagejfaaW.PrintWords

/-- What is trodden of this type is of this kind, and is right. -/
def Opens {α : Type} (P : Program) (t : TypeId) (d : Kd α) (wf : α → Prop) : Prop :=
  ∀ (H : Type) (enc : TypeId × Value → H) (w : World) (base : Nat) (sp : Nat → Bool) (held : Bool) (fuel : Nat) (cs : List Value) (x : DataW H × List MemPlace),
    DataW.trod enc P w base sp held fuel t cs = some x → ∃ a, d.K w a cs ∧ wf a
section
variable {P : Program} {t e : TypeId}
theorem opens_int {k : IntKind} (ht : P.underlying t = some (.int k)) : Opens P t (Kd.int k) (fun n => (Lit.int k n).wf = true) := by
  intro H enc w base sp held fuel cs x h
  obtain ⟨n, rfl, _, hw⟩ := DataW.trod_int ht h
  exact ⟨n, rfl, hw⟩
theorem opens_string (ht : P.underlying t = some .string) : Opens P t Kd.string (fun s => s.size ≤ maxLen) := by
  intro H enc w base sp held fuel cs x h
  obtain ⟨n, rfl, _, hm⟩ := DataW.trod_string ht h
  exact ⟨n, rfl, hm⟩
theorem build {α : Type} {Q : Nat → α → Prop} : ∀ n : Nat, (∀ i, i < n → ∃ a, Q i a) → ∃ l : List α, l.length = n ∧ ∀ i a, l[i]? = some a → Q i a := by
  intro n
  induction n with
  | zero => intro _; exact ⟨[], rfl, fun i a h => by simp at h⟩
  | succ n ih =>
    intro h
    obtain ⟨l, hl, hq⟩ := ih (fun i hi => h i (by omega))
    obtain ⟨a, ha⟩ := h n (by omega)
    refine ⟨l ++ [a], by simp [hl], fun i b hb => ?_⟩
    by_cases hi : i < n
    · rw [List.getElem?_append_left (by omega)] at hb
      exact hq i b hb
    · rw [List.getElem?_append_right (by omega)] at hb
      by_cases hin : i = n
      · subst hin
        rw [hl, Nat.sub_self] at hb
        simp at hb
        exact hb ▸ ha
      · rw [List.getElem?_eq_none (by simp; omega)] at hb
        cases hb
theorem opens_row {α : Type} {d : Kd α} {wf : α → Prop} (hc : P.cellsOf e = d.sz) (ht : P.underlying t = some (.slice e)) (he : Opens P e d wf)
    {H : Type} {enc : TypeId × Value → H} {w : World} {base : Nat} {sp : Nat → Bool} {held : Bool} {fuel : Nat} {cs : List Value} {x : DataW H × List MemPlace} (h : DataW.trod enc P w base sp held fuel t cs = some x) :
    ∃ (A : Option Addr) (c : Nat) (xs : List α), cs = [.slice A xs.length c] ∧ xs.length ≤ c ∧ c ≤ maxLen ∧ d.C w A xs.length xs ∧ ∀ a ∈ xs, wf a := by
  rcases DataW.trod_slice ht h with ⟨rfl, _⟩ | ⟨ad, len, cap, elems, rest, n, _, rfl, _, hb, hl, hm, hn, hel, _, _⟩
  · exact ⟨none, 0, [], rfl, Nat.le_refl _, by decide, Kd.C_nil d w, fun a ha => by cases ha⟩
  · obtain ⟨xs, hxl, hx⟩ := build (Q := fun i a => wf a ∧ ∃ c, c.length = d.sz ∧ d.K w a c ∧ ∀ j u, c[j]? = some u → w.cell? (ad.add (i * d.sz + j)) = some u) len (fun i hi => by
      have h1 := hel i hi
      rw [List.getElem?_eq_getElem (by omega)] at h1
      obtain ⟨cs', hcs, htr⟩ := Option.bind_eq_some_iff.1 h1
      obtain ⟨a, ha, hw⟩ := he H enc w base sp held n cs' _ htr
      have hlen := d.K_len ha
      obtain ⟨_, hlen2, hcell⟩ := World.cells?_some hcs
      refine ⟨a, hw, cs', hlen, ha, fun j u hj => ?_⟩
      have hjl : j < cs'.length := by
        by_cases hjl : j < cs'.length
        · exact hjl
        · rw [List.getElem?_eq_none (by omega)] at hj; cases hj
      have h2 := hcell j (by omega)
      rw [hc] at h2
      have hadd : (ad.add (i * d.sz)).add j = ad.add (i * d.sz + j) := Addr.add_add ad _ _
      rw [← hadd, h2, hj])
    have hmax : maxLen ≤ 9223372036854775807 := by decide
    refine ⟨some ad, cap, xs, by rw [hxl], by omega, hm, ⟨rfl, by omega, fun _ => ⟨ad, rfl, fun j p hp => (hx j p hp).2⟩⟩, fun a ha => ?_⟩
    obtain ⟨i, hi⟩ := List.mem_iff_getElem?.1 ha
    exact (hx i a hi).1
theorem opens_slice {α : Type} {d : Kd α} {wf : α → Prop} (hc : P.cellsOf e = d.sz) (ht : P.underlying t = some (.slice e)) (he : Opens P e d wf) :
    Opens P t (Kd.slice e d) (fun l => l.length ≤ maxLen ∧ ∀ a ∈ l, wf a) := by
  intro H enc w base sp held fuel cs x h
  obtain ⟨A, c, xs, rfl, hl, hm, hC, hw⟩ := opens_row hc ht he h
  exact ⟨xs, ⟨A, c, rfl, hl, hC⟩, by omega, hw⟩
theorem Opens.iso {α β : Type} {d : Kd α} {wf : α → Prop} (h : Opens P t d wf) (f : β → α) (g : α → β) (hfg : ∀ a, f (g a) = a) : Opens P t (Kd.iso d f) (fun b => wf (f b)) := by
  intro H enc w base sp held fuel cs x htr
  obtain ⟨a, ha, hw⟩ := h H enc w base sp held fuel cs x htr
  exact ⟨g a, by show d.K w (f (g a)) cs; rw [hfg]; exact ha, by show wf (f (g a)); rw [hfg]; exact hw⟩
end

/-- A field of a struct. -/
theorem opens_field {α : Type} {P : Program} {t e : TypeId} {fs : Array Field} {d : Kd α} {wf : α → Prop} {off i : Nat} {f : Field} (ht : P.underlying t = some (.struct fs)) (hi : fs[i]? = some f) (hft : f.type = e) (hfo : f.offset = off) (hc : P.cellsOf e = d.sz) (he : Opens P e d wf)
    {H : Type} {enc : TypeId × Value → H} {w : World} {base : Nat} {sp : Nat → Bool} {held : Bool} {fuel : Nat} {cs : List Value} {x : DataW H × List MemPlace} (h : DataW.trod enc P w base sp held fuel t cs = some x) :
    ∃ a, d.K w a ((cs.drop off).take d.sz) ∧ wf a := by
  obtain ⟨xs, n, _, _, _, hn, hf⟩ := DataW.trod_struct ht h
  have h1 := hf i f hi
  have hil : i < xs.length := by
    rw [hn]
    exact (Array.getElem?_eq_some_iff.1 hi).1
  rw [List.getElem?_eq_getElem hil, hft, hfo, hc] at h1
  exact he H enc w base sp held n _ _ h1
theorem opens_cells {P : Program} {t : TypeId} {fs : Array Field} (ht : P.underlying t = some (.struct fs)) {H : Type} {enc : TypeId × Value → H} {w : World} {base : Nat} {sp : Nat → Bool} {held : Bool} {fuel : Nat} {cs : List Value} {x : DataW H × List MemPlace} (h : DataW.trod enc P w base sp held fuel t cs = some x) :
    cs.length = P.cellsOf t := by
  obtain ⟨xs, n, _, _, hl, _⟩ := DataW.trod_struct ht h
  exact hl
theorem opens_struct4 {α β γ δ : Type} {P : Program} {t ta tb tc td : TypeId} {fs : Array Field} {a : Kd α} {b : Kd β} {c : Kd γ} {d : Kd δ} {wa : α → Prop} {wb : β → Prop} {wc : γ → Prop} {wd : δ → Prop} (ht : P.underlying t = some (.struct fs)) (hc : P.cellsOf t = a.sz + (b.sz + (c.sz + d.sz)))
    (f0 : (fs[0]?).map (fun f => (f.type, f.offset)) = some (ta, 0)) (f1 : (fs[1]?).map (fun f => (f.type, f.offset)) = some (tb, a.sz)) (f2 : (fs[2]?).map (fun f => (f.type, f.offset)) = some (tc, a.sz + b.sz)) (f3 : (fs[3]?).map (fun f => (f.type, f.offset)) = some (td, a.sz + b.sz + c.sz)) (ca : P.cellsOf ta = a.sz) (cb : P.cellsOf tb = b.sz) (cc : P.cellsOf tc = c.sz) (cd : P.cellsOf td = d.sz) (oa : Opens P ta a wa) (ob : Opens P tb b wb) (oc : Opens P tc c wc) (od : Opens P td d wd) :
    Opens P t (Kd.pair a (Kd.pair b (Kd.pair c d))) (fun x => wa x.1 ∧ wb x.2.1 ∧ wc x.2.2.1 ∧ wd x.2.2.2) := by
  intro H enc w base sp held fuel cs x h
  obtain ⟨g0, e0, q0⟩ := Option.map_eq_some_iff.1 f0
  obtain ⟨g1, e1, q1⟩ := Option.map_eq_some_iff.1 f1
  obtain ⟨g2, e2, q2⟩ := Option.map_eq_some_iff.1 f2
  obtain ⟨g3, e3, q3⟩ := Option.map_eq_some_iff.1 f3
  simp only [Prod.mk.injEq] at q0 q1 q2 q3
  obtain ⟨x0, k0, w0⟩ := opens_field ht e0 q0.1 q0.2 ca oa h
  obtain ⟨x1, k1, w1⟩ := opens_field ht e1 q1.1 q1.2 cb ob h
  obtain ⟨x2, k2, w2⟩ := opens_field ht e2 q2.1 q2.2 cc oc h
  obtain ⟨x3, k3, w3⟩ := opens_field ht e3 q3.1 q3.2 cd od h
  have hl := opens_cells ht h
  have hsp : (cs.drop (a.sz + b.sz + c.sz)).take d.sz = ((cs.drop a.sz).drop b.sz).drop c.sz := by rw [List.take_of_length_le (by rw [List.length_drop]; omega)]; simp only [List.drop_drop, Nat.add_assoc]
  rw [List.drop_zero] at k0
  rw [hsp] at k3
  rw [← List.drop_drop] at k2
  exact ⟨(x0, x1, x2, x3), ⟨cs.take a.sz, cs.drop a.sz, (List.take_append_drop _ _).symm, k0, _, _, (List.take_append_drop b.sz _).symm, k1, _, _, (List.take_append_drop c.sz _).symm, k2, k3⟩, w0, w1, w2, w3⟩
/-- A struct as an argument. -/
theorem opens_agg {P : Program} {t : TypeId} {fs : Array Field} {w : World} {r : Reach} {base : Nat} {v : Value} (ht : P.underlying t = some (.struct fs)) (h : Value.okWide P w r base t v) : ∃ cs, v = .agg cs := by
  unfold Value.okWide at h
  rw [ht] at h
  obtain ⟨cs, hv, _⟩ := h
  exact ⟨cs, hv⟩
end Go.Proofs.YtlaihdipagejfaaG

end

section
set_option linter.unusedVariables false
namespace Go.Proofs.Ytlaihdipagejfaa.editApart
open Go Go.ChangeShapes Go.WideShapes Go.ChangeAt Go.RowKit Go.Proofs.YtlaihdipagejfaaG Go.Proofs.Ytlaihdipagejfaa.P Go.Proofs.YtlaihdipagejfaaL Go.Proofs.YtlaihdipagejfaaW.PrintWords
open Go.ChangeMaps (open_string shut_string)
theorem own : ownKnob Try.prog.godebug = none := by kernel_rfl
theorem laidOut : laidOutB Try.prog = true := by kernel_rfl
set_option maxRecDepth 100000 in
theorem lifted (os : Os) (started : os.Started) (H : Type) (enc : TypeId × Value → H) :
    ReturnsInHanded {} Try.checked os 9 .any (Rows.editApartSpec.pre6 enc Try.prog Try.f9 Rows.editApartRow.domain false) (Rows.editApartSpec.post enc Try.prog Try.f9 false true false false) := by
  refine returnsInHanded_of_change_sized (C := Try.checked) own started (by kernel_rfl) Try.func9
    (ChangeSpec.witness6 (enc := enc) (C := Try.checked) false ⟨#[], #[.agg #[.slice none 0 0, .int .u64 0, .int .u64 0, .int .u64 0], .agg #[.slice none 0 0, .int .u64 0, .int .u64 0, .int .u64 0]], []⟩ 8 (by kernel_rfl) (by kernel_rfl) (by kernel_rfl) (by kernel_rfl)) ?_
  intro W base args ds gs before hval0 hW hcnd hsz0 _
  have hsz : (DataW.weightsEach Try.prog (Try.f9.params.toList ++ Rows.editApartSpec.plain.varTypes Try.prog) (ds ++ gs)).all (· ≤ reachBytes) = true := hsz0
  have hval : ∀ (j : Nat) t v, Try.f9.params[j]? = some t → args[j]? = some v → Value.okWide Try.prog W .any base t v := hval0
  have hW' := hW
  obtain ⟨p, q, hA0, hV, rfl, hfz, hnd⟩ := hW
  have hA : DataW.TrodAll enc Try.prog W 0 (fun _ => true) true Try.f9.params.toList args.toList ds p := hA0
  rw [Try.params9] at hA hval hsz
  obtain ⟨v0, vs0, d0, ds0, p0, q0, hargs, rfl, rfl, h0, r0⟩ := trodAll_cons hA
  obtain ⟨v1, vs1, d1, ds1, p1, q1, rfl, rfl, rfl, h1, r1⟩ := trodAll_cons r0
  obtain ⟨rfl, rfl, rfl⟩ := trodAll_nil r1
  obtain rfl : args = #[v0, v1] := by cases args; simp_all
  obtain ⟨rfl, rfl⟩ := trodVars_none hV
  obtain ⟨cs0, rfl⟩ := opens_agg Try.underlying54 (hval 0 54 v0 rfl rfl)
  have k0 := h0
  have lt0 : ∀ x ∈ p0, x.block < W.heap.size := by obtain ⟨m, hm⟩ := k0; exact DataW.trod_lt m _ _ _ hm
  obtain ⟨fuel0, hf0⟩ := h0
  obtain ⟨x0, hx0, hw0⟩ := (show Opens Try.prog 54 k54 _ from Opens.iso (opens_struct4 (ta := 52) (tb := 35) (tc := 35) (td := 35) Try.underlying54 (by kernel_rfl) (by kernel_rfl) (by kernel_rfl) (by kernel_rfl) (by kernel_rfl) (by kernel_rfl) (by kernel_rfl) (by kernel_rfl) (by kernel_rfl) (opens_slice (by kernel_rfl) Try.underlying52 (show Opens Try.prog 62 k62 _ from Opens.iso (opens_struct4 (ta := 35) (tb := 35) (tc := 9) (td := 9) Try.underlying62 (by kernel_rfl) (by kernel_rfl) (by kernel_rfl) (by kernel_rfl) (by kernel_rfl) (by kernel_rfl) (by kernel_rfl) (by kernel_rfl) (by kernel_rfl) (opens_int Try.underlying35) (opens_int Try.underlying35) (opens_string Try.underlying9) (opens_string Try.underlying9)) (fun x : S62 => (x.f0, x.f1, x.f2, x.f3)) (fun q => ⟨q.1, q.2.1, q.2.2.1, q.2.2.2⟩) (fun _ => rfl))) (opens_int Try.underlying35) (opens_int Try.underlying35) (opens_int Try.underlying35)) (fun x : S54 => (x.f0, x.f1, x.f2, x.f3)) (fun q => ⟨q.1, q.2.1, q.2.2.1, q.2.2.2⟩) (fun _ => rfl)) H enc _ _ _ _ _ _ _ hf0
  obtain ⟨A0_0, c0_0, hcs0, hl0_0, hC0_0⟩ := k54_open hx0
  obtain rfl : cs0 = #[.slice A0_0 (x0.f0).length c0_0, .int .u64 x0.f1, .int .u64 x0.f2, .int .u64 x0.f3] := Array.ext' hcs0
  obtain ⟨cs1, rfl⟩ := opens_agg Try.underlying54 (hval 1 54 v1 rfl rfl)
  have k1 := h1
  have lt1 : ∀ x ∈ p1, x.block < W.heap.size := by obtain ⟨m, hm⟩ := k1; exact DataW.trod_lt m _ _ _ hm
  obtain ⟨fuel1, hf1⟩ := h1
  obtain ⟨x1, hx1, hw1⟩ := (show Opens Try.prog 54 k54 _ from Opens.iso (opens_struct4 (ta := 52) (tb := 35) (tc := 35) (td := 35) Try.underlying54 (by kernel_rfl) (by kernel_rfl) (by kernel_rfl) (by kernel_rfl) (by kernel_rfl) (by kernel_rfl) (by kernel_rfl) (by kernel_rfl) (by kernel_rfl) (opens_slice (by kernel_rfl) Try.underlying52 (show Opens Try.prog 62 k62 _ from Opens.iso (opens_struct4 (ta := 35) (tb := 35) (tc := 9) (td := 9) Try.underlying62 (by kernel_rfl) (by kernel_rfl) (by kernel_rfl) (by kernel_rfl) (by kernel_rfl) (by kernel_rfl) (by kernel_rfl) (by kernel_rfl) (by kernel_rfl) (opens_int Try.underlying35) (opens_int Try.underlying35) (opens_string Try.underlying9) (opens_string Try.underlying9)) (fun x : S62 => (x.f0, x.f1, x.f2, x.f3)) (fun q => ⟨q.1, q.2.1, q.2.2.1, q.2.2.2⟩) (fun _ => rfl))) (opens_int Try.underlying35) (opens_int Try.underlying35) (opens_int Try.underlying35)) (fun x : S54 => (x.f0, x.f1, x.f2, x.f3)) (fun q => ⟨q.1, q.2.1, q.2.2.1, q.2.2.2⟩) (fun _ => rfl)) H enc _ _ _ _ _ _ _ hf1
  obtain ⟨A1_0, c1_0, hcs1, hl1_0, hC1_0⟩ := k54_open hx1
  obtain rfl : cs1 = #[.slice A1_0 (x1.f0).length c1_0, .int .u64 x1.f1, .int .u64 x1.f2, .int .u64 x1.f3] := Array.ext' hcs1
  obtain ⟨k, h⟩ := Pure.EditApart x0 hw0 x1 hw1
  clear hA0 hval0 hsz0 hsz
  refine (P.ratlinelaw09_EditApart.calls k (fun _ => True) _ _ x0.f0 x0.f1 x0.f2 x0.f3 (fun _ => True) _ _ x1.f0 x1.f1 x1.f2 x1.f3 true W (Kd.V_mk hl0_0 (Kd.F_mono (Kd.C_F heap62 hC0_0) (fun _ _ => trivial))) (Kd.V_mk hl1_0 (Kd.F_mono (Kd.C_F heap62 hC1_0) (fun _ _ => trivial))) h).mono fun e W' ⟨he, bel⟩ => ?_
  subst he
  exact ⟨_, rfl, _, _, _, [], _, [], hW', trodAll_mk1 (shut_bool Try.underlying4 _), (trodAll_cons_mk (Below.trod laidOut (by kernel_rfl) (of_decide_eq_true (by kernel_rfl)) k0 bel lt0) (trodAll_cons_mk (Below.trod laidOut (by kernel_rfl) (of_decide_eq_true (by kernel_rfl)) k1 bel lt1) trodAll_mk0)), rfl, bel.frame _, fun h => by cases h⟩
theorem over : Rows.editApartRow.holds Try.pinned (OpenSpec.ofChange Rows.editApartSpec) :=
  OpenClaim.holds_of_wide 9 Try.f9 rfl rfl rfl rfl rfl rfl rfl ⟨rfl, rfl, rfl, rfl, rfl⟩ rfl rfl rfl rfl rfl (by kernel_rfl) Try.func9 (by kernel_rfl)
    (of_decide_eq_true (by kernel_rfl)) (by unfold Func.isWrapper; first | (rw [if_pos (by decide +kernel)]; kernel_rfl) | (rw [if_neg (by decide +kernel)]; exact ⟨rfl, rfl⟩))
    (fun os started H enc _ => lifted os started H enc)
theorem proved : Rows.EditApartSaid := over
#print axioms proved
end Go.Proofs.Ytlaihdipagejfaa.editApart
namespace Go.Proofs.Ytlaihdipagejfaa
/-- The row, under a short name, for the claim. -/
theorem editApart_holds : Rows.EditApartSaid := editApart.proved
end Go.Proofs.Ytlaihdipagejfaa

end
