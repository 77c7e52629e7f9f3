/- Proved here: the row of EditBack, and what it needs. Conditions: those of each theorem. Written for this claim by programs; what the claim does not use is left out. -/
import Derived.ChangeArms
import Derived.DataReads
import Derived.DataElems
import Derived.OpenShut
import Derived.SizedLaws
import Derived.Test.YtlaihdipagejfaaRows
import Derived.WalkKit
import Derived.ProofKit
import Derived.ShutString
import Derived.ChangeOld
import Derived.Below
import Derived.Test.YtlaihdipagejfaaSEditBack2
section
namespace Go.Proofs.Ytlaihdipagejfaa.P
open Go.RowKit Go.Proofs.YtlaihdipagejfaaG Go.Proofs.YtlaihdipagejfaaW.PrintWords Go.Proofs.YtlaihdipagejfaaW.PrintLast Go.Proofs.YtlaihdipagejfaaW.PrintMore
attribute [local go_sem] str_gtr str_geq str_leq max2_int min2_int max_two min_two max_three min_three max_four min_four   -- for this text's walks alone
set_option linter.unusedVariables false
set_option linter.unusedSimpArgs false

mutual
def ratlinelaw09_EditBack.j0 : Nat → List Int → Bool → List (S62) → Int → Int → Int → List (S62) → Int → Int → Int → Option (Bool)
 | 0,_,_,_,_,_,_,_,_,_,_ => none
 | k + 1,x2,x26,x363000,x363001,x363002,x363003,x364000,x364001,x364002,x364003 => if x26 = true then ((ratlinelaw09_awake.f).bind fun t368 => (some t368)) else ((edit_Bytes.f x363000 x363001 x363002 x363003).bind fun bt369 => ((edit_Bytes.f x364000 x364001 x364002 x364003).bind fun bt373 => ((edit_Right.f k x363000 x363001 x363002 x363003).bind fun t377 => (if ((bt369.2 == 0) != t377) = true then (ratlinelaw09_EditBack.j1 k x2 bt369.1 bt369.2 bt373.1 bt373.2 true x363000 x363001 x363002 x363003 x364000 x364001 x364002 x364003) else (if bt369.2 = 0 then ((edit_Same.f k x363000 x363001 x363002 x363003 x363000 x363001 x363002 x363003).bind fun t378 => (if t378 = true then ((edit_Same.f k x363000 x363001 x363002 x363003 x364000 x364001 x364002 x364003).bind fun t379 => ((edit_Same.f k x364000 x364001 x364002 x364003 x363000 x363001 x363002 x363003).bind fun t380 => (ratlinelaw09_EditBack.j1 k x2 bt369.1 bt369.2 bt373.1 bt373.2 (t379 != t380) x363000 x363001 x363002 x363003 x364000 x364001 x364002 x364003))) else (ratlinelaw09_EditBack.j1 k x2 bt369.1 bt369.2 bt373.1 bt373.2 true x363000 x363001 x363002 x363003 x364000 x364001 x364002 x364003))) else (if bt369.2 = 90 then (if (bt369.1.length : Int) = 0 then ((edit_Same.f k x363000 x363001 x363002 x363003 x363000 x363001 x363002 x363003).bind fun t381 => (if t381 = true then ((edit_Same.f k x363000 x363001 x363002 x363003 x364000 x364001 x364002 x364003).bind fun t382 => ((edit_Same.f k x364000 x364001 x364002 x364003 x363000 x363001 x363002 x363003).bind fun t383 => (ratlinelaw09_EditBack.j1 k x2 bt369.1 bt369.2 bt373.1 bt373.2 (t382 != t383) x363000 x363001 x363002 x363003 x364000 x364001 x364002 x364003))) else (ratlinelaw09_EditBack.j1 k x2 bt369.1 bt369.2 bt373.1 bt373.2 true x363000 x363001 x363002 x363003 x364000 x364001 x364002 x364003))) else (ratlinelaw09_EditBack.j1 k x2 bt369.1 bt369.2 bt373.1 bt373.2 true x363000 x363001 x363002 x363003 x364000 x364001 x364002 x364003)) else (ratlinelaw09_EditBack.j1 k x2 bt369.1 bt369.2 bt373.1 bt373.2 true x363000 x363001 x363002 x363003 x364000 x364001 x364002 x364003)))))))
def ratlinelaw09_EditBack.j1 : Nat → List Int → List Int → Int → List Int → Int → Bool → List (S62) → Int → Int → Int → List (S62) → Int → Int → Int → Option (Bool)
 | 0,_,_,_,_,_,_,_,_,_,_,_,_,_,_ => none
 | k + 1,x2,x7,x8,x9,x10,x70,x363000,x363001,x363002,x363003,x364000,x364001,x364002,x364003 => if x70 = true then (none) else (if x8 = 0 then ((edit_Parse.f x7).bind fun bt384 => (if bt384.2.2.2.2 = 0 then ((edit_Same.f k bt384.1 bt384.2.1 bt384.2.2.1 bt384.2.2.2.1 x363000 x363001 x363002 x363003).bind fun t392 => (if t392 = true then (if x10 = 0 then ((ratlinelaw02_Same.f x7 x9).bind fun t393 => ((edit_Same.f k x363000 x363001 x363002 x363003 x364000 x364001 x364002 x364003).bind fun t394 => (if (t393 != t394) = true then (none) else (ratlinelaw09_EditBack.j2 k x2)))) else (ratlinelaw09_EditBack.j2 k x2)) else (none))) else (none))) else (ratlinelaw09_EditBack.j2 k x2))
def ratlinelaw09_EditBack.j2 : Nat → List Int → Option (Bool)
 | 0,_ => none
 | k + 1,x2 => (edit_Parse.f x2).bind fun bt395 => (if bt395.2.2.2.2 = 0 then ((edit_Bytes.f bt395.1 bt395.2.1 bt395.2.2.1 bt395.2.2.2.1).bind fun bt405 => ((edit_Right.f k bt395.1 bt395.2.1 bt395.2.2.1 bt395.2.2.2.1).bind fun t409 => (if t409 = true then (if bt405.2 = 0 then ((ratlinelaw02_Same.f bt405.1 x2).bind fun t410 => (if t410 = true then ((ratlinelaw09_awake.f).bind fun t411 => (some t411)) else (none))) else (none)) else (none)))) else (if bt395.2.2.2.2 = 90 then ((edit_Same.f k bt395.1 bt395.2.1 bt395.2.2.1 bt395.2.2.2.1 ([] : List (S62)) 0 0 0).bind fun t403 => (if t403 = true then ((ratlinelaw09_awake.f).bind fun t404 => (some t404)) else (none))) else (none)))
end
def ratlinelaw09_EditBack.f (k : Nat) (l0_0 : List (S62)) (a0_1 : Int) (a0_2 : Int) (a0_3 : Int) (l1_0 : List (S62)) (a1_1 : Int) (a1_2 : Int) (a1_3 : Int) (l2 : List Int) : Option (Bool):=(ratlinelaw09_Few.f k (([(⟨l0_0,a0_1,a0_2,a0_3⟩ : S54),(⟨l1_0,a1_1,a1_2,a1_3⟩ : S54)] : List (S54)))).bind fun t367 => (if t367 = true then (ratlinelaw09_EditBack.j0 k l2 (decide ((l2.length : Int) > 600)) l0_0 a0_1 a0_2 a0_3 l1_0 a1_1 a1_2 a1_3) else (ratlinelaw09_EditBack.j0 k l2 true l0_0 a0_1 a0_2 a0_3 l1_0 a1_1 a1_2 a1_3))
def ratlinelaw09_EditBack.T5 : Bool × List (List Nat × List Nat):=(true,[([],[]),([0],[0]),([],[]),([2],[2]),([1,3],[1,3]),([4,3],[4]),([5],[5]),([6,5],[5,6]),([7,5,5],[5,7]),([8],[8]),([9,8],[8,9]),([10,8,8],[8,10]),([11],[11]),([12,11],[11,12]),([13,11],[11,13]),([11,14,8],[8,11,14]),([8,15,5],[5,8,15]),([5,16],[5,16]),([17,11],[17]),([18],[18]),([18],[18]),([19,20,18,18],[18,19,20]),([21,18],[18,21]),([18,22],[18,22]),([23,21],[23]),([24],[24]),([24],[24]),([25,26,24,24],[24,25,26]),([24],[24]),([24],[24]),([28,29,27,24],[24,28,29]),([27,30,24],[24,27,30]),([24,31],[24,31])])
def ratlinelaw09_EditBack.B5 : List Nat:=[0,1,0,4,15,31,63,127,255,511,1023,2047,4095,8191,16383,32767,65535,131071,262143,524287,524287,2097151,4194303,8388607,16777215,33554431,33554431,134217727,33554431,33554431,1073741823,2147483647,4294967295]
theorem ratlinelaw09_EditBack.tab5 : rtab .any (opsOf Try.f10 5) = ratlinelaw09_EditBack.T5:=by kernel_rfl
theorem ratlinelaw09_EditBack.bits5 : waitsOk ratlinelaw09_EditBack.T5.2 ratlinelaw09_EditBack.B5 = true:=by kernel_rfl
def ratlinelaw09_EditBack.T9 : Bool × List (List Nat × List Nat):=(true,[([],[]),([0],[0]),([1],[1]),([2],[2]),([2],[2]),([3,4,2,2],[2,3,4]),([5,2],[2,5]),([2,6],[2,6]),([7,5],[7]),([8],[8]),([9,8],[8,9]),([10,8,8],[8,10]),([11],[11]),([11],[11]),([12,13,11,11],[11,12,13]),([11],[11]),([11],[11]),([15,16,14,11],[11,15,16]),([14,17,11],[11,14,17]),([11,18,8],[8,11,18]),([8,19],[8,19])])
def ratlinelaw09_EditBack.B9 : List Nat:=[0,1,3,7,7,31,63,127,255,511,1023,2047,4095,4095,16383,4095,4095,131071,262143,524287,1048575]
theorem ratlinelaw09_EditBack.tab9 : rtab .any (opsOf Try.f10 9) = ratlinelaw09_EditBack.T9:=by kernel_rfl
theorem ratlinelaw09_EditBack.bits9 : waitsOk ratlinelaw09_EditBack.T9.2 ratlinelaw09_EditBack.B9 = true:=by kernel_rfl
end Go.Proofs.Ytlaihdipagejfaa.P

end

section
namespace Go.Proofs.Ytlaihdipagejfaa.P
open Go.RowKit Go.Proofs.YtlaihdipagejfaaG Go.Proofs.YtlaihdipagejfaaW.PrintWords Go.Proofs.YtlaihdipagejfaaW.PrintLast Go.Proofs.YtlaihdipagejfaaW.PrintMore
attribute [local go_sem] str_gtr str_geq str_leq max2_int min2_int max_two min_two max_three min_three max_four min_four   -- for this text's walks alone
set_option linter.unusedVariables false
set_option linter.unusedSimpArgs false

open ratlinelaw09_EditBack
set_option linter.unusedVariables false
set_option linter.unusedSimpArgs false
abbrev aW := @pw_below_drewN
abbrev aA := @below_alloc
abbrev aD := @below_drew1
abbrev aV := @Kd.V_elder'
abbrev aQ := @Kd.R_reads'
abbrev aO := @Kd.V_reads'
abbrev aF := @blk_frozen
abbrev aZ := @below_size
abbrev aT := @below_step
abbrev aP := @Kd.R_types
abbrev aG := @Kd.C_drewN
abbrev aH := @Kd.C_alloc
abbrev aK := @Aside0.mk
abbrev aS := @below_set
abbrev aB := @blk_below
abbrev aM := @Kd.R_mono
abbrev aN := @Kd.V_mono
abbrev aI := @Kd.C_drew
abbrev aJ := @Kd.R_base
abbrev aC := @blk_cell
abbrev aY := @Kd.R_far
abbrev aU := @Kd.V_far
abbrev aX := @blk_far
set_option maxHeartbeats 8000000 in
set_option maxRecDepth 100000 in
theorem ratlinelaw09_EditBack.calls (k : Nat) (P0_0_ : Nat → Prop) (A0_0 : Option Addr) (c0_0 : Nat) (l0_0 : List (S62)) (a0_1 : Int) (a0_2 : Int) (a0_3 : Int) (P1_0_ : Nat → Prop) (A1_0 : Option Addr) (c1_0 : Nat) (l1_0 : List (S62)) (a1_1 : Int) (a1_2 : Int) (a1_3 : Int) (A2 : Option Addr) (c2 : Nat) (l2 : List Int) (r : Bool) (w : World) (hs0_0 : Kd.V k62 62 w w.heap.size (fun k_ => P0_0_ k_) (.slice A0_0 l0_0.length c0_0) l0_0) (hs1_0 : Kd.V k62 62 w w.heap.size (fun k_ => P1_0_ k_) (.slice A1_0 l1_0.length c1_0) l1_0) (hr2 : Kd.C (Kd.int .u8) w A2 l2.length l2) (hc2 : l2.length ≤ c2) (h : f k l0_0 a0_1 a0_2 a0_3 l1_0 a1_1 a1_2 a1_3 l2 = some r) :
  Calls Try.prog 10 #[.agg #[.slice A0_0 l0_0.length c0_0,.int .u64 a0_1,.int .u64 a0_2,.int .u64 a0_3],.agg #[.slice A1_0 l1_0.length c1_0,.int .u64 a1_1,.int .u64 a1_2,.int .u64 a1_3],.slice A2 l2.length c2] w fun e w' => e = .returned (.bool r) ∧ Below w.heap.size w w':=by
 have hu54:=Try.underlying54
 have HO0_0:=aK (show Kd.V k62 62 w w.heap.size (fun k_ => ((P0_0_ k_ ∨ P1_0_ k_) ∨ w.heap.size ≤ k_)) (.slice A0_0 l0_0.length c0_0) l0_0 from aN hs0_0 (fun k_ hk => .inl (.inl hk)))
 have HO1_0:=aK (show Kd.V k62 62 w w.heap.size (fun k_ => ((P0_0_ k_ ∨ P1_0_ k_) ∨ w.heap.size ≤ k_)) (.slice A1_0 l1_0.length c1_0) l1_0 from aN hs1_0 (fun k_ hk => .inl (.inr hk)))
 have HR2:=aK hr2
 have HC2:=aK hc2
 clear hr2 hc2
 have HB:=aK (Below.refl w.heap.size w)
 have H : ((ratlinelaw09_Few.f k (([(⟨l0_0,a0_1,a0_2,a0_3⟩ : S54),(⟨l1_0,a1_1,a1_2,a1_3⟩ : S54)] : List (S54)))).bind fun t367 => (if t367 = true then (j0 k l2 (decide ((l2.length : Int) > 600)) l0_0 a0_1 a0_2 a0_3 l1_0 a1_1 a1_2 a1_3) else (j0 k l2 true l0_0 a0_1 a0_2 a0_3 l1_0 a1_1 a1_2 a1_3))) = some r:=h
 clear h
 have HC4:=aK H
 clear H
 go_enter Try.func10,Try.ntmps10
 go_upto_region 1 with (first|((with_reducible refine gate_dst (N:=3) rfl ?_);(try (refine gate_guard (by rfl) ?_;dsimp only));refine box_event ?hg (N:=3) ?hd (cs:=#[.slice A0_0 l0_0.length c0_0,.int .u64 a0_1,.int .u64 a0_2,.int .u64 a0_3]) (t:=54) ?hr ?_;(case hd => rfl);(case hg => rfl);(case hr => first|(go_simp;done)|(go_simp;rfl));intro gb362 hg w5 hbox hb;have n0_:=aK (Kd.V_below (Kd.V_elderB (by (with_reducible repeat (first|apply vA|apply vN|apply vD));exact HO0_0.out) gb362 (Nat.le_of_eq hg.symm)) hb);have n1_:=aK (Kd.V_below (Kd.V_elderB (by (with_reducible repeat (first|apply vA|apply vN|apply vD));exact HO1_0.out) gb362 (Nat.le_of_eq hg.symm)) hb);have n2_:=aK (aT (by repeat (first|(with_reducible first|exact HB.out|apply aA|apply aW|apply aD)|exact HB.out)) hb);have n3_:=aK (hbox);have n4_:=aK ((by rw [hg];exact (aZ (by repeat (first|(with_reducible first|exact HB.out|apply aA|apply aW|apply aD)|exact HB.out))) : w.heap.size ≤ gb362));have n5_:=aK ((by rw [hg];exact (aZ (by repeat (first|(with_reducible first|exact HB.out|apply aA|apply aW|apply aD)|exact HB.out))) : w.heap.size ≤ gb362));clear HO0_0;clear HO1_0;clear HB;have HO0_0:=n0_;have HO1_0:=n1_;have HB:=n2_;have B362:=n3_;have W362:=n4_;have E362:=n5_;clear n0_ n1_ n2_ n3_ n4_ n5_;clear hb hbox hg)|((with_reducible refine gate_dst (N:=4) rfl ?_);(try (refine gate_guard (by rfl) ?_;dsimp only));refine box_event ?hg (N:=4) ?hd (cs:=#[.slice A1_0 l1_0.length c1_0,.int .u64 a1_1,.int .u64 a1_2,.int .u64 a1_3]) (t:=54) ?hr ?_;(case hd => rfl);(case hg => rfl);(case hr => first|(go_simp;done)|(go_simp;rfl));intro gb363 hg w6 hbox hb;have n0_:=aK (Kd.V_below (Kd.V_elderB (by (with_reducible repeat (first|apply vA|apply vN|apply vD));exact HO0_0.out) gb363 (Nat.le_of_eq hg.symm)) hb);have n1_:=aK (Kd.V_below (Kd.V_elderB (by (with_reducible repeat (first|apply vA|apply vN|apply vD));exact HO1_0.out) gb363 (Nat.le_of_eq hg.symm)) hb);have n2_:=aK (aB (g:=gb362) (o:=.cells #[.slice A0_0 l0_0.length c0_0,.int .u64 a0_1,.int .u64 a0_2,.int .u64 a0_3] 54 (0,0)) (by (with_reducible repeat (first|refine bN ?_ _|refine bD ?_|refine bA ?_ _));exact B362.out) hb);have n3_:=aK (aT (by repeat (first|(with_reducible first|exact HB.out|apply aA|apply aW|apply aD|refine aS ?_ E362.out)|exact HB.out)) hb);have n4_:=aK (hbox);have n5_:=aK ((by rw [hg];exact (aZ (by repeat (first|(with_reducible first|exact HB.out|apply aA|apply aW|apply aD|refine aS ?_ E362.out)|exact HB.out))) : w.heap.size ≤ gb363));have n6_:=aK ((by rw [hg];exact (aZ (by repeat (first|(with_reducible first|exact HB.out|apply aA|apply aW|apply aD|refine aS ?_ E362.out)|exact HB.out))) : w.heap.size ≤ gb363));have n7_:=aK ((by rw [hg];exact Nat.ne_of_lt (blk_lt (g:=gb362) (o:=.cells #[.slice A0_0 l0_0.length c0_0,.int .u64 a0_1,.int .u64 a0_2,.int .u64 a0_3] 54 (0,0)) (by (with_reducible repeat (first|refine bN ?_ _|refine bD ?_|refine bA ?_ _));exact B362.out)) : gb362 ≠ gb363));have n8_:=aK ((by rw [hg];exact Nat.ne_of_gt (blk_lt (g:=gb362) (o:=.cells #[.slice A0_0 l0_0.length c0_0,.int .u64 a0_1,.int .u64 a0_2,.int .u64 a0_3] 54 (0,0)) (by (with_reducible repeat (first|refine bN ?_ _|refine bD ?_|refine bA ?_ _));exact B362.out)) : gb363 ≠ gb362));clear HO0_0;clear HO1_0;clear B362;clear HB;have HO0_0:=n0_;have HO1_0:=n1_;have B362:=n2_;have HB:=n3_;have B363:=n4_;have W363:=n5_;have E363:=n6_;have N362_363:=n7_;have N363_362:=n8_;clear n0_ n1_ n2_ n3_ n4_ n5_ n6_ n7_ n8_;clear hb hbox hg))
 (try simp only [Act.put,sA,sZ,sS])
 go_cut [26] (fun v26 wc => ∃ (kq : Nat) (x26_3 : Bool),v26 = .bool x26_3 ∧ Aside0 (j0 kq l2 x26_3 l0_0 a0_1 a0_2 a0_3 l1_0 a1_1 a1_2 a1_3 = some r) ∧ Aside0 (kq ≤ k) ∧ Aside0 (Kd.V k62 62 wc w.heap.size (fun k_ => ((P0_0_ k_ ∨ P1_0_ k_) ∨ w.heap.size ≤ k_) ∧ k_ ≠ gb362 ∧ k_ ≠ gb363) (.slice A0_0 l0_0.length c0_0) l0_0) ∧ Aside0 (Kd.V k62 62 wc w.heap.size (fun k_ => ((P0_0_ k_ ∨ P1_0_ k_) ∨ w.heap.size ≤ k_) ∧ k_ ≠ gb362 ∧ k_ ≠ gb363) (.slice A1_0 l1_0.length c1_0) l1_0) ∧ Aside0 (wc.heap[gb362]? = some (.cells #[(.slice A0_0 l0_0.length c0_0),.int .u64 a0_1,.int .u64 a0_2,.int .u64 a0_3] 54 (0,0))) ∧ Aside0 (wc.heap[gb363]? = some (.cells #[(.slice A1_0 l1_0.length c1_0),.int .u64 a1_1,.int .u64 a1_2,.int .u64 a1_3] 54 (0,0))) ∧ Aside0 (Below w.heap.size w wc))
 case first =>
  have H:=HC4.out
  clear HC4
  obtain ⟨y364,hy364⟩ : ∃ y_ : List (S54),y_ = (([(⟨l0_0,a0_1,a0_2,a0_3⟩ : S54),(⟨l1_0,a1_1,a1_2,a1_3⟩ : S54)] : List (S54))):=⟨_,rfl⟩
  replace H : ((ratlinelaw09_Few.f k y364).bind fun t367 => (if t367 = true then (j0 k l2 (decide ((l2.length : Int) > 600)) l0_0 a0_1 a0_2 a0_3 l1_0 a1_1 a1_2 a1_3) else (j0 k l2 true l0_0 a0_1 a0_2 a0_3 l1_0 a1_1 a1_2 a1_3))) = some r:=by first|(rw [hy364];with_reducible exact H)|(have H2_:=(Option.bind_some _ _).symm.trans H;rw [hy364];with_reducible exact H2_)|(have H2_:=(Option.bind_some _ _).symm.trans H;with_reducible exact H2_)|with_reducible exact H|(rw [hy364];exact H)|exact H
  have Ny364:=aK hy364
  clear hy364
  replace H:=Option.bind_eq_some_iff.mp H
  obtain ⟨t367,A70,H⟩:=H
  replace H : (if t367 = true then (j0 k l2 (decide ((l2.length : Int) > 600)) l0_0 a0_1 a0_2 a0_3 l1_0 a1_1 a1_2 a1_3) else (j0 k l2 true l0_0 a0_1 a0_2 a0_3 l1_0 a1_1 a1_2 a1_3)) = some r:=H
  have A7:=aK A70
  clear A70
  by_cases c8 : t367 = true
  ·subst c8
   have H1 : (j0 k l2 (decide ((l2.length : Int) > 600)) l0_0 a0_1 a0_2 a0_3 l1_0 a1_1 a1_2 a1_3) = some r:=by rw [if_pos rfl] at H;exact H
   clear H
   have H:=H1
   clear H1
   have H':=aK H
   clear H
   have hnb9:=N362_363.out
   have hnc9:=N363_362.out
   have z10_0 : w6.cell? ⟨gb362,0,none⟩ = some (.slice A0_0 l0_0.length c0_0):=(aC B362.out 0).trans rfl
   have z10_1 : w6.cell? ⟨gb362,1,none⟩ = some (.int .u64 a0_1):=(aC B362.out 1).trans rfl
   have z10_2 : w6.cell? ⟨gb362,2,none⟩ = some (.int .u64 a0_2):=(aC B362.out 2).trans rfl
   have z10_3 : w6.cell? ⟨gb362,3,none⟩ = some (.int .u64 a0_3):=(aC B362.out 3).trans rfl
   have f10_0:=aF B362.out 0
   have f10_1:=aF B362.out 1
   have f10_2:=aF B362.out 2
   have f10_3:=aF B362.out 3
   have z11_0 : w6.cell? ⟨gb363,0,none⟩ = some (.slice A1_0 l1_0.length c1_0):=(aC B363.out 0).trans rfl
   have z11_1 : w6.cell? ⟨gb363,1,none⟩ = some (.int .u64 a1_1):=(aC B363.out 1).trans rfl
   have z11_2 : w6.cell? ⟨gb363,2,none⟩ = some (.int .u64 a1_2):=(aC B363.out 2).trans rfl
   have z11_3 : w6.cell? ⟨gb363,3,none⟩ = some (.int .u64 a1_3):=(aC B363.out 3).trans rfl
   have f11_0:=aF B363.out 0
   have f11_1:=aF B363.out 1
   have f11_2:=aF B363.out 2
   have f11_3:=aF B363.out 3
   go_wp2_with (first|((with_reducible refine gate_dst (N:=19) rfl ?_);(try (refine gate_guard (by rfl) ?_;dsimp only));refine Kd.N_lit k54 _ 54 ?hg (N':=19) ?hd (xs:=([(⟨l0_0,a0_1,a0_2,a0_3⟩ : S54),(⟨l1_0,a1_1,a1_2,a1_3⟩ : S54)] : List (S54))) (inner:=[.slice A0_0 l0_0.length c0_0,.int .u64 a0_1,.int .u64 a0_2,.int .u64 a0_3,.slice A1_0 l1_0.length c1_0,.int .u64 a1_1,.int .u64 a1_2,.int .u64 a1_3]) (ok:=(fun k_ => ((P0_0_ k_ ∨ P1_0_ k_) ∨ w.heap.size ≤ k_) ∧ k_ ≠ gb362 ∧ k_ ≠ gb363)) (okp:=(fun k_ => ((P0_0_ k_ ∨ P1_0_ k_) ∨ w.heap.size ≤ k_) ∧ k_ ≠ gb362 ∧ k_ ≠ gb363)) ?hr ?hp (fun _ hk => hk) ((show ∀ k_,w6.heap.size ≤ k_ → (fun k_ => ((P0_0_ k_ ∨ P1_0_ k_) ∨ w.heap.size ≤ k_) ∧ k_ ≠ gb362 ∧ k_ ≠ gb363) k_ from fun k_ hk => ⟨(.inr (Nat.le_trans (aZ (by repeat (first|(with_reducible first|exact HB.out|apply aA|apply aW|apply aD|refine aS ?_ E362.out|refine aS ?_ E363.out)|exact HB.out))) hk)),Kd.freshB (g:=gb362) (o:=.cells #[.slice A0_0 l0_0.length c0_0,.int .u64 a0_1,.int .u64 a0_2,.int .u64 a0_3] 54 (0,0)) (by (with_reducible repeat (first|refine bN ?_ _|refine bD ?_|refine bA ?_ _));exact B362.out) k_ hk,Kd.freshB (g:=gb363) (o:=.cells #[.slice A1_0 l1_0.length c1_0,.int .u64 a1_1,.int .u64 a1_2,.int .u64 a1_3] 54 (0,0)) (by (with_reducible repeat (first|refine bN ?_ _|refine bD ?_|refine bA ?_ _));exact B363.out) k_ hk⟩) _ (Nat.le_refl _)) (Below.refl _ _) (Nat.le_refl _) (by simp) ?_;(case hd => rfl);(case hg => rfl);(case hr => first|(go_simp;done)|(go_simp;rfl));(case hp => exact (Reps.c4 (show Kd.FK k54 _ _ (⟨l0_0,a0_1,a0_2,a0_3⟩ : S54) [.slice A0_0 l0_0.length c0_0,.int .u64 a0_1,.int .u64 a0_2,.int .u64 a0_3] from (k54_mkF _ _ (⟨l0_0,a0_1,a0_2,a0_3⟩ : S54) (aO (aN (ok':=(fun k_ => ((P0_0_ k_ ∨ P1_0_ k_) ∨ w.heap.size ≤ k_) ∧ k_ ≠ gb362 ∧ k_ ≠ gb363)) (HO0_0.out) (fun k_ hk => ⟨hk.1.1,⟨hk.1.2,hk.2⟩⟩))).2.1 (Kd.V_F (aN (ok':=(fun k_ => ((P0_0_ k_ ∨ P1_0_ k_) ∨ w.heap.size ≤ k_) ∧ k_ ≠ gb362 ∧ k_ ≠ gb363)) (HO0_0.out) (fun k_ hk => ⟨hk.1.1,⟨hk.1.2,hk.2⟩⟩))))) (Reps.c4 (show Kd.FK k54 _ _ (⟨l1_0,a1_1,a1_2,a1_3⟩ : S54) [.slice A1_0 l1_0.length c1_0,.int .u64 a1_1,.int .u64 a1_2,.int .u64 a1_3] from (k54_mkF _ _ (⟨l1_0,a1_1,a1_2,a1_3⟩ : S54) (aO (aN (ok':=(fun k_ => ((P0_0_ k_ ∨ P1_0_ k_) ∨ w.heap.size ≤ k_) ∧ k_ ≠ gb362 ∧ k_ ≠ gb363)) (HO1_0.out) (fun k_ hk => ⟨hk.1.1,⟨hk.1.2,hk.2⟩⟩))).2.1 (Kd.V_F (aN (ok':=(fun k_ => ((P0_0_ k_ ∨ P1_0_ k_) ∨ w.heap.size ≤ k_) ∧ k_ ≠ gb362 ∧ k_ ≠ gb363)) (HO1_0.out) (fun k_ hk => ⟨hk.1.1,⟨hk.1.2,hk.2⟩⟩))))) (Reps.none _ _))));intro v365 w12 ho13 hb hg_ hnew_;clear hg_ hnew_;(first|rw [← Ny364.out] at ho13|(simp only [Int.reduceToNat] at ho13;rw [← Ny364.out] at ho13));have n0_:=aK (aV (by (with_reducible repeat (first|apply vA|apply vN|apply vD));exact HO0_0.out) (Kd.N_base ho13) hb);have n1_:=aK (aV (by (with_reducible repeat (first|apply vA|apply vN|apply vD));exact HO1_0.out) (Kd.N_base ho13) hb);have n2_:=aK (Kd.N_lower ho13 (aZ (by repeat (first|(with_reducible first|exact HB.out|apply aA|apply aW|apply aD|refine aS ?_ E362.out|refine aS ?_ E363.out)|exact HB.out))));have n3_:=aK (aB (g:=gb362) (o:=.cells #[.slice A0_0 l0_0.length c0_0,.int .u64 a0_1,.int .u64 a0_2,.int .u64 a0_3] 54 (0,0)) (by (with_reducible repeat (first|refine bN ?_ _|refine bD ?_|refine bA ?_ _));exact B362.out) hb);have n4_:=aK (aB (g:=gb363) (o:=.cells #[.slice A1_0 l1_0.length c1_0,.int .u64 a1_1,.int .u64 a1_2,.int .u64 a1_3] 54 (0,0)) (by (with_reducible repeat (first|refine bN ?_ _|refine bD ?_|refine bA ?_ _));exact B363.out) hb);have n5_:=aK (aT (by repeat (first|(with_reducible first|exact HB.out|apply aA|apply aW|apply aD|refine aS ?_ E362.out|refine aS ?_ E363.out)|exact HB.out)) hb);clear HO0_0;clear HO1_0;clear B362;clear B363;clear HB;have HO0_0:=n0_;have HO1_0:=n1_;have O366:=n2_;have B362:=n3_;have B363:=n4_;have HB:=n5_;clear n0_ n1_ n2_ n3_ n4_ n5_;clear hb ho13;obtain ⟨Ao14,co14,eo14⟩:=Kd.N_slice O366.out;subst eo14)|((with_reducible refine gate_callee (f:=30) rfl ?_);refine goesL_ (some 20) rfl rfl Try.func30 (by kernel_rfl) rfl #[.slice Ao14 y364.length co14] rfl (by (try simp only [List.map_toArray,List.map_cons,List.map_nil]);first|done|rfl|(simp only [List.length_drop,List.length_take];rfl)) ?_;(with_reducible refine (ratlinelaw09_Few.calls k _ _ y364 true _ ?side1 ?side2 A7.out).mono ?_);(case side1 => repeat (first|exact (Kd.N_reads' O366.out).2.2|(with_reducible refine aH ?_ _)|(with_reducible refine aG ?_ _)|(with_reducible refine aI ?_)));(case side2 => exact (Kd.N_reads' O366.out).2.1);rintro e w15 ⟨rfl,hb⟩;refine ⟨_,rfl,?_⟩;have n0_:=aK (Kd.V_below (by (with_reducible repeat (first|apply vA|apply vN|apply vD));exact HO0_0.out) hb);have n1_:=aK (Kd.V_below (by (with_reducible repeat (first|apply vA|apply vN|apply vD));exact HO1_0.out) hb);have n2_:=aK (Kd.N_below (by (with_reducible repeat (first|apply nA|apply nN|apply nD));exact O366.out) hb);have n3_:=aK (aB (g:=gb362) (o:=.cells #[.slice A0_0 l0_0.length c0_0,.int .u64 a0_1,.int .u64 a0_2,.int .u64 a0_3] 54 (0,0)) (by (with_reducible repeat (first|refine bN ?_ _|refine bD ?_|refine bA ?_ _));exact B362.out) hb);have n4_:=aK (aB (g:=gb363) (o:=.cells #[.slice A1_0 l1_0.length c1_0,.int .u64 a1_1,.int .u64 a1_2,.int .u64 a1_3] 54 (0,0)) (by (with_reducible repeat (first|refine bN ?_ _|refine bD ?_|refine bA ?_ _));exact B363.out) hb);have n5_:=aK (aT (by repeat (first|(with_reducible first|exact HB.out|apply aA|apply aW|apply aD|refine aS ?_ E362.out|refine aS ?_ E363.out)|exact HB.out)) hb);clear HO0_0;clear HO1_0;clear O366;clear B362;clear B363;clear HB;have HO0_0:=n0_;have HO1_0:=n1_;have O366:=n2_;have B362:=n3_;have B363:=n4_;have HB:=n5_;clear n0_ n1_ n2_ n3_ n4_ n5_;(try clear hb);skip))
   go_meet
   case rel => exact ⟨_,(decide ((l2.length : Int) > 600)),(by first|rfl|(simp;done)|(simp [*];done)),H',⟨by first|omega|exact Nat.le_refl _⟩,⟨by (with_reducible repeat (first|apply vA|apply vN|apply vD));exact aN HO0_0.out (fun _ hk => ⟨hk.1.1.1,⟨hk.1.1.2,hk.1.2⟩⟩)⟩,⟨by (with_reducible repeat (first|apply vA|apply vN|apply vD));exact aN HO1_0.out (fun _ hk => ⟨hk.1.1.1,⟨hk.1.1.2,hk.1.2⟩⟩)⟩,⟨by (with_reducible repeat (first|refine bN ?_ _|refine bD ?_|refine bA ?_ _));exact B362.out⟩,⟨by (with_reducible repeat (first|refine bN ?_ _|refine bD ?_|refine bA ?_ _));exact B363.out⟩,⟨by repeat (first|(with_reducible first|exact HB.out|apply aA|apply aW|apply aD|refine aS ?_ E362.out|refine aS ?_ E363.out)|exact HB.out)⟩⟩
  ·replace c8:=Bool.eq_false_iff.mpr c8
   subst c8
   have H1 : (j0 k l2 true l0_0 a0_1 a0_2 a0_3 l1_0 a1_1 a1_2 a1_3) = some r:=by rw [if_neg (show ¬ (false = true) by decide)] at H;exact H
   clear H
   have H:=H1
   clear H1
   have H':=aK H
   clear H
   have hnb16:=N362_363.out
   have hnc16:=N363_362.out
   have z17_0 : w6.cell? ⟨gb362,0,none⟩ = some (.slice A0_0 l0_0.length c0_0):=(aC B362.out 0).trans rfl
   have z17_1 : w6.cell? ⟨gb362,1,none⟩ = some (.int .u64 a0_1):=(aC B362.out 1).trans rfl
   have z17_2 : w6.cell? ⟨gb362,2,none⟩ = some (.int .u64 a0_2):=(aC B362.out 2).trans rfl
   have z17_3 : w6.cell? ⟨gb362,3,none⟩ = some (.int .u64 a0_3):=(aC B362.out 3).trans rfl
   have f17_0:=aF B362.out 0
   have f17_1:=aF B362.out 1
   have f17_2:=aF B362.out 2
   have f17_3:=aF B362.out 3
   have z18_0 : w6.cell? ⟨gb363,0,none⟩ = some (.slice A1_0 l1_0.length c1_0):=(aC B363.out 0).trans rfl
   have z18_1 : w6.cell? ⟨gb363,1,none⟩ = some (.int .u64 a1_1):=(aC B363.out 1).trans rfl
   have z18_2 : w6.cell? ⟨gb363,2,none⟩ = some (.int .u64 a1_2):=(aC B363.out 2).trans rfl
   have z18_3 : w6.cell? ⟨gb363,3,none⟩ = some (.int .u64 a1_3):=(aC B363.out 3).trans rfl
   have f18_0:=aF B363.out 0
   have f18_1:=aF B363.out 1
   have f18_2:=aF B363.out 2
   have f18_3:=aF B363.out 3
   go_wp2_with (first|((with_reducible refine gate_dst (N:=19) rfl ?_);(try (refine gate_guard (by rfl) ?_;dsimp only));refine Kd.N_lit k54 _ 54 ?hg (N':=19) ?hd (xs:=([(⟨l0_0,a0_1,a0_2,a0_3⟩ : S54),(⟨l1_0,a1_1,a1_2,a1_3⟩ : S54)] : List (S54))) (inner:=[.slice A0_0 l0_0.length c0_0,.int .u64 a0_1,.int .u64 a0_2,.int .u64 a0_3,.slice A1_0 l1_0.length c1_0,.int .u64 a1_1,.int .u64 a1_2,.int .u64 a1_3]) (ok:=(fun k_ => ((P0_0_ k_ ∨ P1_0_ k_) ∨ w.heap.size ≤ k_) ∧ k_ ≠ gb362 ∧ k_ ≠ gb363)) (okp:=(fun k_ => ((P0_0_ k_ ∨ P1_0_ k_) ∨ w.heap.size ≤ k_) ∧ k_ ≠ gb362 ∧ k_ ≠ gb363)) ?hr ?hp (fun _ hk => hk) ((show ∀ k_,w6.heap.size ≤ k_ → (fun k_ => ((P0_0_ k_ ∨ P1_0_ k_) ∨ w.heap.size ≤ k_) ∧ k_ ≠ gb362 ∧ k_ ≠ gb363) k_ from fun k_ hk => ⟨(.inr (Nat.le_trans (aZ (by repeat (first|(with_reducible first|exact HB.out|apply aA|apply aW|apply aD|refine aS ?_ E362.out|refine aS ?_ E363.out)|exact HB.out))) hk)),Kd.freshB (g:=gb362) (o:=.cells #[.slice A0_0 l0_0.length c0_0,.int .u64 a0_1,.int .u64 a0_2,.int .u64 a0_3] 54 (0,0)) (by (with_reducible repeat (first|refine bN ?_ _|refine bD ?_|refine bA ?_ _));exact B362.out) k_ hk,Kd.freshB (g:=gb363) (o:=.cells #[.slice A1_0 l1_0.length c1_0,.int .u64 a1_1,.int .u64 a1_2,.int .u64 a1_3] 54 (0,0)) (by (with_reducible repeat (first|refine bN ?_ _|refine bD ?_|refine bA ?_ _));exact B363.out) k_ hk⟩) _ (Nat.le_refl _)) (Below.refl _ _) (Nat.le_refl _) (by simp) ?_;(case hd => rfl);(case hg => rfl);(case hr => first|(go_simp;done)|(go_simp;rfl));(case hp => exact (Reps.c4 (show Kd.FK k54 _ _ (⟨l0_0,a0_1,a0_2,a0_3⟩ : S54) [.slice A0_0 l0_0.length c0_0,.int .u64 a0_1,.int .u64 a0_2,.int .u64 a0_3] from (k54_mkF _ _ (⟨l0_0,a0_1,a0_2,a0_3⟩ : S54) (aO (aN (ok':=(fun k_ => ((P0_0_ k_ ∨ P1_0_ k_) ∨ w.heap.size ≤ k_) ∧ k_ ≠ gb362 ∧ k_ ≠ gb363)) (HO0_0.out) (fun k_ hk => ⟨hk.1.1,⟨hk.1.2,hk.2⟩⟩))).2.1 (Kd.V_F (aN (ok':=(fun k_ => ((P0_0_ k_ ∨ P1_0_ k_) ∨ w.heap.size ≤ k_) ∧ k_ ≠ gb362 ∧ k_ ≠ gb363)) (HO0_0.out) (fun k_ hk => ⟨hk.1.1,⟨hk.1.2,hk.2⟩⟩))))) (Reps.c4 (show Kd.FK k54 _ _ (⟨l1_0,a1_1,a1_2,a1_3⟩ : S54) [.slice A1_0 l1_0.length c1_0,.int .u64 a1_1,.int .u64 a1_2,.int .u64 a1_3] from (k54_mkF _ _ (⟨l1_0,a1_1,a1_2,a1_3⟩ : S54) (aO (aN (ok':=(fun k_ => ((P0_0_ k_ ∨ P1_0_ k_) ∨ w.heap.size ≤ k_) ∧ k_ ≠ gb362 ∧ k_ ≠ gb363)) (HO1_0.out) (fun k_ hk => ⟨hk.1.1,⟨hk.1.2,hk.2⟩⟩))).2.1 (Kd.V_F (aN (ok':=(fun k_ => ((P0_0_ k_ ∨ P1_0_ k_) ∨ w.heap.size ≤ k_) ∧ k_ ≠ gb362 ∧ k_ ≠ gb363)) (HO1_0.out) (fun k_ hk => ⟨hk.1.1,⟨hk.1.2,hk.2⟩⟩))))) (Reps.none _ _))));intro v365 w19 ho20 hb hg_ hnew_;clear hg_ hnew_;(first|rw [← Ny364.out] at ho20|(simp only [Int.reduceToNat] at ho20;rw [← Ny364.out] at ho20));have n0_:=aK (aV (by (with_reducible repeat (first|apply vA|apply vN|apply vD));exact HO0_0.out) (Kd.N_base ho20) hb);have n1_:=aK (aV (by (with_reducible repeat (first|apply vA|apply vN|apply vD));exact HO1_0.out) (Kd.N_base ho20) hb);have n2_:=aK (Kd.N_lower ho20 (aZ (by repeat (first|(with_reducible first|exact HB.out|apply aA|apply aW|apply aD|refine aS ?_ E362.out|refine aS ?_ E363.out)|exact HB.out))));have n3_:=aK (aB (g:=gb362) (o:=.cells #[.slice A0_0 l0_0.length c0_0,.int .u64 a0_1,.int .u64 a0_2,.int .u64 a0_3] 54 (0,0)) (by (with_reducible repeat (first|refine bN ?_ _|refine bD ?_|refine bA ?_ _));exact B362.out) hb);have n4_:=aK (aB (g:=gb363) (o:=.cells #[.slice A1_0 l1_0.length c1_0,.int .u64 a1_1,.int .u64 a1_2,.int .u64 a1_3] 54 (0,0)) (by (with_reducible repeat (first|refine bN ?_ _|refine bD ?_|refine bA ?_ _));exact B363.out) hb);have n5_:=aK (aT (by repeat (first|(with_reducible first|exact HB.out|apply aA|apply aW|apply aD|refine aS ?_ E362.out|refine aS ?_ E363.out)|exact HB.out)) hb);clear HO0_0;clear HO1_0;clear B362;clear B363;clear HB;have HO0_0:=n0_;have HO1_0:=n1_;have O366:=n2_;have B362:=n3_;have B363:=n4_;have HB:=n5_;clear n0_ n1_ n2_ n3_ n4_ n5_;clear hb ho20;obtain ⟨Ao21,co21,eo21⟩:=Kd.N_slice O366.out;subst eo21)|((with_reducible refine gate_callee (f:=30) rfl ?_);refine goesL_ (some 20) rfl rfl Try.func30 (by kernel_rfl) rfl #[.slice Ao21 y364.length co21] rfl (by (try simp only [List.map_toArray,List.map_cons,List.map_nil]);first|done|rfl|(simp only [List.length_drop,List.length_take];rfl)) ?_;(with_reducible refine (ratlinelaw09_Few.calls k _ _ y364 false _ ?side1 ?side2 A7.out).mono ?_);(case side1 => repeat (first|exact (Kd.N_reads' O366.out).2.2|(with_reducible refine aH ?_ _)|(with_reducible refine aG ?_ _)|(with_reducible refine aI ?_)));(case side2 => exact (Kd.N_reads' O366.out).2.1);rintro e w22 ⟨rfl,hb⟩;refine ⟨_,rfl,?_⟩;have n0_:=aK (Kd.V_below (by (with_reducible repeat (first|apply vA|apply vN|apply vD));exact HO0_0.out) hb);have n1_:=aK (Kd.V_below (by (with_reducible repeat (first|apply vA|apply vN|apply vD));exact HO1_0.out) hb);have n2_:=aK (Kd.N_below (by (with_reducible repeat (first|apply nA|apply nN|apply nD));exact O366.out) hb);have n3_:=aK (aB (g:=gb362) (o:=.cells #[.slice A0_0 l0_0.length c0_0,.int .u64 a0_1,.int .u64 a0_2,.int .u64 a0_3] 54 (0,0)) (by (with_reducible repeat (first|refine bN ?_ _|refine bD ?_|refine bA ?_ _));exact B362.out) hb);have n4_:=aK (aB (g:=gb363) (o:=.cells #[.slice A1_0 l1_0.length c1_0,.int .u64 a1_1,.int .u64 a1_2,.int .u64 a1_3] 54 (0,0)) (by (with_reducible repeat (first|refine bN ?_ _|refine bD ?_|refine bA ?_ _));exact B363.out) hb);have n5_:=aK (aT (by repeat (first|(with_reducible first|exact HB.out|apply aA|apply aW|apply aD|refine aS ?_ E362.out|refine aS ?_ E363.out)|exact HB.out)) hb);clear HO0_0;clear HO1_0;clear O366;clear B362;clear B363;clear HB;have HO0_0:=n0_;have HO1_0:=n1_;have O366:=n2_;have B362:=n3_;have B363:=n4_;have HB:=n5_;clear n0_ n1_ n2_ n3_ n4_ n5_;(try clear hb);skip))
   go_meet
   case rel => exact ⟨_,(true),(by first|rfl|(simp;done)|(simp [*];done)),H',⟨by first|omega|exact Nat.le_refl _⟩,⟨by (with_reducible repeat (first|apply vA|apply vN|apply vD));exact aN HO0_0.out (fun _ hk => ⟨hk.1.1.1,⟨hk.1.1.2,hk.1.2⟩⟩)⟩,⟨by (with_reducible repeat (first|apply vA|apply vN|apply vD));exact aN HO1_0.out (fun _ hk => ⟨hk.1.1.1,⟨hk.1.1.2,hk.1.2⟩⟩)⟩,⟨by (with_reducible repeat (first|refine bN ?_ _|refine bD ?_|refine bA ?_ _));exact B362.out⟩,⟨by (with_reducible repeat (first|refine bN ?_ _|refine bD ?_|refine bA ?_ _));exact B363.out⟩,⟨by repeat (first|(with_reducible first|exact HB.out|apply aA|apply aW|apply aD|refine aS ?_ E362.out|refine aS ?_ E363.out)|exact HB.out)⟩⟩
 case rest =>
  clear HC4
  try clear c2 p2
  try clear c16 z10_0 z10_1 z10_2 z10_3 z11_0 z11_1 z11_2 z11_3 z17_0 z17_1 z17_2 z17_3 z18_0 z18_1 z18_2 z18_3 f10_0 f10_1 f10_2 f10_3 f11_0 f11_1 f11_2 f11_3 f17_0 f17_1 f17_2 f17_3 f18_0 f18_1 f18_2 f18_3
  obtain ⟨kq,x26_3,rfl,HA,HJ3,HO_363000,HO_364000,B362,B363,HB⟩:=hcut
  cases kq with
  | zero => exact absurd HA.out (by simp [j0])
  | succ kj3 =>
   have H:=HA.out
   clear HA
   simp only [j0] at H
   by_cases c23 : x26_3 = true
   ·subst c23
    have H1 : ((ratlinelaw09_awake.f).bind fun t368 => (some t368)) = some r:=by rw [if_pos rfl] at H;exact H
    clear H
    have H:=H1
    clear H1
    replace H:=Option.bind_eq_some_iff.mp H
    obtain ⟨t368,A240,H⟩:=H
    replace H : (some t368) = some r:=H
    have A24:=aK A240
    clear A240
    obtain rfl:=Option.some.inj H
    go_wp2_with (first|(go_at_call 31;(with_reducible refine (ratlinelaw09_awake.calls  t368 _ A24.out).mono ?_);rintro e w25 ⟨rfl,hb⟩;have n0_:=aK (Kd.V_below (by (with_reducible repeat (first|apply vA|apply vN|apply vD));exact HO_363000.out) hb);have n1_:=aK (Kd.V_below (by (with_reducible repeat (first|apply vA|apply vN|apply vD));exact HO_364000.out) hb);have n2_:=aK (aB (g:=gb362) (o:=.cells #[.slice A0_0 l0_0.length c0_0,.int .u64 a0_1,.int .u64 a0_2,.int .u64 a0_3] 54 (0,0)) (by (with_reducible repeat (first|refine bN ?_ _|refine bD ?_|refine bA ?_ _));exact B362.out) hb);have n3_:=aK (aB (g:=gb363) (o:=.cells #[.slice A1_0 l1_0.length c1_0,.int .u64 a1_1,.int .u64 a1_2,.int .u64 a1_3] 54 (0,0)) (by (with_reducible repeat (first|refine bN ?_ _|refine bD ?_|refine bA ?_ _));exact B363.out) hb);have n4_:=aK (aT (by repeat (first|(with_reducible first|exact HB.out|apply aA|apply aW|apply aD|refine aS ?_ E362.out|refine aS ?_ E363.out)|exact HB.out)) hb);clear HO_363000;clear HO_364000;clear B362;clear B363;clear HB;have HO_363000:=n0_;have HO_364000:=n1_;have B362:=n2_;have B363:=n3_;have HB:=n4_;clear n0_ n1_ n2_ n3_ n4_;(try clear hb);skip;(try apply_assumption)))
    go_ret
    exact ⟨by first|rfl|(simp [errW_none,errW_some] <;> rfl)|(simp [*,errW_none,errW_some] <;> rfl),by repeat (first|(with_reducible first|exact HB.out|apply aA|apply aW|apply aD|refine aS ?_ E362.out|refine aS ?_ E363.out)|exact HB.out)⟩
   ·replace c23:=Bool.eq_false_iff.mpr c23
    subst c23
    have H1 : ((edit_Bytes.f l0_0 a0_1 a0_2 a0_3).bind fun bt369 => ((edit_Bytes.f l1_0 a1_1 a1_2 a1_3).bind fun bt373 => ((edit_Right.f kj3 l0_0 a0_1 a0_2 a0_3).bind fun t377 => (if ((bt369.2 == 0) != t377) = true then (j1 kj3 l2 bt369.1 bt369.2 bt373.1 bt373.2 true l0_0 a0_1 a0_2 a0_3 l1_0 a1_1 a1_2 a1_3) else (if bt369.2 = 0 then ((edit_Same.f kj3 l0_0 a0_1 a0_2 a0_3 l0_0 a0_1 a0_2 a0_3).bind fun t378 => (if t378 = true then ((edit_Same.f kj3 l0_0 a0_1 a0_2 a0_3 l1_0 a1_1 a1_2 a1_3).bind fun t379 => ((edit_Same.f kj3 l1_0 a1_1 a1_2 a1_3 l0_0 a0_1 a0_2 a0_3).bind fun t380 => (j1 kj3 l2 bt369.1 bt369.2 bt373.1 bt373.2 (t379 != t380) l0_0 a0_1 a0_2 a0_3 l1_0 a1_1 a1_2 a1_3))) else (j1 kj3 l2 bt369.1 bt369.2 bt373.1 bt373.2 true l0_0 a0_1 a0_2 a0_3 l1_0 a1_1 a1_2 a1_3))) else (if bt369.2 = 90 then (if (bt369.1.length : Int) = 0 then ((edit_Same.f kj3 l0_0 a0_1 a0_2 a0_3 l0_0 a0_1 a0_2 a0_3).bind fun t381 => (if t381 = true then ((edit_Same.f kj3 l0_0 a0_1 a0_2 a0_3 l1_0 a1_1 a1_2 a1_3).bind fun t382 => ((edit_Same.f kj3 l1_0 a1_1 a1_2 a1_3 l0_0 a0_1 a0_2 a0_3).bind fun t383 => (j1 kj3 l2 bt369.1 bt369.2 bt373.1 bt373.2 (t382 != t383) l0_0 a0_1 a0_2 a0_3 l1_0 a1_1 a1_2 a1_3))) else (j1 kj3 l2 bt369.1 bt369.2 bt373.1 bt373.2 true l0_0 a0_1 a0_2 a0_3 l1_0 a1_1 a1_2 a1_3))) else (j1 kj3 l2 bt369.1 bt369.2 bt373.1 bt373.2 true l0_0 a0_1 a0_2 a0_3 l1_0 a1_1 a1_2 a1_3)) else (j1 kj3 l2 bt369.1 bt369.2 bt373.1 bt373.2 true l0_0 a0_1 a0_2 a0_3 l1_0 a1_1 a1_2 a1_3))))))) = some r:=by rw [if_neg (show ¬ (false = true) by decide)] at H;exact H
    clear H
    have H:=H1
    clear H1
    replace H:=Option.bind_eq_some_iff.mp H
    obtain ⟨⟨t369,t372⟩,A260,H⟩:=H
    have A26:=aK A260
    clear A260
    replace H:=Option.bind_eq_some_iff.mp H
    obtain ⟨⟨t373,t376⟩,A270,H⟩:=H
    have A27:=aK A270
    clear A270
    have HC28:=aK H
    clear H
    have hnb29:=N362_363.out
    have hnc29:=N363_362.out
    have z30_0 : wc.cell? ⟨gb362,0,none⟩ = some (.slice A0_0 l0_0.length c0_0):=(aC B362.out 0).trans rfl
    have z30_1 : wc.cell? ⟨gb362,1,none⟩ = some (.int .u64 a0_1):=(aC B362.out 1).trans rfl
    have z30_2 : wc.cell? ⟨gb362,2,none⟩ = some (.int .u64 a0_2):=(aC B362.out 2).trans rfl
    have z30_3 : wc.cell? ⟨gb362,3,none⟩ = some (.int .u64 a0_3):=(aC B362.out 3).trans rfl
    have f30_0:=aF B362.out 0
    have f30_1:=aF B362.out 1
    have f30_2:=aF B362.out 2
    have f30_3:=aF B362.out 3
    go_upto_region 5 with (first|((with_reducible refine gate_callee (f:=34) rfl ?_);refine goesL_ (some 30) rfl rfl Try.func34 (by kernel_rfl) rfl #[.agg #[.slice A0_0 l0_0.length c0_0,.int .u64 a0_1,.int .u64 a0_2,.int .u64 a0_3]] rfl (by (try simp only [List.map_toArray,List.map_cons,List.map_nil]);first|done|rfl|(simp only [List.length_drop,List.length_take];rfl)) ?_;(with_reducible refine (edit_Bytes.calls _ _ l0_0 a0_1 a0_2 a0_3 t369 t372 _ ?side1 ?side2 A26.out).mono ?_);(case side1 => repeat (first|exact (aO HO_363000.out).2.2|(with_reducible refine aH ?_ _)|(with_reducible refine aG ?_ _)|(with_reducible refine aI ?_)));(case side2 => exact (aO HO_363000.out).2.1);rintro e w31 ⟨v370,rfl,ho0,hb⟩;refine ⟨_,rfl,?_⟩;have n0_:=aK (aV (by (with_reducible repeat (first|apply vA|apply vN|apply vD));exact HO_363000.out) (aJ ho0) hb);have n1_:=aK (aV (by (with_reducible repeat (first|apply vA|apply vN|apply vD));exact HO_364000.out) (aJ ho0) hb);have n2_:=aK (Kd.R_lower (Kd.R_newM (M:=fun k_ => (w.heap.size ≤ k_)) ho0 (aZ (by repeat (first|(with_reducible first|exact HB.out|apply aA|apply aW|apply aD|refine aS ?_ E362.out|refine aS ?_ E363.out)|exact HB.out))) (fun k_ h_ => h_)) (aZ (by repeat (first|(with_reducible first|exact HB.out|apply aA|apply aW|apply aD|refine aS ?_ E362.out|refine aS ?_ E363.out)|exact HB.out))));have n3_:=aK (aB (g:=gb362) (o:=.cells #[.slice A0_0 l0_0.length c0_0,.int .u64 a0_1,.int .u64 a0_2,.int .u64 a0_3] 54 (0,0)) (by (with_reducible repeat (first|refine bN ?_ _|refine bD ?_|refine bA ?_ _));exact B362.out) hb);have n4_:=aK (aB (g:=gb363) (o:=.cells #[.slice A1_0 l1_0.length c1_0,.int .u64 a1_1,.int .u64 a1_2,.int .u64 a1_3] 54 (0,0)) (by (with_reducible repeat (first|refine bN ?_ _|refine bD ?_|refine bA ?_ _));exact B363.out) hb);have n5_:=aK (aT (by repeat (first|(with_reducible first|exact HB.out|apply aA|apply aW|apply aD|refine aS ?_ E362.out|refine aS ?_ E363.out)|exact HB.out)) hb);clear HO_363000;clear HO_364000;clear B362;clear B363;clear HB;have HO_363000:=n0_;have HO_364000:=n1_;have O371:=n2_;have B362:=n3_;have B363:=n4_;have HB:=n5_;clear n0_ n1_ n2_ n3_ n4_ n5_;(try clear hb);skip;(try clear ho0);have z32_0 : w31.cell? ⟨gb363,0,none⟩ = some (.slice A1_0 l1_0.length c1_0):=(aC B363.out 0).trans rfl;have z32_1 : w31.cell? ⟨gb363,1,none⟩ = some (.int .u64 a1_1):=(aC B363.out 1).trans rfl;have z32_2 : w31.cell? ⟨gb363,2,none⟩ = some (.int .u64 a1_2):=(aC B363.out 2).trans rfl;have z32_3 : w31.cell? ⟨gb363,3,none⟩ = some (.int .u64 a1_3):=(aC B363.out 3).trans rfl;have f32_0:=aF B363.out 0;have f32_1:=aF B363.out 1;have f32_2:=aF B363.out 2;have f32_3:=aF B363.out 3)|((with_reducible refine gate_callee (f:=34) rfl ?_);refine goesL_ (some 35) rfl rfl Try.func34 (by kernel_rfl) rfl #[.agg #[.slice A1_0 l1_0.length c1_0,.int .u64 a1_1,.int .u64 a1_2,.int .u64 a1_3]] rfl (by (try simp only [List.map_toArray,List.map_cons,List.map_nil]);first|done|rfl|(simp only [List.length_drop,List.length_take];rfl)) ?_;(with_reducible refine (edit_Bytes.calls _ _ l1_0 a1_1 a1_2 a1_3 t373 t376 _ ?side1 ?side2 A27.out).mono ?_);(case side1 => repeat (first|exact (aO HO_364000.out).2.2|(with_reducible refine aH ?_ _)|(with_reducible refine aG ?_ _)|(with_reducible refine aI ?_)));(case side2 => exact (aO HO_364000.out).2.1);rintro e w33 ⟨v374,rfl,ho0,hb⟩;refine ⟨_,rfl,?_⟩;have n0_:=aK (aV (by (with_reducible repeat (first|apply vA|apply vN|apply vD));exact HO_363000.out) (aJ ho0) hb);have n1_:=aK (aV (by (with_reducible repeat (first|apply vA|apply vN|apply vD));exact HO_364000.out) (aJ ho0) hb);have n2_:=aK (Kd.R_elder' (by (with_reducible repeat (first|apply zA|apply zN|apply zD));exact O371.out) (aJ ho0) hb);have n3_:=aK (Kd.R_lower (Kd.R_new' (Kd.R_newM (M:=fun k_ => (w.heap.size ≤ k_)) ho0 (aZ (by repeat (first|(with_reducible first|exact HB.out|apply aA|apply aW|apply aD|refine aS ?_ E362.out|refine aS ?_ E363.out)|exact HB.out))) (fun k_ h_ => h_)) (Kd.R_lt (by (with_reducible repeat (first|apply zA|apply zN|apply zD));exact O371.out))) (aZ (by repeat (first|(with_reducible first|exact HB.out|apply aA|apply aW|apply aD|refine aS ?_ E362.out|refine aS ?_ E363.out)|exact HB.out))));have n4_:=aK (aB (g:=gb362) (o:=.cells #[.slice A0_0 l0_0.length c0_0,.int .u64 a0_1,.int .u64 a0_2,.int .u64 a0_3] 54 (0,0)) (by (with_reducible repeat (first|refine bN ?_ _|refine bD ?_|refine bA ?_ _));exact B362.out) hb);have n5_:=aK (aB (g:=gb363) (o:=.cells #[.slice A1_0 l1_0.length c1_0,.int .u64 a1_1,.int .u64 a1_2,.int .u64 a1_3] 54 (0,0)) (by (with_reducible repeat (first|refine bN ?_ _|refine bD ?_|refine bA ?_ _));exact B363.out) hb);have n6_:=aK (aT (by repeat (first|(with_reducible first|exact HB.out|apply aA|apply aW|apply aD|refine aS ?_ E362.out|refine aS ?_ E363.out)|exact HB.out)) hb);clear HO_363000;clear HO_364000;clear O371;clear B362;clear B363;clear HB;have HO_363000:=n0_;have HO_364000:=n1_;have O371:=n2_;have O375:=n3_;have B362:=n4_;have B363:=n5_;have HB:=n6_;clear n0_ n1_ n2_ n3_ n4_ n5_ n6_;(try clear hb);skip;(try clear ho0)))
    (try simp only [Act.put,sA,sZ,sS])
    go_cut [70] (fun v70 wc => ∃ (kq : Nat) (x70_27 : Bool),v70 = .bool x70_27 ∧ Aside0 (j1 kq l2 t369 t372 t373 t376 x70_27 l0_0 a0_1 a0_2 a0_3 l1_0 a1_1 a1_2 a1_3 = some r) ∧ Aside0 (kq ≤ kj3) ∧ Aside0 (Kd.R (Kd.int .u8) 5 wc w.heap.size (fun k_ => (w.heap.size ≤ k_) ∧ nO k_ v374) v370 t369) ∧ Aside0 (Kd.R (Kd.int .u8) 5 wc w.heap.size (fun k_ => (w.heap.size ≤ k_) ∧ nO k_ v370) v374 t373) ∧ Aside0 (Kd.V k62 62 wc w.heap.size (fun k_ => ((P0_0_ k_ ∨ P1_0_ k_) ∨ w.heap.size ≤ k_) ∧ nO k_ v370 ∧ nO k_ v374 ∧ k_ ≠ gb362 ∧ k_ ≠ gb363) (.slice A0_0 l0_0.length c0_0) l0_0) ∧ Aside0 (Kd.V k62 62 wc w.heap.size (fun k_ => ((P0_0_ k_ ∨ P1_0_ k_) ∨ w.heap.size ≤ k_) ∧ nO k_ v370 ∧ nO k_ v374 ∧ k_ ≠ gb362 ∧ k_ ≠ gb363) (.slice A1_0 l1_0.length c1_0) l1_0) ∧ Aside0 (wc.heap[gb362]? = some (.cells #[(.slice A0_0 l0_0.length c0_0),.int .u64 a0_1,.int .u64 a0_2,.int .u64 a0_3] 54 (0,0))) ∧ Aside0 (wc.heap[gb363]? = some (.cells #[(.slice A1_0 l1_0.length c1_0),.int .u64 a1_1,.int .u64 a1_2,.int .u64 a1_3] 54 (0,0))) ∧ Aside0 (Below w.heap.size w wc))
    case first =>
     have H:=HC28.out
     clear HC28
     replace H:=Option.bind_eq_some_iff.mp H
     obtain ⟨t377,A340,H⟩:=H
     have A34:=aK A340
     clear A340
     by_cases c35 : ((t372 == 0) != t377) = true
     ·rw [if_pos c35] at H
      exact absurd H (by cases kj3 <;> simp [j1])
     ·rw [if_neg c35] at H
      have c35b0 : ((t372 == 0) != t377) = false:=by simpa using c35
      (try (have c35b1 : decide ((t372 == 0) = t377) = true:=by simpa using c35))
      (try (have c35b2 : ((t372 == 0) == t377) = true:=by simpa using c35))
      clear c35
      (first|rw [c35b0]|(simp only [i64_w,i32_w];rw [c35b0])|skip)
      by_cases c38 : t372 = 0
      ·rw [if_pos c38] at H
       have c38b0 : (t372 == 0) = true:=beq_iff_eq.mpr c38
       have hTb : (!t377) = false:=by rw [c38b0] at c35b0;revert c35b0;cases t377 <;> decide
       have c38b1 : (t372 != 0) = false:=bne_eq_false_iff_eq.mpr c38
       clear c38
       replace H:=Option.bind_eq_some_iff.mp H
       obtain ⟨t378,A390,H⟩:=H
       replace H : (if t378 = true then ((edit_Same.f kj3 l0_0 a0_1 a0_2 a0_3 l1_0 a1_1 a1_2 a1_3).bind fun t379 => ((edit_Same.f kj3 l1_0 a1_1 a1_2 a1_3 l0_0 a0_1 a0_2 a0_3).bind fun t380 => (j1 kj3 l2 t369 t372 t373 t376 (t379 != t380) l0_0 a0_1 a0_2 a0_3 l1_0 a1_1 a1_2 a1_3))) else (j1 kj3 l2 t369 t372 t373 t376 true l0_0 a0_1 a0_2 a0_3 l1_0 a1_1 a1_2 a1_3)) = some r:=H
       have A39:=aK A390
       clear A390
       by_cases c40 : t378 = true
       ·subst c40
        have H1 : ((edit_Same.f kj3 l0_0 a0_1 a0_2 a0_3 l1_0 a1_1 a1_2 a1_3).bind fun t379 => ((edit_Same.f kj3 l1_0 a1_1 a1_2 a1_3 l0_0 a0_1 a0_2 a0_3).bind fun t380 => (j1 kj3 l2 t369 t372 t373 t376 (t379 != t380) l0_0 a0_1 a0_2 a0_3 l1_0 a1_1 a1_2 a1_3))) = some r:=by rw [if_pos rfl] at H;exact H
        clear H
        have H:=H1
        clear H1
        replace H:=Option.bind_eq_some_iff.mp H
        obtain ⟨t379,A410,H⟩:=H
        replace H : ((edit_Same.f kj3 l1_0 a1_1 a1_2 a1_3 l0_0 a0_1 a0_2 a0_3).bind fun t380 => (j1 kj3 l2 t369 t372 t373 t376 (t379 != t380) l0_0 a0_1 a0_2 a0_3 l1_0 a1_1 a1_2 a1_3)) = some r:=H
        have A41:=aK A410
        clear A410
        replace H:=Option.bind_eq_some_iff.mp H
        obtain ⟨t380,A420,H⟩:=H
        replace H : (j1 kj3 l2 t369 t372 t373 t376 (t379 != t380) l0_0 a0_1 a0_2 a0_3 l1_0 a1_1 a1_2 a1_3) = some r:=H
        have A42:=aK A420
        clear A420
        have H':=aK H
        clear H
        try go_wp2
        have n0_:=aK (Kd.V_drew HO_363000.out)
        have n1_:=aK (Kd.V_drew HO_364000.out)
        have n2_:=aK (Kd.R_drew O371.out)
        have n3_:=aK (Kd.R_drew O375.out)
        have n4_:=aK (blk_drew B362.out)
        have n5_:=aK (blk_drew B363.out)
        have n6_:=aK (aD HB.out)
        clear HO_363000
        clear HO_364000
        clear O371
        clear O375
        clear B362
        clear B363
        clear HB
        have HO_363000:=n0_
        have HO_364000:=n1_
        have O371:=n2_
        have O375:=n3_
        have B362:=n4_
        have B363:=n5_
        have HB:=n6_
        clear n0_ n1_ n2_ n3_ n4_ n5_ n6_
        refine start_ (n:=33) (S:=fun w' => w'.cell? ⟨gb362,0,none⟩ = some (.slice A0_0 l0_0.length c0_0) ∧ w'.cell? ⟨gb362,1,none⟩ = some (.int .u64 a0_1) ∧ w'.cell? ⟨gb362,2,none⟩ = some (.int .u64 a0_2) ∧ w'.cell? ⟨gb362,3,none⟩ = some (.int .u64 a0_3) ∧ w'.cell? ⟨gb363,0,none⟩ = some (.slice A1_0 l1_0.length c1_0) ∧ w'.cell? ⟨gb363,1,none⟩ = some (.int .u64 a1_1) ∧ w'.cell? ⟨gb363,2,none⟩ = some (.int .u64 a1_2) ∧ w'.cell? ⟨gb363,3,none⟩ = some (.int .u64 a1_3)) (ds:=[]) #[ff,ff,ff,ff,ff,ff,ff,ff,ff,ff,ff,ff,ff,ff,ff,ff,ff,ff,ff,ff,ff,ff,ff,ff,ff,ff,ff,ff,ff,ff,ff,ff,ff] (by kernel_rfl) rfl rfl ⟨(aC B362.out 0).trans rfl,(aC B362.out 1).trans rfl,(aC B362.out 2).trans rfl,(aC B362.out 3).trans rfl,(aC B363.out 0).trans rfl,(aC B363.out 1).trans rfl,(aC B363.out 2).trans rfl,(aC B363.out 3).trans rfl⟩ (fun hHeld => ?_);refine with_tabW tab5 bits5 (fun HT_ HW_ => ?_)
        generalize w33.drew = w43 at HO_363000 HO_364000 O371 O375 B362 B363 HB hHeld ⊢
        refine pure_ (i:=0) (N:=some 38) (v:=?_) (a':=?_) #[tt,ff,ff,ff,ff,ff,ff,ff,ff,ff,ff,ff,ff,ff,ff,ff,ff,ff,ff,ff,ff,ff,ff,ff,ff,ff,ff,ff,ff,ff,ff,ff,ff] rfl rfl (any_of HT_.out (by kernel_rfl)) (fun _ _ _ h => h) (Or.inl ⟨by rfl,?_⟩) ?_ ?_
        rotate_left
        ·intro w'
         go_simp
         with_reducible rfl
        rotate_left
        ·simp only [Act.put,sA,sZ,sS,i64_w,i32_w]
         rfl
        refine pure_ (i:=1) (N:=some 39) (v:=?_) (a':=?_) #[tt,tt,ff,ff,ff,ff,ff,ff,ff,ff,ff,ff,ff,ff,ff,ff,ff,ff,ff,ff,ff,ff,ff,ff,ff,ff,ff,ff,ff,ff,ff,ff,ff] rfl rfl (any_of HT_.out (by kernel_rfl)) (fun _ _ _ h => h) (Or.inl ⟨by rfl,?_⟩) ?_ ?_
        rotate_left
        ·intro w'
         go_simp
         with_reducible rfl
        rotate_left
        ·simp only [Act.put,sA,sZ,sS,i64_w,i32_w]
         rfl
        refine take_ (i:=2) (N:=some 40) (v:=?_) (a':=?_) #[tt,tt,tt,ff,ff,ff,ff,ff,ff,ff,ff,ff,ff,ff,ff,ff,ff,ff,ff,ff,ff,ff,ff,ff,ff,ff,ff,ff,ff,ff,ff,ff,ff] rfl rfl (take_ofW HT_.out HW_.out (by kernel_rfl)) (fun _ _ _ h => h) (Or.inl ⟨by rfl,?_⟩) hHeld ?_ ?_
        rotate_left
        ·rintro w' ⟨s0,s1,s2,s3,s4,s5,s6,s7⟩
         go_simp
         with_reducible rfl
        rotate_left
        ·simp only [Act.put,sA,sZ,sS,i64_w,i32_w]
         rfl
        refine one_ (i:=3) (N:=some 41) #[tt,tt,tt,tt,ff,ff,ff,ff,ff,ff,ff,ff,ff,ff,ff,ff,ff,ff,ff,ff,ff,ff,ff,ff,ff,ff,ff,ff,ff,ff,ff,ff,ff] rfl rfl (one_of HT_.out (by kernel_rfl)) (by decide) (fun K hK => ?_)
        refine goes_ Try.func33 (by kernel_rfl) rfl #[.agg #[.slice A0_0 l0_0.length c0_0,.int .u64 a0_1,.int .u64 a0_2,.int .u64 a0_3]] (by rfl) rfl rfl (by (try simp only [List.map_toArray,List.map_cons,List.map_nil]);first|done|rfl|(simp only [List.length_drop,List.length_take];rfl)) ?_
        with_reducible refine (edit_Right.calls kj3 _ _ l0_0 a0_1 a0_2 a0_3 t377 _ ?side1 ?side2 A34.out).mono ?_
        (case side1 => repeat (first|exact (aO HO_363000.out).2.2|(with_reducible refine aH ?_ _)|(with_reducible refine aG ?_ _)|(with_reducible refine aI ?_)))
        (case side2 => exact (aO HO_363000.out).2.1)
        rintro e w44 ⟨rfl,hb⟩
        refine ⟨_,rfl,?_⟩
        have n0_:=aK (Kd.V_below (by (with_reducible repeat (first|apply vA|apply vN|apply vD));exact HO_363000.out) hb)
        have n1_:=aK (Kd.V_below (by (with_reducible repeat (first|apply vA|apply vN|apply vD));exact HO_364000.out) hb)
        have n2_:=aK (Kd.R_below (by (with_reducible repeat (first|apply zA|apply zN|apply zD));exact O371.out) hb)
        have n3_:=aK (Kd.R_below (by (with_reducible repeat (first|apply zA|apply zN|apply zD));exact O375.out) hb)
        have n4_:=aK (aB (g:=gb362) (o:=.cells #[.slice A0_0 l0_0.length c0_0,.int .u64 a0_1,.int .u64 a0_2,.int .u64 a0_3] 54 (0,0)) (by (with_reducible repeat (first|refine bN ?_ _|refine bD ?_|refine bA ?_ _));exact B362.out) hb)
        have n5_:=aK (aB (g:=gb363) (o:=.cells #[.slice A1_0 l1_0.length c1_0,.int .u64 a1_1,.int .u64 a1_2,.int .u64 a1_3] 54 (0,0)) (by (with_reducible repeat (first|refine bN ?_ _|refine bD ?_|refine bA ?_ _));exact B363.out) hb)
        have n6_:=aK (aT (by repeat (first|(with_reducible first|exact HB.out|apply aA|apply aW|apply aD|refine aS ?_ E362.out|refine aS ?_ E363.out)|exact HB.out)) hb)
        clear HO_363000
        clear HO_364000
        clear O371
        clear O375
        clear B362
        clear B363
        clear HB
        have HO_363000:=n0_
        have HO_364000:=n1_
        have O371:=n2_
        have O375:=n3_
        have B362:=n4_
        have B363:=n5_
        have HB:=n6_
        clear n0_ n1_ n2_ n3_ n4_ n5_ n6_
        (try clear hb)
        (try clear hb2)
        (try clear hk)
        (try clear hi)
        refine hK.out _ _ ⟨(aC B362.out 0).trans rfl,(aC B362.out 1).trans rfl,(aC B362.out 2).trans rfl,(aC B362.out 3).trans rfl,(aC B363.out 0).trans rfl,(aC B363.out 1).trans rfl,(aC B363.out 2).trans rfl,(aC B363.out 3).trans rfl⟩ (fun hHeld => ?_)
        clear hK K
        refine norm_ (a':=?_) ?_ ?_
        rotate_left
        ·show Act.put _ (some 41) _ = _
         simp only [Act.put,sA,sZ,sS,i64_w,i32_w]
         rfl
        refine pure_ (i:=4) (N:=some 42) (v:=?_) (a':=?_) #[tt,tt,tt,tt,tt,ff,ff,ff,ff,ff,ff,ff,ff,ff,ff,ff,ff,ff,ff,ff,ff,ff,ff,ff,ff,ff,ff,ff,ff,ff,ff,ff,ff] rfl rfl (any_of HT_.out (by kernel_rfl)) (fun _ _ _ h => h) (Or.inl ⟨by rfl,?_⟩) ?_ ?_
        rotate_left
        ·intro w'
         go_simp
         with_reducible rfl
        rotate_left
        ·simp only [Act.put,sA,sZ,sS,i64_w,i32_w]
         rfl
        simp only [hTb]
        refine pure_ (i:=5) (N:=some 43) (v:=?_) (a':=?_) #[tt,tt,tt,tt,tt,tt,ff,ff,ff,ff,ff,ff,ff,ff,ff,ff,ff,ff,ff,ff,ff,ff,ff,ff,ff,ff,ff,ff,ff,ff,ff,ff,ff] rfl rfl (any_of HT_.out (by kernel_rfl)) (fun _ _ _ h => h) (Or.inl ⟨by rfl,?_⟩) ?_ ?_
        rotate_left
        ·intro w'
         go_simp
         with_reducible rfl
        rotate_left
        ·simp only [Act.put,sA,sZ,sS,i64_w,i32_w]
         rfl
        refine pure_ (i:=6) (N:=some 44) (v:=?_) (a':=?_) #[tt,tt,tt,tt,tt,tt,tt,ff,ff,ff,ff,ff,ff,ff,ff,ff,ff,ff,ff,ff,ff,ff,ff,ff,ff,ff,ff,ff,ff,ff,ff,ff,ff] rfl rfl (any_of HT_.out (by kernel_rfl)) (fun _ _ _ h => h) (Or.inl ⟨by rfl,?_⟩) ?_ ?_
        rotate_left
        ·intro w'
         go_simp
         with_reducible rfl
        rotate_left
        ·simp only [Act.put,sA,sZ,sS,i64_w,i32_w]
         rfl
        refine pure_ (i:=7) (N:=some 45) (v:=?_) (a':=?_) #[tt,tt,tt,tt,tt,tt,tt,tt,ff,ff,ff,ff,ff,ff,ff,ff,ff,ff,ff,ff,ff,ff,ff,ff,ff,ff,ff,ff,ff,ff,ff,ff,ff] rfl rfl (any_of HT_.out (by kernel_rfl)) (fun _ _ _ h => h) (Or.inl ⟨by rfl,?_⟩) ?_ ?_
        rotate_left
        ·intro w'
         go_simp
         with_reducible rfl
        rotate_left
        ·simp only [Act.put,sA,sZ,sS,i64_w,i32_w]
         rfl
        refine pure_ (i:=8) (N:=some 46) (v:=?_) (a':=?_) #[tt,tt,tt,tt,tt,tt,tt,tt,tt,ff,ff,ff,ff,ff,ff,ff,ff,ff,ff,ff,ff,ff,ff,ff,ff,ff,ff,ff,ff,ff,ff,ff,ff] rfl rfl (any_of HT_.out (by kernel_rfl)) (fun _ _ _ h => h) (Or.inl ⟨by rfl,?_⟩) ?_ ?_
        rotate_left
        ·intro w'
         go_simp
         with_reducible rfl
        rotate_left
        ·simp only [Act.put,sA,sZ,sS,i64_w,i32_w]
         rfl
        refine pure_ (i:=9) (N:=some 47) (v:=undef) (a':=?_) #[tt,tt,tt,tt,tt,tt,tt,tt,tt,tt,ff,ff,ff,ff,ff,ff,ff,ff,ff,ff,ff,ff,ff,ff,ff,ff,ff,ff,ff,ff,ff,ff,ff] rfl rfl (any_of HT_.out (by kernel_rfl)) (fun _ _ _ h => h) (Or.inr ⟨by rfl,rfl⟩) ?_ ?_
        rotate_left
        ·simp only [Act.put,sA,sZ,sS,i64_w,i32_w]
         rfl
        refine pure_ (i:=10) (N:=some 48) (v:=undef) (a':=?_) #[tt,tt,tt,tt,tt,tt,tt,tt,tt,tt,tt,ff,ff,ff,ff,ff,ff,ff,ff,ff,ff,ff,ff,ff,ff,ff,ff,ff,ff,ff,ff,ff,ff] rfl rfl (any_of HT_.out (by kernel_rfl)) (fun _ _ _ h => h) (Or.inr ⟨by rfl,rfl⟩) ?_ ?_
        rotate_left
        ·simp only [Act.put,sA,sZ,sS,i64_w,i32_w]
         rfl
        refine pure_ (i:=11) (N:=some 49) (v:=undef) (a':=?_) #[tt,tt,tt,tt,tt,tt,tt,tt,tt,tt,tt,tt,ff,ff,ff,ff,ff,ff,ff,ff,ff,ff,ff,ff,ff,ff,ff,ff,ff,ff,ff,ff,ff] rfl rfl (any_of HT_.out (by kernel_rfl)) (fun _ _ _ h => h) (Or.inr ⟨by rfl,rfl⟩) ?_ ?_
        rotate_left
        ·simp only [Act.put,sA,sZ,sS,i64_w,i32_w]
         rfl
        refine pure_ (i:=12) (N:=some 50) (v:=undef) (a':=?_) #[tt,tt,tt,tt,tt,tt,tt,tt,tt,tt,tt,tt,tt,ff,ff,ff,ff,ff,ff,ff,ff,ff,ff,ff,ff,ff,ff,ff,ff,ff,ff,ff,ff] rfl rfl (any_of HT_.out (by kernel_rfl)) (fun _ _ _ h => h) (Or.inr ⟨by rfl,rfl⟩) ?_ ?_
        rotate_left
        ·simp only [Act.put,sA,sZ,sS,i64_w,i32_w]
         rfl
        refine pure_ (i:=13) (N:=some 51) (v:=undef) (a':=?_) #[tt,tt,tt,tt,tt,tt,tt,tt,tt,tt,tt,tt,tt,tt,ff,ff,ff,ff,ff,ff,ff,ff,ff,ff,ff,ff,ff,ff,ff,ff,ff,ff,ff] rfl rfl (any_of HT_.out (by kernel_rfl)) (fun _ _ _ h => h) (Or.inr ⟨by rfl,rfl⟩) ?_ ?_
        rotate_left
        ·simp only [Act.put,sA,sZ,sS,i64_w,i32_w]
         rfl
        refine pure_ (i:=14) (N:=some 52) (v:=undef) (a':=?_) #[tt,tt,tt,tt,tt,tt,tt,tt,tt,tt,tt,tt,tt,tt,tt,ff,ff,ff,ff,ff,ff,ff,ff,ff,ff,ff,ff,ff,ff,ff,ff,ff,ff] rfl rfl (any_of HT_.out (by kernel_rfl)) (fun _ _ _ h => h) (Or.inr ⟨by rfl,rfl⟩) ?_ ?_
        rotate_left
        ·simp only [Act.put,sA,sZ,sS,i64_w,i32_w]
         rfl
        refine pure_ (i:=15) (N:=some 53) (v:=undef) (a':=?_) #[tt,tt,tt,tt,tt,tt,tt,tt,tt,tt,tt,tt,tt,tt,tt,tt,ff,ff,ff,ff,ff,ff,ff,ff,ff,ff,ff,ff,ff,ff,ff,ff,ff] rfl rfl (any_of HT_.out (by kernel_rfl)) (fun _ _ _ h => h) (Or.inr ⟨by rfl,rfl⟩) ?_ ?_
        rotate_left
        ·simp only [Act.put,sA,sZ,sS,i64_w,i32_w]
         rfl
        refine pure_ (i:=16) (N:=some 54) (v:=?_) (a':=?_) #[tt,tt,tt,tt,tt,tt,tt,tt,tt,tt,tt,tt,tt,tt,tt,tt,tt,ff,ff,ff,ff,ff,ff,ff,ff,ff,ff,ff,ff,ff,ff,ff,ff] rfl rfl (any_of HT_.out (by kernel_rfl)) (fun _ _ _ h => h) (Or.inl ⟨by rfl,?_⟩) ?_ ?_
        rotate_left
        ·intro w'
         go_simp
         with_reducible rfl
        rotate_left
        ·simp only [Act.put,sA,sZ,sS,i64_w,i32_w]
         rfl
        refine pure_ (i:=17) (N:=some 55) (v:=?_) (a':=?_) #[tt,tt,tt,tt,tt,tt,tt,tt,tt,tt,tt,tt,tt,tt,tt,tt,tt,tt,ff,ff,ff,ff,ff,ff,ff,ff,ff,ff,ff,ff,ff,ff,ff] rfl rfl (any_of HT_.out (by kernel_rfl)) (fun _ _ _ h => h) (Or.inl ⟨by rfl,?_⟩) ?_ ?_
        rotate_left
        ·intro w'
         go_simp
         with_reducible rfl
        rotate_left
        ·simp only [Act.put,sA,sZ,sS,i64_w,i32_w]
         rfl
        refine pure_ (i:=18) (N:=some 56) (v:=?_) (a':=?_) #[tt,tt,tt,tt,tt,tt,tt,tt,tt,tt,tt,tt,tt,tt,tt,tt,tt,tt,tt,ff,ff,ff,ff,ff,ff,ff,ff,ff,ff,ff,ff,ff,ff] rfl rfl (any_of HT_.out (by kernel_rfl)) (fun _ _ _ h => h) (Or.inl ⟨by rfl,?_⟩) ?_ ?_
        rotate_left
        ·intro w'
         go_simp
         with_reducible rfl
        rotate_left
        ·simp only [Act.put,sA,sZ,sS,i64_w,i32_w]
         rfl
        refine take_ (i:=19) (N:=some 57) (v:=?_) (a':=?_) #[tt,tt,tt,tt,tt,tt,tt,tt,tt,tt,tt,tt,tt,tt,tt,tt,tt,tt,tt,tt,ff,ff,ff,ff,ff,ff,ff,ff,ff,ff,ff,ff,ff] rfl rfl (take_ofW HT_.out HW_.out (by kernel_rfl)) (fun _ _ _ h => h) (Or.inl ⟨by rfl,?_⟩) hHeld ?_ ?_
        rotate_left
        ·rintro w' ⟨s0,s1,s2,s3,s4,s5,s6,s7⟩
         go_simp
         with_reducible rfl
        rotate_left
        ·simp only [Act.put,sA,sZ,sS,i64_w,i32_w]
         rfl
        refine take_ (i:=20) (N:=some 58) (v:=?_) (a':=?_) #[tt,tt,tt,tt,tt,tt,tt,tt,tt,tt,tt,tt,tt,tt,tt,tt,tt,tt,tt,tt,tt,ff,ff,ff,ff,ff,ff,ff,ff,ff,ff,ff,ff] rfl rfl (take_ofW HT_.out HW_.out (by kernel_rfl)) (fun _ _ _ h => h) (Or.inl ⟨by rfl,?_⟩) hHeld ?_ ?_
        rotate_left
        ·rintro w' ⟨s0,s1,s2,s3,s4,s5,s6,s7⟩
         go_simp
         with_reducible rfl
        rotate_left
        ·simp only [Act.put,sA,sZ,sS,i64_w,i32_w]
         rfl
        refine one_ (i:=21) (N:=some 59) #[tt,tt,tt,tt,tt,tt,tt,tt,tt,tt,tt,tt,tt,tt,tt,tt,tt,tt,tt,tt,tt,tt,ff,ff,ff,ff,ff,ff,ff,ff,ff,ff,ff] rfl rfl (one_of HT_.out (by kernel_rfl)) (by decide) (fun K hK => ?_)
        refine goes_ Try.func36 (by kernel_rfl) rfl #[.agg #[.slice A0_0 l0_0.length c0_0,.int .u64 a0_1,.int .u64 a0_2,.int .u64 a0_3],.agg #[.slice A0_0 l0_0.length c0_0,.int .u64 a0_1,.int .u64 a0_2,.int .u64 a0_3]] (by rfl) rfl rfl (by (try simp only [List.map_toArray,List.map_cons,List.map_nil]);first|done|rfl|(simp only [List.length_drop,List.length_take];rfl)) ?_
        with_reducible refine (edit_Same.calls kj3 _ _ l0_0 a0_1 a0_2 a0_3 _ _ l0_0 a0_1 a0_2 a0_3 true _ ?side1 ?side2 ?side3 ?side4 A39.out).mono ?_
        (case side1 => repeat (first|exact (aO HO_363000.out).2.2|(with_reducible refine aH ?_ _)|(with_reducible refine aG ?_ _)|(with_reducible refine aI ?_)))
        (case side2 => exact (aO HO_363000.out).2.1)
        (case side3 => repeat (first|exact (aO HO_363000.out).2.2|(with_reducible refine aH ?_ _)|(with_reducible refine aG ?_ _)|(with_reducible refine aI ?_)))
        (case side4 => exact (aO HO_363000.out).2.1)
        rintro e w45 ⟨rfl,hb⟩
        refine ⟨_,rfl,?_⟩
        have n0_:=aK (Kd.V_below (by (with_reducible repeat (first|apply vA|apply vN|apply vD));exact HO_363000.out) hb)
        have n1_:=aK (Kd.V_below (by (with_reducible repeat (first|apply vA|apply vN|apply vD));exact HO_364000.out) hb)
        have n2_:=aK (Kd.R_below (by (with_reducible repeat (first|apply zA|apply zN|apply zD));exact O371.out) hb)
        have n3_:=aK (Kd.R_below (by (with_reducible repeat (first|apply zA|apply zN|apply zD));exact O375.out) hb)
        have n4_:=aK (aB (g:=gb362) (o:=.cells #[.slice A0_0 l0_0.length c0_0,.int .u64 a0_1,.int .u64 a0_2,.int .u64 a0_3] 54 (0,0)) (by (with_reducible repeat (first|refine bN ?_ _|refine bD ?_|refine bA ?_ _));exact B362.out) hb)
        have n5_:=aK (aB (g:=gb363) (o:=.cells #[.slice A1_0 l1_0.length c1_0,.int .u64 a1_1,.int .u64 a1_2,.int .u64 a1_3] 54 (0,0)) (by (with_reducible repeat (first|refine bN ?_ _|refine bD ?_|refine bA ?_ _));exact B363.out) hb)
        have n6_:=aK (aT (by repeat (first|(with_reducible first|exact HB.out|apply aA|apply aW|apply aD|refine aS ?_ E362.out|refine aS ?_ E363.out)|exact HB.out)) hb)
        clear HO_363000
        clear HO_364000
        clear O371
        clear O375
        clear B362
        clear B363
        clear HB
        have HO_363000:=n0_
        have HO_364000:=n1_
        have O371:=n2_
        have O375:=n3_
        have B362:=n4_
        have B363:=n5_
        have HB:=n6_
        clear n0_ n1_ n2_ n3_ n4_ n5_ n6_
        (try clear hb)
        (try clear hb2)
        (try clear hk)
        (try clear hi)
        refine hK.out _ _ ⟨(aC B362.out 0).trans rfl,(aC B362.out 1).trans rfl,(aC B362.out 2).trans rfl,(aC B362.out 3).trans rfl,(aC B363.out 0).trans rfl,(aC B363.out 1).trans rfl,(aC B363.out 2).trans rfl,(aC B363.out 3).trans rfl⟩ (fun hHeld => ?_)
        clear hK K
        refine norm_ (a':=?_) ?_ ?_
        rotate_left
        ·show Act.put _ (some 59) _ = _
         simp only [Act.put,sA,sZ,sS,i64_w,i32_w]
         rfl
        refine pure_ (i:=22) (N:=some 60) (v:=?_) (a':=?_) #[tt,tt,tt,tt,tt,tt,tt,tt,tt,tt,tt,tt,tt,tt,tt,tt,tt,tt,tt,tt,tt,tt,tt,ff,ff,ff,ff,ff,ff,ff,ff,ff,ff] rfl rfl (any_of HT_.out (by kernel_rfl)) (fun _ _ _ h => h) (Or.inl ⟨by rfl,?_⟩) ?_ ?_
        rotate_left
        ·intro w'
         go_simp
         with_reducible rfl
        rotate_left
        ·simp only [Act.put,sA,sZ,sS,i64_w,i32_w]
         rfl
        refine pure_ (i:=23) (N:=some 61) (v:=?_) (a':=?_) #[tt,tt,tt,tt,tt,tt,tt,tt,tt,tt,tt,tt,tt,tt,tt,tt,tt,tt,tt,tt,tt,tt,tt,tt,ff,ff,ff,ff,ff,ff,ff,ff,ff] rfl rfl (any_of HT_.out (by kernel_rfl)) (fun _ _ _ h => h) (Or.inl ⟨by rfl,?_⟩) ?_ ?_
        rotate_left
        ·intro w'
         go_simp
         with_reducible rfl
        rotate_left
        ·simp only [Act.put,sA,sZ,sS,i64_w,i32_w]
         rfl
        refine pure_ (i:=24) (N:=some 62) (v:=?_) (a':=?_) #[tt,tt,tt,tt,tt,tt,tt,tt,tt,tt,tt,tt,tt,tt,tt,tt,tt,tt,tt,tt,tt,tt,tt,tt,tt,ff,ff,ff,ff,ff,ff,ff,ff] rfl rfl (any_of HT_.out (by kernel_rfl)) (fun _ _ _ h => h) (Or.inl ⟨by rfl,?_⟩) ?_ ?_
        rotate_left
        ·intro w'
         go_simp
         with_reducible rfl
        rotate_left
        ·simp only [Act.put,sA,sZ,sS,i64_w,i32_w]
         rfl
        refine take_ (i:=25) (N:=some 63) (v:=?_) (a':=?_) #[tt,tt,tt,tt,tt,tt,tt,tt,tt,tt,tt,tt,tt,tt,tt,tt,tt,tt,tt,tt,tt,tt,tt,tt,tt,tt,ff,ff,ff,ff,ff,ff,ff] rfl rfl (take_ofW HT_.out HW_.out (by kernel_rfl)) (fun _ _ _ h => h) (Or.inl ⟨by rfl,?_⟩) hHeld ?_ ?_
        rotate_left
        ·rintro w' ⟨s0,s1,s2,s3,s4,s5,s6,s7⟩
         go_simp
         with_reducible rfl
        rotate_left
        ·simp only [Act.put,sA,sZ,sS,i64_w,i32_w]
         rfl
        refine take_ (i:=26) (N:=some 64) (v:=?_) (a':=?_) #[tt,tt,tt,tt,tt,tt,tt,tt,tt,tt,tt,tt,tt,tt,tt,tt,tt,tt,tt,tt,tt,tt,tt,tt,tt,tt,tt,ff,ff,ff,ff,ff,ff] rfl rfl (take_ofW HT_.out HW_.out (by kernel_rfl)) (fun _ _ _ h => h) (Or.inl ⟨by rfl,?_⟩) hHeld ?_ ?_
        rotate_left
        ·rintro w' ⟨s0,s1,s2,s3,s4,s5,s6,s7⟩
         go_simp
         with_reducible rfl
        rotate_left
        ·simp only [Act.put,sA,sZ,sS,i64_w,i32_w]
         rfl
        refine take_ (i:=28) (N:=some 66) (v:=?_) (a':=?_) #[tt,tt,tt,tt,tt,tt,tt,tt,tt,tt,tt,tt,tt,tt,tt,tt,tt,tt,tt,tt,tt,tt,tt,tt,tt,tt,tt,ff,tt,ff,ff,ff,ff] rfl rfl (take_ofW HT_.out HW_.out (by kernel_rfl)) (fun _ _ _ h => h) (Or.inl ⟨by rfl,?_⟩) hHeld ?_ ?_
        rotate_left
        ·rintro w' ⟨s0,s1,s2,s3,s4,s5,s6,s7⟩
         go_simp
         with_reducible rfl
        rotate_left
        ·simp only [Act.put,sA,sZ,sS,i64_w,i32_w]
         rfl
        refine take_ (i:=29) (N:=some 67) (v:=?_) (a':=?_) #[tt,tt,tt,tt,tt,tt,tt,tt,tt,tt,tt,tt,tt,tt,tt,tt,tt,tt,tt,tt,tt,tt,tt,tt,tt,tt,tt,ff,tt,tt,ff,ff,ff] rfl rfl (take_ofW HT_.out HW_.out (by kernel_rfl)) (fun _ _ _ h => h) (Or.inl ⟨by rfl,?_⟩) hHeld ?_ ?_
        rotate_left
        ·rintro w' ⟨s0,s1,s2,s3,s4,s5,s6,s7⟩
         go_simp
         with_reducible rfl
        rotate_left
        ·simp only [Act.put,sA,sZ,sS,i64_w,i32_w]
         rfl
        refine one_ (i:=27) (N:=some 65) #[tt,tt,tt,tt,tt,tt,tt,tt,tt,tt,tt,tt,tt,tt,tt,tt,tt,tt,tt,tt,tt,tt,tt,tt,tt,tt,tt,tt,tt,tt,ff,ff,ff] rfl rfl (one_of HT_.out (by kernel_rfl)) (by decide) (fun K hK => ?_)
        refine goes_ Try.func36 (by kernel_rfl) rfl #[.agg #[.slice A0_0 l0_0.length c0_0,.int .u64 a0_1,.int .u64 a0_2,.int .u64 a0_3],.agg #[.slice A1_0 l1_0.length c1_0,.int .u64 a1_1,.int .u64 a1_2,.int .u64 a1_3]] (by rfl) rfl rfl (by (try simp only [List.map_toArray,List.map_cons,List.map_nil]);first|done|rfl|(simp only [List.length_drop,List.length_take];rfl)) ?_
        with_reducible refine (edit_Same.calls kj3 _ _ l0_0 a0_1 a0_2 a0_3 _ _ l1_0 a1_1 a1_2 a1_3 t379 _ ?side1 ?side2 ?side3 ?side4 A41.out).mono ?_
        (case side1 => repeat (first|exact (aO HO_363000.out).2.2|(with_reducible refine aH ?_ _)|(with_reducible refine aG ?_ _)|(with_reducible refine aI ?_)))
        (case side2 => exact (aO HO_363000.out).2.1)
        (case side3 => repeat (first|exact (aO HO_364000.out).2.2|(with_reducible refine aH ?_ _)|(with_reducible refine aG ?_ _)|(with_reducible refine aI ?_)))
        (case side4 => exact (aO HO_364000.out).2.1)
        rintro e w46 ⟨rfl,hb⟩
        refine ⟨_,rfl,?_⟩
        have n0_:=aK (Kd.V_below (by (with_reducible repeat (first|apply vA|apply vN|apply vD));exact HO_363000.out) hb)
        have n1_:=aK (Kd.V_below (by (with_reducible repeat (first|apply vA|apply vN|apply vD));exact HO_364000.out) hb)
        have n2_:=aK (Kd.R_below (by (with_reducible repeat (first|apply zA|apply zN|apply zD));exact O371.out) hb)
        have n3_:=aK (Kd.R_below (by (with_reducible repeat (first|apply zA|apply zN|apply zD));exact O375.out) hb)
        have n4_:=aK (aB (g:=gb362) (o:=.cells #[.slice A0_0 l0_0.length c0_0,.int .u64 a0_1,.int .u64 a0_2,.int .u64 a0_3] 54 (0,0)) (by (with_reducible repeat (first|refine bN ?_ _|refine bD ?_|refine bA ?_ _));exact B362.out) hb)
        have n5_:=aK (aB (g:=gb363) (o:=.cells #[.slice A1_0 l1_0.length c1_0,.int .u64 a1_1,.int .u64 a1_2,.int .u64 a1_3] 54 (0,0)) (by (with_reducible repeat (first|refine bN ?_ _|refine bD ?_|refine bA ?_ _));exact B363.out) hb)
        have n6_:=aK (aT (by repeat (first|(with_reducible first|exact HB.out|apply aA|apply aW|apply aD|refine aS ?_ E362.out|refine aS ?_ E363.out)|exact HB.out)) hb)
        clear HO_363000
        clear HO_364000
        clear O371
        clear O375
        clear B362
        clear B363
        clear HB
        have HO_363000:=n0_
        have HO_364000:=n1_
        have O371:=n2_
        have O375:=n3_
        have B362:=n4_
        have B363:=n5_
        have HB:=n6_
        clear n0_ n1_ n2_ n3_ n4_ n5_ n6_
        (try clear hb)
        (try clear hb2)
        (try clear hk)
        (try clear hi)
        refine hK.out _ _ ⟨(aC B362.out 0).trans rfl,(aC B362.out 1).trans rfl,(aC B362.out 2).trans rfl,(aC B362.out 3).trans rfl,(aC B363.out 0).trans rfl,(aC B363.out 1).trans rfl,(aC B363.out 2).trans rfl,(aC B363.out 3).trans rfl⟩ (fun hHeld => ?_)
        clear hK K
        refine norm_ (a':=?_) ?_ ?_
        rotate_left
        ·show Act.put _ (some 65) _ = _
         simp only [Act.put,sA,sZ,sS,i64_w,i32_w]
         rfl
        refine one_ (i:=30) (N:=some 68) #[tt,tt,tt,tt,tt,tt,tt,tt,tt,tt,tt,tt,tt,tt,tt,tt,tt,tt,tt,tt,tt,tt,tt,tt,tt,tt,tt,tt,tt,tt,tt,ff,ff] rfl rfl (one_of HT_.out (by kernel_rfl)) (by decide) (fun K hK => ?_)
        refine goes_ Try.func36 (by kernel_rfl) rfl #[.agg #[.slice A1_0 l1_0.length c1_0,.int .u64 a1_1,.int .u64 a1_2,.int .u64 a1_3],.agg #[.slice A0_0 l0_0.length c0_0,.int .u64 a0_1,.int .u64 a0_2,.int .u64 a0_3]] (by rfl) rfl rfl (by (try simp only [List.map_toArray,List.map_cons,List.map_nil]);first|done|rfl|(simp only [List.length_drop,List.length_take];rfl)) ?_
        with_reducible refine (edit_Same.calls kj3 _ _ l1_0 a1_1 a1_2 a1_3 _ _ l0_0 a0_1 a0_2 a0_3 t380 _ ?side1 ?side2 ?side3 ?side4 A42.out).mono ?_
        (case side1 => repeat (first|exact (aO HO_364000.out).2.2|(with_reducible refine aH ?_ _)|(with_reducible refine aG ?_ _)|(with_reducible refine aI ?_)))
        (case side2 => exact (aO HO_364000.out).2.1)
        (case side3 => repeat (first|exact (aO HO_363000.out).2.2|(with_reducible refine aH ?_ _)|(with_reducible refine aG ?_ _)|(with_reducible refine aI ?_)))
        (case side4 => exact (aO HO_363000.out).2.1)
        rintro e w47 ⟨rfl,hb⟩
        refine ⟨_,rfl,?_⟩
        have n0_:=aK (Kd.V_below (by (with_reducible repeat (first|apply vA|apply vN|apply vD));exact HO_363000.out) hb)
        have n1_:=aK (Kd.V_below (by (with_reducible repeat (first|apply vA|apply vN|apply vD));exact HO_364000.out) hb)
        have n2_:=aK (Kd.R_below (by (with_reducible repeat (first|apply zA|apply zN|apply zD));exact O371.out) hb)
        have n3_:=aK (Kd.R_below (by (with_reducible repeat (first|apply zA|apply zN|apply zD));exact O375.out) hb)
        have n4_:=aK (aB (g:=gb362) (o:=.cells #[.slice A0_0 l0_0.length c0_0,.int .u64 a0_1,.int .u64 a0_2,.int .u64 a0_3] 54 (0,0)) (by (with_reducible repeat (first|refine bN ?_ _|refine bD ?_|refine bA ?_ _));exact B362.out) hb)
        have n5_:=aK (aB (g:=gb363) (o:=.cells #[.slice A1_0 l1_0.length c1_0,.int .u64 a1_1,.int .u64 a1_2,.int .u64 a1_3] 54 (0,0)) (by (with_reducible repeat (first|refine bN ?_ _|refine bD ?_|refine bA ?_ _));exact B363.out) hb)
        have n6_:=aK (aT (by repeat (first|(with_reducible first|exact HB.out|apply aA|apply aW|apply aD|refine aS ?_ E362.out|refine aS ?_ E363.out)|exact HB.out)) hb)
        clear HO_363000
        clear HO_364000
        clear O371
        clear O375
        clear B362
        clear B363
        clear HB
        have HO_363000:=n0_
        have HO_364000:=n1_
        have O371:=n2_
        have O375:=n3_
        have B362:=n4_
        have B363:=n5_
        have HB:=n6_
        clear n0_ n1_ n2_ n3_ n4_ n5_ n6_
        (try clear hb)
        (try clear hb2)
        (try clear hk)
        (try clear hi)
        refine hK.out _ _ ⟨(aC B362.out 0).trans rfl,(aC B362.out 1).trans rfl,(aC B362.out 2).trans rfl,(aC B362.out 3).trans rfl,(aC B363.out 0).trans rfl,(aC B363.out 1).trans rfl,(aC B363.out 2).trans rfl,(aC B363.out 3).trans rfl⟩ (fun hHeld => ?_)
        clear hK K
        refine norm_ (a':=?_) ?_ ?_
        rotate_left
        ·show Act.put _ (some 68) _ = _
         simp only [Act.put,sA,sZ,sS,i64_w,i32_w]
         rfl
        refine pure_ (i:=31) (N:=some 69) (v:=?_) (a':=?_) #[tt,tt,tt,tt,tt,tt,tt,tt,tt,tt,tt,tt,tt,tt,tt,tt,tt,tt,tt,tt,tt,tt,tt,tt,tt,tt,tt,tt,tt,tt,tt,tt,ff] rfl rfl (any_of HT_.out (by kernel_rfl)) (fun _ _ _ h => h) (Or.inl ⟨by rfl,?_⟩) ?_ ?_
        rotate_left
        ·intro w'
         go_simp
         with_reducible rfl
        rotate_left
        ·simp only [Act.put,sA,sZ,sS,i64_w,i32_w]
         rfl
        refine pure_ (i:=32) (N:=some 70) (v:=?_) (a':=?_) #[tt,tt,tt,tt,tt,tt,tt,tt,tt,tt,tt,tt,tt,tt,tt,tt,tt,tt,tt,tt,tt,tt,tt,tt,tt,tt,tt,tt,tt,tt,tt,tt,tt] rfl rfl (any_of HT_.out (by kernel_rfl)) (fun _ _ _ h => h) (Or.inl ⟨by rfl,?_⟩) ?_ ?_
        rotate_left
        ·intro w'
         go_simp
         with_reducible rfl
        rotate_left
        ·simp only [Act.put,sA,sZ,sS,i64_w,i32_w]
         rfl
        refine done_ (done_of HT_.out (by kernel_rfl)) ?_
        try go_wp2
        go_meet
        case rel => exact ⟨_,((t379 != t380)),(by first|rfl|(simp;done)|(simp [*];done)),H',⟨by have:=HJ3.out;first|omega|exact Nat.le_refl _⟩,⟨by (with_reducible repeat (first|apply zA|apply zN|apply zD));exact aM O371.out (fun _ hk => ⟨hk.1.1,hk.2⟩)⟩,⟨by (with_reducible repeat (first|apply zA|apply zN|apply zD));exact aM O375.out (fun _ hk => ⟨hk.1.1,hk.2⟩)⟩,⟨by (with_reducible repeat (first|apply vA|apply vN|apply vD));exact aN HO_363000.out (fun _ hk => ⟨hk.1.1.1,⟨hk.1.2,⟨hk.2,⟨hk.1.1.2.1,hk.1.1.2.2⟩⟩⟩⟩)⟩,⟨by (with_reducible repeat (first|apply vA|apply vN|apply vD));exact aN HO_364000.out (fun _ hk => ⟨hk.1.1.1,⟨hk.1.2,⟨hk.2,⟨hk.1.1.2.1,hk.1.1.2.2⟩⟩⟩⟩)⟩,⟨by (with_reducible repeat (first|refine bN ?_ _|refine bD ?_|refine bA ?_ _));exact B362.out⟩,⟨by (with_reducible repeat (first|refine bN ?_ _|refine bD ?_|refine bA ?_ _));exact B363.out⟩,⟨by repeat (first|(with_reducible first|exact HB.out|apply aA|apply aW|apply aD|refine aS ?_ E362.out|refine aS ?_ E363.out)|exact HB.out)⟩⟩
       ·replace c40:=Bool.eq_false_iff.mpr c40
        subst c40
        have H1 : (j1 kj3 l2 t369 t372 t373 t376 true l0_0 a0_1 a0_2 a0_3 l1_0 a1_1 a1_2 a1_3) = some r:=by rw [if_neg (show ¬ (false = true) by decide)] at H;exact H
        exact absurd H1 (by cases kj3 <;> simp [j1])
      ·rw [if_neg c38] at H
       have c38b0 : (t372 == 0) = false:=beq_eq_false_iff_ne.mpr c38
       have hTb : t377 = false:=by rw [c38b0] at c35b0;revert c35b0;cases t377 <;> decide
       have c38b1 : (t372 != 0) = true:=bne_iff_ne.mpr c38
       by_cases c51 : t372 = 90
       ·rw [if_pos c51] at H
        have c51b0 : (t372 == 90) = true:=beq_iff_eq.mpr c51
        have c51b1 : (t372 != 90) = false:=bne_eq_false_iff_eq.mpr c51
        clear c51
        by_cases c52 : (t369.length : Int) = 0
        ·rw [if_pos c52] at H
         have c52b0 : ((t369.length : Int) == 0) = true:=beq_iff_eq.mpr c52
         have c52b1 : ((t369.length : Int) != 0) = false:=bne_eq_false_iff_eq.mpr c52
         clear c52
         replace H:=Option.bind_eq_some_iff.mp H
         obtain ⟨t381,A530,H⟩:=H
         replace H : (if t381 = true then ((edit_Same.f kj3 l0_0 a0_1 a0_2 a0_3 l1_0 a1_1 a1_2 a1_3).bind fun t382 => ((edit_Same.f kj3 l1_0 a1_1 a1_2 a1_3 l0_0 a0_1 a0_2 a0_3).bind fun t383 => (j1 kj3 l2 t369 t372 t373 t376 (t382 != t383) l0_0 a0_1 a0_2 a0_3 l1_0 a1_1 a1_2 a1_3))) else (j1 kj3 l2 t369 t372 t373 t376 true l0_0 a0_1 a0_2 a0_3 l1_0 a1_1 a1_2 a1_3)) = some r:=H
         have A53:=aK A530
         clear A530
         by_cases c54 : t381 = true
         ·subst c54
          have H1 : ((edit_Same.f kj3 l0_0 a0_1 a0_2 a0_3 l1_0 a1_1 a1_2 a1_3).bind fun t382 => ((edit_Same.f kj3 l1_0 a1_1 a1_2 a1_3 l0_0 a0_1 a0_2 a0_3).bind fun t383 => (j1 kj3 l2 t369 t372 t373 t376 (t382 != t383) l0_0 a0_1 a0_2 a0_3 l1_0 a1_1 a1_2 a1_3))) = some r:=by rw [if_pos rfl] at H;exact H
          clear H
          have H:=H1
          clear H1
          replace H:=Option.bind_eq_some_iff.mp H
          obtain ⟨t382,A550,H⟩:=H
          replace H : ((edit_Same.f kj3 l1_0 a1_1 a1_2 a1_3 l0_0 a0_1 a0_2 a0_3).bind fun t383 => (j1 kj3 l2 t369 t372 t373 t376 (t382 != t383) l0_0 a0_1 a0_2 a0_3 l1_0 a1_1 a1_2 a1_3)) = some r:=H
          have A55:=aK A550
          clear A550
          replace H:=Option.bind_eq_some_iff.mp H
          obtain ⟨t383,A560,H⟩:=H
          replace H : (j1 kj3 l2 t369 t372 t373 t376 (t382 != t383) l0_0 a0_1 a0_2 a0_3 l1_0 a1_1 a1_2 a1_3) = some r:=H
          have A56:=aK A560
          clear A560
          have H':=aK H
          clear H
          try go_wp2
          have n0_:=aK (Kd.V_drew HO_363000.out)
          have n1_:=aK (Kd.V_drew HO_364000.out)
          have n2_:=aK (Kd.R_drew O371.out)
          have n3_:=aK (Kd.R_drew O375.out)
          have n4_:=aK (blk_drew B362.out)
          have n5_:=aK (blk_drew B363.out)
          have n6_:=aK (aD HB.out)
          clear HO_363000
          clear HO_364000
          clear O371
          clear O375
          clear B362
          clear B363
          clear HB
          have HO_363000:=n0_
          have HO_364000:=n1_
          have O371:=n2_
          have O375:=n3_
          have B362:=n4_
          have B363:=n5_
          have HB:=n6_
          clear n0_ n1_ n2_ n3_ n4_ n5_ n6_
          refine start_ (n:=33) (S:=fun w' => w'.cell? ⟨gb362,0,none⟩ = some (.slice A0_0 l0_0.length c0_0) ∧ w'.cell? ⟨gb362,1,none⟩ = some (.int .u64 a0_1) ∧ w'.cell? ⟨gb362,2,none⟩ = some (.int .u64 a0_2) ∧ w'.cell? ⟨gb362,3,none⟩ = some (.int .u64 a0_3) ∧ w'.cell? ⟨gb363,0,none⟩ = some (.slice A1_0 l1_0.length c1_0) ∧ w'.cell? ⟨gb363,1,none⟩ = some (.int .u64 a1_1) ∧ w'.cell? ⟨gb363,2,none⟩ = some (.int .u64 a1_2) ∧ w'.cell? ⟨gb363,3,none⟩ = some (.int .u64 a1_3)) (ds:=[]) #[ff,ff,ff,ff,ff,ff,ff,ff,ff,ff,ff,ff,ff,ff,ff,ff,ff,ff,ff,ff,ff,ff,ff,ff,ff,ff,ff,ff,ff,ff,ff,ff,ff] (by kernel_rfl) rfl rfl ⟨(aC B362.out 0).trans rfl,(aC B362.out 1).trans rfl,(aC B362.out 2).trans rfl,(aC B362.out 3).trans rfl,(aC B363.out 0).trans rfl,(aC B363.out 1).trans rfl,(aC B363.out 2).trans rfl,(aC B363.out 3).trans rfl⟩ (fun hHeld => ?_);refine with_tabW tab5 bits5 (fun HT_ HW_ => ?_)
          generalize w33.drew = w57 at HO_363000 HO_364000 O371 O375 B362 B363 HB hHeld ⊢
          refine pure_ (i:=0) (N:=some 38) (v:=?_) (a':=?_) #[tt,ff,ff,ff,ff,ff,ff,ff,ff,ff,ff,ff,ff,ff,ff,ff,ff,ff,ff,ff,ff,ff,ff,ff,ff,ff,ff,ff,ff,ff,ff,ff,ff] rfl rfl (any_of HT_.out (by kernel_rfl)) (fun _ _ _ h => h) (Or.inl ⟨by rfl,?_⟩) ?_ ?_
          rotate_left
          ·intro w'
           go_simp
           with_reducible rfl
          rotate_left
          ·simp only [Act.put,sA,sZ,sS,i64_w,i32_w]
           rfl
          refine pure_ (i:=1) (N:=some 39) (v:=?_) (a':=?_) #[tt,tt,ff,ff,ff,ff,ff,ff,ff,ff,ff,ff,ff,ff,ff,ff,ff,ff,ff,ff,ff,ff,ff,ff,ff,ff,ff,ff,ff,ff,ff,ff,ff] rfl rfl (any_of HT_.out (by kernel_rfl)) (fun _ _ _ h => h) (Or.inl ⟨by rfl,?_⟩) ?_ ?_
          rotate_left
          ·intro w'
           go_simp
           with_reducible rfl
          rotate_left
          ·simp only [Act.put,sA,sZ,sS,i64_w,i32_w]
           rfl
          refine take_ (i:=2) (N:=some 40) (v:=?_) (a':=?_) #[tt,tt,tt,ff,ff,ff,ff,ff,ff,ff,ff,ff,ff,ff,ff,ff,ff,ff,ff,ff,ff,ff,ff,ff,ff,ff,ff,ff,ff,ff,ff,ff,ff] rfl rfl (take_ofW HT_.out HW_.out (by kernel_rfl)) (fun _ _ _ h => h) (Or.inl ⟨by rfl,?_⟩) hHeld ?_ ?_
          rotate_left
          ·rintro w' ⟨s0,s1,s2,s3,s4,s5,s6,s7⟩
           go_simp
           with_reducible rfl
          rotate_left
          ·simp only [Act.put,sA,sZ,sS,i64_w,i32_w]
           rfl
          refine one_ (i:=3) (N:=some 41) #[tt,tt,tt,tt,ff,ff,ff,ff,ff,ff,ff,ff,ff,ff,ff,ff,ff,ff,ff,ff,ff,ff,ff,ff,ff,ff,ff,ff,ff,ff,ff,ff,ff] rfl rfl (one_of HT_.out (by kernel_rfl)) (by decide) (fun K hK => ?_)
          refine goes_ Try.func33 (by kernel_rfl) rfl #[.agg #[.slice A0_0 l0_0.length c0_0,.int .u64 a0_1,.int .u64 a0_2,.int .u64 a0_3]] (by rfl) rfl rfl (by (try simp only [List.map_toArray,List.map_cons,List.map_nil]);first|done|rfl|(simp only [List.length_drop,List.length_take];rfl)) ?_
          with_reducible refine (edit_Right.calls kj3 _ _ l0_0 a0_1 a0_2 a0_3 t377 _ ?side1 ?side2 A34.out).mono ?_
          (case side1 => repeat (first|exact (aO HO_363000.out).2.2|(with_reducible refine aH ?_ _)|(with_reducible refine aG ?_ _)|(with_reducible refine aI ?_)))
          (case side2 => exact (aO HO_363000.out).2.1)
          rintro e w58 ⟨rfl,hb⟩
          refine ⟨_,rfl,?_⟩
          have n0_:=aK (Kd.V_below (by (with_reducible repeat (first|apply vA|apply vN|apply vD));exact HO_363000.out) hb)
          have n1_:=aK (Kd.V_below (by (with_reducible repeat (first|apply vA|apply vN|apply vD));exact HO_364000.out) hb)
          have n2_:=aK (Kd.R_below (by (with_reducible repeat (first|apply zA|apply zN|apply zD));exact O371.out) hb)
          have n3_:=aK (Kd.R_below (by (with_reducible repeat (first|apply zA|apply zN|apply zD));exact O375.out) hb)
          have n4_:=aK (aB (g:=gb362) (o:=.cells #[.slice A0_0 l0_0.length c0_0,.int .u64 a0_1,.int .u64 a0_2,.int .u64 a0_3] 54 (0,0)) (by (with_reducible repeat (first|refine bN ?_ _|refine bD ?_|refine bA ?_ _));exact B362.out) hb)
          have n5_:=aK (aB (g:=gb363) (o:=.cells #[.slice A1_0 l1_0.length c1_0,.int .u64 a1_1,.int .u64 a1_2,.int .u64 a1_3] 54 (0,0)) (by (with_reducible repeat (first|refine bN ?_ _|refine bD ?_|refine bA ?_ _));exact B363.out) hb)
          have n6_:=aK (aT (by repeat (first|(with_reducible first|exact HB.out|apply aA|apply aW|apply aD|refine aS ?_ E362.out|refine aS ?_ E363.out)|exact HB.out)) hb)
          clear HO_363000
          clear HO_364000
          clear O371
          clear O375
          clear B362
          clear B363
          clear HB
          have HO_363000:=n0_
          have HO_364000:=n1_
          have O371:=n2_
          have O375:=n3_
          have B362:=n4_
          have B363:=n5_
          have HB:=n6_
          clear n0_ n1_ n2_ n3_ n4_ n5_ n6_
          (try clear hb)
          (try clear hb2)
          (try clear hk)
          (try clear hi)
          obtain ⟨Ao59,co59,eo59⟩:=Kd.R_slice O371.out
          (first|subst eo59|(injection eo59 with f1_ f2_ f3_;have f4_:=f1_.symm;have f5_:=f3_.symm;clear f1_ f2_ f3_;subst f4_;subst f5_))
          refine hK.out _ _ ⟨(aC B362.out 0).trans rfl,(aC B362.out 1).trans rfl,(aC B362.out 2).trans rfl,(aC B362.out 3).trans rfl,(aC B363.out 0).trans rfl,(aC B363.out 1).trans rfl,(aC B363.out 2).trans rfl,(aC B363.out 3).trans rfl⟩ (fun hHeld => ?_)
          clear hK K
          refine norm_ (a':=?_) ?_ ?_
          rotate_left
          ·show Act.put _ (some 41) _ = _
           simp only [Act.put,sA,sZ,sS,i64_w,i32_w]
           rfl
          refine pure_ (i:=4) (N:=some 42) (v:=?_) (a':=?_) #[tt,tt,tt,tt,tt,ff,ff,ff,ff,ff,ff,ff,ff,ff,ff,ff,ff,ff,ff,ff,ff,ff,ff,ff,ff,ff,ff,ff,ff,ff,ff,ff,ff] rfl rfl (any_of HT_.out (by kernel_rfl)) (fun _ _ _ h => h) (Or.inl ⟨by rfl,?_⟩) ?_ ?_
          rotate_left
          ·intro w'
           go_simp
           with_reducible rfl
          rotate_left
          ·simp only [Act.put,sA,sZ,sS,i64_w,i32_w]
           rfl
          simp only [hTb]
          refine pure_ (i:=5) (N:=some 43) (v:=?_) (a':=?_) #[tt,tt,tt,tt,tt,tt,ff,ff,ff,ff,ff,ff,ff,ff,ff,ff,ff,ff,ff,ff,ff,ff,ff,ff,ff,ff,ff,ff,ff,ff,ff,ff,ff] rfl rfl (any_of HT_.out (by kernel_rfl)) (fun _ _ _ h => h) (Or.inl ⟨by rfl,?_⟩) ?_ ?_
          rotate_left
          ·intro w'
           go_simp
           with_reducible rfl
          rotate_left
          ·simp only [Act.put,sA,sZ,sS,i64_w,i32_w]
           rfl
          refine pure_ (i:=6) (N:=some 44) (v:=?_) (a':=?_) #[tt,tt,tt,tt,tt,tt,tt,ff,ff,ff,ff,ff,ff,ff,ff,ff,ff,ff,ff,ff,ff,ff,ff,ff,ff,ff,ff,ff,ff,ff,ff,ff,ff] rfl rfl (any_of HT_.out (by kernel_rfl)) (fun _ _ _ h => h) (Or.inl ⟨by rfl,?_⟩) ?_ ?_
          rotate_left
          ·intro w'
           go_simp
           with_reducible rfl
          rotate_left
          ·simp only [Act.put,sA,sZ,sS,i64_w,i32_w]
           rfl
          refine pure_ (i:=7) (N:=some 45) (v:=?_) (a':=?_) #[tt,tt,tt,tt,tt,tt,tt,tt,ff,ff,ff,ff,ff,ff,ff,ff,ff,ff,ff,ff,ff,ff,ff,ff,ff,ff,ff,ff,ff,ff,ff,ff,ff] rfl rfl (any_of HT_.out (by kernel_rfl)) (fun _ _ _ h => h) (Or.inl ⟨by rfl,?_⟩) ?_ ?_
          rotate_left
          ·intro w'
           go_simp
           with_reducible rfl
          rotate_left
          ·simp only [Act.put,sA,sZ,sS,i64_w,i32_w]
           rfl
          refine pure_ (i:=8) (N:=some 46) (v:=?_) (a':=?_) #[tt,tt,tt,tt,tt,tt,tt,tt,tt,ff,ff,ff,ff,ff,ff,ff,ff,ff,ff,ff,ff,ff,ff,ff,ff,ff,ff,ff,ff,ff,ff,ff,ff] rfl rfl (any_of HT_.out (by kernel_rfl)) (fun _ _ _ h => h) (Or.inl ⟨by rfl,?_⟩) ?_ ?_
          rotate_left
          ·intro w'
           go_simp
           with_reducible rfl
          rotate_left
          ·simp only [Act.put,sA,sZ,sS,i64_w,i32_w]
           rfl
          refine pure_ (i:=9) (N:=some 47) (v:=?_) (a':=?_) #[tt,tt,tt,tt,tt,tt,tt,tt,tt,tt,ff,ff,ff,ff,ff,ff,ff,ff,ff,ff,ff,ff,ff,ff,ff,ff,ff,ff,ff,ff,ff,ff,ff] rfl rfl (any_of HT_.out (by kernel_rfl)) (fun _ _ _ h => h) (Or.inl ⟨by rfl,?_⟩) ?_ ?_
          rotate_left
          ·intro w'
           go_simp
           with_reducible rfl
          rotate_left
          ·simp only [Act.put,sA,sZ,sS,i64_w,i32_w]
           rfl
          refine pure_ (i:=10) (N:=some 48) (v:=?_) (a':=?_) #[tt,tt,tt,tt,tt,tt,tt,tt,tt,tt,tt,ff,ff,ff,ff,ff,ff,ff,ff,ff,ff,ff,ff,ff,ff,ff,ff,ff,ff,ff,ff,ff,ff] rfl rfl (any_of HT_.out (by kernel_rfl)) (fun _ _ _ h => h) (Or.inl ⟨by rfl,?_⟩) ?_ ?_
          rotate_left
          ·intro w'
           go_simp
           with_reducible rfl
          rotate_left
          ·simp only [Act.put,sA,sZ,sS,i64_w,i32_w]
           rfl
          refine pure_ (i:=11) (N:=some 49) (v:=?_) (a':=?_) #[tt,tt,tt,tt,tt,tt,tt,tt,tt,tt,tt,tt,ff,ff,ff,ff,ff,ff,ff,ff,ff,ff,ff,ff,ff,ff,ff,ff,ff,ff,ff,ff,ff] rfl rfl (any_of HT_.out (by kernel_rfl)) (fun _ _ _ h => h) (Or.inl ⟨by rfl,?_⟩) ?_ ?_
          rotate_left
          ·intro w'
           go_simp
           with_reducible rfl
          rotate_left
          ·simp only [Act.put,sA,sZ,sS,i64_w,i32_w]
           rfl
          refine pure_ (i:=12) (N:=some 50) (v:=?_) (a':=?_) #[tt,tt,tt,tt,tt,tt,tt,tt,tt,tt,tt,tt,tt,ff,ff,ff,ff,ff,ff,ff,ff,ff,ff,ff,ff,ff,ff,ff,ff,ff,ff,ff,ff] rfl rfl (any_of HT_.out (by kernel_rfl)) (fun _ _ _ h => h) (Or.inl ⟨by rfl,?_⟩) ?_ ?_
          rotate_left
          ·intro w'
           go_simp
           with_reducible rfl
          rotate_left
          ·simp only [Act.put,sA,sZ,sS,i64_w,i32_w]
           rfl
          refine pure_ (i:=13) (N:=some 51) (v:=?_) (a':=?_) #[tt,tt,tt,tt,tt,tt,tt,tt,tt,tt,tt,tt,tt,tt,ff,ff,ff,ff,ff,ff,ff,ff,ff,ff,ff,ff,ff,ff,ff,ff,ff,ff,ff] rfl rfl (any_of HT_.out (by kernel_rfl)) (fun _ _ _ h => h) (Or.inl ⟨by rfl,?_⟩) ?_ ?_
          rotate_left
          ·intro w'
           go_simp
           with_reducible rfl
          rotate_left
          ·simp only [Act.put,sA,sZ,sS,i64_w,i32_w]
           rfl
          refine pure_ (i:=14) (N:=some 52) (v:=?_) (a':=?_) #[tt,tt,tt,tt,tt,tt,tt,tt,tt,tt,tt,tt,tt,tt,tt,ff,ff,ff,ff,ff,ff,ff,ff,ff,ff,ff,ff,ff,ff,ff,ff,ff,ff] rfl rfl (any_of HT_.out (by kernel_rfl)) (fun _ _ _ h => h) (Or.inl ⟨by rfl,?_⟩) ?_ ?_
          rotate_left
          ·intro w'
           go_simp
           with_reducible rfl
          rotate_left
          ·simp only [Act.put,sA,sZ,sS,i64_w,i32_w]
           rfl
          refine pure_ (i:=15) (N:=some 53) (v:=?_) (a':=?_) #[tt,tt,tt,tt,tt,tt,tt,tt,tt,tt,tt,tt,tt,tt,tt,tt,ff,ff,ff,ff,ff,ff,ff,ff,ff,ff,ff,ff,ff,ff,ff,ff,ff] rfl rfl (any_of HT_.out (by kernel_rfl)) (fun _ _ _ h => h) (Or.inl ⟨by rfl,?_⟩) ?_ ?_
          rotate_left
          ·intro w'
           go_simp
           with_reducible rfl
          rotate_left
          ·simp only [Act.put,sA,sZ,sS,i64_w,i32_w]
           rfl
          refine pure_ (i:=16) (N:=some 54) (v:=?_) (a':=?_) #[tt,tt,tt,tt,tt,tt,tt,tt,tt,tt,tt,tt,tt,tt,tt,tt,tt,ff,ff,ff,ff,ff,ff,ff,ff,ff,ff,ff,ff,ff,ff,ff,ff] rfl rfl (any_of HT_.out (by kernel_rfl)) (fun _ _ _ h => h) (Or.inl ⟨by rfl,?_⟩) ?_ ?_
          rotate_left
          ·intro w'
           go_simp
           with_reducible rfl
          rotate_left
          ·simp only [Act.put,sA,sZ,sS,i64_w,i32_w]
           rfl
          refine pure_ (i:=17) (N:=some 55) (v:=?_) (a':=?_) #[tt,tt,tt,tt,tt,tt,tt,tt,tt,tt,tt,tt,tt,tt,tt,tt,tt,tt,ff,ff,ff,ff,ff,ff,ff,ff,ff,ff,ff,ff,ff,ff,ff] rfl rfl (any_of HT_.out (by kernel_rfl)) (fun _ _ _ h => h) (Or.inl ⟨by rfl,?_⟩) ?_ ?_
          rotate_left
          ·intro w'
           go_simp
           with_reducible rfl
          rotate_left
          ·simp only [Act.put,sA,sZ,sS,i64_w,i32_w]
           rfl
          refine pure_ (i:=18) (N:=some 56) (v:=?_) (a':=?_) #[tt,tt,tt,tt,tt,tt,tt,tt,tt,tt,tt,tt,tt,tt,tt,tt,tt,tt,tt,ff,ff,ff,ff,ff,ff,ff,ff,ff,ff,ff,ff,ff,ff] rfl rfl (any_of HT_.out (by kernel_rfl)) (fun _ _ _ h => h) (Or.inl ⟨by rfl,?_⟩) ?_ ?_
          rotate_left
          ·intro w'
           go_simp
           with_reducible rfl
          rotate_left
          ·simp only [Act.put,sA,sZ,sS,i64_w,i32_w]
           rfl
          refine take_ (i:=19) (N:=some 57) (v:=?_) (a':=?_) #[tt,tt,tt,tt,tt,tt,tt,tt,tt,tt,tt,tt,tt,tt,tt,tt,tt,tt,tt,tt,ff,ff,ff,ff,ff,ff,ff,ff,ff,ff,ff,ff,ff] rfl rfl (take_ofW HT_.out HW_.out (by kernel_rfl)) (fun _ _ _ h => h) (Or.inl ⟨by rfl,?_⟩) hHeld ?_ ?_
          rotate_left
          ·rintro w' ⟨s0,s1,s2,s3,s4,s5,s6,s7⟩
           go_simp
           with_reducible rfl
          rotate_left
          ·simp only [Act.put,sA,sZ,sS,i64_w,i32_w]
           rfl
          refine take_ (i:=20) (N:=some 58) (v:=?_) (a':=?_) #[tt,tt,tt,tt,tt,tt,tt,tt,tt,tt,tt,tt,tt,tt,tt,tt,tt,tt,tt,tt,tt,ff,ff,ff,ff,ff,ff,ff,ff,ff,ff,ff,ff] rfl rfl (take_ofW HT_.out HW_.out (by kernel_rfl)) (fun _ _ _ h => h) (Or.inl ⟨by rfl,?_⟩) hHeld ?_ ?_
          rotate_left
          ·rintro w' ⟨s0,s1,s2,s3,s4,s5,s6,s7⟩
           go_simp
           with_reducible rfl
          rotate_left
          ·simp only [Act.put,sA,sZ,sS,i64_w,i32_w]
           rfl
          refine one_ (i:=21) (N:=some 59) #[tt,tt,tt,tt,tt,tt,tt,tt,tt,tt,tt,tt,tt,tt,tt,tt,tt,tt,tt,tt,tt,tt,ff,ff,ff,ff,ff,ff,ff,ff,ff,ff,ff] rfl rfl (one_of HT_.out (by kernel_rfl)) (by decide) (fun K hK => ?_)
          refine goes_ Try.func36 (by kernel_rfl) rfl #[.agg #[.slice A0_0 l0_0.length c0_0,.int .u64 a0_1,.int .u64 a0_2,.int .u64 a0_3],.agg #[.slice A0_0 l0_0.length c0_0,.int .u64 a0_1,.int .u64 a0_2,.int .u64 a0_3]] (by rfl) rfl rfl (by (try simp only [List.map_toArray,List.map_cons,List.map_nil]);first|done|rfl|(simp only [List.length_drop,List.length_take];rfl)) ?_
          with_reducible refine (edit_Same.calls kj3 _ _ l0_0 a0_1 a0_2 a0_3 _ _ l0_0 a0_1 a0_2 a0_3 true _ ?side1 ?side2 ?side3 ?side4 A53.out).mono ?_
          (case side1 => repeat (first|exact (aO HO_363000.out).2.2|(with_reducible refine aH ?_ _)|(with_reducible refine aG ?_ _)|(with_reducible refine aI ?_)))
          (case side2 => exact (aO HO_363000.out).2.1)
          (case side3 => repeat (first|exact (aO HO_363000.out).2.2|(with_reducible refine aH ?_ _)|(with_reducible refine aG ?_ _)|(with_reducible refine aI ?_)))
          (case side4 => exact (aO HO_363000.out).2.1)
          rintro e w60 ⟨rfl,hb⟩
          refine ⟨_,rfl,?_⟩
          have n0_:=aK (Kd.V_below (by (with_reducible repeat (first|apply vA|apply vN|apply vD));exact HO_363000.out) hb)
          have n1_:=aK (Kd.V_below (by (with_reducible repeat (first|apply vA|apply vN|apply vD));exact HO_364000.out) hb)
          have n2_:=aK (Kd.R_below (by (with_reducible repeat (first|apply zA|apply zN|apply zD));exact O371.out) hb)
          have n3_:=aK (Kd.R_below (by (with_reducible repeat (first|apply zA|apply zN|apply zD));exact O375.out) hb)
          have n4_:=aK (aB (g:=gb362) (o:=.cells #[.slice A0_0 l0_0.length c0_0,.int .u64 a0_1,.int .u64 a0_2,.int .u64 a0_3] 54 (0,0)) (by (with_reducible repeat (first|refine bN ?_ _|refine bD ?_|refine bA ?_ _));exact B362.out) hb)
          have n5_:=aK (aB (g:=gb363) (o:=.cells #[.slice A1_0 l1_0.length c1_0,.int .u64 a1_1,.int .u64 a1_2,.int .u64 a1_3] 54 (0,0)) (by (with_reducible repeat (first|refine bN ?_ _|refine bD ?_|refine bA ?_ _));exact B363.out) hb)
          have n6_:=aK (aT (by repeat (first|(with_reducible first|exact HB.out|apply aA|apply aW|apply aD|refine aS ?_ E362.out|refine aS ?_ E363.out)|exact HB.out)) hb)
          clear HO_363000
          clear HO_364000
          clear O371
          clear O375
          clear B362
          clear B363
          clear HB
          have HO_363000:=n0_
          have HO_364000:=n1_
          have O371:=n2_
          have O375:=n3_
          have B362:=n4_
          have B363:=n5_
          have HB:=n6_
          clear n0_ n1_ n2_ n3_ n4_ n5_ n6_
          (try clear hb)
          (try clear hb2)
          (try clear hk)
          (try clear hi)
          refine hK.out _ _ ⟨(aC B362.out 0).trans rfl,(aC B362.out 1).trans rfl,(aC B362.out 2).trans rfl,(aC B362.out 3).trans rfl,(aC B363.out 0).trans rfl,(aC B363.out 1).trans rfl,(aC B363.out 2).trans rfl,(aC B363.out 3).trans rfl⟩ (fun hHeld => ?_)
          clear hK K
          refine norm_ (a':=?_) ?_ ?_
          rotate_left
          ·show Act.put _ (some 59) _ = _
           simp only [Act.put,sA,sZ,sS,i64_w,i32_w]
           rfl
          refine pure_ (i:=22) (N:=some 60) (v:=?_) (a':=?_) #[tt,tt,tt,tt,tt,tt,tt,tt,tt,tt,tt,tt,tt,tt,tt,tt,tt,tt,tt,tt,tt,tt,tt,ff,ff,ff,ff,ff,ff,ff,ff,ff,ff] rfl rfl (any_of HT_.out (by kernel_rfl)) (fun _ _ _ h => h) (Or.inl ⟨by rfl,?_⟩) ?_ ?_
          rotate_left
          ·intro w'
           go_simp
           with_reducible rfl
          rotate_left
          ·simp only [Act.put,sA,sZ,sS,i64_w,i32_w]
           rfl
          refine pure_ (i:=23) (N:=some 61) (v:=?_) (a':=?_) #[tt,tt,tt,tt,tt,tt,tt,tt,tt,tt,tt,tt,tt,tt,tt,tt,tt,tt,tt,tt,tt,tt,tt,tt,ff,ff,ff,ff,ff,ff,ff,ff,ff] rfl rfl (any_of HT_.out (by kernel_rfl)) (fun _ _ _ h => h) (Or.inl ⟨by rfl,?_⟩) ?_ ?_
          rotate_left
          ·intro w'
           go_simp
           with_reducible rfl
          rotate_left
          ·simp only [Act.put,sA,sZ,sS,i64_w,i32_w]
           rfl
          refine pure_ (i:=24) (N:=some 62) (v:=?_) (a':=?_) #[tt,tt,tt,tt,tt,tt,tt,tt,tt,tt,tt,tt,tt,tt,tt,tt,tt,tt,tt,tt,tt,tt,tt,tt,tt,ff,ff,ff,ff,ff,ff,ff,ff] rfl rfl (any_of HT_.out (by kernel_rfl)) (fun _ _ _ h => h) (Or.inl ⟨by rfl,?_⟩) ?_ ?_
          rotate_left
          ·intro w'
           go_simp
           with_reducible rfl
          rotate_left
          ·simp only [Act.put,sA,sZ,sS,i64_w,i32_w]
           rfl
          refine take_ (i:=25) (N:=some 63) (v:=?_) (a':=?_) #[tt,tt,tt,tt,tt,tt,tt,tt,tt,tt,tt,tt,tt,tt,tt,tt,tt,tt,tt,tt,tt,tt,tt,tt,tt,tt,ff,ff,ff,ff,ff,ff,ff] rfl rfl (take_ofW HT_.out HW_.out (by kernel_rfl)) (fun _ _ _ h => h) (Or.inl ⟨by rfl,?_⟩) hHeld ?_ ?_
          rotate_left
          ·rintro w' ⟨s0,s1,s2,s3,s4,s5,s6,s7⟩
           go_simp
           with_reducible rfl
          rotate_left
          ·simp only [Act.put,sA,sZ,sS,i64_w,i32_w]
           rfl
          refine take_ (i:=26) (N:=some 64) (v:=?_) (a':=?_) #[tt,tt,tt,tt,tt,tt,tt,tt,tt,tt,tt,tt,tt,tt,tt,tt,tt,tt,tt,tt,tt,tt,tt,tt,tt,tt,tt,ff,ff,ff,ff,ff,ff] rfl rfl (take_ofW HT_.out HW_.out (by kernel_rfl)) (fun _ _ _ h => h) (Or.inl ⟨by rfl,?_⟩) hHeld ?_ ?_
          rotate_left
          ·rintro w' ⟨s0,s1,s2,s3,s4,s5,s6,s7⟩
           go_simp
           with_reducible rfl
          rotate_left
          ·simp only [Act.put,sA,sZ,sS,i64_w,i32_w]
           rfl
          refine take_ (i:=28) (N:=some 66) (v:=?_) (a':=?_) #[tt,tt,tt,tt,tt,tt,tt,tt,tt,tt,tt,tt,tt,tt,tt,tt,tt,tt,tt,tt,tt,tt,tt,tt,tt,tt,tt,ff,tt,ff,ff,ff,ff] rfl rfl (take_ofW HT_.out HW_.out (by kernel_rfl)) (fun _ _ _ h => h) (Or.inl ⟨by rfl,?_⟩) hHeld ?_ ?_
          rotate_left
          ·rintro w' ⟨s0,s1,s2,s3,s4,s5,s6,s7⟩
           go_simp
           with_reducible rfl
          rotate_left
          ·simp only [Act.put,sA,sZ,sS,i64_w,i32_w]
           rfl
          refine take_ (i:=29) (N:=some 67) (v:=?_) (a':=?_) #[tt,tt,tt,tt,tt,tt,tt,tt,tt,tt,tt,tt,tt,tt,tt,tt,tt,tt,tt,tt,tt,tt,tt,tt,tt,tt,tt,ff,tt,tt,ff,ff,ff] rfl rfl (take_ofW HT_.out HW_.out (by kernel_rfl)) (fun _ _ _ h => h) (Or.inl ⟨by rfl,?_⟩) hHeld ?_ ?_
          rotate_left
          ·rintro w' ⟨s0,s1,s2,s3,s4,s5,s6,s7⟩
           go_simp
           with_reducible rfl
          rotate_left
          ·simp only [Act.put,sA,sZ,sS,i64_w,i32_w]
           rfl
          refine one_ (i:=27) (N:=some 65) #[tt,tt,tt,tt,tt,tt,tt,tt,tt,tt,tt,tt,tt,tt,tt,tt,tt,tt,tt,tt,tt,tt,tt,tt,tt,tt,tt,tt,tt,tt,ff,ff,ff] rfl rfl (one_of HT_.out (by kernel_rfl)) (by decide) (fun K hK => ?_)
          refine goes_ Try.func36 (by kernel_rfl) rfl #[.agg #[.slice A0_0 l0_0.length c0_0,.int .u64 a0_1,.int .u64 a0_2,.int .u64 a0_3],.agg #[.slice A1_0 l1_0.length c1_0,.int .u64 a1_1,.int .u64 a1_2,.int .u64 a1_3]] (by rfl) rfl rfl (by (try simp only [List.map_toArray,List.map_cons,List.map_nil]);first|done|rfl|(simp only [List.length_drop,List.length_take];rfl)) ?_
          with_reducible refine (edit_Same.calls kj3 _ _ l0_0 a0_1 a0_2 a0_3 _ _ l1_0 a1_1 a1_2 a1_3 t382 _ ?side1 ?side2 ?side3 ?side4 A55.out).mono ?_
          (case side1 => repeat (first|exact (aO HO_363000.out).2.2|(with_reducible refine aH ?_ _)|(with_reducible refine aG ?_ _)|(with_reducible refine aI ?_)))
          (case side2 => exact (aO HO_363000.out).2.1)
          (case side3 => repeat (first|exact (aO HO_364000.out).2.2|(with_reducible refine aH ?_ _)|(with_reducible refine aG ?_ _)|(with_reducible refine aI ?_)))
          (case side4 => exact (aO HO_364000.out).2.1)
          rintro e w61 ⟨rfl,hb⟩
          refine ⟨_,rfl,?_⟩
          have n0_:=aK (Kd.V_below (by (with_reducible repeat (first|apply vA|apply vN|apply vD));exact HO_363000.out) hb)
          have n1_:=aK (Kd.V_below (by (with_reducible repeat (first|apply vA|apply vN|apply vD));exact HO_364000.out) hb)
          have n2_:=aK (Kd.R_below (by (with_reducible repeat (first|apply zA|apply zN|apply zD));exact O371.out) hb)
          have n3_:=aK (Kd.R_below (by (with_reducible repeat (first|apply zA|apply zN|apply zD));exact O375.out) hb)
          have n4_:=aK (aB (g:=gb362) (o:=.cells #[.slice A0_0 l0_0.length c0_0,.int .u64 a0_1,.int .u64 a0_2,.int .u64 a0_3] 54 (0,0)) (by (with_reducible repeat (first|refine bN ?_ _|refine bD ?_|refine bA ?_ _));exact B362.out) hb)
          have n5_:=aK (aB (g:=gb363) (o:=.cells #[.slice A1_0 l1_0.length c1_0,.int .u64 a1_1,.int .u64 a1_2,.int .u64 a1_3] 54 (0,0)) (by (with_reducible repeat (first|refine bN ?_ _|refine bD ?_|refine bA ?_ _));exact B363.out) hb)
          have n6_:=aK (aT (by repeat (first|(with_reducible first|exact HB.out|apply aA|apply aW|apply aD|refine aS ?_ E362.out|refine aS ?_ E363.out)|exact HB.out)) hb)
          clear HO_363000
          clear HO_364000
          clear O371
          clear O375
          clear B362
          clear B363
          clear HB
          have HO_363000:=n0_
          have HO_364000:=n1_
          have O371:=n2_
          have O375:=n3_
          have B362:=n4_
          have B363:=n5_
          have HB:=n6_
          clear n0_ n1_ n2_ n3_ n4_ n5_ n6_
          (try clear hb)
          (try clear hb2)
          (try clear hk)
          (try clear hi)
          refine hK.out _ _ ⟨(aC B362.out 0).trans rfl,(aC B362.out 1).trans rfl,(aC B362.out 2).trans rfl,(aC B362.out 3).trans rfl,(aC B363.out 0).trans rfl,(aC B363.out 1).trans rfl,(aC B363.out 2).trans rfl,(aC B363.out 3).trans rfl⟩ (fun hHeld => ?_)
          clear hK K
          refine norm_ (a':=?_) ?_ ?_
          rotate_left
          ·show Act.put _ (some 65) _ = _
           simp only [Act.put,sA,sZ,sS,i64_w,i32_w]
           rfl
          refine one_ (i:=30) (N:=some 68) #[tt,tt,tt,tt,tt,tt,tt,tt,tt,tt,tt,tt,tt,tt,tt,tt,tt,tt,tt,tt,tt,tt,tt,tt,tt,tt,tt,tt,tt,tt,tt,ff,ff] rfl rfl (one_of HT_.out (by kernel_rfl)) (by decide) (fun K hK => ?_)
          refine goes_ Try.func36 (by kernel_rfl) rfl #[.agg #[.slice A1_0 l1_0.length c1_0,.int .u64 a1_1,.int .u64 a1_2,.int .u64 a1_3],.agg #[.slice A0_0 l0_0.length c0_0,.int .u64 a0_1,.int .u64 a0_2,.int .u64 a0_3]] (by rfl) rfl rfl (by (try simp only [List.map_toArray,List.map_cons,List.map_nil]);first|done|rfl|(simp only [List.length_drop,List.length_take];rfl)) ?_
          with_reducible refine (edit_Same.calls kj3 _ _ l1_0 a1_1 a1_2 a1_3 _ _ l0_0 a0_1 a0_2 a0_3 t383 _ ?side1 ?side2 ?side3 ?side4 A56.out).mono ?_
          (case side1 => repeat (first|exact (aO HO_364000.out).2.2|(with_reducible refine aH ?_ _)|(with_reducible refine aG ?_ _)|(with_reducible refine aI ?_)))
          (case side2 => exact (aO HO_364000.out).2.1)
          (case side3 => repeat (first|exact (aO HO_363000.out).2.2|(with_reducible refine aH ?_ _)|(with_reducible refine aG ?_ _)|(with_reducible refine aI ?_)))
          (case side4 => exact (aO HO_363000.out).2.1)
          rintro e w62 ⟨rfl,hb⟩
          refine ⟨_,rfl,?_⟩
          have n0_:=aK (Kd.V_below (by (with_reducible repeat (first|apply vA|apply vN|apply vD));exact HO_363000.out) hb)
          have n1_:=aK (Kd.V_below (by (with_reducible repeat (first|apply vA|apply vN|apply vD));exact HO_364000.out) hb)
          have n2_:=aK (Kd.R_below (by (with_reducible repeat (first|apply zA|apply zN|apply zD));exact O371.out) hb)
          have n3_:=aK (Kd.R_below (by (with_reducible repeat (first|apply zA|apply zN|apply zD));exact O375.out) hb)
          have n4_:=aK (aB (g:=gb362) (o:=.cells #[.slice A0_0 l0_0.length c0_0,.int .u64 a0_1,.int .u64 a0_2,.int .u64 a0_3] 54 (0,0)) (by (with_reducible repeat (first|refine bN ?_ _|refine bD ?_|refine bA ?_ _));exact B362.out) hb)
          have n5_:=aK (aB (g:=gb363) (o:=.cells #[.slice A1_0 l1_0.length c1_0,.int .u64 a1_1,.int .u64 a1_2,.int .u64 a1_3] 54 (0,0)) (by (with_reducible repeat (first|refine bN ?_ _|refine bD ?_|refine bA ?_ _));exact B363.out) hb)
          have n6_:=aK (aT (by repeat (first|(with_reducible first|exact HB.out|apply aA|apply aW|apply aD|refine aS ?_ E362.out|refine aS ?_ E363.out)|exact HB.out)) hb)
          clear HO_363000
          clear HO_364000
          clear O371
          clear O375
          clear B362
          clear B363
          clear HB
          have HO_363000:=n0_
          have HO_364000:=n1_
          have O371:=n2_
          have O375:=n3_
          have B362:=n4_
          have B363:=n5_
          have HB:=n6_
          clear n0_ n1_ n2_ n3_ n4_ n5_ n6_
          (try clear hb)
          (try clear hb2)
          (try clear hk)
          (try clear hi)
          refine hK.out _ _ ⟨(aC B362.out 0).trans rfl,(aC B362.out 1).trans rfl,(aC B362.out 2).trans rfl,(aC B362.out 3).trans rfl,(aC B363.out 0).trans rfl,(aC B363.out 1).trans rfl,(aC B363.out 2).trans rfl,(aC B363.out 3).trans rfl⟩ (fun hHeld => ?_)
          clear hK K
          refine norm_ (a':=?_) ?_ ?_
          rotate_left
          ·show Act.put _ (some 68) _ = _
           simp only [Act.put,sA,sZ,sS,i64_w,i32_w]
           rfl
          refine pure_ (i:=31) (N:=some 69) (v:=?_) (a':=?_) #[tt,tt,tt,tt,tt,tt,tt,tt,tt,tt,tt,tt,tt,tt,tt,tt,tt,tt,tt,tt,tt,tt,tt,tt,tt,tt,tt,tt,tt,tt,tt,tt,ff] rfl rfl (any_of HT_.out (by kernel_rfl)) (fun _ _ _ h => h) (Or.inl ⟨by rfl,?_⟩) ?_ ?_
          rotate_left
          ·intro w'
           go_simp
           with_reducible rfl
          rotate_left
          ·simp only [Act.put,sA,sZ,sS,i64_w,i32_w]
           rfl
          refine pure_ (i:=32) (N:=some 70) (v:=?_) (a':=?_) #[tt,tt,tt,tt,tt,tt,tt,tt,tt,tt,tt,tt,tt,tt,tt,tt,tt,tt,tt,tt,tt,tt,tt,tt,tt,tt,tt,tt,tt,tt,tt,tt,tt] rfl rfl (any_of HT_.out (by kernel_rfl)) (fun _ _ _ h => h) (Or.inl ⟨by rfl,?_⟩) ?_ ?_
          rotate_left
          ·intro w'
           go_simp
           with_reducible rfl
          rotate_left
          ·simp only [Act.put,sA,sZ,sS,i64_w,i32_w]
           rfl
          refine done_ (done_of HT_.out (by kernel_rfl)) ?_
          try go_wp2
          go_meet
          case rel => exact ⟨_,((t382 != t383)),(by first|rfl|(simp;done)|(simp [*];done)),H',⟨by have:=HJ3.out;first|omega|exact Nat.le_refl _⟩,⟨by (with_reducible repeat (first|apply zA|apply zN|apply zD));exact aM O371.out (fun _ hk => ⟨hk.1.1,hk.2⟩)⟩,⟨by (with_reducible repeat (first|apply zA|apply zN|apply zD));exact aM O375.out (fun _ hk => ⟨hk.1.1,hk.2⟩)⟩,⟨by (with_reducible repeat (first|apply vA|apply vN|apply vD));exact aN HO_363000.out (fun _ hk => ⟨hk.1.1.1,⟨hk.1.2,⟨hk.2,⟨hk.1.1.2.1,hk.1.1.2.2⟩⟩⟩⟩)⟩,⟨by (with_reducible repeat (first|apply vA|apply vN|apply vD));exact aN HO_364000.out (fun _ hk => ⟨hk.1.1.1,⟨hk.1.2,⟨hk.2,⟨hk.1.1.2.1,hk.1.1.2.2⟩⟩⟩⟩)⟩,⟨by (with_reducible repeat (first|refine bN ?_ _|refine bD ?_|refine bA ?_ _));exact B362.out⟩,⟨by (with_reducible repeat (first|refine bN ?_ _|refine bD ?_|refine bA ?_ _));exact B363.out⟩,⟨by repeat (first|(with_reducible first|exact HB.out|apply aA|apply aW|apply aD|refine aS ?_ E362.out|refine aS ?_ E363.out)|exact HB.out)⟩⟩
         ·replace c54:=Bool.eq_false_iff.mpr c54
          subst c54
          have H1 : (j1 kj3 l2 t369 t372 t373 t376 true l0_0 a0_1 a0_2 a0_3 l1_0 a1_1 a1_2 a1_3) = some r:=by rw [if_neg (show ¬ (false = true) by decide)] at H;exact H
          exact absurd H1 (by cases kj3 <;> simp [j1])
        ·rw [if_neg c52] at H
         exact absurd H (by cases kj3 <;> simp [j1])
       ·rw [if_neg c51] at H
        exact absurd H (by cases kj3 <;> simp [j1])
    case rest =>
     clear HC28
     try clear c1 p2
     try clear c51b0
     try clear c51b1
     try clear c52b0
     try clear c52b1
     try clear c52b2
     obtain ⟨kq,x70_27,rfl,HA,HJ27,HO_7,HO_9,HO_363000,HO_364000,B362,B363,HB⟩:=hcut
     cases kq with
     | zero => exact absurd HA.out (by simp [j1])
     | succ kj27 =>
      have H:=HA.out
      clear HA
      simp only [j1] at H
      by_cases c72 : x70_27 = true
      ·subst c72
       have H1 : (none) = some r:=by rw [if_pos rfl] at H;exact H
       clear H
       have H:=H1
       clear H1
       exact absurd H (by simp)
      ·replace c72:=Bool.eq_false_iff.mpr c72
       subst c72
       have H1 : (if t372 = 0 then ((edit_Parse.f t369).bind fun bt384 => (if bt384.2.2.2.2 = 0 then ((edit_Same.f kj27 bt384.1 bt384.2.1 bt384.2.2.1 bt384.2.2.2.1 l0_0 a0_1 a0_2 a0_3).bind fun t392 => (if t392 = true then (if t376 = 0 then ((ratlinelaw02_Same.f t369 t373).bind fun t393 => ((edit_Same.f kj27 l0_0 a0_1 a0_2 a0_3 l1_0 a1_1 a1_2 a1_3).bind fun t394 => (if (t393 != t394) = true then (none) else (j2 kj27 l2)))) else (j2 kj27 l2)) else (none))) else (none))) else (j2 kj27 l2)) = some r:=by rw [if_neg (show ¬ (false = true) by decide)] at H;exact H
       clear H
       have H:=H1
       clear H1
       have HC73:=aK H
       clear H
       go_upto_if 72 with (fail)
       go_cut [] (fun wc => ∃ (kq : Nat),Aside0 (j2 kq l2 = some r) ∧ Aside0 (kq ≤ kj27) ∧ Aside0 (Kd.V k62 62 wc w.heap.size (fun k_ => ((P0_0_ k_ ∨ P1_0_ k_) ∨ w.heap.size ≤ k_) ∧ k_ ≠ gb362 ∧ k_ ≠ gb363) (.slice A0_0 l0_0.length c0_0) l0_0) ∧ Aside0 (Kd.V k62 62 wc w.heap.size (fun k_ => ((P0_0_ k_ ∨ P1_0_ k_) ∨ w.heap.size ≤ k_) ∧ k_ ≠ gb362 ∧ k_ ≠ gb363) (.slice A1_0 l1_0.length c1_0) l1_0) ∧ Aside0 (wc.heap[gb362]? = some (.cells #[(.slice A0_0 l0_0.length c0_0),.int .u64 a0_1,.int .u64 a0_2,.int .u64 a0_3] 54 (0,0))) ∧ Aside0 (wc.heap[gb363]? = some (.cells #[(.slice A1_0 l1_0.length c1_0),.int .u64 a1_1,.int .u64 a1_2,.int .u64 a1_3] 54 (0,0))) ∧ Aside0 (Below w.heap.size w wc))
       case first =>
        have H:=HC73.out
        clear HC73
        by_cases c74 : t372 = 0
        rotate_left
        ·rw [if_neg c74] at H
         have c74b0 : (t372 == 0) = false:=beq_eq_false_iff_ne.mpr c74
         have c74b1 : (t372 != 0) = true:=bne_iff_ne.mpr c74
         (first|rw [c74b0]|(simp only [i64_w,i32_w];rw [c74b0])|skip)
         have H':=aK H
         clear H
         go_wp2
         go_meet
         case rel => exact ⟨_,H',⟨by have:=HJ3.out;have:=HJ27.out;first|omega|exact Nat.le_refl _⟩,⟨by (with_reducible repeat (first|apply vA|apply vN|apply vD));exact aN HO_363000.out (fun _ hk => ⟨hk.1,⟨hk.2.2.2.1,hk.2.2.2.2⟩⟩)⟩,⟨by (with_reducible repeat (first|apply vA|apply vN|apply vD));exact aN HO_364000.out (fun _ hk => ⟨hk.1,⟨hk.2.2.2.1,hk.2.2.2.2⟩⟩)⟩,⟨by (with_reducible repeat (first|refine bN ?_ _|refine bD ?_|refine bA ?_ _));exact B362.out⟩,⟨by (with_reducible repeat (first|refine bN ?_ _|refine bD ?_|refine bA ?_ _));exact B363.out⟩,⟨by repeat (first|(with_reducible first|exact HB.out|apply aA|apply aW|apply aD|refine aS ?_ E362.out|refine aS ?_ E363.out)|exact HB.out)⟩⟩
        rw [if_pos c74] at H
        have c74b0 : (t372 == 0) = true:=beq_iff_eq.mpr c74
        have c74b1 : (t372 != 0) = false:=bne_eq_false_iff_eq.mpr c74
        clear c74
        (first|rw [c74b0]|(simp only [i64_w,i32_w];rw [c74b0])|skip)
        replace H:=Option.bind_eq_some_iff.mp H
        obtain ⟨⟨t384,t387,t388,t389,t390⟩,A750,H⟩:=H
        replace H : (if t390 = 0 then ((edit_Same.f kj27 t384 t387 t388 t389 l0_0 a0_1 a0_2 a0_3).bind fun t392 => (if t392 = true then (if t376 = 0 then ((ratlinelaw02_Same.f t369 t373).bind fun t393 => ((edit_Same.f kj27 l0_0 a0_1 a0_2 a0_3 l1_0 a1_1 a1_2 a1_3).bind fun t394 => (if (t393 != t394) = true then (none) else (j2 kj27 l2)))) else (j2 kj27 l2)) else (none))) else (none)) = some r:=H
        have A75:=aK A750
        clear A750
        by_cases c76 : t390 = 0
        rotate_left
        ·rw [if_neg c76] at H
         exact absurd H (by simp)
        rw [if_pos c76] at H
        have c76b0 : (t390 == 0) = true:=beq_iff_eq.mpr c76
        have c76b1 : (t390 != 0) = false:=bne_eq_false_iff_eq.mpr c76
        clear c76
        replace H:=Option.bind_eq_some_iff.mp H
        obtain ⟨t392,A770,H⟩:=H
        replace H : (if t392 = true then (if t376 = 0 then ((ratlinelaw02_Same.f t369 t373).bind fun t393 => ((edit_Same.f kj27 l0_0 a0_1 a0_2 a0_3 l1_0 a1_1 a1_2 a1_3).bind fun t394 => (if (t393 != t394) = true then (none) else (j2 kj27 l2)))) else (j2 kj27 l2)) else (none)) = some r:=H
        have A77:=aK A770
        clear A770
        by_cases c78 : t392 = true
        rotate_left
        ·replace c78:=Bool.eq_false_iff.mpr c78
         subst c78
         have H1 : (none) = some r:=by rw [if_neg (show ¬ (false = true) by decide)] at H;exact H
         clear H
         have H:=H1
         clear H1
         exact absurd H (by simp)
        subst c78
        have H1 : (if t376 = 0 then ((ratlinelaw02_Same.f t369 t373).bind fun t393 => ((edit_Same.f kj27 l0_0 a0_1 a0_2 a0_3 l1_0 a1_1 a1_2 a1_3).bind fun t394 => (if (t393 != t394) = true then (none) else (j2 kj27 l2)))) else (j2 kj27 l2)) = some r:=by rw [if_pos rfl] at H;exact H
        clear H
        have H:=H1
        clear H1
        by_cases c79 : t376 = 0
        ·rw [if_pos c79] at H
         have c79b0 : (t376 == 0) = true:=beq_iff_eq.mpr c79
         have c79b1 : (t376 != 0) = false:=bne_eq_false_iff_eq.mpr c79
         clear c79
         replace H:=Option.bind_eq_some_iff.mp H
         obtain ⟨t393,A800,H⟩:=H
         replace H : ((edit_Same.f kj27 l0_0 a0_1 a0_2 a0_3 l1_0 a1_1 a1_2 a1_3).bind fun t394 => (if (t393 != t394) = true then (none) else (j2 kj27 l2))) = some r:=H
         have A80:=aK A800
         clear A800
         replace H:=Option.bind_eq_some_iff.mp H
         obtain ⟨t394,A810,H⟩:=H
         replace H : (if (t393 != t394) = true then (none) else (j2 kj27 l2)) = some r:=H
         have A81:=aK A810
         clear A810
         by_cases c82 : (t393 != t394) = true
         ·rw [if_pos c82] at H
          exact absurd H (by simp)
         ·rw [if_neg c82] at H
          have c82b0 : (t393 != t394) = false:=by simpa using c82
          (try (have c82b1 : decide (t393 = t394) = true:=by simpa using c82))
          (try (have c82b2 : (t393 == t394) = true:=by simpa using c82))
          clear c82
          have H':=aK H
          clear H
          obtain ⟨Ao83,co83,eo83⟩:=Kd.R_slice HO_7.out
          subst eo83
          try go_wp2_with (first|((with_reducible refine gate_callee (f:=37) rfl ?_);refine goesL_ (some 75) rfl rfl Try.func37 (by kernel_rfl) rfl #[.slice Ao83 t369.length co83] rfl (by (try simp only [List.map_toArray,List.map_cons,List.map_nil]);first|done|rfl|(simp only [List.length_drop,List.length_take];rfl)) ?_;(with_reducible refine (edit_Parse.calls _ _ t369 t384 t387 t388 t389 t390 _ ?side1 ?side2 A75.out).mono ?_);(case side1 => repeat (first|exact (aQ HO_7.out).2.2|(with_reducible refine aH ?_ _)|(with_reducible refine aG ?_ _)|(with_reducible refine aI ?_)));(case side2 => exact (aQ HO_7.out).2.1);rintro e w84 ⟨v385,rfl,ho0,hb⟩;refine ⟨_,rfl,?_⟩;have n0_:=aK (Kd.R_below (by (with_reducible repeat (first|apply zA|apply zN|apply zD));exact HO_7.out) hb);have n1_:=aK (Kd.R_below (by (with_reducible repeat (first|apply zA|apply zN|apply zD));exact HO_9.out) hb);have n2_:=aK (aV (by (with_reducible repeat (first|apply vA|apply vN|apply vD));exact HO_363000.out) (aJ ho0) hb);have n3_:=aK (aV (by (with_reducible repeat (first|apply vA|apply vN|apply vD));exact HO_364000.out) (aJ ho0) hb);have n4_:=aK (Kd.R_lower (Kd.R_newM (M:=fun k_ => (w.heap.size ≤ k_)) ho0 (aZ (by repeat (first|(with_reducible first|exact HB.out|apply aA|apply aW|apply aD|refine aS ?_ E362.out|refine aS ?_ E363.out)|exact HB.out))) (fun k_ h_ => h_)) (aZ (by repeat (first|(with_reducible first|exact HB.out|apply aA|apply aW|apply aD|refine aS ?_ E362.out|refine aS ?_ E363.out)|exact HB.out))));have n5_:=aK (aB (g:=gb362) (o:=.cells #[.slice A0_0 l0_0.length c0_0,.int .u64 a0_1,.int .u64 a0_2,.int .u64 a0_3] 54 (0,0)) (by (with_reducible repeat (first|refine bN ?_ _|refine bD ?_|refine bA ?_ _));exact B362.out) hb);have n6_:=aK (aB (g:=gb363) (o:=.cells #[.slice A1_0 l1_0.length c1_0,.int .u64 a1_1,.int .u64 a1_2,.int .u64 a1_3] 54 (0,0)) (by (with_reducible repeat (first|refine bN ?_ _|refine bD ?_|refine bA ?_ _));exact B363.out) hb);have n7_:=aK (aT (by repeat (first|(with_reducible first|exact HB.out|apply aA|apply aW|apply aD|refine aS ?_ E362.out|refine aS ?_ E363.out)|exact HB.out)) hb);clear HO_7;clear HO_9;clear HO_363000;clear HO_364000;clear B362;clear B363;clear HB;have HO_7:=n0_;have HO_9:=n1_;have HO_363000:=n2_;have HO_364000:=n3_;have O386:=n4_;have B362:=n5_;have B363:=n6_;have HB:=n7_;clear n0_ n1_ n2_ n3_ n4_ n5_ n6_ n7_;(try clear hb);skip;(try clear ho0))|((with_reducible refine gate_dst (N:=11) rfl ?_);(try (refine gate_guard (by rfl) ?_;dsimp only));refine box_event ?hg (N:=11) ?hd (cs:=#[.slice none 0 0,.int .u64 0,.int .u64 0,.int .u64 0]) (t:=54) ?hr ?_;(case hd => rfl);(case hg => rfl);(case hr => first|(go_simp;done)|(go_simp;rfl));intro gb391 hg w85 hbox hb;have n0_:=aK (Kd.R_below (by (with_reducible repeat (first|apply zA|apply zN|apply zD));exact HO_7.out) hb);have n1_:=aK (Kd.R_below (by (with_reducible repeat (first|apply zA|apply zN|apply zD));exact HO_9.out) hb);have n2_:=aK (Kd.V_below (Kd.V_elderB (by (with_reducible repeat (first|apply vA|apply vN|apply vD));exact HO_363000.out) gb391 (Nat.le_of_eq hg.symm)) hb);have n3_:=aK (Kd.V_below (Kd.V_elderB (by (with_reducible repeat (first|apply vA|apply vN|apply vD));exact HO_364000.out) gb391 (Nat.le_of_eq hg.symm)) hb);have n4_:=aK (Kd.R_below (by (with_reducible repeat (first|apply zA|apply zN|apply zD));exact O386.out) hb);have n5_:=aK (aB (g:=gb362) (o:=.cells #[.slice A0_0 l0_0.length c0_0,.int .u64 a0_1,.int .u64 a0_2,.int .u64 a0_3] 54 (0,0)) (by (with_reducible repeat (first|refine bN ?_ _|refine bD ?_|refine bA ?_ _));exact B362.out) hb);have n6_:=aK (aB (g:=gb363) (o:=.cells #[.slice A1_0 l1_0.length c1_0,.int .u64 a1_1,.int .u64 a1_2,.int .u64 a1_3] 54 (0,0)) (by (with_reducible repeat (first|refine bN ?_ _|refine bD ?_|refine bA ?_ _));exact B363.out) hb);have n7_:=aK (aT (by repeat (first|(with_reducible first|exact HB.out|apply aA|apply aW|apply aD|refine aS ?_ E362.out|refine aS ?_ E363.out)|exact HB.out)) hb);have n8_:=aK (hbox);have n9_:=aK ((by rw [hg];exact (aZ (by repeat (first|(with_reducible first|exact HB.out|apply aA|apply aW|apply aD|refine aS ?_ E362.out|refine aS ?_ E363.out)|exact HB.out))) : w.heap.size ≤ gb391));have n10_:=aK ((by rw [hg];exact (aZ (by repeat (first|(with_reducible first|exact HB.out|apply aA|apply aW|apply aD|refine aS ?_ E362.out|refine aS ?_ E363.out)|exact HB.out))) : w.heap.size ≤ gb391));have n11_:=aK ((by rw [hg];exact Nat.ne_of_lt (blk_lt (g:=gb362) (o:=.cells #[.slice A0_0 l0_0.length c0_0,.int .u64 a0_1,.int .u64 a0_2,.int .u64 a0_3] 54 (0,0)) (by (with_reducible repeat (first|refine bN ?_ _|refine bD ?_|refine bA ?_ _));exact B362.out)) : gb362 ≠ gb391));have n12_:=aK ((by rw [hg];exact Nat.ne_of_gt (blk_lt (g:=gb362) (o:=.cells #[.slice A0_0 l0_0.length c0_0,.int .u64 a0_1,.int .u64 a0_2,.int .u64 a0_3] 54 (0,0)) (by (with_reducible repeat (first|refine bN ?_ _|refine bD ?_|refine bA ?_ _));exact B362.out)) : gb391 ≠ gb362));have n13_:=aK ((by rw [hg];exact Nat.ne_of_lt (blk_lt (g:=gb363) (o:=.cells #[.slice A1_0 l1_0.length c1_0,.int .u64 a1_1,.int .u64 a1_2,.int .u64 a1_3] 54 (0,0)) (by (with_reducible repeat (first|refine bN ?_ _|refine bD ?_|refine bA ?_ _));exact B363.out)) : gb363 ≠ gb391));have n14_:=aK ((by rw [hg];exact Nat.ne_of_gt (blk_lt (g:=gb363) (o:=.cells #[.slice A1_0 l1_0.length c1_0,.int .u64 a1_1,.int .u64 a1_2,.int .u64 a1_3] 54 (0,0)) (by (with_reducible repeat (first|refine bN ?_ _|refine bD ?_|refine bA ?_ _));exact B363.out)) : gb391 ≠ gb363));clear HO_7;clear HO_9;clear HO_363000;clear HO_364000;clear O386;clear B362;clear B363;clear HB;have HO_7:=n0_;have HO_9:=n1_;have HO_363000:=n2_;have HO_364000:=n3_;have O386:=n4_;have B362:=n5_;have B363:=n6_;have HB:=n7_;have B391:=n8_;have W391:=n9_;have E391:=n10_;have N362_391:=n11_;have N391_362:=n12_;have N363_391:=n13_;have N391_363:=n14_;clear n0_ n1_ n2_ n3_ n4_ n5_ n6_ n7_ n8_ n9_ n10_ n11_ n12_ n13_ n14_;clear hb hbox hg;obtain ⟨Ao86,co86,eo86⟩:=Kd.R_slice O386.out;subst eo86;have hnb87:=N391_362.out;have hnc87:=N362_391.out;have hnb88:=N391_363.out;have hnc88:=N363_391.out;have z89_0 : w85.cell? ⟨gb391,0,none⟩ = some (.slice none 0 0):=(aC B391.out 0).trans rfl;have z89_1 : w85.cell? ⟨gb391,1,none⟩ = some (.int .u64 0):=(aC B391.out 1).trans rfl;have z89_2 : w85.cell? ⟨gb391,2,none⟩ = some (.int .u64 0):=(aC B391.out 2).trans rfl;have z89_3 : w85.cell? ⟨gb391,3,none⟩ = some (.int .u64 0):=(aC B391.out 3).trans rfl;have f89_0:=aF B391.out 0;have f89_1:=aF B391.out 1;have f89_2:=aF B391.out 2;have f89_3:=aF B391.out 3))
          have n0_ : Aside0 (Kd.R (Kd.int .u8) 5 ((((w85.setCell ⟨gb391,0,none⟩ (.slice Ao86 t384.length co86)).setCell ⟨gb391,1,none⟩ (.int .u64 t387)).setCell ⟨gb391,2,none⟩ (.int .u64 t388)).setCell ⟨gb391,3,none⟩ (.int .u64 t389)) w.heap.size (fun k_ => (w.heap.size ≤ k_) ∧ nO k_ v374) (.slice Ao83 t369.length co83) t369):=⟨by (with_reducible repeat (first|apply zA|apply zN|apply zD));exact aM (aY (p:=⟨gb391,3,none⟩) (aY (p:=⟨gb391,2,none⟩) (aY (p:=⟨gb391,1,none⟩) (aY (p:=⟨gb391,0,none⟩) (aP HO_7.out B391.out (by decide)) (fun _ hk => hk.2) (.slice Ao86 t384.length co86)) (fun _ hk => hk.2) (.int .u64 t387)) (fun _ hk => hk.2) (.int .u64 t388)) (fun _ hk => hk.2) (.int .u64 t389)) (fun _ hk => ⟨hk.1.1,hk.1.2⟩)⟩
          have n1_ : Aside0 (Kd.R (Kd.int .u8) 5 ((((w85.setCell ⟨gb391,0,none⟩ (.slice Ao86 t384.length co86)).setCell ⟨gb391,1,none⟩ (.int .u64 t387)).setCell ⟨gb391,2,none⟩ (.int .u64 t388)).setCell ⟨gb391,3,none⟩ (.int .u64 t389)) w.heap.size (fun k_ => (w.heap.size ≤ k_) ∧ nB k_ Ao83 t369.length co83) v374 t373):=⟨by (with_reducible repeat (first|apply zA|apply zN|apply zD));exact aM (aY (p:=⟨gb391,3,none⟩) (aY (p:=⟨gb391,2,none⟩) (aY (p:=⟨gb391,1,none⟩) (aY (p:=⟨gb391,0,none⟩) (aP HO_9.out B391.out (by decide)) (fun _ hk => hk.2) (.slice Ao86 t384.length co86)) (fun _ hk => hk.2) (.int .u64 t387)) (fun _ hk => hk.2) (.int .u64 t388)) (fun _ hk => hk.2) (.int .u64 t389)) (fun _ hk => ⟨hk.1.1,hk.1.2⟩)⟩
          have n2_ : Aside0 (Kd.V k62 62 ((((w85.setCell ⟨gb391,0,none⟩ (.slice Ao86 t384.length co86)).setCell ⟨gb391,1,none⟩ (.int .u64 t387)).setCell ⟨gb391,2,none⟩ (.int .u64 t388)).setCell ⟨gb391,3,none⟩ (.int .u64 t389)) w.heap.size (fun k_ => ((P0_0_ k_ ∨ P1_0_ k_) ∨ w.heap.size ≤ k_) ∧ nB k_ Ao83 t369.length co83 ∧ nO k_ v374 ∧ nB k_ Ao86 t384.length co86 ∧ k_ ≠ gb362 ∧ k_ ≠ gb363 ∧ k_ ≠ gb391) (.slice A0_0 l0_0.length c0_0) l0_0):=⟨by (with_reducible repeat (first|apply vA|apply vN|apply vD));exact aN (aU (p:=⟨gb391,3,none⟩) (aU (p:=⟨gb391,2,none⟩) (aU (p:=⟨gb391,1,none⟩) (aU (p:=⟨gb391,0,none⟩) (aN HO_363000.out (fun k_ hk => (⟨hk,hk.2⟩ : _ ∧ k_ ≠ gb391))) (fun _ hk => hk.2) (.slice Ao86 t384.length co86)) (fun _ hk => hk.2) (.int .u64 t387)) (fun _ hk => hk.2) (.int .u64 t388)) (fun _ hk => hk.2) (.int .u64 t389)) (fun _ hk => ⟨hk.1.1.1.1,⟨hk.1.1.1.2.1,⟨hk.1.1.1.2.2.1,⟨hk.1.1.2,⟨hk.1.1.1.2.2.2.1,⟨hk.1.1.1.2.2.2.2,hk.1.2⟩⟩⟩⟩⟩⟩)⟩
          have n3_ : Aside0 (Kd.V k62 62 ((((w85.setCell ⟨gb391,0,none⟩ (.slice Ao86 t384.length co86)).setCell ⟨gb391,1,none⟩ (.int .u64 t387)).setCell ⟨gb391,2,none⟩ (.int .u64 t388)).setCell ⟨gb391,3,none⟩ (.int .u64 t389)) w.heap.size (fun k_ => ((P0_0_ k_ ∨ P1_0_ k_) ∨ w.heap.size ≤ k_) ∧ nB k_ Ao83 t369.length co83 ∧ nO k_ v374 ∧ nB k_ Ao86 t384.length co86 ∧ k_ ≠ gb362 ∧ k_ ≠ gb363 ∧ k_ ≠ gb391) (.slice A1_0 l1_0.length c1_0) l1_0):=⟨by (with_reducible repeat (first|apply vA|apply vN|apply vD));exact aN (aU (p:=⟨gb391,3,none⟩) (aU (p:=⟨gb391,2,none⟩) (aU (p:=⟨gb391,1,none⟩) (aU (p:=⟨gb391,0,none⟩) (aN HO_364000.out (fun k_ hk => (⟨hk,hk.2⟩ : _ ∧ k_ ≠ gb391))) (fun _ hk => hk.2) (.slice Ao86 t384.length co86)) (fun _ hk => hk.2) (.int .u64 t387)) (fun _ hk => hk.2) (.int .u64 t388)) (fun _ hk => hk.2) (.int .u64 t389)) (fun _ hk => ⟨hk.1.1.1.1,⟨hk.1.1.1.2.1,⟨hk.1.1.1.2.2.1,⟨hk.1.1.2,⟨hk.1.1.1.2.2.2.1,⟨hk.1.1.1.2.2.2.2,hk.1.2⟩⟩⟩⟩⟩⟩)⟩
          have n4_ : Aside0 (Kd.R k62 62 ((((w85.setCell ⟨gb391,0,none⟩ (.slice Ao86 t384.length co86)).setCell ⟨gb391,1,none⟩ (.int .u64 t387)).setCell ⟨gb391,2,none⟩ (.int .u64 t388)).setCell ⟨gb391,3,none⟩ (.int .u64 t389)) w.heap.size (fun k_ => (w.heap.size ≤ k_)) (.slice Ao86 t384.length co86) t384):=⟨by (with_reducible repeat (first|apply zA|apply zN|apply zD));exact aM (aY (p:=⟨gb391,3,none⟩) (aY (p:=⟨gb391,2,none⟩) (aY (p:=⟨gb391,1,none⟩) (aY (p:=⟨gb391,0,none⟩) (aP O386.out B391.out (by decide)) (fun _ hk => hk.2) (.slice Ao86 t384.length co86)) (fun _ hk => hk.2) (.int .u64 t387)) (fun _ hk => hk.2) (.int .u64 t388)) (fun _ hk => hk.2) (.int .u64 t389)) (fun _ hk => hk.1.1)⟩
          have n5_ : Aside0 (((((w85.setCell ⟨gb391,0,none⟩ (.slice Ao86 t384.length co86)).setCell ⟨gb391,1,none⟩ (.int .u64 t387)).setCell ⟨gb391,2,none⟩ (.int .u64 t388)).setCell ⟨gb391,3,none⟩ (.int .u64 t389)).heap[gb362]? = some (.cells #[.slice A0_0 l0_0.length c0_0,.int .u64 a0_1,.int .u64 a0_2,.int .u64 a0_3] 54 (0,0))):=⟨by (with_reducible repeat (first|refine bN ?_ _|refine bD ?_|refine bA ?_ _));refine aX ?_ N362_391.out _;(with_reducible repeat (first|refine bN ?_ _|refine bD ?_|refine bA ?_ _));refine aX ?_ N362_391.out _;(with_reducible repeat (first|refine bN ?_ _|refine bD ?_|refine bA ?_ _));refine aX ?_ N362_391.out _;(with_reducible repeat (first|refine bN ?_ _|refine bD ?_|refine bA ?_ _));refine aX ?_ N362_391.out _;(with_reducible repeat (first|refine bN ?_ _|refine bD ?_|refine bA ?_ _));exact B362.out⟩
          have n6_ : Aside0 (((((w85.setCell ⟨gb391,0,none⟩ (.slice Ao86 t384.length co86)).setCell ⟨gb391,1,none⟩ (.int .u64 t387)).setCell ⟨gb391,2,none⟩ (.int .u64 t388)).setCell ⟨gb391,3,none⟩ (.int .u64 t389)).heap[gb363]? = some (.cells #[.slice A1_0 l1_0.length c1_0,.int .u64 a1_1,.int .u64 a1_2,.int .u64 a1_3] 54 (0,0))):=⟨by (with_reducible repeat (first|refine bN ?_ _|refine bD ?_|refine bA ?_ _));refine aX ?_ N363_391.out _;(with_reducible repeat (first|refine bN ?_ _|refine bD ?_|refine bA ?_ _));refine aX ?_ N363_391.out _;(with_reducible repeat (first|refine bN ?_ _|refine bD ?_|refine bA ?_ _));refine aX ?_ N363_391.out _;(with_reducible repeat (first|refine bN ?_ _|refine bD ?_|refine bA ?_ _));refine aX ?_ N363_391.out _;(with_reducible repeat (first|refine bN ?_ _|refine bD ?_|refine bA ?_ _));exact B363.out⟩
          have n7_ : Aside0 (((((w85.setCell ⟨gb391,0,none⟩ (.slice Ao86 t384.length co86)).setCell ⟨gb391,1,none⟩ (.int .u64 t387)).setCell ⟨gb391,2,none⟩ (.int .u64 t388)).setCell ⟨gb391,3,none⟩ (.int .u64 t389)).heap[gb391]? = some (.cells #[.slice Ao86 t384.length co86,.int .u64 t387,.int .u64 t388,.int .u64 t389] 54 (0,0))):=⟨by (with_reducible repeat (first|refine bN ?_ _|refine bD ?_|refine bA ?_ _));refine blk_put (cs:=#[.slice Ao86 t384.length co86,.int .u64 t387,.int .u64 t388,.int .u64 0]) ?_ 3 _ rfl;(with_reducible repeat (first|refine bN ?_ _|refine bD ?_|refine bA ?_ _));refine blk_put (cs:=#[.slice Ao86 t384.length co86,.int .u64 t387,.int .u64 0,.int .u64 0]) ?_ 2 _ rfl;(with_reducible repeat (first|refine bN ?_ _|refine bD ?_|refine bA ?_ _));refine blk_put (cs:=#[.slice Ao86 t384.length co86,.int .u64 0,.int .u64 0,.int .u64 0]) ?_ 1 _ rfl;(with_reducible repeat (first|refine bN ?_ _|refine bD ?_|refine bA ?_ _));refine blk_put (cs:=#[.slice none 0 0,.int .u64 0,.int .u64 0,.int .u64 0]) ?_ 0 _ rfl;(with_reducible repeat (first|refine bN ?_ _|refine bD ?_|refine bA ?_ _));exact B391.out⟩
          have n8_ : Aside0 (Below w.heap.size w ((((w85.setCell ⟨gb391,0,none⟩ (.slice Ao86 t384.length co86)).setCell ⟨gb391,1,none⟩ (.int .u64 t387)).setCell ⟨gb391,2,none⟩ (.int .u64 t388)).setCell ⟨gb391,3,none⟩ (.int .u64 t389))):=⟨by repeat (first|(with_reducible first|exact HB.out|apply aA|apply aW|apply aD|refine aS ?_ E362.out|refine aS ?_ E363.out|refine aS ?_ E391.out)|exact HB.out)⟩
          (try clear HO_7)
          (try clear HO_9)
          (try clear HO_363000)
          (try clear HO_364000)
          (try clear O386)
          (try clear B362)
          (try clear B363)
          (try clear B391)
          (try clear HB)
          generalize ((((w85.setCell ⟨gb391,0,none⟩ (.slice Ao86 t384.length co86)).setCell ⟨gb391,1,none⟩ (.int .u64 t387)).setCell ⟨gb391,2,none⟩ (.int .u64 t388)).setCell ⟨gb391,3,none⟩ (.int .u64 t389)) = w90 at n0_ n1_ n2_ n3_ n4_ n5_ n6_ n7_ n8_ ⊢
          have HO_7:=n0_
          have HO_9:=n1_
          have HO_363000:=n2_
          have HO_364000:=n3_
          have O386:=n4_
          have B362:=n5_
          have B363:=n6_
          have B391:=n7_
          have HB:=n8_
          clear n0_ n1_ n2_ n3_ n4_ n5_ n6_ n7_ n8_
          have n0_:=aK (Kd.R_drew HO_7.out)
          have n1_:=aK (Kd.R_drew HO_9.out)
          have n2_:=aK (Kd.V_drew HO_363000.out)
          have n3_:=aK (Kd.V_drew HO_364000.out)
          have n4_:=aK (Kd.R_drew O386.out)
          have n5_:=aK (blk_drew B362.out)
          have n6_:=aK (blk_drew B363.out)
          have n7_:=aK (blk_drew B391.out)
          have n8_:=aK (aD HB.out)
          clear HO_7
          clear HO_9
          clear HO_363000
          clear HO_364000
          clear O386
          clear B362
          clear B363
          clear B391
          clear HB
          have HO_7:=n0_
          have HO_9:=n1_
          have HO_363000:=n2_
          have HO_364000:=n3_
          have O386:=n4_
          have B362:=n5_
          have B363:=n6_
          have B391:=n7_
          have HB:=n8_
          clear n0_ n1_ n2_ n3_ n4_ n5_ n6_ n7_ n8_
          refine start_ (n:=21) (S:=fun w' => w'.cell? ⟨gb391,0,none⟩ = some (.slice Ao86 t384.length co86) ∧ w'.cell? ⟨gb391,1,none⟩ = some (.int .u64 t387) ∧ w'.cell? ⟨gb391,2,none⟩ = some (.int .u64 t388) ∧ w'.cell? ⟨gb391,3,none⟩ = some (.int .u64 t389) ∧ w'.cell? ⟨gb362,0,none⟩ = some (.slice A0_0 l0_0.length c0_0) ∧ w'.cell? ⟨gb362,1,none⟩ = some (.int .u64 a0_1) ∧ w'.cell? ⟨gb362,2,none⟩ = some (.int .u64 a0_2) ∧ w'.cell? ⟨gb362,3,none⟩ = some (.int .u64 a0_3) ∧ w'.cell? ⟨gb363,0,none⟩ = some (.slice A1_0 l1_0.length c1_0) ∧ w'.cell? ⟨gb363,1,none⟩ = some (.int .u64 a1_1) ∧ w'.cell? ⟨gb363,2,none⟩ = some (.int .u64 a1_2) ∧ w'.cell? ⟨gb363,3,none⟩ = some (.int .u64 a1_3)) (ds:=[]) #[ff,ff,ff,ff,ff,ff,ff,ff,ff,ff,ff,ff,ff,ff,ff,ff,ff,ff,ff,ff,ff] (by kernel_rfl) rfl rfl ⟨(aC B391.out 0).trans rfl,(aC B391.out 1).trans rfl,(aC B391.out 2).trans rfl,(aC B391.out 3).trans rfl,(aC B362.out 0).trans rfl,(aC B362.out 1).trans rfl,(aC B362.out 2).trans rfl,(aC B362.out 3).trans rfl,(aC B363.out 0).trans rfl,(aC B363.out 1).trans rfl,(aC B363.out 2).trans rfl,(aC B363.out 3).trans rfl⟩ (fun hHeld => ?_);refine with_tabW tab9 bits9 (fun HT_ HW_ => ?_)
          generalize w90.drew = w91 at HO_7 HO_9 HO_363000 HO_364000 O386 B362 B363 B391 HB hHeld ⊢
          refine pure_ (i:=0) (N:=some 78) (v:=?_) (a':=?_) #[tt,ff,ff,ff,ff,ff,ff,ff,ff,ff,ff,ff,ff,ff,ff,ff,ff,ff,ff,ff,ff] rfl rfl (any_of HT_.out (by kernel_rfl)) (fun _ _ _ h => h) (Or.inl ⟨by rfl,?_⟩) ?_ ?_
          rotate_left
          ·intro w'
           go_simp
           with_reducible rfl
          rotate_left
          ·simp only [Act.put,sA,sZ,sS,i64_w,i32_w]
           rfl
          refine pure_ (i:=1) (N:=some 79) (v:=?_) (a':=?_) #[tt,tt,ff,ff,ff,ff,ff,ff,ff,ff,ff,ff,ff,ff,ff,ff,ff,ff,ff,ff,ff] rfl rfl (any_of HT_.out (by kernel_rfl)) (fun _ _ _ h => h) (Or.inl ⟨by rfl,?_⟩) ?_ ?_
          rotate_left
          ·intro w'
           go_simp
           with_reducible rfl
          rotate_left
          ·simp only [Act.put,sA,sZ,sS,i64_w,i32_w]
           rfl
          refine pure_ (i:=2) (N:=some 80) (v:=?_) (a':=?_) #[tt,tt,tt,ff,ff,ff,ff,ff,ff,ff,ff,ff,ff,ff,ff,ff,ff,ff,ff,ff,ff] rfl rfl (any_of HT_.out (by kernel_rfl)) (fun _ _ _ h => h) (Or.inl ⟨by rfl,?_⟩) ?_ ?_
          rotate_left
          ·intro w'
           go_simp
           with_reducible rfl
          rotate_left
          ·simp only [Act.put,sA,sZ,sS,i64_w,i32_w]
           rfl
          refine take_ (i:=3) (N:=some 81) (v:=?_) (a':=?_) #[tt,tt,tt,tt,ff,ff,ff,ff,ff,ff,ff,ff,ff,ff,ff,ff,ff,ff,ff,ff,ff] rfl rfl (take_ofW HT_.out HW_.out (by kernel_rfl)) (fun _ _ _ h => h) (Or.inl ⟨by rfl,?_⟩) hHeld ?_ ?_
          rotate_left
          ·rintro w' ⟨s0,s1,s2,s3,s4,s5,s6,s7,s8,s9,s10,s11⟩
           go_simp
           with_reducible rfl
          rotate_left
          ·simp only [Act.put,sA,sZ,sS,i64_w,i32_w]
           rfl
          refine take_ (i:=4) (N:=some 82) (v:=?_) (a':=?_) #[tt,tt,tt,tt,tt,ff,ff,ff,ff,ff,ff,ff,ff,ff,ff,ff,ff,ff,ff,ff,ff] rfl rfl (take_ofW HT_.out HW_.out (by kernel_rfl)) (fun _ _ _ h => h) (Or.inl ⟨by rfl,?_⟩) hHeld ?_ ?_
          rotate_left
          ·rintro w' ⟨s0,s1,s2,s3,s4,s5,s6,s7,s8,s9,s10,s11⟩
           go_simp
           with_reducible rfl
          rotate_left
          ·simp only [Act.put,sA,sZ,sS,i64_w,i32_w]
           rfl
          refine one_ (i:=5) (N:=some 83) #[tt,tt,tt,tt,tt,tt,ff,ff,ff,ff,ff,ff,ff,ff,ff,ff,ff,ff,ff,ff,ff] rfl rfl (one_of HT_.out (by kernel_rfl)) (by decide) (fun K hK => ?_)
          refine goes_ Try.func36 (by kernel_rfl) rfl #[.agg #[.slice Ao86 t384.length co86,.int .u64 t387,.int .u64 t388,.int .u64 t389],.agg #[.slice A0_0 l0_0.length c0_0,.int .u64 a0_1,.int .u64 a0_2,.int .u64 a0_3]] (by rfl) rfl rfl (by (try simp only [List.map_toArray,List.map_cons,List.map_nil]);first|done|rfl|(simp only [List.length_drop,List.length_take];rfl)) ?_
          with_reducible refine (edit_Same.calls kj27 _ _ t384 t387 t388 t389 _ _ l0_0 a0_1 a0_2 a0_3 true _ ?side1 ?side2 ?side3 ?side4 A77.out).mono ?_
          (case side1 => repeat (first|exact (aQ O386.out).2.2|(with_reducible refine aH ?_ _)|(with_reducible refine aG ?_ _)|(with_reducible refine aI ?_)))
          (case side2 => exact (aQ O386.out).2.1)
          (case side3 => repeat (first|exact (aO HO_363000.out).2.2|(with_reducible refine aH ?_ _)|(with_reducible refine aG ?_ _)|(with_reducible refine aI ?_)))
          (case side4 => exact (aO HO_363000.out).2.1)
          rintro e w92 ⟨rfl,hb⟩
          refine ⟨_,rfl,?_⟩
          have n0_:=aK (Kd.R_below (by (with_reducible repeat (first|apply zA|apply zN|apply zD));exact HO_7.out) hb)
          have n1_:=aK (Kd.R_below (by (with_reducible repeat (first|apply zA|apply zN|apply zD));exact HO_9.out) hb)
          have n2_:=aK (Kd.V_below (by (with_reducible repeat (first|apply vA|apply vN|apply vD));exact HO_363000.out) hb)
          have n3_:=aK (Kd.V_below (by (with_reducible repeat (first|apply vA|apply vN|apply vD));exact HO_364000.out) hb)
          have n4_:=aK (Kd.R_below (by (with_reducible repeat (first|apply zA|apply zN|apply zD));exact O386.out) hb)
          have n5_:=aK (aB (g:=gb362) (o:=.cells #[.slice A0_0 l0_0.length c0_0,.int .u64 a0_1,.int .u64 a0_2,.int .u64 a0_3] 54 (0,0)) (by (with_reducible repeat (first|refine bN ?_ _|refine bD ?_|refine bA ?_ _));exact B362.out) hb)
          have n6_:=aK (aB (g:=gb363) (o:=.cells #[.slice A1_0 l1_0.length c1_0,.int .u64 a1_1,.int .u64 a1_2,.int .u64 a1_3] 54 (0,0)) (by (with_reducible repeat (first|refine bN ?_ _|refine bD ?_|refine bA ?_ _));exact B363.out) hb)
          have n7_:=aK (aB (g:=gb391) (o:=.cells #[.slice Ao86 t384.length co86,.int .u64 t387,.int .u64 t388,.int .u64 t389] 54 (0,0)) (by (with_reducible repeat (first|refine bN ?_ _|refine bD ?_|refine bA ?_ _));exact B391.out) hb)
          have n8_:=aK (aT (by repeat (first|(with_reducible first|exact HB.out|apply aA|apply aW|apply aD|refine aS ?_ E362.out|refine aS ?_ E363.out|refine aS ?_ E391.out)|exact HB.out)) hb)
          clear HO_7
          clear HO_9
          clear HO_363000
          clear HO_364000
          clear O386
          clear B362
          clear B363
          clear B391
          clear HB
          have HO_7:=n0_
          have HO_9:=n1_
          have HO_363000:=n2_
          have HO_364000:=n3_
          have O386:=n4_
          have B362:=n5_
          have B363:=n6_
          have B391:=n7_
          have HB:=n8_
          clear n0_ n1_ n2_ n3_ n4_ n5_ n6_ n7_ n8_
          (try clear hb)
          (try clear hb2)
          (try clear hk)
          (try clear hi)
          obtain ⟨Ao93,co93,eo93⟩:=Kd.R_slice HO_9.out
          (first|subst eo93|(injection eo93 with f1_ f2_ f3_;have f4_:=f1_.symm;have f5_:=f3_.symm;clear f1_ f2_ f3_;subst f4_;subst f5_))
          refine hK.out _ _ ⟨(aC B391.out 0).trans rfl,(aC B391.out 1).trans rfl,(aC B391.out 2).trans rfl,(aC B391.out 3).trans rfl,(aC B362.out 0).trans rfl,(aC B362.out 1).trans rfl,(aC B362.out 2).trans rfl,(aC B362.out 3).trans rfl,(aC B363.out 0).trans rfl,(aC B363.out 1).trans rfl,(aC B363.out 2).trans rfl,(aC B363.out 3).trans rfl⟩ (fun hHeld => ?_)
          clear hK K
          refine norm_ (a':=?_) ?_ ?_
          rotate_left
          ·show Act.put _ (some 83) _ = _
           simp only [Act.put,sA,sZ,sS,i64_w,i32_w]
           rfl
          refine pure_ (i:=6) (N:=some 84) (v:=?_) (a':=?_) #[tt,tt,tt,tt,tt,tt,tt,ff,ff,ff,ff,ff,ff,ff,ff,ff,ff,ff,ff,ff,ff] rfl rfl (any_of HT_.out (by kernel_rfl)) (fun _ _ _ h => h) (Or.inl ⟨by rfl,?_⟩) ?_ ?_
          rotate_left
          ·intro w'
           go_simp
           with_reducible rfl
          rotate_left
          ·simp only [Act.put,sA,sZ,sS,i64_w,i32_w]
           rfl
          refine pure_ (i:=7) (N:=some 85) (v:=?_) (a':=?_) #[tt,tt,tt,tt,tt,tt,tt,tt,ff,ff,ff,ff,ff,ff,ff,ff,ff,ff,ff,ff,ff] rfl rfl (any_of HT_.out (by kernel_rfl)) (fun _ _ _ h => h) (Or.inl ⟨by rfl,?_⟩) ?_ ?_
          rotate_left
          ·intro w'
           go_simp
           with_reducible rfl
          rotate_left
          ·simp only [Act.put,sA,sZ,sS,i64_w,i32_w]
           rfl
          refine pure_ (i:=8) (N:=some 86) (v:=?_) (a':=?_) #[tt,tt,tt,tt,tt,tt,tt,tt,tt,ff,ff,ff,ff,ff,ff,ff,ff,ff,ff,ff,ff] rfl rfl (any_of HT_.out (by kernel_rfl)) (fun _ _ _ h => h) (Or.inl ⟨by rfl,?_⟩) ?_ ?_
          rotate_left
          ·intro w'
           go_simp
           with_reducible rfl
          rotate_left
          ·simp only [Act.put,sA,sZ,sS,i64_w,i32_w]
           rfl
          refine pure_ (i:=9) (N:=some 87) (v:=?_) (a':=?_) #[tt,tt,tt,tt,tt,tt,tt,tt,tt,tt,ff,ff,ff,ff,ff,ff,ff,ff,ff,ff,ff] rfl rfl (any_of HT_.out (by kernel_rfl)) (fun _ _ _ h => h) (Or.inl ⟨by rfl,?_⟩) ?_ ?_
          rotate_left
          ·intro w'
           go_simp
           with_reducible rfl
          rotate_left
          ·simp only [Act.put,sA,sZ,sS,i64_w,i32_w]
           rfl
          refine pure_ (i:=10) (N:=some 88) (v:=?_) (a':=?_) #[tt,tt,tt,tt,tt,tt,tt,tt,tt,tt,tt,ff,ff,ff,ff,ff,ff,ff,ff,ff,ff] rfl rfl (any_of HT_.out (by kernel_rfl)) (fun _ _ _ h => h) (Or.inl ⟨by rfl,?_⟩) ?_ ?_
          rotate_left
          ·intro w'
           go_simp
           with_reducible rfl
          rotate_left
          ·simp only [Act.put,sA,sZ,sS,i64_w,i32_w]
           rfl
          refine pure_ (i:=11) (N:=some 89) (v:=?_) (a':=?_) #[tt,tt,tt,tt,tt,tt,tt,tt,tt,tt,tt,tt,ff,ff,ff,ff,ff,ff,ff,ff,ff] rfl rfl (any_of HT_.out (by kernel_rfl)) (fun _ _ _ h => h) (Or.inl ⟨by rfl,?_⟩) ?_ ?_
          rotate_left
          ·intro w'
           go_simp
           with_reducible rfl
          rotate_left
          ·simp only [Act.put,sA,sZ,sS,i64_w,i32_w]
           rfl
          refine pure_ (i:=12) (N:=some 90) (v:=?_) (a':=?_) #[tt,tt,tt,tt,tt,tt,tt,tt,tt,tt,tt,tt,tt,ff,ff,ff,ff,ff,ff,ff,ff] rfl rfl (any_of HT_.out (by kernel_rfl)) (fun _ _ _ h => h) (Or.inl ⟨by rfl,?_⟩) ?_ ?_
          rotate_left
          ·intro w'
           go_simp
           with_reducible rfl
          rotate_left
          ·simp only [Act.put,sA,sZ,sS,i64_w,i32_w]
           rfl
          refine pure_ (i:=13) (N:=some 91) (v:=?_) (a':=?_) #[tt,tt,tt,tt,tt,tt,tt,tt,tt,tt,tt,tt,tt,tt,ff,ff,ff,ff,ff,ff,ff] rfl rfl (any_of HT_.out (by kernel_rfl)) (fun _ _ _ h => h) (Or.inl ⟨by rfl,?_⟩) ?_ ?_
          rotate_left
          ·intro w'
           go_simp
           with_reducible rfl
          rotate_left
          ·simp only [Act.put,sA,sZ,sS,i64_w,i32_w]
           rfl
          refine take_ (i:=15) (N:=some 93) (v:=?_) (a':=?_) #[tt,tt,tt,tt,tt,tt,tt,tt,tt,tt,tt,tt,tt,tt,ff,tt,ff,ff,ff,ff,ff] rfl rfl (take_ofW HT_.out HW_.out (by kernel_rfl)) (fun _ _ _ h => h) (Or.inl ⟨by rfl,?_⟩) hHeld ?_ ?_
          rotate_left
          ·rintro w' ⟨s0,s1,s2,s3,s4,s5,s6,s7,s8,s9,s10,s11⟩
           go_simp
           with_reducible rfl
          rotate_left
          ·simp only [Act.put,sA,sZ,sS,i64_w,i32_w]
           rfl
          refine take_ (i:=16) (N:=some 94) (v:=?_) (a':=?_) #[tt,tt,tt,tt,tt,tt,tt,tt,tt,tt,tt,tt,tt,tt,ff,tt,tt,ff,ff,ff,ff] rfl rfl (take_ofW HT_.out HW_.out (by kernel_rfl)) (fun _ _ _ h => h) (Or.inl ⟨by rfl,?_⟩) hHeld ?_ ?_
          rotate_left
          ·rintro w' ⟨s0,s1,s2,s3,s4,s5,s6,s7,s8,s9,s10,s11⟩
           go_simp
           with_reducible rfl
          rotate_left
          ·simp only [Act.put,sA,sZ,sS,i64_w,i32_w]
           rfl
          refine one_ (i:=14) (N:=some 92) #[tt,tt,tt,tt,tt,tt,tt,tt,tt,tt,tt,tt,tt,tt,tt,tt,tt,ff,ff,ff,ff] rfl rfl (one_of HT_.out (by kernel_rfl)) (by decide) (fun K hK => ?_)
          refine goes_ Try.func19 (by kernel_rfl) rfl #[.slice Ao83 t369.length co83,.slice Ao93 t373.length co93] (by rfl) rfl rfl (by (try simp only [List.map_toArray,List.map_cons,List.map_nil]);first|done|rfl|(simp only [List.length_drop,List.length_take];rfl)) ?_
          with_reducible refine (ratlinelaw02_Same.calls _ _ t369 _ _ t373 t393 _ ?side1 ?side2 ?side3 ?side4 A80.out).mono ?_
          (case side1 => repeat (first|exact (aQ HO_7.out).2.2|(with_reducible refine aH ?_ _)|(with_reducible refine aG ?_ _)|(with_reducible refine aI ?_)))
          (case side2 => exact (aQ HO_7.out).2.1)
          (case side3 => repeat (first|exact (aQ HO_9.out).2.2|(with_reducible refine aH ?_ _)|(with_reducible refine aG ?_ _)|(with_reducible refine aI ?_)))
          (case side4 => exact (aQ HO_9.out).2.1)
          rintro e w' ⟨rfl,⟨nd,rfl⟩⟩
          refine ⟨_,rfl,?_⟩
          refine hK.out _ _ ⟨(aC B391.out 0).trans rfl,(aC B391.out 1).trans rfl,(aC B391.out 2).trans rfl,(aC B391.out 3).trans rfl,(aC B362.out 0).trans rfl,(aC B362.out 1).trans rfl,(aC B362.out 2).trans rfl,(aC B362.out 3).trans rfl,(aC B363.out 0).trans rfl,(aC B363.out 1).trans rfl,(aC B363.out 2).trans rfl,(aC B363.out 3).trans rfl⟩ (fun hHeld => ?_)
          clear hK K
          refine norm_ (a':=?_) ?_ ?_
          rotate_left
          ·show Act.put _ (some 92) _ = _
           simp only [Act.put,sA,sZ,sS,i64_w,i32_w]
           rfl
          refine one_ (i:=17) (N:=some 95) #[tt,tt,tt,tt,tt,tt,tt,tt,tt,tt,tt,tt,tt,tt,tt,tt,tt,tt,ff,ff,ff] rfl rfl (one_of HT_.out (by kernel_rfl)) (by decide) (fun K hK => ?_)
          refine goes_ Try.func36 (by kernel_rfl) rfl #[.agg #[.slice A0_0 l0_0.length c0_0,.int .u64 a0_1,.int .u64 a0_2,.int .u64 a0_3],.agg #[.slice A1_0 l1_0.length c1_0,.int .u64 a1_1,.int .u64 a1_2,.int .u64 a1_3]] (by rfl) rfl rfl (by (try simp only [List.map_toArray,List.map_cons,List.map_nil]);first|done|rfl|(simp only [List.length_drop,List.length_take];rfl)) ?_
          with_reducible refine (edit_Same.calls kj27 _ _ l0_0 a0_1 a0_2 a0_3 _ _ l1_0 a1_1 a1_2 a1_3 t394 _ ?side1 ?side2 ?side3 ?side4 A81.out).mono ?_
          (case side1 => repeat (first|exact (aO HO_363000.out).2.2|(with_reducible refine aH ?_ _)|(with_reducible refine aG ?_ _)|(with_reducible refine aI ?_)))
          (case side2 => exact (aO HO_363000.out).2.1)
          (case side3 => repeat (first|exact (aO HO_364000.out).2.2|(with_reducible refine aH ?_ _)|(with_reducible refine aG ?_ _)|(with_reducible refine aI ?_)))
          (case side4 => exact (aO HO_364000.out).2.1)
          rintro e w94 ⟨rfl,hb⟩
          refine ⟨_,rfl,?_⟩
          have n0_:=aK (Kd.R_below (by (with_reducible repeat (first|apply zA|apply zN|apply zD));exact HO_7.out) hb)
          have n1_:=aK (Kd.R_below (by (with_reducible repeat (first|apply zA|apply zN|apply zD));exact HO_9.out) hb)
          have n2_:=aK (Kd.V_below (by (with_reducible repeat (first|apply vA|apply vN|apply vD));exact HO_363000.out) hb)
          have n3_:=aK (Kd.V_below (by (with_reducible repeat (first|apply vA|apply vN|apply vD));exact HO_364000.out) hb)
          have n4_:=aK (Kd.R_below (by (with_reducible repeat (first|apply zA|apply zN|apply zD));exact O386.out) hb)
          have n5_:=aK (aB (g:=gb362) (o:=.cells #[.slice A0_0 l0_0.length c0_0,.int .u64 a0_1,.int .u64 a0_2,.int .u64 a0_3] 54 (0,0)) (by (with_reducible repeat (first|refine bN ?_ _|refine bD ?_|refine bA ?_ _));exact B362.out) hb)
          have n6_:=aK (aB (g:=gb363) (o:=.cells #[.slice A1_0 l1_0.length c1_0,.int .u64 a1_1,.int .u64 a1_2,.int .u64 a1_3] 54 (0,0)) (by (with_reducible repeat (first|refine bN ?_ _|refine bD ?_|refine bA ?_ _));exact B363.out) hb)
          have n7_:=aK (aB (g:=gb391) (o:=.cells #[.slice Ao86 t384.length co86,.int .u64 t387,.int .u64 t388,.int .u64 t389] 54 (0,0)) (by (with_reducible repeat (first|refine bN ?_ _|refine bD ?_|refine bA ?_ _));exact B391.out) hb)
          have n8_:=aK (aT (by repeat (first|(with_reducible first|exact HB.out|apply aA|apply aW|apply aD|refine aS ?_ E362.out|refine aS ?_ E363.out|refine aS ?_ E391.out)|exact HB.out)) hb)
          clear HO_7
          clear HO_9
          clear HO_363000
          clear HO_364000
          clear O386
          clear B362
          clear B363
          clear B391
          clear HB
          have HO_7:=n0_
          have HO_9:=n1_
          have HO_363000:=n2_
          have HO_364000:=n3_
          have O386:=n4_
          have B362:=n5_
          have B363:=n6_
          have B391:=n7_
          have HB:=n8_
          clear n0_ n1_ n2_ n3_ n4_ n5_ n6_ n7_ n8_
          (try clear hb)
          (try clear hb2)
          (try clear hk)
          (try clear hi)
          refine hK.out _ _ ⟨(aC B391.out 0).trans rfl,(aC B391.out 1).trans rfl,(aC B391.out 2).trans rfl,(aC B391.out 3).trans rfl,(aC B362.out 0).trans rfl,(aC B362.out 1).trans rfl,(aC B362.out 2).trans rfl,(aC B362.out 3).trans rfl,(aC B363.out 0).trans rfl,(aC B363.out 1).trans rfl,(aC B363.out 2).trans rfl,(aC B363.out 3).trans rfl⟩ (fun hHeld => ?_)
          clear hK K
          refine norm_ (a':=?_) ?_ ?_
          rotate_left
          ·show Act.put _ (some 95) _ = _
           simp only [Act.put,sA,sZ,sS,i64_w,i32_w]
           rfl
          refine pure_ (i:=18) (N:=some 96) (v:=?_) (a':=?_) #[tt,tt,tt,tt,tt,tt,tt,tt,tt,tt,tt,tt,tt,tt,tt,tt,tt,tt,tt,ff,ff] rfl rfl (any_of HT_.out (by kernel_rfl)) (fun _ _ _ h => h) (Or.inl ⟨by rfl,?_⟩) ?_ ?_
          rotate_left
          ·intro w'
           go_simp
           with_reducible rfl
          rotate_left
          ·simp only [Act.put,sA,sZ,sS,i64_w,i32_w]
           rfl
          refine pure_ (i:=19) (N:=some 97) (v:=?_) (a':=?_) #[tt,tt,tt,tt,tt,tt,tt,tt,tt,tt,tt,tt,tt,tt,tt,tt,tt,tt,tt,tt,ff] rfl rfl (any_of HT_.out (by kernel_rfl)) (fun _ _ _ h => h) (Or.inl ⟨by rfl,?_⟩) ?_ ?_
          rotate_left
          ·intro w'
           go_simp
           with_reducible rfl
          rotate_left
          ·simp only [Act.put,sA,sZ,sS,i64_w,i32_w]
           rfl
          refine pure_ (i:=20) (N:=some 98) (v:=?_) (a':=?_) #[tt,tt,tt,tt,tt,tt,tt,tt,tt,tt,tt,tt,tt,tt,tt,tt,tt,tt,tt,tt,tt] rfl rfl (any_of HT_.out (by kernel_rfl)) (fun _ _ _ h => h) (Or.inl ⟨by rfl,?_⟩) ?_ ?_
          rotate_left
          ·intro w'
           go_simp
           with_reducible rfl
          rotate_left
          ·simp only [Act.put,sA,sZ,sS,i64_w,i32_w]
           rfl
          refine done_ (done_of HT_.out (by kernel_rfl)) ?_
          try go_wp2
          go_meet
          case rel => exact ⟨_,H',⟨by have:=HJ3.out;have:=HJ27.out;first|omega|exact Nat.le_refl _⟩,⟨by (with_reducible repeat (first|apply vA|apply vN|apply vD));exact aN HO_363000.out (fun _ hk => ⟨hk.1,⟨hk.2.2.2.2.1,hk.2.2.2.2.2.1⟩⟩)⟩,⟨by (with_reducible repeat (first|apply vA|apply vN|apply vD));exact aN HO_364000.out (fun _ hk => ⟨hk.1,⟨hk.2.2.2.2.1,hk.2.2.2.2.2.1⟩⟩)⟩,⟨by (with_reducible repeat (first|refine bN ?_ _|refine bD ?_|refine bA ?_ _));exact B362.out⟩,⟨by (with_reducible repeat (first|refine bN ?_ _|refine bD ?_|refine bA ?_ _));exact B363.out⟩,⟨by repeat (first|(with_reducible first|exact HB.out|apply aA|apply aW|apply aD|refine aS ?_ E362.out|refine aS ?_ E363.out|refine aS ?_ E391.out)|exact HB.out)⟩⟩
        ·rw [if_neg c79] at H
         have c79b0 : (t376 == 0) = false:=beq_eq_false_iff_ne.mpr c79
         have c79b1 : (t376 != 0) = true:=bne_iff_ne.mpr c79
         have H':=aK H
         clear H
         obtain ⟨Ao95,co95,eo95⟩:=Kd.R_slice HO_7.out
         subst eo95
         try go_wp2_with (first|((with_reducible refine gate_callee (f:=37) rfl ?_);refine goesL_ (some 75) rfl rfl Try.func37 (by kernel_rfl) rfl #[.slice Ao95 t369.length co95] rfl (by (try simp only [List.map_toArray,List.map_cons,List.map_nil]);first|done|rfl|(simp only [List.length_drop,List.length_take];rfl)) ?_;(with_reducible refine (edit_Parse.calls _ _ t369 t384 t387 t388 t389 t390 _ ?side1 ?side2 A75.out).mono ?_);(case side1 => repeat (first|exact (aQ HO_7.out).2.2|(with_reducible refine aH ?_ _)|(with_reducible refine aG ?_ _)|(with_reducible refine aI ?_)));(case side2 => exact (aQ HO_7.out).2.1);rintro e w96 ⟨v385,rfl,ho0,hb⟩;refine ⟨_,rfl,?_⟩;have n0_:=aK (Kd.R_below (by (with_reducible repeat (first|apply zA|apply zN|apply zD));exact HO_7.out) hb);have n1_:=aK (Kd.R_below (by (with_reducible repeat (first|apply zA|apply zN|apply zD));exact HO_9.out) hb);have n2_:=aK (aV (by (with_reducible repeat (first|apply vA|apply vN|apply vD));exact HO_363000.out) (aJ ho0) hb);have n3_:=aK (aV (by (with_reducible repeat (first|apply vA|apply vN|apply vD));exact HO_364000.out) (aJ ho0) hb);have n4_:=aK (Kd.R_lower (Kd.R_newM (M:=fun k_ => (w.heap.size ≤ k_)) ho0 (aZ (by repeat (first|(with_reducible first|exact HB.out|apply aA|apply aW|apply aD|refine aS ?_ E362.out|refine aS ?_ E363.out)|exact HB.out))) (fun k_ h_ => h_)) (aZ (by repeat (first|(with_reducible first|exact HB.out|apply aA|apply aW|apply aD|refine aS ?_ E362.out|refine aS ?_ E363.out)|exact HB.out))));have n5_:=aK (aB (g:=gb362) (o:=.cells #[.slice A0_0 l0_0.length c0_0,.int .u64 a0_1,.int .u64 a0_2,.int .u64 a0_3] 54 (0,0)) (by (with_reducible repeat (first|refine bN ?_ _|refine bD ?_|refine bA ?_ _));exact B362.out) hb);have n6_:=aK (aB (g:=gb363) (o:=.cells #[.slice A1_0 l1_0.length c1_0,.int .u64 a1_1,.int .u64 a1_2,.int .u64 a1_3] 54 (0,0)) (by (with_reducible repeat (first|refine bN ?_ _|refine bD ?_|refine bA ?_ _));exact B363.out) hb);have n7_:=aK (aT (by repeat (first|(with_reducible first|exact HB.out|apply aA|apply aW|apply aD|refine aS ?_ E362.out|refine aS ?_ E363.out)|exact HB.out)) hb);clear HO_7;clear HO_9;clear HO_363000;clear HO_364000;clear B362;clear B363;clear HB;have HO_7:=n0_;have HO_9:=n1_;have HO_363000:=n2_;have HO_364000:=n3_;have O386:=n4_;have B362:=n5_;have B363:=n6_;have HB:=n7_;clear n0_ n1_ n2_ n3_ n4_ n5_ n6_ n7_;(try clear hb);skip;(try clear ho0))|((with_reducible refine gate_dst (N:=11) rfl ?_);(try (refine gate_guard (by rfl) ?_;dsimp only));refine box_event ?hg (N:=11) ?hd (cs:=#[.slice none 0 0,.int .u64 0,.int .u64 0,.int .u64 0]) (t:=54) ?hr ?_;(case hd => rfl);(case hg => rfl);(case hr => first|(go_simp;done)|(go_simp;rfl));intro gb391 hg w97 hbox hb;have n0_:=aK (Kd.R_below (by (with_reducible repeat (first|apply zA|apply zN|apply zD));exact HO_7.out) hb);have n1_:=aK (Kd.R_below (by (with_reducible repeat (first|apply zA|apply zN|apply zD));exact HO_9.out) hb);have n2_:=aK (Kd.V_below (Kd.V_elderB (by (with_reducible repeat (first|apply vA|apply vN|apply vD));exact HO_363000.out) gb391 (Nat.le_of_eq hg.symm)) hb);have n3_:=aK (Kd.V_below (Kd.V_elderB (by (with_reducible repeat (first|apply vA|apply vN|apply vD));exact HO_364000.out) gb391 (Nat.le_of_eq hg.symm)) hb);have n4_:=aK (Kd.R_below (by (with_reducible repeat (first|apply zA|apply zN|apply zD));exact O386.out) hb);have n5_:=aK (aB (g:=gb362) (o:=.cells #[.slice A0_0 l0_0.length c0_0,.int .u64 a0_1,.int .u64 a0_2,.int .u64 a0_3] 54 (0,0)) (by (with_reducible repeat (first|refine bN ?_ _|refine bD ?_|refine bA ?_ _));exact B362.out) hb);have n6_:=aK (aB (g:=gb363) (o:=.cells #[.slice A1_0 l1_0.length c1_0,.int .u64 a1_1,.int .u64 a1_2,.int .u64 a1_3] 54 (0,0)) (by (with_reducible repeat (first|refine bN ?_ _|refine bD ?_|refine bA ?_ _));exact B363.out) hb);have n7_:=aK (aT (by repeat (first|(with_reducible first|exact HB.out|apply aA|apply aW|apply aD|refine aS ?_ E362.out|refine aS ?_ E363.out)|exact HB.out)) hb);have n8_:=aK (hbox);have n9_:=aK ((by rw [hg];exact (aZ (by repeat (first|(with_reducible first|exact HB.out|apply aA|apply aW|apply aD|refine aS ?_ E362.out|refine aS ?_ E363.out)|exact HB.out))) : w.heap.size ≤ gb391));have n10_:=aK ((by rw [hg];exact (aZ (by repeat (first|(with_reducible first|exact HB.out|apply aA|apply aW|apply aD|refine aS ?_ E362.out|refine aS ?_ E363.out)|exact HB.out))) : w.heap.size ≤ gb391));have n11_:=aK ((by rw [hg];exact Nat.ne_of_lt (blk_lt (g:=gb362) (o:=.cells #[.slice A0_0 l0_0.length c0_0,.int .u64 a0_1,.int .u64 a0_2,.int .u64 a0_3] 54 (0,0)) (by (with_reducible repeat (first|refine bN ?_ _|refine bD ?_|refine bA ?_ _));exact B362.out)) : gb362 ≠ gb391));have n12_:=aK ((by rw [hg];exact Nat.ne_of_gt (blk_lt (g:=gb362) (o:=.cells #[.slice A0_0 l0_0.length c0_0,.int .u64 a0_1,.int .u64 a0_2,.int .u64 a0_3] 54 (0,0)) (by (with_reducible repeat (first|refine bN ?_ _|refine bD ?_|refine bA ?_ _));exact B362.out)) : gb391 ≠ gb362));have n13_:=aK ((by rw [hg];exact Nat.ne_of_lt (blk_lt (g:=gb363) (o:=.cells #[.slice A1_0 l1_0.length c1_0,.int .u64 a1_1,.int .u64 a1_2,.int .u64 a1_3] 54 (0,0)) (by (with_reducible repeat (first|refine bN ?_ _|refine bD ?_|refine bA ?_ _));exact B363.out)) : gb363 ≠ gb391));have n14_:=aK ((by rw [hg];exact Nat.ne_of_gt (blk_lt (g:=gb363) (o:=.cells #[.slice A1_0 l1_0.length c1_0,.int .u64 a1_1,.int .u64 a1_2,.int .u64 a1_3] 54 (0,0)) (by (with_reducible repeat (first|refine bN ?_ _|refine bD ?_|refine bA ?_ _));exact B363.out)) : gb391 ≠ gb363));clear HO_7;clear HO_9;clear HO_363000;clear HO_364000;clear O386;clear B362;clear B363;clear HB;have HO_7:=n0_;have HO_9:=n1_;have HO_363000:=n2_;have HO_364000:=n3_;have O386:=n4_;have B362:=n5_;have B363:=n6_;have HB:=n7_;have B391:=n8_;have W391:=n9_;have E391:=n10_;have N362_391:=n11_;have N391_362:=n12_;have N363_391:=n13_;have N391_363:=n14_;clear n0_ n1_ n2_ n3_ n4_ n5_ n6_ n7_ n8_ n9_ n10_ n11_ n12_ n13_ n14_;clear hb hbox hg;obtain ⟨Ao98,co98,eo98⟩:=Kd.R_slice O386.out;subst eo98;have hnb99:=N391_362.out;have hnc99:=N362_391.out;have hnb100:=N391_363.out;have hnc100:=N363_391.out;have z101_0 : w97.cell? ⟨gb391,0,none⟩ = some (.slice none 0 0):=(aC B391.out 0).trans rfl;have z101_1 : w97.cell? ⟨gb391,1,none⟩ = some (.int .u64 0):=(aC B391.out 1).trans rfl;have z101_2 : w97.cell? ⟨gb391,2,none⟩ = some (.int .u64 0):=(aC B391.out 2).trans rfl;have z101_3 : w97.cell? ⟨gb391,3,none⟩ = some (.int .u64 0):=(aC B391.out 3).trans rfl;have f101_0:=aF B391.out 0;have f101_1:=aF B391.out 1;have f101_2:=aF B391.out 2;have f101_3:=aF B391.out 3))
         have n0_ : Aside0 (Kd.R (Kd.int .u8) 5 ((((w97.setCell ⟨gb391,0,none⟩ (.slice Ao98 t384.length co98)).setCell ⟨gb391,1,none⟩ (.int .u64 t387)).setCell ⟨gb391,2,none⟩ (.int .u64 t388)).setCell ⟨gb391,3,none⟩ (.int .u64 t389)) w.heap.size (fun k_ => (w.heap.size ≤ k_) ∧ nO k_ v374) (.slice Ao95 t369.length co95) t369):=⟨by (with_reducible repeat (first|apply zA|apply zN|apply zD));exact aM (aY (p:=⟨gb391,3,none⟩) (aY (p:=⟨gb391,2,none⟩) (aY (p:=⟨gb391,1,none⟩) (aY (p:=⟨gb391,0,none⟩) (aP HO_7.out B391.out (by decide)) (fun _ hk => hk.2) (.slice Ao98 t384.length co98)) (fun _ hk => hk.2) (.int .u64 t387)) (fun _ hk => hk.2) (.int .u64 t388)) (fun _ hk => hk.2) (.int .u64 t389)) (fun _ hk => ⟨hk.1.1,hk.1.2⟩)⟩
         have n1_ : Aside0 (Kd.R (Kd.int .u8) 5 ((((w97.setCell ⟨gb391,0,none⟩ (.slice Ao98 t384.length co98)).setCell ⟨gb391,1,none⟩ (.int .u64 t387)).setCell ⟨gb391,2,none⟩ (.int .u64 t388)).setCell ⟨gb391,3,none⟩ (.int .u64 t389)) w.heap.size (fun k_ => (w.heap.size ≤ k_) ∧ nB k_ Ao95 t369.length co95) v374 t373):=⟨by (with_reducible repeat (first|apply zA|apply zN|apply zD));exact aM (aY (p:=⟨gb391,3,none⟩) (aY (p:=⟨gb391,2,none⟩) (aY (p:=⟨gb391,1,none⟩) (aY (p:=⟨gb391,0,none⟩) (aP HO_9.out B391.out (by decide)) (fun _ hk => hk.2) (.slice Ao98 t384.length co98)) (fun _ hk => hk.2) (.int .u64 t387)) (fun _ hk => hk.2) (.int .u64 t388)) (fun _ hk => hk.2) (.int .u64 t389)) (fun _ hk => ⟨hk.1.1,hk.1.2⟩)⟩
         have n2_ : Aside0 (Kd.V k62 62 ((((w97.setCell ⟨gb391,0,none⟩ (.slice Ao98 t384.length co98)).setCell ⟨gb391,1,none⟩ (.int .u64 t387)).setCell ⟨gb391,2,none⟩ (.int .u64 t388)).setCell ⟨gb391,3,none⟩ (.int .u64 t389)) w.heap.size (fun k_ => ((P0_0_ k_ ∨ P1_0_ k_) ∨ w.heap.size ≤ k_) ∧ nB k_ Ao95 t369.length co95 ∧ nO k_ v374 ∧ nB k_ Ao98 t384.length co98 ∧ k_ ≠ gb362 ∧ k_ ≠ gb363 ∧ k_ ≠ gb391) (.slice A0_0 l0_0.length c0_0) l0_0):=⟨by (with_reducible repeat (first|apply vA|apply vN|apply vD));exact aN (aU (p:=⟨gb391,3,none⟩) (aU (p:=⟨gb391,2,none⟩) (aU (p:=⟨gb391,1,none⟩) (aU (p:=⟨gb391,0,none⟩) (aN HO_363000.out (fun k_ hk => (⟨hk,hk.2⟩ : _ ∧ k_ ≠ gb391))) (fun _ hk => hk.2) (.slice Ao98 t384.length co98)) (fun _ hk => hk.2) (.int .u64 t387)) (fun _ hk => hk.2) (.int .u64 t388)) (fun _ hk => hk.2) (.int .u64 t389)) (fun _ hk => ⟨hk.1.1.1.1,⟨hk.1.1.1.2.1,⟨hk.1.1.1.2.2.1,⟨hk.1.1.2,⟨hk.1.1.1.2.2.2.1,⟨hk.1.1.1.2.2.2.2,hk.1.2⟩⟩⟩⟩⟩⟩)⟩
         have n3_ : Aside0 (Kd.V k62 62 ((((w97.setCell ⟨gb391,0,none⟩ (.slice Ao98 t384.length co98)).setCell ⟨gb391,1,none⟩ (.int .u64 t387)).setCell ⟨gb391,2,none⟩ (.int .u64 t388)).setCell ⟨gb391,3,none⟩ (.int .u64 t389)) w.heap.size (fun k_ => ((P0_0_ k_ ∨ P1_0_ k_) ∨ w.heap.size ≤ k_) ∧ nB k_ Ao95 t369.length co95 ∧ nO k_ v374 ∧ nB k_ Ao98 t384.length co98 ∧ k_ ≠ gb362 ∧ k_ ≠ gb363 ∧ k_ ≠ gb391) (.slice A1_0 l1_0.length c1_0) l1_0):=⟨by (with_reducible repeat (first|apply vA|apply vN|apply vD));exact aN (aU (p:=⟨gb391,3,none⟩) (aU (p:=⟨gb391,2,none⟩) (aU (p:=⟨gb391,1,none⟩) (aU (p:=⟨gb391,0,none⟩) (aN HO_364000.out (fun k_ hk => (⟨hk,hk.2⟩ : _ ∧ k_ ≠ gb391))) (fun _ hk => hk.2) (.slice Ao98 t384.length co98)) (fun _ hk => hk.2) (.int .u64 t387)) (fun _ hk => hk.2) (.int .u64 t388)) (fun _ hk => hk.2) (.int .u64 t389)) (fun _ hk => ⟨hk.1.1.1.1,⟨hk.1.1.1.2.1,⟨hk.1.1.1.2.2.1,⟨hk.1.1.2,⟨hk.1.1.1.2.2.2.1,⟨hk.1.1.1.2.2.2.2,hk.1.2⟩⟩⟩⟩⟩⟩)⟩
         have n4_ : Aside0 (Kd.R k62 62 ((((w97.setCell ⟨gb391,0,none⟩ (.slice Ao98 t384.length co98)).setCell ⟨gb391,1,none⟩ (.int .u64 t387)).setCell ⟨gb391,2,none⟩ (.int .u64 t388)).setCell ⟨gb391,3,none⟩ (.int .u64 t389)) w.heap.size (fun k_ => (w.heap.size ≤ k_)) (.slice Ao98 t384.length co98) t384):=⟨by (with_reducible repeat (first|apply zA|apply zN|apply zD));exact aM (aY (p:=⟨gb391,3,none⟩) (aY (p:=⟨gb391,2,none⟩) (aY (p:=⟨gb391,1,none⟩) (aY (p:=⟨gb391,0,none⟩) (aP O386.out B391.out (by decide)) (fun _ hk => hk.2) (.slice Ao98 t384.length co98)) (fun _ hk => hk.2) (.int .u64 t387)) (fun _ hk => hk.2) (.int .u64 t388)) (fun _ hk => hk.2) (.int .u64 t389)) (fun _ hk => hk.1.1)⟩
         have n5_ : Aside0 (((((w97.setCell ⟨gb391,0,none⟩ (.slice Ao98 t384.length co98)).setCell ⟨gb391,1,none⟩ (.int .u64 t387)).setCell ⟨gb391,2,none⟩ (.int .u64 t388)).setCell ⟨gb391,3,none⟩ (.int .u64 t389)).heap[gb362]? = some (.cells #[.slice A0_0 l0_0.length c0_0,.int .u64 a0_1,.int .u64 a0_2,.int .u64 a0_3] 54 (0,0))):=⟨by (with_reducible repeat (first|refine bN ?_ _|refine bD ?_|refine bA ?_ _));refine aX ?_ N362_391.out _;(with_reducible repeat (first|refine bN ?_ _|refine bD ?_|refine bA ?_ _));refine aX ?_ N362_391.out _;(with_reducible repeat (first|refine bN ?_ _|refine bD ?_|refine bA ?_ _));refine aX ?_ N362_391.out _;(with_reducible repeat (first|refine bN ?_ _|refine bD ?_|refine bA ?_ _));refine aX ?_ N362_391.out _;(with_reducible repeat (first|refine bN ?_ _|refine bD ?_|refine bA ?_ _));exact B362.out⟩
         have n6_ : Aside0 (((((w97.setCell ⟨gb391,0,none⟩ (.slice Ao98 t384.length co98)).setCell ⟨gb391,1,none⟩ (.int .u64 t387)).setCell ⟨gb391,2,none⟩ (.int .u64 t388)).setCell ⟨gb391,3,none⟩ (.int .u64 t389)).heap[gb363]? = some (.cells #[.slice A1_0 l1_0.length c1_0,.int .u64 a1_1,.int .u64 a1_2,.int .u64 a1_3] 54 (0,0))):=⟨by (with_reducible repeat (first|refine bN ?_ _|refine bD ?_|refine bA ?_ _));refine aX ?_ N363_391.out _;(with_reducible repeat (first|refine bN ?_ _|refine bD ?_|refine bA ?_ _));refine aX ?_ N363_391.out _;(with_reducible repeat (first|refine bN ?_ _|refine bD ?_|refine bA ?_ _));refine aX ?_ N363_391.out _;(with_reducible repeat (first|refine bN ?_ _|refine bD ?_|refine bA ?_ _));refine aX ?_ N363_391.out _;(with_reducible repeat (first|refine bN ?_ _|refine bD ?_|refine bA ?_ _));exact B363.out⟩
         have n7_ : Aside0 (((((w97.setCell ⟨gb391,0,none⟩ (.slice Ao98 t384.length co98)).setCell ⟨gb391,1,none⟩ (.int .u64 t387)).setCell ⟨gb391,2,none⟩ (.int .u64 t388)).setCell ⟨gb391,3,none⟩ (.int .u64 t389)).heap[gb391]? = some (.cells #[.slice Ao98 t384.length co98,.int .u64 t387,.int .u64 t388,.int .u64 t389] 54 (0,0))):=⟨by (with_reducible repeat (first|refine bN ?_ _|refine bD ?_|refine bA ?_ _));refine blk_put (cs:=#[.slice Ao98 t384.length co98,.int .u64 t387,.int .u64 t388,.int .u64 0]) ?_ 3 _ rfl;(with_reducible repeat (first|refine bN ?_ _|refine bD ?_|refine bA ?_ _));refine blk_put (cs:=#[.slice Ao98 t384.length co98,.int .u64 t387,.int .u64 0,.int .u64 0]) ?_ 2 _ rfl;(with_reducible repeat (first|refine bN ?_ _|refine bD ?_|refine bA ?_ _));refine blk_put (cs:=#[.slice Ao98 t384.length co98,.int .u64 0,.int .u64 0,.int .u64 0]) ?_ 1 _ rfl;(with_reducible repeat (first|refine bN ?_ _|refine bD ?_|refine bA ?_ _));refine blk_put (cs:=#[.slice none 0 0,.int .u64 0,.int .u64 0,.int .u64 0]) ?_ 0 _ rfl;(with_reducible repeat (first|refine bN ?_ _|refine bD ?_|refine bA ?_ _));exact B391.out⟩
         have n8_ : Aside0 (Below w.heap.size w ((((w97.setCell ⟨gb391,0,none⟩ (.slice Ao98 t384.length co98)).setCell ⟨gb391,1,none⟩ (.int .u64 t387)).setCell ⟨gb391,2,none⟩ (.int .u64 t388)).setCell ⟨gb391,3,none⟩ (.int .u64 t389))):=⟨by repeat (first|(with_reducible first|exact HB.out|apply aA|apply aW|apply aD|refine aS ?_ E362.out|refine aS ?_ E363.out|refine aS ?_ E391.out)|exact HB.out)⟩
         (try clear HO_7)
         (try clear HO_9)
         (try clear HO_363000)
         (try clear HO_364000)
         (try clear O386)
         (try clear B362)
         (try clear B363)
         (try clear B391)
         (try clear HB)
         generalize ((((w97.setCell ⟨gb391,0,none⟩ (.slice Ao98 t384.length co98)).setCell ⟨gb391,1,none⟩ (.int .u64 t387)).setCell ⟨gb391,2,none⟩ (.int .u64 t388)).setCell ⟨gb391,3,none⟩ (.int .u64 t389)) = w102 at n0_ n1_ n2_ n3_ n4_ n5_ n6_ n7_ n8_ ⊢
         have HO_7:=n0_
         have HO_9:=n1_
         have HO_363000:=n2_
         have HO_364000:=n3_
         have O386:=n4_
         have B362:=n5_
         have B363:=n6_
         have B391:=n7_
         have HB:=n8_
         clear n0_ n1_ n2_ n3_ n4_ n5_ n6_ n7_ n8_
         have n0_:=aK (Kd.R_drew HO_7.out)
         have n1_:=aK (Kd.R_drew HO_9.out)
         have n2_:=aK (Kd.V_drew HO_363000.out)
         have n3_:=aK (Kd.V_drew HO_364000.out)
         have n4_:=aK (Kd.R_drew O386.out)
         have n5_:=aK (blk_drew B362.out)
         have n6_:=aK (blk_drew B363.out)
         have n7_:=aK (blk_drew B391.out)
         have n8_:=aK (aD HB.out)
         clear HO_7
         clear HO_9
         clear HO_363000
         clear HO_364000
         clear O386
         clear B362
         clear B363
         clear B391
         clear HB
         have HO_7:=n0_
         have HO_9:=n1_
         have HO_363000:=n2_
         have HO_364000:=n3_
         have O386:=n4_
         have B362:=n5_
         have B363:=n6_
         have B391:=n7_
         have HB:=n8_
         clear n0_ n1_ n2_ n3_ n4_ n5_ n6_ n7_ n8_
         refine start_ (n:=21) (S:=fun w' => w'.cell? ⟨gb391,0,none⟩ = some (.slice Ao98 t384.length co98) ∧ w'.cell? ⟨gb391,1,none⟩ = some (.int .u64 t387) ∧ w'.cell? ⟨gb391,2,none⟩ = some (.int .u64 t388) ∧ w'.cell? ⟨gb391,3,none⟩ = some (.int .u64 t389) ∧ w'.cell? ⟨gb362,0,none⟩ = some (.slice A0_0 l0_0.length c0_0) ∧ w'.cell? ⟨gb362,1,none⟩ = some (.int .u64 a0_1) ∧ w'.cell? ⟨gb362,2,none⟩ = some (.int .u64 a0_2) ∧ w'.cell? ⟨gb362,3,none⟩ = some (.int .u64 a0_3)) (ds:=[]) #[ff,ff,ff,ff,ff,ff,ff,ff,ff,ff,ff,ff,ff,ff,ff,ff,ff,ff,ff,ff,ff] (by kernel_rfl) rfl rfl ⟨(aC B391.out 0).trans rfl,(aC B391.out 1).trans rfl,(aC B391.out 2).trans rfl,(aC B391.out 3).trans rfl,(aC B362.out 0).trans rfl,(aC B362.out 1).trans rfl,(aC B362.out 2).trans rfl,(aC B362.out 3).trans rfl⟩ (fun hHeld => ?_);refine with_tabW tab9 bits9 (fun HT_ HW_ => ?_)
         generalize w102.drew = w103 at HO_7 HO_9 HO_363000 HO_364000 O386 B362 B363 B391 HB hHeld ⊢
         refine pure_ (i:=0) (N:=some 78) (v:=?_) (a':=?_) #[tt,ff,ff,ff,ff,ff,ff,ff,ff,ff,ff,ff,ff,ff,ff,ff,ff,ff,ff,ff,ff] rfl rfl (any_of HT_.out (by kernel_rfl)) (fun _ _ _ h => h) (Or.inl ⟨by rfl,?_⟩) ?_ ?_
         rotate_left
         ·intro w'
          go_simp
          with_reducible rfl
         rotate_left
         ·simp only [Act.put,sA,sZ,sS,i64_w,i32_w]
          rfl
         refine pure_ (i:=1) (N:=some 79) (v:=?_) (a':=?_) #[tt,tt,ff,ff,ff,ff,ff,ff,ff,ff,ff,ff,ff,ff,ff,ff,ff,ff,ff,ff,ff] rfl rfl (any_of HT_.out (by kernel_rfl)) (fun _ _ _ h => h) (Or.inl ⟨by rfl,?_⟩) ?_ ?_
         rotate_left
         ·intro w'
          go_simp
          with_reducible rfl
         rotate_left
         ·simp only [Act.put,sA,sZ,sS,i64_w,i32_w]
          rfl
         refine pure_ (i:=2) (N:=some 80) (v:=?_) (a':=?_) #[tt,tt,tt,ff,ff,ff,ff,ff,ff,ff,ff,ff,ff,ff,ff,ff,ff,ff,ff,ff,ff] rfl rfl (any_of HT_.out (by kernel_rfl)) (fun _ _ _ h => h) (Or.inl ⟨by rfl,?_⟩) ?_ ?_
         rotate_left
         ·intro w'
          go_simp
          with_reducible rfl
         rotate_left
         ·simp only [Act.put,sA,sZ,sS,i64_w,i32_w]
          rfl
         refine take_ (i:=3) (N:=some 81) (v:=?_) (a':=?_) #[tt,tt,tt,tt,ff,ff,ff,ff,ff,ff,ff,ff,ff,ff,ff,ff,ff,ff,ff,ff,ff] rfl rfl (take_ofW HT_.out HW_.out (by kernel_rfl)) (fun _ _ _ h => h) (Or.inl ⟨by rfl,?_⟩) hHeld ?_ ?_
         rotate_left
         ·rintro w' ⟨s0,s1,s2,s3,s4,s5,s6,s7⟩
          go_simp
          with_reducible rfl
         rotate_left
         ·simp only [Act.put,sA,sZ,sS,i64_w,i32_w]
          rfl
         refine take_ (i:=4) (N:=some 82) (v:=?_) (a':=?_) #[tt,tt,tt,tt,tt,ff,ff,ff,ff,ff,ff,ff,ff,ff,ff,ff,ff,ff,ff,ff,ff] rfl rfl (take_ofW HT_.out HW_.out (by kernel_rfl)) (fun _ _ _ h => h) (Or.inl ⟨by rfl,?_⟩) hHeld ?_ ?_
         rotate_left
         ·rintro w' ⟨s0,s1,s2,s3,s4,s5,s6,s7⟩
          go_simp
          with_reducible rfl
         rotate_left
         ·simp only [Act.put,sA,sZ,sS,i64_w,i32_w]
          rfl
         refine one_ (i:=5) (N:=some 83) #[tt,tt,tt,tt,tt,tt,ff,ff,ff,ff,ff,ff,ff,ff,ff,ff,ff,ff,ff,ff,ff] rfl rfl (one_of HT_.out (by kernel_rfl)) (by decide) (fun K hK => ?_)
         refine goes_ Try.func36 (by kernel_rfl) rfl #[.agg #[.slice Ao98 t384.length co98,.int .u64 t387,.int .u64 t388,.int .u64 t389],.agg #[.slice A0_0 l0_0.length c0_0,.int .u64 a0_1,.int .u64 a0_2,.int .u64 a0_3]] (by rfl) rfl rfl (by (try simp only [List.map_toArray,List.map_cons,List.map_nil]);first|done|rfl|(simp only [List.length_drop,List.length_take];rfl)) ?_
         with_reducible refine (edit_Same.calls kj27 _ _ t384 t387 t388 t389 _ _ l0_0 a0_1 a0_2 a0_3 true _ ?side1 ?side2 ?side3 ?side4 A77.out).mono ?_
         (case side1 => repeat (first|exact (aQ O386.out).2.2|(with_reducible refine aH ?_ _)|(with_reducible refine aG ?_ _)|(with_reducible refine aI ?_)))
         (case side2 => exact (aQ O386.out).2.1)
         (case side3 => repeat (first|exact (aO HO_363000.out).2.2|(with_reducible refine aH ?_ _)|(with_reducible refine aG ?_ _)|(with_reducible refine aI ?_)))
         (case side4 => exact (aO HO_363000.out).2.1)
         rintro e w104 ⟨rfl,hb⟩
         refine ⟨_,rfl,?_⟩
         have n0_:=aK (Kd.R_below (by (with_reducible repeat (first|apply zA|apply zN|apply zD));exact HO_7.out) hb)
         have n1_:=aK (Kd.R_below (by (with_reducible repeat (first|apply zA|apply zN|apply zD));exact HO_9.out) hb)
         have n2_:=aK (Kd.V_below (by (with_reducible repeat (first|apply vA|apply vN|apply vD));exact HO_363000.out) hb)
         have n3_:=aK (Kd.V_below (by (with_reducible repeat (first|apply vA|apply vN|apply vD));exact HO_364000.out) hb)
         have n4_:=aK (Kd.R_below (by (with_reducible repeat (first|apply zA|apply zN|apply zD));exact O386.out) hb)
         have n5_:=aK (aB (g:=gb362) (o:=.cells #[.slice A0_0 l0_0.length c0_0,.int .u64 a0_1,.int .u64 a0_2,.int .u64 a0_3] 54 (0,0)) (by (with_reducible repeat (first|refine bN ?_ _|refine bD ?_|refine bA ?_ _));exact B362.out) hb)
         have n6_:=aK (aB (g:=gb363) (o:=.cells #[.slice A1_0 l1_0.length c1_0,.int .u64 a1_1,.int .u64 a1_2,.int .u64 a1_3] 54 (0,0)) (by (with_reducible repeat (first|refine bN ?_ _|refine bD ?_|refine bA ?_ _));exact B363.out) hb)
         have n7_:=aK (aB (g:=gb391) (o:=.cells #[.slice Ao98 t384.length co98,.int .u64 t387,.int .u64 t388,.int .u64 t389] 54 (0,0)) (by (with_reducible repeat (first|refine bN ?_ _|refine bD ?_|refine bA ?_ _));exact B391.out) hb)
         have n8_:=aK (aT (by repeat (first|(with_reducible first|exact HB.out|apply aA|apply aW|apply aD|refine aS ?_ E362.out|refine aS ?_ E363.out|refine aS ?_ E391.out)|exact HB.out)) hb)
         clear HO_7
         clear HO_9
         clear HO_363000
         clear HO_364000
         clear O386
         clear B362
         clear B363
         clear B391
         clear HB
         have HO_7:=n0_
         have HO_9:=n1_
         have HO_363000:=n2_
         have HO_364000:=n3_
         have O386:=n4_
         have B362:=n5_
         have B363:=n6_
         have B391:=n7_
         have HB:=n8_
         clear n0_ n1_ n2_ n3_ n4_ n5_ n6_ n7_ n8_
         (try clear hb)
         (try clear hb2)
         (try clear hk)
         (try clear hi)
         refine hK.out _ _ ⟨(aC B391.out 0).trans rfl,(aC B391.out 1).trans rfl,(aC B391.out 2).trans rfl,(aC B391.out 3).trans rfl,(aC B362.out 0).trans rfl,(aC B362.out 1).trans rfl,(aC B362.out 2).trans rfl,(aC B362.out 3).trans rfl⟩ (fun hHeld => ?_)
         clear hK K
         refine norm_ (a':=?_) ?_ ?_
         rotate_left
         ·show Act.put _ (some 83) _ = _
          simp only [Act.put,sA,sZ,sS,i64_w,i32_w]
          rfl
         refine pure_ (i:=6) (N:=some 84) (v:=?_) (a':=?_) #[tt,tt,tt,tt,tt,tt,tt,ff,ff,ff,ff,ff,ff,ff,ff,ff,ff,ff,ff,ff,ff] rfl rfl (any_of HT_.out (by kernel_rfl)) (fun _ _ _ h => h) (Or.inl ⟨by rfl,?_⟩) ?_ ?_
         rotate_left
         ·intro w'
          go_simp
          with_reducible rfl
         rotate_left
         ·simp only [Act.put,sA,sZ,sS,i64_w,i32_w]
          rfl
         refine pure_ (i:=7) (N:=some 85) (v:=?_) (a':=?_) #[tt,tt,tt,tt,tt,tt,tt,tt,ff,ff,ff,ff,ff,ff,ff,ff,ff,ff,ff,ff,ff] rfl rfl (any_of HT_.out (by kernel_rfl)) (fun _ _ _ h => h) (Or.inl ⟨by rfl,?_⟩) ?_ ?_
         rotate_left
         ·intro w'
          go_simp
          with_reducible rfl
         rotate_left
         ·simp only [Act.put,sA,sZ,sS,i64_w,i32_w]
          rfl
         refine pure_ (i:=8) (N:=some 86) (v:=?_) (a':=?_) #[tt,tt,tt,tt,tt,tt,tt,tt,tt,ff,ff,ff,ff,ff,ff,ff,ff,ff,ff,ff,ff] rfl rfl (any_of HT_.out (by kernel_rfl)) (fun _ _ _ h => h) (Or.inl ⟨by rfl,?_⟩) ?_ ?_
         rotate_left
         ·intro w'
          go_simp
          with_reducible rfl
         rotate_left
         ·simp only [Act.put,sA,sZ,sS,i64_w,i32_w]
          rfl
         refine pure_ (i:=9) (N:=some 87) (v:=?_) (a':=?_) #[tt,tt,tt,tt,tt,tt,tt,tt,tt,tt,ff,ff,ff,ff,ff,ff,ff,ff,ff,ff,ff] rfl rfl (any_of HT_.out (by kernel_rfl)) (fun _ _ _ h => h) (Or.inl ⟨by rfl,?_⟩) ?_ ?_
         rotate_left
         ·intro w'
          go_simp
          with_reducible rfl
         rotate_left
         ·simp only [Act.put,sA,sZ,sS,i64_w,i32_w]
          rfl
         refine pure_ (i:=10) (N:=some 88) (v:=?_) (a':=?_) #[tt,tt,tt,tt,tt,tt,tt,tt,tt,tt,tt,ff,ff,ff,ff,ff,ff,ff,ff,ff,ff] rfl rfl (any_of HT_.out (by kernel_rfl)) (fun _ _ _ h => h) (Or.inl ⟨by rfl,?_⟩) ?_ ?_
         rotate_left
         ·intro w'
          go_simp
          with_reducible rfl
         rotate_left
         ·simp only [Act.put,sA,sZ,sS,i64_w,i32_w]
          rfl
         refine pure_ (i:=11) (N:=some 89) (v:=?_) (a':=?_) #[tt,tt,tt,tt,tt,tt,tt,tt,tt,tt,tt,tt,ff,ff,ff,ff,ff,ff,ff,ff,ff] rfl rfl (any_of HT_.out (by kernel_rfl)) (fun _ _ _ h => h) (Or.inl ⟨by rfl,?_⟩) ?_ ?_
         rotate_left
         ·intro w'
          go_simp
          with_reducible rfl
         rotate_left
         ·simp only [Act.put,sA,sZ,sS,i64_w,i32_w]
          rfl
         refine pure_ (i:=12) (N:=some 90) (v:=undef) (a':=?_) #[tt,tt,tt,tt,tt,tt,tt,tt,tt,tt,tt,tt,tt,ff,ff,ff,ff,ff,ff,ff,ff] rfl rfl (any_of HT_.out (by kernel_rfl)) (fun _ _ _ h => h) (Or.inr ⟨by rfl,rfl⟩) ?_ ?_
         rotate_left
         ·simp only [Act.put,sA,sZ,sS,i64_w,i32_w]
          rfl
         refine pure_ (i:=13) (N:=some 91) (v:=undef) (a':=?_) #[tt,tt,tt,tt,tt,tt,tt,tt,tt,tt,tt,tt,tt,tt,ff,ff,ff,ff,ff,ff,ff] rfl rfl (any_of HT_.out (by kernel_rfl)) (fun _ _ _ h => h) (Or.inr ⟨by rfl,rfl⟩) ?_ ?_
         rotate_left
         ·simp only [Act.put,sA,sZ,sS,i64_w,i32_w]
          rfl
         refine pure_ (i:=14) (N:=some 92) (v:=undef) (a':=?_) #[tt,tt,tt,tt,tt,tt,tt,tt,tt,tt,tt,tt,tt,tt,tt,ff,ff,ff,ff,ff,ff] rfl rfl (any_of HT_.out (by kernel_rfl)) (fun _ _ _ h => h) (Or.inr ⟨by rfl,rfl⟩) ?_ ?_
         rotate_left
         ·simp only [Act.put,sA,sZ,sS,i64_w,i32_w]
          rfl
         refine pure_ (i:=15) (N:=some 93) (v:=undef) (a':=?_) #[tt,tt,tt,tt,tt,tt,tt,tt,tt,tt,tt,tt,tt,tt,tt,tt,ff,ff,ff,ff,ff] rfl rfl (any_of HT_.out (by kernel_rfl)) (fun _ _ _ h => h) (Or.inr ⟨by rfl,rfl⟩) ?_ ?_
         rotate_left
         ·simp only [Act.put,sA,sZ,sS,i64_w,i32_w]
          rfl
         refine pure_ (i:=16) (N:=some 94) (v:=undef) (a':=?_) #[tt,tt,tt,tt,tt,tt,tt,tt,tt,tt,tt,tt,tt,tt,tt,tt,tt,ff,ff,ff,ff] rfl rfl (any_of HT_.out (by kernel_rfl)) (fun _ _ _ h => h) (Or.inr ⟨by rfl,rfl⟩) ?_ ?_
         rotate_left
         ·simp only [Act.put,sA,sZ,sS,i64_w,i32_w]
          rfl
         refine pure_ (i:=17) (N:=some 95) (v:=undef) (a':=?_) #[tt,tt,tt,tt,tt,tt,tt,tt,tt,tt,tt,tt,tt,tt,tt,tt,tt,tt,ff,ff,ff] rfl rfl (any_of HT_.out (by kernel_rfl)) (fun _ _ _ h => h) (Or.inr ⟨by rfl,rfl⟩) ?_ ?_
         rotate_left
         ·simp only [Act.put,sA,sZ,sS,i64_w,i32_w]
          rfl
         refine pure_ (i:=18) (N:=some 96) (v:=undef) (a':=?_) #[tt,tt,tt,tt,tt,tt,tt,tt,tt,tt,tt,tt,tt,tt,tt,tt,tt,tt,tt,ff,ff] rfl rfl (any_of HT_.out (by kernel_rfl)) (fun _ _ _ h => h) (Or.inr ⟨by rfl,rfl⟩) ?_ ?_
         rotate_left
         ·simp only [Act.put,sA,sZ,sS,i64_w,i32_w]
          rfl
         refine pure_ (i:=19) (N:=some 97) (v:=?_) (a':=?_) #[tt,tt,tt,tt,tt,tt,tt,tt,tt,tt,tt,tt,tt,tt,tt,tt,tt,tt,tt,tt,ff] rfl rfl (any_of HT_.out (by kernel_rfl)) (fun _ _ _ h => h) (Or.inl ⟨by rfl,?_⟩) ?_ ?_
         rotate_left
         ·intro w'
          go_simp
          with_reducible rfl
         rotate_left
         ·simp only [Act.put,sA,sZ,sS,i64_w,i32_w]
          rfl
         refine pure_ (i:=20) (N:=some 98) (v:=?_) (a':=?_) #[tt,tt,tt,tt,tt,tt,tt,tt,tt,tt,tt,tt,tt,tt,tt,tt,tt,tt,tt,tt,tt] rfl rfl (any_of HT_.out (by kernel_rfl)) (fun _ _ _ h => h) (Or.inl ⟨by rfl,?_⟩) ?_ ?_
         rotate_left
         ·intro w'
          go_simp
          with_reducible rfl
         rotate_left
         ·simp only [Act.put,sA,sZ,sS,i64_w,i32_w]
          rfl
         refine done_ (done_of HT_.out (by kernel_rfl)) ?_
         try go_wp2
         go_meet
         case rel => exact ⟨_,H',⟨by have:=HJ3.out;have:=HJ27.out;first|omega|exact Nat.le_refl _⟩,⟨by (with_reducible repeat (first|apply vA|apply vN|apply vD));exact aN HO_363000.out (fun _ hk => ⟨hk.1,⟨hk.2.2.2.2.1,hk.2.2.2.2.2.1⟩⟩)⟩,⟨by (with_reducible repeat (first|apply vA|apply vN|apply vD));exact aN HO_364000.out (fun _ hk => ⟨hk.1,⟨hk.2.2.2.2.1,hk.2.2.2.2.2.1⟩⟩)⟩,⟨by (with_reducible repeat (first|refine bN ?_ _|refine bD ?_|refine bA ?_ _));exact B362.out⟩,⟨by (with_reducible repeat (first|refine bN ?_ _|refine bD ?_|refine bA ?_ _));exact B363.out⟩,⟨by repeat (first|(with_reducible first|exact HB.out|apply aA|apply aW|apply aD|refine aS ?_ E362.out|refine aS ?_ E363.out|refine aS ?_ E391.out)|exact HB.out)⟩⟩
       case rest =>
        clear HC73
        try clear c1 p2
        try clear c74b0
        try clear c74b1
        try clear c79b0
        try clear c79b1
        try clear c82b1
        try clear c82b2
        try clear c100 z101_0 z101_1 z101_2 z101_3 z89_0 z89_1 z89_2 z89_3 f101_0 f101_1 f101_2 f101_3 f89_0 f89_1 f89_2 f89_3
        obtain ⟨kq,HA,HJ72,HO_363000,HO_364000,B362,B363,HB⟩:=hcut
        cases kq with
        | zero => exact absurd HA.out (by simp [j2])
        | succ kj72 =>
         have H:=HA.out
         clear HA
         simp only [j2] at H
         replace H:=Option.bind_eq_some_iff.mp H
         obtain ⟨⟨t395,t398,t399,t400,t401⟩,A1050,H⟩:=H
         replace H : (if t401 = 0 then ((edit_Bytes.f t395 t398 t399 t400).bind fun bt405 => ((edit_Right.f kj72 t395 t398 t399 t400).bind fun t409 => (if t409 = true then (if bt405.2 = 0 then ((ratlinelaw02_Same.f bt405.1 l2).bind fun t410 => (if t410 = true then ((ratlinelaw09_awake.f).bind fun t411 => (some t411)) else (none))) else (none)) else (none)))) else (if t401 = 90 then ((edit_Same.f kj72 t395 t398 t399 t400 ([] : List (S62)) 0 0 0).bind fun t403 => (if t403 = true then ((ratlinelaw09_awake.f).bind fun t404 => (some t404)) else (none))) else (none))) = some r:=H
         have A105:=aK A1050
         clear A1050
         by_cases c106 : t401 = 0
         ·rw [if_pos c106] at H
          have c106b0 : (t401 == 0) = true:=beq_iff_eq.mpr c106
          have c106b1 : (t401 != 0) = false:=bne_eq_false_iff_eq.mpr c106
          clear c106
          replace H:=Option.bind_eq_some_iff.mp H
          obtain ⟨⟨t405,t408⟩,A1070,H⟩:=H
          replace H : ((edit_Right.f kj72 t395 t398 t399 t400).bind fun t409 => (if t409 = true then (if t408 = 0 then ((ratlinelaw02_Same.f t405 l2).bind fun t410 => (if t410 = true then ((ratlinelaw09_awake.f).bind fun t411 => (some t411)) else (none))) else (none)) else (none))) = some r:=H
          have A107:=aK A1070
          clear A1070
          replace H:=Option.bind_eq_some_iff.mp H
          obtain ⟨t409,A1080,H⟩:=H
          replace H : (if t409 = true then (if t408 = 0 then ((ratlinelaw02_Same.f t405 l2).bind fun t410 => (if t410 = true then ((ratlinelaw09_awake.f).bind fun t411 => (some t411)) else (none))) else (none)) else (none)) = some r:=H
          have A108:=aK A1080
          clear A1080
          by_cases c109 : t409 = true
          ·subst c109
           have H1 : (if t408 = 0 then ((ratlinelaw02_Same.f t405 l2).bind fun t410 => (if t410 = true then ((ratlinelaw09_awake.f).bind fun t411 => (some t411)) else (none))) else (none)) = some r:=by rw [if_pos rfl] at H;exact H
           clear H
           have H:=H1
           clear H1
           by_cases c110 : t408 = 0
           rotate_left
           ·rw [if_neg c110] at H
            exact absurd H (by simp)
           rw [if_pos c110] at H
           have c110b0 : (t408 == 0) = true:=beq_iff_eq.mpr c110
           have c110b1 : (t408 != 0) = false:=bne_eq_false_iff_eq.mpr c110
           clear c110
           replace H:=Option.bind_eq_some_iff.mp H
           obtain ⟨t410,A1110,H⟩:=H
           replace H : (if t410 = true then ((ratlinelaw09_awake.f).bind fun t411 => (some t411)) else (none)) = some r:=H
           have A111:=aK A1110
           clear A1110
           by_cases c112 : t410 = true
           ·subst c112
            have H1 : ((ratlinelaw09_awake.f).bind fun t411 => (some t411)) = some r:=by rw [if_pos rfl] at H;exact H
            clear H
            have H:=H1
            clear H1
            replace H:=Option.bind_eq_some_iff.mp H
            obtain ⟨t411,A1130,H⟩:=H
            replace H : (some t411) = some r:=H
            have A113:=aK A1130
            clear A1130
            obtain rfl:=Option.some.inj H
            go_wp2_with (first|((with_reducible refine gate_callee (f:=37) rfl ?_);refine goesL_ (some 101) rfl rfl Try.func37 (by kernel_rfl) rfl #[.slice A2 l2.length c2] rfl (by (try simp only [List.map_toArray,List.map_cons,List.map_nil]);first|done|rfl|(simp only [List.length_drop,List.length_take];rfl)) ?_;(with_reducible refine (edit_Parse.calls _ _ l2 t395 t398 t399 t400 t401 _ ?side1 ?side2 A105.out).mono ?_);(case side1 => repeat (first|exact (Kd.C_below HR2.out HB.out)|(with_reducible refine aH ?_ _)|(with_reducible refine aG ?_ _)|(with_reducible refine aI ?_)));(case side2 => exact HC2.out);rintro e w114 ⟨v396,rfl,ho0,hb⟩;refine ⟨_,rfl,?_⟩;have n0_:=aK (aV (by (with_reducible repeat (first|apply vA|apply vN|apply vD));exact HO_363000.out) (aJ ho0) hb);have n1_:=aK (aV (by (with_reducible repeat (first|apply vA|apply vN|apply vD));exact HO_364000.out) (aJ ho0) hb);have n2_:=aK (Kd.R_lower (Kd.R_newM (M:=fun k_ => (w.heap.size ≤ k_)) ho0 (aZ (by repeat (first|(with_reducible first|exact HB.out|apply aA|apply aW|apply aD|refine aS ?_ E362.out|refine aS ?_ E363.out)|exact HB.out))) (fun k_ h_ => h_)) (aZ (by repeat (first|(with_reducible first|exact HB.out|apply aA|apply aW|apply aD|refine aS ?_ E362.out|refine aS ?_ E363.out)|exact HB.out))));have n3_:=aK (aB (g:=gb362) (o:=.cells #[.slice A0_0 l0_0.length c0_0,.int .u64 a0_1,.int .u64 a0_2,.int .u64 a0_3] 54 (0,0)) (by (with_reducible repeat (first|refine bN ?_ _|refine bD ?_|refine bA ?_ _));exact B362.out) hb);have n4_:=aK (aB (g:=gb363) (o:=.cells #[.slice A1_0 l1_0.length c1_0,.int .u64 a1_1,.int .u64 a1_2,.int .u64 a1_3] 54 (0,0)) (by (with_reducible repeat (first|refine bN ?_ _|refine bD ?_|refine bA ?_ _));exact B363.out) hb);have n5_:=aK (aT (by repeat (first|(with_reducible first|exact HB.out|apply aA|apply aW|apply aD|refine aS ?_ E362.out|refine aS ?_ E363.out)|exact HB.out)) hb);clear HO_363000;clear HO_364000;clear B362;clear B363;clear HB;have HO_363000:=n0_;have HO_364000:=n1_;have O397:=n2_;have B362:=n3_;have B363:=n4_;have HB:=n5_;clear n0_ n1_ n2_ n3_ n4_ n5_;(try clear hb);skip;(try clear ho0))|((with_reducible refine gate_dst (N:=13) rfl ?_);(try (refine gate_guard (by rfl) ?_;dsimp only));refine box_event ?hg (N:=13) ?hd (cs:=#[.slice none 0 0,.int .u64 0,.int .u64 0,.int .u64 0]) (t:=54) ?hr ?_;(case hd => rfl);(case hg => rfl);(case hr => first|(go_simp;done)|(go_simp;rfl));intro gb402 hg w115 hbox hb;have n0_:=aK (Kd.V_below (Kd.V_elderB (by (with_reducible repeat (first|apply vA|apply vN|apply vD));exact HO_363000.out) gb402 (Nat.le_of_eq hg.symm)) hb);have n1_:=aK (Kd.V_below (Kd.V_elderB (by (with_reducible repeat (first|apply vA|apply vN|apply vD));exact HO_364000.out) gb402 (Nat.le_of_eq hg.symm)) hb);have n2_:=aK (Kd.R_below (by (with_reducible repeat (first|apply zA|apply zN|apply zD));exact O397.out) hb);have n3_:=aK (aB (g:=gb362) (o:=.cells #[.slice A0_0 l0_0.length c0_0,.int .u64 a0_1,.int .u64 a0_2,.int .u64 a0_3] 54 (0,0)) (by (with_reducible repeat (first|refine bN ?_ _|refine bD ?_|refine bA ?_ _));exact B362.out) hb);have n4_:=aK (aB (g:=gb363) (o:=.cells #[.slice A1_0 l1_0.length c1_0,.int .u64 a1_1,.int .u64 a1_2,.int .u64 a1_3] 54 (0,0)) (by (with_reducible repeat (first|refine bN ?_ _|refine bD ?_|refine bA ?_ _));exact B363.out) hb);have n5_:=aK (aT (by repeat (first|(with_reducible first|exact HB.out|apply aA|apply aW|apply aD|refine aS ?_ E362.out|refine aS ?_ E363.out)|exact HB.out)) hb);have n6_:=aK (hbox);have n7_:=aK ((by rw [hg];exact (aZ (by repeat (first|(with_reducible first|exact HB.out|apply aA|apply aW|apply aD|refine aS ?_ E362.out|refine aS ?_ E363.out)|exact HB.out))) : w.heap.size ≤ gb402));have n8_:=aK ((by rw [hg];exact (aZ (by repeat (first|(with_reducible first|exact HB.out|apply aA|apply aW|apply aD|refine aS ?_ E362.out|refine aS ?_ E363.out)|exact HB.out))) : w.heap.size ≤ gb402));have n9_:=aK ((by rw [hg];exact Nat.ne_of_lt (blk_lt (g:=gb362) (o:=.cells #[.slice A0_0 l0_0.length c0_0,.int .u64 a0_1,.int .u64 a0_2,.int .u64 a0_3] 54 (0,0)) (by (with_reducible repeat (first|refine bN ?_ _|refine bD ?_|refine bA ?_ _));exact B362.out)) : gb362 ≠ gb402));have n10_:=aK ((by rw [hg];exact Nat.ne_of_gt (blk_lt (g:=gb362) (o:=.cells #[.slice A0_0 l0_0.length c0_0,.int .u64 a0_1,.int .u64 a0_2,.int .u64 a0_3] 54 (0,0)) (by (with_reducible repeat (first|refine bN ?_ _|refine bD ?_|refine bA ?_ _));exact B362.out)) : gb402 ≠ gb362));have n11_:=aK ((by rw [hg];exact Nat.ne_of_lt (blk_lt (g:=gb363) (o:=.cells #[.slice A1_0 l1_0.length c1_0,.int .u64 a1_1,.int .u64 a1_2,.int .u64 a1_3] 54 (0,0)) (by (with_reducible repeat (first|refine bN ?_ _|refine bD ?_|refine bA ?_ _));exact B363.out)) : gb363 ≠ gb402));have n12_:=aK ((by rw [hg];exact Nat.ne_of_gt (blk_lt (g:=gb363) (o:=.cells #[.slice A1_0 l1_0.length c1_0,.int .u64 a1_1,.int .u64 a1_2,.int .u64 a1_3] 54 (0,0)) (by (with_reducible repeat (first|refine bN ?_ _|refine bD ?_|refine bA ?_ _));exact B363.out)) : gb402 ≠ gb363));clear HO_363000;clear HO_364000;clear O397;clear B362;clear B363;clear HB;have HO_363000:=n0_;have HO_364000:=n1_;have O397:=n2_;have B362:=n3_;have B363:=n4_;have HB:=n5_;have B402:=n6_;have W402:=n7_;have E402:=n8_;have N362_402:=n9_;have N402_362:=n10_;have N363_402:=n11_;have N402_363:=n12_;clear n0_ n1_ n2_ n3_ n4_ n5_ n6_ n7_ n8_ n9_ n10_ n11_ n12_;clear hb hbox hg;obtain ⟨Ao116,co116,eo116⟩:=Kd.R_slice O397.out;subst eo116;have hnb117:=N402_362.out;have hnc117:=N362_402.out;have hnb118:=N402_363.out;have hnc118:=N363_402.out;have z119_0 : w115.cell? ⟨gb402,0,none⟩ = some (.slice none 0 0):=(aC B402.out 0).trans rfl;have z119_1 : w115.cell? ⟨gb402,1,none⟩ = some (.int .u64 0):=(aC B402.out 1).trans rfl;have z119_2 : w115.cell? ⟨gb402,2,none⟩ = some (.int .u64 0):=(aC B402.out 2).trans rfl;have z119_3 : w115.cell? ⟨gb402,3,none⟩ = some (.int .u64 0):=(aC B402.out 3).trans rfl;have f119_0:=aF B402.out 0;have f119_1:=aF B402.out 1;have f119_2:=aF B402.out 2;have f119_3:=aF B402.out 3)|((with_reducible refine gate_callee (f:=34) rfl ?_);refine goesL_ (some 118) rfl rfl Try.func34 (by kernel_rfl) rfl #[.agg #[.slice Ao116 t395.length co116,.int .u64 t398,.int .u64 t399,.int .u64 t400]] rfl (by (try simp only [List.map_toArray,List.map_cons,List.map_nil]);first|done|rfl|(simp only [List.length_drop,List.length_take];rfl)) ?_;(with_reducible refine (edit_Bytes.calls _ _ t395 t398 t399 t400 t405 t408 _ ?side1 ?side2 A107.out).mono ?_);(case side1 => refine (aQ (e:=62) (base:=w.heap.size) (ok:=fun k_ => ((w.heap.size ≤ k_) ∧ True)) (n:=t395.length) (c:=co116) ?_).2.2;exact (by (with_reducible repeat (first|apply zA|apply zN|apply zD));exact (aM (aY (p:=⟨gb402,3,none⟩) (aY (p:=⟨gb402,2,none⟩) (aY (p:=⟨gb402,1,none⟩) (aY (p:=⟨gb402,0,none⟩) (aP O397.out B402.out (by decide)) (fun _ hk => hk.2) (.slice Ao116 t395.length co116)) (fun _ hk => hk.2) (.int .u64 t398)) (fun _ hk => hk.2) (.int .u64 t399)) (fun _ hk => hk.2) (.int .u64 t400)) (fun _ h_ => h_.1))));(case side2 => exact (aQ O397.out).2.1);rintro e w120 ⟨v406,rfl,ho0,hb⟩;refine ⟨_,rfl,?_⟩;have n0_:=aK (aV (by (with_reducible repeat (first|apply vA|apply vN|apply vD));exact (aN (aU (p:=⟨gb402,3,none⟩) (aU (p:=⟨gb402,2,none⟩) (aU (p:=⟨gb402,1,none⟩) (aU (p:=⟨gb402,0,none⟩) (aN HO_363000.out (fun k_ hk => (⟨hk,hk.2⟩ : _ ∧ k_ ≠ gb402))) (fun _ hk => hk.2) (.slice Ao116 t395.length co116)) (fun _ hk => hk.2) (.int .u64 t398)) (fun _ hk => hk.2) (.int .u64 t399)) (fun _ hk => hk.2) (.int .u64 t400)) (fun _ h_ => h_.1))) (aJ ho0) hb);have n1_:=aK (aV (by (with_reducible repeat (first|apply vA|apply vN|apply vD));exact (aN (aU (p:=⟨gb402,3,none⟩) (aU (p:=⟨gb402,2,none⟩) (aU (p:=⟨gb402,1,none⟩) (aU (p:=⟨gb402,0,none⟩) (aN HO_364000.out (fun k_ hk => (⟨hk,hk.2⟩ : _ ∧ k_ ≠ gb402))) (fun _ hk => hk.2) (.slice Ao116 t395.length co116)) (fun _ hk => hk.2) (.int .u64 t398)) (fun _ hk => hk.2) (.int .u64 t399)) (fun _ hk => hk.2) (.int .u64 t400)) (fun _ h_ => h_.1))) (aJ ho0) hb);have n2_:=aK (Kd.R_below (by (with_reducible repeat (first|apply zA|apply zN|apply zD));exact (aM (aY (p:=⟨gb402,3,none⟩) (aY (p:=⟨gb402,2,none⟩) (aY (p:=⟨gb402,1,none⟩) (aY (p:=⟨gb402,0,none⟩) (aP O397.out B402.out (by decide)) (fun _ hk => hk.2) (.slice Ao116 t395.length co116)) (fun _ hk => hk.2) (.int .u64 t398)) (fun _ hk => hk.2) (.int .u64 t399)) (fun _ hk => hk.2) (.int .u64 t400)) (fun _ h_ => h_.1))) hb);have n3_:=aK (Kd.R_lower (Kd.R_newM (M:=fun k_ => (w.heap.size ≤ k_)) ho0 (aZ (by repeat (first|(with_reducible first|exact HB.out|apply aA|apply aW|apply aD|refine aS ?_ E362.out|refine aS ?_ E363.out|refine aS ?_ E402.out)|exact HB.out))) (fun k_ h_ => h_)) (aZ (by repeat (first|(with_reducible first|exact HB.out|apply aA|apply aW|apply aD|refine aS ?_ E362.out|refine aS ?_ E363.out|refine aS ?_ E402.out)|exact HB.out))));have n4_:=aK (aB (g:=gb362) (o:=.cells #[.slice A0_0 l0_0.length c0_0,.int .u64 a0_1,.int .u64 a0_2,.int .u64 a0_3] 54 (0,0)) (by (with_reducible repeat (first|refine bN ?_ _|refine bD ?_|refine bA ?_ _));refine aX ?_ N362_402.out _;(with_reducible repeat (first|refine bN ?_ _|refine bD ?_|refine bA ?_ _));refine aX ?_ N362_402.out _;(with_reducible repeat (first|refine bN ?_ _|refine bD ?_|refine bA ?_ _));refine aX ?_ N362_402.out _;(with_reducible repeat (first|refine bN ?_ _|refine bD ?_|refine bA ?_ _));refine aX ?_ N362_402.out _;(with_reducible repeat (first|refine bN ?_ _|refine bD ?_|refine bA ?_ _));exact B362.out) hb);have n5_:=aK (aB (g:=gb363) (o:=.cells #[.slice A1_0 l1_0.length c1_0,.int .u64 a1_1,.int .u64 a1_2,.int .u64 a1_3] 54 (0,0)) (by (with_reducible repeat (first|refine bN ?_ _|refine bD ?_|refine bA ?_ _));refine aX ?_ N363_402.out _;(with_reducible repeat (first|refine bN ?_ _|refine bD ?_|refine bA ?_ _));refine aX ?_ N363_402.out _;(with_reducible repeat (first|refine bN ?_ _|refine bD ?_|refine bA ?_ _));refine aX ?_ N363_402.out _;(with_reducible repeat (first|refine bN ?_ _|refine bD ?_|refine bA ?_ _));refine aX ?_ N363_402.out _;(with_reducible repeat (first|refine bN ?_ _|refine bD ?_|refine bA ?_ _));exact B363.out) hb);have n6_:=aK (aB (g:=gb402) (o:=.cells #[.slice Ao116 t395.length co116,.int .u64 t398,.int .u64 t399,.int .u64 t400] 54 (0,0)) (by (with_reducible repeat (first|refine bN ?_ _|refine bD ?_|refine bA ?_ _));refine blk_put (cs:=#[.slice Ao116 t395.length co116,.int .u64 t398,.int .u64 t399,.int .u64 0]) ?_ 3 _ rfl;(with_reducible repeat (first|refine bN ?_ _|refine bD ?_|refine bA ?_ _));refine blk_put (cs:=#[.slice Ao116 t395.length co116,.int .u64 t398,.int .u64 0,.int .u64 0]) ?_ 2 _ rfl;(with_reducible repeat (first|refine bN ?_ _|refine bD ?_|refine bA ?_ _));refine blk_put (cs:=#[.slice Ao116 t395.length co116,.int .u64 0,.int .u64 0,.int .u64 0]) ?_ 1 _ rfl;(with_reducible repeat (first|refine bN ?_ _|refine bD ?_|refine bA ?_ _));refine blk_put (cs:=#[.slice none 0 0,.int .u64 0,.int .u64 0,.int .u64 0]) ?_ 0 _ rfl;(with_reducible repeat (first|refine bN ?_ _|refine bD ?_|refine bA ?_ _));exact B402.out) hb);have n7_:=aK (aT (by repeat (first|(with_reducible first|exact HB.out|apply aA|apply aW|apply aD|refine aS ?_ E362.out|refine aS ?_ E363.out|refine aS ?_ E402.out)|exact HB.out)) hb);clear HO_363000;clear HO_364000;clear O397;clear B362;clear B363;clear B402;clear HB;have HO_363000:=n0_;have HO_364000:=n1_;have O397:=n2_;have O407:=n3_;have B362:=n4_;have B363:=n5_;have B402:=n6_;have HB:=n7_;clear n0_ n1_ n2_ n3_ n4_ n5_ n6_ n7_;(try clear hb);skip;(try clear ho0);have z121_0 : w120.cell? ⟨gb402,0,none⟩ = some (.slice Ao116 t395.length co116):=(aC B402.out 0).trans rfl;have z121_1 : w120.cell? ⟨gb402,1,none⟩ = some (.int .u64 t398):=(aC B402.out 1).trans rfl;have z121_2 : w120.cell? ⟨gb402,2,none⟩ = some (.int .u64 t399):=(aC B402.out 2).trans rfl;have z121_3 : w120.cell? ⟨gb402,3,none⟩ = some (.int .u64 t400):=(aC B402.out 3).trans rfl;have f121_0:=aF B402.out 0;have f121_1:=aF B402.out 1;have f121_2:=aF B402.out 2;have f121_3:=aF B402.out 3)|((with_reducible refine gate_callee (f:=33) rfl ?_);refine goesL_ (some 122) rfl rfl Try.func33 (by kernel_rfl) rfl #[.agg #[.slice Ao116 t395.length co116,.int .u64 t398,.int .u64 t399,.int .u64 t400]] rfl (by (try simp only [List.map_toArray,List.map_cons,List.map_nil]);first|done|rfl|(simp only [List.length_drop,List.length_take];rfl)) ?_;(with_reducible refine (edit_Right.calls kj72 _ _ t395 t398 t399 t400 true _ ?side1 ?side2 A108.out).mono ?_);(case side1 => repeat (first|exact (aQ O397.out).2.2|(with_reducible refine aH ?_ _)|(with_reducible refine aG ?_ _)|(with_reducible refine aI ?_)));(case side2 => exact (aQ O397.out).2.1);rintro e w122 ⟨rfl,hb⟩;refine ⟨_,rfl,?_⟩;have n0_:=aK (Kd.V_below (by (with_reducible repeat (first|apply vA|apply vN|apply vD));exact HO_363000.out) hb);have n1_:=aK (Kd.V_below (by (with_reducible repeat (first|apply vA|apply vN|apply vD));exact HO_364000.out) hb);have n2_:=aK (Kd.R_below (by (with_reducible repeat (first|apply zA|apply zN|apply zD));exact O397.out) hb);have n3_:=aK (Kd.R_below (by (with_reducible repeat (first|apply zA|apply zN|apply zD));exact O407.out) hb);have n4_:=aK (aB (g:=gb362) (o:=.cells #[.slice A0_0 l0_0.length c0_0,.int .u64 a0_1,.int .u64 a0_2,.int .u64 a0_3] 54 (0,0)) (by (with_reducible repeat (first|refine bN ?_ _|refine bD ?_|refine bA ?_ _));exact B362.out) hb);have n5_:=aK (aB (g:=gb363) (o:=.cells #[.slice A1_0 l1_0.length c1_0,.int .u64 a1_1,.int .u64 a1_2,.int .u64 a1_3] 54 (0,0)) (by (with_reducible repeat (first|refine bN ?_ _|refine bD ?_|refine bA ?_ _));exact B363.out) hb);have n6_:=aK (aB (g:=gb402) (o:=.cells #[.slice Ao116 t395.length co116,.int .u64 t398,.int .u64 t399,.int .u64 t400] 54 (0,0)) (by (with_reducible repeat (first|refine bN ?_ _|refine bD ?_|refine bA ?_ _));exact B402.out) hb);have n7_:=aK (aT (by repeat (first|(with_reducible first|exact HB.out|apply aA|apply aW|apply aD|refine aS ?_ E362.out|refine aS ?_ E363.out|refine aS ?_ E402.out)|exact HB.out)) hb);clear HO_363000;clear HO_364000;clear O397;clear O407;clear B362;clear B363;clear B402;clear HB;have HO_363000:=n0_;have HO_364000:=n1_;have O397:=n2_;have O407:=n3_;have B362:=n4_;have B363:=n5_;have B402:=n6_;have HB:=n7_;clear n0_ n1_ n2_ n3_ n4_ n5_ n6_ n7_;(try clear hb);skip;obtain ⟨Ao123,co123,eo123⟩:=Kd.R_slice O407.out;subst eo123)|(go_at_call 19;(with_reducible refine (ratlinelaw02_Same.calls _ _ t405 _ _ l2 true _ ?side1 ?side2 ?side3 ?side4 A111.out).mono ?_);(case side1 => repeat (first|exact (aQ O407.out).2.2|(with_reducible refine aH ?_ _)|(with_reducible refine aG ?_ _)|(with_reducible refine aI ?_)));(case side2 => exact (aQ O407.out).2.1);(case side3 => repeat (first|exact (Kd.C_below HR2.out HB.out)|(with_reducible refine aH ?_ _)|(with_reducible refine aG ?_ _)|(with_reducible refine aI ?_)));(case side4 => exact HC2.out);rintro e w' ⟨rfl,⟨nd,rfl⟩⟩)|(go_at_call 31;(with_reducible refine (ratlinelaw09_awake.calls  t411 _ A113.out).mono ?_);rintro e w124 ⟨rfl,hb⟩;have n0_:=aK (Kd.V_below (by (with_reducible repeat (first|apply vA|apply vN|apply vD));exact HO_363000.out) hb);have n1_:=aK (Kd.V_below (by (with_reducible repeat (first|apply vA|apply vN|apply vD));exact HO_364000.out) hb);have n2_:=aK (Kd.R_below (by (with_reducible repeat (first|apply zA|apply zN|apply zD));exact O397.out) hb);have n3_:=aK (Kd.R_below (by (with_reducible repeat (first|apply zA|apply zN|apply zD));exact O407.out) hb);have n4_:=aK (aB (g:=gb362) (o:=.cells #[.slice A0_0 l0_0.length c0_0,.int .u64 a0_1,.int .u64 a0_2,.int .u64 a0_3] 54 (0,0)) (by (with_reducible repeat (first|refine bN ?_ _|refine bD ?_|refine bA ?_ _));exact B362.out) hb);have n5_:=aK (aB (g:=gb363) (o:=.cells #[.slice A1_0 l1_0.length c1_0,.int .u64 a1_1,.int .u64 a1_2,.int .u64 a1_3] 54 (0,0)) (by (with_reducible repeat (first|refine bN ?_ _|refine bD ?_|refine bA ?_ _));exact B363.out) hb);have n6_:=aK (aB (g:=gb402) (o:=.cells #[.slice Ao116 t395.length co116,.int .u64 t398,.int .u64 t399,.int .u64 t400] 54 (0,0)) (by (with_reducible repeat (first|refine bN ?_ _|refine bD ?_|refine bA ?_ _));exact B402.out) hb);have n7_:=aK (aT (by repeat (first|(with_reducible first|exact HB.out|apply aA|apply aW|apply aD|refine aS ?_ E362.out|refine aS ?_ E363.out|refine aS ?_ E402.out)|exact HB.out)) hb);clear HO_363000;clear HO_364000;clear O397;clear O407;clear B362;clear B363;clear B402;clear HB;have HO_363000:=n0_;have HO_364000:=n1_;have O397:=n2_;have O407:=n3_;have B362:=n4_;have B363:=n5_;have B402:=n6_;have HB:=n7_;clear n0_ n1_ n2_ n3_ n4_ n5_ n6_ n7_;(try clear hb);skip))
            go_ret
            exact ⟨by first|rfl|(simp [errW_none,errW_some] <;> rfl)|(simp [*,errW_none,errW_some] <;> rfl),by repeat (first|(with_reducible first|exact HB.out|apply aA|apply aW|apply aD|refine aS ?_ E362.out|refine aS ?_ E363.out|refine aS ?_ E402.out)|exact HB.out)⟩
           ·replace c112:=Bool.eq_false_iff.mpr c112
            subst c112
            have H1 : (none) = some r:=by rw [if_neg (show ¬ (false = true) by decide)] at H;exact H
            clear H
            have H:=H1
            clear H1
            exact absurd H (by simp)
          ·replace c109:=Bool.eq_false_iff.mpr c109
           subst c109
           have H1 : (none) = some r:=by rw [if_neg (show ¬ (false = true) by decide)] at H;exact H
           clear H
           have H:=H1
           clear H1
           exact absurd H (by simp)
         ·rw [if_neg c106] at H
          have c106b0 : (t401 == 0) = false:=beq_eq_false_iff_ne.mpr c106
          have c106b1 : (t401 != 0) = true:=bne_iff_ne.mpr c106
          by_cases c125 : t401 = 90
          rotate_left
          ·rw [if_neg c125] at H
           exact absurd H (by simp)

          rw [if_pos c125] at H
          have c125b0 : (t401 == 90) = true:=beq_iff_eq.mpr c125
          have c125b1 : (t401 != 90) = false:=bne_eq_false_iff_eq.mpr c125
          clear c125
          replace H:=Option.bind_eq_some_iff.mp H
          obtain ⟨t403,A1260,H⟩:=H
          replace H : (if t403 = true then ((ratlinelaw09_awake.f).bind fun t404 => (some t404)) else (none)) = some r:=H
          have A126:=aK A1260
          clear A1260
          by_cases c127 : t403 = true
          ·subst c127
           have H1 : ((ratlinelaw09_awake.f).bind fun t404 => (some t404)) = some r:=by rw [if_pos rfl] at H;exact H
           clear H
           have H:=H1
           clear H1
           replace H:=Option.bind_eq_some_iff.mp H
           obtain ⟨t404,A1280,H⟩:=H
           replace H : (some t404) = some r:=H
           have A128:=aK A1280
           clear A1280
           obtain rfl:=Option.some.inj H
           go_wp2_with (first|((with_reducible refine gate_callee (f:=37) rfl ?_);refine goesL_ (some 101) rfl rfl Try.func37 (by kernel_rfl) rfl #[.slice A2 l2.length c2] rfl (by (try simp only [List.map_toArray,List.map_cons,List.map_nil]);first|done|rfl|(simp only [List.length_drop,List.length_take];rfl)) ?_;(with_reducible refine (edit_Parse.calls _ _ l2 t395 t398 t399 t400 t401 _ ?side1 ?side2 A105.out).mono ?_);(case side1 => repeat (first|exact (Kd.C_below HR2.out HB.out)|(with_reducible refine aH ?_ _)|(with_reducible refine aG ?_ _)|(with_reducible refine aI ?_)));(case side2 => exact HC2.out);rintro e w129 ⟨v396,rfl,ho0,hb⟩;refine ⟨_,rfl,?_⟩;have n0_:=aK (aV (by (with_reducible repeat (first|apply vA|apply vN|apply vD));exact HO_363000.out) (aJ ho0) hb);have n1_:=aK (aV (by (with_reducible repeat (first|apply vA|apply vN|apply vD));exact HO_364000.out) (aJ ho0) hb);have n2_:=aK (Kd.R_lower (Kd.R_newM (M:=fun k_ => (w.heap.size ≤ k_)) ho0 (aZ (by repeat (first|(with_reducible first|exact HB.out|apply aA|apply aW|apply aD|refine aS ?_ E362.out|refine aS ?_ E363.out)|exact HB.out))) (fun k_ h_ => h_)) (aZ (by repeat (first|(with_reducible first|exact HB.out|apply aA|apply aW|apply aD|refine aS ?_ E362.out|refine aS ?_ E363.out)|exact HB.out))));have n3_:=aK (aB (g:=gb362) (o:=.cells #[.slice A0_0 l0_0.length c0_0,.int .u64 a0_1,.int .u64 a0_2,.int .u64 a0_3] 54 (0,0)) (by (with_reducible repeat (first|refine bN ?_ _|refine bD ?_|refine bA ?_ _));exact B362.out) hb);have n4_:=aK (aB (g:=gb363) (o:=.cells #[.slice A1_0 l1_0.length c1_0,.int .u64 a1_1,.int .u64 a1_2,.int .u64 a1_3] 54 (0,0)) (by (with_reducible repeat (first|refine bN ?_ _|refine bD ?_|refine bA ?_ _));exact B363.out) hb);have n5_:=aK (aT (by repeat (first|(with_reducible first|exact HB.out|apply aA|apply aW|apply aD|refine aS ?_ E362.out|refine aS ?_ E363.out)|exact HB.out)) hb);clear HO_363000;clear HO_364000;clear B362;clear B363;clear HB;have HO_363000:=n0_;have HO_364000:=n1_;have O397:=n2_;have B362:=n3_;have B363:=n4_;have HB:=n5_;clear n0_ n1_ n2_ n3_ n4_ n5_;(try clear hb);skip;(try clear ho0))|((with_reducible refine gate_dst (N:=13) rfl ?_);(try (refine gate_guard (by rfl) ?_;dsimp only));refine box_event ?hg (N:=13) ?hd (cs:=#[.slice none 0 0,.int .u64 0,.int .u64 0,.int .u64 0]) (t:=54) ?hr ?_;(case hd => rfl);(case hg => rfl);(case hr => first|(go_simp;done)|(go_simp;rfl));intro gb402 hg w130 hbox hb;have n0_:=aK (Kd.V_below (Kd.V_elderB (by (with_reducible repeat (first|apply vA|apply vN|apply vD));exact HO_363000.out) gb402 (Nat.le_of_eq hg.symm)) hb);have n1_:=aK (Kd.V_below (Kd.V_elderB (by (with_reducible repeat (first|apply vA|apply vN|apply vD));exact HO_364000.out) gb402 (Nat.le_of_eq hg.symm)) hb);have n2_:=aK (Kd.R_below (by (with_reducible repeat (first|apply zA|apply zN|apply zD));exact O397.out) hb);have n3_:=aK (aB (g:=gb362) (o:=.cells #[.slice A0_0 l0_0.length c0_0,.int .u64 a0_1,.int .u64 a0_2,.int .u64 a0_3] 54 (0,0)) (by (with_reducible repeat (first|refine bN ?_ _|refine bD ?_|refine bA ?_ _));exact B362.out) hb);have n4_:=aK (aB (g:=gb363) (o:=.cells #[.slice A1_0 l1_0.length c1_0,.int .u64 a1_1,.int .u64 a1_2,.int .u64 a1_3] 54 (0,0)) (by (with_reducible repeat (first|refine bN ?_ _|refine bD ?_|refine bA ?_ _));exact B363.out) hb);have n5_:=aK (aT (by repeat (first|(with_reducible first|exact HB.out|apply aA|apply aW|apply aD|refine aS ?_ E362.out|refine aS ?_ E363.out)|exact HB.out)) hb);have n6_:=aK (hbox);have n7_:=aK ((by rw [hg];exact (aZ (by repeat (first|(with_reducible first|exact HB.out|apply aA|apply aW|apply aD|refine aS ?_ E362.out|refine aS ?_ E363.out)|exact HB.out))) : w.heap.size ≤ gb402));have n8_:=aK ((by rw [hg];exact (aZ (by repeat (first|(with_reducible first|exact HB.out|apply aA|apply aW|apply aD|refine aS ?_ E362.out|refine aS ?_ E363.out)|exact HB.out))) : w.heap.size ≤ gb402));have n9_:=aK ((by rw [hg];exact Nat.ne_of_lt (blk_lt (g:=gb362) (o:=.cells #[.slice A0_0 l0_0.length c0_0,.int .u64 a0_1,.int .u64 a0_2,.int .u64 a0_3] 54 (0,0)) (by (with_reducible repeat (first|refine bN ?_ _|refine bD ?_|refine bA ?_ _));exact B362.out)) : gb362 ≠ gb402));have n10_:=aK ((by rw [hg];exact Nat.ne_of_gt (blk_lt (g:=gb362) (o:=.cells #[.slice A0_0 l0_0.length c0_0,.int .u64 a0_1,.int .u64 a0_2,.int .u64 a0_3] 54 (0,0)) (by (with_reducible repeat (first|refine bN ?_ _|refine bD ?_|refine bA ?_ _));exact B362.out)) : gb402 ≠ gb362));have n11_:=aK ((by rw [hg];exact Nat.ne_of_lt (blk_lt (g:=gb363) (o:=.cells #[.slice A1_0 l1_0.length c1_0,.int .u64 a1_1,.int .u64 a1_2,.int .u64 a1_3] 54 (0,0)) (by (with_reducible repeat (first|refine bN ?_ _|refine bD ?_|refine bA ?_ _));exact B363.out)) : gb363 ≠ gb402));have n12_:=aK ((by rw [hg];exact Nat.ne_of_gt (blk_lt (g:=gb363) (o:=.cells #[.slice A1_0 l1_0.length c1_0,.int .u64 a1_1,.int .u64 a1_2,.int .u64 a1_3] 54 (0,0)) (by (with_reducible repeat (first|refine bN ?_ _|refine bD ?_|refine bA ?_ _));exact B363.out)) : gb402 ≠ gb363));clear HO_363000;clear HO_364000;clear O397;clear B362;clear B363;clear HB;have HO_363000:=n0_;have HO_364000:=n1_;have O397:=n2_;have B362:=n3_;have B363:=n4_;have HB:=n5_;have B402:=n6_;have W402:=n7_;have E402:=n8_;have N362_402:=n9_;have N402_362:=n10_;have N363_402:=n11_;have N402_363:=n12_;clear n0_ n1_ n2_ n3_ n4_ n5_ n6_ n7_ n8_ n9_ n10_ n11_ n12_;clear hb hbox hg;obtain ⟨Ao131,co131,eo131⟩:=Kd.R_slice O397.out;subst eo131;have hnb132:=N402_362.out;have hnc132:=N362_402.out;have hnb133:=N402_363.out;have hnc133:=N363_402.out;have z134_0 : w130.cell? ⟨gb402,0,none⟩ = some (.slice none 0 0):=(aC B402.out 0).trans rfl;have z134_1 : w130.cell? ⟨gb402,1,none⟩ = some (.int .u64 0):=(aC B402.out 1).trans rfl;have z134_2 : w130.cell? ⟨gb402,2,none⟩ = some (.int .u64 0):=(aC B402.out 2).trans rfl;have z134_3 : w130.cell? ⟨gb402,3,none⟩ = some (.int .u64 0):=(aC B402.out 3).trans rfl;have f134_0:=aF B402.out 0;have f134_1:=aF B402.out 1;have f134_2:=aF B402.out 2;have f134_3:=aF B402.out 3)|(go_at_call 36;(refine calls_of_args (args':=#[.agg #[.slice Ao131 t395.length co131,.int .u64 t398,.int .u64 t399,.int .u64 t400],.agg #[.slice none (([] : List (S62))).length 0,.int .u64 0,.int .u64 0,.int .u64 0]]) (by rfl) ?_;with_reducible refine (edit_Same.calls kj72 _ _ t395 t398 t399 t400 _ _ ([] : List (S62)) 0 0 0 true _ ?side1 ?side2 ?side3 ?side4 A126.out).mono ?_);(case side1 => refine (aQ (e:=62) (base:=w.heap.size) (ok:=fun k_ => ((w.heap.size ≤ k_) ∧ True)) (n:=t395.length) (c:=co131) ?_).2.2;exact (by (with_reducible repeat (first|apply zA|apply zN|apply zD));exact (aM (aY (p:=⟨gb402,3,none⟩) (aY (p:=⟨gb402,2,none⟩) (aY (p:=⟨gb402,1,none⟩) (aY (p:=⟨gb402,0,none⟩) (aP O397.out B402.out (by decide)) (fun _ hk => hk.2) (.slice Ao131 t395.length co131)) (fun _ hk => hk.2) (.int .u64 t398)) (fun _ hk => hk.2) (.int .u64 t399)) (fun _ hk => hk.2) (.int .u64 t400)) (fun _ h_ => h_.1))));(case side2 => exact (aQ O397.out).2.1);(case side3 => exact Kd.C_nil _ _);(case side4 => exact Nat.le_refl _);rintro e w135 ⟨rfl,hb⟩;have n0_:=aK (Kd.V_below (by (with_reducible repeat (first|apply vA|apply vN|apply vD));exact (aN (aU (p:=⟨gb402,3,none⟩) (aU (p:=⟨gb402,2,none⟩) (aU (p:=⟨gb402,1,none⟩) (aU (p:=⟨gb402,0,none⟩) (aN HO_363000.out (fun k_ hk => (⟨hk,hk.2⟩ : _ ∧ k_ ≠ gb402))) (fun _ hk => hk.2) (.slice Ao131 t395.length co131)) (fun _ hk => hk.2) (.int .u64 t398)) (fun _ hk => hk.2) (.int .u64 t399)) (fun _ hk => hk.2) (.int .u64 t400)) (fun _ h_ => h_.1))) hb);have n1_:=aK (Kd.V_below (by (with_reducible repeat (first|apply vA|apply vN|apply vD));exact (aN (aU (p:=⟨gb402,3,none⟩) (aU (p:=⟨gb402,2,none⟩) (aU (p:=⟨gb402,1,none⟩) (aU (p:=⟨gb402,0,none⟩) (aN HO_364000.out (fun k_ hk => (⟨hk,hk.2⟩ : _ ∧ k_ ≠ gb402))) (fun _ hk => hk.2) (.slice Ao131 t395.length co131)) (fun _ hk => hk.2) (.int .u64 t398)) (fun _ hk => hk.2) (.int .u64 t399)) (fun _ hk => hk.2) (.int .u64 t400)) (fun _ h_ => h_.1))) hb);have n2_:=aK (Kd.R_below (by (with_reducible repeat (first|apply zA|apply zN|apply zD));exact (aM (aY (p:=⟨gb402,3,none⟩) (aY (p:=⟨gb402,2,none⟩) (aY (p:=⟨gb402,1,none⟩) (aY (p:=⟨gb402,0,none⟩) (aP O397.out B402.out (by decide)) (fun _ hk => hk.2) (.slice Ao131 t395.length co131)) (fun _ hk => hk.2) (.int .u64 t398)) (fun _ hk => hk.2) (.int .u64 t399)) (fun _ hk => hk.2) (.int .u64 t400)) (fun _ h_ => h_.1))) hb);have n3_:=aK (aB (g:=gb362) (o:=.cells #[.slice A0_0 l0_0.length c0_0,.int .u64 a0_1,.int .u64 a0_2,.int .u64 a0_3] 54 (0,0)) (by (with_reducible repeat (first|refine bN ?_ _|refine bD ?_|refine bA ?_ _));refine aX ?_ N362_402.out _;(with_reducible repeat (first|refine bN ?_ _|refine bD ?_|refine bA ?_ _));refine aX ?_ N362_402.out _;(with_reducible repeat (first|refine bN ?_ _|refine bD ?_|refine bA ?_ _));refine aX ?_ N362_402.out _;(with_reducible repeat (first|refine bN ?_ _|refine bD ?_|refine bA ?_ _));refine aX ?_ N362_402.out _;(with_reducible repeat (first|refine bN ?_ _|refine bD ?_|refine bA ?_ _));exact B362.out) hb);have n4_:=aK (aB (g:=gb363) (o:=.cells #[.slice A1_0 l1_0.length c1_0,.int .u64 a1_1,.int .u64 a1_2,.int .u64 a1_3] 54 (0,0)) (by (with_reducible repeat (first|refine bN ?_ _|refine bD ?_|refine bA ?_ _));refine aX ?_ N363_402.out _;(with_reducible repeat (first|refine bN ?_ _|refine bD ?_|refine bA ?_ _));refine aX ?_ N363_402.out _;(with_reducible repeat (first|refine bN ?_ _|refine bD ?_|refine bA ?_ _));refine aX ?_ N363_402.out _;(with_reducible repeat (first|refine bN ?_ _|refine bD ?_|refine bA ?_ _));refine aX ?_ N363_402.out _;(with_reducible repeat (first|refine bN ?_ _|refine bD ?_|refine bA ?_ _));exact B363.out) hb);have n5_:=aK (aB (g:=gb402) (o:=.cells #[.slice Ao131 t395.length co131,.int .u64 t398,.int .u64 t399,.int .u64 t400] 54 (0,0)) (by (with_reducible repeat (first|refine bN ?_ _|refine bD ?_|refine bA ?_ _));refine blk_put (cs:=#[.slice Ao131 t395.length co131,.int .u64 t398,.int .u64 t399,.int .u64 0]) ?_ 3 _ rfl;(with_reducible repeat (first|refine bN ?_ _|refine bD ?_|refine bA ?_ _));refine blk_put (cs:=#[.slice Ao131 t395.length co131,.int .u64 t398,.int .u64 0,.int .u64 0]) ?_ 2 _ rfl;(with_reducible repeat (first|refine bN ?_ _|refine bD ?_|refine bA ?_ _));refine blk_put (cs:=#[.slice Ao131 t395.length co131,.int .u64 0,.int .u64 0,.int .u64 0]) ?_ 1 _ rfl;(with_reducible repeat (first|refine bN ?_ _|refine bD ?_|refine bA ?_ _));refine blk_put (cs:=#[.slice none 0 0,.int .u64 0,.int .u64 0,.int .u64 0]) ?_ 0 _ rfl;(with_reducible repeat (first|refine bN ?_ _|refine bD ?_|refine bA ?_ _));exact B402.out) hb);have n6_:=aK (aT (by repeat (first|(with_reducible first|exact HB.out|apply aA|apply aW|apply aD|refine aS ?_ E362.out|refine aS ?_ E363.out|refine aS ?_ E402.out)|exact HB.out)) hb);clear HO_363000;clear HO_364000;clear O397;clear B362;clear B363;clear B402;clear HB;have HO_363000:=n0_;have HO_364000:=n1_;have O397:=n2_;have B362:=n3_;have B363:=n4_;have B402:=n5_;have HB:=n6_;clear n0_ n1_ n2_ n3_ n4_ n5_ n6_;(try clear hb);skip)|(go_at_call 31;(with_reducible refine (ratlinelaw09_awake.calls  t404 _ A128.out).mono ?_);rintro e w136 ⟨rfl,hb⟩;have n0_:=aK (Kd.V_below (by (with_reducible repeat (first|apply vA|apply vN|apply vD));exact HO_363000.out) hb);have n1_:=aK (Kd.V_below (by (with_reducible repeat (first|apply vA|apply vN|apply vD));exact HO_364000.out) hb);have n2_:=aK (Kd.R_below (by (with_reducible repeat (first|apply zA|apply zN|apply zD));exact O397.out) hb);have n3_:=aK (aB (g:=gb362) (o:=.cells #[.slice A0_0 l0_0.length c0_0,.int .u64 a0_1,.int .u64 a0_2,.int .u64 a0_3] 54 (0,0)) (by (with_reducible repeat (first|refine bN ?_ _|refine bD ?_|refine bA ?_ _));exact B362.out) hb);have n4_:=aK (aB (g:=gb363) (o:=.cells #[.slice A1_0 l1_0.length c1_0,.int .u64 a1_1,.int .u64 a1_2,.int .u64 a1_3] 54 (0,0)) (by (with_reducible repeat (first|refine bN ?_ _|refine bD ?_|refine bA ?_ _));exact B363.out) hb);have n5_:=aK (aB (g:=gb402) (o:=.cells #[.slice Ao131 t395.length co131,.int .u64 t398,.int .u64 t399,.int .u64 t400] 54 (0,0)) (by (with_reducible repeat (first|refine bN ?_ _|refine bD ?_|refine bA ?_ _));exact B402.out) hb);have n6_:=aK (aT (by repeat (first|(with_reducible first|exact HB.out|apply aA|apply aW|apply aD|refine aS ?_ E362.out|refine aS ?_ E363.out|refine aS ?_ E402.out)|exact HB.out)) hb);clear HO_363000;clear HO_364000;clear O397;clear B362;clear B363;clear B402;clear HB;have HO_363000:=n0_;have HO_364000:=n1_;have O397:=n2_;have B362:=n3_;have B363:=n4_;have B402:=n5_;have HB:=n6_;clear n0_ n1_ n2_ n3_ n4_ n5_ n6_;(try clear hb);skip))
           go_ret
           exact ⟨by first|rfl|(simp [errW_none,errW_some] <;> rfl)|(simp [*,errW_none,errW_some] <;> rfl),by repeat (first|(with_reducible first|exact HB.out|apply aA|apply aW|apply aD|refine aS ?_ E362.out|refine aS ?_ E363.out|refine aS ?_ E402.out)|exact HB.out)⟩
          ·replace c127:=Bool.eq_false_iff.mpr c127
           subst c127
           have H1 : (none) = some r:=by rw [if_neg (show ¬ (false = true) by decide)] at H;exact H
           clear H
           have H:=H1
           clear H1
           exact absurd H (by simp)
end Go.Proofs.Ytlaihdipagejfaa.P

end

section
set_option linter.unusedVariables false
set_option linter.unusedSimpArgs false
namespace Go.Proofs.YtlaihdipagejfaaL
open Go Go.RowKit Go.Proofs.YtlaihdipagejfaaG Go.Proofs.Ytlaihdipagejfaa.P Go.Proofs.YtlaihdipagejfaaW.PrintWords Go.Proofs.YtlaihdipagejfaaW.PrintMore

theorem heap62 : Kd.Heap k62 := by
  unfold k62
  repeat (first | apply Kd.heap_slice | apply Kd.heap_iso | apply Kd.heap_pair | exact Kd.heap_string | exact Kd.heap_int _)
abbrev EdS := S54
theorem lit_u64 {x : Int} (h : (Lit.int .u64 x).wf = true) : U64 x := by
  simp [Lit.wf, IntKind.min, IntKind.max, IntKind.bits, IntKind.signed] at h
  exact ⟨by omega, by omega⟩
def shortB (m : MetaS) : Bool := decide (m.f2.size ≤ 70) && decide (m.f3.size ≤ 70)
def fewE (e : EdS) : Bool := e.f0.all shortB && decide (e.f0.length ≤ 70)
theorem few_l1 (L : List EdS) (x9 : Int) (l : List MetaS) (a b c : Int) (hl : l.length ≤ 9223372036854775807) (r : Bool) (hc : Ev (fun k => ratlinelaw09_Few.l0 k L (L.length : Int) (wrap64 (x9 + 1))) r) :
    ∀ (n i : Nat), i + n = l.length → Ev (fun k => ratlinelaw09_Few.l1 k L (L.length : Int) x9 l (l.length : Int) i l a b c) ((l.drop i).all shortB && decide (l.length ≤ 70) && r) := by
  intro n
  induction n with
  | zero =>
    intro i hi
    rw [List.drop_eq_nil_of_le (by omega), List.all_nil, Bool.true_and]
    by_cases h : l.length ≤ 70
    · rw [decide_eq_true h, Bool.true_and]
      exact ev_step (fun k => by rw [ratlinelaw09_Few.l1, if_neg (by omega), if_neg (by omega)]) hc
    · rw [decide_eq_false h, Bool.false_and]
      exact ev_of 1 (fun k => by rw [ratlinelaw09_Few.l1, if_neg (by omega), if_pos (by omega)])
  | succ n ih =>
    intro i hi
    have hlt : i < l.length := by omega
    have hr : rd_T62 l (i : Int) = l[i] := getD_at hlt
    have hn := ih (i + 1) (by omega)
    rw [List.drop_eq_getElem_cons hlt, List.all_cons]
    by_cases h2 : (l[i]).f2.size ≤ 70
    · by_cases h3 : (l[i]).f3.size ≤ 70
      · rw [show shortB l[i] = true by unfold shortB; rw [decide_eq_true h2, decide_eq_true h3]; rfl, Bool.true_and]
        exact ev_step (fun k => by rw [ratlinelaw09_Few.l1, if_pos (by omega), if_pos (by omega), if_pos (by omega), hr, if_neg (by omega), if_neg (by omega), up1' (by omega)]) hn
      · rw [show shortB l[i] = false by unfold shortB; rw [decide_eq_true h2, decide_eq_false h3]; rfl, Bool.false_and, Bool.false_and, Bool.false_and]
        exact ev_of 1 (fun k => by rw [ratlinelaw09_Few.l1, if_pos (by omega), if_pos (by omega), if_pos (by omega), hr, if_neg (by omega), if_pos (by omega)])
    · rw [show shortB l[i] = false by unfold shortB; rw [decide_eq_false h2]; rfl, Bool.false_and, Bool.false_and, Bool.false_and]
      exact ev_of 1 (fun k => by rw [ratlinelaw09_Few.l1, if_pos (by omega), if_pos (by omega), if_pos (by omega), hr, if_pos (by omega)])
theorem few_l0 (L : List EdS) (hL : L.length ≤ 1000) (hl : ∀ e ∈ L, e.f0.length ≤ 9223372036854775807) :
    ∀ (n i : Nat), i + n = L.length → Ev (fun k => ratlinelaw09_Few.l0 k L (L.length : Int) i) ((L.drop i).all fewE) := by
  intro n
  induction n with
  | zero =>
    intro i hi
    rw [List.drop_eq_nil_of_le (by omega), List.all_nil]
    exact ev_of 1 (fun k => by rw [ratlinelaw09_Few.l0, if_neg (by omega)])
  | succ n ih =>
    intro i hi
    have hlt : i < L.length := by omega
    have hr : rd_T54 L (i : Int) = L[i] := getD_at hlt
    have hn := ih (i + 1) (by omega)
    rw [List.drop_eq_getElem_cons hlt, List.all_cons]
    have h1 := few_l1 L (i : Int) (L[i]).f0 (L[i]).f1 (L[i]).f2 (L[i]).f3 (hl _ (List.getElem_mem hlt)) _ (by rw [up1 (by omega)]; exact hn) (L[i]).f0.length 0 (by omega)
    rw [List.drop_zero] at h1
    exact ev_step (fun k => by rw [ratlinelaw09_Few.l0, if_pos (by omega), if_pos (by omega), if_pos (by omega), hr]; rfl) h1
theorem few_ev (L : List EdS) (hL : L.length ≤ 1000) (hl : ∀ e ∈ L, e.f0.length ≤ 9223372036854775807) : Ev (fun k => ratlinelaw09_Few.f k L) (L.all fewE) := by
  have := few_l0 L hL hl L.length 0 (by omega)
  rw [List.drop_zero] at this
  exact this
theorem fewE_len {e : EdS} (h : fewE e = true) : e.f0.length ≤ 70 := by
  unfold fewE at h
  simp only [Bool.and_eq_true, decide_eq_true_eq] at h
  exact h.2
/-- What comes in. -/
def WfI (e : EdS) : Prop := (e.f0.length ≤ maxLen ∧ ∀ m ∈ e.f0, (Lit.int .u64 m.f0).wf = true ∧ (Lit.int .u64 m.f1).wf = true ∧ m.f2.size ≤ maxLen ∧ m.f3.size ≤ maxLen) ∧ (Lit.int .u64 e.f1).wf = true ∧ (Lit.int .u64 e.f2).wf = true ∧ (Lit.int .u64 e.f3).wf = true
theorem WfI.e {e : EdS} (h : WfI e) : WfE e.f0 e.f1 e.f2 e.f3 := ⟨fun m hm => ⟨lit_u64 (h.1.2 m hm).1, lit_u64 (h.1.2 m hm).2.1⟩, lit_u64 h.2.1, lit_u64 h.2.2.1, lit_u64 h.2.2.2⟩
theorem WfI.len {e : EdS} (h : WfI e) : e.f0.length ≤ 9223372036854775807 := h.1.1
end Go.Proofs.YtlaihdipagejfaaL

end

section
set_option linter.unusedVariables false
namespace Go.Proofs.YtlaihdipagejfaaL
open Go Go.RowKit Go.Proofs.YtlaihdipagejfaaG Go.Proofs.YtlaihdipagejfaaW.PrintWords

theorem vint_small {x : Nat} (h : ¬ 127 < x) : vint x = [(x : Int)] := by rw [vint, dif_neg h]
theorem vint_big {x : Nat} (h : 127 < x) : vint x = ((x % 128 + 128 : Nat) : Int) :: vint (x / 128) := by rw [vint, dif_pos h]
theorem vint_pos (x : Nat) : 0 < (vint x).length := by
  by_cases h : 127 < x
  · rw [vint_big h]; simp
  · rw [vint_small h]; simp
theorem vint_by (x : Nat) : By (vint x) := by
  induction x using Nat.strongRecOn with
  | ind x ih =>
    by_cases h : 127 < x
    · rw [vint_big h]
      exact .cons (by omega) (by omega) (ih _ (by omega))
    · rw [vint_small h]
      exact .cons (by omega) (by omega) .nil
theorem val7_vint (x : Nat) : val7 (vint x) = x := by
  induction x using Nat.strongRecOn with
  | ind x ih =>
    by_cases h : 127 < x
    · rw [vint_big h, val7, ih _ (by omega)]; omega
    · rw [vint_small h, val7, val7]; omega
theorem vint_inj {x y : Nat} (h : vint x = vint y) : x = y := by rw [← val7_vint x, h, val7_vint]
theorem findIdx_vint (x : Nat) (rest : List Int) : (vint x ++ rest).findIdx (· < 128) = (vint x).length - 1 := by
  induction x using Nat.strongRecOn with
  | ind x ih =>
    by_cases h : 127 < x
    · have hp := vint_pos (x / 128)
      rw [vint_big h, List.cons_append, List.findIdx_cons, ih _ (by omega)]
      have : decide ((((x % 128 + 128 : Nat) : Int)) < 128) = false := decide_eq_false (by omega)
      rw [this]
      simp only [cond_false, List.length_cons]
      omega
    · rw [vint_small h, List.cons_append, List.findIdx_cons]
      have : decide ((x : Int) < 128) = true := decide_eq_true (by omega)
      rw [this]
      simp
theorem vint_last (x : Nat) (rest : List Int) (hx : 0 < x) : (vint x ++ rest).getD ((vint x).length - 1) 0 ≠ 0 := by
  induction x using Nat.strongRecOn with
  | ind x ih =>
    by_cases h : 127 < x
    · have hp := vint_pos (x / 128)
      have := ih (x / 128) (by omega) (by omega)
      rw [vint_big h, List.cons_append, List.length_cons]
      obtain ⟨m, hm⟩ : ∃ m, (vint (x / 128)).length = m + 1 := ⟨_, (Nat.succ_pred_eq_of_pos hp).symm⟩
      rw [hm] at this ⊢
      simpa using this
    · rw [vint_small h]; simp; omega
theorem vint_top (m : Nat) (hm : m ≤ 128) (rest : List Int) : ∀ n x, x < 128 ^ n * m → (vint x).length = n + 1 → (vint x ++ rest).getD n 0 < m := by
  intro n
  induction n with
  | zero =>
    intro x hx hl
    have h : ¬ 127 < x := by simp at hx; omega
    rw [vint_small h]
    simp at hx ⊢
    omega
  | succ n ih =>
    intro x hx hl
    by_cases h : 127 < x
    · rw [vint_big h] at hl ⊢
      have hl' : (vint (x / 128)).length = n + 1 := by simpa using hl
      have := ih (x / 128) (by rw [Nat.pow_succ] at hx; rw [Nat.div_lt_iff_lt_mul (by omega)]; calc x < 128 ^ n * 128 * m := hx
        _ = 128 ^ n * m * 128 := by rw [Nat.mul_assoc, Nat.mul_comm 128 m, ← Nat.mul_assoc]) hl'
      simpa using this
    · rw [vint_small h] at hl
      simp at hl
theorem takeOk_vint (x : Nat) (rest : List Int) (hx : x < 18446744073709551616) : takeOk (vint x ++ rest) = true := by
  have hp := vint_pos x
  have hl := vint_len10 hx
  unfold takeOk
  rw [findIdx_vint]
  have h1 : (vint x).length - 1 < (vint x ++ rest).length := by rw [List.length_append]; omega
  have h3 : ¬ (0 < (vint x).length - 1 ∧ (vint x ++ rest).getD ((vint x).length - 1) 0 = 0) := by
    rintro ⟨h0, h⟩
    refine vint_last x rest ?_ h
    rcases Nat.eq_zero_or_pos x with rfl | h'
    · rw [vint_small (by omega)] at h0; simp at h0
    · exact h'
  have h4 : ¬ ((vint x).length - 1 = 9 ∧ 1 < (vint x ++ rest).getD 9 0) := by
    rintro ⟨h0, h⟩
    have := vint_top 2 (by omega) rest 9 x (by have : (128 : Nat) ^ 9 * 2 = 18446744073709551616 := by decide
                                               omega) (by omega)
    omega
  simp only [h1, decide_true, Bool.true_and, Bool.and_eq_true, Bool.not_eq_true', Bool.and_eq_false_iff, decide_eq_false_iff_not, decide_eq_true_eq]
  refine ⟨⟨by omega, ?_⟩, ?_⟩
  · by_cases h0 : 0 < (vint x).length - 1
    · exact .inr (fun h => h3 ⟨h0, h⟩)
    · exact .inl h0
  · by_cases h0 : (vint x).length - 1 = 9
    · exact .inr (fun h => h4 ⟨h0, h⟩)
    · exact .inl h0

/-- What is put is taken. -/
theorem take_vint (x : Nat) (rest : List Int) (hx : x < 18446744073709551616) (hr : By rest) (hl : rest.length + 10 < 140737488355328) :
    nums_Take.f (vint x ++ rest) = some ((x : Int), rest, true) := by
  have hp := vint_pos x
  have hl10 := vint_len10 hx
  unfold nums_Take.f
  rw [if_pos ⟨(vint_by x).append hr, by rw [List.length_append]; omega⟩, if_pos (takeOk_vint x rest hx), findIdx_vint]
  have e : (vint x).length - 1 + 1 = (vint x).length := by omega
  rw [e, List.take_left, List.drop_left, val7_vint]

theorem val7_pos : ∀ (l : List Int) (i : Nat), By l → l.findIdx (· < 128) = i → i < l.length → l.getD i 0 ≠ 0 → 0 < val7 (l.take (i + 1))
  | [], i, _, _, hl, _ => by simp at hl
  | c :: cs, i, hb, hi, hl, h0 => by
    have hc := hb.head
    rw [List.findIdx_cons] at hi
    by_cases h : c < 128
    · rw [decide_eq_true h] at hi
      simp at hi
      subst hi
      simp at h0
      simp [val7]
      omega
    · rw [decide_eq_false h] at hi
      simp at hi
      subst hi
      have := val7_pos cs _ hb.tail rfl (by simpa using hl) (by simpa using h0)
      rw [List.take_succ_cons, val7]
      omega
theorem vint_back : ∀ (l : List Int) (i : Nat), By l → l.findIdx (· < 128) = i → i < l.length → (0 < i → l.getD i 0 ≠ 0) → vint (val7 (l.take (i + 1))) = l.take (i + 1)
  | [], i, _, _, hl, _ => by simp at hl
  | c :: cs, i, hb, hi, hl, h0 => by
    have hc := hb.head
    rw [List.findIdx_cons] at hi
    by_cases h : c < 128
    · rw [decide_eq_true h] at hi
      simp at hi
      subst hi
      have e : val7 (List.take (0 + 1) (c :: cs)) = c.toNat := by simp [val7]; omega
      rw [e, vint_small (by omega)]
      simp
      omega
    · rw [decide_eq_false h] at hi
      simp at hi
      subst hi
      have hl' : cs.findIdx (· < 128) < cs.length := by simpa using hl
      have h0' : cs.getD (cs.findIdx (· < 128)) 0 ≠ 0 := by simpa using h0 (by omega)
      have ih := vint_back cs _ hb.tail rfl hl' (fun _ => h0')
      have hp := val7_pos cs _ hb.tail rfl hl' h0'
      rw [List.take_succ_cons, val7]
      rw [vint_big (by omega)]
      have e1 : ((c % 128).toNat + 128 * val7 (cs.take (cs.findIdx (· < 128) + 1))) / 128 = val7 (cs.take (cs.findIdx (· < 128) + 1)) := by omega
      have e2 : ((((c % 128).toNat + 128 * val7 (cs.take (cs.findIdx (· < 128) + 1))) % 128 + 128 : Nat) : Int) = c := by omega
      rw [e1, ih, e2]

/-- What is taken is put as it stood; or nothing is taken. -/
theorem take_cases (l : List Int) (hb : By l) (hl : l.length < 140737488355328) :
    (∃ (x : Nat) (rest : List Int), x < 18446744073709551616 ∧ l = vint x ++ rest ∧ nums_Take.f l = some ((x : Int), rest, true)) ∨
    (nums_Take.f l = some (0, [], false) ∧ ∀ (x : Nat) (rest : List Int), x < 18446744073709551616 → l ≠ vint x ++ rest) := by
  have hf : nums_Take.f l = some (if takeOk l = true then ((val7 (l.take (l.findIdx (· < 128) + 1)) : Int), l.drop (l.findIdx (· < 128) + 1), true) else (0, [], false)) := by
    unfold nums_Take.f
    rw [if_pos ⟨hb, hl⟩]
  by_cases ho : takeOk l = true
  · left
    rw [hf, if_pos ho]
    simp only [takeOk, Bool.and_eq_true, decide_eq_true_eq, Bool.not_eq_true', Bool.and_eq_false_iff, decide_eq_false_iff_not] at ho
    obtain ⟨⟨⟨h1, h2⟩, h3⟩, h4⟩ := ho
    have hback := vint_back l _ hb rfl h1 (fun h => by rcases h3 with h' | h'; exact absurd h h'; exact h')
    refine ⟨_, _, ?_, ?_, rfl⟩
    · have e1 : l.take (l.findIdx (· < 128) + 1) = l.take (l.findIdx (· < 128)) ++ [l.getD (l.findIdx (· < 128)) 0] := by
        rw [List.take_succ_eq_append_getElem h1, List.getD_eq_getElem?_getD, List.getElem?_eq_getElem h1]; rfl
      have hlen : (l.take (l.findIdx (· < 128))).length = l.findIdx (· < 128) := by rw [List.length_take]; omega
      have hlt := val7_lt (l.take (l.findIdx (· < 128)))
      rw [e1, val7_snoc, hlen]
      rw [hlen] at hlt
      generalize l.findIdx (· < 128) = i at *
      have hi9 : i ≤ 9 := by omega
      have e9 : (128 : Nat) ^ 9 * 2 = 18446744073709551616 := by decide
      by_cases hi : i = 9
      · subst hi
        have hm : l.getD 9 0 ∈ l := by rw [List.getD_eq_getElem?_getD, List.getElem?_eq_getElem h1]; exact List.getElem_mem h1
        have hm0 := (hb _ hm).1
        have hd : (l.getD 9 0 % 128).toNat ≤ 1 := by
          rcases h4 with h' | h'
          · exact absurd rfl h'
          · omega
        have : (l.getD 9 0 % 128).toNat * 128 ^ 9 ≤ 1 * 128 ^ 9 := Nat.mul_le_mul hd (Nat.le_refl _)
        omega
      · have hd : (l.getD i 0 % 128).toNat ≤ 127 := by omega
        have : (l.getD i 0 % 128).toNat * 128 ^ i ≤ 127 * 128 ^ i := Nat.mul_le_mul hd (Nat.le_refl _)
        have h8 : (128 : Nat) ^ i ≤ 128 ^ 8 := Nat.pow_le_pow_right (by omega) (by omega)
        have e8 : (128 : Nat) ^ 8 = 72057594037927936 := by decide
        omega
    · rw [hback, List.take_append_drop]
  · right
    rw [hf, if_neg ho]
    refine ⟨rfl, fun x rest hx e => ho ?_⟩
    rw [e]
    exact takeOk_vint x rest hx
theorem vint_append_inj {x y : Nat} {a b : List Int} (hx : x < 18446744073709551616) (hy : y < 18446744073709551616) (h : vint x ++ a = vint y ++ b) : x = y ∧ a = b := by
  have h1 := findIdx_vint x a
  have h2 := findIdx_vint y b
  rw [h] at h1
  have hp := vint_pos x
  have hq := vint_pos y
  have hl : (vint x).length = (vint y).length := by omega
  have h3 := List.append_inj h hl
  exact ⟨vint_inj h3.1, h3.2⟩
end Go.Proofs.YtlaihdipagejfaaL

end

section

end

section
set_option linter.unusedVariables false
namespace Go.Proofs.YtlaihdipagejfaaL
open Go Go.RowKit Go.Proofs.YtlaihdipagejfaaG Go.Proofs.Ytlaihdipagejfaa.P Go.Proofs.YtlaihdipagejfaaW.PrintWords Go.Proofs.YtlaihdipagejfaaW.PrintMore

theorem same_f {a b : List Int} (ha : By a) (hb : By b) : ratlinelaw02_Same.f a b = some (decide (a = b)) := by
  unfold ratlinelaw02_Same.f
  by_cases h : a = b
  · subst h; simp
  · have : (strOfNums a).toList ≠ (strOfNums b).toList := fun e => h (str_inj ha hb (ba_ext e))
    rw [decide_eq_false h, beq_eq_false_iff_ne.2 this]
theorem put_f {l : List Int} {x : Nat} (hx : x < 18446744073709551616) (hl : l.length + 10 < 140737488355328) : nums_Put.f l (x : Int) = some (l ++ vint x) := by
  unfold nums_Put.f
  rw [if_pos ⟨by omega, by omega, hl⟩, Int.toNat_natCast]
theorem wrap_u64_nat {x : Nat} (hx : x < 18446744073709551616) : IntKind.u64.wrap (x : Int) = (x : Int) := by rw [IntKind.wrap_u64]; omega
theorem clone_f {l : List Int} (hl : l.length < 140737488355328) : slices_Clone_byte_byte.f l = some l := by
  unfold slices_Clone_byte_byte.f
  rw [if_pos hl]
theorem mx_eq (a b : Int) : mx a b = max a b := by unfold mx; split <;> omega

/-- The text that bytes say. -/
theorem takeText_yes (s : ByteArray) (rest : List Int) (most : Int) (hm : most ≤ 9223372036854775807) (hr : By rest) (hl : s.size + rest.length + 20 < 140737488355328) (h : (s.size : Int) ≤ most) :
    nums_TakeText.f (vint s.size ++ (bytesOf s ++ rest)) most = some (s, rest, true) := by
  have hbl := bytesOf_length s
  unfold nums_TakeText.f
  rw [take_vint s.size _ (by omega) ((bytesOf_by s).append hr) (by rw [List.length_append]; omega)]
  simp only [Option.bind_some, if_true]
  have e1 : IntKind.u64.wrap (mx most 0) = most := by rw [mx_eq, IntKind.wrap_u64]; omega
  have e2 : IntKind.u64.wrap (((bytesOf s ++ rest).length : Nat) : Int) = ((s.size + rest.length : Nat) : Int) := by rw [List.length_append, hbl]; exact wrap_u64_nat (by omega)
  rw [e1, e2, if_neg (by omega), if_neg (by omega), if_neg (by omega), if_pos (by omega), if_pos (by rw [List.length_append]; omega), Int.toNat_natCast]
  have e3 : (bytesOf s ++ rest).drop s.size = rest := by rw [← hbl, List.drop_left]
  have e4 : (bytesOf s ++ rest).take s.size = bytesOf s := by rw [← hbl, List.take_left]
  rw [e3, e4, clone_f (by omega)]
  simp only [Option.bind_some, str_bytes]
theorem takeText_cases (l : List Int) (most : Int) (hm : most ≤ 9223372036854775807) (hb : By l) (hl : l.length + 20 < 140737488355328) :
    (∃ (s : ByteArray) (rest : List Int), (s.size : Int) ≤ most ∧ l = vint s.size ++ (bytesOf s ++ rest) ∧ nums_TakeText.f l most = some (s, rest, true)) ∨
    (nums_TakeText.f l most = some (⟨#[]⟩, [], false) ∧ ∀ (s : ByteArray) (rest : List Int), (s.size : Int) ≤ most → l ≠ vint s.size ++ (bytesOf s ++ rest)) := by
  rcases take_cases l hb (by omega) with ⟨x, rest, hx, he, hf⟩ | ⟨hf, hno⟩
  · by_cases h : (x : Int) ≤ most ∧ x ≤ rest.length
    · left
      have hr : By rest := By.right (he ▸ hb)
      have hsz : (strOfNums (rest.take x)).size = x := by rw [strOfNums_size, List.length_take]; omega
      have hl2 : l.length = (vint x).length + rest.length := by rw [he, List.length_append]
      have e0 : rest = bytesOf (strOfNums (rest.take x)) ++ rest.drop x := by rw [bytes_str (hr.take x), List.take_append_drop]
      have e1 : l = vint (strOfNums (rest.take x)).size ++ (bytesOf (strOfNums (rest.take x)) ++ rest.drop x) := by rw [hsz, ← e0]; exact he
      refine ⟨strOfNums (rest.take x), rest.drop x, by rw [hsz]; exact h.1, e1, ?_⟩
      have := takeText_yes (strOfNums (rest.take x)) (rest.drop x) most hm (hr.drop x) (by rw [hsz, List.length_drop]; omega) (by rw [hsz]; exact h.1)
      rw [← e1] at this
      exact this
    · right
      refine ⟨?_, fun s rest' hs e => h ?_⟩
      · have hl2 : l.length = (vint x).length + rest.length := by rw [he, List.length_append]
        unfold nums_TakeText.f
        rw [hf]
        simp only [Option.bind_some, if_true]
        have e2 : IntKind.u64.wrap ((rest.length : Nat) : Int) = (rest.length : Int) := wrap_u64_nat (by omega)
        have e1 : IntKind.u64.wrap (mx most 0) = max most 0 := by rw [mx_eq, IntKind.wrap_u64]; omega
        rw [e1, e2]
        by_cases c1 : (x : Int) > max most 0
        · rw [if_pos c1]
        · rw [if_neg c1]
          by_cases c2 : most < 0
          · rw [if_pos c2]
          · rw [if_neg c2, if_pos (by omega)]
      · rw [he] at e
        obtain ⟨rfl, rfl⟩ := vint_append_inj hx (by have : l.length = (vint s.size).length + (s.size + rest'.length) := by rw [he, e, List.length_append, List.length_append, bytesOf_length]
                                                    omega) e
        exact ⟨hs, by rw [List.length_append, bytesOf_length]; omega⟩
  · right
    refine ⟨?_, fun s rest' hs e => hno s.size (bytesOf s ++ rest') ?_ e⟩
    · unfold nums_TakeText.f
      rw [hf]
      simp
    · have : l.length = (vint s.size).length + (s.size + rest'.length) := by rw [e, List.length_append, List.length_append, bytesOf_length]
      omega
end Go.Proofs.YtlaihdipagejfaaL

end

section
set_option linter.unusedVariables false
set_option linter.unusedSimpArgs false
namespace Go.Proofs.YtlaihdipagejfaaL
open Go Go.RowKit Go.Proofs.YtlaihdipagejfaaG Go.Proofs.Ytlaihdipagejfaa.P Go.Proofs.YtlaihdipagejfaaW.PrintWords Go.Proofs.YtlaihdipagejfaaW.PrintMore

theorem noteF_by (m : MetaS) : By (noteF m) := (vint_by _).append ((vint_by _).append ((vint_by _).append ((bytesOf_by _).append ((vint_by _).append (bytesOf_by _)))))
theorem notesF_by : ∀ l : List MetaS, By (notesF l)
  | [] => .nil
  | m :: r => (noteF_by m).append (notesF_by r)
theorem addF_by (l : List MetaS) : By (addF l) := by
  unfold addF
  split
  · exact (vint_by _).append (notesF_by l)
  · exact .nil
theorem numF_by (x : Int) : By (numF x) := by
  unfold numF
  split
  · exact vint_by _
  · exact .nil
theorem bodyF_by (l : List MetaS) (a b c : Int) : By (bodyF l a b c) := (addF_by l).append ((numF_by a).append ((numF_by b).append (numF_by c)))
theorem headF_le (l : List MetaS) (a b c : Int) : 0 ≤ headF l a b c ∧ headF l a b c ≤ 15 := by
  have h1 := bitF_nn (l.length : Int) 1 (by omega)
  have h2 := bitF_nn a 2 (by omega)
  have h3 := bitF_nn b 4 (by omega)
  have h4 := bitF_nn c 8 (by omega)
  unfold headF
  omega
theorem formE_by (l : List MetaS) (a b c : Int) : By (formE l a b c) := by
  have h := headF_le l a b c
  exact .cons h.1 (by omega) (bodyF_by l a b c)
theorem sameB_eq {a b : List Int} (ha : By a) (hb : By b) : sameB a b = decide (a = b) := by
  unfold sameB
  by_cases h : a = b
  · subst h; simp
  · have : (strOfNums a).toList ≠ (strOfNums b).toList := fun e => h (str_inj ha hb (ba_ext e))
    rw [decide_eq_false h, beq_eq_false_iff_ne.2 this]
theorem ebytes_yes {l : List MetaS} {a b c : Int} (h : rightB l a b c = true) (hw : WfE l a b c) : edit_Bytes.f l a b c = some (formE l a b c, 0) := by
  unfold edit_Bytes.f
  rw [if_pos hw, if_pos h]
theorem ebytes_no {l : List MetaS} {a b c : Int} (h : rightB l a b c = false) (hw : WfE l a b c) : edit_Bytes.f l a b c = some ([], 90) := by
  unfold edit_Bytes.f
  rw [if_pos hw, if_neg (by rw [h]; decide)]

def big : Nat := 140737488000000
theorem take_any (l : List Int) (hb : By l) (hl : l.length < big) : ∃ (x : Int) (r : List Int) (ok : Bool), nums_Take.f l = some (x, r, ok) ∧ U64 x ∧ By r ∧ r.length ≤ l.length := by
  unfold big at hl
  rcases take_cases l hb (by omega) with ⟨x, rest, hx, he, hf⟩ | ⟨hf, _⟩
  · exact ⟨x, rest, true, hf, ⟨by omega, by omega⟩, By.right (he ▸ hb), by rw [he, List.length_append]; omega⟩
  · exact ⟨0, [], false, hf, ⟨by omega, by omega⟩, .nil, by simp⟩
theorem text_any (l : List Int) (hb : By l) (hl : l.length < big) : ∃ (s : ByteArray) (r : List Int) (ok : Bool), nums_TakeText.f l 64 = some (s, r, ok) ∧ By r ∧ r.length ≤ l.length := by
  unfold big at hl
  rcases takeText_cases l 64 (by omega) hb (by omega) with ⟨s, rest, hs, he, hf⟩ | ⟨hf, _⟩
  · exact ⟨s, rest, true, hf, By.right (By.right (he ▸ hb)), by rw [he, List.length_append, List.length_append]; omega⟩
  · exact ⟨_, [], false, hf, .nil, by simp⟩
theorem meta_any (b : List Int) (bad : Bool) (hb : By b) (hl : b.length < big) : ∃ (m : MetaS) (r : List Int) (bad' : Bool), metaF b bad = some (m, r, bad') ∧ WfM m ∧ By r ∧ r.length ≤ b.length := by
  obtain ⟨x1, r1, k1, h1, u1, b1, l1⟩ := take_any b hb hl
  obtain ⟨x2, r2, k2, h2, u2, b2, l2⟩ := take_any r1 b1 (by omega)
  obtain ⟨x3, r3, k3, h3, b3, l3⟩ := text_any r2 b2 (by omega)
  obtain ⟨x4, r4, k4, h4, b4, l4⟩ := text_any r3 b3 (by omega)
  refine ⟨⟨x1, x2, x3, x4⟩, r4, ((((bad || !k1) || !k2) || !k3) || !k4), ?_, ⟨u1, u2⟩, b4, by omega⟩
  unfold metaF
  exact bind3 h1 (fun t t1 t2 t3 => bind3 (by rw [t2]; exact h2) (fun u u1 u2 u3 => bind3 (by rw [u2]; exact h3) (fun v v1 v2 v3 => bind3 (by rw [v2]; exact h4) (fun y y1 y2 y3 => by rw [t1, t3, u1, u3, v1, v3, y1, y2, y3]))))
theorem addL_any : ∀ (m : Nat) (n : Int) (out : List MetaS) (b : List Int) (bad : Bool), By b → b.length < big → (∀ x ∈ out, WfM x) → ∃ (out' : List MetaS) (r : List Int) (bad' : Bool), addL m n out b bad = some (out', r, bad') ∧ (∀ x ∈ out', WfM x) ∧ By r ∧ r.length ≤ b.length
  | 0, n, out, b, bad, hb, hl, ho => ⟨out, b, bad, rfl, ho, hb, Nat.le_refl _⟩
  | m + 1, n, out, b, bad, hb, hl, ho => by
    rw [addL]
    by_cases hn : 0 < n
    · rw [if_pos hn]
      cases bad with
      | true => exact ⟨out, b, true, rfl, ho, hb, Nat.le_refl _⟩
      | false =>
        obtain ⟨x, r, bad', h1, h2, h3, h4⟩ := meta_any b false hb hl
        obtain ⟨o2, r2, bad2, q1, q2, q3, q4⟩ := addL_any m (IntKind.u64.wrap (n - 1)) (out ++ [x]) r bad' h3 (by omega) (fun y hy => by
          rcases List.mem_append.1 hy with hy | hy
          · exact ho y hy
          · rw [List.mem_singleton.1 hy]; exact h2)
        refine ⟨o2, r2, bad2, ?_, q2, q3, by omega⟩
        rw [if_neg (by decide)]
        exact bind3 h1 (fun t t1 t2 t3 => by rw [t1, t2, t3]; exact q1)
    · rw [if_neg hn]
      exact ⟨out, b, bad, rfl, ho, hb, Nat.le_refl _⟩
theorem addT_any (b : List Int) (bad : Bool) (hb : By b) (hl : b.length < big) : ∃ (out' : List MetaS) (r : List Int) (bad' : Bool), addT b bad = some (out', r, bad') ∧ (∀ x ∈ out', WfM x) ∧ By r ∧ r.length ≤ b.length := by
  obtain ⟨x1, r1, k1, h1, u1, b1, l1⟩ := take_any b hb hl
  obtain ⟨o2, r2, bad2, q1, q2, q3, q4⟩ := addL_any 65 x1 [] r1 (bad || !k1) b1 (by omega) (fun y hy => by cases hy)
  refine ⟨o2, r2, bad2, ?_, q2, q3, by omega⟩
  unfold addT
  exact bind3 h1 (fun t t1 t2 t3 => by rw [t1, t2, t3]; exact q1)
def PSok (s : PS) : Prop := WfE s.1 s.2.1 s.2.2.1 s.2.2.2.1 ∧ By s.2.2.2.2.1 ∧ s.2.2.2.2.1.length < big
theorem stepP_any (h : Int) (i : Nat) (s : PS) (hs : PSok s) : ∃ t, stepP h i s = some t ∧ PSok t := by
  obtain ⟨l, a, b, c, r, bad⟩ := s
  obtain ⟨⟨w1, w2, w3, w4⟩, hb, hl⟩ := hs
  have hid : PSok (l, a, b, c, r, bad) := ⟨⟨w1, w2, w3, w4⟩, hb, hl⟩
  simp only at w1 w2 w3 w4 hb hl
  obtain ⟨x1, r1, k1, h1, u1, b1, l1⟩ := take_any r hb hl
  match i with
  | 0 =>
    rw [stepP]
    by_cases hB : bitB h 0 = true
    · rw [if_pos hB]
      obtain ⟨o2, r2, bad2, q1, q2, q3, q4⟩ := addT_any r bad hb hl
      refine ⟨(o2, a, b, c, r2, bad2), ?_, ⟨q2, w2, w3, w4⟩, q3, by show r2.length < big; omega⟩
      exact bind3 q1 (fun t t1 t2 t3 => by rw [t1, t2, t3])
    · exact ⟨_, if_neg hB, hid⟩
  | 1 =>
    rw [stepP]
    by_cases hB : bitB h 1 = true
    · rw [if_pos hB]
      refine ⟨(l, x1, b, c, r1, bad || !k1), ?_, ⟨w1, u1, w3, w4⟩, b1, by show r1.length < big; omega⟩
      exact bind3 h1 (fun t t1 t2 t3 => by rw [t1, t2, t3])
    · exact ⟨_, if_neg hB, hid⟩
  | 2 =>
    rw [stepP]
    by_cases hB : bitB h 2 = true
    · rw [if_pos hB]
      refine ⟨(l, a, x1, c, r1, bad || !k1), ?_, ⟨w1, w2, u1, w4⟩, b1, by show r1.length < big; omega⟩
      exact bind3 h1 (fun t t1 t2 t3 => by rw [t1, t2, t3])
    · exact ⟨_, if_neg hB, hid⟩
  | j + 3 =>
    rw [show stepP h (j + 3) (l, a, b, c, r, bad) = if bitB h 3 = true then (nums_Take.f r).bind fun t => some (l, a, b, t.1, t.2.1, bad || !t.2.2) else some (l, a, b, c, r, bad) from rfl]
    by_cases hB : bitB h 3 = true
    · rw [if_pos hB]
      refine ⟨(l, a, b, x1, r1, bad || !k1), ?_, ⟨w1, w2, w3, u1⟩, b1, by show r1.length < big; omega⟩
      exact bind3 h1 (fun t t1 t2 t3 => by rw [t1, t2, t3])
    · exact ⟨_, if_neg hB, hid⟩
theorem runP_any (h : Int) : ∀ (n i : Nat) (s : PS), PSok s → ∃ t, runP h n i s = some t ∧ PSok t
  | 0, i, s, hs => ⟨s, rfl, hs⟩
  | n + 1, i, s, hs => by
    obtain ⟨t, h1, h2⟩ := stepP_any h i s hs
    obtain ⟨u, h3, h4⟩ := runP_any h n (i + 1) t h2
    exact ⟨u, by rw [runP, h1]; exact h3, h4⟩
/-- What bytes say: an edit that is right, put as it stood, or none. -/
theorem eparse_any (raw : List Int) (hb : By raw) (hl : raw.length < big) :
    (∃ (l : List MetaS) (a b c : Int), rightB l a b c = true ∧ WfE l a b c ∧ raw = formE l a b c ∧ edit_Parse.f raw = some (l, a, b, c, 0)) ∨ edit_Parse.f raw = some ([], 0, 0, 0, 90) := by
  cases raw with
  | nil => exact .inr rfl
  | cons h t =>
    have u0 : U64 0 := ⟨by decide, by decide⟩
    obtain ⟨s, h1, hs⟩ := runP_any h 4 0 ([], 0, 0, 0, t, false) ⟨⟨fun m hm => (by cases hm), u0, u0, u0⟩, hb.tail, by show t.length < big; rw [List.length_cons] at hl; omega⟩
    obtain ⟨l, a, b, c, r, bad⟩ := s
    have hw : WfE l a b c := hs.1
    cases hr : rightB l a b c with
    | false =>
      right
      unfold edit_Parse.f
      simp only
      refine bind1 h1 (bind1 (ebytes_no hr hw) ?_)
      exact if_pos (.inr (.inl (by decide)))
    | true =>
      by_cases hq : bad = true ∨ formE l a b c ≠ h :: t
      · right
        unfold edit_Parse.f
        simp only
        refine bind1 h1 (bind1 (ebytes_yes hr hw) ?_)
        refine if_pos ?_
        rcases hq with hq | hq
        · exact .inl hq
        · exact .inr (.inr (by rw [sameB_eq (formE_by l a b c) hb]; exact decide_eq_false hq))
      · left
        have hq1 : bad = false := Bool.eq_false_iff.2 (fun e => hq (.inl e))
        have hq2 : formE l a b c = h :: t := Classical.byContradiction (fun e => hq (.inr e))
        refine ⟨l, a, b, c, hr, hw, hq2.symm, ?_⟩
        unfold edit_Parse.f
        simp only
        refine bind1 h1 (bind1 (ebytes_yes hr hw) ?_)
        refine if_neg ?_
        rintro (e | e | e)
        · rw [hq1] at e; cases e
        · exact e rfl
        · rw [sameB_eq (formE_by l a b c) hb, decide_eq_true hq2] at e; cases e

theorem u64_nat {x : Int} (h : U64 x) : ((x.toNat : Nat) : Int) = x ∧ x.toNat < 18446744073709551616 := by
  obtain ⟨h1, h2⟩ := h
  omega
theorem take_num {x : Int} (hx : U64 x) {rest : List Int} (hr : By rest) (hl : rest.length < big) : nums_Take.f (vint x.toNat ++ rest) = some (x, rest, true) := by
  obtain ⟨h1, h2⟩ := u64_nat hx
  unfold big at hl
  rw [take_vint x.toNat rest h2 hr (by omega), h1]
theorem meta_form {m : MetaS} (h : FitM m) {rest : List Int} (hr : By rest) (hl : rest.length < 140737487000000) : metaF (noteF m ++ rest) false = some (m, rest, false) := by
  obtain ⟨⟨h1, h2⟩, h3, h4⟩ := h
  have v3 := vint_len10 (x := m.f2.size) (by omega)
  have v4 := vint_len10 (x := m.f3.size) (by omega)
  have v2 := vint_len10 (x := m.f1.toNat) (u64_nat h2).2
  have b4 : By (vint m.f3.size ++ (bytesOf m.f3 ++ rest)) := (vint_by _).append ((bytesOf_by _).append hr)
  have b3 : By (vint m.f2.size ++ (bytesOf m.f2 ++ (vint m.f3.size ++ (bytesOf m.f3 ++ rest)))) := (vint_by _).append ((bytesOf_by _).append b4)
  have b2 := (vint_by m.f1.toNat).append b3
  have e1 := take_num h1 b2 (by unfold big; simp only [List.length_append, bytesOf_length]; omega)
  have e2 := take_num h2 b3 (by unfold big; simp only [List.length_append, bytesOf_length]; omega)
  have e3 := takeText_yes m.f2 _ 64 (by omega) b4 (by simp only [List.length_append, bytesOf_length]; omega) (by omega)
  have e4 := takeText_yes m.f3 rest 64 (by omega) hr (by omega) (by omega)
  unfold metaF noteF
  simp only [List.append_assoc]
  exact bind3 e1 (fun t t1 t2 t3 => bind3 (by rw [t2]; exact e2) (fun u u1 u2 u3 => bind3 (by rw [u2]; exact e3) (fun v v1 v2 v3 => bind3 (by rw [v2]; exact e4) (fun y y1 y2 y3 => by rw [t1, t3, u1, u3, v1, v3, y1, y2, y3]; rfl))))
theorem wrap_less {n : Nat} (h : n < 18446744073709551616) : IntKind.u64.wrap (((n + 1 : Nat) : Int) - 1) = (n : Int) := by rw [IntKind.wrap_u64]; omega
theorem addL_form : ∀ (l : List MetaS) (m : Nat) (out : List MetaS) (rest : List Int), (∀ x ∈ l, FitM x) → By rest → rest.length + 150 * l.length < 140737487000000 → l.length ≤ m → addL m (l.length : Int) out (notesF l ++ rest) false = some (out ++ l, rest, false)
  | [], m, out, rest, _, _, _, _ => by
    rw [List.append_nil]
    cases m with
    | zero => rfl
    | succ m => rw [addL, if_neg (by simp)]; rfl
  | x :: l, m, out, rest, h, hr, hl, hm => by
    rw [List.length_cons] at hl hm ⊢
    obtain ⟨m, rfl⟩ : ∃ q, m = q + 1 := ⟨m - 1, by omega⟩
    have hs : ∀ q ∈ l, FitM q := fun q hq => h q (List.mem_cons_of_mem _ hq)
    have hfl := notesF_len l hs
    rw [addL, if_pos (by omega), if_neg (by decide), notesF, List.append_assoc, wrap_less (by omega)]
    refine bind3 (meta_form (h x (List.mem_cons_self ..)) ((notesF_by l).append hr) (by rw [List.length_append]; omega)) (fun t t1 t2 t3 => ?_)
    rw [t1, t2, t3, addL_form l m (out ++ [x]) rest hs hr (by omega) (by omega), List.append_assoc, List.singleton_append]
theorem addT_form {l : List MetaS} (h : ∀ x ∈ l, FitM x) (hl : l.length ≤ 64) {rest : List Int} (hr : By rest) (hn : rest.length < 1000000) : addT (vint l.length ++ (notesF l ++ rest)) false = some (l, rest, false) := by
  have hfl := notesF_len l h
  unfold addT
  have e := take_vint l.length (notesF l ++ rest) (by omega) ((notesF_by l).append hr) (by rw [List.length_append]; omega)
  refine bind3 e (fun t t1 t2 t3 => ?_)
  rw [t1, t2, t3]
  exact addL_form l 65 [] rest h hr (by omega) (by omega)
theorem bit_head (l : List MetaS) (a b c : Int) : bitB (headF l a b c) 0 = decide (0 < l.length) ∧ bitB (headF l a b c) 1 = decide (0 < a) ∧ bitB (headF l a b c) 2 = decide (0 < b) ∧ bitB (headF l a b c) 3 = decide (0 < c) := by
  have h0 : decide (0 < l.length) = decide (0 < (l.length : Int)) := decide_eq_decide.2 (by omega)
  rw [h0]
  unfold headF bitF
  generalize (l.length : Int) = n
  by_cases h1 : 0 < n <;> by_cases h2 : 0 < a <;> by_cases h3 : 0 < b <;> by_cases h4 : 0 < c <;> simp only [h1, h2, h3, h4, if_true, if_false, decide_true, decide_false] <;> decide +kernel
theorem eparse_form {l : List MetaS} {a b c : Int} (h : rightB l a b c = true) (hw : WfE l a b c) : edit_Parse.f (formE l a b c) = some (l, a, b, c, 0) := by
  obtain ⟨f1, f2⟩ := right_fit h hw
  obtain ⟨_, wa, wb, wc⟩ := id hw
  obtain ⟨k0, k1, k2, k3⟩ := bit_head l a b c
  have n2 := numF_len wa
  have n3 := numF_len wb
  have n4 := numF_len wc
  have e0 : stepP (headF l a b c) 0 ([], 0, 0, 0, bodyF l a b c, false) = some (l, 0, 0, 0, numF a ++ (numF b ++ numF c), false) := by
    rw [stepP, k0]
    unfold bodyF addF
    by_cases hn : 0 < l.length
    · rw [if_pos (decide_eq_true hn), if_pos hn, List.append_assoc]
      exact bind3 (addT_form f2 f1 ((numF_by a).append ((numF_by b).append (numF_by c))) (by simp only [List.length_append]; omega)) (fun t t1 t2 t3 => by rw [t1, t2, t3])
    · have : l = [] := by cases l with | nil => rfl | cons _ _ => exact absurd (Nat.succ_pos _) hn
      subst this
      rfl
  have num : ∀ {x : Int} {rest : List Int}, U64 x → By rest → rest.length < 1000 → (0 < x → nums_Take.f (numF x ++ rest) = some (x, rest, true)) ∧ (¬ 0 < x → numF x ++ rest = rest ∧ x = 0) := fun {x rest} hx hr hl =>
    ⟨fun hp => by rw [numF_some hp]; exact take_num hx hr (by unfold big; omega), fun hp => ⟨by rw [numF_none hp]; rfl, by have := hx.1; omega⟩⟩
  have e1 : stepP (headF l a b c) 1 (l, 0, 0, 0, numF a ++ (numF b ++ numF c), false) = some (l, a, 0, 0, numF b ++ numF c, false) := by
    rw [stepP, k1]
    obtain ⟨q1, q2⟩ := num wa ((numF_by b).append (numF_by c)) (by rw [List.length_append]; omega)
    by_cases hp : 0 < a
    · rw [if_pos (decide_eq_true hp)]
      exact bind3 (q1 hp) (fun t t1 t2 t3 => by rw [t1, t2, t3]; rfl)
    · obtain ⟨q3, q4⟩ := q2 hp
      rw [if_neg (by rw [decide_eq_false hp]; decide), q3, q4]
  have e2 : stepP (headF l a b c) 2 (l, a, 0, 0, numF b ++ numF c, false) = some (l, a, b, 0, numF c, false) := by
    rw [stepP, k2]
    obtain ⟨q1, q2⟩ := num wb (numF_by c) (by omega)
    by_cases hp : 0 < b
    · rw [if_pos (decide_eq_true hp)]
      exact bind3 (q1 hp) (fun t t1 t2 t3 => by rw [t1, t2, t3]; rfl)
    · obtain ⟨q3, q4⟩ := q2 hp
      rw [if_neg (by rw [decide_eq_false hp]; decide), q3, q4]
  have e3 : stepP (headF l a b c) 3 (l, a, b, 0, numF c, false) = some (l, a, b, c, [], false) := by
    rw [show stepP (headF l a b c) 3 (l, a, b, 0, numF c, false) = if bitB (headF l a b c) 3 = true then (nums_Take.f (numF c)).bind fun t => some (l, a, b, t.1, t.2.1, false || !t.2.2) else some (l, a, b, 0, numF c, false) from rfl, k3]
    obtain ⟨q1, q2⟩ := num (rest := []) wc .nil (by simp)
    rw [List.append_nil] at q1 q2
    by_cases hp : 0 < c
    · rw [if_pos (decide_eq_true hp)]
      exact bind3 (q1 hp) (fun t t1 t2 t3 => by rw [t1, t2, t3]; rfl)
    · obtain ⟨q3, q4⟩ := q2 hp
      rw [if_neg (by rw [decide_eq_false hp]; decide), q3, q4]
  have hrun : runP (headF l a b c) 4 0 ([], 0, 0, 0, bodyF l a b c, false) = some (l, a, b, c, [], false) := by
    rw [runP, e0]
    show runP _ 3 1 _ = _
    rw [runP, e1]
    show runP _ 2 2 _ = _
    rw [runP, e2]
    show runP _ 1 3 _ = _
    rw [runP, e3]
    rfl
  unfold edit_Parse.f formE
  simp only
  refine bind1 hrun (bind1 (ebytes_yes h hw) ?_)
  refine if_neg ?_
  rintro (e | e | e)
  · cases e
  · exact e rfl
  · have hb := formE_by l a b c
    unfold formE at e hb
    rw [sameB_eq hb hb, decide_eq_true rfl] at e
    cases e
theorem formE_inj {l : List MetaS} {a b c : Int} {l' : List MetaS} {a' b' c' : Int} (h : rightB l a b c = true) (hw : WfE l a b c) (h' : rightB l' a' b' c' = true) (hw' : WfE l' a' b' c') (e : formE l a b c = formE l' a' b' c') : l = l' ∧ a = a' ∧ b = b' ∧ c = c' := by
  have h1 := eparse_form h hw
  rw [e, eparse_form h' hw'] at h1
  simp only [Option.some.injEq, Prod.mk.injEq, and_true] at h1
  obtain ⟨e1, e2, e3, e4⟩ := h1
  exact ⟨e1.symm, e2.symm, e3.symm, e4.symm⟩
end Go.Proofs.YtlaihdipagejfaaL

end

section
namespace Go.Proofs.Ytlaihdipagejfaa.P
open Go.RowKit Go.Proofs.YtlaihdipagejfaaG Go.Proofs.YtlaihdipagejfaaW.PrintWords Go.Proofs.YtlaihdipagejfaaW.PrintLast Go.Proofs.YtlaihdipagejfaaW.PrintMore
attribute [local go_sem] str_gtr str_geq str_leq max2_int min2_int max_two min_two max_three min_three max_four min_four   -- for this text's walks alone
set_option linter.unusedVariables false
set_option linter.unusedSimpArgs false

def edit_Whole.f (l0_0 : List (S62)) (a0_1 : Int) (a0_2 : Int) (a0_3 : Int) : Option ((List (S62)) × Int × Int × Int) := (api_Meta_57.f l0_0).bind fun t121 => (some (t121, a0_1, a0_2, a0_3))
end Go.Proofs.Ytlaihdipagejfaa.P

end

section
set_option linter.unusedVariables false
set_option linter.unusedSimpArgs false
namespace Go.Proofs.YtlaihdipagejfaaL
open Go Go.RowKit Go.Proofs.YtlaihdipagejfaaG Go.Proofs.Ytlaihdipagejfaa.P Go.Proofs.YtlaihdipagejfaaW.PrintWords Go.Proofs.YtlaihdipagejfaaW.PrintMore

instance decMeta : DecidableEq MetaS := fun x y => decidable_of_iff (x.f0 = y.f0 ∧ x.f1 = y.f1 ∧ x.f2 = y.f2 ∧ x.f3 = y.f3) (by cases x; cases y; simp)
theorem rd_meta (l : List MetaS) {j : Nat} (h : j < l.length) : rd_T62 l (j : Int) = l[j] := getD_at h
theorem meta_ne (x y : MetaS) : ((!((x.f0) == (y.f0)) || (!((x.f1) == (y.f1)) || (!(((x.f2).toList) == ((y.f2).toList)) || (!(((x.f3).toList) == ((y.f3).toList)))))) = true) ↔ x ≠ y := by
  obtain ⟨x0, x1, x2, x3⟩ := x
  obtain ⟨y0, y1, y2, y3⟩ := y
  simp only [Bool.or_eq_true, Bool.not_eq_true', beq_eq_false_iff_ne, ne_eq, ba_eq_iff, S62.mk.injEq]
  constructor
  · rintro (h | h | h | h) ⟨h0, h1, h2, h3⟩
    · exact h h0
    · exact h h1
    · exact h h2
    · exact h h3
  · intro h
    by_cases h0 : x0 = y0
    · by_cases h1 : x1 = y1
      · by_cases h2 : x2 = y2
        · exact .inr (.inr (.inr (fun h3 => h ⟨h0, h1, h2, h3⟩)))
        · exact .inr (.inr (.inl h2))
      · exact .inr (.inl h1)
    · exact .inl h0
theorem metas_loop (a b : List MetaS) (hl : a.length = b.length) (hm : a.length < 9223372036854775800) :
    ∀ (m j : Nat), j + m = a.length → Ev (fun k => api_Meta_61.l0 k a b (a.length : Int) (j : Int)) (decide (a.drop j = b.drop j)) := by
  intro m
  induction m with
  | zero =>
    intro j hj
    obtain rfl : j = a.length := by omega
    refine ev_step (fun k => by rw [api_Meta_61.l0, if_neg (Int.lt_irrefl _)]) ?_
    rw [List.drop_length, hl, List.drop_length]
    simpa using ev_some _
  | succ m ih =>
    intro j hj
    have ha : j < a.length := by omega
    have hb : j < b.length := by omega
    refine ev_step (fun k => by rw [api_Meta_61.l0, if_pos (by omega), if_pos (by omega), if_pos (by omega), if_pos (by omega), rd_meta a ha, rd_meta b hb, up1 (by omega)]) ?_
    rw [List.drop_eq_getElem_cons ha, List.drop_eq_getElem_cons hb]
    by_cases h : a[j] = b[j]
    · refine ev_neg (fun q => (meta_ne _ _).1 q h) ?_
      rw [show decide (a[j] :: a.drop (j + 1) = b[j] :: b.drop (j + 1)) = decide (a.drop (j + 1) = b.drop (j + 1)) from decide_eq_decide.2 ⟨fun q => (List.cons.inj q).2, fun q => by rw [h, q]⟩]
      exact ih (j + 1) (by omega)
    · refine ev_pos ((meta_ne _ _).2 h) ?_
      rw [decide_eq_false (fun q => h (List.cons.inj q).1)]
      exact ev_some _
theorem metas_f (a b : List MetaS) (hm : a.length < 9223372036854775800) : Ev (fun k => api_Meta_61.f k a b) (decide (a = b)) := by
  unfold api_Meta_61.f
  by_cases hl : a.length = b.length
  · refine ev_pos (by omega) ?_
    have := metas_loop a b hl hm a.length 0 (by omega)
    rwa [List.drop_zero, List.drop_zero] at this
  · refine ev_neg (by omega) ?_
    rw [decide_eq_false (fun e => hl (by rw [e]))]
    exact ev_some _
/-- The same edit. -/
def sameE (l : List MetaS) (a b c : Int) (l' : List MetaS) (a' b' c' : Int) : Prop := l = l' ∧ a = a' ∧ b = b' ∧ c = c'
instance decSameE (l : List MetaS) (a b c : Int) (l' : List MetaS) (a' b' c' : Int) : Decidable (sameE l a b c l' a' b' c') := inferInstanceAs (Decidable (_ ∧ _ ∧ _ ∧ _))
theorem sameE_refl (l : List MetaS) (a b c : Int) : sameE l a b c l a b c := ⟨rfl, rfl, rfl, rfl⟩
theorem sameE_comm {l : List MetaS} {a b c : Int} {l' : List MetaS} {a' b' c' : Int} : sameE l a b c l' a' b' c' ↔ sameE l' a' b' c' l a b c := ⟨fun ⟨h1, h2, h3, h4⟩ => ⟨h1.symm, h2.symm, h3.symm, h4.symm⟩, fun ⟨h1, h2, h3, h4⟩ => ⟨h1.symm, h2.symm, h3.symm, h4.symm⟩⟩
theorem esameE_ev (l : List MetaS) (a b c : Int) (l' : List MetaS) (a' b' c' : Int) (hm : l.length < 9223372036854775800) : Ev (fun k => edit_Same.f k l a b c l' a' b' c') (decide (sameE l a b c l' a' b' c')) := by
  unfold edit_Same.f
  refine ev_call (metas_f l l' hm) ?_
  by_cases h0 : l = l'
  · refine ev_pos (decide_eq_true h0) ?_
    by_cases h1 : a = a'
    · refine ev_pos h1 ?_
      by_cases h2 : b = b'
      · refine ev_pos h2 ?_
        rw [show (c == c') = decide (sameE l a b c l' a' b' c') from by
          by_cases h3 : c = c'
          · rw [decide_eq_true (show sameE l a b c l' a' b' c' from ⟨h0, h1, h2, h3⟩), beq_iff_eq.2 h3]
          · rw [decide_eq_false (fun q : sameE l a b c l' a' b' c' => h3 q.2.2.2), beq_eq_false_iff_ne.2 h3]]
        exact ev_some _
      · refine ev_neg h2 ?_
        rw [decide_eq_false (fun q : sameE l a b c l' a' b' c' => h2 q.2.2.1)]
        exact ev_some _
    · refine ev_neg h1 ?_
      rw [decide_eq_false (fun q : sameE l a b c l' a' b' c' => h1 q.2.1)]
      exact ev_some _
  · refine ev_neg (by rw [decide_eq_false h0]; decide) ?_
    rw [decide_eq_false (fun q : sameE l a b c l' a' b' c' => h0 q.1)]
    exact ev_some _
end Go.Proofs.YtlaihdipagejfaaL

end

section
set_option linter.unusedVariables false
set_option linter.unusedSimpArgs false
namespace Go.Proofs.Ytlaihdipagejfaa.Pure
open Go Go.RowKit Go.Proofs.Ytlaihdipagejfaa.P Go.Proofs.YtlaihdipagejfaaG Go.Proofs.YtlaihdipagejfaaL Go.Proofs.YtlaihdipagejfaaW.PrintWords Go.Proofs.YtlaihdipagejfaaW.PrintMore Go.Proofs.YtlaihdipagejfaaW.PrintLast

theorem awake_e (k : Nat) : Ev (fun _ : Nat => (ratlinelaw09_awake.f).bind fun t => some t) true := ev_some true
theorem eback_j2 {raw : List Int} (hb : By raw) (hl : raw.length ≤ 600) : Ev (fun k => ratlinelaw09_EditBack.j2 k raw) true := by
  refine ev_step (fun k => by rw [ratlinelaw09_EditBack.j2]) ?_
  rcases eparse_any raw hb (by unfold big; omega) with ⟨l, a, b, c, h1, h2, rfl, hf⟩ | hf
  · refine ev_bind hf ?_
    refine ev_pos rfl ?_
    have h3 := (right_fit h1 h2).1
    refine ev_bind (ebytes_yes h1 h2) ?_
    refine ev_call (right_ev l a b c (by omega) h2) ?_
    refine ev_pos h1 ?_
    refine ev_pos rfl ?_
    refine ev_bind (same_f hb hb) ?_
    refine ev_pos (decide_eq_true rfl) ?_
    exact awake_e 0
  · refine ev_bind hf ?_
    refine ev_neg (by decide) ?_
    refine ev_pos rfl ?_
    refine ev_call (esameE_ev _ _ _ _ _ _ _ _ (by simp)) ?_
    refine ev_pos (decide_eq_true (sameE_refl _ _ _ _)) ?_
    exact awake_e 0
theorem eback_j1 {l : List MetaS} {a b c : Int} {l' : List MetaS} {a' b' c' : Int} {raw : List Int} (hb : By raw) (hl : raw.length ≤ 600) (hw : WfE l a b c) (hw' : WfE l' a' b' c') (hn : l.length ≤ 1000) (hn' : l'.length ≤ 1000) (x y : List Int) (e f : Int)
    (h1 : rightB l a b c = true ∧ x = formE l a b c ∧ e = 0 ∨ rightB l a b c = false ∧ e = 90) (h2 : rightB l' a' b' c' = true ∧ y = formE l' a' b' c' ∧ f = 0 ∨ rightB l' a' b' c' = false ∧ f = 90) :
    Ev (fun k => ratlinelaw09_EditBack.j1 k raw x e y f false l a b c l' a' b' c') true := by
  refine ev_step (fun k => by rw [ratlinelaw09_EditBack.j1]) ?_
  refine ev_neg (by decide) ?_
  rcases h1 with ⟨h1, rfl, rfl⟩ | ⟨h1, rfl⟩
  · refine ev_pos rfl ?_
    refine ev_bind (eparse_form h1 hw) ?_
    refine ev_pos rfl ?_
    refine ev_call (esameE_ev l a b c l a b c (by omega)) ?_
    refine ev_pos (decide_eq_true (sameE_refl _ _ _ _)) ?_
    rcases h2 with ⟨h2, rfl, rfl⟩ | ⟨h2, rfl⟩
    · refine ev_pos rfl ?_
      refine ev_bind (same_f (formE_by _ _ _ _) (formE_by _ _ _ _)) ?_
      refine ev_call (esameE_ev l a b c l' a' b' c' (by omega)) ?_
      have e : decide (formE l a b c = formE l' a' b' c') = decide (sameE l a b c l' a' b' c') := decide_eq_decide.2 ⟨fun q => formE_inj h1 hw h2 hw' q, fun ⟨q1, q2, q3, q4⟩ => by rw [q1, q2, q3, q4]⟩
      rw [e]
      refine ev_neg (by simp) ?_
      exact eback_j2 hb hl
    · exact ev_neg (by decide) (eback_j2 hb hl)
  · exact ev_neg (by decide) (eback_j2 hb hl)
theorem eback_j0 {l : List MetaS} {a b c : Int} {l' : List MetaS} {a' b' c' : Int} {raw : List Int} (hb : By raw) (hl : raw.length ≤ 600) (hw : WfE l a b c) (hw' : WfE l' a' b' c') (hn : l.length ≤ 1000) (hn' : l'.length ≤ 1000) :
    Ev (fun k => ratlinelaw09_EditBack.j0 k raw false l a b c l' a' b' c') true := by
  refine ev_step (fun k => by rw [ratlinelaw09_EditBack.j0]) ?_
  refine ev_neg (by decide) ?_
  have ho : ∃ y f, edit_Bytes.f l' a' b' c' = some (y, f) ∧ (rightB l' a' b' c' = true ∧ y = formE l' a' b' c' ∧ f = 0 ∨ rightB l' a' b' c' = false ∧ f = 90) := by
    cases h : rightB l' a' b' c' with
    | true => exact ⟨_, _, ebytes_yes h hw', .inl ⟨rfl, rfl, rfl⟩⟩
    | false => exact ⟨_, _, ebytes_no h hw', .inr ⟨rfl, rfl⟩⟩
  obtain ⟨y, f, hy, hyf⟩ := ho
  have e2 : decide (sameE l' a' b' c' l a b c) = decide (sameE l a b c l' a' b' c') := decide_eq_decide.2 sameE_comm
  cases h : rightB l a b c with
  | true =>
    refine ev_bind (ebytes_yes h hw) ?_
    refine ev_bind hy ?_
    refine ev_call (right_ev l a b c (by omega) hw) ?_
    rw [h]
    refine ev_neg (show ¬ ((((0 : Int) == 0) != true) = true) from by decide) ?_
    refine ev_pos rfl ?_
    refine ev_call (esameE_ev l a b c l a b c (by omega)) ?_
    refine ev_pos (decide_eq_true (sameE_refl _ _ _ _)) ?_
    refine ev_call (esameE_ev l a b c l' a' b' c' (by omega)) ?_
    refine ev_call (esameE_ev l' a' b' c' l a b c (by omega)) ?_
    rw [e2, show ∀ p : Bool, (p != p) = false from by intro p; cases p <;> rfl]
    exact eback_j1 hb hl hw hw' hn hn' _ _ _ _ (.inl ⟨h, rfl, rfl⟩) hyf
  | false =>
    refine ev_bind (ebytes_no h hw) ?_
    refine ev_bind hy ?_
    refine ev_call (right_ev l a b c (by omega) hw) ?_
    rw [h]
    refine ev_neg (show ¬ ((((90 : Int) == 0) != false) = true) from by decide) ?_
    refine ev_neg (show ¬ ((90 : Int) = 0) from by decide) ?_
    refine ev_pos rfl ?_
    refine ev_pos rfl ?_
    refine ev_call (esameE_ev l a b c l a b c (by omega)) ?_
    refine ev_pos (decide_eq_true (sameE_refl _ _ _ _)) ?_
    refine ev_call (esameE_ev l a b c l' a' b' c' (by omega)) ?_
    refine ev_call (esameE_ev l' a' b' c' l a b c (by omega)) ?_
    rw [e2, show ∀ p : Bool, (p != p) = false from by intro p; cases p <;> rfl]
    exact eback_j1 hb hl hw hw' hn hn' _ _ _ _ (.inr ⟨h, rfl⟩) hyf
theorem EditBack (e : EdS) (he : WfI e) (g : EdS) (hg : WfI g) (raw : List Int) (_ : raw.length ≤ maxLen) (_ : raw.length * 1 ≤ 140737488351232) (hr : ∀ c ∈ raw, (Lit.int .u8 c).wf = true) :
    ∃ k, ratlinelaw09_EditBack.f k e.f0 e.f1 e.f2 e.f3 g.f0 g.f1 g.f2 g.f3 raw = some true := by
  refine Ev.rounds (g := fun k => ratlinelaw09_EditBack.f k e.f0 e.f1 e.f2 e.f3 g.f0 g.f1 g.f2 g.f3 raw) ?_
  have hj : Ev (fun k => ratlinelaw09_EditBack.j0 k raw true e.f0 e.f1 e.f2 e.f3 g.f0 g.f1 g.f2 g.f3) true := ev_step (fun k => by rw [ratlinelaw09_EditBack.j0]) (ev_pos rfl (awake_e 0))
  unfold ratlinelaw09_EditBack.f
  refine ev_call (few_ev [e, g] (by simp) (fun x hx => by
    simp only [List.mem_cons, List.not_mem_nil, or_false] at hx
    rcases hx with rfl | rfl
    · exact he.len
    · exact hg.len)) ?_
  by_cases hf : ([e, g].all fewE) = true
  · refine ev_pos hf ?_
    simp only [List.all_cons, List.all_nil, Bool.and_true, Bool.and_eq_true] at hf
    have h1 := fewE_len hf.1
    have h2 := fewE_len hf.2
    by_cases h3 : (raw.length : Int) > 600
    · rw [decide_eq_true h3]; exact hj
    · rw [decide_eq_false h3]
      exact eback_j0 (By.of_wf hr) (by omega) he.e hg.e (by omega) (by omega)
  · exact ev_neg hf hj
end Go.Proofs.Ytlaihdipagejfaa.Pure

end

section
set_option linter.unusedVariables false
namespace Go.Proofs.YtlaihdipagejfaaG
open Go Go.RowKit Go.Proofs.YtlaihdipagejfaaW.PrintWords

/-- What is trodden of this type is of this kind, and is right. -/
def Opens {α : Type} (P : Program) (t : TypeId) (d : Kd α) (wf : α → Prop) : Prop :=
  ∀ (H : Type) (enc : TypeId × Value → H) (w : World) (base : Nat) (sp : Nat → Bool) (held : Bool) (fuel : Nat) (cs : List Value) (x : DataW H × List MemPlace),
    DataW.trod enc P w base sp held fuel t cs = some x → ∃ a, d.K w a cs ∧ wf a
section
variable {P : Program} {t e : TypeId}
theorem opens_int {k : IntKind} (ht : P.underlying t = some (.int k)) : Opens P t (Kd.int k) (fun n => (Lit.int k n).wf = true) := by
  intro H enc w base sp held fuel cs x h
  obtain ⟨n, rfl, _, hw⟩ := DataW.trod_int ht h
  exact ⟨n, rfl, hw⟩
theorem opens_string (ht : P.underlying t = some .string) : Opens P t Kd.string (fun s => s.size ≤ maxLen) := by
  intro H enc w base sp held fuel cs x h
  obtain ⟨n, rfl, _, hm⟩ := DataW.trod_string ht h
  exact ⟨n, rfl, hm⟩
theorem build {α : Type} {Q : Nat → α → Prop} : ∀ n : Nat, (∀ i, i < n → ∃ a, Q i a) → ∃ l : List α, l.length = n ∧ ∀ i a, l[i]? = some a → Q i a := by
  intro n
  induction n with
  | zero => intro _; exact ⟨[], rfl, fun i a h => by simp at h⟩
  | succ n ih =>
    intro h
    obtain ⟨l, hl, hq⟩ := ih (fun i hi => h i (by omega))
    obtain ⟨a, ha⟩ := h n (by omega)
    refine ⟨l ++ [a], by simp [hl], fun i b hb => ?_⟩
    by_cases hi : i < n
    · rw [List.getElem?_append_left (by omega)] at hb
      exact hq i b hb
    · rw [List.getElem?_append_right (by omega)] at hb
      by_cases hin : i = n
      · subst hin
        rw [hl, Nat.sub_self] at hb
        simp at hb
        exact hb ▸ ha
      · rw [List.getElem?_eq_none (by simp; omega)] at hb
        cases hb
theorem opens_row {α : Type} {d : Kd α} {wf : α → Prop} (hc : P.cellsOf e = d.sz) (ht : P.underlying t = some (.slice e)) (he : Opens P e d wf)
    {H : Type} {enc : TypeId × Value → H} {w : World} {base : Nat} {sp : Nat → Bool} {held : Bool} {fuel : Nat} {cs : List Value} {x : DataW H × List MemPlace} (h : DataW.trod enc P w base sp held fuel t cs = some x) :
    ∃ (A : Option Addr) (c : Nat) (xs : List α), cs = [.slice A xs.length c] ∧ xs.length ≤ c ∧ c ≤ maxLen ∧ d.C w A xs.length xs ∧ ∀ a ∈ xs, wf a := by
  rcases DataW.trod_slice ht h with ⟨rfl, _⟩ | ⟨ad, len, cap, elems, rest, n, _, rfl, _, hb, hl, hm, hn, hel, _, _⟩
  · exact ⟨none, 0, [], rfl, Nat.le_refl _, by decide, Kd.C_nil d w, fun a ha => by cases ha⟩
  · obtain ⟨xs, hxl, hx⟩ := build (Q := fun i a => wf a ∧ ∃ c, c.length = d.sz ∧ d.K w a c ∧ ∀ j u, c[j]? = some u → w.cell? (ad.add (i * d.sz + j)) = some u) len (fun i hi => by
      have h1 := hel i hi
      rw [List.getElem?_eq_getElem (by omega)] at h1
      obtain ⟨cs', hcs, htr⟩ := Option.bind_eq_some_iff.1 h1
      obtain ⟨a, ha, hw⟩ := he H enc w base sp held n cs' _ htr
      have hlen := d.K_len ha
      obtain ⟨_, hlen2, hcell⟩ := World.cells?_some hcs
      refine ⟨a, hw, cs', hlen, ha, fun j u hj => ?_⟩
      have hjl : j < cs'.length := by
        by_cases hjl : j < cs'.length
        · exact hjl
        · rw [List.getElem?_eq_none (by omega)] at hj; cases hj
      have h2 := hcell j (by omega)
      rw [hc] at h2
      have hadd : (ad.add (i * d.sz)).add j = ad.add (i * d.sz + j) := Addr.add_add ad _ _
      rw [← hadd, h2, hj])
    have hmax : maxLen ≤ 9223372036854775807 := by decide
    refine ⟨some ad, cap, xs, by rw [hxl], by omega, hm, ⟨rfl, by omega, fun _ => ⟨ad, rfl, fun j p hp => (hx j p hp).2⟩⟩, fun a ha => ?_⟩
    obtain ⟨i, hi⟩ := List.mem_iff_getElem?.1 ha
    exact (hx i a hi).1
theorem opens_slice {α : Type} {d : Kd α} {wf : α → Prop} (hc : P.cellsOf e = d.sz) (ht : P.underlying t = some (.slice e)) (he : Opens P e d wf) :
    Opens P t (Kd.slice e d) (fun l => l.length ≤ maxLen ∧ ∀ a ∈ l, wf a) := by
  intro H enc w base sp held fuel cs x h
  obtain ⟨A, c, xs, rfl, hl, hm, hC, hw⟩ := opens_row hc ht he h
  exact ⟨xs, ⟨A, c, rfl, hl, hC⟩, by omega, hw⟩
theorem Opens.iso {α β : Type} {d : Kd α} {wf : α → Prop} (h : Opens P t d wf) (f : β → α) (g : α → β) (hfg : ∀ a, f (g a) = a) : Opens P t (Kd.iso d f) (fun b => wf (f b)) := by
  intro H enc w base sp held fuel cs x htr
  obtain ⟨a, ha, hw⟩ := h H enc w base sp held fuel cs x htr
  exact ⟨g a, by show d.K w (f (g a)) cs; rw [hfg]; exact ha, by show wf (f (g a)); rw [hfg]; exact hw⟩
end

/-- A field of a struct. -/
theorem opens_field {α : Type} {P : Program} {t e : TypeId} {fs : Array Field} {d : Kd α} {wf : α → Prop} {off i : Nat} {f : Field} (ht : P.underlying t = some (.struct fs)) (hi : fs[i]? = some f) (hft : f.type = e) (hfo : f.offset = off) (hc : P.cellsOf e = d.sz) (he : Opens P e d wf)
    {H : Type} {enc : TypeId × Value → H} {w : World} {base : Nat} {sp : Nat → Bool} {held : Bool} {fuel : Nat} {cs : List Value} {x : DataW H × List MemPlace} (h : DataW.trod enc P w base sp held fuel t cs = some x) :
    ∃ a, d.K w a ((cs.drop off).take d.sz) ∧ wf a := by
  obtain ⟨xs, n, _, _, _, hn, hf⟩ := DataW.trod_struct ht h
  have h1 := hf i f hi
  have hil : i < xs.length := by
    rw [hn]
    exact (Array.getElem?_eq_some_iff.1 hi).1
  rw [List.getElem?_eq_getElem hil, hft, hfo, hc] at h1
  exact he H enc w base sp held n _ _ h1
theorem opens_cells {P : Program} {t : TypeId} {fs : Array Field} (ht : P.underlying t = some (.struct fs)) {H : Type} {enc : TypeId × Value → H} {w : World} {base : Nat} {sp : Nat → Bool} {held : Bool} {fuel : Nat} {cs : List Value} {x : DataW H × List MemPlace} (h : DataW.trod enc P w base sp held fuel t cs = some x) :
    cs.length = P.cellsOf t := by
  obtain ⟨xs, n, _, _, hl, _⟩ := DataW.trod_struct ht h
  exact hl
theorem opens_struct4 {α β γ δ : Type} {P : Program} {t ta tb tc td : TypeId} {fs : Array Field} {a : Kd α} {b : Kd β} {c : Kd γ} {d : Kd δ} {wa : α → Prop} {wb : β → Prop} {wc : γ → Prop} {wd : δ → Prop} (ht : P.underlying t = some (.struct fs)) (hc : P.cellsOf t = a.sz + (b.sz + (c.sz + d.sz)))
    (f0 : (fs[0]?).map (fun f => (f.type, f.offset)) = some (ta, 0)) (f1 : (fs[1]?).map (fun f => (f.type, f.offset)) = some (tb, a.sz)) (f2 : (fs[2]?).map (fun f => (f.type, f.offset)) = some (tc, a.sz + b.sz)) (f3 : (fs[3]?).map (fun f => (f.type, f.offset)) = some (td, a.sz + b.sz + c.sz)) (ca : P.cellsOf ta = a.sz) (cb : P.cellsOf tb = b.sz) (cc : P.cellsOf tc = c.sz) (cd : P.cellsOf td = d.sz) (oa : Opens P ta a wa) (ob : Opens P tb b wb) (oc : Opens P tc c wc) (od : Opens P td d wd) :
    Opens P t (Kd.pair a (Kd.pair b (Kd.pair c d))) (fun x => wa x.1 ∧ wb x.2.1 ∧ wc x.2.2.1 ∧ wd x.2.2.2) := by
  intro H enc w base sp held fuel cs x h
  obtain ⟨g0, e0, q0⟩ := Option.map_eq_some_iff.1 f0
  obtain ⟨g1, e1, q1⟩ := Option.map_eq_some_iff.1 f1
  obtain ⟨g2, e2, q2⟩ := Option.map_eq_some_iff.1 f2
  obtain ⟨g3, e3, q3⟩ := Option.map_eq_some_iff.1 f3
  simp only [Prod.mk.injEq] at q0 q1 q2 q3
  obtain ⟨x0, k0, w0⟩ := opens_field ht e0 q0.1 q0.2 ca oa h
  obtain ⟨x1, k1, w1⟩ := opens_field ht e1 q1.1 q1.2 cb ob h
  obtain ⟨x2, k2, w2⟩ := opens_field ht e2 q2.1 q2.2 cc oc h
  obtain ⟨x3, k3, w3⟩ := opens_field ht e3 q3.1 q3.2 cd od h
  have hl := opens_cells ht h
  have hsp : (cs.drop (a.sz + b.sz + c.sz)).take d.sz = ((cs.drop a.sz).drop b.sz).drop c.sz := by rw [List.take_of_length_le (by rw [List.length_drop]; omega)]; simp only [List.drop_drop, Nat.add_assoc]
  rw [List.drop_zero] at k0
  rw [hsp] at k3
  rw [← List.drop_drop] at k2
  exact ⟨(x0, x1, x2, x3), ⟨cs.take a.sz, cs.drop a.sz, (List.take_append_drop _ _).symm, k0, _, _, (List.take_append_drop b.sz _).symm, k1, _, _, (List.take_append_drop c.sz _).symm, k2, k3⟩, w0, w1, w2, w3⟩
/-- A struct as an argument. -/
theorem opens_agg {P : Program} {t : TypeId} {fs : Array Field} {w : World} {r : Reach} {base : Nat} {v : Value} (ht : P.underlying t = some (.struct fs)) (h : Value.okWide P w r base t v) : ∃ cs, v = .agg cs := by
  unfold Value.okWide at h
  rw [ht] at h
  obtain ⟨cs, hv, _⟩ := h
  exact ⟨cs, hv⟩
/-- A row's slice is no longer than its weight allows. -/
theorem sized_row {H : Type} {enc : TypeId × Value → H} {P : Program} {W : World} {base : Nat} {spare : Nat → Bool} {held : Bool} {t e : TypeId} {a : Option Addr} {len cap : Nat} {d : DataW H} {ps : List MemPlace} {ts : List TypeId} {ds : List (DataW H)} {j : Nat}
    (hsz : (DataW.weightsEach P ts ds).all (· ≤ reachBytes) = true) (ht : ts[j]? = some t) (hd : ds[j]? = some d) (hu : P.underlying t = some (.slice e)) (B : Nat) (hB : P.bytesOf e = B)
    (h : DataW.Trod enc P W base spare held t (.slice a len cap) d ps) : len * B ≤ 140737488351232 := by
  obtain ⟨fuel, hf⟩ := h
  rcases DataW.trod_slice hu hf with ⟨hcs, _⟩ | ⟨ad, l, c, elems, rest, n, _, hcs, hx, _, _, _, hn, _⟩
  · simp only [Value.cells, List.cons.injEq, Value.slice.injEq, and_true] at hcs
    obtain ⟨rfl, rfl, rfl⟩ := hcs
    rw [Nat.zero_mul]; omega
  · simp only [Value.cells, List.cons.injEq, Value.slice.injEq, and_true] at hcs
    obtain ⟨rfl, rfl, rfl⟩ := hcs
    obtain ⟨hx, _⟩ := Prod.mk.inj hx
    subst hx
    have z := sized_slice hsz ht hd hu
    rw [hB, List.length_map, List.length_map] at z
    exact Nat.le_trans (Nat.mul_le_mul_right _ (by omega)) z
end Go.Proofs.YtlaihdipagejfaaG

end

section
set_option linter.unusedVariables false
namespace Go.Proofs.Ytlaihdipagejfaa.editBack
open Go Go.ChangeShapes Go.WideShapes Go.ChangeAt Go.RowKit Go.Proofs.YtlaihdipagejfaaG Go.Proofs.Ytlaihdipagejfaa.P Go.Proofs.YtlaihdipagejfaaL Go.Proofs.YtlaihdipagejfaaW.PrintWords
open Go.ChangeMaps (open_string shut_string)
theorem own : ownKnob Try.prog.godebug = none := by kernel_rfl
theorem laidOut : laidOutB Try.prog = true := by kernel_rfl
set_option maxRecDepth 100000 in
theorem lifted (os : Os) (started : os.Started) (H : Type) (enc : TypeId × Value → H) :
    ReturnsInHanded {} Try.checked os 10 .any (Rows.editBackSpec.pre6 enc Try.prog Try.f10 Rows.editBackRow.domain false) (Rows.editBackSpec.post enc Try.prog Try.f10 false true false false) := by
  refine returnsInHanded_of_change_sized (C := Try.checked) own started (by kernel_rfl) Try.func10
    (ChangeSpec.witness6 (enc := enc) (C := Try.checked) false ⟨#[], #[.agg #[.slice none 0 0, .int .u64 0, .int .u64 0, .int .u64 0], .agg #[.slice none 0 0, .int .u64 0, .int .u64 0, .int .u64 0], .slice none 0 0], []⟩ 8 (by kernel_rfl) (by kernel_rfl) (by kernel_rfl) (by kernel_rfl)) ?_
  intro W base args ds gs before hval0 hW hcnd hsz0 _
  have hsz : (DataW.weightsEach Try.prog (Try.f10.params.toList ++ Rows.editBackSpec.plain.varTypes Try.prog) (ds ++ gs)).all (· ≤ reachBytes) = true := hsz0
  have hval : ∀ (j : Nat) t v, Try.f10.params[j]? = some t → args[j]? = some v → Value.okWide Try.prog W .any base t v := hval0
  have hW' := hW
  obtain ⟨p, q, hA0, hV, rfl, hfz, hnd⟩ := hW
  have hA : DataW.TrodAll enc Try.prog W 0 (fun _ => true) true Try.f10.params.toList args.toList ds p := hA0
  rw [Try.params10] at hA hval hsz
  obtain ⟨v0, vs0, d0, ds0, p0, q0, hargs, rfl, rfl, h0, r0⟩ := trodAll_cons hA
  obtain ⟨v1, vs1, d1, ds1, p1, q1, rfl, rfl, rfl, h1, r1⟩ := trodAll_cons r0
  obtain ⟨v2, vs2, d2, ds2, p2, q2, rfl, rfl, rfl, h2, r2⟩ := trodAll_cons r1
  obtain ⟨rfl, rfl, rfl⟩ := trodAll_nil r2
  obtain rfl : args = #[v0, v1, v2] := by cases args; simp_all
  obtain ⟨rfl, rfl⟩ := trodVars_none hV
  obtain ⟨cs0, rfl⟩ := opens_agg Try.underlying54 (hval 0 54 v0 rfl rfl)
  have k0 := h0
  have lt0 : ∀ x ∈ p0, x.block < W.heap.size := by obtain ⟨m, hm⟩ := k0; exact DataW.trod_lt m _ _ _ hm
  obtain ⟨fuel0, hf0⟩ := h0
  obtain ⟨x0, hx0, hw0⟩ := (show Opens Try.prog 54 k54 _ from Opens.iso (opens_struct4 (ta := 52) (tb := 35) (tc := 35) (td := 35) Try.underlying54 (by kernel_rfl) (by kernel_rfl) (by kernel_rfl) (by kernel_rfl) (by kernel_rfl) (by kernel_rfl) (by kernel_rfl) (by kernel_rfl) (by kernel_rfl) (opens_slice (by kernel_rfl) Try.underlying52 (show Opens Try.prog 62 k62 _ from Opens.iso (opens_struct4 (ta := 35) (tb := 35) (tc := 9) (td := 9) Try.underlying62 (by kernel_rfl) (by kernel_rfl) (by kernel_rfl) (by kernel_rfl) (by kernel_rfl) (by kernel_rfl) (by kernel_rfl) (by kernel_rfl) (by kernel_rfl) (opens_int Try.underlying35) (opens_int Try.underlying35) (opens_string Try.underlying9) (opens_string Try.underlying9)) (fun x : S62 => (x.f0, x.f1, x.f2, x.f3)) (fun q => ⟨q.1, q.2.1, q.2.2.1, q.2.2.2⟩) (fun _ => rfl))) (opens_int Try.underlying35) (opens_int Try.underlying35) (opens_int Try.underlying35)) (fun x : S54 => (x.f0, x.f1, x.f2, x.f3)) (fun q => ⟨q.1, q.2.1, q.2.2.1, q.2.2.2⟩) (fun _ => rfl)) H enc _ _ _ _ _ _ _ hf0
  obtain ⟨A0_0, c0_0, hcs0, hl0_0, hC0_0⟩ := k54_open hx0
  obtain rfl : cs0 = #[.slice A0_0 (x0.f0).length c0_0, .int .u64 x0.f1, .int .u64 x0.f2, .int .u64 x0.f3] := Array.ext' hcs0
  obtain ⟨cs1, rfl⟩ := opens_agg Try.underlying54 (hval 1 54 v1 rfl rfl)
  have k1 := h1
  have lt1 : ∀ x ∈ p1, x.block < W.heap.size := by obtain ⟨m, hm⟩ := k1; exact DataW.trod_lt m _ _ _ hm
  obtain ⟨fuel1, hf1⟩ := h1
  obtain ⟨x1, hx1, hw1⟩ := (show Opens Try.prog 54 k54 _ from Opens.iso (opens_struct4 (ta := 52) (tb := 35) (tc := 35) (td := 35) Try.underlying54 (by kernel_rfl) (by kernel_rfl) (by kernel_rfl) (by kernel_rfl) (by kernel_rfl) (by kernel_rfl) (by kernel_rfl) (by kernel_rfl) (by kernel_rfl) (opens_slice (by kernel_rfl) Try.underlying52 (show Opens Try.prog 62 k62 _ from Opens.iso (opens_struct4 (ta := 35) (tb := 35) (tc := 9) (td := 9) Try.underlying62 (by kernel_rfl) (by kernel_rfl) (by kernel_rfl) (by kernel_rfl) (by kernel_rfl) (by kernel_rfl) (by kernel_rfl) (by kernel_rfl) (by kernel_rfl) (opens_int Try.underlying35) (opens_int Try.underlying35) (opens_string Try.underlying9) (opens_string Try.underlying9)) (fun x : S62 => (x.f0, x.f1, x.f2, x.f3)) (fun q => ⟨q.1, q.2.1, q.2.2.1, q.2.2.2⟩) (fun _ => rfl))) (opens_int Try.underlying35) (opens_int Try.underlying35) (opens_int Try.underlying35)) (fun x : S54 => (x.f0, x.f1, x.f2, x.f3)) (fun q => ⟨q.1, q.2.1, q.2.2.1, q.2.2.2⟩) (fun _ => rfl)) H enc _ _ _ _ _ _ _ hf1
  obtain ⟨A1_0, c1_0, hcs1, hl1_0, hC1_0⟩ := k54_open hx1
  obtain rfl : cs1 = #[.slice A1_0 (x1.f0).length c1_0, .int .u64 x1.f1, .int .u64 x1.f2, .int .u64 x1.f3] := Array.ext' hcs1
  obtain ⟨a2, len2, cap2, rfl⟩ := okWide_slice Try.underlying23 (hval 2 23 v2 rfl rfl)
  have k2 := h2
  have y2 := sized_row hsz (j := 2) (t := 23) rfl rfl Try.underlying23 1 (by kernel_rfl) h2
  have lt2 : ∀ x ∈ p2, x.block < W.heap.size := by obtain ⟨m, hm⟩ := k2; exact DataW.trod_lt m _ _ _ hm
  obtain ⟨fuel2, hf2⟩ := h2
  obtain ⟨A2, c2, l2, hcs2, hl2, hm2, hC2, hw2⟩ := opens_row (by kernel_rfl) Try.underlying23 (opens_int Try.underlying5) hf2
  simp only [Value.cells, List.cons.injEq, Value.slice.injEq, and_true] at hcs2
  obtain ⟨rfl, rfl, rfl⟩ := hcs2
  obtain ⟨k, h⟩ := Pure.EditBack x0 hw0 x1 hw1 l2 (Nat.le_trans hl2 hm2) y2 hw2
  clear hA0 hval0 hsz0 hsz
  refine (P.ratlinelaw09_EditBack.calls k (fun _ => True) _ _ x0.f0 x0.f1 x0.f2 x0.f3 (fun _ => True) _ _ x1.f0 x1.f1 x1.f2 x1.f3 _ _ l2 true W (Kd.V_mk hl0_0 (Kd.F_mono (Kd.C_F heap62 hC0_0) (fun _ _ => trivial))) (Kd.V_mk hl1_0 (Kd.F_mono (Kd.C_F heap62 hC1_0) (fun _ _ => trivial))) hC2 hl2 h).mono fun e W' ⟨he, bel⟩ => ?_
  subst he
  exact ⟨_, rfl, _, _, _, [], _, [], hW', trodAll_mk1 (shut_bool Try.underlying4 _), (trodAll_cons_mk (Below.trod laidOut (by kernel_rfl) (of_decide_eq_true (by kernel_rfl)) k0 bel lt0) (trodAll_cons_mk (Below.trod laidOut (by kernel_rfl) (of_decide_eq_true (by kernel_rfl)) k1 bel lt1) (trodAll_cons_mk (Below.trod laidOut (by kernel_rfl) (of_decide_eq_true (by kernel_rfl)) k2 bel lt2) trodAll_mk0))), rfl, bel.frame _, fun h => by cases h⟩
theorem over : Rows.editBackRow.holds Try.pinned (OpenSpec.ofChange Rows.editBackSpec) :=
  OpenClaim.holds_of_wide 10 Try.f10 rfl rfl rfl rfl rfl rfl rfl ⟨rfl, rfl, rfl, rfl, rfl⟩ rfl rfl rfl rfl rfl (by kernel_rfl) Try.func10 (by kernel_rfl)
    (of_decide_eq_true (by kernel_rfl)) (by unfold Func.isWrapper; first | (rw [if_pos (by decide +kernel)]; kernel_rfl) | (rw [if_neg (by decide +kernel)]; exact ⟨rfl, rfl⟩))
    (fun os started H enc _ => lifted os started H enc)
theorem proved : Rows.EditBackSaid := over
#print axioms proved
end Go.Proofs.Ytlaihdipagejfaa.editBack
namespace Go.Proofs.Ytlaihdipagejfaa
/-- The row, under a short name, for the claim. -/
theorem editBack_holds : Rows.EditBackSaid := editBack.proved
end Go.Proofs.Ytlaihdipagejfaa

end
