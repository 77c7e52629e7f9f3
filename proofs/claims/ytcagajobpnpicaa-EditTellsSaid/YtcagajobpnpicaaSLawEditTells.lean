/- Proved here: the row of EditTells, and what it needs. Conditions: those of each theorem. Written for this claim by programs; what the claim does not use is left out. -/
import Derived.Test.YtcagajobpnpicaaRows
import Derived.WalkKit
import Derived.ProofKit
import Derived.OpenShut
import Derived.ShutString
import Derived.ChangeOld
import Derived.Below
import Derived.SizedLaws
import Derived.Test.YtcagajobpnpicaaSEditTells5
section
namespace Go.Proofs.Ytcagajobpnpicaa.P
open Go.RowKit Go.Proofs.YtcagajobpnpicaaG Go.Proofs.YtcagajobpnpicaaW.PrintWords Go.Proofs.YtcagajobpnpicaaW.PrintLast Go.Proofs.YtcagajobpnpicaaW.PrintMore
attribute [local go_sem] str_gtr str_geq str_leq max2_int min2_int max_two min_two max_three min_three max_four min_four   -- for this text's walks alone
set_option linter.unusedVariables false
set_option linter.unusedSimpArgs false

open ratlinelaw09_EditTells
set_option linter.unusedVariables false
set_option linter.unusedSimpArgs false
abbrev aW := @pw_below_drewN
abbrev aA := @below_alloc
abbrev aD := @below_drew1
abbrev aV := @Kd.V_elder'
abbrev aR := @Kd.R_elder'
abbrev aQ := @Kd.R_reads'
abbrev aO := @Kd.V_reads'
abbrev aF := @blk_frozen
abbrev aZ := @below_size
abbrev aT := @below_step
abbrev aL := @Kd.R_lower
abbrev aP := @Kd.R_types
abbrev aG := @Kd.C_drewN
abbrev aH := @Kd.C_alloc
abbrev aK := @Aside0.mk
abbrev aS := @below_set
abbrev aB := @blk_below
abbrev aM := @Kd.R_mono
abbrev aN := @Kd.V_mono
abbrev aI := @Kd.C_drew
abbrev aJ := @Kd.R_base
abbrev aC := @blk_cell
abbrev aY := @Kd.R_far
abbrev aU := @Kd.V_far
abbrev aX := @blk_far
set_option maxHeartbeats 8000000 in
set_option maxRecDepth 100000 in
theorem ratlinelaw09_EditTells.calls (k : Nat) (P0_0_ : Nat → Prop) (A0_0 : Option Addr) (c0_0 : Nat) (l0_0 : List (S58)) (a0_1 : Int) (a0_2 : Int) (a0_3 : Int) (P1_0_ : Nat → Prop) (A1_0 : Option Addr) (c1_0 : Nat) (l1_0 : List (S58)) (a1_1 : Int) (a1_2 : Int) (a1_3 : Int) (A2 : Option Addr) (c2 : Nat) (l2 : List Int) (A3_0 : Option Addr) (c3_0 : Nat) (l3_0 : List (S58)) (a3_1 : Int) (a3_2 : Int) (a3_3 : Int) (r : Bool) (w : World) (hs0_0 : Kd.V k58 58 w w.heap.size (fun k_ => P0_0_ k_) (.slice A0_0 l0_0.length c0_0) l0_0) (hs1_0 : Kd.V k58 58 w w.heap.size (fun k_ => P1_0_ k_) (.slice A1_0 l1_0.length c1_0) l1_0) (hr2 : Kd.C (Kd.int .u8) w A2 l2.length l2) (hc2 : l2.length ≤ c2) (hr3_0 : Kd.C k58 w A3_0 l3_0.length l3_0) (hc3_0 : l3_0.length ≤ c3_0) (h : f k l0_0 a0_1 a0_2 a0_3 l1_0 a1_1 a1_2 a1_3 l2 l3_0 a3_1 a3_2 a3_3 = some r) :
  Calls Try.prog 3 #[.agg #[.slice A0_0 l0_0.length c0_0,.int .u64 a0_1,.int .u64 a0_2,.int .u64 a0_3],.agg #[.slice A1_0 l1_0.length c1_0,.int .u64 a1_1,.int .u64 a1_2,.int .u64 a1_3],.slice A2 l2.length c2,.agg #[.slice A3_0 l3_0.length c3_0,.int .u64 a3_1,.int .u64 a3_2,.int .u64 a3_3]] w fun e w' => e = .returned (.bool r) ∧ Below w.heap.size w w':=by
 have hu25:=Try.underlying25
 have hu28:=Try.underlying28
 have HO0_0:=aK (show Kd.V k58 58 w w.heap.size (fun k_ => ((P0_0_ k_ ∨ P1_0_ k_) ∨ w.heap.size ≤ k_)) (.slice A0_0 l0_0.length c0_0) l0_0 from aN hs0_0 (fun k_ hk => .inl (.inl hk)))
 have HO1_0:=aK (show Kd.V k58 58 w w.heap.size (fun k_ => ((P0_0_ k_ ∨ P1_0_ k_) ∨ w.heap.size ≤ k_)) (.slice A1_0 l1_0.length c1_0) l1_0 from aN hs1_0 (fun k_ hk => .inl (.inr hk)))
 have HR2:=aK hr2
 have HC2:=aK hc2
 clear hr2 hc2
 have HR3_0:=aK hr3_0
 have HC3_0:=aK hc3_0
 clear hr3_0 hc3_0
 have HB:=aK (Below.refl w.heap.size w)
 have H : ((ratlineref09_Whole.f l3_0 a3_1 a3_2 a3_3).bind fun bt255 => ((ratlinelaw09_Few.f k (([(⟨l0_0,a0_1,a0_2,a0_3⟩ : S25),(⟨l1_0,a1_1,a1_2,a1_3⟩ : S25),(⟨bt255.1,bt255.2.1,bt255.2.2.1,bt255.2.2.2⟩ : S25)] : List (S25)))).bind fun t264 => (if t264 = true then (j0 k l2 (decide ((l2.length : Int) > 600)) l0_0 a0_1 a0_2 a0_3 l1_0 a1_1 a1_2 a1_3 l3_0 a3_1 a3_2 a3_3) else (j0 k l2 true l0_0 a0_1 a0_2 a0_3 l1_0 a1_1 a1_2 a1_3 l3_0 a3_1 a3_2 a3_3)))) = some r:=h
 clear h
 have HC5:=aK H
 clear H
 go_enter Try.func3,Try.ntmps3
 go_upto_region 1 with (first|((with_reducible refine gate_dst (N:=4) rfl ?_);(try (refine gate_guard (by rfl) ?_;dsimp only));refine box_event ?hg (N:=4) ?hd (cs:=#[.slice A0_0 l0_0.length c0_0,.int .u64 a0_1,.int .u64 a0_2,.int .u64 a0_3]) (t:=25) ?hr ?_;(case hd => rfl);(case hg => rfl);(case hr => first|(go_simp;done)|(go_simp;rfl));intro gb252 hg w6 hbox hb;have n0_:=aK (Kd.V_below (Kd.V_elderB (by (with_reducible repeat (first|apply vA|apply vN|apply vD));exact HO0_0.out) gb252 (Nat.le_of_eq hg.symm)) hb);have n1_:=aK (Kd.V_below (Kd.V_elderB (by (with_reducible repeat (first|apply vA|apply vN|apply vD));exact HO1_0.out) gb252 (Nat.le_of_eq hg.symm)) hb);have n2_:=aK (aT (by repeat (first|(with_reducible first|exact HB.out|apply aA|apply aW|apply aD)|exact HB.out)) hb);have n3_:=aK (hbox);have n4_:=aK ((by rw [hg];exact (aZ (by repeat (first|(with_reducible first|exact HB.out|apply aA|apply aW|apply aD)|exact HB.out))) : w.heap.size ≤ gb252));have n5_:=aK ((by rw [hg];exact (aZ (by repeat (first|(with_reducible first|exact HB.out|apply aA|apply aW|apply aD)|exact HB.out))) : w.heap.size ≤ gb252));clear HO0_0;clear HO1_0;clear HB;have HO0_0:=n0_;have HO1_0:=n1_;have HB:=n2_;have B252:=n3_;have W252:=n4_;have E252:=n5_;clear n0_ n1_ n2_ n3_ n4_ n5_;clear hb hbox hg)|((with_reducible refine gate_dst (N:=5) rfl ?_);(try (refine gate_guard (by rfl) ?_;dsimp only));refine box_event ?hg (N:=5) ?hd (cs:=#[.slice A1_0 l1_0.length c1_0,.int .u64 a1_1,.int .u64 a1_2,.int .u64 a1_3]) (t:=25) ?hr ?_;(case hd => rfl);(case hg => rfl);(case hr => first|(go_simp;done)|(go_simp;rfl));intro gb253 hg w7 hbox hb;have n0_:=aK (Kd.V_below (Kd.V_elderB (by (with_reducible repeat (first|apply vA|apply vN|apply vD));exact HO0_0.out) gb253 (Nat.le_of_eq hg.symm)) hb);have n1_:=aK (Kd.V_below (Kd.V_elderB (by (with_reducible repeat (first|apply vA|apply vN|apply vD));exact HO1_0.out) gb253 (Nat.le_of_eq hg.symm)) hb);have n2_:=aK (aB (g:=gb252) (o:=.cells #[.slice A0_0 l0_0.length c0_0,.int .u64 a0_1,.int .u64 a0_2,.int .u64 a0_3] 25 (0,0)) (by (with_reducible repeat (first|apply bN|apply bD|apply bA));exact B252.out) hb);have n3_:=aK (aT (by repeat (first|(with_reducible first|exact HB.out|apply aA|apply aW|apply aD|refine aS ?_ E252.out)|exact HB.out)) hb);have n4_:=aK (hbox);have n5_:=aK ((by rw [hg];exact (aZ (by repeat (first|(with_reducible first|exact HB.out|apply aA|apply aW|apply aD|refine aS ?_ E252.out)|exact HB.out))) : w.heap.size ≤ gb253));have n6_:=aK ((by rw [hg];exact (aZ (by repeat (first|(with_reducible first|exact HB.out|apply aA|apply aW|apply aD|refine aS ?_ E252.out)|exact HB.out))) : w.heap.size ≤ gb253));have n7_:=aK ((by rw [hg];exact Nat.ne_of_lt (blk_lt (g:=gb252) (o:=.cells #[.slice A0_0 l0_0.length c0_0,.int .u64 a0_1,.int .u64 a0_2,.int .u64 a0_3] 25 (0,0)) (by (with_reducible repeat (first|apply bN|apply bD|apply bA));exact B252.out)) : gb252 ≠ gb253));have n8_:=aK ((by rw [hg];exact Nat.ne_of_gt (blk_lt (g:=gb252) (o:=.cells #[.slice A0_0 l0_0.length c0_0,.int .u64 a0_1,.int .u64 a0_2,.int .u64 a0_3] 25 (0,0)) (by (with_reducible repeat (first|apply bN|apply bD|apply bA));exact B252.out)) : gb253 ≠ gb252));clear HO0_0;clear HO1_0;clear B252;clear HB;have HO0_0:=n0_;have HO1_0:=n1_;have B252:=n2_;have HB:=n3_;have B253:=n4_;have W253:=n5_;have E253:=n6_;have N252_253:=n7_;have N253_252:=n8_;clear n0_ n1_ n2_ n3_ n4_ n5_ n6_ n7_ n8_;clear hb hbox hg)|((with_reducible refine gate_dst (N:=7) rfl ?_);(try (refine gate_guard (by rfl) ?_;dsimp only));refine box_event ?hg (N:=7) ?hd (cs:=#[.slice A3_0 l3_0.length c3_0,.int .u64 a3_1,.int .u64 a3_2,.int .u64 a3_3]) (t:=28) ?hr ?_;(case hd => rfl);(case hg => rfl);(case hr => first|(go_simp;done)|(go_simp;rfl));intro gb254 hg w8 hbox hb;have n0_:=aK (Kd.V_below (Kd.V_elderB (by (with_reducible repeat (first|apply vA|apply vN|apply vD));exact HO0_0.out) gb254 (Nat.le_of_eq hg.symm)) hb);have n1_:=aK (Kd.V_below (Kd.V_elderB (by (with_reducible repeat (first|apply vA|apply vN|apply vD));exact HO1_0.out) gb254 (Nat.le_of_eq hg.symm)) hb);have n2_:=aK (aB (g:=gb252) (o:=.cells #[.slice A0_0 l0_0.length c0_0,.int .u64 a0_1,.int .u64 a0_2,.int .u64 a0_3] 25 (0,0)) (by (with_reducible repeat (first|apply bN|apply bD|apply bA));exact B252.out) hb);have n3_:=aK (aB (g:=gb253) (o:=.cells #[.slice A1_0 l1_0.length c1_0,.int .u64 a1_1,.int .u64 a1_2,.int .u64 a1_3] 25 (0,0)) (by (with_reducible repeat (first|apply bN|apply bD|apply bA));exact B253.out) hb);have n4_:=aK (aT (by repeat (first|(with_reducible first|exact HB.out|apply aA|apply aW|apply aD|refine aS ?_ E252.out|refine aS ?_ E253.out)|exact HB.out)) hb);have n5_:=aK (hbox);have n6_:=aK ((by rw [hg];exact (aZ (by repeat (first|(with_reducible first|exact HB.out|apply aA|apply aW|apply aD|refine aS ?_ E252.out|refine aS ?_ E253.out)|exact HB.out))) : w.heap.size ≤ gb254));have n7_:=aK ((by rw [hg];exact (aZ (by repeat (first|(with_reducible first|exact HB.out|apply aA|apply aW|apply aD|refine aS ?_ E252.out|refine aS ?_ E253.out)|exact HB.out))) : w.heap.size ≤ gb254));have n8_:=aK ((by rw [hg];exact Nat.ne_of_lt (blk_lt (g:=gb252) (o:=.cells #[.slice A0_0 l0_0.length c0_0,.int .u64 a0_1,.int .u64 a0_2,.int .u64 a0_3] 25 (0,0)) (by (with_reducible repeat (first|apply bN|apply bD|apply bA));exact B252.out)) : gb252 ≠ gb254));have n9_:=aK ((by rw [hg];exact Nat.ne_of_gt (blk_lt (g:=gb252) (o:=.cells #[.slice A0_0 l0_0.length c0_0,.int .u64 a0_1,.int .u64 a0_2,.int .u64 a0_3] 25 (0,0)) (by (with_reducible repeat (first|apply bN|apply bD|apply bA));exact B252.out)) : gb254 ≠ gb252));have n10_:=aK ((by rw [hg];exact Nat.ne_of_lt (blk_lt (g:=gb253) (o:=.cells #[.slice A1_0 l1_0.length c1_0,.int .u64 a1_1,.int .u64 a1_2,.int .u64 a1_3] 25 (0,0)) (by (with_reducible repeat (first|apply bN|apply bD|apply bA));exact B253.out)) : gb253 ≠ gb254));have n11_:=aK ((by rw [hg];exact Nat.ne_of_gt (blk_lt (g:=gb253) (o:=.cells #[.slice A1_0 l1_0.length c1_0,.int .u64 a1_1,.int .u64 a1_2,.int .u64 a1_3] 25 (0,0)) (by (with_reducible repeat (first|apply bN|apply bD|apply bA));exact B253.out)) : gb254 ≠ gb253));clear HO0_0;clear HO1_0;clear B252;clear B253;clear HB;have HO0_0:=n0_;have HO1_0:=n1_;have B252:=n2_;have B253:=n3_;have HB:=n4_;have B254:=n5_;have W254:=n6_;have E254:=n7_;have N252_254:=n8_;have N254_252:=n9_;have N253_254:=n10_;have N254_253:=n11_;clear n0_ n1_ n2_ n3_ n4_ n5_ n6_ n7_ n8_ n9_ n10_ n11_;clear hb hbox hg))
 (try simp only [Act.put,sA,sZ,sS])
 go_cut [32] (fun v32 wc => ∃ (kq : Nat) (x32_4 : Bool),v32 = .bool x32_4 ∧ Aside0 (j0 kq l2 x32_4 l0_0 a0_1 a0_2 a0_3 l1_0 a1_1 a1_2 a1_3 l3_0 a3_1 a3_2 a3_3 = some r) ∧ Aside0 (kq ≤ k) ∧ Aside0 (Kd.V k58 58 wc w.heap.size (fun k_ => ((P0_0_ k_ ∨ P1_0_ k_) ∨ w.heap.size ≤ k_) ∧ k_ ≠ gb252 ∧ k_ ≠ gb253 ∧ k_ ≠ gb254) (.slice A0_0 l0_0.length c0_0) l0_0) ∧ Aside0 (Kd.V k58 58 wc w.heap.size (fun k_ => ((P0_0_ k_ ∨ P1_0_ k_) ∨ w.heap.size ≤ k_) ∧ k_ ≠ gb252 ∧ k_ ≠ gb253 ∧ k_ ≠ gb254) (.slice A1_0 l1_0.length c1_0) l1_0) ∧ Aside0 (wc.heap[gb252]? = some (.cells #[(.slice A0_0 l0_0.length c0_0),.int .u64 a0_1,.int .u64 a0_2,.int .u64 a0_3] 25 (0,0))) ∧ Aside0 (wc.heap[gb253]? = some (.cells #[(.slice A1_0 l1_0.length c1_0),.int .u64 a1_1,.int .u64 a1_2,.int .u64 a1_3] 25 (0,0))) ∧ Aside0 (wc.heap[gb254]? = some (.cells #[(.slice A3_0 l3_0.length c3_0),.int .u64 a3_1,.int .u64 a3_2,.int .u64 a3_3] 28 (0,0))) ∧ Aside0 (Below w.heap.size w wc))
 case first =>
  have H:=HC5.out
  clear HC5
  replace H:=Option.bind_eq_some_iff.mp H
  obtain ⟨⟨t255,t258,t259,t260⟩,A90,H⟩:=H
  replace H : ((ratlinelaw09_Few.f k (([(⟨l0_0,a0_1,a0_2,a0_3⟩ : S25),(⟨l1_0,a1_1,a1_2,a1_3⟩ : S25),(⟨t255,t258,t259,t260⟩ : S25)] : List (S25)))).bind fun t264 => (if t264 = true then (j0 k l2 (decide ((l2.length : Int) > 600)) l0_0 a0_1 a0_2 a0_3 l1_0 a1_1 a1_2 a1_3 l3_0 a3_1 a3_2 a3_3) else (j0 k l2 true l0_0 a0_1 a0_2 a0_3 l1_0 a1_1 a1_2 a1_3 l3_0 a3_1 a3_2 a3_3))) = some r:=H
  have A9:=aK A90
  clear A90
  obtain ⟨y261,hy261⟩ : ∃ y_ : List (S25),y_ = (([(⟨l0_0,a0_1,a0_2,a0_3⟩ : S25),(⟨l1_0,a1_1,a1_2,a1_3⟩ : S25),(⟨t255,t258,t259,t260⟩ : S25)] : List (S25))):=⟨_,rfl⟩
  replace H : ((ratlinelaw09_Few.f k y261).bind fun t264 => (if t264 = true then (j0 k l2 (decide ((l2.length : Int) > 600)) l0_0 a0_1 a0_2 a0_3 l1_0 a1_1 a1_2 a1_3 l3_0 a3_1 a3_2 a3_3) else (j0 k l2 true l0_0 a0_1 a0_2 a0_3 l1_0 a1_1 a1_2 a1_3 l3_0 a3_1 a3_2 a3_3))) = some r:=by first|(rw [hy261];with_reducible exact H)|(have H2_:=(Option.bind_some _ _).symm.trans H;rw [hy261];with_reducible exact H2_)|(have H2_:=(Option.bind_some _ _).symm.trans H;with_reducible exact H2_)|with_reducible exact H|(rw [hy261];exact H)|exact H
  have Ny261:=aK hy261
  clear hy261
  replace H:=Option.bind_eq_some_iff.mp H
  obtain ⟨t264,A100,H⟩:=H
  replace H : (if t264 = true then (j0 k l2 (decide ((l2.length : Int) > 600)) l0_0 a0_1 a0_2 a0_3 l1_0 a1_1 a1_2 a1_3 l3_0 a3_1 a3_2 a3_3) else (j0 k l2 true l0_0 a0_1 a0_2 a0_3 l1_0 a1_1 a1_2 a1_3 l3_0 a3_1 a3_2 a3_3)) = some r:=H
  have A10:=aK A100
  clear A100
  by_cases c11 : t264 = true
  ·subst c11
   have H1 : (j0 k l2 (decide ((l2.length : Int) > 600)) l0_0 a0_1 a0_2 a0_3 l1_0 a1_1 a1_2 a1_3 l3_0 a3_1 a3_2 a3_3) = some r:=by rw [if_pos rfl] at H;exact H
   clear H
   have H:=H1
   clear H1
   have H':=aK H
   clear H
   try go_wp2
   have n0_:=aK (Kd.V_drew HO0_0.out)
   have n1_:=aK (Kd.V_drew HO1_0.out)
   have n2_:=aK (blk_drew B252.out)
   have n3_:=aK (blk_drew B253.out)
   have n4_:=aK (blk_drew B254.out)
   have n5_:=aK (aD HB.out)
   clear HO0_0
   clear HO1_0
   clear B252
   clear B253
   clear B254
   clear HB
   have HO0_0:=n0_
   have HO1_0:=n1_
   have B252:=n2_
   have B253:=n3_
   have B254:=n4_
   have HB:=n5_
   clear n0_ n1_ n2_ n3_ n4_ n5_
   refine start_ (n:=12) (S:=fun w' => w'.cell? ⟨gb252,0,none⟩ = some (.slice A0_0 l0_0.length c0_0) ∧ w'.cell? ⟨gb252,1,none⟩ = some (.int .u64 a0_1) ∧ w'.cell? ⟨gb252,2,none⟩ = some (.int .u64 a0_2) ∧ w'.cell? ⟨gb252,3,none⟩ = some (.int .u64 a0_3) ∧ w'.cell? ⟨gb253,0,none⟩ = some (.slice A1_0 l1_0.length c1_0) ∧ w'.cell? ⟨gb253,1,none⟩ = some (.int .u64 a1_1) ∧ w'.cell? ⟨gb253,2,none⟩ = some (.int .u64 a1_2) ∧ w'.cell? ⟨gb253,3,none⟩ = some (.int .u64 a1_3) ∧ w'.cell? ⟨gb254,0,none⟩ = some (.slice A3_0 l3_0.length c3_0) ∧ w'.cell? ⟨gb254,1,none⟩ = some (.int .u64 a3_1) ∧ w'.cell? ⟨gb254,2,none⟩ = some (.int .u64 a3_2) ∧ w'.cell? ⟨gb254,3,none⟩ = some (.int .u64 a3_3)) (ds:=[]) #[ff,ff,ff,ff,ff,ff,ff,ff,ff,ff,ff,ff] (by kernel_rfl) rfl rfl ⟨(aC B252.out 0).trans rfl,(aC B252.out 1).trans rfl,(aC B252.out 2).trans rfl,(aC B252.out 3).trans rfl,(aC B253.out 0).trans rfl,(aC B253.out 1).trans rfl,(aC B253.out 2).trans rfl,(aC B253.out 3).trans rfl,(aC B254.out 0).trans rfl,(aC B254.out 1).trans rfl,(aC B254.out 2).trans rfl,(aC B254.out 3).trans rfl⟩ (fun hHeld => ?_);refine with_tabW tab1 bits1 (fun HT_ HW_ => ?_)
   generalize w8.drew = w12 at HO0_0 HO1_0 B252 B253 B254 HB hHeld ⊢
   refine take_ (i:=0) (N:=some 21) (v:=?_) (a':=?_) #[tt,ff,ff,ff,ff,ff,ff,ff,ff,ff,ff,ff] rfl rfl (take_ofW HT_.out HW_.out (by kernel_rfl)) (fun _ _ _ h => h) (Or.inl ⟨by rfl,?_⟩) hHeld ?_ ?_
   rotate_left
   ·rintro w' ⟨s0,s1,s2,s3,s4,s5,s6,s7,s8,s9,s10,s11⟩
    go_simp
    with_reducible rfl
   rotate_left
   ·simp only [Act.put,sA,sZ,sS,i64_w,i32_w]
    rfl
   refine take_ (i:=1) (N:=some 22) (v:=?_) (a':=?_) #[tt,tt,ff,ff,ff,ff,ff,ff,ff,ff,ff,ff] rfl rfl (take_ofW HT_.out HW_.out (by kernel_rfl)) (fun _ _ _ h => h) (Or.inl ⟨by rfl,?_⟩) hHeld ?_ ?_
   rotate_left
   ·rintro w' ⟨s0,s1,s2,s3,s4,s5,s6,s7,s8,s9,s10,s11⟩
    go_simp
    with_reducible rfl
   rotate_left
   ·simp only [Act.put,sA,sZ,sS,i64_w,i32_w]
    rfl
   refine take_ (i:=2) (N:=some 23) (v:=?_) (a':=?_) #[tt,tt,tt,ff,ff,ff,ff,ff,ff,ff,ff,ff] rfl rfl (take_ofW HT_.out HW_.out (by kernel_rfl)) (fun _ _ _ h => h) (Or.inl ⟨by rfl,?_⟩) hHeld ?_ ?_
   rotate_left
   ·rintro w' ⟨s0,s1,s2,s3,s4,s5,s6,s7,s8,s9,s10,s11⟩
    go_simp
    with_reducible rfl
   rotate_left
   ·simp only [Act.put,sA,sZ,sS,i64_w,i32_w]
    rfl
   refine one_ (i:=3) (N:=some 24) #[tt,tt,tt,tt,ff,ff,ff,ff,ff,ff,ff,ff] rfl rfl (one_of HT_.out (by kernel_rfl)) (by decide) (fun K hK => ?_)
   refine goes_ Try.func9 (by kernel_rfl) rfl #[.agg #[.slice A3_0 l3_0.length c3_0,.int .u64 a3_1,.int .u64 a3_2,.int .u64 a3_3]] (by rfl) rfl rfl (by (try simp only [List.map_toArray,List.map_cons,List.map_nil]);first|done|rfl|(simp only [List.length_drop,List.length_take];rfl)) ?_
   with_reducible refine (ratlineref09_Whole.calls _ _ l3_0 a3_1 a3_2 a3_3 t255 t258 t259 t260 _ ?side1 ?side2 A9.out).mono ?_
   (case side1 => repeat (first|exact (Kd.C_below HR3_0.out HB.out)|(with_reducible refine aH ?_ _)|(with_reducible refine aG ?_ _)|(with_reducible refine aI ?_)))
   (case side2 => exact HC3_0.out)
   rintro e w13 ⟨v256,rfl,ho0,hb⟩
   refine ⟨_,rfl,?_⟩
   have n0_:=aK (aV (by (with_reducible repeat (first|apply vA|apply vN|apply vD));exact HO0_0.out) (aJ ho0) hb)
   have n1_:=aK (aV (by (with_reducible repeat (first|apply vA|apply vN|apply vD));exact HO1_0.out) (aJ ho0) hb)
   have n2_:=aK (aL (Kd.R_newM (M:=fun k_ => (w.heap.size ≤ k_)) ho0 (aZ (by repeat (first|(with_reducible first|exact HB.out|apply aA|apply aW|apply aD|refine aS ?_ E252.out|refine aS ?_ E253.out|refine aS ?_ E254.out)|exact HB.out))) (fun k_ h_ => h_)) (aZ (by repeat (first|(with_reducible first|exact HB.out|apply aA|apply aW|apply aD|refine aS ?_ E252.out|refine aS ?_ E253.out|refine aS ?_ E254.out)|exact HB.out))))
   have n3_:=aK (aB (g:=gb252) (o:=.cells #[.slice A0_0 l0_0.length c0_0,.int .u64 a0_1,.int .u64 a0_2,.int .u64 a0_3] 25 (0,0)) (by (with_reducible repeat (first|apply bN|apply bD|apply bA));exact B252.out) hb)
   have n4_:=aK (aB (g:=gb253) (o:=.cells #[.slice A1_0 l1_0.length c1_0,.int .u64 a1_1,.int .u64 a1_2,.int .u64 a1_3] 25 (0,0)) (by (with_reducible repeat (first|apply bN|apply bD|apply bA));exact B253.out) hb)
   have n5_:=aK (aB (g:=gb254) (o:=.cells #[.slice A3_0 l3_0.length c3_0,.int .u64 a3_1,.int .u64 a3_2,.int .u64 a3_3] 28 (0,0)) (by (with_reducible repeat (first|apply bN|apply bD|apply bA));exact B254.out) hb)
   have n6_:=aK (aT (by repeat (first|(with_reducible first|exact HB.out|apply aA|apply aW|apply aD|refine aS ?_ E252.out|refine aS ?_ E253.out|refine aS ?_ E254.out)|exact HB.out)) hb)
   clear HO0_0
   clear HO1_0
   clear B252
   clear B253
   clear B254
   clear HB
   have HO0_0:=n0_
   have HO1_0:=n1_
   have O257:=n2_
   have B252:=n3_
   have B253:=n4_
   have B254:=n5_
   have HB:=n6_
   clear n0_ n1_ n2_ n3_ n4_ n5_ n6_
   (try clear hb)
   (try clear hb2)
   (try clear hk)
   (try clear hi)
   (try clear ho0)
   obtain ⟨Ao14,co14,eo14⟩:=Kd.R_slice O257.out
   (first|subst eo14|(injection eo14 with f1_ f2_ f3_;have f4_:=f1_.symm;have f5_:=f3_.symm;clear f1_ f2_ f3_;subst f4_;subst f5_))
   refine hK.out _ _ ⟨(aC B252.out 0).trans rfl,(aC B252.out 1).trans rfl,(aC B252.out 2).trans rfl,(aC B252.out 3).trans rfl,(aC B253.out 0).trans rfl,(aC B253.out 1).trans rfl,(aC B253.out 2).trans rfl,(aC B253.out 3).trans rfl,(aC B254.out 0).trans rfl,(aC B254.out 1).trans rfl,(aC B254.out 2).trans rfl,(aC B254.out 3).trans rfl⟩ (fun hHeld => ?_)
   clear hK K
   refine norm_ (a':=?_) ?_ ?_
   rotate_left
   ·show Act.put _ (some 24) _ = _
    simp only [Act.put,sA,sZ,sS,i64_w,i32_w]
    rfl
   refine one_ (i:=4) (N:=some 25) #[tt,tt,tt,tt,tt,ff,ff,ff,ff,ff,ff,ff] rfl rfl (one_of HT_.out (by kernel_rfl)) (by decide) (fun K hK => ?_)
   refine Kd.N_lit_step k25 _ 25 ?hg (N':=25) ?hd (xs:=([(⟨l0_0,a0_1,a0_2,a0_3⟩ : S25),(⟨l1_0,a1_1,a1_2,a1_3⟩ : S25),(⟨t255,t258,t259,t260⟩ : S25)] : List (S25))) (inner:=[.slice A0_0 l0_0.length c0_0,.int .u64 a0_1,.int .u64 a0_2,.int .u64 a0_3,.slice A1_0 l1_0.length c1_0,.int .u64 a1_1,.int .u64 a1_2,.int .u64 a1_3,.slice Ao14 t255.length co14,.int .u64 t258,.int .u64 t259,.int .u64 t260]) (ok:=(fun k_ => ((P0_0_ k_ ∨ P1_0_ k_) ∨ w.heap.size ≤ k_) ∧ k_ ≠ gb252 ∧ k_ ≠ gb253 ∧ k_ ≠ gb254)) (okp:=(fun k_ => ((P0_0_ k_ ∨ P1_0_ k_) ∨ w.heap.size ≤ k_) ∧ k_ ≠ gb252 ∧ k_ ≠ gb253 ∧ k_ ≠ gb254)) ?hr ?hp (fun _ hk => hk) ((show ∀ k_,w13.heap.size ≤ k_ → (fun k_ => ((P0_0_ k_ ∨ P1_0_ k_) ∨ w.heap.size ≤ k_) ∧ k_ ≠ gb252 ∧ k_ ≠ gb253 ∧ k_ ≠ gb254) k_ from fun k_ hk => ⟨(.inr (Nat.le_trans (aZ (by repeat (first|(with_reducible first|exact HB.out|apply aA|apply aW|apply aD|refine aS ?_ E252.out|refine aS ?_ E253.out|refine aS ?_ E254.out)|exact HB.out))) hk)),Kd.freshB (g:=gb252) (o:=.cells #[.slice A0_0 l0_0.length c0_0,.int .u64 a0_1,.int .u64 a0_2,.int .u64 a0_3] 25 (0,0)) (by (with_reducible repeat (first|apply bN|apply bD|apply bA));exact B252.out) k_ hk,Kd.freshB (g:=gb253) (o:=.cells #[.slice A1_0 l1_0.length c1_0,.int .u64 a1_1,.int .u64 a1_2,.int .u64 a1_3] 25 (0,0)) (by (with_reducible repeat (first|apply bN|apply bD|apply bA));exact B253.out) k_ hk,Kd.freshB (g:=gb254) (o:=.cells #[.slice A3_0 l3_0.length c3_0,.int .u64 a3_1,.int .u64 a3_2,.int .u64 a3_3] 28 (0,0)) (by (with_reducible repeat (first|apply bN|apply bD|apply bA));exact B254.out) k_ hk⟩) _ (Nat.le_refl _)) (Below.refl _ _) (Nat.le_refl _) (by simp) ?_;(case hd => rfl);(case hg => rfl);(case hr => first|(go_simp;done)|(go_simp;rfl));(case hp => exact (Reps.c4 (show Kd.FK k25 _ _ (⟨l0_0,a0_1,a0_2,a0_3⟩ : S25) [.slice A0_0 l0_0.length c0_0,.int .u64 a0_1,.int .u64 a0_2,.int .u64 a0_3] from (k25_mkF _ _ (⟨l0_0,a0_1,a0_2,a0_3⟩ : S25) (aO (aN (ok':=(fun k_ => ((P0_0_ k_ ∨ P1_0_ k_) ∨ w.heap.size ≤ k_) ∧ k_ ≠ gb252 ∧ k_ ≠ gb253 ∧ k_ ≠ gb254)) (HO0_0.out) (fun k_ hk => ⟨hk.1.1.1.1,⟨hk.1.1.1.2,⟨hk.1.1.2,hk.1.2⟩⟩⟩))).2.1 (Kd.V_F (aN (ok':=(fun k_ => ((P0_0_ k_ ∨ P1_0_ k_) ∨ w.heap.size ≤ k_) ∧ k_ ≠ gb252 ∧ k_ ≠ gb253 ∧ k_ ≠ gb254)) (HO0_0.out) (fun k_ hk => ⟨hk.1.1.1.1,⟨hk.1.1.1.2,⟨hk.1.1.2,hk.1.2⟩⟩⟩))))) (Reps.c4 (show Kd.FK k25 _ _ (⟨l1_0,a1_1,a1_2,a1_3⟩ : S25) [.slice A1_0 l1_0.length c1_0,.int .u64 a1_1,.int .u64 a1_2,.int .u64 a1_3] from (k25_mkF _ _ (⟨l1_0,a1_1,a1_2,a1_3⟩ : S25) (aO (aN (ok':=(fun k_ => ((P0_0_ k_ ∨ P1_0_ k_) ∨ w.heap.size ≤ k_) ∧ k_ ≠ gb252 ∧ k_ ≠ gb253 ∧ k_ ≠ gb254)) (HO1_0.out) (fun k_ hk => ⟨hk.1.1.1.1,⟨hk.1.1.1.2,⟨hk.1.1.2,hk.1.2⟩⟩⟩))).2.1 (Kd.V_F (aN (ok':=(fun k_ => ((P0_0_ k_ ∨ P1_0_ k_) ∨ w.heap.size ≤ k_) ∧ k_ ≠ gb252 ∧ k_ ≠ gb253 ∧ k_ ≠ gb254)) (HO1_0.out) (fun k_ hk => ⟨hk.1.1.1.1,⟨hk.1.1.1.2,⟨hk.1.1.2,hk.1.2⟩⟩⟩))))) (Reps.c4 (show Kd.FK k25 _ _ (⟨t255,t258,t259,t260⟩ : S25) [.slice Ao14 t255.length co14,.int .u64 t258,.int .u64 t259,.int .u64 t260] from (k25_mkF _ _ (⟨t255,t258,t259,t260⟩ : S25) (aQ (aM (ok':=(fun k_ => ((P0_0_ k_ ∨ P1_0_ k_) ∨ w.heap.size ≤ k_) ∧ k_ ≠ gb252 ∧ k_ ≠ gb253 ∧ k_ ≠ gb254)) (aP (aP (aP (O257.out) B252.out (by decide)) B253.out (by decide)) B254.out (by decide)) (fun k_ hk => ⟨(.inr (hk.1.1.1.1)),⟨hk.1.1.2,⟨hk.1.2,hk.2⟩⟩⟩))).2.1 (Kd.R_F (aM (ok':=(fun k_ => ((P0_0_ k_ ∨ P1_0_ k_) ∨ w.heap.size ≤ k_) ∧ k_ ≠ gb252 ∧ k_ ≠ gb253 ∧ k_ ≠ gb254)) (aP (aP (aP (O257.out) B252.out (by decide)) B253.out (by decide)) B254.out (by decide)) (fun k_ hk => ⟨(.inr (hk.1.1.1.1)),⟨hk.1.1.2,⟨hk.1.2,hk.2⟩⟩⟩))))) (Reps.none _ _)))))
   intro v262 w15 ho16 hb hg_ hnew_
   clear hg_ hnew_
   (first|rw [← Ny261.out] at ho16|(simp only [Int.reduceToNat] at ho16;rw [← Ny261.out] at ho16))
   have n0_:=aK (aV (by (with_reducible repeat (first|apply vA|apply vN|apply vD));exact HO0_0.out) (Kd.N_base ho16) hb)
   have n1_:=aK (aV (by (with_reducible repeat (first|apply vA|apply vN|apply vD));exact HO1_0.out) (Kd.N_base ho16) hb)
   have n2_:=aK (Kd.N_lower ho16 (aZ (by repeat (first|(with_reducible first|exact HB.out|apply aA|apply aW|apply aD|refine aS ?_ E252.out|refine aS ?_ E253.out|refine aS ?_ E254.out)|exact HB.out))))
   have n3_:=aK (aB (g:=gb252) (o:=.cells #[.slice A0_0 l0_0.length c0_0,.int .u64 a0_1,.int .u64 a0_2,.int .u64 a0_3] 25 (0,0)) (by (with_reducible repeat (first|apply bN|apply bD|apply bA));exact B252.out) hb)
   have n4_:=aK (aB (g:=gb253) (o:=.cells #[.slice A1_0 l1_0.length c1_0,.int .u64 a1_1,.int .u64 a1_2,.int .u64 a1_3] 25 (0,0)) (by (with_reducible repeat (first|apply bN|apply bD|apply bA));exact B253.out) hb)
   have n5_:=aK (aB (g:=gb254) (o:=.cells #[.slice A3_0 l3_0.length c3_0,.int .u64 a3_1,.int .u64 a3_2,.int .u64 a3_3] 28 (0,0)) (by (with_reducible repeat (first|apply bN|apply bD|apply bA));exact B254.out) hb)
   have n6_:=aK (aT (by repeat (first|(with_reducible first|exact HB.out|apply aA|apply aW|apply aD|refine aS ?_ E252.out|refine aS ?_ E253.out|refine aS ?_ E254.out)|exact HB.out)) hb)
   clear HO0_0
   clear HO1_0
   clear B252
   clear B253
   clear B254
   clear HB
   clear O257
   have HO0_0:=n0_
   have HO1_0:=n1_
   have O263:=n2_
   have B252:=n3_
   have B253:=n4_
   have B254:=n5_
   have HB:=n6_
   clear n0_ n1_ n2_ n3_ n4_ n5_ n6_
   clear hb ho16
   obtain ⟨Ao17,co17,eo17⟩:=Kd.N_slice O263.out
   (first|subst eo17|(injection eo17 with f1_ f2_ f3_;have f4_:=f1_.symm;have f5_:=f3_.symm;clear f1_ f2_ f3_;subst f4_;subst f5_))
   refine hK.out _ _ ⟨(aC B252.out 0).trans rfl,(aC B252.out 1).trans rfl,(aC B252.out 2).trans rfl,(aC B252.out 3).trans rfl,(aC B253.out 0).trans rfl,(aC B253.out 1).trans rfl,(aC B253.out 2).trans rfl,(aC B253.out 3).trans rfl,(aC B254.out 0).trans rfl,(aC B254.out 1).trans rfl,(aC B254.out 2).trans rfl,(aC B254.out 3).trans rfl⟩ (fun hHeld => ?_)
   clear hK K
   refine norm_ (a':=?_) ?_ ?_
   rotate_left
   ·show Act.put _ (some 25) _ = _
    simp only [Act.put,sA,sZ,sS,i64_w,i32_w]
    rfl
   refine one_ (i:=5) (N:=some 26) #[tt,tt,tt,tt,tt,tt,ff,ff,ff,ff,ff,ff] rfl rfl (one_of HT_.out (by kernel_rfl)) (by decide) (fun K hK => ?_)
   refine goes_ Try.func8 (by kernel_rfl) rfl #[.slice Ao17 y261.length co17] (by rfl) rfl rfl (by (try simp only [List.map_toArray,List.map_cons,List.map_nil]);first|done|rfl|(simp only [List.length_drop,List.length_take];rfl)) ?_
   with_reducible refine (ratlinelaw09_Few.calls k _ _ y261 true _ ?side1 ?side2 A10.out).mono ?_
   (case side1 => repeat (first|exact (Kd.N_reads' O263.out).2.2|(with_reducible refine aH ?_ _)|(with_reducible refine aG ?_ _)|(with_reducible refine aI ?_)))
   (case side2 => exact (Kd.N_reads' O263.out).2.1)
   rintro e w18 ⟨rfl,hb⟩
   refine ⟨_,rfl,?_⟩
   have n0_:=aK (Kd.V_below (by (with_reducible repeat (first|apply vA|apply vN|apply vD));exact HO0_0.out) hb)
   have n1_:=aK (Kd.V_below (by (with_reducible repeat (first|apply vA|apply vN|apply vD));exact HO1_0.out) hb)
   have n2_:=aK (Kd.N_below (by (with_reducible repeat (first|apply nA|apply nN|apply nD));exact O263.out) hb)
   have n3_:=aK (aB (g:=gb252) (o:=.cells #[.slice A0_0 l0_0.length c0_0,.int .u64 a0_1,.int .u64 a0_2,.int .u64 a0_3] 25 (0,0)) (by (with_reducible repeat (first|apply bN|apply bD|apply bA));exact B252.out) hb)
   have n4_:=aK (aB (g:=gb253) (o:=.cells #[.slice A1_0 l1_0.length c1_0,.int .u64 a1_1,.int .u64 a1_2,.int .u64 a1_3] 25 (0,0)) (by (with_reducible repeat (first|apply bN|apply bD|apply bA));exact B253.out) hb)
   have n5_:=aK (aB (g:=gb254) (o:=.cells #[.slice A3_0 l3_0.length c3_0,.int .u64 a3_1,.int .u64 a3_2,.int .u64 a3_3] 28 (0,0)) (by (with_reducible repeat (first|apply bN|apply bD|apply bA));exact B254.out) hb)
   have n6_:=aK (aT (by repeat (first|(with_reducible first|exact HB.out|apply aA|apply aW|apply aD|refine aS ?_ E252.out|refine aS ?_ E253.out|refine aS ?_ E254.out)|exact HB.out)) hb)
   clear HO0_0
   clear HO1_0
   clear O263
   clear B252
   clear B253
   clear B254
   clear HB
   have HO0_0:=n0_
   have HO1_0:=n1_
   have O263:=n2_
   have B252:=n3_
   have B253:=n4_
   have B254:=n5_
   have HB:=n6_
   clear n0_ n1_ n2_ n3_ n4_ n5_ n6_
   (try clear hb)
   (try clear hb2)
   (try clear hk)
   (try clear hi)
   refine hK.out _ _ ⟨(aC B252.out 0).trans rfl,(aC B252.out 1).trans rfl,(aC B252.out 2).trans rfl,(aC B252.out 3).trans rfl,(aC B253.out 0).trans rfl,(aC B253.out 1).trans rfl,(aC B253.out 2).trans rfl,(aC B253.out 3).trans rfl,(aC B254.out 0).trans rfl,(aC B254.out 1).trans rfl,(aC B254.out 2).trans rfl,(aC B254.out 3).trans rfl⟩ (fun hHeld => ?_)
   clear hK K
   refine norm_ (a':=?_) ?_ ?_
   rotate_left
   ·show Act.put _ (some 26) _ = _
    simp only [Act.put,sA,sZ,sS,i64_w,i32_w]
    rfl
   refine pure_ (i:=6) (N:=some 27) (v:=?_) (a':=?_) #[tt,tt,tt,tt,tt,tt,tt,ff,ff,ff,ff,ff] rfl rfl (any_of HT_.out (by kernel_rfl)) (fun _ _ _ h => h) (Or.inl ⟨by rfl,?_⟩) ?_ ?_
   rotate_left
   ·intro w'
    go_simp
    with_reducible rfl
   rotate_left
   ·simp only [Act.put,sA,sZ,sS,i64_w,i32_w]
    rfl
   refine pure_ (i:=7) (N:=some 28) (v:=?_) (a':=?_) #[tt,tt,tt,tt,tt,tt,tt,tt,ff,ff,ff,ff] rfl rfl (any_of HT_.out (by kernel_rfl)) (fun _ _ _ h => h) (Or.inl ⟨by rfl,?_⟩) ?_ ?_
   rotate_left
   ·intro w'
    go_simp
    with_reducible rfl
   rotate_left
   ·simp only [Act.put,sA,sZ,sS,i64_w,i32_w]
    rfl
   refine pure_ (i:=8) (N:=some 29) (v:=?_) (a':=?_) #[tt,tt,tt,tt,tt,tt,tt,tt,tt,ff,ff,ff] rfl rfl (any_of HT_.out (by kernel_rfl)) (fun _ _ _ h => h) (Or.inl ⟨by rfl,?_⟩) ?_ ?_
   rotate_left
   ·intro w'
    go_simp
    with_reducible rfl
   rotate_left
   ·simp only [Act.put,sA,sZ,sS,i64_w,i32_w]
    rfl
   refine pure_ (i:=9) (N:=some 30) (v:=?_) (a':=?_) #[tt,tt,tt,tt,tt,tt,tt,tt,tt,tt,ff,ff] rfl rfl (any_of HT_.out (by kernel_rfl)) (fun _ _ _ h => h) (Or.inl ⟨by rfl,?_⟩) ?_ ?_
   rotate_left
   ·intro w'
    go_simp
    with_reducible rfl
   rotate_left
   ·simp only [Act.put,sA,sZ,sS,i64_w,i32_w]
    rfl
   refine pure_ (i:=10) (N:=some 31) (v:=?_) (a':=?_) #[tt,tt,tt,tt,tt,tt,tt,tt,tt,tt,tt,ff] rfl rfl (any_of HT_.out (by kernel_rfl)) (fun _ _ _ h => h) (Or.inl ⟨by rfl,?_⟩) ?_ ?_
   rotate_left
   ·intro w'
    go_simp
    with_reducible rfl
   rotate_left
   ·simp only [Act.put,sA,sZ,sS,i64_w,i32_w]
    rfl
   refine pure_ (i:=11) (N:=some 32) (v:=?_) (a':=?_) #[tt,tt,tt,tt,tt,tt,tt,tt,tt,tt,tt,tt] rfl rfl (any_of HT_.out (by kernel_rfl)) (fun _ _ _ h => h) (Or.inl ⟨by rfl,?_⟩) ?_ ?_
   rotate_left
   ·intro w'
    go_simp
    with_reducible rfl
   rotate_left
   ·simp only [Act.put,sA,sZ,sS,i64_w,i32_w]
    rfl
   refine done_ (done_of HT_.out (by kernel_rfl)) ?_
   try go_wp2
   go_meet
   case rel => exact ⟨_,(decide ((l2.length : Int) > 600)),(by first|rfl|(simp;done)|(simp [*];done)),H',⟨by first|omega|exact Nat.le_refl _⟩,⟨by (with_reducible repeat (first|apply vA|apply vN|apply vD));exact aN HO0_0.out (fun _ hk => ⟨hk.1.1.1.1.1,⟨hk.1.1.1.1.2,⟨hk.1.1.1.2,hk.1.1.2⟩⟩⟩)⟩,⟨by (with_reducible repeat (first|apply vA|apply vN|apply vD));exact aN HO1_0.out (fun _ hk => ⟨hk.1.1.1.1.1,⟨hk.1.1.1.1.2,⟨hk.1.1.1.2,hk.1.1.2⟩⟩⟩)⟩,⟨by (with_reducible repeat (first|apply bN|apply bD|apply bA));exact B252.out⟩,⟨by (with_reducible repeat (first|apply bN|apply bD|apply bA));exact B253.out⟩,⟨by (with_reducible repeat (first|apply bN|apply bD|apply bA));exact B254.out⟩,⟨by repeat (first|(with_reducible first|exact HB.out|apply aA|apply aW|apply aD|refine aS ?_ E252.out|refine aS ?_ E253.out|refine aS ?_ E254.out)|exact HB.out)⟩⟩
  ·replace c11:=Bool.eq_false_iff.mpr c11
   subst c11
   have H1 : (j0 k l2 true l0_0 a0_1 a0_2 a0_3 l1_0 a1_1 a1_2 a1_3 l3_0 a3_1 a3_2 a3_3) = some r:=by rw [if_neg (show ¬ (false = true) by decide)] at H;exact H
   clear H
   have H:=H1
   clear H1
   have H':=aK H
   clear H
   try go_wp2
   have n0_:=aK (Kd.V_drew HO0_0.out)
   have n1_:=aK (Kd.V_drew HO1_0.out)
   have n2_:=aK (blk_drew B252.out)
   have n3_:=aK (blk_drew B253.out)
   have n4_:=aK (blk_drew B254.out)
   have n5_:=aK (aD HB.out)
   clear HO0_0
   clear HO1_0
   clear B252
   clear B253
   clear B254
   clear HB
   have HO0_0:=n0_
   have HO1_0:=n1_
   have B252:=n2_
   have B253:=n3_
   have B254:=n4_
   have HB:=n5_
   clear n0_ n1_ n2_ n3_ n4_ n5_
   refine start_ (n:=12) (S:=fun w' => w'.cell? ⟨gb252,0,none⟩ = some (.slice A0_0 l0_0.length c0_0) ∧ w'.cell? ⟨gb252,1,none⟩ = some (.int .u64 a0_1) ∧ w'.cell? ⟨gb252,2,none⟩ = some (.int .u64 a0_2) ∧ w'.cell? ⟨gb252,3,none⟩ = some (.int .u64 a0_3) ∧ w'.cell? ⟨gb253,0,none⟩ = some (.slice A1_0 l1_0.length c1_0) ∧ w'.cell? ⟨gb253,1,none⟩ = some (.int .u64 a1_1) ∧ w'.cell? ⟨gb253,2,none⟩ = some (.int .u64 a1_2) ∧ w'.cell? ⟨gb253,3,none⟩ = some (.int .u64 a1_3) ∧ w'.cell? ⟨gb254,0,none⟩ = some (.slice A3_0 l3_0.length c3_0) ∧ w'.cell? ⟨gb254,1,none⟩ = some (.int .u64 a3_1) ∧ w'.cell? ⟨gb254,2,none⟩ = some (.int .u64 a3_2) ∧ w'.cell? ⟨gb254,3,none⟩ = some (.int .u64 a3_3)) (ds:=[]) #[ff,ff,ff,ff,ff,ff,ff,ff,ff,ff,ff,ff] (by kernel_rfl) rfl rfl ⟨(aC B252.out 0).trans rfl,(aC B252.out 1).trans rfl,(aC B252.out 2).trans rfl,(aC B252.out 3).trans rfl,(aC B253.out 0).trans rfl,(aC B253.out 1).trans rfl,(aC B253.out 2).trans rfl,(aC B253.out 3).trans rfl,(aC B254.out 0).trans rfl,(aC B254.out 1).trans rfl,(aC B254.out 2).trans rfl,(aC B254.out 3).trans rfl⟩ (fun hHeld => ?_);refine with_tabW tab1 bits1 (fun HT_ HW_ => ?_)
   generalize w8.drew = w19 at HO0_0 HO1_0 B252 B253 B254 HB hHeld ⊢
   refine take_ (i:=0) (N:=some 21) (v:=?_) (a':=?_) #[tt,ff,ff,ff,ff,ff,ff,ff,ff,ff,ff,ff] rfl rfl (take_ofW HT_.out HW_.out (by kernel_rfl)) (fun _ _ _ h => h) (Or.inl ⟨by rfl,?_⟩) hHeld ?_ ?_
   rotate_left
   ·rintro w' ⟨s0,s1,s2,s3,s4,s5,s6,s7,s8,s9,s10,s11⟩
    go_simp
    with_reducible rfl
   rotate_left
   ·simp only [Act.put,sA,sZ,sS,i64_w,i32_w]
    rfl
   refine take_ (i:=1) (N:=some 22) (v:=?_) (a':=?_) #[tt,tt,ff,ff,ff,ff,ff,ff,ff,ff,ff,ff] rfl rfl (take_ofW HT_.out HW_.out (by kernel_rfl)) (fun _ _ _ h => h) (Or.inl ⟨by rfl,?_⟩) hHeld ?_ ?_
   rotate_left
   ·rintro w' ⟨s0,s1,s2,s3,s4,s5,s6,s7,s8,s9,s10,s11⟩
    go_simp
    with_reducible rfl
   rotate_left
   ·simp only [Act.put,sA,sZ,sS,i64_w,i32_w]
    rfl
   refine take_ (i:=2) (N:=some 23) (v:=?_) (a':=?_) #[tt,tt,tt,ff,ff,ff,ff,ff,ff,ff,ff,ff] rfl rfl (take_ofW HT_.out HW_.out (by kernel_rfl)) (fun _ _ _ h => h) (Or.inl ⟨by rfl,?_⟩) hHeld ?_ ?_
   rotate_left
   ·rintro w' ⟨s0,s1,s2,s3,s4,s5,s6,s7,s8,s9,s10,s11⟩
    go_simp
    with_reducible rfl
   rotate_left
   ·simp only [Act.put,sA,sZ,sS,i64_w,i32_w]
    rfl
   refine one_ (i:=3) (N:=some 24) #[tt,tt,tt,tt,ff,ff,ff,ff,ff,ff,ff,ff] rfl rfl (one_of HT_.out (by kernel_rfl)) (by decide) (fun K hK => ?_)
   refine goes_ Try.func9 (by kernel_rfl) rfl #[.agg #[.slice A3_0 l3_0.length c3_0,.int .u64 a3_1,.int .u64 a3_2,.int .u64 a3_3]] (by rfl) rfl rfl (by (try simp only [List.map_toArray,List.map_cons,List.map_nil]);first|done|rfl|(simp only [List.length_drop,List.length_take];rfl)) ?_
   with_reducible refine (ratlineref09_Whole.calls _ _ l3_0 a3_1 a3_2 a3_3 t255 t258 t259 t260 _ ?side1 ?side2 A9.out).mono ?_
   (case side1 => repeat (first|exact (Kd.C_below HR3_0.out HB.out)|(with_reducible refine aH ?_ _)|(with_reducible refine aG ?_ _)|(with_reducible refine aI ?_)))
   (case side2 => exact HC3_0.out)
   rintro e w20 ⟨v256,rfl,ho0,hb⟩
   refine ⟨_,rfl,?_⟩
   have n0_:=aK (aV (by (with_reducible repeat (first|apply vA|apply vN|apply vD));exact HO0_0.out) (aJ ho0) hb)
   have n1_:=aK (aV (by (with_reducible repeat (first|apply vA|apply vN|apply vD));exact HO1_0.out) (aJ ho0) hb)
   have n2_:=aK (aL (Kd.R_newM (M:=fun k_ => (w.heap.size ≤ k_)) ho0 (aZ (by repeat (first|(with_reducible first|exact HB.out|apply aA|apply aW|apply aD|refine aS ?_ E252.out|refine aS ?_ E253.out|refine aS ?_ E254.out)|exact HB.out))) (fun k_ h_ => h_)) (aZ (by repeat (first|(with_reducible first|exact HB.out|apply aA|apply aW|apply aD|refine aS ?_ E252.out|refine aS ?_ E253.out|refine aS ?_ E254.out)|exact HB.out))))
   have n3_:=aK (aB (g:=gb252) (o:=.cells #[.slice A0_0 l0_0.length c0_0,.int .u64 a0_1,.int .u64 a0_2,.int .u64 a0_3] 25 (0,0)) (by (with_reducible repeat (first|apply bN|apply bD|apply bA));exact B252.out) hb)
   have n4_:=aK (aB (g:=gb253) (o:=.cells #[.slice A1_0 l1_0.length c1_0,.int .u64 a1_1,.int .u64 a1_2,.int .u64 a1_3] 25 (0,0)) (by (with_reducible repeat (first|apply bN|apply bD|apply bA));exact B253.out) hb)
   have n5_:=aK (aB (g:=gb254) (o:=.cells #[.slice A3_0 l3_0.length c3_0,.int .u64 a3_1,.int .u64 a3_2,.int .u64 a3_3] 28 (0,0)) (by (with_reducible repeat (first|apply bN|apply bD|apply bA));exact B254.out) hb)
   have n6_:=aK (aT (by repeat (first|(with_reducible first|exact HB.out|apply aA|apply aW|apply aD|refine aS ?_ E252.out|refine aS ?_ E253.out|refine aS ?_ E254.out)|exact HB.out)) hb)
   clear HO0_0
   clear HO1_0
   clear B252
   clear B253
   clear B254
   clear HB
   have HO0_0:=n0_
   have HO1_0:=n1_
   have O257:=n2_
   have B252:=n3_
   have B253:=n4_
   have B254:=n5_
   have HB:=n6_
   clear n0_ n1_ n2_ n3_ n4_ n5_ n6_
   (try clear hb)
   (try clear hb2)
   (try clear hk)
   (try clear hi)
   (try clear ho0)
   obtain ⟨Ao21,co21,eo21⟩:=Kd.R_slice O257.out
   (first|subst eo21|(injection eo21 with f1_ f2_ f3_;have f4_:=f1_.symm;have f5_:=f3_.symm;clear f1_ f2_ f3_;subst f4_;subst f5_))
   refine hK.out _ _ ⟨(aC B252.out 0).trans rfl,(aC B252.out 1).trans rfl,(aC B252.out 2).trans rfl,(aC B252.out 3).trans rfl,(aC B253.out 0).trans rfl,(aC B253.out 1).trans rfl,(aC B253.out 2).trans rfl,(aC B253.out 3).trans rfl,(aC B254.out 0).trans rfl,(aC B254.out 1).trans rfl,(aC B254.out 2).trans rfl,(aC B254.out 3).trans rfl⟩ (fun hHeld => ?_)
   clear hK K
   refine norm_ (a':=?_) ?_ ?_
   rotate_left
   ·show Act.put _ (some 24) _ = _
    simp only [Act.put,sA,sZ,sS,i64_w,i32_w]
    rfl
   refine one_ (i:=4) (N:=some 25) #[tt,tt,tt,tt,tt,ff,ff,ff,ff,ff,ff,ff] rfl rfl (one_of HT_.out (by kernel_rfl)) (by decide) (fun K hK => ?_)
   refine Kd.N_lit_step k25 _ 25 ?hg (N':=25) ?hd (xs:=([(⟨l0_0,a0_1,a0_2,a0_3⟩ : S25),(⟨l1_0,a1_1,a1_2,a1_3⟩ : S25),(⟨t255,t258,t259,t260⟩ : S25)] : List (S25))) (inner:=[.slice A0_0 l0_0.length c0_0,.int .u64 a0_1,.int .u64 a0_2,.int .u64 a0_3,.slice A1_0 l1_0.length c1_0,.int .u64 a1_1,.int .u64 a1_2,.int .u64 a1_3,.slice Ao21 t255.length co21,.int .u64 t258,.int .u64 t259,.int .u64 t260]) (ok:=(fun k_ => ((P0_0_ k_ ∨ P1_0_ k_) ∨ w.heap.size ≤ k_) ∧ k_ ≠ gb252 ∧ k_ ≠ gb253 ∧ k_ ≠ gb254)) (okp:=(fun k_ => ((P0_0_ k_ ∨ P1_0_ k_) ∨ w.heap.size ≤ k_) ∧ k_ ≠ gb252 ∧ k_ ≠ gb253 ∧ k_ ≠ gb254)) ?hr ?hp (fun _ hk => hk) ((show ∀ k_,w20.heap.size ≤ k_ → (fun k_ => ((P0_0_ k_ ∨ P1_0_ k_) ∨ w.heap.size ≤ k_) ∧ k_ ≠ gb252 ∧ k_ ≠ gb253 ∧ k_ ≠ gb254) k_ from fun k_ hk => ⟨(.inr (Nat.le_trans (aZ (by repeat (first|(with_reducible first|exact HB.out|apply aA|apply aW|apply aD|refine aS ?_ E252.out|refine aS ?_ E253.out|refine aS ?_ E254.out)|exact HB.out))) hk)),Kd.freshB (g:=gb252) (o:=.cells #[.slice A0_0 l0_0.length c0_0,.int .u64 a0_1,.int .u64 a0_2,.int .u64 a0_3] 25 (0,0)) (by (with_reducible repeat (first|apply bN|apply bD|apply bA));exact B252.out) k_ hk,Kd.freshB (g:=gb253) (o:=.cells #[.slice A1_0 l1_0.length c1_0,.int .u64 a1_1,.int .u64 a1_2,.int .u64 a1_3] 25 (0,0)) (by (with_reducible repeat (first|apply bN|apply bD|apply bA));exact B253.out) k_ hk,Kd.freshB (g:=gb254) (o:=.cells #[.slice A3_0 l3_0.length c3_0,.int .u64 a3_1,.int .u64 a3_2,.int .u64 a3_3] 28 (0,0)) (by (with_reducible repeat (first|apply bN|apply bD|apply bA));exact B254.out) k_ hk⟩) _ (Nat.le_refl _)) (Below.refl _ _) (Nat.le_refl _) (by simp) ?_;(case hd => rfl);(case hg => rfl);(case hr => first|(go_simp;done)|(go_simp;rfl));(case hp => exact (Reps.c4 (show Kd.FK k25 _ _ (⟨l0_0,a0_1,a0_2,a0_3⟩ : S25) [.slice A0_0 l0_0.length c0_0,.int .u64 a0_1,.int .u64 a0_2,.int .u64 a0_3] from (k25_mkF _ _ (⟨l0_0,a0_1,a0_2,a0_3⟩ : S25) (aO (aN (ok':=(fun k_ => ((P0_0_ k_ ∨ P1_0_ k_) ∨ w.heap.size ≤ k_) ∧ k_ ≠ gb252 ∧ k_ ≠ gb253 ∧ k_ ≠ gb254)) (HO0_0.out) (fun k_ hk => ⟨hk.1.1.1.1,⟨hk.1.1.1.2,⟨hk.1.1.2,hk.1.2⟩⟩⟩))).2.1 (Kd.V_F (aN (ok':=(fun k_ => ((P0_0_ k_ ∨ P1_0_ k_) ∨ w.heap.size ≤ k_) ∧ k_ ≠ gb252 ∧ k_ ≠ gb253 ∧ k_ ≠ gb254)) (HO0_0.out) (fun k_ hk => ⟨hk.1.1.1.1,⟨hk.1.1.1.2,⟨hk.1.1.2,hk.1.2⟩⟩⟩))))) (Reps.c4 (show Kd.FK k25 _ _ (⟨l1_0,a1_1,a1_2,a1_3⟩ : S25) [.slice A1_0 l1_0.length c1_0,.int .u64 a1_1,.int .u64 a1_2,.int .u64 a1_3] from (k25_mkF _ _ (⟨l1_0,a1_1,a1_2,a1_3⟩ : S25) (aO (aN (ok':=(fun k_ => ((P0_0_ k_ ∨ P1_0_ k_) ∨ w.heap.size ≤ k_) ∧ k_ ≠ gb252 ∧ k_ ≠ gb253 ∧ k_ ≠ gb254)) (HO1_0.out) (fun k_ hk => ⟨hk.1.1.1.1,⟨hk.1.1.1.2,⟨hk.1.1.2,hk.1.2⟩⟩⟩))).2.1 (Kd.V_F (aN (ok':=(fun k_ => ((P0_0_ k_ ∨ P1_0_ k_) ∨ w.heap.size ≤ k_) ∧ k_ ≠ gb252 ∧ k_ ≠ gb253 ∧ k_ ≠ gb254)) (HO1_0.out) (fun k_ hk => ⟨hk.1.1.1.1,⟨hk.1.1.1.2,⟨hk.1.1.2,hk.1.2⟩⟩⟩))))) (Reps.c4 (show Kd.FK k25 _ _ (⟨t255,t258,t259,t260⟩ : S25) [.slice Ao21 t255.length co21,.int .u64 t258,.int .u64 t259,.int .u64 t260] from (k25_mkF _ _ (⟨t255,t258,t259,t260⟩ : S25) (aQ (aM (ok':=(fun k_ => ((P0_0_ k_ ∨ P1_0_ k_) ∨ w.heap.size ≤ k_) ∧ k_ ≠ gb252 ∧ k_ ≠ gb253 ∧ k_ ≠ gb254)) (aP (aP (aP (O257.out) B252.out (by decide)) B253.out (by decide)) B254.out (by decide)) (fun k_ hk => ⟨(.inr (hk.1.1.1.1)),⟨hk.1.1.2,⟨hk.1.2,hk.2⟩⟩⟩))).2.1 (Kd.R_F (aM (ok':=(fun k_ => ((P0_0_ k_ ∨ P1_0_ k_) ∨ w.heap.size ≤ k_) ∧ k_ ≠ gb252 ∧ k_ ≠ gb253 ∧ k_ ≠ gb254)) (aP (aP (aP (O257.out) B252.out (by decide)) B253.out (by decide)) B254.out (by decide)) (fun k_ hk => ⟨(.inr (hk.1.1.1.1)),⟨hk.1.1.2,⟨hk.1.2,hk.2⟩⟩⟩))))) (Reps.none _ _)))))
   intro v262 w22 ho23 hb hg_ hnew_
   clear hg_ hnew_
   (first|rw [← Ny261.out] at ho23|(simp only [Int.reduceToNat] at ho23;rw [← Ny261.out] at ho23))
   have n0_:=aK (aV (by (with_reducible repeat (first|apply vA|apply vN|apply vD));exact HO0_0.out) (Kd.N_base ho23) hb)
   have n1_:=aK (aV (by (with_reducible repeat (first|apply vA|apply vN|apply vD));exact HO1_0.out) (Kd.N_base ho23) hb)
   have n2_:=aK (Kd.N_lower ho23 (aZ (by repeat (first|(with_reducible first|exact HB.out|apply aA|apply aW|apply aD|refine aS ?_ E252.out|refine aS ?_ E253.out|refine aS ?_ E254.out)|exact HB.out))))
   have n3_:=aK (aB (g:=gb252) (o:=.cells #[.slice A0_0 l0_0.length c0_0,.int .u64 a0_1,.int .u64 a0_2,.int .u64 a0_3] 25 (0,0)) (by (with_reducible repeat (first|apply bN|apply bD|apply bA));exact B252.out) hb)
   have n4_:=aK (aB (g:=gb253) (o:=.cells #[.slice A1_0 l1_0.length c1_0,.int .u64 a1_1,.int .u64 a1_2,.int .u64 a1_3] 25 (0,0)) (by (with_reducible repeat (first|apply bN|apply bD|apply bA));exact B253.out) hb)
   have n5_:=aK (aB (g:=gb254) (o:=.cells #[.slice A3_0 l3_0.length c3_0,.int .u64 a3_1,.int .u64 a3_2,.int .u64 a3_3] 28 (0,0)) (by (with_reducible repeat (first|apply bN|apply bD|apply bA));exact B254.out) hb)
   have n6_:=aK (aT (by repeat (first|(with_reducible first|exact HB.out|apply aA|apply aW|apply aD|refine aS ?_ E252.out|refine aS ?_ E253.out|refine aS ?_ E254.out)|exact HB.out)) hb)
   clear HO0_0
   clear HO1_0
   clear B252
   clear B253
   clear B254
   clear HB
   clear O257
   have HO0_0:=n0_
   have HO1_0:=n1_
   have O263:=n2_
   have B252:=n3_
   have B253:=n4_
   have B254:=n5_
   have HB:=n6_
   clear n0_ n1_ n2_ n3_ n4_ n5_ n6_
   clear hb ho23
   obtain ⟨Ao24,co24,eo24⟩:=Kd.N_slice O263.out
   (first|subst eo24|(injection eo24 with f1_ f2_ f3_;have f4_:=f1_.symm;have f5_:=f3_.symm;clear f1_ f2_ f3_;subst f4_;subst f5_))
   refine hK.out _ _ ⟨(aC B252.out 0).trans rfl,(aC B252.out 1).trans rfl,(aC B252.out 2).trans rfl,(aC B252.out 3).trans rfl,(aC B253.out 0).trans rfl,(aC B253.out 1).trans rfl,(aC B253.out 2).trans rfl,(aC B253.out 3).trans rfl,(aC B254.out 0).trans rfl,(aC B254.out 1).trans rfl,(aC B254.out 2).trans rfl,(aC B254.out 3).trans rfl⟩ (fun hHeld => ?_)
   clear hK K
   refine norm_ (a':=?_) ?_ ?_
   rotate_left
   ·show Act.put _ (some 25) _ = _
    simp only [Act.put,sA,sZ,sS,i64_w,i32_w]
    rfl
   refine one_ (i:=5) (N:=some 26) #[tt,tt,tt,tt,tt,tt,ff,ff,ff,ff,ff,ff] rfl rfl (one_of HT_.out (by kernel_rfl)) (by decide) (fun K hK => ?_)
   refine goes_ Try.func8 (by kernel_rfl) rfl #[.slice Ao24 y261.length co24] (by rfl) rfl rfl (by (try simp only [List.map_toArray,List.map_cons,List.map_nil]);first|done|rfl|(simp only [List.length_drop,List.length_take];rfl)) ?_
   with_reducible refine (ratlinelaw09_Few.calls k _ _ y261 false _ ?side1 ?side2 A10.out).mono ?_
   (case side1 => repeat (first|exact (Kd.N_reads' O263.out).2.2|(with_reducible refine aH ?_ _)|(with_reducible refine aG ?_ _)|(with_reducible refine aI ?_)))
   (case side2 => exact (Kd.N_reads' O263.out).2.1)
   rintro e w25 ⟨rfl,hb⟩
   refine ⟨_,rfl,?_⟩
   have n0_:=aK (Kd.V_below (by (with_reducible repeat (first|apply vA|apply vN|apply vD));exact HO0_0.out) hb)
   have n1_:=aK (Kd.V_below (by (with_reducible repeat (first|apply vA|apply vN|apply vD));exact HO1_0.out) hb)
   have n2_:=aK (Kd.N_below (by (with_reducible repeat (first|apply nA|apply nN|apply nD));exact O263.out) hb)
   have n3_:=aK (aB (g:=gb252) (o:=.cells #[.slice A0_0 l0_0.length c0_0,.int .u64 a0_1,.int .u64 a0_2,.int .u64 a0_3] 25 (0,0)) (by (with_reducible repeat (first|apply bN|apply bD|apply bA));exact B252.out) hb)
   have n4_:=aK (aB (g:=gb253) (o:=.cells #[.slice A1_0 l1_0.length c1_0,.int .u64 a1_1,.int .u64 a1_2,.int .u64 a1_3] 25 (0,0)) (by (with_reducible repeat (first|apply bN|apply bD|apply bA));exact B253.out) hb)
   have n5_:=aK (aB (g:=gb254) (o:=.cells #[.slice A3_0 l3_0.length c3_0,.int .u64 a3_1,.int .u64 a3_2,.int .u64 a3_3] 28 (0,0)) (by (with_reducible repeat (first|apply bN|apply bD|apply bA));exact B254.out) hb)
   have n6_:=aK (aT (by repeat (first|(with_reducible first|exact HB.out|apply aA|apply aW|apply aD|refine aS ?_ E252.out|refine aS ?_ E253.out|refine aS ?_ E254.out)|exact HB.out)) hb)
   clear HO0_0
   clear HO1_0
   clear O263
   clear B252
   clear B253
   clear B254
   clear HB
   have HO0_0:=n0_
   have HO1_0:=n1_
   have O263:=n2_
   have B252:=n3_
   have B253:=n4_
   have B254:=n5_
   have HB:=n6_
   clear n0_ n1_ n2_ n3_ n4_ n5_ n6_
   (try clear hb)
   (try clear hb2)
   (try clear hk)
   (try clear hi)
   refine hK.out _ _ ⟨(aC B252.out 0).trans rfl,(aC B252.out 1).trans rfl,(aC B252.out 2).trans rfl,(aC B252.out 3).trans rfl,(aC B253.out 0).trans rfl,(aC B253.out 1).trans rfl,(aC B253.out 2).trans rfl,(aC B253.out 3).trans rfl,(aC B254.out 0).trans rfl,(aC B254.out 1).trans rfl,(aC B254.out 2).trans rfl,(aC B254.out 3).trans rfl⟩ (fun hHeld => ?_)
   clear hK K
   refine norm_ (a':=?_) ?_ ?_
   rotate_left
   ·show Act.put _ (some 26) _ = _
    simp only [Act.put,sA,sZ,sS,i64_w,i32_w]
    rfl
   refine pure_ (i:=6) (N:=some 27) (v:=?_) (a':=?_) #[tt,tt,tt,tt,tt,tt,tt,ff,ff,ff,ff,ff] rfl rfl (any_of HT_.out (by kernel_rfl)) (fun _ _ _ h => h) (Or.inl ⟨by rfl,?_⟩) ?_ ?_
   rotate_left
   ·intro w'
    go_simp
    with_reducible rfl
   rotate_left
   ·simp only [Act.put,sA,sZ,sS,i64_w,i32_w]
    rfl
   refine pure_ (i:=7) (N:=some 28) (v:=?_) (a':=?_) #[tt,tt,tt,tt,tt,tt,tt,tt,ff,ff,ff,ff] rfl rfl (any_of HT_.out (by kernel_rfl)) (fun _ _ _ h => h) (Or.inl ⟨by rfl,?_⟩) ?_ ?_
   rotate_left
   ·intro w'
    go_simp
    with_reducible rfl
   rotate_left
   ·simp only [Act.put,sA,sZ,sS,i64_w,i32_w]
    rfl
   refine pure_ (i:=8) (N:=some 29) (v:=undef) (a':=?_) #[tt,tt,tt,tt,tt,tt,tt,tt,tt,ff,ff,ff] rfl rfl (any_of HT_.out (by kernel_rfl)) (fun _ _ _ h => h) (Or.inr ⟨by rfl,rfl⟩) ?_ ?_
   rotate_left
   ·simp only [Act.put,sA,sZ,sS,i64_w,i32_w]
    rfl
   refine pure_ (i:=9) (N:=some 30) (v:=undef) (a':=?_) #[tt,tt,tt,tt,tt,tt,tt,tt,tt,tt,ff,ff] rfl rfl (any_of HT_.out (by kernel_rfl)) (fun _ _ _ h => h) (Or.inr ⟨by rfl,rfl⟩) ?_ ?_
   rotate_left
   ·simp only [Act.put,sA,sZ,sS,i64_w,i32_w]
    rfl
   refine pure_ (i:=10) (N:=some 31) (v:=undef) (a':=?_) #[tt,tt,tt,tt,tt,tt,tt,tt,tt,tt,tt,ff] rfl rfl (any_of HT_.out (by kernel_rfl)) (fun _ _ _ h => h) (Or.inr ⟨by rfl,rfl⟩) ?_ ?_
   rotate_left
   ·simp only [Act.put,sA,sZ,sS,i64_w,i32_w]
    rfl
   refine pure_ (i:=11) (N:=some 32) (v:=?_) (a':=?_) #[tt,tt,tt,tt,tt,tt,tt,tt,tt,tt,tt,tt] rfl rfl (any_of HT_.out (by kernel_rfl)) (fun _ _ _ h => h) (Or.inl ⟨by rfl,?_⟩) ?_ ?_
   rotate_left
   ·intro w'
    go_simp
    with_reducible rfl
   rotate_left
   ·simp only [Act.put,sA,sZ,sS,i64_w,i32_w]
    rfl
   refine done_ (done_of HT_.out (by kernel_rfl)) ?_
   try go_wp2
   go_meet
   case rel => exact ⟨_,(true),(by first|rfl|(simp;done)|(simp [*];done)),H',⟨by first|omega|exact Nat.le_refl _⟩,⟨by (with_reducible repeat (first|apply vA|apply vN|apply vD));exact aN HO0_0.out (fun _ hk => ⟨hk.1.1.1.1.1,⟨hk.1.1.1.1.2,⟨hk.1.1.1.2,hk.1.1.2⟩⟩⟩)⟩,⟨by (with_reducible repeat (first|apply vA|apply vN|apply vD));exact aN HO1_0.out (fun _ hk => ⟨hk.1.1.1.1.1,⟨hk.1.1.1.1.2,⟨hk.1.1.1.2,hk.1.1.2⟩⟩⟩)⟩,⟨by (with_reducible repeat (first|apply bN|apply bD|apply bA));exact B252.out⟩,⟨by (with_reducible repeat (first|apply bN|apply bD|apply bA));exact B253.out⟩,⟨by (with_reducible repeat (first|apply bN|apply bD|apply bA));exact B254.out⟩,⟨by repeat (first|(with_reducible first|exact HB.out|apply aA|apply aW|apply aD|refine aS ?_ E252.out|refine aS ?_ E253.out|refine aS ?_ E254.out)|exact HB.out)⟩⟩
 case rest =>
  clear HC5
  try clear c2 p2
  obtain ⟨kq,x32_4,rfl,HA,HJ4,HO_253000,HO_254000,B252,B253,B254,HB⟩:=hcut
  cases kq with
  | zero => exact absurd HA.out (by simp [j0])
  | succ kj4 =>
   have H:=HA.out
   clear HA
   simp only [j0] at H
   by_cases c26 : x32_4 = true
   ·subst c26
    have H1 : ((ratlinelaw09_awake.f).bind fun t265 => (some t265)) = some r:=by rw [if_pos rfl] at H;exact H
    clear H
    have H:=H1
    clear H1
    replace H:=Option.bind_eq_some_iff.mp H
    obtain ⟨t265,A270,H⟩:=H
    replace H : (some t265) = some r:=H
    have A27:=aK A270
    clear A270
    obtain rfl:=Option.some.inj H
    go_wp2_with (first|(go_at_call 10;(with_reducible refine (ratlinelaw09_awake.calls  t265 _ A27.out).mono ?_);rintro e w28 ⟨rfl,hb⟩;have n0_:=aK (Kd.V_below (by (with_reducible repeat (first|apply vA|apply vN|apply vD));exact HO_253000.out) hb);have n1_:=aK (Kd.V_below (by (with_reducible repeat (first|apply vA|apply vN|apply vD));exact HO_254000.out) hb);have n2_:=aK (aB (g:=gb252) (o:=.cells #[.slice A0_0 l0_0.length c0_0,.int .u64 a0_1,.int .u64 a0_2,.int .u64 a0_3] 25 (0,0)) (by (with_reducible repeat (first|apply bN|apply bD|apply bA));exact B252.out) hb);have n3_:=aK (aB (g:=gb253) (o:=.cells #[.slice A1_0 l1_0.length c1_0,.int .u64 a1_1,.int .u64 a1_2,.int .u64 a1_3] 25 (0,0)) (by (with_reducible repeat (first|apply bN|apply bD|apply bA));exact B253.out) hb);have n4_:=aK (aB (g:=gb254) (o:=.cells #[.slice A3_0 l3_0.length c3_0,.int .u64 a3_1,.int .u64 a3_2,.int .u64 a3_3] 28 (0,0)) (by (with_reducible repeat (first|apply bN|apply bD|apply bA));exact B254.out) hb);have n5_:=aK (aT (by repeat (first|(with_reducible first|exact HB.out|apply aA|apply aW|apply aD|refine aS ?_ E252.out|refine aS ?_ E253.out|refine aS ?_ E254.out)|exact HB.out)) hb);clear HO_253000;clear HO_254000;clear B252;clear B253;clear B254;clear HB;have HO_253000:=n0_;have HO_254000:=n1_;have B252:=n2_;have B253:=n3_;have B254:=n4_;have HB:=n5_;clear n0_ n1_ n2_ n3_ n4_ n5_;(try clear hb);skip;(try apply_assumption)))
    go_ret
    exact ⟨by first|rfl|(simp [errW_none,errW_some] <;> rfl)|(simp [*,errW_none,errW_some] <;> rfl),by repeat (first|(with_reducible first|exact HB.out|apply aA|apply aW|apply aD|refine aS ?_ E252.out|refine aS ?_ E253.out|refine aS ?_ E254.out)|exact HB.out)⟩
   ·replace c26:=Bool.eq_false_iff.mpr c26
    subst c26
    have H1 : ((edit_Bytes.f l0_0 a0_1 a0_2 a0_3).bind fun bt266 => ((ratlineref09_Bytes.f l0_0 a0_1 a0_2 a0_3).bind fun bt270 => ((edit_Parse.f l2).bind fun bt274 => ((ratlineref09_Parse.f l2).bind fun bt282 => ((edit_Apply.f l3_0 a3_1 a3_2 a3_3 l0_0 a0_1 a0_2 a0_3).bind fun bt290 => ((ratlineref09_Apply.f kj4 l3_0 a3_1 a3_2 a3_3 l0_0 a0_1 a0_2 a0_3).bind fun bt298 => ((edit_Right.f kj4 l0_0 a0_1 a0_2 a0_3).bind fun t306 => ((ratlineref09_Right.f kj4 l0_0 a0_1 a0_2 a0_3).bind fun t307 => (if (t306 != t307) = true then (j1 kj4 bt290.2.2.2.2 bt298.2.2.2.2 true l3_0 a3_1 a3_2 a3_3 bt290.1 bt290.2.1 bt290.2.2.1 bt290.2.2.2.1 bt298.1 bt298.2.1 bt298.2.2.1 bt298.2.2.2.1) else ((edit_Same.f kj4 l0_0 a0_1 a0_2 a0_3 l1_0 a1_1 a1_2 a1_3).bind fun t308 => ((ratlineref09_Same.f kj4 l0_0 a0_1 a0_2 a0_3 l1_0 a1_1 a1_2 a1_3).bind fun t309 => (if (t308 != t309) = true then (j1 kj4 bt290.2.2.2.2 bt298.2.2.2.2 true l3_0 a3_1 a3_2 a3_3 bt290.1 bt290.2.1 bt290.2.2.1 bt290.2.2.2.1 bt298.1 bt298.2.1 bt298.2.2.1 bt298.2.2.2.1) else ((ratlinelaw02_Same.f bt266.1 bt270.1).bind fun t310 => (if t310 = true then (if bt266.2 = bt270.2 then ((ratlineref09_Same.f kj4 bt274.1 bt274.2.1 bt274.2.2.1 bt274.2.2.2.1 bt282.1 bt282.2.1 bt282.2.2.1 bt282.2.2.2.1).bind fun t311 => (if t311 = true then (j1 kj4 bt290.2.2.2.2 bt298.2.2.2.2 (bt274.2.2.2.2 != bt282.2.2.2.2) l3_0 a3_1 a3_2 a3_3 bt290.1 bt290.2.1 bt290.2.2.1 bt290.2.2.2.1 bt298.1 bt298.2.1 bt298.2.2.1 bt298.2.2.2.1) else (j1 kj4 bt290.2.2.2.2 bt298.2.2.2.2 true l3_0 a3_1 a3_2 a3_3 bt290.1 bt290.2.1 bt290.2.2.1 bt290.2.2.2.1 bt298.1 bt298.2.1 bt298.2.2.1 bt298.2.2.2.1))) else (j1 kj4 bt290.2.2.2.2 bt298.2.2.2.2 true l3_0 a3_1 a3_2 a3_3 bt290.1 bt290.2.1 bt290.2.2.1 bt290.2.2.2.1 bt298.1 bt298.2.1 bt298.2.2.1 bt298.2.2.2.1)) else (j1 kj4 bt290.2.2.2.2 bt298.2.2.2.2 true l3_0 a3_1 a3_2 a3_3 bt290.1 bt290.2.1 bt290.2.2.1 bt290.2.2.2.1 bt298.1 bt298.2.1 bt298.2.2.1 bt298.2.2.2.1))))))))))))))) = some r:=by rw [if_neg (show ¬ (false = true) by decide)] at H;exact H
    clear H
    have H:=H1
    clear H1
    replace H:=Option.bind_eq_some_iff.mp H
    obtain ⟨⟨t266,t269⟩,A290,H⟩:=H
    have A29:=aK A290
    clear A290
    replace H:=Option.bind_eq_some_iff.mp H
    obtain ⟨⟨t270,t273⟩,A300,H⟩:=H
    have A30:=aK A300
    clear A300
    replace H:=Option.bind_eq_some_iff.mp H
    obtain ⟨⟨t274,t277,t278,t279,t280⟩,A310,H⟩:=H
    have A31:=aK A310
    clear A310
    replace H:=Option.bind_eq_some_iff.mp H
    obtain ⟨⟨t282,t285,t286,t287,t288⟩,A320,H⟩:=H
    have A32:=aK A320
    clear A320
    replace H:=Option.bind_eq_some_iff.mp H
    obtain ⟨⟨t290,t293,t294,t295,t296⟩,A330,H⟩:=H
    have A33:=aK A330
    clear A330
    replace H:=Option.bind_eq_some_iff.mp H
    obtain ⟨⟨t298,t301,t302,t303,t304⟩,A340,H⟩:=H
    have A34:=aK A340
    clear A340
    have HC35:=aK H
    clear H
    have hnb36:=N252_253.out
    have hnc36:=N253_252.out
    have hnb37:=N252_254.out
    have hnc37:=N254_252.out
    have z38_0 : wc.cell? ⟨gb252,0,none⟩ = some (.slice A0_0 l0_0.length c0_0):=(aC B252.out 0).trans rfl
    have z38_1 : wc.cell? ⟨gb252,1,none⟩ = some (.int .u64 a0_1):=(aC B252.out 1).trans rfl
    have z38_2 : wc.cell? ⟨gb252,2,none⟩ = some (.int .u64 a0_2):=(aC B252.out 2).trans rfl
    have z38_3 : wc.cell? ⟨gb252,3,none⟩ = some (.int .u64 a0_3):=(aC B252.out 3).trans rfl
    have f38_0:=aF B252.out 0
    have f38_1:=aF B252.out 1
    have f38_2:=aF B252.out 2
    have f38_3:=aF B252.out 3
    go_upto_region 9 with (first|((with_reducible refine gate_callee (f:=11) rfl ?_);refine goesL_ (some 36) rfl rfl Try.func11 (by kernel_rfl) rfl #[.agg #[.slice A0_0 l0_0.length c0_0,.int .u64 a0_1,.int .u64 a0_2,.int .u64 a0_3]] rfl (by (try simp only [List.map_toArray,List.map_cons,List.map_nil]);first|done|rfl|(simp only [List.length_drop,List.length_take];rfl)) ?_;(with_reducible refine (edit_Bytes.calls _ _ l0_0 a0_1 a0_2 a0_3 t266 t269 _ ?side1 ?side2 A29.out).mono ?_);(case side1 => repeat (first|exact (aO HO_253000.out).2.2|(with_reducible refine aH ?_ _)|(with_reducible refine aG ?_ _)|(with_reducible refine aI ?_)));(case side2 => exact (aO HO_253000.out).2.1);rintro e w39 ⟨v267,rfl,ho0,hb⟩;refine ⟨_,rfl,?_⟩;have n0_:=aK (aV (by (with_reducible repeat (first|apply vA|apply vN|apply vD));exact HO_253000.out) (aJ ho0) hb);have n1_:=aK (aV (by (with_reducible repeat (first|apply vA|apply vN|apply vD));exact HO_254000.out) (aJ ho0) hb);have n2_:=aK (aL (Kd.R_newM (M:=fun k_ => (w.heap.size ≤ k_)) ho0 (aZ (by repeat (first|(with_reducible first|exact HB.out|apply aA|apply aW|apply aD|refine aS ?_ E252.out|refine aS ?_ E253.out|refine aS ?_ E254.out)|exact HB.out))) (fun k_ h_ => h_)) (aZ (by repeat (first|(with_reducible first|exact HB.out|apply aA|apply aW|apply aD|refine aS ?_ E252.out|refine aS ?_ E253.out|refine aS ?_ E254.out)|exact HB.out))));have n3_:=aK (aB (g:=gb252) (o:=.cells #[.slice A0_0 l0_0.length c0_0,.int .u64 a0_1,.int .u64 a0_2,.int .u64 a0_3] 25 (0,0)) (by (with_reducible repeat (first|apply bN|apply bD|apply bA));exact B252.out) hb);have n4_:=aK (aB (g:=gb253) (o:=.cells #[.slice A1_0 l1_0.length c1_0,.int .u64 a1_1,.int .u64 a1_2,.int .u64 a1_3] 25 (0,0)) (by (with_reducible repeat (first|apply bN|apply bD|apply bA));exact B253.out) hb);have n5_:=aK (aB (g:=gb254) (o:=.cells #[.slice A3_0 l3_0.length c3_0,.int .u64 a3_1,.int .u64 a3_2,.int .u64 a3_3] 28 (0,0)) (by (with_reducible repeat (first|apply bN|apply bD|apply bA));exact B254.out) hb);have n6_:=aK (aT (by repeat (first|(with_reducible first|exact HB.out|apply aA|apply aW|apply aD|refine aS ?_ E252.out|refine aS ?_ E253.out|refine aS ?_ E254.out)|exact HB.out)) hb);clear HO_253000;clear HO_254000;clear B252;clear B253;clear B254;clear HB;have HO_253000:=n0_;have HO_254000:=n1_;have O268:=n2_;have B252:=n3_;have B253:=n4_;have B254:=n5_;have HB:=n6_;clear n0_ n1_ n2_ n3_ n4_ n5_ n6_;(try clear hb);skip;(try clear ho0);have z40_0 : w39.cell? ⟨gb252,0,none⟩ = some (.slice A0_0 l0_0.length c0_0):=(aC B252.out 0).trans rfl;have z40_1 : w39.cell? ⟨gb252,1,none⟩ = some (.int .u64 a0_1):=(aC B252.out 1).trans rfl;have z40_2 : w39.cell? ⟨gb252,2,none⟩ = some (.int .u64 a0_2):=(aC B252.out 2).trans rfl;have z40_3 : w39.cell? ⟨gb252,3,none⟩ = some (.int .u64 a0_3):=(aC B252.out 3).trans rfl;have f40_0:=aF B252.out 0;have f40_1:=aF B252.out 1;have f40_2:=aF B252.out 2;have f40_3:=aF B252.out 3)|((with_reducible refine gate_callee (f:=12) rfl ?_);refine goesL_ (some 41) rfl rfl Try.func12 (by kernel_rfl) rfl #[.agg #[.slice A0_0 l0_0.length c0_0,.int .u64 a0_1,.int .u64 a0_2,.int .u64 a0_3]] rfl (by (try simp only [List.map_toArray,List.map_cons,List.map_nil]);first|done|rfl|(simp only [List.length_drop,List.length_take];rfl)) ?_;(with_reducible refine (ratlineref09_Bytes.calls _ _ l0_0 a0_1 a0_2 a0_3 t270 t273 _ ?side1 ?side2 A30.out).mono ?_);(case side1 => repeat (first|exact (aO HO_253000.out).2.2|(with_reducible refine aH ?_ _)|(with_reducible refine aG ?_ _)|(with_reducible refine aI ?_)));(case side2 => exact (aO HO_253000.out).2.1);rintro e w41 ⟨v271,rfl,ho0,hb⟩;refine ⟨_,rfl,?_⟩;have n0_:=aK (aV (by (with_reducible repeat (first|apply vA|apply vN|apply vD));exact HO_253000.out) (aJ ho0) hb);have n1_:=aK (aV (by (with_reducible repeat (first|apply vA|apply vN|apply vD));exact HO_254000.out) (aJ ho0) hb);have n2_:=aK (aR (by (with_reducible repeat (first|apply zA|apply zN|apply zD));exact O268.out) (aJ ho0) hb);have n3_:=aK (aL (Kd.R_new' (Kd.R_newM (M:=fun k_ => (w.heap.size ≤ k_)) ho0 (aZ (by repeat (first|(with_reducible first|exact HB.out|apply aA|apply aW|apply aD|refine aS ?_ E252.out|refine aS ?_ E253.out|refine aS ?_ E254.out)|exact HB.out))) (fun k_ h_ => h_)) (Kd.R_lt (by (with_reducible repeat (first|apply zA|apply zN|apply zD));exact O268.out))) (aZ (by repeat (first|(with_reducible first|exact HB.out|apply aA|apply aW|apply aD|refine aS ?_ E252.out|refine aS ?_ E253.out|refine aS ?_ E254.out)|exact HB.out))));have n4_:=aK (aB (g:=gb252) (o:=.cells #[.slice A0_0 l0_0.length c0_0,.int .u64 a0_1,.int .u64 a0_2,.int .u64 a0_3] 25 (0,0)) (by (with_reducible repeat (first|apply bN|apply bD|apply bA));exact B252.out) hb);have n5_:=aK (aB (g:=gb253) (o:=.cells #[.slice A1_0 l1_0.length c1_0,.int .u64 a1_1,.int .u64 a1_2,.int .u64 a1_3] 25 (0,0)) (by (with_reducible repeat (first|apply bN|apply bD|apply bA));exact B253.out) hb);have n6_:=aK (aB (g:=gb254) (o:=.cells #[.slice A3_0 l3_0.length c3_0,.int .u64 a3_1,.int .u64 a3_2,.int .u64 a3_3] 28 (0,0)) (by (with_reducible repeat (first|apply bN|apply bD|apply bA));exact B254.out) hb);have n7_:=aK (aT (by repeat (first|(with_reducible first|exact HB.out|apply aA|apply aW|apply aD|refine aS ?_ E252.out|refine aS ?_ E253.out|refine aS ?_ E254.out)|exact HB.out)) hb);clear HO_253000;clear HO_254000;clear O268;clear B252;clear B253;clear B254;clear HB;have HO_253000:=n0_;have HO_254000:=n1_;have O268:=n2_;have O272:=n3_;have B252:=n4_;have B253:=n5_;have B254:=n6_;have HB:=n7_;clear n0_ n1_ n2_ n3_ n4_ n5_ n6_ n7_;(try clear hb);skip;(try clear ho0))|((with_reducible refine gate_callee (f:=13) rfl ?_);refine goesL_ (some 46) rfl rfl Try.func13 (by kernel_rfl) rfl #[.slice A2 l2.length c2] rfl (by (try simp only [List.map_toArray,List.map_cons,List.map_nil]);first|done|rfl|(simp only [List.length_drop,List.length_take];rfl)) ?_;(with_reducible refine (edit_Parse.calls _ _ l2 t274 t277 t278 t279 t280 _ ?side1 ?side2 A31.out).mono ?_);(case side1 => repeat (first|exact (Kd.C_below HR2.out HB.out)|(with_reducible refine aH ?_ _)|(with_reducible refine aG ?_ _)|(with_reducible refine aI ?_)));(case side2 => exact HC2.out);rintro e w42 ⟨v275,rfl,ho0,hb⟩;refine ⟨_,rfl,?_⟩;have n0_:=aK (aV (by (with_reducible repeat (first|apply vA|apply vN|apply vD));exact HO_253000.out) (aJ ho0) hb);have n1_:=aK (aV (by (with_reducible repeat (first|apply vA|apply vN|apply vD));exact HO_254000.out) (aJ ho0) hb);have n2_:=aK (Kd.R_below (by (with_reducible repeat (first|apply zA|apply zN|apply zD));exact O268.out) hb);have n3_:=aK (Kd.R_below (by (with_reducible repeat (first|apply zA|apply zN|apply zD));exact O272.out) hb);have n4_:=aK (aL (Kd.R_newM (M:=fun k_ => (w.heap.size ≤ k_)) ho0 (aZ (by repeat (first|(with_reducible first|exact HB.out|apply aA|apply aW|apply aD|refine aS ?_ E252.out|refine aS ?_ E253.out|refine aS ?_ E254.out)|exact HB.out))) (fun k_ h_ => h_)) (aZ (by repeat (first|(with_reducible first|exact HB.out|apply aA|apply aW|apply aD|refine aS ?_ E252.out|refine aS ?_ E253.out|refine aS ?_ E254.out)|exact HB.out))));have n5_:=aK (aB (g:=gb252) (o:=.cells #[.slice A0_0 l0_0.length c0_0,.int .u64 a0_1,.int .u64 a0_2,.int .u64 a0_3] 25 (0,0)) (by (with_reducible repeat (first|apply bN|apply bD|apply bA));exact B252.out) hb);have n6_:=aK (aB (g:=gb253) (o:=.cells #[.slice A1_0 l1_0.length c1_0,.int .u64 a1_1,.int .u64 a1_2,.int .u64 a1_3] 25 (0,0)) (by (with_reducible repeat (first|apply bN|apply bD|apply bA));exact B253.out) hb);have n7_:=aK (aB (g:=gb254) (o:=.cells #[.slice A3_0 l3_0.length c3_0,.int .u64 a3_1,.int .u64 a3_2,.int .u64 a3_3] 28 (0,0)) (by (with_reducible repeat (first|apply bN|apply bD|apply bA));exact B254.out) hb);have n8_:=aK (aT (by repeat (first|(with_reducible first|exact HB.out|apply aA|apply aW|apply aD|refine aS ?_ E252.out|refine aS ?_ E253.out|refine aS ?_ E254.out)|exact HB.out)) hb);clear HO_253000;clear HO_254000;clear O268;clear O272;clear B252;clear B253;clear B254;clear HB;have HO_253000:=n0_;have HO_254000:=n1_;have O268:=n2_;have O272:=n3_;have O276:=n4_;have B252:=n5_;have B253:=n6_;have B254:=n7_;have HB:=n8_;clear n0_ n1_ n2_ n3_ n4_ n5_ n6_ n7_ n8_;(try clear hb);skip;(try clear ho0))|((with_reducible refine gate_dst (N:=13) rfl ?_);(try (refine gate_guard (by rfl) ?_;dsimp only));refine box_event ?hg (N:=13) ?hd (cs:=#[.slice none 0 0,.int .u64 0,.int .u64 0,.int .u64 0]) (t:=25) ?hr ?_;(case hd => rfl);(case hg => rfl);(case hr => first|(go_simp;done)|(go_simp;rfl));intro gb281 hg w43 hbox hb;have n0_:=aK (Kd.V_below (Kd.V_elderB (by (with_reducible repeat (first|apply vA|apply vN|apply vD));exact HO_253000.out) gb281 (Nat.le_of_eq hg.symm)) hb);have n1_:=aK (Kd.V_below (Kd.V_elderB (by (with_reducible repeat (first|apply vA|apply vN|apply vD));exact HO_254000.out) gb281 (Nat.le_of_eq hg.symm)) hb);have n2_:=aK (Kd.R_below (by (with_reducible repeat (first|apply zA|apply zN|apply zD));exact O268.out) hb);have n3_:=aK (Kd.R_below (by (with_reducible repeat (first|apply zA|apply zN|apply zD));exact O272.out) hb);have n4_:=aK (Kd.R_below (by (with_reducible repeat (first|apply zA|apply zN|apply zD));exact O276.out) hb);have n5_:=aK (aB (g:=gb252) (o:=.cells #[.slice A0_0 l0_0.length c0_0,.int .u64 a0_1,.int .u64 a0_2,.int .u64 a0_3] 25 (0,0)) (by (with_reducible repeat (first|apply bN|apply bD|apply bA));exact B252.out) hb);have n6_:=aK (aB (g:=gb253) (o:=.cells #[.slice A1_0 l1_0.length c1_0,.int .u64 a1_1,.int .u64 a1_2,.int .u64 a1_3] 25 (0,0)) (by (with_reducible repeat (first|apply bN|apply bD|apply bA));exact B253.out) hb);have n7_:=aK (aB (g:=gb254) (o:=.cells #[.slice A3_0 l3_0.length c3_0,.int .u64 a3_1,.int .u64 a3_2,.int .u64 a3_3] 28 (0,0)) (by (with_reducible repeat (first|apply bN|apply bD|apply bA));exact B254.out) hb);have n8_:=aK (aT (by repeat (first|(with_reducible first|exact HB.out|apply aA|apply aW|apply aD|refine aS ?_ E252.out|refine aS ?_ E253.out|refine aS ?_ E254.out)|exact HB.out)) hb);have n9_:=aK (hbox);have n10_:=aK ((by rw [hg];exact (aZ (by repeat (first|(with_reducible first|exact HB.out|apply aA|apply aW|apply aD|refine aS ?_ E252.out|refine aS ?_ E253.out|refine aS ?_ E254.out)|exact HB.out))) : w.heap.size ≤ gb281));have n11_:=aK ((by rw [hg];exact (aZ (by repeat (first|(with_reducible first|exact HB.out|apply aA|apply aW|apply aD|refine aS ?_ E252.out|refine aS ?_ E253.out|refine aS ?_ E254.out)|exact HB.out))) : w.heap.size ≤ gb281));have n12_:=aK ((by rw [hg];exact Nat.ne_of_lt (blk_lt (g:=gb252) (o:=.cells #[.slice A0_0 l0_0.length c0_0,.int .u64 a0_1,.int .u64 a0_2,.int .u64 a0_3] 25 (0,0)) (by (with_reducible repeat (first|apply bN|apply bD|apply bA));exact B252.out)) : gb252 ≠ gb281));have n13_:=aK ((by rw [hg];exact Nat.ne_of_gt (blk_lt (g:=gb252) (o:=.cells #[.slice A0_0 l0_0.length c0_0,.int .u64 a0_1,.int .u64 a0_2,.int .u64 a0_3] 25 (0,0)) (by (with_reducible repeat (first|apply bN|apply bD|apply bA));exact B252.out)) : gb281 ≠ gb252));have n14_:=aK ((by rw [hg];exact Nat.ne_of_lt (blk_lt (g:=gb253) (o:=.cells #[.slice A1_0 l1_0.length c1_0,.int .u64 a1_1,.int .u64 a1_2,.int .u64 a1_3] 25 (0,0)) (by (with_reducible repeat (first|apply bN|apply bD|apply bA));exact B253.out)) : gb253 ≠ gb281));have n15_:=aK ((by rw [hg];exact Nat.ne_of_gt (blk_lt (g:=gb253) (o:=.cells #[.slice A1_0 l1_0.length c1_0,.int .u64 a1_1,.int .u64 a1_2,.int .u64 a1_3] 25 (0,0)) (by (with_reducible repeat (first|apply bN|apply bD|apply bA));exact B253.out)) : gb281 ≠ gb253));have n16_:=aK ((by rw [hg];exact Nat.ne_of_lt (blk_lt (g:=gb254) (o:=.cells #[.slice A3_0 l3_0.length c3_0,.int .u64 a3_1,.int .u64 a3_2,.int .u64 a3_3] 28 (0,0)) (by (with_reducible repeat (first|apply bN|apply bD|apply bA));exact B254.out)) : gb254 ≠ gb281));have n17_:=aK ((by rw [hg];exact Nat.ne_of_gt (blk_lt (g:=gb254) (o:=.cells #[.slice A3_0 l3_0.length c3_0,.int .u64 a3_1,.int .u64 a3_2,.int .u64 a3_3] 28 (0,0)) (by (with_reducible repeat (first|apply bN|apply bD|apply bA));exact B254.out)) : gb281 ≠ gb254));clear HO_253000;clear HO_254000;clear O268;clear O272;clear O276;clear B252;clear B253;clear B254;clear HB;have HO_253000:=n0_;have HO_254000:=n1_;have O268:=n2_;have O272:=n3_;have O276:=n4_;have B252:=n5_;have B253:=n6_;have B254:=n7_;have HB:=n8_;have B281:=n9_;have W281:=n10_;have E281:=n11_;have N252_281:=n12_;have N281_252:=n13_;have N253_281:=n14_;have N281_253:=n15_;have N254_281:=n16_;have N281_254:=n17_;clear n0_ n1_ n2_ n3_ n4_ n5_ n6_ n7_ n8_ n9_ n10_ n11_ n12_ n13_ n14_ n15_ n16_ n17_;clear hb hbox hg;obtain ⟨Ao44,co44,eo44⟩:=Kd.R_slice O276.out;subst eo44;have hnb45:=N281_252.out;have hnc45:=N252_281.out;have hnb46:=N281_253.out;have hnc46:=N253_281.out;have hnb47:=N281_254.out;have hnc47:=N254_281.out;have z48_0 : w43.cell? ⟨gb281,0,none⟩ = some (.slice none 0 0):=(aC B281.out 0).trans rfl;have z48_1 : w43.cell? ⟨gb281,1,none⟩ = some (.int .u64 0):=(aC B281.out 1).trans rfl;have z48_2 : w43.cell? ⟨gb281,2,none⟩ = some (.int .u64 0):=(aC B281.out 2).trans rfl;have z48_3 : w43.cell? ⟨gb281,3,none⟩ = some (.int .u64 0):=(aC B281.out 3).trans rfl;have f48_0:=aF B281.out 0;have f48_1:=aF B281.out 1;have f48_2:=aF B281.out 2;have f48_3:=aF B281.out 3)|((with_reducible refine gate_callee (f:=14) rfl ?_);refine goesL_ (some 51) rfl rfl Try.func14 (by kernel_rfl) rfl #[.slice A2 l2.length c2] rfl (by (try simp only [List.map_toArray,List.map_cons,List.map_nil]);first|done|rfl|(simp only [List.length_drop,List.length_take];rfl)) ?_;(with_reducible refine (ratlineref09_Parse.calls _ _ l2 t282 t285 t286 t287 t288 _ ?side1 ?side2 A32.out).mono ?_);(case side1 => exact Kd.C_below HR2.out (by repeat (first|(with_reducible first|exact HB.out|apply aA|apply aW|apply aD|refine aS ?_ E252.out|refine aS ?_ E253.out|refine aS ?_ E254.out|refine aS ?_ E281.out)|exact HB.out)));(case side2 => exact HC2.out);rintro e w49 ⟨v283,rfl,ho0,hb⟩;refine ⟨_,rfl,?_⟩;have n0_:=aK (aV (by (with_reducible repeat (first|apply vA|apply vN|apply vD));exact (aN (aU (p:=⟨gb281,3,none⟩) (aU (p:=⟨gb281,2,none⟩) (aU (p:=⟨gb281,1,none⟩) (aU (p:=⟨gb281,0,none⟩) (aN HO_253000.out (fun k_ hk => (⟨hk,hk.2⟩ : _ ∧ k_ ≠ gb281))) (fun _ hk => hk.2) (.slice Ao44 t274.length co44)) (fun _ hk => hk.2) (.int .u64 t277)) (fun _ hk => hk.2) (.int .u64 t278)) (fun _ hk => hk.2) (.int .u64 t279)) (fun _ h_ => h_.1))) (aJ ho0) hb);have n1_:=aK (aV (by (with_reducible repeat (first|apply vA|apply vN|apply vD));exact (aN (aU (p:=⟨gb281,3,none⟩) (aU (p:=⟨gb281,2,none⟩) (aU (p:=⟨gb281,1,none⟩) (aU (p:=⟨gb281,0,none⟩) (aN HO_254000.out (fun k_ hk => (⟨hk,hk.2⟩ : _ ∧ k_ ≠ gb281))) (fun _ hk => hk.2) (.slice Ao44 t274.length co44)) (fun _ hk => hk.2) (.int .u64 t277)) (fun _ hk => hk.2) (.int .u64 t278)) (fun _ hk => hk.2) (.int .u64 t279)) (fun _ h_ => h_.1))) (aJ ho0) hb);have n2_:=aK (Kd.R_below (by (with_reducible repeat (first|apply zA|apply zN|apply zD));exact (aM (aY (p:=⟨gb281,3,none⟩) (aY (p:=⟨gb281,2,none⟩) (aY (p:=⟨gb281,1,none⟩) (aY (p:=⟨gb281,0,none⟩) (aP O268.out B281.out (by decide)) (fun _ hk => hk.2) (.slice Ao44 t274.length co44)) (fun _ hk => hk.2) (.int .u64 t277)) (fun _ hk => hk.2) (.int .u64 t278)) (fun _ hk => hk.2) (.int .u64 t279)) (fun _ h_ => h_.1))) hb);have n3_:=aK (Kd.R_below (by (with_reducible repeat (first|apply zA|apply zN|apply zD));exact (aM (aY (p:=⟨gb281,3,none⟩) (aY (p:=⟨gb281,2,none⟩) (aY (p:=⟨gb281,1,none⟩) (aY (p:=⟨gb281,0,none⟩) (aP O272.out B281.out (by decide)) (fun _ hk => hk.2) (.slice Ao44 t274.length co44)) (fun _ hk => hk.2) (.int .u64 t277)) (fun _ hk => hk.2) (.int .u64 t278)) (fun _ hk => hk.2) (.int .u64 t279)) (fun _ h_ => h_.1))) hb);have n4_:=aK (aR (by (with_reducible repeat (first|apply zA|apply zN|apply zD));exact (aM (aY (p:=⟨gb281,3,none⟩) (aY (p:=⟨gb281,2,none⟩) (aY (p:=⟨gb281,1,none⟩) (aY (p:=⟨gb281,0,none⟩) (aP O276.out B281.out (by decide)) (fun _ hk => hk.2) (.slice Ao44 t274.length co44)) (fun _ hk => hk.2) (.int .u64 t277)) (fun _ hk => hk.2) (.int .u64 t278)) (fun _ hk => hk.2) (.int .u64 t279)) (fun _ h_ => h_.1))) (aJ ho0) hb);have n5_:=aK (aL (Kd.R_new' (Kd.R_newM (M:=fun k_ => (w.heap.size ≤ k_)) ho0 (aZ (by repeat (first|(with_reducible first|exact HB.out|apply aA|apply aW|apply aD|refine aS ?_ E252.out|refine aS ?_ E253.out|refine aS ?_ E254.out|refine aS ?_ E281.out)|exact HB.out))) (fun k_ h_ => h_)) (Kd.R_lt (by (with_reducible repeat (first|apply zA|apply zN|apply zD));exact (aM (aY (p:=⟨gb281,3,none⟩) (aY (p:=⟨gb281,2,none⟩) (aY (p:=⟨gb281,1,none⟩) (aY (p:=⟨gb281,0,none⟩) (aP O276.out B281.out (by decide)) (fun _ hk => hk.2) (.slice Ao44 t274.length co44)) (fun _ hk => hk.2) (.int .u64 t277)) (fun _ hk => hk.2) (.int .u64 t278)) (fun _ hk => hk.2) (.int .u64 t279)) (fun _ h_ => h_.1))))) (aZ (by repeat (first|(with_reducible first|exact HB.out|apply aA|apply aW|apply aD|refine aS ?_ E252.out|refine aS ?_ E253.out|refine aS ?_ E254.out|refine aS ?_ E281.out)|exact HB.out))));have n6_:=aK (aB (g:=gb252) (o:=.cells #[.slice A0_0 l0_0.length c0_0,.int .u64 a0_1,.int .u64 a0_2,.int .u64 a0_3] 25 (0,0)) (by (with_reducible repeat (first|apply bN|apply bD|apply bA));refine aX ?_ N252_281.out _;(with_reducible repeat (first|apply bN|apply bD|apply bA));refine aX ?_ N252_281.out _;(with_reducible repeat (first|apply bN|apply bD|apply bA));refine aX ?_ N252_281.out _;(with_reducible repeat (first|apply bN|apply bD|apply bA));refine aX ?_ N252_281.out _;(with_reducible repeat (first|apply bN|apply bD|apply bA));exact B252.out) hb);have n7_:=aK (aB (g:=gb253) (o:=.cells #[.slice A1_0 l1_0.length c1_0,.int .u64 a1_1,.int .u64 a1_2,.int .u64 a1_3] 25 (0,0)) (by (with_reducible repeat (first|apply bN|apply bD|apply bA));refine aX ?_ N253_281.out _;(with_reducible repeat (first|apply bN|apply bD|apply bA));refine aX ?_ N253_281.out _;(with_reducible repeat (first|apply bN|apply bD|apply bA));refine aX ?_ N253_281.out _;(with_reducible repeat (first|apply bN|apply bD|apply bA));refine aX ?_ N253_281.out _;(with_reducible repeat (first|apply bN|apply bD|apply bA));exact B253.out) hb);have n8_:=aK (aB (g:=gb254) (o:=.cells #[.slice A3_0 l3_0.length c3_0,.int .u64 a3_1,.int .u64 a3_2,.int .u64 a3_3] 28 (0,0)) (by (with_reducible repeat (first|apply bN|apply bD|apply bA));refine aX ?_ N254_281.out _;(with_reducible repeat (first|apply bN|apply bD|apply bA));refine aX ?_ N254_281.out _;(with_reducible repeat (first|apply bN|apply bD|apply bA));refine aX ?_ N254_281.out _;(with_reducible repeat (first|apply bN|apply bD|apply bA));refine aX ?_ N254_281.out _;(with_reducible repeat (first|apply bN|apply bD|apply bA));exact B254.out) hb);have n9_:=aK (aB (g:=gb281) (o:=.cells #[.slice Ao44 t274.length co44,.int .u64 t277,.int .u64 t278,.int .u64 t279] 25 (0,0)) (by (with_reducible repeat (first|apply bN|apply bD|apply bA));refine blk_put (cs:=#[.slice Ao44 t274.length co44,.int .u64 t277,.int .u64 t278,.int .u64 0]) ?_ 3 _ rfl;(with_reducible repeat (first|apply bN|apply bD|apply bA));refine blk_put (cs:=#[.slice Ao44 t274.length co44,.int .u64 t277,.int .u64 0,.int .u64 0]) ?_ 2 _ rfl;(with_reducible repeat (first|apply bN|apply bD|apply bA));refine blk_put (cs:=#[.slice Ao44 t274.length co44,.int .u64 0,.int .u64 0,.int .u64 0]) ?_ 1 _ rfl;(with_reducible repeat (first|apply bN|apply bD|apply bA));refine blk_put (cs:=#[.slice none 0 0,.int .u64 0,.int .u64 0,.int .u64 0]) ?_ 0 _ rfl;(with_reducible repeat (first|apply bN|apply bD|apply bA));exact B281.out) hb);have n10_:=aK (aT (by repeat (first|(with_reducible first|exact HB.out|apply aA|apply aW|apply aD|refine aS ?_ E252.out|refine aS ?_ E253.out|refine aS ?_ E254.out|refine aS ?_ E281.out)|exact HB.out)) hb);clear HO_253000;clear HO_254000;clear O268;clear O272;clear O276;clear B252;clear B253;clear B254;clear B281;clear HB;have HO_253000:=n0_;have HO_254000:=n1_;have O268:=n2_;have O272:=n3_;have O276:=n4_;have O284:=n5_;have B252:=n6_;have B253:=n7_;have B254:=n8_;have B281:=n9_;have HB:=n10_;clear n0_ n1_ n2_ n3_ n4_ n5_ n6_ n7_ n8_ n9_ n10_;(try clear hb);skip;(try clear ho0))|((with_reducible refine gate_dst (N:=15) rfl ?_);(try (refine gate_guard (by rfl) ?_;dsimp only));refine box_event ?hg (N:=15) ?hd (cs:=#[.slice none 0 0,.int .u64 0,.int .u64 0,.int .u64 0]) (t:=25) ?hr ?_;(case hd => rfl);(case hg => rfl);(case hr => first|(go_simp;done)|(go_simp;rfl));intro gb289 hg w50 hbox hb;have n0_:=aK (Kd.V_below (Kd.V_elderB (by (with_reducible repeat (first|apply vA|apply vN|apply vD));exact HO_253000.out) gb289 (Nat.le_of_eq hg.symm)) hb);have n1_:=aK (Kd.V_below (Kd.V_elderB (by (with_reducible repeat (first|apply vA|apply vN|apply vD));exact HO_254000.out) gb289 (Nat.le_of_eq hg.symm)) hb);have n2_:=aK (Kd.R_below (by (with_reducible repeat (first|apply zA|apply zN|apply zD));exact O268.out) hb);have n3_:=aK (Kd.R_below (by (with_reducible repeat (first|apply zA|apply zN|apply zD));exact O272.out) hb);have n4_:=aK (Kd.R_below (by (with_reducible repeat (first|apply zA|apply zN|apply zD));exact O276.out) hb);have n5_:=aK (Kd.R_below (by (with_reducible repeat (first|apply zA|apply zN|apply zD));exact O284.out) hb);have n6_:=aK (aB (g:=gb252) (o:=.cells #[.slice A0_0 l0_0.length c0_0,.int .u64 a0_1,.int .u64 a0_2,.int .u64 a0_3] 25 (0,0)) (by (with_reducible repeat (first|apply bN|apply bD|apply bA));exact B252.out) hb);have n7_:=aK (aB (g:=gb253) (o:=.cells #[.slice A1_0 l1_0.length c1_0,.int .u64 a1_1,.int .u64 a1_2,.int .u64 a1_3] 25 (0,0)) (by (with_reducible repeat (first|apply bN|apply bD|apply bA));exact B253.out) hb);have n8_:=aK (aB (g:=gb254) (o:=.cells #[.slice A3_0 l3_0.length c3_0,.int .u64 a3_1,.int .u64 a3_2,.int .u64 a3_3] 28 (0,0)) (by (with_reducible repeat (first|apply bN|apply bD|apply bA));exact B254.out) hb);have n9_:=aK (aB (g:=gb281) (o:=.cells #[.slice Ao44 t274.length co44,.int .u64 t277,.int .u64 t278,.int .u64 t279] 25 (0,0)) (by (with_reducible repeat (first|apply bN|apply bD|apply bA));exact B281.out) hb);have n10_:=aK (aT (by repeat (first|(with_reducible first|exact HB.out|apply aA|apply aW|apply aD|refine aS ?_ E252.out|refine aS ?_ E253.out|refine aS ?_ E254.out|refine aS ?_ E281.out)|exact HB.out)) hb);have n11_:=aK (hbox);have n12_:=aK ((by rw [hg];exact (aZ (by repeat (first|(with_reducible first|exact HB.out|apply aA|apply aW|apply aD|refine aS ?_ E252.out|refine aS ?_ E253.out|refine aS ?_ E254.out|refine aS ?_ E281.out)|exact HB.out))) : w.heap.size ≤ gb289));have n13_:=aK ((by rw [hg];exact (aZ (by repeat (first|(with_reducible first|exact HB.out|apply aA|apply aW|apply aD|refine aS ?_ E252.out|refine aS ?_ E253.out|refine aS ?_ E254.out|refine aS ?_ E281.out)|exact HB.out))) : w.heap.size ≤ gb289));have n14_:=aK ((by rw [hg];exact Nat.ne_of_lt (blk_lt (g:=gb252) (o:=.cells #[.slice A0_0 l0_0.length c0_0,.int .u64 a0_1,.int .u64 a0_2,.int .u64 a0_3] 25 (0,0)) (by (with_reducible repeat (first|apply bN|apply bD|apply bA));exact B252.out)) : gb252 ≠ gb289));have n15_:=aK ((by rw [hg];exact Nat.ne_of_gt (blk_lt (g:=gb252) (o:=.cells #[.slice A0_0 l0_0.length c0_0,.int .u64 a0_1,.int .u64 a0_2,.int .u64 a0_3] 25 (0,0)) (by (with_reducible repeat (first|apply bN|apply bD|apply bA));exact B252.out)) : gb289 ≠ gb252));have n16_:=aK ((by rw [hg];exact Nat.ne_of_lt (blk_lt (g:=gb253) (o:=.cells #[.slice A1_0 l1_0.length c1_0,.int .u64 a1_1,.int .u64 a1_2,.int .u64 a1_3] 25 (0,0)) (by (with_reducible repeat (first|apply bN|apply bD|apply bA));exact B253.out)) : gb253 ≠ gb289));have n17_:=aK ((by rw [hg];exact Nat.ne_of_gt (blk_lt (g:=gb253) (o:=.cells #[.slice A1_0 l1_0.length c1_0,.int .u64 a1_1,.int .u64 a1_2,.int .u64 a1_3] 25 (0,0)) (by (with_reducible repeat (first|apply bN|apply bD|apply bA));exact B253.out)) : gb289 ≠ gb253));have n18_:=aK ((by rw [hg];exact Nat.ne_of_lt (blk_lt (g:=gb254) (o:=.cells #[.slice A3_0 l3_0.length c3_0,.int .u64 a3_1,.int .u64 a3_2,.int .u64 a3_3] 28 (0,0)) (by (with_reducible repeat (first|apply bN|apply bD|apply bA));exact B254.out)) : gb254 ≠ gb289));have n19_:=aK ((by rw [hg];exact Nat.ne_of_gt (blk_lt (g:=gb254) (o:=.cells #[.slice A3_0 l3_0.length c3_0,.int .u64 a3_1,.int .u64 a3_2,.int .u64 a3_3] 28 (0,0)) (by (with_reducible repeat (first|apply bN|apply bD|apply bA));exact B254.out)) : gb289 ≠ gb254));have n20_:=aK ((by rw [hg];exact Nat.ne_of_lt (blk_lt (g:=gb281) (o:=.cells #[.slice Ao44 t274.length co44,.int .u64 t277,.int .u64 t278,.int .u64 t279] 25 (0,0)) (by (with_reducible repeat (first|apply bN|apply bD|apply bA));exact B281.out)) : gb281 ≠ gb289));have n21_:=aK ((by rw [hg];exact Nat.ne_of_gt (blk_lt (g:=gb281) (o:=.cells #[.slice Ao44 t274.length co44,.int .u64 t277,.int .u64 t278,.int .u64 t279] 25 (0,0)) (by (with_reducible repeat (first|apply bN|apply bD|apply bA));exact B281.out)) : gb289 ≠ gb281));clear HO_253000;clear HO_254000;clear O268;clear O272;clear O276;clear O284;clear B252;clear B253;clear B254;clear B281;clear HB;have HO_253000:=n0_;have HO_254000:=n1_;have O268:=n2_;have O272:=n3_;have O276:=n4_;have O284:=n5_;have B252:=n6_;have B253:=n7_;have B254:=n8_;have B281:=n9_;have HB:=n10_;have B289:=n11_;have W289:=n12_;have E289:=n13_;have N252_289:=n14_;have N289_252:=n15_;have N253_289:=n16_;have N289_253:=n17_;have N254_289:=n18_;have N289_254:=n19_;have N281_289:=n20_;have N289_281:=n21_;clear n0_ n1_ n2_ n3_ n4_ n5_ n6_ n7_ n8_ n9_ n10_ n11_ n12_ n13_ n14_ n15_ n16_ n17_ n18_ n19_ n20_ n21_;clear hb hbox hg;obtain ⟨Ao51,co51,eo51⟩:=Kd.R_slice O284.out;subst eo51;have hnb52:=N289_252.out;have hnc52:=N252_289.out;have hnb53:=N289_253.out;have hnc53:=N253_289.out;have hnb54:=N289_254.out;have hnc54:=N254_289.out;have hnb55:=N289_281.out;have hnc55:=N281_289.out;have z56_0 : w50.cell? ⟨gb289,0,none⟩ = some (.slice none 0 0):=(aC B289.out 0).trans rfl;have z56_1 : w50.cell? ⟨gb289,1,none⟩ = some (.int .u64 0):=(aC B289.out 1).trans rfl;have z56_2 : w50.cell? ⟨gb289,2,none⟩ = some (.int .u64 0):=(aC B289.out 2).trans rfl;have z56_3 : w50.cell? ⟨gb289,3,none⟩ = some (.int .u64 0):=(aC B289.out 3).trans rfl;have f56_0:=aF B289.out 0;have f56_1:=aF B289.out 1;have f56_2:=aF B289.out 2;have f56_3:=aF B289.out 3;have hnb57:=N254_253.out;have hnc57:=N253_254.out;have z58_0 : w50.cell? ⟨gb254,0,none⟩ = some (.slice A3_0 l3_0.length c3_0):=(aC B254.out 0).trans rfl;have z58_1 : w50.cell? ⟨gb254,1,none⟩ = some (.int .u64 a3_1):=(aC B254.out 1).trans rfl;have z58_2 : w50.cell? ⟨gb254,2,none⟩ = some (.int .u64 a3_2):=(aC B254.out 2).trans rfl;have z58_3 : w50.cell? ⟨gb254,3,none⟩ = some (.int .u64 a3_3):=(aC B254.out 3).trans rfl;have f58_0:=aF B254.out 0;have f58_1:=aF B254.out 1;have f58_2:=aF B254.out 2;have f58_3:=aF B254.out 3;have z59_0 : w50.cell? ⟨gb252,0,none⟩ = some (.slice A0_0 l0_0.length c0_0):=(aC B252.out 0).trans rfl;have z59_1 : w50.cell? ⟨gb252,1,none⟩ = some (.int .u64 a0_1):=(aC B252.out 1).trans rfl;have z59_2 : w50.cell? ⟨gb252,2,none⟩ = some (.int .u64 a0_2):=(aC B252.out 2).trans rfl;have z59_3 : w50.cell? ⟨gb252,3,none⟩ = some (.int .u64 a0_3):=(aC B252.out 3).trans rfl;have f59_0:=aF B252.out 0;have f59_1:=aF B252.out 1;have f59_2:=aF B252.out 2;have f59_3:=aF B252.out 3)|((with_reducible refine gate_callee (f:=15) rfl ?_);refine goesL_ (some 57) rfl rfl Try.func15 (by kernel_rfl) rfl #[.agg #[.slice A3_0 l3_0.length c3_0,.int .u64 a3_1,.int .u64 a3_2,.int .u64 a3_3],.agg #[.slice A0_0 l0_0.length c0_0,.int .u64 a0_1,.int .u64 a0_2,.int .u64 a0_3]] rfl (by (try simp only [List.map_toArray,List.map_cons,List.map_nil]);first|done|rfl|(simp only [List.length_drop,List.length_take];rfl)) ?_;(with_reducible refine (edit_Apply.calls _ _ l3_0 a3_1 a3_2 a3_3 _ _ l0_0 a0_1 a0_2 a0_3 t290 t293 t294 t295 t296 _ ?side1 ?side2 ?side3 ?side4 A33.out).mono ?_);(case side1 => exact Kd.C_below HR3_0.out (by repeat (first|(with_reducible first|exact HB.out|apply aA|apply aW|apply aD|refine aS ?_ E252.out|refine aS ?_ E253.out|refine aS ?_ E254.out|refine aS ?_ E281.out|refine aS ?_ E289.out)|exact HB.out)));(case side2 => exact HC3_0.out);(case side3 => refine (aO (e:=58) (base:=w.heap.size) (ok:=fun k_ => (((((((((P0_0_ k_ ∨ P1_0_ k_) ∨ w.heap.size ≤ k_) ∧ (k_ ≠ gb252 ∧ (k_ ≠ gb253 ∧ k_ ≠ gb254))) ∧ nO k_ v267) ∧ nO k_ v271) ∧ nB k_ Ao44 t274.length co44) ∧ k_ ≠ gb281) ∧ nB k_ Ao51 t282.length co51) ∧ k_ ≠ gb289)) (n:=l0_0.length) (c:=c0_0) ?_).2.2;exact (by (with_reducible repeat (first|apply vA|apply vN|apply vD));exact (aN (aU (p:=⟨gb289,3,none⟩) (aU (p:=⟨gb289,2,none⟩) (aU (p:=⟨gb289,1,none⟩) (aU (p:=⟨gb289,0,none⟩) (aN HO_253000.out (fun k_ hk => (⟨hk,hk.2⟩ : _ ∧ k_ ≠ gb289))) (fun _ hk => hk.2) (.slice Ao51 t282.length co51)) (fun _ hk => hk.2) (.int .u64 t285)) (fun _ hk => hk.2) (.int .u64 t286)) (fun _ hk => hk.2) (.int .u64 t287)) (fun _ h_ => h_.1))));(case side4 => exact (aO HO_253000.out).2.1);rintro e w60 ⟨v291,rfl,ho0,hb⟩;refine ⟨_,rfl,?_⟩;have n0_:=aK (aV (by (with_reducible repeat (first|apply vA|apply vN|apply vD));exact (aN (aU (p:=⟨gb289,3,none⟩) (aU (p:=⟨gb289,2,none⟩) (aU (p:=⟨gb289,1,none⟩) (aU (p:=⟨gb289,0,none⟩) (aN HO_253000.out (fun k_ hk => (⟨hk,hk.2⟩ : _ ∧ k_ ≠ gb289))) (fun _ hk => hk.2) (.slice Ao51 t282.length co51)) (fun _ hk => hk.2) (.int .u64 t285)) (fun _ hk => hk.2) (.int .u64 t286)) (fun _ hk => hk.2) (.int .u64 t287)) (fun _ h_ => h_.1))) (aJ ho0) hb);have n1_:=aK (aV (by (with_reducible repeat (first|apply vA|apply vN|apply vD));exact (aN (aU (p:=⟨gb289,3,none⟩) (aU (p:=⟨gb289,2,none⟩) (aU (p:=⟨gb289,1,none⟩) (aU (p:=⟨gb289,0,none⟩) (aN HO_254000.out (fun k_ hk => (⟨hk,hk.2⟩ : _ ∧ k_ ≠ gb289))) (fun _ hk => hk.2) (.slice Ao51 t282.length co51)) (fun _ hk => hk.2) (.int .u64 t285)) (fun _ hk => hk.2) (.int .u64 t286)) (fun _ hk => hk.2) (.int .u64 t287)) (fun _ h_ => h_.1))) (aJ ho0) hb);have n2_:=aK (Kd.R_below (by (with_reducible repeat (first|apply zA|apply zN|apply zD));exact (aM (aY (p:=⟨gb289,3,none⟩) (aY (p:=⟨gb289,2,none⟩) (aY (p:=⟨gb289,1,none⟩) (aY (p:=⟨gb289,0,none⟩) (aP O268.out B289.out (by decide)) (fun _ hk => hk.2) (.slice Ao51 t282.length co51)) (fun _ hk => hk.2) (.int .u64 t285)) (fun _ hk => hk.2) (.int .u64 t286)) (fun _ hk => hk.2) (.int .u64 t287)) (fun _ h_ => h_.1))) hb);have n3_:=aK (Kd.R_below (by (with_reducible repeat (first|apply zA|apply zN|apply zD));exact (aM (aY (p:=⟨gb289,3,none⟩) (aY (p:=⟨gb289,2,none⟩) (aY (p:=⟨gb289,1,none⟩) (aY (p:=⟨gb289,0,none⟩) (aP O272.out B289.out (by decide)) (fun _ hk => hk.2) (.slice Ao51 t282.length co51)) (fun _ hk => hk.2) (.int .u64 t285)) (fun _ hk => hk.2) (.int .u64 t286)) (fun _ hk => hk.2) (.int .u64 t287)) (fun _ h_ => h_.1))) hb);have n4_:=aK (aR (by (with_reducible repeat (first|apply zA|apply zN|apply zD));exact (aM (aY (p:=⟨gb289,3,none⟩) (aY (p:=⟨gb289,2,none⟩) (aY (p:=⟨gb289,1,none⟩) (aY (p:=⟨gb289,0,none⟩) (aP O276.out B289.out (by decide)) (fun _ hk => hk.2) (.slice Ao51 t282.length co51)) (fun _ hk => hk.2) (.int .u64 t285)) (fun _ hk => hk.2) (.int .u64 t286)) (fun _ hk => hk.2) (.int .u64 t287)) (fun _ h_ => h_.1))) (aJ ho0) hb);have n5_:=aK (aR (by (with_reducible repeat (first|apply zA|apply zN|apply zD));exact (aM (aY (p:=⟨gb289,3,none⟩) (aY (p:=⟨gb289,2,none⟩) (aY (p:=⟨gb289,1,none⟩) (aY (p:=⟨gb289,0,none⟩) (aP O284.out B289.out (by decide)) (fun _ hk => hk.2) (.slice Ao51 t282.length co51)) (fun _ hk => hk.2) (.int .u64 t285)) (fun _ hk => hk.2) (.int .u64 t286)) (fun _ hk => hk.2) (.int .u64 t287)) (fun _ h_ => h_.1))) (aJ ho0) hb);have n6_:=aK (aL (Kd.R_new' (Kd.R_new' (Kd.R_newM (M:=fun k_ => (w.heap.size ≤ k_)) ho0 (aZ (by repeat (first|(with_reducible first|exact HB.out|apply aA|apply aW|apply aD|refine aS ?_ E252.out|refine aS ?_ E253.out|refine aS ?_ E254.out|refine aS ?_ E281.out|refine aS ?_ E289.out)|exact HB.out))) (fun k_ h_ => h_)) (Kd.R_lt (by (with_reducible repeat (first|apply zA|apply zN|apply zD));exact (aM (aY (p:=⟨gb289,3,none⟩) (aY (p:=⟨gb289,2,none⟩) (aY (p:=⟨gb289,1,none⟩) (aY (p:=⟨gb289,0,none⟩) (aP O276.out B289.out (by decide)) (fun _ hk => hk.2) (.slice Ao51 t282.length co51)) (fun _ hk => hk.2) (.int .u64 t285)) (fun _ hk => hk.2) (.int .u64 t286)) (fun _ hk => hk.2) (.int .u64 t287)) (fun _ h_ => h_.1))))) (Kd.R_lt (by (with_reducible repeat (first|apply zA|apply zN|apply zD));exact (aM (aY (p:=⟨gb289,3,none⟩) (aY (p:=⟨gb289,2,none⟩) (aY (p:=⟨gb289,1,none⟩) (aY (p:=⟨gb289,0,none⟩) (aP O284.out B289.out (by decide)) (fun _ hk => hk.2) (.slice Ao51 t282.length co51)) (fun _ hk => hk.2) (.int .u64 t285)) (fun _ hk => hk.2) (.int .u64 t286)) (fun _ hk => hk.2) (.int .u64 t287)) (fun _ h_ => h_.1))))) (aZ (by repeat (first|(with_reducible first|exact HB.out|apply aA|apply aW|apply aD|refine aS ?_ E252.out|refine aS ?_ E253.out|refine aS ?_ E254.out|refine aS ?_ E281.out|refine aS ?_ E289.out)|exact HB.out))));have n7_:=aK (aB (g:=gb252) (o:=.cells #[.slice A0_0 l0_0.length c0_0,.int .u64 a0_1,.int .u64 a0_2,.int .u64 a0_3] 25 (0,0)) (by (with_reducible repeat (first|apply bN|apply bD|apply bA));refine aX ?_ N252_289.out _;(with_reducible repeat (first|apply bN|apply bD|apply bA));refine aX ?_ N252_289.out _;(with_reducible repeat (first|apply bN|apply bD|apply bA));refine aX ?_ N252_289.out _;(with_reducible repeat (first|apply bN|apply bD|apply bA));refine aX ?_ N252_289.out _;(with_reducible repeat (first|apply bN|apply bD|apply bA));exact B252.out) hb);have n8_:=aK (aB (g:=gb253) (o:=.cells #[.slice A1_0 l1_0.length c1_0,.int .u64 a1_1,.int .u64 a1_2,.int .u64 a1_3] 25 (0,0)) (by (with_reducible repeat (first|apply bN|apply bD|apply bA));refine aX ?_ N253_289.out _;(with_reducible repeat (first|apply bN|apply bD|apply bA));refine aX ?_ N253_289.out _;(with_reducible repeat (first|apply bN|apply bD|apply bA));refine aX ?_ N253_289.out _;(with_reducible repeat (first|apply bN|apply bD|apply bA));refine aX ?_ N253_289.out _;(with_reducible repeat (first|apply bN|apply bD|apply bA));exact B253.out) hb);have n9_:=aK (aB (g:=gb254) (o:=.cells #[.slice A3_0 l3_0.length c3_0,.int .u64 a3_1,.int .u64 a3_2,.int .u64 a3_3] 28 (0,0)) (by (with_reducible repeat (first|apply bN|apply bD|apply bA));refine aX ?_ N254_289.out _;(with_reducible repeat (first|apply bN|apply bD|apply bA));refine aX ?_ N254_289.out _;(with_reducible repeat (first|apply bN|apply bD|apply bA));refine aX ?_ N254_289.out _;(with_reducible repeat (first|apply bN|apply bD|apply bA));refine aX ?_ N254_289.out _;(with_reducible repeat (first|apply bN|apply bD|apply bA));exact B254.out) hb);have n10_:=aK (aB (g:=gb281) (o:=.cells #[.slice Ao44 t274.length co44,.int .u64 t277,.int .u64 t278,.int .u64 t279] 25 (0,0)) (by (with_reducible repeat (first|apply bN|apply bD|apply bA));refine aX ?_ N281_289.out _;(with_reducible repeat (first|apply bN|apply bD|apply bA));refine aX ?_ N281_289.out _;(with_reducible repeat (first|apply bN|apply bD|apply bA));refine aX ?_ N281_289.out _;(with_reducible repeat (first|apply bN|apply bD|apply bA));refine aX ?_ N281_289.out _;(with_reducible repeat (first|apply bN|apply bD|apply bA));exact B281.out) hb);have n11_:=aK (aB (g:=gb289) (o:=.cells #[.slice Ao51 t282.length co51,.int .u64 t285,.int .u64 t286,.int .u64 t287] 25 (0,0)) (by (with_reducible repeat (first|apply bN|apply bD|apply bA));refine blk_put (cs:=#[.slice Ao51 t282.length co51,.int .u64 t285,.int .u64 t286,.int .u64 0]) ?_ 3 _ rfl;(with_reducible repeat (first|apply bN|apply bD|apply bA));refine blk_put (cs:=#[.slice Ao51 t282.length co51,.int .u64 t285,.int .u64 0,.int .u64 0]) ?_ 2 _ rfl;(with_reducible repeat (first|apply bN|apply bD|apply bA));refine blk_put (cs:=#[.slice Ao51 t282.length co51,.int .u64 0,.int .u64 0,.int .u64 0]) ?_ 1 _ rfl;(with_reducible repeat (first|apply bN|apply bD|apply bA));refine blk_put (cs:=#[.slice none 0 0,.int .u64 0,.int .u64 0,.int .u64 0]) ?_ 0 _ rfl;(with_reducible repeat (first|apply bN|apply bD|apply bA));exact B289.out) hb);have n12_:=aK (aT (by repeat (first|(with_reducible first|exact HB.out|apply aA|apply aW|apply aD|refine aS ?_ E252.out|refine aS ?_ E253.out|refine aS ?_ E254.out|refine aS ?_ E281.out|refine aS ?_ E289.out)|exact HB.out)) hb);clear HO_253000;clear HO_254000;clear O268;clear O272;clear O276;clear O284;clear B252;clear B253;clear B254;clear B281;clear B289;clear HB;have HO_253000:=n0_;have HO_254000:=n1_;have O268:=n2_;have O272:=n3_;have O276:=n4_;have O284:=n5_;have O292:=n6_;have B252:=n7_;have B253:=n8_;have B254:=n9_;have B281:=n10_;have B289:=n11_;have HB:=n12_;clear n0_ n1_ n2_ n3_ n4_ n5_ n6_ n7_ n8_ n9_ n10_ n11_ n12_;(try clear hb);skip;(try clear ho0))|((with_reducible refine gate_dst (N:=17) rfl ?_);(try (refine gate_guard (by rfl) ?_;dsimp only));refine box_event ?hg (N:=17) ?hd (cs:=#[.slice none 0 0,.int .u64 0,.int .u64 0,.int .u64 0]) (t:=28) ?hr ?_;(case hd => rfl);(case hg => rfl);(case hr => first|(go_simp;done)|(go_simp;rfl));intro gb297 hg w61 hbox hb;have n0_:=aK (Kd.V_below (Kd.V_elderB (by (with_reducible repeat (first|apply vA|apply vN|apply vD));exact HO_253000.out) gb297 (Nat.le_of_eq hg.symm)) hb);have n1_:=aK (Kd.V_below (Kd.V_elderB (by (with_reducible repeat (first|apply vA|apply vN|apply vD));exact HO_254000.out) gb297 (Nat.le_of_eq hg.symm)) hb);have n2_:=aK (Kd.R_below (by (with_reducible repeat (first|apply zA|apply zN|apply zD));exact O268.out) hb);have n3_:=aK (Kd.R_below (by (with_reducible repeat (first|apply zA|apply zN|apply zD));exact O272.out) hb);have n4_:=aK (Kd.R_below (by (with_reducible repeat (first|apply zA|apply zN|apply zD));exact O276.out) hb);have n5_:=aK (Kd.R_below (by (with_reducible repeat (first|apply zA|apply zN|apply zD));exact O284.out) hb);have n6_:=aK (Kd.R_below (by (with_reducible repeat (first|apply zA|apply zN|apply zD));exact O292.out) hb);have n7_:=aK (aB (g:=gb252) (o:=.cells #[.slice A0_0 l0_0.length c0_0,.int .u64 a0_1,.int .u64 a0_2,.int .u64 a0_3] 25 (0,0)) (by (with_reducible repeat (first|apply bN|apply bD|apply bA));exact B252.out) hb);have n8_:=aK (aB (g:=gb253) (o:=.cells #[.slice A1_0 l1_0.length c1_0,.int .u64 a1_1,.int .u64 a1_2,.int .u64 a1_3] 25 (0,0)) (by (with_reducible repeat (first|apply bN|apply bD|apply bA));exact B253.out) hb);have n9_:=aK (aB (g:=gb254) (o:=.cells #[.slice A3_0 l3_0.length c3_0,.int .u64 a3_1,.int .u64 a3_2,.int .u64 a3_3] 28 (0,0)) (by (with_reducible repeat (first|apply bN|apply bD|apply bA));exact B254.out) hb);have n10_:=aK (aB (g:=gb281) (o:=.cells #[.slice Ao44 t274.length co44,.int .u64 t277,.int .u64 t278,.int .u64 t279] 25 (0,0)) (by (with_reducible repeat (first|apply bN|apply bD|apply bA));exact B281.out) hb);have n11_:=aK (aB (g:=gb289) (o:=.cells #[.slice Ao51 t282.length co51,.int .u64 t285,.int .u64 t286,.int .u64 t287] 25 (0,0)) (by (with_reducible repeat (first|apply bN|apply bD|apply bA));exact B289.out) hb);have n12_:=aK (aT (by repeat (first|(with_reducible first|exact HB.out|apply aA|apply aW|apply aD|refine aS ?_ E252.out|refine aS ?_ E253.out|refine aS ?_ E254.out|refine aS ?_ E281.out|refine aS ?_ E289.out)|exact HB.out)) hb);have n13_:=aK (hbox);have n14_:=aK ((by rw [hg];exact (aZ (by repeat (first|(with_reducible first|exact HB.out|apply aA|apply aW|apply aD|refine aS ?_ E252.out|refine aS ?_ E253.out|refine aS ?_ E254.out|refine aS ?_ E281.out|refine aS ?_ E289.out)|exact HB.out))) : w.heap.size ≤ gb297));have n15_:=aK ((by rw [hg];exact (aZ (by repeat (first|(with_reducible first|exact HB.out|apply aA|apply aW|apply aD|refine aS ?_ E252.out|refine aS ?_ E253.out|refine aS ?_ E254.out|refine aS ?_ E281.out|refine aS ?_ E289.out)|exact HB.out))) : w.heap.size ≤ gb297));have n16_:=aK ((by rw [hg];exact Nat.ne_of_lt (blk_lt (g:=gb252) (o:=.cells #[.slice A0_0 l0_0.length c0_0,.int .u64 a0_1,.int .u64 a0_2,.int .u64 a0_3] 25 (0,0)) (by (with_reducible repeat (first|apply bN|apply bD|apply bA));exact B252.out)) : gb252 ≠ gb297));have n17_:=aK ((by rw [hg];exact Nat.ne_of_gt (blk_lt (g:=gb252) (o:=.cells #[.slice A0_0 l0_0.length c0_0,.int .u64 a0_1,.int .u64 a0_2,.int .u64 a0_3] 25 (0,0)) (by (with_reducible repeat (first|apply bN|apply bD|apply bA));exact B252.out)) : gb297 ≠ gb252));have n18_:=aK ((by rw [hg];exact Nat.ne_of_lt (blk_lt (g:=gb253) (o:=.cells #[.slice A1_0 l1_0.length c1_0,.int .u64 a1_1,.int .u64 a1_2,.int .u64 a1_3] 25 (0,0)) (by (with_reducible repeat (first|apply bN|apply bD|apply bA));exact B253.out)) : gb253 ≠ gb297));have n19_:=aK ((by rw [hg];exact Nat.ne_of_gt (blk_lt (g:=gb253) (o:=.cells #[.slice A1_0 l1_0.length c1_0,.int .u64 a1_1,.int .u64 a1_2,.int .u64 a1_3] 25 (0,0)) (by (with_reducible repeat (first|apply bN|apply bD|apply bA));exact B253.out)) : gb297 ≠ gb253));have n20_:=aK ((by rw [hg];exact Nat.ne_of_lt (blk_lt (g:=gb254) (o:=.cells #[.slice A3_0 l3_0.length c3_0,.int .u64 a3_1,.int .u64 a3_2,.int .u64 a3_3] 28 (0,0)) (by (with_reducible repeat (first|apply bN|apply bD|apply bA));exact B254.out)) : gb254 ≠ gb297));have n21_:=aK ((by rw [hg];exact Nat.ne_of_gt (blk_lt (g:=gb254) (o:=.cells #[.slice A3_0 l3_0.length c3_0,.int .u64 a3_1,.int .u64 a3_2,.int .u64 a3_3] 28 (0,0)) (by (with_reducible repeat (first|apply bN|apply bD|apply bA));exact B254.out)) : gb297 ≠ gb254));have n22_:=aK ((by rw [hg];exact Nat.ne_of_lt (blk_lt (g:=gb281) (o:=.cells #[.slice Ao44 t274.length co44,.int .u64 t277,.int .u64 t278,.int .u64 t279] 25 (0,0)) (by (with_reducible repeat (first|apply bN|apply bD|apply bA));exact B281.out)) : gb281 ≠ gb297));have n23_:=aK ((by rw [hg];exact Nat.ne_of_gt (blk_lt (g:=gb281) (o:=.cells #[.slice Ao44 t274.length co44,.int .u64 t277,.int .u64 t278,.int .u64 t279] 25 (0,0)) (by (with_reducible repeat (first|apply bN|apply bD|apply bA));exact B281.out)) : gb297 ≠ gb281));have n24_:=aK ((by rw [hg];exact Nat.ne_of_lt (blk_lt (g:=gb289) (o:=.cells #[.slice Ao51 t282.length co51,.int .u64 t285,.int .u64 t286,.int .u64 t287] 25 (0,0)) (by (with_reducible repeat (first|apply bN|apply bD|apply bA));exact B289.out)) : gb289 ≠ gb297));have n25_:=aK ((by rw [hg];exact Nat.ne_of_gt (blk_lt (g:=gb289) (o:=.cells #[.slice Ao51 t282.length co51,.int .u64 t285,.int .u64 t286,.int .u64 t287] 25 (0,0)) (by (with_reducible repeat (first|apply bN|apply bD|apply bA));exact B289.out)) : gb297 ≠ gb289));clear HO_253000;clear HO_254000;clear O268;clear O272;clear O276;clear O284;clear O292;clear B252;clear B253;clear B254;clear B281;clear B289;clear HB;have HO_253000:=n0_;have HO_254000:=n1_;have O268:=n2_;have O272:=n3_;have O276:=n4_;have O284:=n5_;have O292:=n6_;have B252:=n7_;have B253:=n8_;have B254:=n9_;have B281:=n10_;have B289:=n11_;have HB:=n12_;have B297:=n13_;have W297:=n14_;have E297:=n15_;have N252_297:=n16_;have N297_252:=n17_;have N253_297:=n18_;have N297_253:=n19_;have N254_297:=n20_;have N297_254:=n21_;have N281_297:=n22_;have N297_281:=n23_;have N289_297:=n24_;have N297_289:=n25_;clear n0_ n1_ n2_ n3_ n4_ n5_ n6_ n7_ n8_ n9_ n10_ n11_ n12_ n13_ n14_ n15_ n16_ n17_ n18_ n19_ n20_ n21_ n22_ n23_ n24_ n25_;clear hb hbox hg;obtain ⟨Ao62,co62,eo62⟩:=Kd.R_slice O292.out;subst eo62;have hnb63:=N297_252.out;have hnc63:=N252_297.out;have hnb64:=N297_253.out;have hnc64:=N253_297.out;have hnb65:=N297_254.out;have hnc65:=N254_297.out;have hnb66:=N297_281.out;have hnc66:=N281_297.out;have hnb67:=N297_289.out;have hnc67:=N289_297.out;have z68_0 : w61.cell? ⟨gb297,0,none⟩ = some (.slice none 0 0):=(aC B297.out 0).trans rfl;have z68_1 : w61.cell? ⟨gb297,1,none⟩ = some (.int .u64 0):=(aC B297.out 1).trans rfl;have z68_2 : w61.cell? ⟨gb297,2,none⟩ = some (.int .u64 0):=(aC B297.out 2).trans rfl;have z68_3 : w61.cell? ⟨gb297,3,none⟩ = some (.int .u64 0):=(aC B297.out 3).trans rfl;have f68_0:=aF B297.out 0;have f68_1:=aF B297.out 1;have f68_2:=aF B297.out 2;have f68_3:=aF B297.out 3;have z69_0 : w61.cell? ⟨gb254,0,none⟩ = some (.slice A3_0 l3_0.length c3_0):=(aC B254.out 0).trans rfl;have z69_1 : w61.cell? ⟨gb254,1,none⟩ = some (.int .u64 a3_1):=(aC B254.out 1).trans rfl;have z69_2 : w61.cell? ⟨gb254,2,none⟩ = some (.int .u64 a3_2):=(aC B254.out 2).trans rfl;have z69_3 : w61.cell? ⟨gb254,3,none⟩ = some (.int .u64 a3_3):=(aC B254.out 3).trans rfl;have f69_0:=aF B254.out 0;have f69_1:=aF B254.out 1;have f69_2:=aF B254.out 2;have f69_3:=aF B254.out 3;have z70_0 : w61.cell? ⟨gb252,0,none⟩ = some (.slice A0_0 l0_0.length c0_0):=(aC B252.out 0).trans rfl;have z70_1 : w61.cell? ⟨gb252,1,none⟩ = some (.int .u64 a0_1):=(aC B252.out 1).trans rfl;have z70_2 : w61.cell? ⟨gb252,2,none⟩ = some (.int .u64 a0_2):=(aC B252.out 2).trans rfl;have z70_3 : w61.cell? ⟨gb252,3,none⟩ = some (.int .u64 a0_3):=(aC B252.out 3).trans rfl;have f70_0:=aF B252.out 0;have f70_1:=aF B252.out 1;have f70_2:=aF B252.out 2;have f70_3:=aF B252.out 3)|((with_reducible refine gate_callee (f:=16) rfl ?_);refine goesL_ (some 63) rfl rfl Try.func16 (by kernel_rfl) rfl #[.agg #[.slice A3_0 l3_0.length c3_0,.int .u64 a3_1,.int .u64 a3_2,.int .u64 a3_3],.agg #[.slice A0_0 l0_0.length c0_0,.int .u64 a0_1,.int .u64 a0_2,.int .u64 a0_3]] rfl (by (try simp only [List.map_toArray,List.map_cons,List.map_nil]);first|done|rfl|(simp only [List.length_drop,List.length_take];rfl)) ?_;(with_reducible refine (ratlineref09_Apply.calls kj4 _ _ l3_0 a3_1 a3_2 a3_3 _ _ l0_0 a0_1 a0_2 a0_3 t298 t301 t302 t303 t304 _ ?side1 ?side2 ?side3 ?side4 A34.out).mono ?_);(case side1 => exact Kd.C_below HR3_0.out (by repeat (first|(with_reducible first|exact HB.out|apply aA|apply aW|apply aD|refine aS ?_ E252.out|refine aS ?_ E253.out|refine aS ?_ E254.out|refine aS ?_ E281.out|refine aS ?_ E289.out|refine aS ?_ E297.out)|exact HB.out)));(case side2 => exact HC3_0.out);(case side3 => refine (aO (e:=58) (base:=w.heap.size) (ok:=fun k_ => (((((((((((P0_0_ k_ ∨ P1_0_ k_) ∨ w.heap.size ≤ k_) ∧ (k_ ≠ gb252 ∧ (k_ ≠ gb253 ∧ k_ ≠ gb254))) ∧ nO k_ v267) ∧ nO k_ v271) ∧ nB k_ Ao44 t274.length co44) ∧ k_ ≠ gb281) ∧ nB k_ Ao51 t282.length co51) ∧ k_ ≠ gb289) ∧ nB k_ Ao62 t290.length co62) ∧ k_ ≠ gb297)) (n:=l0_0.length) (c:=c0_0) ?_).2.2;exact (by (with_reducible repeat (first|apply vA|apply vN|apply vD));exact (aN (aU (p:=⟨gb297,3,none⟩) (aU (p:=⟨gb297,2,none⟩) (aU (p:=⟨gb297,1,none⟩) (aU (p:=⟨gb297,0,none⟩) (aN HO_253000.out (fun k_ hk => (⟨hk,hk.2⟩ : _ ∧ k_ ≠ gb297))) (fun _ hk => hk.2) (.slice Ao62 t290.length co62)) (fun _ hk => hk.2) (.int .u64 t293)) (fun _ hk => hk.2) (.int .u64 t294)) (fun _ hk => hk.2) (.int .u64 t295)) (fun _ h_ => h_.1))));(case side4 => exact (aO HO_253000.out).2.1);rintro e w71 ⟨v299,rfl,ho0,hb⟩;refine ⟨_,rfl,?_⟩;have n0_:=aK (aV (by (with_reducible repeat (first|apply vA|apply vN|apply vD));exact (aN (aU (p:=⟨gb297,3,none⟩) (aU (p:=⟨gb297,2,none⟩) (aU (p:=⟨gb297,1,none⟩) (aU (p:=⟨gb297,0,none⟩) (aN HO_253000.out (fun k_ hk => (⟨hk,hk.2⟩ : _ ∧ k_ ≠ gb297))) (fun _ hk => hk.2) (.slice Ao62 t290.length co62)) (fun _ hk => hk.2) (.int .u64 t293)) (fun _ hk => hk.2) (.int .u64 t294)) (fun _ hk => hk.2) (.int .u64 t295)) (fun _ h_ => h_.1))) (aJ ho0) hb);have n1_:=aK (aV (by (with_reducible repeat (first|apply vA|apply vN|apply vD));exact (aN (aU (p:=⟨gb297,3,none⟩) (aU (p:=⟨gb297,2,none⟩) (aU (p:=⟨gb297,1,none⟩) (aU (p:=⟨gb297,0,none⟩) (aN HO_254000.out (fun k_ hk => (⟨hk,hk.2⟩ : _ ∧ k_ ≠ gb297))) (fun _ hk => hk.2) (.slice Ao62 t290.length co62)) (fun _ hk => hk.2) (.int .u64 t293)) (fun _ hk => hk.2) (.int .u64 t294)) (fun _ hk => hk.2) (.int .u64 t295)) (fun _ h_ => h_.1))) (aJ ho0) hb);have n2_:=aK (Kd.R_below (by (with_reducible repeat (first|apply zA|apply zN|apply zD));exact (aM (aY (p:=⟨gb297,3,none⟩) (aY (p:=⟨gb297,2,none⟩) (aY (p:=⟨gb297,1,none⟩) (aY (p:=⟨gb297,0,none⟩) (aP O268.out B297.out (by decide)) (fun _ hk => hk.2) (.slice Ao62 t290.length co62)) (fun _ hk => hk.2) (.int .u64 t293)) (fun _ hk => hk.2) (.int .u64 t294)) (fun _ hk => hk.2) (.int .u64 t295)) (fun _ h_ => h_.1))) hb);have n3_:=aK (Kd.R_below (by (with_reducible repeat (first|apply zA|apply zN|apply zD));exact (aM (aY (p:=⟨gb297,3,none⟩) (aY (p:=⟨gb297,2,none⟩) (aY (p:=⟨gb297,1,none⟩) (aY (p:=⟨gb297,0,none⟩) (aP O272.out B297.out (by decide)) (fun _ hk => hk.2) (.slice Ao62 t290.length co62)) (fun _ hk => hk.2) (.int .u64 t293)) (fun _ hk => hk.2) (.int .u64 t294)) (fun _ hk => hk.2) (.int .u64 t295)) (fun _ h_ => h_.1))) hb);have n4_:=aK (aR (by (with_reducible repeat (first|apply zA|apply zN|apply zD));exact (aM (aY (p:=⟨gb297,3,none⟩) (aY (p:=⟨gb297,2,none⟩) (aY (p:=⟨gb297,1,none⟩) (aY (p:=⟨gb297,0,none⟩) (aP O276.out B297.out (by decide)) (fun _ hk => hk.2) (.slice Ao62 t290.length co62)) (fun _ hk => hk.2) (.int .u64 t293)) (fun _ hk => hk.2) (.int .u64 t294)) (fun _ hk => hk.2) (.int .u64 t295)) (fun _ h_ => h_.1))) (aJ ho0) hb);have n5_:=aK (aR (by (with_reducible repeat (first|apply zA|apply zN|apply zD));exact (aM (aY (p:=⟨gb297,3,none⟩) (aY (p:=⟨gb297,2,none⟩) (aY (p:=⟨gb297,1,none⟩) (aY (p:=⟨gb297,0,none⟩) (aP O284.out B297.out (by decide)) (fun _ hk => hk.2) (.slice Ao62 t290.length co62)) (fun _ hk => hk.2) (.int .u64 t293)) (fun _ hk => hk.2) (.int .u64 t294)) (fun _ hk => hk.2) (.int .u64 t295)) (fun _ h_ => h_.1))) (aJ ho0) hb);have n6_:=aK (aR (by (with_reducible repeat (first|apply zA|apply zN|apply zD));exact (aM (aY (p:=⟨gb297,3,none⟩) (aY (p:=⟨gb297,2,none⟩) (aY (p:=⟨gb297,1,none⟩) (aY (p:=⟨gb297,0,none⟩) (aP O292.out B297.out (by decide)) (fun _ hk => hk.2) (.slice Ao62 t290.length co62)) (fun _ hk => hk.2) (.int .u64 t293)) (fun _ hk => hk.2) (.int .u64 t294)) (fun _ hk => hk.2) (.int .u64 t295)) (fun _ h_ => h_.1))) (aJ ho0) hb);have n7_:=aK (aL (Kd.R_new' (Kd.R_new' (Kd.R_new' (Kd.R_newM (M:=fun k_ => (w.heap.size ≤ k_)) ho0 (aZ (by repeat (first|(with_reducible first|exact HB.out|apply aA|apply aW|apply aD|refine aS ?_ E252.out|refine aS ?_ E253.out|refine aS ?_ E254.out|refine aS ?_ E281.out|refine aS ?_ E289.out|refine aS ?_ E297.out)|exact HB.out))) (fun k_ h_ => h_)) (Kd.R_lt (by (with_reducible repeat (first|apply zA|apply zN|apply zD));exact (aM (aY (p:=⟨gb297,3,none⟩) (aY (p:=⟨gb297,2,none⟩) (aY (p:=⟨gb297,1,none⟩) (aY (p:=⟨gb297,0,none⟩) (aP O276.out B297.out (by decide)) (fun _ hk => hk.2) (.slice Ao62 t290.length co62)) (fun _ hk => hk.2) (.int .u64 t293)) (fun _ hk => hk.2) (.int .u64 t294)) (fun _ hk => hk.2) (.int .u64 t295)) (fun _ h_ => h_.1))))) (Kd.R_lt (by (with_reducible repeat (first|apply zA|apply zN|apply zD));exact (aM (aY (p:=⟨gb297,3,none⟩) (aY (p:=⟨gb297,2,none⟩) (aY (p:=⟨gb297,1,none⟩) (aY (p:=⟨gb297,0,none⟩) (aP O284.out B297.out (by decide)) (fun _ hk => hk.2) (.slice Ao62 t290.length co62)) (fun _ hk => hk.2) (.int .u64 t293)) (fun _ hk => hk.2) (.int .u64 t294)) (fun _ hk => hk.2) (.int .u64 t295)) (fun _ h_ => h_.1))))) (Kd.R_lt (by (with_reducible repeat (first|apply zA|apply zN|apply zD));exact (aM (aY (p:=⟨gb297,3,none⟩) (aY (p:=⟨gb297,2,none⟩) (aY (p:=⟨gb297,1,none⟩) (aY (p:=⟨gb297,0,none⟩) (aP O292.out B297.out (by decide)) (fun _ hk => hk.2) (.slice Ao62 t290.length co62)) (fun _ hk => hk.2) (.int .u64 t293)) (fun _ hk => hk.2) (.int .u64 t294)) (fun _ hk => hk.2) (.int .u64 t295)) (fun _ h_ => h_.1))))) (aZ (by repeat (first|(with_reducible first|exact HB.out|apply aA|apply aW|apply aD|refine aS ?_ E252.out|refine aS ?_ E253.out|refine aS ?_ E254.out|refine aS ?_ E281.out|refine aS ?_ E289.out|refine aS ?_ E297.out)|exact HB.out))));have n8_:=aK (aB (g:=gb252) (o:=.cells #[.slice A0_0 l0_0.length c0_0,.int .u64 a0_1,.int .u64 a0_2,.int .u64 a0_3] 25 (0,0)) (by (with_reducible repeat (first|apply bN|apply bD|apply bA));refine aX ?_ N252_297.out _;(with_reducible repeat (first|apply bN|apply bD|apply bA));refine aX ?_ N252_297.out _;(with_reducible repeat (first|apply bN|apply bD|apply bA));refine aX ?_ N252_297.out _;(with_reducible repeat (first|apply bN|apply bD|apply bA));refine aX ?_ N252_297.out _;(with_reducible repeat (first|apply bN|apply bD|apply bA));exact B252.out) hb);have n9_:=aK (aB (g:=gb253) (o:=.cells #[.slice A1_0 l1_0.length c1_0,.int .u64 a1_1,.int .u64 a1_2,.int .u64 a1_3] 25 (0,0)) (by (with_reducible repeat (first|apply bN|apply bD|apply bA));refine aX ?_ N253_297.out _;(with_reducible repeat (first|apply bN|apply bD|apply bA));refine aX ?_ N253_297.out _;(with_reducible repeat (first|apply bN|apply bD|apply bA));refine aX ?_ N253_297.out _;(with_reducible repeat (first|apply bN|apply bD|apply bA));refine aX ?_ N253_297.out _;(with_reducible repeat (first|apply bN|apply bD|apply bA));exact B253.out) hb);have n10_:=aK (aB (g:=gb254) (o:=.cells #[.slice A3_0 l3_0.length c3_0,.int .u64 a3_1,.int .u64 a3_2,.int .u64 a3_3] 28 (0,0)) (by (with_reducible repeat (first|apply bN|apply bD|apply bA));refine aX ?_ N254_297.out _;(with_reducible repeat (first|apply bN|apply bD|apply bA));refine aX ?_ N254_297.out _;(with_reducible repeat (first|apply bN|apply bD|apply bA));refine aX ?_ N254_297.out _;(with_reducible repeat (first|apply bN|apply bD|apply bA));refine aX ?_ N254_297.out _;(with_reducible repeat (first|apply bN|apply bD|apply bA));exact B254.out) hb);have n11_:=aK (aB (g:=gb281) (o:=.cells #[.slice Ao44 t274.length co44,.int .u64 t277,.int .u64 t278,.int .u64 t279] 25 (0,0)) (by (with_reducible repeat (first|apply bN|apply bD|apply bA));refine aX ?_ N281_297.out _;(with_reducible repeat (first|apply bN|apply bD|apply bA));refine aX ?_ N281_297.out _;(with_reducible repeat (first|apply bN|apply bD|apply bA));refine aX ?_ N281_297.out _;(with_reducible repeat (first|apply bN|apply bD|apply bA));refine aX ?_ N281_297.out _;(with_reducible repeat (first|apply bN|apply bD|apply bA));exact B281.out) hb);have n12_:=aK (aB (g:=gb289) (o:=.cells #[.slice Ao51 t282.length co51,.int .u64 t285,.int .u64 t286,.int .u64 t287] 25 (0,0)) (by (with_reducible repeat (first|apply bN|apply bD|apply bA));refine aX ?_ N289_297.out _;(with_reducible repeat (first|apply bN|apply bD|apply bA));refine aX ?_ N289_297.out _;(with_reducible repeat (first|apply bN|apply bD|apply bA));refine aX ?_ N289_297.out _;(with_reducible repeat (first|apply bN|apply bD|apply bA));refine aX ?_ N289_297.out _;(with_reducible repeat (first|apply bN|apply bD|apply bA));exact B289.out) hb);have n13_:=aK (aB (g:=gb297) (o:=.cells #[.slice Ao62 t290.length co62,.int .u64 t293,.int .u64 t294,.int .u64 t295] 28 (0,0)) (by (with_reducible repeat (first|apply bN|apply bD|apply bA));refine blk_put (cs:=#[.slice Ao62 t290.length co62,.int .u64 t293,.int .u64 t294,.int .u64 0]) ?_ 3 _ rfl;(with_reducible repeat (first|apply bN|apply bD|apply bA));refine blk_put (cs:=#[.slice Ao62 t290.length co62,.int .u64 t293,.int .u64 0,.int .u64 0]) ?_ 2 _ rfl;(with_reducible repeat (first|apply bN|apply bD|apply bA));refine blk_put (cs:=#[.slice Ao62 t290.length co62,.int .u64 0,.int .u64 0,.int .u64 0]) ?_ 1 _ rfl;(with_reducible repeat (first|apply bN|apply bD|apply bA));refine blk_put (cs:=#[.slice none 0 0,.int .u64 0,.int .u64 0,.int .u64 0]) ?_ 0 _ rfl;(with_reducible repeat (first|apply bN|apply bD|apply bA));exact B297.out) hb);have n14_:=aK (aT (by repeat (first|(with_reducible first|exact HB.out|apply aA|apply aW|apply aD|refine aS ?_ E252.out|refine aS ?_ E253.out|refine aS ?_ E254.out|refine aS ?_ E281.out|refine aS ?_ E289.out|refine aS ?_ E297.out)|exact HB.out)) hb);clear HO_253000;clear HO_254000;clear O268;clear O272;clear O276;clear O284;clear O292;clear B252;clear B253;clear B254;clear B281;clear B289;clear B297;clear HB;have HO_253000:=n0_;have HO_254000:=n1_;have O268:=n2_;have O272:=n3_;have O276:=n4_;have O284:=n5_;have O292:=n6_;have O300:=n7_;have B252:=n8_;have B253:=n9_;have B254:=n10_;have B281:=n11_;have B289:=n12_;have B297:=n13_;have HB:=n14_;clear n0_ n1_ n2_ n3_ n4_ n5_ n6_ n7_ n8_ n9_ n10_ n11_ n12_ n13_ n14_;(try clear hb);skip;(try clear ho0))|((with_reducible refine gate_dst (N:=19) rfl ?_);(try (refine gate_guard (by rfl) ?_;dsimp only));refine box_event ?hg (N:=19) ?hd (cs:=#[.slice none 0 0,.int .u64 0,.int .u64 0,.int .u64 0]) (t:=28) ?hr ?_;(case hd => rfl);(case hg => rfl);(case hr => first|(go_simp;done)|(go_simp;rfl));intro gb305 hg w72 hbox hb;have n0_:=aK (Kd.V_below (Kd.V_elderB (by (with_reducible repeat (first|apply vA|apply vN|apply vD));exact HO_253000.out) gb305 (Nat.le_of_eq hg.symm)) hb);have n1_:=aK (Kd.V_below (Kd.V_elderB (by (with_reducible repeat (first|apply vA|apply vN|apply vD));exact HO_254000.out) gb305 (Nat.le_of_eq hg.symm)) hb);have n2_:=aK (Kd.R_below (by (with_reducible repeat (first|apply zA|apply zN|apply zD));exact O268.out) hb);have n3_:=aK (Kd.R_below (by (with_reducible repeat (first|apply zA|apply zN|apply zD));exact O272.out) hb);have n4_:=aK (Kd.R_below (by (with_reducible repeat (first|apply zA|apply zN|apply zD));exact O276.out) hb);have n5_:=aK (Kd.R_below (by (with_reducible repeat (first|apply zA|apply zN|apply zD));exact O284.out) hb);have n6_:=aK (Kd.R_below (by (with_reducible repeat (first|apply zA|apply zN|apply zD));exact O292.out) hb);have n7_:=aK (Kd.R_below (by (with_reducible repeat (first|apply zA|apply zN|apply zD));exact O300.out) hb);have n8_:=aK (aB (g:=gb252) (o:=.cells #[.slice A0_0 l0_0.length c0_0,.int .u64 a0_1,.int .u64 a0_2,.int .u64 a0_3] 25 (0,0)) (by (with_reducible repeat (first|apply bN|apply bD|apply bA));exact B252.out) hb);have n9_:=aK (aB (g:=gb253) (o:=.cells #[.slice A1_0 l1_0.length c1_0,.int .u64 a1_1,.int .u64 a1_2,.int .u64 a1_3] 25 (0,0)) (by (with_reducible repeat (first|apply bN|apply bD|apply bA));exact B253.out) hb);have n10_:=aK (aB (g:=gb254) (o:=.cells #[.slice A3_0 l3_0.length c3_0,.int .u64 a3_1,.int .u64 a3_2,.int .u64 a3_3] 28 (0,0)) (by (with_reducible repeat (first|apply bN|apply bD|apply bA));exact B254.out) hb);have n11_:=aK (aB (g:=gb281) (o:=.cells #[.slice Ao44 t274.length co44,.int .u64 t277,.int .u64 t278,.int .u64 t279] 25 (0,0)) (by (with_reducible repeat (first|apply bN|apply bD|apply bA));exact B281.out) hb);have n12_:=aK (aB (g:=gb289) (o:=.cells #[.slice Ao51 t282.length co51,.int .u64 t285,.int .u64 t286,.int .u64 t287] 25 (0,0)) (by (with_reducible repeat (first|apply bN|apply bD|apply bA));exact B289.out) hb);have n13_:=aK (aB (g:=gb297) (o:=.cells #[.slice Ao62 t290.length co62,.int .u64 t293,.int .u64 t294,.int .u64 t295] 28 (0,0)) (by (with_reducible repeat (first|apply bN|apply bD|apply bA));exact B297.out) hb);have n14_:=aK (aT (by repeat (first|(with_reducible first|exact HB.out|apply aA|apply aW|apply aD|refine aS ?_ E252.out|refine aS ?_ E253.out|refine aS ?_ E254.out|refine aS ?_ E281.out|refine aS ?_ E289.out|refine aS ?_ E297.out)|exact HB.out)) hb);have n15_:=aK (hbox);have n16_:=aK ((by rw [hg];exact (aZ (by repeat (first|(with_reducible first|exact HB.out|apply aA|apply aW|apply aD|refine aS ?_ E252.out|refine aS ?_ E253.out|refine aS ?_ E254.out|refine aS ?_ E281.out|refine aS ?_ E289.out|refine aS ?_ E297.out)|exact HB.out))) : w.heap.size ≤ gb305));have n17_:=aK ((by rw [hg];exact (aZ (by repeat (first|(with_reducible first|exact HB.out|apply aA|apply aW|apply aD|refine aS ?_ E252.out|refine aS ?_ E253.out|refine aS ?_ E254.out|refine aS ?_ E281.out|refine aS ?_ E289.out|refine aS ?_ E297.out)|exact HB.out))) : w.heap.size ≤ gb305));have n18_:=aK ((by rw [hg];exact Nat.ne_of_lt (blk_lt (g:=gb252) (o:=.cells #[.slice A0_0 l0_0.length c0_0,.int .u64 a0_1,.int .u64 a0_2,.int .u64 a0_3] 25 (0,0)) (by (with_reducible repeat (first|apply bN|apply bD|apply bA));exact B252.out)) : gb252 ≠ gb305));have n19_:=aK ((by rw [hg];exact Nat.ne_of_gt (blk_lt (g:=gb252) (o:=.cells #[.slice A0_0 l0_0.length c0_0,.int .u64 a0_1,.int .u64 a0_2,.int .u64 a0_3] 25 (0,0)) (by (with_reducible repeat (first|apply bN|apply bD|apply bA));exact B252.out)) : gb305 ≠ gb252));have n20_:=aK ((by rw [hg];exact Nat.ne_of_lt (blk_lt (g:=gb253) (o:=.cells #[.slice A1_0 l1_0.length c1_0,.int .u64 a1_1,.int .u64 a1_2,.int .u64 a1_3] 25 (0,0)) (by (with_reducible repeat (first|apply bN|apply bD|apply bA));exact B253.out)) : gb253 ≠ gb305));have n21_:=aK ((by rw [hg];exact Nat.ne_of_gt (blk_lt (g:=gb253) (o:=.cells #[.slice A1_0 l1_0.length c1_0,.int .u64 a1_1,.int .u64 a1_2,.int .u64 a1_3] 25 (0,0)) (by (with_reducible repeat (first|apply bN|apply bD|apply bA));exact B253.out)) : gb305 ≠ gb253));have n22_:=aK ((by rw [hg];exact Nat.ne_of_lt (blk_lt (g:=gb254) (o:=.cells #[.slice A3_0 l3_0.length c3_0,.int .u64 a3_1,.int .u64 a3_2,.int .u64 a3_3] 28 (0,0)) (by (with_reducible repeat (first|apply bN|apply bD|apply bA));exact B254.out)) : gb254 ≠ gb305));have n23_:=aK ((by rw [hg];exact Nat.ne_of_gt (blk_lt (g:=gb254) (o:=.cells #[.slice A3_0 l3_0.length c3_0,.int .u64 a3_1,.int .u64 a3_2,.int .u64 a3_3] 28 (0,0)) (by (with_reducible repeat (first|apply bN|apply bD|apply bA));exact B254.out)) : gb305 ≠ gb254));have n24_:=aK ((by rw [hg];exact Nat.ne_of_lt (blk_lt (g:=gb281) (o:=.cells #[.slice Ao44 t274.length co44,.int .u64 t277,.int .u64 t278,.int .u64 t279] 25 (0,0)) (by (with_reducible repeat (first|apply bN|apply bD|apply bA));exact B281.out)) : gb281 ≠ gb305));have n25_:=aK ((by rw [hg];exact Nat.ne_of_gt (blk_lt (g:=gb281) (o:=.cells #[.slice Ao44 t274.length co44,.int .u64 t277,.int .u64 t278,.int .u64 t279] 25 (0,0)) (by (with_reducible repeat (first|apply bN|apply bD|apply bA));exact B281.out)) : gb305 ≠ gb281));have n26_:=aK ((by rw [hg];exact Nat.ne_of_lt (blk_lt (g:=gb289) (o:=.cells #[.slice Ao51 t282.length co51,.int .u64 t285,.int .u64 t286,.int .u64 t287] 25 (0,0)) (by (with_reducible repeat (first|apply bN|apply bD|apply bA));exact B289.out)) : gb289 ≠ gb305));have n27_:=aK ((by rw [hg];exact Nat.ne_of_gt (blk_lt (g:=gb289) (o:=.cells #[.slice Ao51 t282.length co51,.int .u64 t285,.int .u64 t286,.int .u64 t287] 25 (0,0)) (by (with_reducible repeat (first|apply bN|apply bD|apply bA));exact B289.out)) : gb305 ≠ gb289));have n28_:=aK ((by rw [hg];exact Nat.ne_of_lt (blk_lt (g:=gb297) (o:=.cells #[.slice Ao62 t290.length co62,.int .u64 t293,.int .u64 t294,.int .u64 t295] 28 (0,0)) (by (with_reducible repeat (first|apply bN|apply bD|apply bA));exact B297.out)) : gb297 ≠ gb305));have n29_:=aK ((by rw [hg];exact Nat.ne_of_gt (blk_lt (g:=gb297) (o:=.cells #[.slice Ao62 t290.length co62,.int .u64 t293,.int .u64 t294,.int .u64 t295] 28 (0,0)) (by (with_reducible repeat (first|apply bN|apply bD|apply bA));exact B297.out)) : gb305 ≠ gb297));clear HO_253000;clear HO_254000;clear O268;clear O272;clear O276;clear O284;clear O292;clear O300;clear B252;clear B253;clear B254;clear B281;clear B289;clear B297;clear HB;have HO_253000:=n0_;have HO_254000:=n1_;have O268:=n2_;have O272:=n3_;have O276:=n4_;have O284:=n5_;have O292:=n6_;have O300:=n7_;have B252:=n8_;have B253:=n9_;have B254:=n10_;have B281:=n11_;have B289:=n12_;have B297:=n13_;have HB:=n14_;have B305:=n15_;have W305:=n16_;have E305:=n17_;have N252_305:=n18_;have N305_252:=n19_;have N253_305:=n20_;have N305_253:=n21_;have N254_305:=n22_;have N305_254:=n23_;have N281_305:=n24_;have N305_281:=n25_;have N289_305:=n26_;have N305_289:=n27_;have N297_305:=n28_;have N305_297:=n29_;clear n0_ n1_ n2_ n3_ n4_ n5_ n6_ n7_ n8_ n9_ n10_ n11_ n12_ n13_ n14_ n15_ n16_ n17_ n18_ n19_ n20_ n21_ n22_ n23_ n24_ n25_ n26_ n27_ n28_ n29_;clear hb hbox hg;obtain ⟨Ao73,co73,eo73⟩:=Kd.R_slice O300.out;subst eo73;have hnb74:=N305_252.out;have hnc74:=N252_305.out;have hnb75:=N305_253.out;have hnc75:=N253_305.out;have hnb76:=N305_254.out;have hnc76:=N254_305.out;have hnb77:=N305_281.out;have hnc77:=N281_305.out;have hnb78:=N305_289.out;have hnc78:=N289_305.out;have hnb79:=N305_297.out;have hnc79:=N297_305.out;have z80_0 : w72.cell? ⟨gb305,0,none⟩ = some (.slice none 0 0):=(aC B305.out 0).trans rfl;have z80_1 : w72.cell? ⟨gb305,1,none⟩ = some (.int .u64 0):=(aC B305.out 1).trans rfl;have z80_2 : w72.cell? ⟨gb305,2,none⟩ = some (.int .u64 0):=(aC B305.out 2).trans rfl;have z80_3 : w72.cell? ⟨gb305,3,none⟩ = some (.int .u64 0):=(aC B305.out 3).trans rfl;have f80_0:=aF B305.out 0;have f80_1:=aF B305.out 1;have f80_2:=aF B305.out 2;have f80_3:=aF B305.out 3))
    (try simp only [Act.put,sA,sZ,sS])
    go_cut [101] (fun v101 wc => ∃ (kq : Nat) (x101_34 : Bool),v101 = .bool x101_34 ∧ Aside0 (j1 kq t296 t304 x101_34 l3_0 a3_1 a3_2 a3_3 t290 t293 t294 t295 t298 t301 t302 t303 = some r) ∧ Aside0 (kq ≤ kj4) ∧ Aside0 (Kd.V k58 58 wc w.heap.size (fun k_ => ((P0_0_ k_ ∨ P1_0_ k_) ∨ w.heap.size ≤ k_) ∧ nO k_ ((.slice Ao44 t274.length co44)) ∧ nO k_ ((.slice Ao51 t282.length co51)) ∧ nO k_ ((.slice Ao62 t290.length co62)) ∧ nO k_ ((.slice Ao73 t298.length co73)) ∧ k_ ≠ gb252 ∧ k_ ≠ gb253 ∧ k_ ≠ gb254 ∧ k_ ≠ gb281 ∧ k_ ≠ gb289 ∧ k_ ≠ gb297 ∧ k_ ≠ gb305) (.slice A0_0 l0_0.length c0_0) l0_0) ∧ Aside0 (Kd.V k58 58 wc w.heap.size (fun k_ => ((P0_0_ k_ ∨ P1_0_ k_) ∨ w.heap.size ≤ k_) ∧ nO k_ ((.slice Ao44 t274.length co44)) ∧ nO k_ ((.slice Ao51 t282.length co51)) ∧ nO k_ ((.slice Ao62 t290.length co62)) ∧ nO k_ ((.slice Ao73 t298.length co73)) ∧ k_ ≠ gb252 ∧ k_ ≠ gb253 ∧ k_ ≠ gb254 ∧ k_ ≠ gb281 ∧ k_ ≠ gb289 ∧ k_ ≠ gb297 ∧ k_ ≠ gb305) (.slice A1_0 l1_0.length c1_0) l1_0) ∧ Aside0 (Kd.R k58 58 wc w.heap.size (fun k_ => (w.heap.size ≤ k_) ∧ nO k_ ((.slice Ao51 t282.length co51)) ∧ nO k_ ((.slice Ao62 t290.length co62)) ∧ nO k_ ((.slice Ao73 t298.length co73))) (.slice Ao44 t274.length co44) t274) ∧ Aside0 (Kd.R k58 58 wc w.heap.size (fun k_ => (w.heap.size ≤ k_) ∧ nO k_ ((.slice Ao44 t274.length co44)) ∧ nO k_ ((.slice Ao62 t290.length co62)) ∧ nO k_ ((.slice Ao73 t298.length co73))) (.slice Ao51 t282.length co51) t282) ∧ Aside0 (Kd.R k58 58 wc w.heap.size (fun k_ => (w.heap.size ≤ k_) ∧ nO k_ ((.slice Ao44 t274.length co44)) ∧ nO k_ ((.slice Ao51 t282.length co51)) ∧ nO k_ ((.slice Ao73 t298.length co73))) (.slice Ao62 t290.length co62) t290) ∧ Aside0 (Kd.R k58 58 wc w.heap.size (fun k_ => (w.heap.size ≤ k_) ∧ nO k_ ((.slice Ao44 t274.length co44)) ∧ nO k_ ((.slice Ao51 t282.length co51)) ∧ nO k_ ((.slice Ao62 t290.length co62))) (.slice Ao73 t298.length co73) t298) ∧ Aside0 (wc.heap[gb252]? = some (.cells #[(.slice A0_0 l0_0.length c0_0),.int .u64 a0_1,.int .u64 a0_2,.int .u64 a0_3] 25 (0,0))) ∧ Aside0 (wc.heap[gb253]? = some (.cells #[(.slice A1_0 l1_0.length c1_0),.int .u64 a1_1,.int .u64 a1_2,.int .u64 a1_3] 25 (0,0))) ∧ Aside0 (wc.heap[gb254]? = some (.cells #[(.slice A3_0 l3_0.length c3_0),.int .u64 a3_1,.int .u64 a3_2,.int .u64 a3_3] 28 (0,0))) ∧ Aside0 (wc.heap[gb281]? = some (.cells #[(.slice Ao44 t274.length co44),.int .u64 t277,.int .u64 t278,.int .u64 t279] 25 (0,0))) ∧ Aside0 (wc.heap[gb289]? = some (.cells #[(.slice Ao51 t282.length co51),.int .u64 t285,.int .u64 t286,.int .u64 t287] 25 (0,0))) ∧ Aside0 (wc.heap[gb297]? = some (.cells #[(.slice Ao62 t290.length co62),.int .u64 t293,.int .u64 t294,.int .u64 t295] 28 (0,0))) ∧ Aside0 (wc.heap[gb305]? = some (.cells #[(.slice Ao73 t298.length co73),.int .u64 t301,.int .u64 t302,.int .u64 t303] 28 (0,0))) ∧ Aside0 (Below w.heap.size w wc))
    case first =>
     have H:=HC35.out
     clear HC35
     replace H:=Option.bind_eq_some_iff.mp H
     obtain ⟨t306,A810,H⟩:=H
     have A81:=aK A810
     clear A810
     replace H:=Option.bind_eq_some_iff.mp H
     obtain ⟨t307,A820,H⟩:=H
     have A82:=aK A820
     clear A820
     by_cases c83 : (t306 != t307) = true
     ·rw [if_pos c83] at H
      exact absurd H (by cases kj4 <;> simp [j1])
     ·rw [if_neg c83] at H
      have c83b0 : (t306 != t307) = false:=by simpa using c83
      (try (have c83b1 : decide (t306 = t307) = true:=by simpa using c83))
      (try (have c83b2 : (t306 == t307) = true:=by simpa using c83))
      clear c83
      (first|rw [c83b0]|(simp only [i64_w,i32_w];rw [c83b0])|skip)
      replace H:=Option.bind_eq_some_iff.mp H
      obtain ⟨t308,A880,H⟩:=H
      have A88:=aK A880
      clear A880
      replace H:=Option.bind_eq_some_iff.mp H
      obtain ⟨t309,A890,H⟩:=H
      have A89:=aK A890
      clear A890
      by_cases c90 : (t308 != t309) = true
      ·rw [if_pos c90] at H
       exact absurd H (by cases kj4 <;> simp [j1])
      ·rw [if_neg c90] at H
       have c90b0 : (t308 != t309) = false:=by simpa using c90
       (try (have c90b1 : decide (t308 = t309) = true:=by simpa using c90))
       (try (have c90b2 : (t308 == t309) = true:=by simpa using c90))
       clear c90
       replace H:=Option.bind_eq_some_iff.mp H
       obtain ⟨t310,A970,H⟩:=H
       replace H : (if t310 = true then (if t269 = t273 then ((ratlineref09_Same.f kj4 t274 t277 t278 t279 t282 t285 t286 t287).bind fun t311 => (if t311 = true then (j1 kj4 t296 t304 (t280 != t288) l3_0 a3_1 a3_2 a3_3 t290 t293 t294 t295 t298 t301 t302 t303) else (j1 kj4 t296 t304 true l3_0 a3_1 a3_2 a3_3 t290 t293 t294 t295 t298 t301 t302 t303))) else (j1 kj4 t296 t304 true l3_0 a3_1 a3_2 a3_3 t290 t293 t294 t295 t298 t301 t302 t303)) else (j1 kj4 t296 t304 true l3_0 a3_1 a3_2 a3_3 t290 t293 t294 t295 t298 t301 t302 t303)) = some r:=H
       have A97:=aK A970
       clear A970
       by_cases c98 : t310 = true
       ·subst c98
        have H1 : (if t269 = t273 then ((ratlineref09_Same.f kj4 t274 t277 t278 t279 t282 t285 t286 t287).bind fun t311 => (if t311 = true then (j1 kj4 t296 t304 (t280 != t288) l3_0 a3_1 a3_2 a3_3 t290 t293 t294 t295 t298 t301 t302 t303) else (j1 kj4 t296 t304 true l3_0 a3_1 a3_2 a3_3 t290 t293 t294 t295 t298 t301 t302 t303))) else (j1 kj4 t296 t304 true l3_0 a3_1 a3_2 a3_3 t290 t293 t294 t295 t298 t301 t302 t303)) = some r:=by rw [if_pos rfl] at H;exact H
        clear H
        have H:=H1
        clear H1
        by_cases c99 : t269 = t273
        ·rw [if_pos c99] at H
         have c99b0 : (t269 == t273) = true:=beq_iff_eq.mpr c99
         have c99b1 : (t269 != t273) = false:=bne_eq_false_iff_eq.mpr c99
         clear c99
         replace H:=Option.bind_eq_some_iff.mp H
         obtain ⟨t311,A1000,H⟩:=H
         replace H : (if t311 = true then (j1 kj4 t296 t304 (t280 != t288) l3_0 a3_1 a3_2 a3_3 t290 t293 t294 t295 t298 t301 t302 t303) else (j1 kj4 t296 t304 true l3_0 a3_1 a3_2 a3_3 t290 t293 t294 t295 t298 t301 t302 t303)) = some r:=H
         have A100:=aK A1000
         clear A1000
         by_cases c101 : t311 = true
         ·subst c101
          have H1 : (j1 kj4 t296 t304 (t280 != t288) l3_0 a3_1 a3_2 a3_3 t290 t293 t294 t295 t298 t301 t302 t303) = some r:=by rw [if_pos rfl] at H;exact H
          clear H
          have H:=H1
          clear H1
          have H':=aK H
          clear H
          try go_wp2
          have n0_ : Aside0 (Kd.V k58 58 ((((w72.setCell ⟨gb305,0,none⟩ (.slice Ao73 t298.length co73)).setCell ⟨gb305,1,none⟩ (.int .u64 t301)).setCell ⟨gb305,2,none⟩ (.int .u64 t302)).setCell ⟨gb305,3,none⟩ (.int .u64 t303)) w.heap.size (fun k_ => ((P0_0_ k_ ∨ P1_0_ k_) ∨ w.heap.size ≤ k_) ∧ nO k_ v267 ∧ nO k_ v271 ∧ nB k_ Ao44 t274.length co44 ∧ nB k_ Ao51 t282.length co51 ∧ nB k_ Ao62 t290.length co62 ∧ nB k_ Ao73 t298.length co73 ∧ k_ ≠ gb252 ∧ k_ ≠ gb253 ∧ k_ ≠ gb254 ∧ k_ ≠ gb281 ∧ k_ ≠ gb289 ∧ k_ ≠ gb297 ∧ k_ ≠ gb305) (.slice A0_0 l0_0.length c0_0) l0_0):=⟨by (with_reducible repeat (first|apply vA|apply vN|apply vD));exact aN (aU (p:=⟨gb305,3,none⟩) (aU (p:=⟨gb305,2,none⟩) (aU (p:=⟨gb305,1,none⟩) (aU (p:=⟨gb305,0,none⟩) (aN HO_253000.out (fun k_ hk => (⟨hk,hk.2⟩ : _ ∧ k_ ≠ gb305))) (fun _ hk => hk.2) (.slice Ao73 t298.length co73)) (fun _ hk => hk.2) (.int .u64 t301)) (fun _ hk => hk.2) (.int .u64 t302)) (fun _ hk => hk.2) (.int .u64 t303)) (fun _ hk => ⟨hk.1.1.1.1.1.1.1.1.1.1.1.1,⟨hk.1.1.1.1.1.1.1.1.1.1.2,⟨hk.1.1.1.1.1.1.1.1.1.2,⟨hk.1.1.1.1.1.1.1.1.2,⟨hk.1.1.1.1.1.1.2,⟨hk.1.1.1.1.2,⟨hk.1.1.2,⟨hk.1.1.1.1.1.1.1.1.1.1.1.2.1,⟨hk.1.1.1.1.1.1.1.1.1.1.1.2.2.1,⟨hk.1.1.1.1.1.1.1.1.1.1.1.2.2.2,⟨hk.1.1.1.1.1.1.1.2,⟨hk.1.1.1.1.1.2,⟨hk.1.1.1.2,hk.1.2⟩⟩⟩⟩⟩⟩⟩⟩⟩⟩⟩⟩⟩)⟩
          have n1_ : Aside0 (Kd.V k58 58 ((((w72.setCell ⟨gb305,0,none⟩ (.slice Ao73 t298.length co73)).setCell ⟨gb305,1,none⟩ (.int .u64 t301)).setCell ⟨gb305,2,none⟩ (.int .u64 t302)).setCell ⟨gb305,3,none⟩ (.int .u64 t303)) w.heap.size (fun k_ => ((P0_0_ k_ ∨ P1_0_ k_) ∨ w.heap.size ≤ k_) ∧ nO k_ v267 ∧ nO k_ v271 ∧ nB k_ Ao44 t274.length co44 ∧ nB k_ Ao51 t282.length co51 ∧ nB k_ Ao62 t290.length co62 ∧ nB k_ Ao73 t298.length co73 ∧ k_ ≠ gb252 ∧ k_ ≠ gb253 ∧ k_ ≠ gb254 ∧ k_ ≠ gb281 ∧ k_ ≠ gb289 ∧ k_ ≠ gb297 ∧ k_ ≠ gb305) (.slice A1_0 l1_0.length c1_0) l1_0):=⟨by (with_reducible repeat (first|apply vA|apply vN|apply vD));exact aN (aU (p:=⟨gb305,3,none⟩) (aU (p:=⟨gb305,2,none⟩) (aU (p:=⟨gb305,1,none⟩) (aU (p:=⟨gb305,0,none⟩) (aN HO_254000.out (fun k_ hk => (⟨hk,hk.2⟩ : _ ∧ k_ ≠ gb305))) (fun _ hk => hk.2) (.slice Ao73 t298.length co73)) (fun _ hk => hk.2) (.int .u64 t301)) (fun _ hk => hk.2) (.int .u64 t302)) (fun _ hk => hk.2) (.int .u64 t303)) (fun _ hk => ⟨hk.1.1.1.1.1.1.1.1.1.1.1.1,⟨hk.1.1.1.1.1.1.1.1.1.1.2,⟨hk.1.1.1.1.1.1.1.1.1.2,⟨hk.1.1.1.1.1.1.1.1.2,⟨hk.1.1.1.1.1.1.2,⟨hk.1.1.1.1.2,⟨hk.1.1.2,⟨hk.1.1.1.1.1.1.1.1.1.1.1.2.1,⟨hk.1.1.1.1.1.1.1.1.1.1.1.2.2.1,⟨hk.1.1.1.1.1.1.1.1.1.1.1.2.2.2,⟨hk.1.1.1.1.1.1.1.2,⟨hk.1.1.1.1.1.2,⟨hk.1.1.1.2,hk.1.2⟩⟩⟩⟩⟩⟩⟩⟩⟩⟩⟩⟩⟩)⟩
          have n2_ : Aside0 (Kd.R (Kd.int .u8) 5 ((((w72.setCell ⟨gb305,0,none⟩ (.slice Ao73 t298.length co73)).setCell ⟨gb305,1,none⟩ (.int .u64 t301)).setCell ⟨gb305,2,none⟩ (.int .u64 t302)).setCell ⟨gb305,3,none⟩ (.int .u64 t303)) w.heap.size (fun k_ => (w.heap.size ≤ k_) ∧ nO k_ v271) v267 t266):=⟨by (with_reducible repeat (first|apply zA|apply zN|apply zD));exact aM (aY (p:=⟨gb305,3,none⟩) (aY (p:=⟨gb305,2,none⟩) (aY (p:=⟨gb305,1,none⟩) (aY (p:=⟨gb305,0,none⟩) (aP O268.out B305.out (by decide)) (fun _ hk => hk.2) (.slice Ao73 t298.length co73)) (fun _ hk => hk.2) (.int .u64 t301)) (fun _ hk => hk.2) (.int .u64 t302)) (fun _ hk => hk.2) (.int .u64 t303)) (fun _ hk => ⟨hk.1.1.1,hk.1.2⟩)⟩
          have n3_ : Aside0 (Kd.R (Kd.int .u8) 5 ((((w72.setCell ⟨gb305,0,none⟩ (.slice Ao73 t298.length co73)).setCell ⟨gb305,1,none⟩ (.int .u64 t301)).setCell ⟨gb305,2,none⟩ (.int .u64 t302)).setCell ⟨gb305,3,none⟩ (.int .u64 t303)) w.heap.size (fun k_ => (w.heap.size ≤ k_) ∧ nO k_ v267) v271 t270):=⟨by (with_reducible repeat (first|apply zA|apply zN|apply zD));exact aM (aY (p:=⟨gb305,3,none⟩) (aY (p:=⟨gb305,2,none⟩) (aY (p:=⟨gb305,1,none⟩) (aY (p:=⟨gb305,0,none⟩) (aP O272.out B305.out (by decide)) (fun _ hk => hk.2) (.slice Ao73 t298.length co73)) (fun _ hk => hk.2) (.int .u64 t301)) (fun _ hk => hk.2) (.int .u64 t302)) (fun _ hk => hk.2) (.int .u64 t303)) (fun _ hk => ⟨hk.1.1.1,hk.1.2⟩)⟩
          have n4_ : Aside0 (Kd.R k58 58 ((((w72.setCell ⟨gb305,0,none⟩ (.slice Ao73 t298.length co73)).setCell ⟨gb305,1,none⟩ (.int .u64 t301)).setCell ⟨gb305,2,none⟩ (.int .u64 t302)).setCell ⟨gb305,3,none⟩ (.int .u64 t303)) w.heap.size (fun k_ => (w.heap.size ≤ k_) ∧ nB k_ Ao51 t282.length co51 ∧ nB k_ Ao62 t290.length co62 ∧ nB k_ Ao73 t298.length co73) (.slice Ao44 t274.length co44) t274):=⟨by (with_reducible repeat (first|apply zA|apply zN|apply zD));exact aM (aY (p:=⟨gb305,3,none⟩) (aY (p:=⟨gb305,2,none⟩) (aY (p:=⟨gb305,1,none⟩) (aY (p:=⟨gb305,0,none⟩) (aP O276.out B305.out (by decide)) (fun _ hk => hk.2) (.slice Ao73 t298.length co73)) (fun _ hk => hk.2) (.int .u64 t301)) (fun _ hk => hk.2) (.int .u64 t302)) (fun _ hk => hk.2) (.int .u64 t303)) (fun _ hk => ⟨hk.1.1.1.1.1,⟨hk.1.1.1.2,⟨hk.1.1.2,hk.1.2⟩⟩⟩)⟩
          have n5_ : Aside0 (Kd.R k58 58 ((((w72.setCell ⟨gb305,0,none⟩ (.slice Ao73 t298.length co73)).setCell ⟨gb305,1,none⟩ (.int .u64 t301)).setCell ⟨gb305,2,none⟩ (.int .u64 t302)).setCell ⟨gb305,3,none⟩ (.int .u64 t303)) w.heap.size (fun k_ => (w.heap.size ≤ k_) ∧ nB k_ Ao44 t274.length co44 ∧ nB k_ Ao62 t290.length co62 ∧ nB k_ Ao73 t298.length co73) (.slice Ao51 t282.length co51) t282):=⟨by (with_reducible repeat (first|apply zA|apply zN|apply zD));exact aM (aY (p:=⟨gb305,3,none⟩) (aY (p:=⟨gb305,2,none⟩) (aY (p:=⟨gb305,1,none⟩) (aY (p:=⟨gb305,0,none⟩) (aP O284.out B305.out (by decide)) (fun _ hk => hk.2) (.slice Ao73 t298.length co73)) (fun _ hk => hk.2) (.int .u64 t301)) (fun _ hk => hk.2) (.int .u64 t302)) (fun _ hk => hk.2) (.int .u64 t303)) (fun _ hk => ⟨hk.1.1.1.1.1,⟨hk.1.1.1.2,⟨hk.1.1.2,hk.1.2⟩⟩⟩)⟩
          have n6_ : Aside0 (Kd.R k58 58 ((((w72.setCell ⟨gb305,0,none⟩ (.slice Ao73 t298.length co73)).setCell ⟨gb305,1,none⟩ (.int .u64 t301)).setCell ⟨gb305,2,none⟩ (.int .u64 t302)).setCell ⟨gb305,3,none⟩ (.int .u64 t303)) w.heap.size (fun k_ => (w.heap.size ≤ k_) ∧ nB k_ Ao44 t274.length co44 ∧ nB k_ Ao51 t282.length co51 ∧ nB k_ Ao73 t298.length co73) (.slice Ao62 t290.length co62) t290):=⟨by (with_reducible repeat (first|apply zA|apply zN|apply zD));exact aM (aY (p:=⟨gb305,3,none⟩) (aY (p:=⟨gb305,2,none⟩) (aY (p:=⟨gb305,1,none⟩) (aY (p:=⟨gb305,0,none⟩) (aP O292.out B305.out (by decide)) (fun _ hk => hk.2) (.slice Ao73 t298.length co73)) (fun _ hk => hk.2) (.int .u64 t301)) (fun _ hk => hk.2) (.int .u64 t302)) (fun _ hk => hk.2) (.int .u64 t303)) (fun _ hk => ⟨hk.1.1.1.1.1,⟨hk.1.1.1.2,⟨hk.1.1.2,hk.1.2⟩⟩⟩)⟩
          have n7_ : Aside0 (Kd.R k58 58 ((((w72.setCell ⟨gb305,0,none⟩ (.slice Ao73 t298.length co73)).setCell ⟨gb305,1,none⟩ (.int .u64 t301)).setCell ⟨gb305,2,none⟩ (.int .u64 t302)).setCell ⟨gb305,3,none⟩ (.int .u64 t303)) w.heap.size (fun k_ => (w.heap.size ≤ k_) ∧ nB k_ Ao44 t274.length co44 ∧ nB k_ Ao51 t282.length co51 ∧ nB k_ Ao62 t290.length co62) (.slice Ao73 t298.length co73) t298):=⟨by (with_reducible repeat (first|apply zA|apply zN|apply zD));exact aM (aY (p:=⟨gb305,3,none⟩) (aY (p:=⟨gb305,2,none⟩) (aY (p:=⟨gb305,1,none⟩) (aY (p:=⟨gb305,0,none⟩) (aP O300.out B305.out (by decide)) (fun _ hk => hk.2) (.slice Ao73 t298.length co73)) (fun _ hk => hk.2) (.int .u64 t301)) (fun _ hk => hk.2) (.int .u64 t302)) (fun _ hk => hk.2) (.int .u64 t303)) (fun _ hk => ⟨hk.1.1.1.1.1,⟨hk.1.1.1.2,⟨hk.1.1.2,hk.1.2⟩⟩⟩)⟩
          have n8_ : Aside0 (((((w72.setCell ⟨gb305,0,none⟩ (.slice Ao73 t298.length co73)).setCell ⟨gb305,1,none⟩ (.int .u64 t301)).setCell ⟨gb305,2,none⟩ (.int .u64 t302)).setCell ⟨gb305,3,none⟩ (.int .u64 t303)).heap[gb252]? = some (.cells #[.slice A0_0 l0_0.length c0_0,.int .u64 a0_1,.int .u64 a0_2,.int .u64 a0_3] 25 (0,0))):=⟨by (with_reducible repeat (first|apply bN|apply bD|apply bA));refine aX ?_ N252_305.out _;(with_reducible repeat (first|apply bN|apply bD|apply bA));refine aX ?_ N252_305.out _;(with_reducible repeat (first|apply bN|apply bD|apply bA));refine aX ?_ N252_305.out _;(with_reducible repeat (first|apply bN|apply bD|apply bA));refine aX ?_ N252_305.out _;(with_reducible repeat (first|apply bN|apply bD|apply bA));exact B252.out⟩
          have n9_ : Aside0 (((((w72.setCell ⟨gb305,0,none⟩ (.slice Ao73 t298.length co73)).setCell ⟨gb305,1,none⟩ (.int .u64 t301)).setCell ⟨gb305,2,none⟩ (.int .u64 t302)).setCell ⟨gb305,3,none⟩ (.int .u64 t303)).heap[gb253]? = some (.cells #[.slice A1_0 l1_0.length c1_0,.int .u64 a1_1,.int .u64 a1_2,.int .u64 a1_3] 25 (0,0))):=⟨by (with_reducible repeat (first|apply bN|apply bD|apply bA));refine aX ?_ N253_305.out _;(with_reducible repeat (first|apply bN|apply bD|apply bA));refine aX ?_ N253_305.out _;(with_reducible repeat (first|apply bN|apply bD|apply bA));refine aX ?_ N253_305.out _;(with_reducible repeat (first|apply bN|apply bD|apply bA));refine aX ?_ N253_305.out _;(with_reducible repeat (first|apply bN|apply bD|apply bA));exact B253.out⟩
          have n10_ : Aside0 (((((w72.setCell ⟨gb305,0,none⟩ (.slice Ao73 t298.length co73)).setCell ⟨gb305,1,none⟩ (.int .u64 t301)).setCell ⟨gb305,2,none⟩ (.int .u64 t302)).setCell ⟨gb305,3,none⟩ (.int .u64 t303)).heap[gb254]? = some (.cells #[.slice A3_0 l3_0.length c3_0,.int .u64 a3_1,.int .u64 a3_2,.int .u64 a3_3] 28 (0,0))):=⟨by (with_reducible repeat (first|apply bN|apply bD|apply bA));refine aX ?_ N254_305.out _;(with_reducible repeat (first|apply bN|apply bD|apply bA));refine aX ?_ N254_305.out _;(with_reducible repeat (first|apply bN|apply bD|apply bA));refine aX ?_ N254_305.out _;(with_reducible repeat (first|apply bN|apply bD|apply bA));refine aX ?_ N254_305.out _;(with_reducible repeat (first|apply bN|apply bD|apply bA));exact B254.out⟩
          have n11_ : Aside0 (((((w72.setCell ⟨gb305,0,none⟩ (.slice Ao73 t298.length co73)).setCell ⟨gb305,1,none⟩ (.int .u64 t301)).setCell ⟨gb305,2,none⟩ (.int .u64 t302)).setCell ⟨gb305,3,none⟩ (.int .u64 t303)).heap[gb281]? = some (.cells #[.slice Ao44 t274.length co44,.int .u64 t277,.int .u64 t278,.int .u64 t279] 25 (0,0))):=⟨by (with_reducible repeat (first|apply bN|apply bD|apply bA));refine aX ?_ N281_305.out _;(with_reducible repeat (first|apply bN|apply bD|apply bA));refine aX ?_ N281_305.out _;(with_reducible repeat (first|apply bN|apply bD|apply bA));refine aX ?_ N281_305.out _;(with_reducible repeat (first|apply bN|apply bD|apply bA));refine aX ?_ N281_305.out _;(with_reducible repeat (first|apply bN|apply bD|apply bA));exact B281.out⟩
          have n12_ : Aside0 (((((w72.setCell ⟨gb305,0,none⟩ (.slice Ao73 t298.length co73)).setCell ⟨gb305,1,none⟩ (.int .u64 t301)).setCell ⟨gb305,2,none⟩ (.int .u64 t302)).setCell ⟨gb305,3,none⟩ (.int .u64 t303)).heap[gb289]? = some (.cells #[.slice Ao51 t282.length co51,.int .u64 t285,.int .u64 t286,.int .u64 t287] 25 (0,0))):=⟨by (with_reducible repeat (first|apply bN|apply bD|apply bA));refine aX ?_ N289_305.out _;(with_reducible repeat (first|apply bN|apply bD|apply bA));refine aX ?_ N289_305.out _;(with_reducible repeat (first|apply bN|apply bD|apply bA));refine aX ?_ N289_305.out _;(with_reducible repeat (first|apply bN|apply bD|apply bA));refine aX ?_ N289_305.out _;(with_reducible repeat (first|apply bN|apply bD|apply bA));exact B289.out⟩
          have n13_ : Aside0 (((((w72.setCell ⟨gb305,0,none⟩ (.slice Ao73 t298.length co73)).setCell ⟨gb305,1,none⟩ (.int .u64 t301)).setCell ⟨gb305,2,none⟩ (.int .u64 t302)).setCell ⟨gb305,3,none⟩ (.int .u64 t303)).heap[gb297]? = some (.cells #[.slice Ao62 t290.length co62,.int .u64 t293,.int .u64 t294,.int .u64 t295] 28 (0,0))):=⟨by (with_reducible repeat (first|apply bN|apply bD|apply bA));refine aX ?_ N297_305.out _;(with_reducible repeat (first|apply bN|apply bD|apply bA));refine aX ?_ N297_305.out _;(with_reducible repeat (first|apply bN|apply bD|apply bA));refine aX ?_ N297_305.out _;(with_reducible repeat (first|apply bN|apply bD|apply bA));refine aX ?_ N297_305.out _;(with_reducible repeat (first|apply bN|apply bD|apply bA));exact B297.out⟩
          have n14_ : Aside0 (((((w72.setCell ⟨gb305,0,none⟩ (.slice Ao73 t298.length co73)).setCell ⟨gb305,1,none⟩ (.int .u64 t301)).setCell ⟨gb305,2,none⟩ (.int .u64 t302)).setCell ⟨gb305,3,none⟩ (.int .u64 t303)).heap[gb305]? = some (.cells #[.slice Ao73 t298.length co73,.int .u64 t301,.int .u64 t302,.int .u64 t303] 28 (0,0))):=⟨by (with_reducible repeat (first|apply bN|apply bD|apply bA));refine blk_put (cs:=#[.slice Ao73 t298.length co73,.int .u64 t301,.int .u64 t302,.int .u64 0]) ?_ 3 _ rfl;(with_reducible repeat (first|apply bN|apply bD|apply bA));refine blk_put (cs:=#[.slice Ao73 t298.length co73,.int .u64 t301,.int .u64 0,.int .u64 0]) ?_ 2 _ rfl;(with_reducible repeat (first|apply bN|apply bD|apply bA));refine blk_put (cs:=#[.slice Ao73 t298.length co73,.int .u64 0,.int .u64 0,.int .u64 0]) ?_ 1 _ rfl;(with_reducible repeat (first|apply bN|apply bD|apply bA));refine blk_put (cs:=#[.slice none 0 0,.int .u64 0,.int .u64 0,.int .u64 0]) ?_ 0 _ rfl;(with_reducible repeat (first|apply bN|apply bD|apply bA));exact B305.out⟩
          have n15_ : Aside0 (Below w.heap.size w ((((w72.setCell ⟨gb305,0,none⟩ (.slice Ao73 t298.length co73)).setCell ⟨gb305,1,none⟩ (.int .u64 t301)).setCell ⟨gb305,2,none⟩ (.int .u64 t302)).setCell ⟨gb305,3,none⟩ (.int .u64 t303))):=⟨by repeat (first|(with_reducible first|exact HB.out|apply aA|apply aW|apply aD|refine aS ?_ E252.out|refine aS ?_ E253.out|refine aS ?_ E254.out|refine aS ?_ E281.out|refine aS ?_ E289.out|refine aS ?_ E297.out|refine aS ?_ E305.out)|exact HB.out)⟩
          (try clear HO_253000)
          (try clear HO_254000)
          (try clear O268)
          (try clear O272)
          (try clear O276)
          (try clear O284)
          (try clear O292)
          (try clear O300)
          (try clear B252)
          (try clear B253)
          (try clear B254)
          (try clear B281)
          (try clear B289)
          (try clear B297)
          (try clear B305)
          (try clear HB)
          generalize ((((w72.setCell ⟨gb305,0,none⟩ (.slice Ao73 t298.length co73)).setCell ⟨gb305,1,none⟩ (.int .u64 t301)).setCell ⟨gb305,2,none⟩ (.int .u64 t302)).setCell ⟨gb305,3,none⟩ (.int .u64 t303)) = w102 at n0_ n1_ n2_ n3_ n4_ n5_ n6_ n7_ n8_ n9_ n10_ n11_ n12_ n13_ n14_ n15_ ⊢
          have HO_253000:=n0_
          have HO_254000:=n1_
          have O268:=n2_
          have O272:=n3_
          have O276:=n4_
          have O284:=n5_
          have O292:=n6_
          have O300:=n7_
          have B252:=n8_
          have B253:=n9_
          have B254:=n10_
          have B281:=n11_
          have B289:=n12_
          have B297:=n13_
          have B305:=n14_
          have HB:=n15_
          clear n0_ n1_ n2_ n3_ n4_ n5_ n6_ n7_ n8_ n9_ n10_ n11_ n12_ n13_ n14_ n15_
          have n0_:=aK (Kd.V_drew HO_253000.out)
          have n1_:=aK (Kd.V_drew HO_254000.out)
          have n2_:=aK (Kd.R_drew O268.out)
          have n3_:=aK (Kd.R_drew O272.out)
          have n4_:=aK (Kd.R_drew O276.out)
          have n5_:=aK (Kd.R_drew O284.out)
          have n6_:=aK (Kd.R_drew O292.out)
          have n7_:=aK (Kd.R_drew O300.out)
          have n8_:=aK (blk_drew B252.out)
          have n9_:=aK (blk_drew B253.out)
          have n10_:=aK (blk_drew B254.out)
          have n11_:=aK (blk_drew B281.out)
          have n12_:=aK (blk_drew B289.out)
          have n13_:=aK (blk_drew B297.out)
          have n14_:=aK (blk_drew B305.out)
          have n15_:=aK (aD HB.out)
          clear HO_253000
          clear HO_254000
          clear O268
          clear O272
          clear O276
          clear O284
          clear O292
          clear O300
          clear B252
          clear B253
          clear B254
          clear B281
          clear B289
          clear B297
          clear B305
          clear HB
          have HO_253000:=n0_
          have HO_254000:=n1_
          have O268:=n2_
          have O272:=n3_
          have O276:=n4_
          have O284:=n5_
          have O292:=n6_
          have O300:=n7_
          have B252:=n8_
          have B253:=n9_
          have B254:=n10_
          have B281:=n11_
          have B289:=n12_
          have B297:=n13_
          have B305:=n14_
          have HB:=n15_
          clear n0_ n1_ n2_ n3_ n4_ n5_ n6_ n7_ n8_ n9_ n10_ n11_ n12_ n13_ n14_ n15_
          refine start_ (n:=36) (S:=fun w' => w'.cell? ⟨gb252,0,none⟩ = some (.slice A0_0 l0_0.length c0_0) ∧ w'.cell? ⟨gb252,1,none⟩ = some (.int .u64 a0_1) ∧ w'.cell? ⟨gb252,2,none⟩ = some (.int .u64 a0_2) ∧ w'.cell? ⟨gb252,3,none⟩ = some (.int .u64 a0_3) ∧ w'.cell? ⟨gb253,0,none⟩ = some (.slice A1_0 l1_0.length c1_0) ∧ w'.cell? ⟨gb253,1,none⟩ = some (.int .u64 a1_1) ∧ w'.cell? ⟨gb253,2,none⟩ = some (.int .u64 a1_2) ∧ w'.cell? ⟨gb253,3,none⟩ = some (.int .u64 a1_3) ∧ w'.cell? ⟨gb281,0,none⟩ = some (.slice Ao44 t274.length co44) ∧ w'.cell? ⟨gb281,1,none⟩ = some (.int .u64 t277) ∧ w'.cell? ⟨gb281,2,none⟩ = some (.int .u64 t278) ∧ w'.cell? ⟨gb281,3,none⟩ = some (.int .u64 t279) ∧ w'.cell? ⟨gb289,0,none⟩ = some (.slice Ao51 t282.length co51) ∧ w'.cell? ⟨gb289,1,none⟩ = some (.int .u64 t285) ∧ w'.cell? ⟨gb289,2,none⟩ = some (.int .u64 t286) ∧ w'.cell? ⟨gb289,3,none⟩ = some (.int .u64 t287)) (ds:=[]) #[ff,ff,ff,ff,ff,ff,ff,ff,ff,ff,ff,ff,ff,ff,ff,ff,ff,ff,ff,ff,ff,ff,ff,ff,ff,ff,ff,ff,ff,ff,ff,ff,ff,ff,ff,ff] (by kernel_rfl) rfl rfl ⟨(aC B252.out 0).trans rfl,(aC B252.out 1).trans rfl,(aC B252.out 2).trans rfl,(aC B252.out 3).trans rfl,(aC B253.out 0).trans rfl,(aC B253.out 1).trans rfl,(aC B253.out 2).trans rfl,(aC B253.out 3).trans rfl,(aC B281.out 0).trans rfl,(aC B281.out 1).trans rfl,(aC B281.out 2).trans rfl,(aC B281.out 3).trans rfl,(aC B289.out 0).trans rfl,(aC B289.out 1).trans rfl,(aC B289.out 2).trans rfl,(aC B289.out 3).trans rfl⟩ (fun hHeld => ?_);refine with_tabW tab9 bits9 (fun HT_ HW_ => ?_)
          generalize w102.drew = w103 at HO_253000 HO_254000 O268 O272 O276 O284 O292 O300 B252 B253 B254 B281 B289 B297 B305 HB hHeld ⊢
          refine take_ (i:=0) (N:=some 66) (v:=?_) (a':=?_) #[tt,ff,ff,ff,ff,ff,ff,ff,ff,ff,ff,ff,ff,ff,ff,ff,ff,ff,ff,ff,ff,ff,ff,ff,ff,ff,ff,ff,ff,ff,ff,ff,ff,ff,ff,ff] rfl rfl (take_ofW HT_.out HW_.out (by kernel_rfl)) (fun _ _ _ h => h) (Or.inl ⟨by rfl,?_⟩) hHeld ?_ ?_
          rotate_left
          ·rintro w' ⟨s0,s1,s2,s3,s4,s5,s6,s7,s8,s9,s10,s11,s12,s13,s14,s15⟩
           go_simp
           with_reducible rfl
          rotate_left
          ·simp only [Act.put,sA,sZ,sS,i64_w,i32_w]
           rfl
          refine take_ (i:=2) (N:=some 68) (v:=?_) (a':=?_) #[tt,ff,tt,ff,ff,ff,ff,ff,ff,ff,ff,ff,ff,ff,ff,ff,ff,ff,ff,ff,ff,ff,ff,ff,ff,ff,ff,ff,ff,ff,ff,ff,ff,ff,ff,ff] rfl rfl (take_ofW HT_.out HW_.out (by kernel_rfl)) (fun _ _ _ h => h) (Or.inl ⟨by rfl,?_⟩) hHeld ?_ ?_
          rotate_left
          ·rintro w' ⟨s0,s1,s2,s3,s4,s5,s6,s7,s8,s9,s10,s11,s12,s13,s14,s15⟩
           go_simp
           with_reducible rfl
          rotate_left
          ·simp only [Act.put,sA,sZ,sS,i64_w,i32_w]
           rfl
          refine one_ (i:=1) (N:=some 67) #[tt,tt,tt,ff,ff,ff,ff,ff,ff,ff,ff,ff,ff,ff,ff,ff,ff,ff,ff,ff,ff,ff,ff,ff,ff,ff,ff,ff,ff,ff,ff,ff,ff,ff,ff,ff] rfl rfl (one_of HT_.out (by kernel_rfl)) (by decide) (fun K hK => ?_)
          refine goes_ Try.func17 (by kernel_rfl) rfl #[.agg #[.slice A0_0 l0_0.length c0_0,.int .u64 a0_1,.int .u64 a0_2,.int .u64 a0_3]] (by rfl) rfl rfl (by (try simp only [List.map_toArray,List.map_cons,List.map_nil]);first|done|rfl|(simp only [List.length_drop,List.length_take];rfl)) ?_
          with_reducible refine (edit_Right.calls kj4 _ _ l0_0 a0_1 a0_2 a0_3 t306 _ ?side1 ?side2 A81.out).mono ?_
          (case side1 => repeat (first|exact (aO HO_253000.out).2.2|(with_reducible refine aH ?_ _)|(with_reducible refine aG ?_ _)|(with_reducible refine aI ?_)))
          (case side2 => exact (aO HO_253000.out).2.1)
          rintro e w104 ⟨rfl,hb⟩
          refine ⟨_,rfl,?_⟩
          have n0_:=aK (Kd.V_below (by (with_reducible repeat (first|apply vA|apply vN|apply vD));exact HO_253000.out) hb)
          have n1_:=aK (Kd.V_below (by (with_reducible repeat (first|apply vA|apply vN|apply vD));exact HO_254000.out) hb)
          have n2_:=aK (Kd.R_below (by (with_reducible repeat (first|apply zA|apply zN|apply zD));exact O268.out) hb)
          have n3_:=aK (Kd.R_below (by (with_reducible repeat (first|apply zA|apply zN|apply zD));exact O272.out) hb)
          have n4_:=aK (Kd.R_below (by (with_reducible repeat (first|apply zA|apply zN|apply zD));exact O276.out) hb)
          have n5_:=aK (Kd.R_below (by (with_reducible repeat (first|apply zA|apply zN|apply zD));exact O284.out) hb)
          have n6_:=aK (Kd.R_below (by (with_reducible repeat (first|apply zA|apply zN|apply zD));exact O292.out) hb)
          have n7_:=aK (Kd.R_below (by (with_reducible repeat (first|apply zA|apply zN|apply zD));exact O300.out) hb)
          have n8_:=aK (aB (g:=gb252) (o:=.cells #[.slice A0_0 l0_0.length c0_0,.int .u64 a0_1,.int .u64 a0_2,.int .u64 a0_3] 25 (0,0)) (by (with_reducible repeat (first|apply bN|apply bD|apply bA));exact B252.out) hb)
          have n9_:=aK (aB (g:=gb253) (o:=.cells #[.slice A1_0 l1_0.length c1_0,.int .u64 a1_1,.int .u64 a1_2,.int .u64 a1_3] 25 (0,0)) (by (with_reducible repeat (first|apply bN|apply bD|apply bA));exact B253.out) hb)
          have n10_:=aK (aB (g:=gb254) (o:=.cells #[.slice A3_0 l3_0.length c3_0,.int .u64 a3_1,.int .u64 a3_2,.int .u64 a3_3] 28 (0,0)) (by (with_reducible repeat (first|apply bN|apply bD|apply bA));exact B254.out) hb)
          have n11_:=aK (aB (g:=gb281) (o:=.cells #[.slice Ao44 t274.length co44,.int .u64 t277,.int .u64 t278,.int .u64 t279] 25 (0,0)) (by (with_reducible repeat (first|apply bN|apply bD|apply bA));exact B281.out) hb)
          have n12_:=aK (aB (g:=gb289) (o:=.cells #[.slice Ao51 t282.length co51,.int .u64 t285,.int .u64 t286,.int .u64 t287] 25 (0,0)) (by (with_reducible repeat (first|apply bN|apply bD|apply bA));exact B289.out) hb)
          have n13_:=aK (aB (g:=gb297) (o:=.cells #[.slice Ao62 t290.length co62,.int .u64 t293,.int .u64 t294,.int .u64 t295] 28 (0,0)) (by (with_reducible repeat (first|apply bN|apply bD|apply bA));exact B297.out) hb)
          have n14_:=aK (aB (g:=gb305) (o:=.cells #[.slice Ao73 t298.length co73,.int .u64 t301,.int .u64 t302,.int .u64 t303] 28 (0,0)) (by (with_reducible repeat (first|apply bN|apply bD|apply bA));exact B305.out) hb)
          have n15_:=aK (aT (by repeat (first|(with_reducible first|exact HB.out|apply aA|apply aW|apply aD|refine aS ?_ E252.out|refine aS ?_ E253.out|refine aS ?_ E254.out|refine aS ?_ E281.out|refine aS ?_ E289.out|refine aS ?_ E297.out|refine aS ?_ E305.out)|exact HB.out)) hb)
          clear HO_253000
          clear HO_254000
          clear O268
          clear O272
          clear O276
          clear O284
          clear O292
          clear O300
          clear B252
          clear B253
          clear B254
          clear B281
          clear B289
          clear B297
          clear B305
          clear HB
          have HO_253000:=n0_
          have HO_254000:=n1_
          have O268:=n2_
          have O272:=n3_
          have O276:=n4_
          have O284:=n5_
          have O292:=n6_
          have O300:=n7_
          have B252:=n8_
          have B253:=n9_
          have B254:=n10_
          have B281:=n11_
          have B289:=n12_
          have B297:=n13_
          have B305:=n14_
          have HB:=n15_
          clear n0_ n1_ n2_ n3_ n4_ n5_ n6_ n7_ n8_ n9_ n10_ n11_ n12_ n13_ n14_ n15_
          (try clear hb)
          (try clear hb2)
          (try clear hk)
          (try clear hi)
          refine hK.out _ _ ⟨(aC B252.out 0).trans rfl,(aC B252.out 1).trans rfl,(aC B252.out 2).trans rfl,(aC B252.out 3).trans rfl,(aC B253.out 0).trans rfl,(aC B253.out 1).trans rfl,(aC B253.out 2).trans rfl,(aC B253.out 3).trans rfl,(aC B281.out 0).trans rfl,(aC B281.out 1).trans rfl,(aC B281.out 2).trans rfl,(aC B281.out 3).trans rfl,(aC B289.out 0).trans rfl,(aC B289.out 1).trans rfl,(aC B289.out 2).trans rfl,(aC B289.out 3).trans rfl⟩ (fun hHeld => ?_)
          clear hK K
          refine norm_ (a':=?_) ?_ ?_
          rotate_left
          ·show Act.put _ (some 67) _ = _
           simp only [Act.put,sA,sZ,sS,i64_w,i32_w]
           rfl
          refine one_ (i:=3) (N:=some 69) #[tt,tt,tt,tt,ff,ff,ff,ff,ff,ff,ff,ff,ff,ff,ff,ff,ff,ff,ff,ff,ff,ff,ff,ff,ff,ff,ff,ff,ff,ff,ff,ff,ff,ff,ff,ff] rfl rfl (one_of HT_.out (by kernel_rfl)) (by decide) (fun K hK => ?_)
          refine goes_ Try.func18 (by kernel_rfl) rfl #[.agg #[.slice A0_0 l0_0.length c0_0,.int .u64 a0_1,.int .u64 a0_2,.int .u64 a0_3]] (by rfl) rfl rfl (by (try simp only [List.map_toArray,List.map_cons,List.map_nil]);first|done|rfl|(simp only [List.length_drop,List.length_take];rfl)) ?_
          with_reducible refine (ratlineref09_Right.calls kj4 _ _ l0_0 a0_1 a0_2 a0_3 t307 _ ?side1 ?side2 A82.out).mono ?_
          (case side1 => repeat (first|exact (aO HO_253000.out).2.2|(with_reducible refine aH ?_ _)|(with_reducible refine aG ?_ _)|(with_reducible refine aI ?_)))
          (case side2 => exact (aO HO_253000.out).2.1)
          rintro e w105 ⟨rfl,hb⟩
          refine ⟨_,rfl,?_⟩
          have n0_:=aK (Kd.V_below (by (with_reducible repeat (first|apply vA|apply vN|apply vD));exact HO_253000.out) hb)
          have n1_:=aK (Kd.V_below (by (with_reducible repeat (first|apply vA|apply vN|apply vD));exact HO_254000.out) hb)
          have n2_:=aK (Kd.R_below (by (with_reducible repeat (first|apply zA|apply zN|apply zD));exact O268.out) hb)
          have n3_:=aK (Kd.R_below (by (with_reducible repeat (first|apply zA|apply zN|apply zD));exact O272.out) hb)
          have n4_:=aK (Kd.R_below (by (with_reducible repeat (first|apply zA|apply zN|apply zD));exact O276.out) hb)
          have n5_:=aK (Kd.R_below (by (with_reducible repeat (first|apply zA|apply zN|apply zD));exact O284.out) hb)
          have n6_:=aK (Kd.R_below (by (with_reducible repeat (first|apply zA|apply zN|apply zD));exact O292.out) hb)
          have n7_:=aK (Kd.R_below (by (with_reducible repeat (first|apply zA|apply zN|apply zD));exact O300.out) hb)
          have n8_:=aK (aB (g:=gb252) (o:=.cells #[.slice A0_0 l0_0.length c0_0,.int .u64 a0_1,.int .u64 a0_2,.int .u64 a0_3] 25 (0,0)) (by (with_reducible repeat (first|apply bN|apply bD|apply bA));exact B252.out) hb)
          have n9_:=aK (aB (g:=gb253) (o:=.cells #[.slice A1_0 l1_0.length c1_0,.int .u64 a1_1,.int .u64 a1_2,.int .u64 a1_3] 25 (0,0)) (by (with_reducible repeat (first|apply bN|apply bD|apply bA));exact B253.out) hb)
          have n10_:=aK (aB (g:=gb254) (o:=.cells #[.slice A3_0 l3_0.length c3_0,.int .u64 a3_1,.int .u64 a3_2,.int .u64 a3_3] 28 (0,0)) (by (with_reducible repeat (first|apply bN|apply bD|apply bA));exact B254.out) hb)
          have n11_:=aK (aB (g:=gb281) (o:=.cells #[.slice Ao44 t274.length co44,.int .u64 t277,.int .u64 t278,.int .u64 t279] 25 (0,0)) (by (with_reducible repeat (first|apply bN|apply bD|apply bA));exact B281.out) hb)
          have n12_:=aK (aB (g:=gb289) (o:=.cells #[.slice Ao51 t282.length co51,.int .u64 t285,.int .u64 t286,.int .u64 t287] 25 (0,0)) (by (with_reducible repeat (first|apply bN|apply bD|apply bA));exact B289.out) hb)
          have n13_:=aK (aB (g:=gb297) (o:=.cells #[.slice Ao62 t290.length co62,.int .u64 t293,.int .u64 t294,.int .u64 t295] 28 (0,0)) (by (with_reducible repeat (first|apply bN|apply bD|apply bA));exact B297.out) hb)
          have n14_:=aK (aB (g:=gb305) (o:=.cells #[.slice Ao73 t298.length co73,.int .u64 t301,.int .u64 t302,.int .u64 t303] 28 (0,0)) (by (with_reducible repeat (first|apply bN|apply bD|apply bA));exact B305.out) hb)
          have n15_:=aK (aT (by repeat (first|(with_reducible first|exact HB.out|apply aA|apply aW|apply aD|refine aS ?_ E252.out|refine aS ?_ E253.out|refine aS ?_ E254.out|refine aS ?_ E281.out|refine aS ?_ E289.out|refine aS ?_ E297.out|refine aS ?_ E305.out)|exact HB.out)) hb)
          clear HO_253000
          clear HO_254000
          clear O268
          clear O272
          clear O276
          clear O284
          clear O292
          clear O300
          clear B252
          clear B253
          clear B254
          clear B281
          clear B289
          clear B297
          clear B305
          clear HB
          have HO_253000:=n0_
          have HO_254000:=n1_
          have O268:=n2_
          have O272:=n3_
          have O276:=n4_
          have O284:=n5_
          have O292:=n6_
          have O300:=n7_
          have B252:=n8_
          have B253:=n9_
          have B254:=n10_
          have B281:=n11_
          have B289:=n12_
          have B297:=n13_
          have B305:=n14_
          have HB:=n15_
          clear n0_ n1_ n2_ n3_ n4_ n5_ n6_ n7_ n8_ n9_ n10_ n11_ n12_ n13_ n14_ n15_
          (try clear hb)
          (try clear hb2)
          (try clear hk)
          (try clear hi)
          refine hK.out _ _ ⟨(aC B252.out 0).trans rfl,(aC B252.out 1).trans rfl,(aC B252.out 2).trans rfl,(aC B252.out 3).trans rfl,(aC B253.out 0).trans rfl,(aC B253.out 1).trans rfl,(aC B253.out 2).trans rfl,(aC B253.out 3).trans rfl,(aC B281.out 0).trans rfl,(aC B281.out 1).trans rfl,(aC B281.out 2).trans rfl,(aC B281.out 3).trans rfl,(aC B289.out 0).trans rfl,(aC B289.out 1).trans rfl,(aC B289.out 2).trans rfl,(aC B289.out 3).trans rfl⟩ (fun hHeld => ?_)
          clear hK K
          refine norm_ (a':=?_) ?_ ?_
          rotate_left
          ·show Act.put _ (some 69) _ = _
           simp only [Act.put,sA,sZ,sS,i64_w,i32_w]
           rfl
          refine pure_ (i:=4) (N:=some 70) (v:=?_) (a':=?_) #[tt,tt,tt,tt,tt,ff,ff,ff,ff,ff,ff,ff,ff,ff,ff,ff,ff,ff,ff,ff,ff,ff,ff,ff,ff,ff,ff,ff,ff,ff,ff,ff,ff,ff,ff,ff] rfl rfl (any_of HT_.out (by kernel_rfl)) (fun _ _ _ h => h) (Or.inl ⟨by rfl,?_⟩) ?_ ?_
          rotate_left
          ·intro w'
           go_simp
           with_reducible rfl
          rotate_left
          ·simp only [Act.put,sA,sZ,sS,i64_w,i32_w]
           rfl
          refine pure_ (i:=5) (N:=some 71) (v:=?_) (a':=?_) #[tt,tt,tt,tt,tt,tt,ff,ff,ff,ff,ff,ff,ff,ff,ff,ff,ff,ff,ff,ff,ff,ff,ff,ff,ff,ff,ff,ff,ff,ff,ff,ff,ff,ff,ff,ff] rfl rfl (any_of HT_.out (by kernel_rfl)) (fun _ _ _ h => h) (Or.inl ⟨by rfl,?_⟩) ?_ ?_
          rotate_left
          ·intro w'
           go_simp
           with_reducible rfl
          rotate_left
          ·simp only [Act.put,sA,sZ,sS,i64_w,i32_w]
           rfl
          refine take_ (i:=6) (N:=some 72) (v:=?_) (a':=?_) #[tt,tt,tt,tt,tt,tt,tt,ff,ff,ff,ff,ff,ff,ff,ff,ff,ff,ff,ff,ff,ff,ff,ff,ff,ff,ff,ff,ff,ff,ff,ff,ff,ff,ff,ff,ff] rfl rfl (take_ofW HT_.out HW_.out (by kernel_rfl)) (fun _ _ _ h => h) (Or.inl ⟨by rfl,?_⟩) hHeld ?_ ?_
          rotate_left
          ·rintro w' ⟨s0,s1,s2,s3,s4,s5,s6,s7,s8,s9,s10,s11,s12,s13,s14,s15⟩
           go_simp
           with_reducible rfl
          rotate_left
          ·simp only [Act.put,sA,sZ,sS,i64_w,i32_w]
           rfl
          refine take_ (i:=7) (N:=some 73) (v:=?_) (a':=?_) #[tt,tt,tt,tt,tt,tt,tt,tt,ff,ff,ff,ff,ff,ff,ff,ff,ff,ff,ff,ff,ff,ff,ff,ff,ff,ff,ff,ff,ff,ff,ff,ff,ff,ff,ff,ff] rfl rfl (take_ofW HT_.out HW_.out (by kernel_rfl)) (fun _ _ _ h => h) (Or.inl ⟨by rfl,?_⟩) hHeld ?_ ?_
          rotate_left
          ·rintro w' ⟨s0,s1,s2,s3,s4,s5,s6,s7,s8,s9,s10,s11,s12,s13,s14,s15⟩
           go_simp
           with_reducible rfl
          rotate_left
          ·simp only [Act.put,sA,sZ,sS,i64_w,i32_w]
           rfl
          refine take_ (i:=9) (N:=some 75) (v:=?_) (a':=?_) #[tt,tt,tt,tt,tt,tt,tt,tt,ff,tt,ff,ff,ff,ff,ff,ff,ff,ff,ff,ff,ff,ff,ff,ff,ff,ff,ff,ff,ff,ff,ff,ff,ff,ff,ff,ff] rfl rfl (take_ofW HT_.out HW_.out (by kernel_rfl)) (fun _ _ _ h => h) (Or.inl ⟨by rfl,?_⟩) hHeld ?_ ?_
          rotate_left
          ·rintro w' ⟨s0,s1,s2,s3,s4,s5,s6,s7,s8,s9,s10,s11,s12,s13,s14,s15⟩
           go_simp
           with_reducible rfl
          rotate_left
          ·simp only [Act.put,sA,sZ,sS,i64_w,i32_w]
           rfl
          refine take_ (i:=10) (N:=some 76) (v:=?_) (a':=?_) #[tt,tt,tt,tt,tt,tt,tt,tt,ff,tt,tt,ff,ff,ff,ff,ff,ff,ff,ff,ff,ff,ff,ff,ff,ff,ff,ff,ff,ff,ff,ff,ff,ff,ff,ff,ff] rfl rfl (take_ofW HT_.out HW_.out (by kernel_rfl)) (fun _ _ _ h => h) (Or.inl ⟨by rfl,?_⟩) hHeld ?_ ?_
          rotate_left
          ·rintro w' ⟨s0,s1,s2,s3,s4,s5,s6,s7,s8,s9,s10,s11,s12,s13,s14,s15⟩
           go_simp
           with_reducible rfl
          rotate_left
          ·simp only [Act.put,sA,sZ,sS,i64_w,i32_w]
           rfl
          refine one_ (i:=8) (N:=some 74) #[tt,tt,tt,tt,tt,tt,tt,tt,tt,tt,tt,ff,ff,ff,ff,ff,ff,ff,ff,ff,ff,ff,ff,ff,ff,ff,ff,ff,ff,ff,ff,ff,ff,ff,ff,ff] rfl rfl (one_of HT_.out (by kernel_rfl)) (by decide) (fun K hK => ?_)
          refine goes_ Try.func19 (by kernel_rfl) rfl #[.agg #[.slice A0_0 l0_0.length c0_0,.int .u64 a0_1,.int .u64 a0_2,.int .u64 a0_3],.agg #[.slice A1_0 l1_0.length c1_0,.int .u64 a1_1,.int .u64 a1_2,.int .u64 a1_3]] (by rfl) rfl rfl (by (try simp only [List.map_toArray,List.map_cons,List.map_nil]);first|done|rfl|(simp only [List.length_drop,List.length_take];rfl)) ?_
          with_reducible refine (edit_Same.calls kj4 _ _ l0_0 a0_1 a0_2 a0_3 _ _ l1_0 a1_1 a1_2 a1_3 t308 _ ?side1 ?side2 ?side3 ?side4 A88.out).mono ?_
          (case side1 => repeat (first|exact (aO HO_253000.out).2.2|(with_reducible refine aH ?_ _)|(with_reducible refine aG ?_ _)|(with_reducible refine aI ?_)))
          (case side2 => exact (aO HO_253000.out).2.1)
          (case side3 => repeat (first|exact (aO HO_254000.out).2.2|(with_reducible refine aH ?_ _)|(with_reducible refine aG ?_ _)|(with_reducible refine aI ?_)))
          (case side4 => exact (aO HO_254000.out).2.1)
          rintro e w106 ⟨rfl,hb⟩
          refine ⟨_,rfl,?_⟩
          have n0_:=aK (Kd.V_below (by (with_reducible repeat (first|apply vA|apply vN|apply vD));exact HO_253000.out) hb)
          have n1_:=aK (Kd.V_below (by (with_reducible repeat (first|apply vA|apply vN|apply vD));exact HO_254000.out) hb)
          have n2_:=aK (Kd.R_below (by (with_reducible repeat (first|apply zA|apply zN|apply zD));exact O268.out) hb)
          have n3_:=aK (Kd.R_below (by (with_reducible repeat (first|apply zA|apply zN|apply zD));exact O272.out) hb)
          have n4_:=aK (Kd.R_below (by (with_reducible repeat (first|apply zA|apply zN|apply zD));exact O276.out) hb)
          have n5_:=aK (Kd.R_below (by (with_reducible repeat (first|apply zA|apply zN|apply zD));exact O284.out) hb)
          have n6_:=aK (Kd.R_below (by (with_reducible repeat (first|apply zA|apply zN|apply zD));exact O292.out) hb)
          have n7_:=aK (Kd.R_below (by (with_reducible repeat (first|apply zA|apply zN|apply zD));exact O300.out) hb)
          have n8_:=aK (aB (g:=gb252) (o:=.cells #[.slice A0_0 l0_0.length c0_0,.int .u64 a0_1,.int .u64 a0_2,.int .u64 a0_3] 25 (0,0)) (by (with_reducible repeat (first|apply bN|apply bD|apply bA));exact B252.out) hb)
          have n9_:=aK (aB (g:=gb253) (o:=.cells #[.slice A1_0 l1_0.length c1_0,.int .u64 a1_1,.int .u64 a1_2,.int .u64 a1_3] 25 (0,0)) (by (with_reducible repeat (first|apply bN|apply bD|apply bA));exact B253.out) hb)
          have n10_:=aK (aB (g:=gb254) (o:=.cells #[.slice A3_0 l3_0.length c3_0,.int .u64 a3_1,.int .u64 a3_2,.int .u64 a3_3] 28 (0,0)) (by (with_reducible repeat (first|apply bN|apply bD|apply bA));exact B254.out) hb)
          have n11_:=aK (aB (g:=gb281) (o:=.cells #[.slice Ao44 t274.length co44,.int .u64 t277,.int .u64 t278,.int .u64 t279] 25 (0,0)) (by (with_reducible repeat (first|apply bN|apply bD|apply bA));exact B281.out) hb)
          have n12_:=aK (aB (g:=gb289) (o:=.cells #[.slice Ao51 t282.length co51,.int .u64 t285,.int .u64 t286,.int .u64 t287] 25 (0,0)) (by (with_reducible repeat (first|apply bN|apply bD|apply bA));exact B289.out) hb)
          have n13_:=aK (aB (g:=gb297) (o:=.cells #[.slice Ao62 t290.length co62,.int .u64 t293,.int .u64 t294,.int .u64 t295] 28 (0,0)) (by (with_reducible repeat (first|apply bN|apply bD|apply bA));exact B297.out) hb)
          have n14_:=aK (aB (g:=gb305) (o:=.cells #[.slice Ao73 t298.length co73,.int .u64 t301,.int .u64 t302,.int .u64 t303] 28 (0,0)) (by (with_reducible repeat (first|apply bN|apply bD|apply bA));exact B305.out) hb)
          have n15_:=aK (aT (by repeat (first|(with_reducible first|exact HB.out|apply aA|apply aW|apply aD|refine aS ?_ E252.out|refine aS ?_ E253.out|refine aS ?_ E254.out|refine aS ?_ E281.out|refine aS ?_ E289.out|refine aS ?_ E297.out|refine aS ?_ E305.out)|exact HB.out)) hb)
          clear HO_253000
          clear HO_254000
          clear O268
          clear O272
          clear O276
          clear O284
          clear O292
          clear O300
          clear B252
          clear B253
          clear B254
          clear B281
          clear B289
          clear B297
          clear B305
          clear HB
          have HO_253000:=n0_
          have HO_254000:=n1_
          have O268:=n2_
          have O272:=n3_
          have O276:=n4_
          have O284:=n5_
          have O292:=n6_
          have O300:=n7_
          have B252:=n8_
          have B253:=n9_
          have B254:=n10_
          have B281:=n11_
          have B289:=n12_
          have B297:=n13_
          have B305:=n14_
          have HB:=n15_
          clear n0_ n1_ n2_ n3_ n4_ n5_ n6_ n7_ n8_ n9_ n10_ n11_ n12_ n13_ n14_ n15_
          (try clear hb)
          (try clear hb2)
          (try clear hk)
          (try clear hi)
          refine hK.out _ _ ⟨(aC B252.out 0).trans rfl,(aC B252.out 1).trans rfl,(aC B252.out 2).trans rfl,(aC B252.out 3).trans rfl,(aC B253.out 0).trans rfl,(aC B253.out 1).trans rfl,(aC B253.out 2).trans rfl,(aC B253.out 3).trans rfl,(aC B281.out 0).trans rfl,(aC B281.out 1).trans rfl,(aC B281.out 2).trans rfl,(aC B281.out 3).trans rfl,(aC B289.out 0).trans rfl,(aC B289.out 1).trans rfl,(aC B289.out 2).trans rfl,(aC B289.out 3).trans rfl⟩ (fun hHeld => ?_)
          clear hK K
          refine norm_ (a':=?_) ?_ ?_
          rotate_left
          ·show Act.put _ (some 74) _ = _
           simp only [Act.put,sA,sZ,sS,i64_w,i32_w]
           rfl
          refine one_ (i:=11) (N:=some 77) #[tt,tt,tt,tt,tt,tt,tt,tt,tt,tt,tt,tt,ff,ff,ff,ff,ff,ff,ff,ff,ff,ff,ff,ff,ff,ff,ff,ff,ff,ff,ff,ff,ff,ff,ff,ff] rfl rfl (one_of HT_.out (by kernel_rfl)) (by decide) (fun K hK => ?_)
          refine goes_ Try.func20 (by kernel_rfl) rfl #[.agg #[.slice A0_0 l0_0.length c0_0,.int .u64 a0_1,.int .u64 a0_2,.int .u64 a0_3],.agg #[.slice A1_0 l1_0.length c1_0,.int .u64 a1_1,.int .u64 a1_2,.int .u64 a1_3]] (by rfl) rfl rfl (by (try simp only [List.map_toArray,List.map_cons,List.map_nil]);first|done|rfl|(simp only [List.length_drop,List.length_take];rfl)) ?_
          with_reducible refine (ratlineref09_Same.calls kj4 _ _ l0_0 a0_1 a0_2 a0_3 _ _ l1_0 a1_1 a1_2 a1_3 t309 _ ?side1 ?side2 ?side3 ?side4 A89.out).mono ?_
          (case side1 => repeat (first|exact (aO HO_253000.out).2.2|(with_reducible refine aH ?_ _)|(with_reducible refine aG ?_ _)|(with_reducible refine aI ?_)))
          (case side2 => exact (aO HO_253000.out).2.1)
          (case side3 => repeat (first|exact (aO HO_254000.out).2.2|(with_reducible refine aH ?_ _)|(with_reducible refine aG ?_ _)|(with_reducible refine aI ?_)))
          (case side4 => exact (aO HO_254000.out).2.1)
          rintro e w107 ⟨rfl,hb⟩
          refine ⟨_,rfl,?_⟩
          have n0_:=aK (Kd.V_below (by (with_reducible repeat (first|apply vA|apply vN|apply vD));exact HO_253000.out) hb)
          have n1_:=aK (Kd.V_below (by (with_reducible repeat (first|apply vA|apply vN|apply vD));exact HO_254000.out) hb)
          have n2_:=aK (Kd.R_below (by (with_reducible repeat (first|apply zA|apply zN|apply zD));exact O268.out) hb)
          have n3_:=aK (Kd.R_below (by (with_reducible repeat (first|apply zA|apply zN|apply zD));exact O272.out) hb)
          have n4_:=aK (Kd.R_below (by (with_reducible repeat (first|apply zA|apply zN|apply zD));exact O276.out) hb)
          have n5_:=aK (Kd.R_below (by (with_reducible repeat (first|apply zA|apply zN|apply zD));exact O284.out) hb)
          have n6_:=aK (Kd.R_below (by (with_reducible repeat (first|apply zA|apply zN|apply zD));exact O292.out) hb)
          have n7_:=aK (Kd.R_below (by (with_reducible repeat (first|apply zA|apply zN|apply zD));exact O300.out) hb)
          have n8_:=aK (aB (g:=gb252) (o:=.cells #[.slice A0_0 l0_0.length c0_0,.int .u64 a0_1,.int .u64 a0_2,.int .u64 a0_3] 25 (0,0)) (by (with_reducible repeat (first|apply bN|apply bD|apply bA));exact B252.out) hb)
          have n9_:=aK (aB (g:=gb253) (o:=.cells #[.slice A1_0 l1_0.length c1_0,.int .u64 a1_1,.int .u64 a1_2,.int .u64 a1_3] 25 (0,0)) (by (with_reducible repeat (first|apply bN|apply bD|apply bA));exact B253.out) hb)
          have n10_:=aK (aB (g:=gb254) (o:=.cells #[.slice A3_0 l3_0.length c3_0,.int .u64 a3_1,.int .u64 a3_2,.int .u64 a3_3] 28 (0,0)) (by (with_reducible repeat (first|apply bN|apply bD|apply bA));exact B254.out) hb)
          have n11_:=aK (aB (g:=gb281) (o:=.cells #[.slice Ao44 t274.length co44,.int .u64 t277,.int .u64 t278,.int .u64 t279] 25 (0,0)) (by (with_reducible repeat (first|apply bN|apply bD|apply bA));exact B281.out) hb)
          have n12_:=aK (aB (g:=gb289) (o:=.cells #[.slice Ao51 t282.length co51,.int .u64 t285,.int .u64 t286,.int .u64 t287] 25 (0,0)) (by (with_reducible repeat (first|apply bN|apply bD|apply bA));exact B289.out) hb)
          have n13_:=aK (aB (g:=gb297) (o:=.cells #[.slice Ao62 t290.length co62,.int .u64 t293,.int .u64 t294,.int .u64 t295] 28 (0,0)) (by (with_reducible repeat (first|apply bN|apply bD|apply bA));exact B297.out) hb)
          have n14_:=aK (aB (g:=gb305) (o:=.cells #[.slice Ao73 t298.length co73,.int .u64 t301,.int .u64 t302,.int .u64 t303] 28 (0,0)) (by (with_reducible repeat (first|apply bN|apply bD|apply bA));exact B305.out) hb)
          have n15_:=aK (aT (by repeat (first|(with_reducible first|exact HB.out|apply aA|apply aW|apply aD|refine aS ?_ E252.out|refine aS ?_ E253.out|refine aS ?_ E254.out|refine aS ?_ E281.out|refine aS ?_ E289.out|refine aS ?_ E297.out|refine aS ?_ E305.out)|exact HB.out)) hb)
          clear HO_253000
          clear HO_254000
          clear O268
          clear O272
          clear O276
          clear O284
          clear O292
          clear O300
          clear B252
          clear B253
          clear B254
          clear B281
          clear B289
          clear B297
          clear B305
          clear HB
          have HO_253000:=n0_
          have HO_254000:=n1_
          have O268:=n2_
          have O272:=n3_
          have O276:=n4_
          have O284:=n5_
          have O292:=n6_
          have O300:=n7_
          have B252:=n8_
          have B253:=n9_
          have B254:=n10_
          have B281:=n11_
          have B289:=n12_
          have B297:=n13_
          have B305:=n14_
          have HB:=n15_
          clear n0_ n1_ n2_ n3_ n4_ n5_ n6_ n7_ n8_ n9_ n10_ n11_ n12_ n13_ n14_ n15_
          (try clear hb)
          (try clear hb2)
          (try clear hk)
          (try clear hi)
          obtain ⟨Ao108,co108,eo108⟩:=Kd.R_slice O268.out
          (first|subst eo108|(injection eo108 with f1_ f2_ f3_;have f4_:=f1_.symm;have f5_:=f3_.symm;clear f1_ f2_ f3_;subst f4_;subst f5_))
          obtain ⟨Ao109,co109,eo109⟩:=Kd.R_slice O272.out
          (first|subst eo109|(injection eo109 with f1_ f2_ f3_;have f4_:=f1_.symm;have f5_:=f3_.symm;clear f1_ f2_ f3_;subst f4_;subst f5_))
          refine hK.out _ _ ⟨(aC B252.out 0).trans rfl,(aC B252.out 1).trans rfl,(aC B252.out 2).trans rfl,(aC B252.out 3).trans rfl,(aC B253.out 0).trans rfl,(aC B253.out 1).trans rfl,(aC B253.out 2).trans rfl,(aC B253.out 3).trans rfl,(aC B281.out 0).trans rfl,(aC B281.out 1).trans rfl,(aC B281.out 2).trans rfl,(aC B281.out 3).trans rfl,(aC B289.out 0).trans rfl,(aC B289.out 1).trans rfl,(aC B289.out 2).trans rfl,(aC B289.out 3).trans rfl⟩ (fun hHeld => ?_)
          clear hK K
          refine norm_ (a':=?_) ?_ ?_
          rotate_left
          ·show Act.put _ (some 77) _ = _
           simp only [Act.put,sA,sZ,sS,i64_w,i32_w]
           rfl
          refine pure_ (i:=12) (N:=some 78) (v:=?_) (a':=?_) #[tt,tt,tt,tt,tt,tt,tt,tt,tt,tt,tt,tt,tt,ff,ff,ff,ff,ff,ff,ff,ff,ff,ff,ff,ff,ff,ff,ff,ff,ff,ff,ff,ff,ff,ff,ff] rfl rfl (any_of HT_.out (by kernel_rfl)) (fun _ _ _ h => h) (Or.inl ⟨by rfl,?_⟩) ?_ ?_
          rotate_left
          ·intro w'
           go_simp
           with_reducible rfl
          rotate_left
          ·simp only [Act.put,sA,sZ,sS,i64_w,i32_w]
           rfl
          refine pure_ (i:=13) (N:=some 79) (v:=?_) (a':=?_) #[tt,tt,tt,tt,tt,tt,tt,tt,tt,tt,tt,tt,tt,tt,ff,ff,ff,ff,ff,ff,ff,ff,ff,ff,ff,ff,ff,ff,ff,ff,ff,ff,ff,ff,ff,ff] rfl rfl (any_of HT_.out (by kernel_rfl)) (fun _ _ _ h => h) (Or.inl ⟨by rfl,?_⟩) ?_ ?_
          rotate_left
          ·intro w'
           go_simp
           with_reducible rfl
          rotate_left
          ·simp only [Act.put,sA,sZ,sS,i64_w,i32_w]
           rfl
          refine pure_ (i:=14) (N:=some 80) (v:=?_) (a':=?_) #[tt,tt,tt,tt,tt,tt,tt,tt,tt,tt,tt,tt,tt,tt,tt,ff,ff,ff,ff,ff,ff,ff,ff,ff,ff,ff,ff,ff,ff,ff,ff,ff,ff,ff,ff,ff] rfl rfl (any_of HT_.out (by kernel_rfl)) (fun _ _ _ h => h) (Or.inl ⟨by rfl,?_⟩) ?_ ?_
          rotate_left
          ·intro w'
           go_simp
           with_reducible rfl
          rotate_left
          ·simp only [Act.put,sA,sZ,sS,i64_w,i32_w]
           rfl
          refine pure_ (i:=15) (N:=some 81) (v:=?_) (a':=?_) #[tt,tt,tt,tt,tt,tt,tt,tt,tt,tt,tt,tt,tt,tt,tt,tt,ff,ff,ff,ff,ff,ff,ff,ff,ff,ff,ff,ff,ff,ff,ff,ff,ff,ff,ff,ff] rfl rfl (any_of HT_.out (by kernel_rfl)) (fun _ _ _ h => h) (Or.inl ⟨by rfl,?_⟩) ?_ ?_
          rotate_left
          ·intro w'
           go_simp
           with_reducible rfl
          rotate_left
          ·simp only [Act.put,sA,sZ,sS,i64_w,i32_w]
           rfl
          refine pure_ (i:=16) (N:=some 82) (v:=?_) (a':=?_) #[tt,tt,tt,tt,tt,tt,tt,tt,tt,tt,tt,tt,tt,tt,tt,tt,tt,ff,ff,ff,ff,ff,ff,ff,ff,ff,ff,ff,ff,ff,ff,ff,ff,ff,ff,ff] rfl rfl (any_of HT_.out (by kernel_rfl)) (fun _ _ _ h => h) (Or.inl ⟨by rfl,?_⟩) ?_ ?_
          rotate_left
          ·intro w'
           go_simp
           with_reducible rfl
          rotate_left
          ·simp only [Act.put,sA,sZ,sS,i64_w,i32_w]
           rfl
          refine one_ (i:=17) (N:=some 83) #[tt,tt,tt,tt,tt,tt,tt,tt,tt,tt,tt,tt,tt,tt,tt,tt,tt,tt,ff,ff,ff,ff,ff,ff,ff,ff,ff,ff,ff,ff,ff,ff,ff,ff,ff,ff] rfl rfl (one_of HT_.out (by kernel_rfl)) (by decide) (fun K hK => ?_)
          refine goes_ Try.func21 (by kernel_rfl) rfl #[.slice Ao108 t266.length co108,.slice Ao109 t270.length co109] (by rfl) rfl rfl (by (try simp only [List.map_toArray,List.map_cons,List.map_nil]);first|done|rfl|(simp only [List.length_drop,List.length_take];rfl)) ?_
          with_reducible refine (ratlinelaw02_Same.calls _ _ t266 _ _ t270 true _ ?side1 ?side2 ?side3 ?side4 A97.out).mono ?_
          (case side1 => repeat (first|exact (aQ O268.out).2.2|(with_reducible refine aH ?_ _)|(with_reducible refine aG ?_ _)|(with_reducible refine aI ?_)))
          (case side2 => exact (aQ O268.out).2.1)
          (case side3 => repeat (first|exact (aQ O272.out).2.2|(with_reducible refine aH ?_ _)|(with_reducible refine aG ?_ _)|(with_reducible refine aI ?_)))
          (case side4 => exact (aQ O272.out).2.1)
          rintro e w' ⟨rfl,⟨nd,rfl⟩⟩
          refine ⟨_,rfl,?_⟩
          refine hK.out _ _ ⟨(aC B252.out 0).trans rfl,(aC B252.out 1).trans rfl,(aC B252.out 2).trans rfl,(aC B252.out 3).trans rfl,(aC B253.out 0).trans rfl,(aC B253.out 1).trans rfl,(aC B253.out 2).trans rfl,(aC B253.out 3).trans rfl,(aC B281.out 0).trans rfl,(aC B281.out 1).trans rfl,(aC B281.out 2).trans rfl,(aC B281.out 3).trans rfl,(aC B289.out 0).trans rfl,(aC B289.out 1).trans rfl,(aC B289.out 2).trans rfl,(aC B289.out 3).trans rfl⟩ (fun hHeld => ?_)
          clear hK K
          refine norm_ (a':=?_) ?_ ?_
          rotate_left
          ·show Act.put _ (some 83) _ = _
           simp only [Act.put,sA,sZ,sS,i64_w,i32_w]
           rfl
          refine pure_ (i:=18) (N:=some 84) (v:=?_) (a':=?_) #[tt,tt,tt,tt,tt,tt,tt,tt,tt,tt,tt,tt,tt,tt,tt,tt,tt,tt,tt,ff,ff,ff,ff,ff,ff,ff,ff,ff,ff,ff,ff,ff,ff,ff,ff,ff] rfl rfl (any_of HT_.out (by kernel_rfl)) (fun _ _ _ h => h) (Or.inl ⟨by rfl,?_⟩) ?_ ?_
          rotate_left
          ·intro w'
           go_simp
           with_reducible rfl
          rotate_left
          ·simp only [Act.put,sA,sZ,sS,i64_w,i32_w]
           rfl
          refine pure_ (i:=19) (N:=some 85) (v:=?_) (a':=?_) #[tt,tt,tt,tt,tt,tt,tt,tt,tt,tt,tt,tt,tt,tt,tt,tt,tt,tt,tt,tt,ff,ff,ff,ff,ff,ff,ff,ff,ff,ff,ff,ff,ff,ff,ff,ff] rfl rfl (any_of HT_.out (by kernel_rfl)) (fun _ _ _ h => h) (Or.inl ⟨by rfl,?_⟩) ?_ ?_
          rotate_left
          ·intro w'
           go_simp
           with_reducible rfl
          rotate_left
          ·simp only [Act.put,sA,sZ,sS,i64_w,i32_w]
           rfl
          refine pure_ (i:=20) (N:=some 86) (v:=?_) (a':=?_) #[tt,tt,tt,tt,tt,tt,tt,tt,tt,tt,tt,tt,tt,tt,tt,tt,tt,tt,tt,tt,tt,ff,ff,ff,ff,ff,ff,ff,ff,ff,ff,ff,ff,ff,ff,ff] rfl rfl (any_of HT_.out (by kernel_rfl)) (fun _ _ _ h => h) (Or.inl ⟨by rfl,?_⟩) ?_ ?_
          rotate_left
          ·intro w'
           go_simp
           with_reducible rfl
          rotate_left
          ·simp only [Act.put,sA,sZ,sS,i64_w,i32_w]
           rfl
          refine pure_ (i:=21) (N:=some 87) (v:=?_) (a':=?_) #[tt,tt,tt,tt,tt,tt,tt,tt,tt,tt,tt,tt,tt,tt,tt,tt,tt,tt,tt,tt,tt,tt,ff,ff,ff,ff,ff,ff,ff,ff,ff,ff,ff,ff,ff,ff] rfl rfl (any_of HT_.out (by kernel_rfl)) (fun _ _ _ h => h) (Or.inl ⟨by rfl,?_⟩) ?_ ?_
          rotate_left
          ·intro w'
           go_simp
           with_reducible rfl
          rotate_left
          ·simp only [Act.put,sA,sZ,sS,i64_w,i32_w]
           rfl
          refine pure_ (i:=22) (N:=some 88) (v:=?_) (a':=?_) #[tt,tt,tt,tt,tt,tt,tt,tt,tt,tt,tt,tt,tt,tt,tt,tt,tt,tt,tt,tt,tt,tt,tt,ff,ff,ff,ff,ff,ff,ff,ff,ff,ff,ff,ff,ff] rfl rfl (any_of HT_.out (by kernel_rfl)) (fun _ _ _ h => h) (Or.inl ⟨by rfl,?_⟩) ?_ ?_
          rotate_left
          ·intro w'
           go_simp
           with_reducible rfl
          rotate_left
          ·simp only [Act.put,sA,sZ,sS,i64_w,i32_w]
           rfl
          refine pure_ (i:=23) (N:=some 89) (v:=?_) (a':=?_) #[tt,tt,tt,tt,tt,tt,tt,tt,tt,tt,tt,tt,tt,tt,tt,tt,tt,tt,tt,tt,tt,tt,tt,tt,ff,ff,ff,ff,ff,ff,ff,ff,ff,ff,ff,ff] rfl rfl (any_of HT_.out (by kernel_rfl)) (fun _ _ _ h => h) (Or.inl ⟨by rfl,?_⟩) ?_ ?_
          rotate_left
          ·intro w'
           go_simp
           with_reducible rfl
          rotate_left
          ·simp only [Act.put,sA,sZ,sS,i64_w,i32_w]
           rfl
          refine pure_ (i:=24) (N:=some 90) (v:=?_) (a':=?_) #[tt,tt,tt,tt,tt,tt,tt,tt,tt,tt,tt,tt,tt,tt,tt,tt,tt,tt,tt,tt,tt,tt,tt,tt,tt,ff,ff,ff,ff,ff,ff,ff,ff,ff,ff,ff] rfl rfl (any_of HT_.out (by kernel_rfl)) (fun _ _ _ h => h) (Or.inl ⟨by rfl,?_⟩) ?_ ?_
          rotate_left
          ·intro w'
           go_simp
           with_reducible rfl
          rotate_left
          ·simp only [Act.put,sA,sZ,sS,i64_w,i32_w]
           rfl
          refine pure_ (i:=25) (N:=some 91) (v:=?_) (a':=?_) #[tt,tt,tt,tt,tt,tt,tt,tt,tt,tt,tt,tt,tt,tt,tt,tt,tt,tt,tt,tt,tt,tt,tt,tt,tt,tt,ff,ff,ff,ff,ff,ff,ff,ff,ff,ff] rfl rfl (any_of HT_.out (by kernel_rfl)) (fun _ _ _ h => h) (Or.inl ⟨by rfl,?_⟩) ?_ ?_
          rotate_left
          ·intro w'
           go_simp
           with_reducible rfl
          rotate_left
          ·simp only [Act.put,sA,sZ,sS,i64_w,i32_w]
           rfl
          refine take_ (i:=26) (N:=some 92) (v:=?_) (a':=?_) #[tt,tt,tt,tt,tt,tt,tt,tt,tt,tt,tt,tt,tt,tt,tt,tt,tt,tt,tt,tt,tt,tt,tt,tt,tt,tt,tt,ff,ff,ff,ff,ff,ff,ff,ff,ff] rfl rfl (take_ofW HT_.out HW_.out (by kernel_rfl)) (fun _ _ _ h => h) (Or.inl ⟨by rfl,?_⟩) hHeld ?_ ?_
          rotate_left
          ·rintro w' ⟨s0,s1,s2,s3,s4,s5,s6,s7,s8,s9,s10,s11,s12,s13,s14,s15⟩
           go_simp
           with_reducible rfl
          rotate_left
          ·simp only [Act.put,sA,sZ,sS,i64_w,i32_w]
           rfl
          refine take_ (i:=27) (N:=some 93) (v:=?_) (a':=?_) #[tt,tt,tt,tt,tt,tt,tt,tt,tt,tt,tt,tt,tt,tt,tt,tt,tt,tt,tt,tt,tt,tt,tt,tt,tt,tt,tt,tt,ff,ff,ff,ff,ff,ff,ff,ff] rfl rfl (take_ofW HT_.out HW_.out (by kernel_rfl)) (fun _ _ _ h => h) (Or.inl ⟨by rfl,?_⟩) hHeld ?_ ?_
          rotate_left
          ·rintro w' ⟨s0,s1,s2,s3,s4,s5,s6,s7,s8,s9,s10,s11,s12,s13,s14,s15⟩
           go_simp
           with_reducible rfl
          rotate_left
          ·simp only [Act.put,sA,sZ,sS,i64_w,i32_w]
           rfl
          refine one_ (i:=28) (N:=some 94) #[tt,tt,tt,tt,tt,tt,tt,tt,tt,tt,tt,tt,tt,tt,tt,tt,tt,tt,tt,tt,tt,tt,tt,tt,tt,tt,tt,tt,tt,ff,ff,ff,ff,ff,ff,ff] rfl rfl (one_of HT_.out (by kernel_rfl)) (by decide) (fun K hK => ?_)
          refine goes_ Try.func20 (by kernel_rfl) rfl #[.agg #[.slice Ao44 t274.length co44,.int .u64 t277,.int .u64 t278,.int .u64 t279],.agg #[.slice Ao51 t282.length co51,.int .u64 t285,.int .u64 t286,.int .u64 t287]] (by rfl) rfl rfl (by (try simp only [List.map_toArray,List.map_cons,List.map_nil]);first|done|rfl|(simp only [List.length_drop,List.length_take];rfl)) ?_
          with_reducible refine (ratlineref09_Same.calls kj4 _ _ t274 t277 t278 t279 _ _ t282 t285 t286 t287 true _ ?side1 ?side2 ?side3 ?side4 A100.out).mono ?_
          (case side1 => repeat (first|exact (aQ O276.out).2.2|(with_reducible refine aH ?_ _)|(with_reducible refine aG ?_ _)|(with_reducible refine aI ?_)))
          (case side2 => exact (aQ O276.out).2.1)
          (case side3 => repeat (first|exact (aQ O284.out).2.2|(with_reducible refine aH ?_ _)|(with_reducible refine aG ?_ _)|(with_reducible refine aI ?_)))
          (case side4 => exact (aQ O284.out).2.1)
          rintro e w110 ⟨rfl,hb⟩
          refine ⟨_,rfl,?_⟩
          have n0_:=aK (Kd.V_below (by (with_reducible repeat (first|apply vA|apply vN|apply vD));exact HO_253000.out) hb)
          have n1_:=aK (Kd.V_below (by (with_reducible repeat (first|apply vA|apply vN|apply vD));exact HO_254000.out) hb)
          have n2_:=aK (Kd.R_below (by (with_reducible repeat (first|apply zA|apply zN|apply zD));exact O268.out) hb)
          have n3_:=aK (Kd.R_below (by (with_reducible repeat (first|apply zA|apply zN|apply zD));exact O272.out) hb)
          have n4_:=aK (Kd.R_below (by (with_reducible repeat (first|apply zA|apply zN|apply zD));exact O276.out) hb)
          have n5_:=aK (Kd.R_below (by (with_reducible repeat (first|apply zA|apply zN|apply zD));exact O284.out) hb)
          have n6_:=aK (Kd.R_below (by (with_reducible repeat (first|apply zA|apply zN|apply zD));exact O292.out) hb)
          have n7_:=aK (Kd.R_below (by (with_reducible repeat (first|apply zA|apply zN|apply zD));exact O300.out) hb)
          have n8_:=aK (aB (g:=gb252) (o:=.cells #[.slice A0_0 l0_0.length c0_0,.int .u64 a0_1,.int .u64 a0_2,.int .u64 a0_3] 25 (0,0)) (by (with_reducible repeat (first|apply bN|apply bD|apply bA));exact B252.out) hb)
          have n9_:=aK (aB (g:=gb253) (o:=.cells #[.slice A1_0 l1_0.length c1_0,.int .u64 a1_1,.int .u64 a1_2,.int .u64 a1_3] 25 (0,0)) (by (with_reducible repeat (first|apply bN|apply bD|apply bA));exact B253.out) hb)
          have n10_:=aK (aB (g:=gb254) (o:=.cells #[.slice A3_0 l3_0.length c3_0,.int .u64 a3_1,.int .u64 a3_2,.int .u64 a3_3] 28 (0,0)) (by (with_reducible repeat (first|apply bN|apply bD|apply bA));exact B254.out) hb)
          have n11_:=aK (aB (g:=gb281) (o:=.cells #[.slice Ao44 t274.length co44,.int .u64 t277,.int .u64 t278,.int .u64 t279] 25 (0,0)) (by (with_reducible repeat (first|apply bN|apply bD|apply bA));exact B281.out) hb)
          have n12_:=aK (aB (g:=gb289) (o:=.cells #[.slice Ao51 t282.length co51,.int .u64 t285,.int .u64 t286,.int .u64 t287] 25 (0,0)) (by (with_reducible repeat (first|apply bN|apply bD|apply bA));exact B289.out) hb)
          have n13_:=aK (aB (g:=gb297) (o:=.cells #[.slice Ao62 t290.length co62,.int .u64 t293,.int .u64 t294,.int .u64 t295] 28 (0,0)) (by (with_reducible repeat (first|apply bN|apply bD|apply bA));exact B297.out) hb)
          have n14_:=aK (aB (g:=gb305) (o:=.cells #[.slice Ao73 t298.length co73,.int .u64 t301,.int .u64 t302,.int .u64 t303] 28 (0,0)) (by (with_reducible repeat (first|apply bN|apply bD|apply bA));exact B305.out) hb)
          have n15_:=aK (aT (by repeat (first|(with_reducible first|exact HB.out|apply aA|apply aW|apply aD|refine aS ?_ E252.out|refine aS ?_ E253.out|refine aS ?_ E254.out|refine aS ?_ E281.out|refine aS ?_ E289.out|refine aS ?_ E297.out|refine aS ?_ E305.out)|exact HB.out)) hb)
          clear HO_253000
          clear HO_254000
          clear O268
          clear O272
          clear O276
          clear O284
          clear O292
          clear O300
          clear B252
          clear B253
          clear B254
          clear B281
          clear B289
          clear B297
          clear B305
          clear HB
          have HO_253000:=n0_
          have HO_254000:=n1_
          have O268:=n2_
          have O272:=n3_
          have O276:=n4_
          have O284:=n5_
          have O292:=n6_
          have O300:=n7_
          have B252:=n8_
          have B253:=n9_
          have B254:=n10_
          have B281:=n11_
          have B289:=n12_
          have B297:=n13_
          have B305:=n14_
          have HB:=n15_
          clear n0_ n1_ n2_ n3_ n4_ n5_ n6_ n7_ n8_ n9_ n10_ n11_ n12_ n13_ n14_ n15_
          (try clear hb)
          (try clear hb2)
          (try clear hk)
          (try clear hi)
          refine hK.out _ _ ⟨(aC B252.out 0).trans rfl,(aC B252.out 1).trans rfl,(aC B252.out 2).trans rfl,(aC B252.out 3).trans rfl,(aC B253.out 0).trans rfl,(aC B253.out 1).trans rfl,(aC B253.out 2).trans rfl,(aC B253.out 3).trans rfl,(aC B281.out 0).trans rfl,(aC B281.out 1).trans rfl,(aC B281.out 2).trans rfl,(aC B281.out 3).trans rfl,(aC B289.out 0).trans rfl,(aC B289.out 1).trans rfl,(aC B289.out 2).trans rfl,(aC B289.out 3).trans rfl⟩ (fun hHeld => ?_)
          clear hK K
          refine norm_ (a':=?_) ?_ ?_
          rotate_left
          ·show Act.put _ (some 94) _ = _
           simp only [Act.put,sA,sZ,sS,i64_w,i32_w]
           rfl
          refine pure_ (i:=29) (N:=some 95) (v:=?_) (a':=?_) #[tt,tt,tt,tt,tt,tt,tt,tt,tt,tt,tt,tt,tt,tt,tt,tt,tt,tt,tt,tt,tt,tt,tt,tt,tt,tt,tt,tt,tt,tt,ff,ff,ff,ff,ff,ff] rfl rfl (any_of HT_.out (by kernel_rfl)) (fun _ _ _ h => h) (Or.inl ⟨by rfl,?_⟩) ?_ ?_
          rotate_left
          ·intro w'
           go_simp
           with_reducible rfl
          rotate_left
          ·simp only [Act.put,sA,sZ,sS,i64_w,i32_w]
           rfl
          refine pure_ (i:=30) (N:=some 96) (v:=?_) (a':=?_) #[tt,tt,tt,tt,tt,tt,tt,tt,tt,tt,tt,tt,tt,tt,tt,tt,tt,tt,tt,tt,tt,tt,tt,tt,tt,tt,tt,tt,tt,tt,tt,ff,ff,ff,ff,ff] rfl rfl (any_of HT_.out (by kernel_rfl)) (fun _ _ _ h => h) (Or.inl ⟨by rfl,?_⟩) ?_ ?_
          rotate_left
          ·intro w'
           go_simp
           with_reducible rfl
          rotate_left
          ·simp only [Act.put,sA,sZ,sS,i64_w,i32_w]
           rfl
          refine pure_ (i:=31) (N:=some 97) (v:=?_) (a':=?_) #[tt,tt,tt,tt,tt,tt,tt,tt,tt,tt,tt,tt,tt,tt,tt,tt,tt,tt,tt,tt,tt,tt,tt,tt,tt,tt,tt,tt,tt,tt,tt,tt,ff,ff,ff,ff] rfl rfl (any_of HT_.out (by kernel_rfl)) (fun _ _ _ h => h) (Or.inl ⟨by rfl,?_⟩) ?_ ?_
          rotate_left
          ·intro w'
           go_simp
           with_reducible rfl
          rotate_left
          ·simp only [Act.put,sA,sZ,sS,i64_w,i32_w]
           rfl
          refine pure_ (i:=32) (N:=some 98) (v:=?_) (a':=?_) #[tt,tt,tt,tt,tt,tt,tt,tt,tt,tt,tt,tt,tt,tt,tt,tt,tt,tt,tt,tt,tt,tt,tt,tt,tt,tt,tt,tt,tt,tt,tt,tt,tt,ff,ff,ff] rfl rfl (any_of HT_.out (by kernel_rfl)) (fun _ _ _ h => h) (Or.inl ⟨by rfl,?_⟩) ?_ ?_
          rotate_left
          ·intro w'
           go_simp
           with_reducible rfl
          rotate_left
          ·simp only [Act.put,sA,sZ,sS,i64_w,i32_w]
           rfl
          refine pure_ (i:=33) (N:=some 99) (v:=?_) (a':=?_) #[tt,tt,tt,tt,tt,tt,tt,tt,tt,tt,tt,tt,tt,tt,tt,tt,tt,tt,tt,tt,tt,tt,tt,tt,tt,tt,tt,tt,tt,tt,tt,tt,tt,tt,ff,ff] rfl rfl (any_of HT_.out (by kernel_rfl)) (fun _ _ _ h => h) (Or.inl ⟨by rfl,?_⟩) ?_ ?_
          rotate_left
          ·intro w'
           go_simp
           with_reducible rfl
          rotate_left
          ·simp only [Act.put,sA,sZ,sS,i64_w,i32_w]
           rfl
          refine pure_ (i:=34) (N:=some 100) (v:=?_) (a':=?_) #[tt,tt,tt,tt,tt,tt,tt,tt,tt,tt,tt,tt,tt,tt,tt,tt,tt,tt,tt,tt,tt,tt,tt,tt,tt,tt,tt,tt,tt,tt,tt,tt,tt,tt,tt,ff] rfl rfl (any_of HT_.out (by kernel_rfl)) (fun _ _ _ h => h) (Or.inl ⟨by rfl,?_⟩) ?_ ?_
          rotate_left
          ·intro w'
           go_simp
           with_reducible rfl
          rotate_left
          ·simp only [Act.put,sA,sZ,sS,i64_w,i32_w]
           rfl
          refine pure_ (i:=35) (N:=some 101) (v:=?_) (a':=?_) #[tt,tt,tt,tt,tt,tt,tt,tt,tt,tt,tt,tt,tt,tt,tt,tt,tt,tt,tt,tt,tt,tt,tt,tt,tt,tt,tt,tt,tt,tt,tt,tt,tt,tt,tt,tt] rfl rfl (any_of HT_.out (by kernel_rfl)) (fun _ _ _ h => h) (Or.inl ⟨by rfl,?_⟩) ?_ ?_
          rotate_left
          ·intro w'
           go_simp
           with_reducible rfl
          rotate_left
          ·simp only [Act.put,sA,sZ,sS,i64_w,i32_w]
           rfl
          refine done_ (done_of HT_.out (by kernel_rfl)) ?_
          try go_wp2
          go_meet
          case rel => exact ⟨_,((t280 != t288)),(by first|rfl|(simp;done)|(simp [*];done)),H',⟨by have:=HJ4.out;first|omega|exact Nat.le_refl _⟩,⟨by (with_reducible repeat (first|apply vA|apply vN|apply vD));exact aN HO_253000.out (fun _ hk => ⟨hk.1,⟨hk.2.2.2.1,⟨hk.2.2.2.2.1,⟨hk.2.2.2.2.2.1,⟨hk.2.2.2.2.2.2.1,⟨hk.2.2.2.2.2.2.2.1,⟨hk.2.2.2.2.2.2.2.2.1,⟨hk.2.2.2.2.2.2.2.2.2.1,⟨hk.2.2.2.2.2.2.2.2.2.2.1,⟨hk.2.2.2.2.2.2.2.2.2.2.2.1,⟨hk.2.2.2.2.2.2.2.2.2.2.2.2.1,hk.2.2.2.2.2.2.2.2.2.2.2.2.2⟩⟩⟩⟩⟩⟩⟩⟩⟩⟩⟩)⟩,⟨by (with_reducible repeat (first|apply vA|apply vN|apply vD));exact aN HO_254000.out (fun _ hk => ⟨hk.1,⟨hk.2.2.2.1,⟨hk.2.2.2.2.1,⟨hk.2.2.2.2.2.1,⟨hk.2.2.2.2.2.2.1,⟨hk.2.2.2.2.2.2.2.1,⟨hk.2.2.2.2.2.2.2.2.1,⟨hk.2.2.2.2.2.2.2.2.2.1,⟨hk.2.2.2.2.2.2.2.2.2.2.1,⟨hk.2.2.2.2.2.2.2.2.2.2.2.1,⟨hk.2.2.2.2.2.2.2.2.2.2.2.2.1,hk.2.2.2.2.2.2.2.2.2.2.2.2.2⟩⟩⟩⟩⟩⟩⟩⟩⟩⟩⟩)⟩,⟨by (with_reducible repeat (first|apply zA|apply zN|apply zD));exact O276.out⟩,⟨by (with_reducible repeat (first|apply zA|apply zN|apply zD));exact O284.out⟩,⟨by (with_reducible repeat (first|apply zA|apply zN|apply zD));exact O292.out⟩,⟨by (with_reducible repeat (first|apply zA|apply zN|apply zD));exact O300.out⟩,⟨by (with_reducible repeat (first|apply bN|apply bD|apply bA));exact B252.out⟩,⟨by (with_reducible repeat (first|apply bN|apply bD|apply bA));exact B253.out⟩,⟨by (with_reducible repeat (first|apply bN|apply bD|apply bA));exact B254.out⟩,⟨by (with_reducible repeat (first|apply bN|apply bD|apply bA));exact B281.out⟩,⟨by (with_reducible repeat (first|apply bN|apply bD|apply bA));exact B289.out⟩,⟨by (with_reducible repeat (first|apply bN|apply bD|apply bA));exact B297.out⟩,⟨by (with_reducible repeat (first|apply bN|apply bD|apply bA));exact B305.out⟩,⟨by repeat (first|(with_reducible first|exact HB.out|apply aA|apply aW|apply aD|refine aS ?_ E252.out|refine aS ?_ E253.out|refine aS ?_ E254.out|refine aS ?_ E281.out|refine aS ?_ E289.out|refine aS ?_ E297.out|refine aS ?_ E305.out)|exact HB.out)⟩⟩
         ·replace c101:=Bool.eq_false_iff.mpr c101
          subst c101
          have H1 : (j1 kj4 t296 t304 true l3_0 a3_1 a3_2 a3_3 t290 t293 t294 t295 t298 t301 t302 t303) = some r:=by rw [if_neg (show ¬ (false = true) by decide)] at H;exact H
          exact absurd H1 (by cases kj4 <;> simp [j1])
        ·rw [if_neg c99] at H
         exact absurd H (by cases kj4 <;> simp [j1])
       ·replace c98:=Bool.eq_false_iff.mpr c98
        subst c98
        have H1 : (j1 kj4 t296 t304 true l3_0 a3_1 a3_2 a3_3 t290 t293 t294 t295 t298 t301 t302 t303) = some r:=by rw [if_neg (show ¬ (false = true) by decide)] at H;exact H
        exact absurd H1 (by cases kj4 <;> simp [j1])
    case rest =>
     clear HC35
     try clear c2 p2
     obtain ⟨kq,x101_34,rfl,HA,HJ34,HO_253000,HO_254000,HO_282000,HO_290000,HO_298000,HO_306000,B252,B253,B254,B281,B289,B297,B305,HB⟩:=hcut
     cases kq with
     | zero => exact absurd HA.out (by simp [j1])
     | succ kj34 =>
      have H:=HA.out
      clear HA
      simp only [j1] at H
      by_cases c136 : x101_34 = true
      ·subst c136
       have H1 : (none) = some r:=by rw [if_pos rfl] at H;exact H
       clear H
       have H:=H1
       clear H1
       exact absurd H (by simp)
      ·replace c136:=Bool.eq_false_iff.mpr c136
       subst c136
       have H1 : ((ratlinelaw09_Versions.f kj34 t290 t293 t294 t295 t298 t301 t302 t303).bind fun t312 => (if t312 = true then (if t296 = t304 then ((edit_Whole.f l3_0 a3_1 a3_2 a3_3).bind fun bt313 => ((ratlineref09_Whole.f l3_0 a3_1 a3_2 a3_3).bind fun bt319 => ((ratlineref09_Same.f kj34 bt313.1 bt313.2.1 bt313.2.2.1 bt313.2.2.2 bt319.1 bt319.2.1 bt319.2.2.1 bt319.2.2.2).bind fun t325 => (if t325 = true then ((ratlinelaw09_awake.f).bind fun t326 => (some t326)) else (none))))) else (none)) else (none))) = some r:=by rw [if_neg (show ¬ (false = true) by decide)] at H;exact H
       clear H
       have H:=H1
       clear H1
       replace H:=Option.bind_eq_some_iff.mp H
       obtain ⟨t312,A1370,H⟩:=H
       replace H : (if t312 = true then (if t296 = t304 then ((edit_Whole.f l3_0 a3_1 a3_2 a3_3).bind fun bt313 => ((ratlineref09_Whole.f l3_0 a3_1 a3_2 a3_3).bind fun bt319 => ((ratlineref09_Same.f kj34 bt313.1 bt313.2.1 bt313.2.2.1 bt313.2.2.2 bt319.1 bt319.2.1 bt319.2.2.1 bt319.2.2.2).bind fun t325 => (if t325 = true then ((ratlinelaw09_awake.f).bind fun t326 => (some t326)) else (none))))) else (none)) else (none)) = some r:=H
       have A137:=aK A1370
       clear A1370
       by_cases c138 : t312 = true
       rotate_left
       ·replace c138:=Bool.eq_false_iff.mpr c138
        subst c138
        have H1 : (none) = some r:=by rw [if_neg (show ¬ (false = true) by decide)] at H;exact H
        clear H
        have H:=H1
        clear H1
        exact absurd H (by simp)

       subst c138
       have H1 : (if t296 = t304 then ((edit_Whole.f l3_0 a3_1 a3_2 a3_3).bind fun bt313 => ((ratlineref09_Whole.f l3_0 a3_1 a3_2 a3_3).bind fun bt319 => ((ratlineref09_Same.f kj34 bt313.1 bt313.2.1 bt313.2.2.1 bt313.2.2.2 bt319.1 bt319.2.1 bt319.2.2.1 bt319.2.2.2).bind fun t325 => (if t325 = true then ((ratlinelaw09_awake.f).bind fun t326 => (some t326)) else (none))))) else (none)) = some r:=by rw [if_pos rfl] at H;exact H
       clear H
       have H:=H1
       clear H1
       by_cases c139 : t296 = t304
       rotate_left
       ·rw [if_neg c139] at H
        exact absurd H (by simp)
       rw [if_pos c139] at H
       have c139b0 : (t296 == t304) = true:=beq_iff_eq.mpr c139
       have c139b1 : (t296 != t304) = false:=bne_eq_false_iff_eq.mpr c139
       clear c139
       replace H:=Option.bind_eq_some_iff.mp H
       obtain ⟨⟨t313,t316,t317,t318⟩,A1400,H⟩:=H
       replace H : ((ratlineref09_Whole.f l3_0 a3_1 a3_2 a3_3).bind fun bt319 => ((ratlineref09_Same.f kj34 t313 t316 t317 t318 bt319.1 bt319.2.1 bt319.2.2.1 bt319.2.2.2).bind fun t325 => (if t325 = true then ((ratlinelaw09_awake.f).bind fun t326 => (some t326)) else (none)))) = some r:=H
       have A140:=aK A1400
       clear A1400
       replace H:=Option.bind_eq_some_iff.mp H
       obtain ⟨⟨t319,t322,t323,t324⟩,A1410,H⟩:=H
       replace H : ((ratlineref09_Same.f kj34 t313 t316 t317 t318 t319 t322 t323 t324).bind fun t325 => (if t325 = true then ((ratlinelaw09_awake.f).bind fun t326 => (some t326)) else (none))) = some r:=H
       have A141:=aK A1410
       clear A1410
       replace H:=Option.bind_eq_some_iff.mp H
       obtain ⟨t325,A1420,H⟩:=H
       replace H : (if t325 = true then ((ratlinelaw09_awake.f).bind fun t326 => (some t326)) else (none)) = some r:=H
       have A142:=aK A1420
       clear A1420
       by_cases c143 : t325 = true
       rotate_left
       ·replace c143:=Bool.eq_false_iff.mpr c143
        subst c143
        have H1 : (none) = some r:=by rw [if_neg (show ¬ (false = true) by decide)] at H;exact H
        clear H
        have H:=H1
        clear H1
        exact absurd H (by simp)
       subst c143
       have H1 : ((ratlinelaw09_awake.f).bind fun t326 => (some t326)) = some r:=by rw [if_pos rfl] at H;exact H
       clear H
       have H:=H1
       clear H1
       replace H:=Option.bind_eq_some_iff.mp H
       obtain ⟨t326,A1440,H⟩:=H
       replace H : (some t326) = some r:=H
       have A144:=aK A1440
       clear A1440
       obtain rfl:=Option.some.inj H
       try go_wp2
       have n0_:=aK (Kd.V_drew HO_253000.out)
       have n1_:=aK (Kd.V_drew HO_254000.out)
       have n2_:=aK (Kd.R_drew HO_282000.out)
       have n3_:=aK (Kd.R_drew HO_290000.out)
       have n4_:=aK (Kd.R_drew HO_298000.out)
       have n5_:=aK (Kd.R_drew HO_306000.out)
       have n6_:=aK (blk_drew B252.out)
       have n7_:=aK (blk_drew B253.out)
       have n8_:=aK (blk_drew B254.out)
       have n9_:=aK (blk_drew B281.out)
       have n10_:=aK (blk_drew B289.out)
       have n11_:=aK (blk_drew B297.out)
       have n12_:=aK (blk_drew B305.out)
       have n13_:=aK (aD HB.out)
       clear HO_253000
       clear HO_254000
       clear HO_282000
       clear HO_290000
       clear HO_298000
       clear HO_306000
       clear B252
       clear B253
       clear B254
       clear B281
       clear B289
       clear B297
       clear B305
       clear HB
       have HO_253000:=n0_
       have HO_254000:=n1_
       have HO_282000:=n2_
       have HO_290000:=n3_
       have HO_298000:=n4_
       have HO_306000:=n5_
       have B252:=n6_
       have B253:=n7_
       have B254:=n8_
       have B281:=n9_
       have B289:=n10_
       have B297:=n11_
       have B305:=n12_
       have HB:=n13_
       clear n0_ n1_ n2_ n3_ n4_ n5_ n6_ n7_ n8_ n9_ n10_ n11_ n12_ n13_
       refine start_ (n:=19) (S:=fun w' => w'.cell? ⟨gb297,0,none⟩ = some (.slice Ao62 t290.length co62) ∧ w'.cell? ⟨gb297,1,none⟩ = some (.int .u64 t293) ∧ w'.cell? ⟨gb297,2,none⟩ = some (.int .u64 t294) ∧ w'.cell? ⟨gb297,3,none⟩ = some (.int .u64 t295) ∧ w'.cell? ⟨gb305,0,none⟩ = some (.slice Ao73 t298.length co73) ∧ w'.cell? ⟨gb305,1,none⟩ = some (.int .u64 t301) ∧ w'.cell? ⟨gb305,2,none⟩ = some (.int .u64 t302) ∧ w'.cell? ⟨gb305,3,none⟩ = some (.int .u64 t303) ∧ w'.cell? ⟨gb254,0,none⟩ = some (.slice A3_0 l3_0.length c3_0) ∧ w'.cell? ⟨gb254,1,none⟩ = some (.int .u64 a3_1) ∧ w'.cell? ⟨gb254,2,none⟩ = some (.int .u64 a3_2) ∧ w'.cell? ⟨gb254,3,none⟩ = some (.int .u64 a3_3)) (ds:=[]) #[ff,ff,ff,ff,ff,ff,ff,ff,ff,ff,ff,ff,ff,ff,ff,ff,ff,ff,ff] (by kernel_rfl) rfl rfl ⟨(aC B297.out 0).trans rfl,(aC B297.out 1).trans rfl,(aC B297.out 2).trans rfl,(aC B297.out 3).trans rfl,(aC B305.out 0).trans rfl,(aC B305.out 1).trans rfl,(aC B305.out 2).trans rfl,(aC B305.out 3).trans rfl,(aC B254.out 0).trans rfl,(aC B254.out 1).trans rfl,(aC B254.out 2).trans rfl,(aC B254.out 3).trans rfl⟩ (fun hHeld => ?_);refine with_tabW tab11 bits11 (fun HT_ HW_ => ?_)
       generalize wc.drew = w145 at HO_253000 HO_254000 HO_282000 HO_290000 HO_298000 HO_306000 B252 B253 B254 B281 B289 B297 B305 HB hHeld ⊢
       refine take_ (i:=0) (N:=some 102) (v:=?_) (a':=?_) #[tt,ff,ff,ff,ff,ff,ff,ff,ff,ff,ff,ff,ff,ff,ff,ff,ff,ff,ff] rfl rfl (take_ofW HT_.out HW_.out (by kernel_rfl)) (fun _ _ _ h => h) (Or.inl ⟨by rfl,?_⟩) hHeld ?_ ?_
       rotate_left
       ·rintro w' ⟨s0,s1,s2,s3,s4,s5,s6,s7,s8,s9,s10,s11⟩
        go_simp
        with_reducible rfl
       rotate_left
       ·simp only [Act.put,sA,sZ,sS,i64_w,i32_w]
        rfl
       refine take_ (i:=1) (N:=some 103) (v:=?_) (a':=?_) #[tt,tt,ff,ff,ff,ff,ff,ff,ff,ff,ff,ff,ff,ff,ff,ff,ff,ff,ff] rfl rfl (take_ofW HT_.out HW_.out (by kernel_rfl)) (fun _ _ _ h => h) (Or.inl ⟨by rfl,?_⟩) hHeld ?_ ?_
       rotate_left
       ·rintro w' ⟨s0,s1,s2,s3,s4,s5,s6,s7,s8,s9,s10,s11⟩
        go_simp
        with_reducible rfl
       rotate_left
       ·simp only [Act.put,sA,sZ,sS,i64_w,i32_w]
        rfl
       refine one_ (i:=2) (N:=some 104) #[tt,tt,tt,ff,ff,ff,ff,ff,ff,ff,ff,ff,ff,ff,ff,ff,ff,ff,ff] rfl rfl (one_of HT_.out (by kernel_rfl)) (by decide) (fun K hK => ?_)
       refine goes_ Try.func22 (by kernel_rfl) rfl #[.agg #[.slice Ao62 t290.length co62,.int .u64 t293,.int .u64 t294,.int .u64 t295],.agg #[.slice Ao73 t298.length co73,.int .u64 t301,.int .u64 t302,.int .u64 t303]] (by rfl) rfl rfl (by (try simp only [List.map_toArray,List.map_cons,List.map_nil]);first|done|rfl|(simp only [List.length_drop,List.length_take];rfl)) ?_
       with_reducible refine (ratlinelaw09_Versions.calls kj34 _ _ t290 t293 t294 t295 _ _ t298 t301 t302 t303 true _ ?side1 ?side2 ?side3 ?side4 A137.out).mono ?_
       (case side1 => repeat (first|exact (aQ HO_298000.out).2.2|(with_reducible refine aH ?_ _)|(with_reducible refine aG ?_ _)|(with_reducible refine aI ?_)))
       (case side2 => exact (aQ HO_298000.out).2.1)
       (case side3 => repeat (first|exact (aQ HO_306000.out).2.2|(with_reducible refine aH ?_ _)|(with_reducible refine aG ?_ _)|(with_reducible refine aI ?_)))
       (case side4 => exact (aQ HO_306000.out).2.1)
       rintro e w146 ⟨rfl,hb⟩
       refine ⟨_,rfl,?_⟩
       have n0_:=aK (Kd.V_below (by (with_reducible repeat (first|apply vA|apply vN|apply vD));exact HO_253000.out) hb)
       have n1_:=aK (Kd.V_below (by (with_reducible repeat (first|apply vA|apply vN|apply vD));exact HO_254000.out) hb)
       have n2_:=aK (Kd.R_below (by (with_reducible repeat (first|apply zA|apply zN|apply zD));exact HO_282000.out) hb)
       have n3_:=aK (Kd.R_below (by (with_reducible repeat (first|apply zA|apply zN|apply zD));exact HO_290000.out) hb)
       have n4_:=aK (Kd.R_below (by (with_reducible repeat (first|apply zA|apply zN|apply zD));exact HO_298000.out) hb)
       have n5_:=aK (Kd.R_below (by (with_reducible repeat (first|apply zA|apply zN|apply zD));exact HO_306000.out) hb)
       have n6_:=aK (aB (g:=gb252) (o:=.cells #[.slice A0_0 l0_0.length c0_0,.int .u64 a0_1,.int .u64 a0_2,.int .u64 a0_3] 25 (0,0)) (by (with_reducible repeat (first|apply bN|apply bD|apply bA));exact B252.out) hb)
       have n7_:=aK (aB (g:=gb253) (o:=.cells #[.slice A1_0 l1_0.length c1_0,.int .u64 a1_1,.int .u64 a1_2,.int .u64 a1_3] 25 (0,0)) (by (with_reducible repeat (first|apply bN|apply bD|apply bA));exact B253.out) hb)
       have n8_:=aK (aB (g:=gb254) (o:=.cells #[.slice A3_0 l3_0.length c3_0,.int .u64 a3_1,.int .u64 a3_2,.int .u64 a3_3] 28 (0,0)) (by (with_reducible repeat (first|apply bN|apply bD|apply bA));exact B254.out) hb)
       have n9_:=aK (aB (g:=gb281) (o:=.cells #[.slice Ao44 t274.length co44,.int .u64 t277,.int .u64 t278,.int .u64 t279] 25 (0,0)) (by (with_reducible repeat (first|apply bN|apply bD|apply bA));exact B281.out) hb)
       have n10_:=aK (aB (g:=gb289) (o:=.cells #[.slice Ao51 t282.length co51,.int .u64 t285,.int .u64 t286,.int .u64 t287] 25 (0,0)) (by (with_reducible repeat (first|apply bN|apply bD|apply bA));exact B289.out) hb)
       have n11_:=aK (aB (g:=gb297) (o:=.cells #[.slice Ao62 t290.length co62,.int .u64 t293,.int .u64 t294,.int .u64 t295] 28 (0,0)) (by (with_reducible repeat (first|apply bN|apply bD|apply bA));exact B297.out) hb)
       have n12_:=aK (aB (g:=gb305) (o:=.cells #[.slice Ao73 t298.length co73,.int .u64 t301,.int .u64 t302,.int .u64 t303] 28 (0,0)) (by (with_reducible repeat (first|apply bN|apply bD|apply bA));exact B305.out) hb)
       have n13_:=aK (aT (by repeat (first|(with_reducible first|exact HB.out|apply aA|apply aW|apply aD|refine aS ?_ E252.out|refine aS ?_ E253.out|refine aS ?_ E254.out|refine aS ?_ E281.out|refine aS ?_ E289.out|refine aS ?_ E297.out|refine aS ?_ E305.out)|exact HB.out)) hb)
       clear HO_253000
       clear HO_254000
       clear HO_282000
       clear HO_290000
       clear HO_298000
       clear HO_306000
       clear B252
       clear B253
       clear B254
       clear B281
       clear B289
       clear B297
       clear B305
       clear HB
       have HO_253000:=n0_
       have HO_254000:=n1_
       have HO_282000:=n2_
       have HO_290000:=n3_
       have HO_298000:=n4_
       have HO_306000:=n5_
       have B252:=n6_
       have B253:=n7_
       have B254:=n8_
       have B281:=n9_
       have B289:=n10_
       have B297:=n11_
       have B305:=n12_
       have HB:=n13_
       clear n0_ n1_ n2_ n3_ n4_ n5_ n6_ n7_ n8_ n9_ n10_ n11_ n12_ n13_
       (try clear hb)
       (try clear hb2)
       (try clear hk)
       (try clear hi)
       refine hK.out _ _ ⟨(aC B297.out 0).trans rfl,(aC B297.out 1).trans rfl,(aC B297.out 2).trans rfl,(aC B297.out 3).trans rfl,(aC B305.out 0).trans rfl,(aC B305.out 1).trans rfl,(aC B305.out 2).trans rfl,(aC B305.out 3).trans rfl,(aC B254.out 0).trans rfl,(aC B254.out 1).trans rfl,(aC B254.out 2).trans rfl,(aC B254.out 3).trans rfl⟩ (fun hHeld => ?_)
       clear hK K
       refine norm_ (a':=?_) ?_ ?_
       rotate_left
       ·show Act.put _ (some 104) _ = _
        simp only [Act.put,sA,sZ,sS,i64_w,i32_w]
        rfl
       refine pure_ (i:=3) (N:=some 105) (v:=?_) (a':=?_) #[tt,tt,tt,tt,ff,ff,ff,ff,ff,ff,ff,ff,ff,ff,ff,ff,ff,ff,ff] rfl rfl (any_of HT_.out (by kernel_rfl)) (fun _ _ _ h => h) (Or.inl ⟨by rfl,?_⟩) ?_ ?_
       rotate_left
       ·intro w'
        go_simp
        with_reducible rfl
       rotate_left
       ·simp only [Act.put,sA,sZ,sS,i64_w,i32_w]
        rfl
       refine pure_ (i:=4) (N:=some 106) (v:=?_) (a':=?_) #[tt,tt,tt,tt,tt,ff,ff,ff,ff,ff,ff,ff,ff,ff,ff,ff,ff,ff,ff] rfl rfl (any_of HT_.out (by kernel_rfl)) (fun _ _ _ h => h) (Or.inl ⟨by rfl,?_⟩) ?_ ?_
       rotate_left
       ·intro w'
        go_simp
        with_reducible rfl
       rotate_left
       ·simp only [Act.put,sA,sZ,sS,i64_w,i32_w]
        rfl
       refine pure_ (i:=5) (N:=some 107) (v:=?_) (a':=?_) #[tt,tt,tt,tt,tt,tt,ff,ff,ff,ff,ff,ff,ff,ff,ff,ff,ff,ff,ff] rfl rfl (any_of HT_.out (by kernel_rfl)) (fun _ _ _ h => h) (Or.inl ⟨by rfl,?_⟩) ?_ ?_
       rotate_left
       ·intro w'
        go_simp
        with_reducible rfl
       rotate_left
       ·simp only [Act.put,sA,sZ,sS,i64_w,i32_w]
        rfl
       refine pure_ (i:=6) (N:=some 108) (v:=?_) (a':=?_) #[tt,tt,tt,tt,tt,tt,tt,ff,ff,ff,ff,ff,ff,ff,ff,ff,ff,ff,ff] rfl rfl (any_of HT_.out (by kernel_rfl)) (fun _ _ _ h => h) (Or.inl ⟨by rfl,?_⟩) ?_ ?_
       rotate_left
       ·intro w'
        go_simp
        with_reducible rfl
       rotate_left
       ·simp only [Act.put,sA,sZ,sS,i64_w,i32_w]
        rfl
       refine pure_ (i:=7) (N:=some 109) (v:=?_) (a':=?_) #[tt,tt,tt,tt,tt,tt,tt,tt,ff,ff,ff,ff,ff,ff,ff,ff,ff,ff,ff] rfl rfl (any_of HT_.out (by kernel_rfl)) (fun _ _ _ h => h) (Or.inl ⟨by rfl,?_⟩) ?_ ?_
       rotate_left
       ·intro w'
        go_simp
        with_reducible rfl
       rotate_left
       ·simp only [Act.put,sA,sZ,sS,i64_w,i32_w]
        rfl
       refine pure_ (i:=8) (N:=some 110) (v:=?_) (a':=?_) #[tt,tt,tt,tt,tt,tt,tt,tt,tt,ff,ff,ff,ff,ff,ff,ff,ff,ff,ff] rfl rfl (any_of HT_.out (by kernel_rfl)) (fun _ _ _ h => h) (Or.inl ⟨by rfl,?_⟩) ?_ ?_
       rotate_left
       ·intro w'
        go_simp
        with_reducible rfl
       rotate_left
       ·simp only [Act.put,sA,sZ,sS,i64_w,i32_w]
        rfl
       refine take_ (i:=9) (N:=some 111) (v:=?_) (a':=?_) #[tt,tt,tt,tt,tt,tt,tt,tt,tt,tt,ff,ff,ff,ff,ff,ff,ff,ff,ff] rfl rfl (take_ofW HT_.out HW_.out (by kernel_rfl)) (fun _ _ _ h => h) (Or.inl ⟨by rfl,?_⟩) hHeld ?_ ?_
       rotate_left
       ·rintro w' ⟨s0,s1,s2,s3,s4,s5,s6,s7,s8,s9,s10,s11⟩
        go_simp
        with_reducible rfl
       rotate_left
       ·simp only [Act.put,sA,sZ,sS,i64_w,i32_w]
        rfl
       refine take_ (i:=11) (N:=some 113) (v:=?_) (a':=?_) #[tt,tt,tt,tt,tt,tt,tt,tt,tt,tt,ff,tt,ff,ff,ff,ff,ff,ff,ff] rfl rfl (take_ofW HT_.out HW_.out (by kernel_rfl)) (fun _ _ _ h => h) (Or.inl ⟨by rfl,?_⟩) hHeld ?_ ?_
       rotate_left
       ·rintro w' ⟨s0,s1,s2,s3,s4,s5,s6,s7,s8,s9,s10,s11⟩
        go_simp
        with_reducible rfl
       rotate_left
       ·simp only [Act.put,sA,sZ,sS,i64_w,i32_w]
        rfl
       refine one_ (i:=10) (N:=some 112) #[tt,tt,tt,tt,tt,tt,tt,tt,tt,tt,tt,tt,ff,ff,ff,ff,ff,ff,ff] rfl rfl (one_of HT_.out (by kernel_rfl)) (by decide) (fun K hK => ?_)
       refine goes_ Try.func23 (by kernel_rfl) rfl #[.agg #[.slice A3_0 l3_0.length c3_0,.int .u64 a3_1,.int .u64 a3_2,.int .u64 a3_3]] (by rfl) rfl rfl (by (try simp only [List.map_toArray,List.map_cons,List.map_nil]);first|done|rfl|(simp only [List.length_drop,List.length_take];rfl)) ?_
       with_reducible refine (edit_Whole.calls _ _ l3_0 a3_1 a3_2 a3_3 t313 t316 t317 t318 _ ?side1 ?side2 A140.out).mono ?_
       (case side1 => repeat (first|exact (Kd.C_below HR3_0.out HB.out)|(with_reducible refine aH ?_ _)|(with_reducible refine aG ?_ _)|(with_reducible refine aI ?_)))
       (case side2 => exact HC3_0.out)
       rintro e w147 ⟨v314,rfl,ho0,hb⟩
       refine ⟨_,rfl,?_⟩
       have n0_:=aK (aV (by (with_reducible repeat (first|apply vA|apply vN|apply vD));exact HO_253000.out) (aJ ho0) hb)
       have n1_:=aK (aV (by (with_reducible repeat (first|apply vA|apply vN|apply vD));exact HO_254000.out) (aJ ho0) hb)
       have n2_:=aK (aR (by (with_reducible repeat (first|apply zA|apply zN|apply zD));exact HO_282000.out) (aJ ho0) hb)
       have n3_:=aK (aR (by (with_reducible repeat (first|apply zA|apply zN|apply zD));exact HO_290000.out) (aJ ho0) hb)
       have n4_:=aK (aR (by (with_reducible repeat (first|apply zA|apply zN|apply zD));exact HO_298000.out) (aJ ho0) hb)
       have n5_:=aK (aR (by (with_reducible repeat (first|apply zA|apply zN|apply zD));exact HO_306000.out) (aJ ho0) hb)
       have n6_:=aK (aL (Kd.R_new' (Kd.R_new' (Kd.R_new' (Kd.R_new' (Kd.R_newM (M:=fun k_ => (w.heap.size ≤ k_)) ho0 (aZ (by repeat (first|(with_reducible first|exact HB.out|apply aA|apply aW|apply aD|refine aS ?_ E252.out|refine aS ?_ E253.out|refine aS ?_ E254.out|refine aS ?_ E281.out|refine aS ?_ E289.out|refine aS ?_ E297.out|refine aS ?_ E305.out)|exact HB.out))) (fun k_ h_ => h_)) (Kd.R_lt (by (with_reducible repeat (first|apply zA|apply zN|apply zD));exact HO_282000.out))) (Kd.R_lt (by (with_reducible repeat (first|apply zA|apply zN|apply zD));exact HO_290000.out))) (Kd.R_lt (by (with_reducible repeat (first|apply zA|apply zN|apply zD));exact HO_298000.out))) (Kd.R_lt (by (with_reducible repeat (first|apply zA|apply zN|apply zD));exact HO_306000.out))) (aZ (by repeat (first|(with_reducible first|exact HB.out|apply aA|apply aW|apply aD|refine aS ?_ E252.out|refine aS ?_ E253.out|refine aS ?_ E254.out|refine aS ?_ E281.out|refine aS ?_ E289.out|refine aS ?_ E297.out|refine aS ?_ E305.out)|exact HB.out))))
       have n7_:=aK (aB (g:=gb252) (o:=.cells #[.slice A0_0 l0_0.length c0_0,.int .u64 a0_1,.int .u64 a0_2,.int .u64 a0_3] 25 (0,0)) (by (with_reducible repeat (first|apply bN|apply bD|apply bA));exact B252.out) hb)
       have n8_:=aK (aB (g:=gb253) (o:=.cells #[.slice A1_0 l1_0.length c1_0,.int .u64 a1_1,.int .u64 a1_2,.int .u64 a1_3] 25 (0,0)) (by (with_reducible repeat (first|apply bN|apply bD|apply bA));exact B253.out) hb)
       have n9_:=aK (aB (g:=gb254) (o:=.cells #[.slice A3_0 l3_0.length c3_0,.int .u64 a3_1,.int .u64 a3_2,.int .u64 a3_3] 28 (0,0)) (by (with_reducible repeat (first|apply bN|apply bD|apply bA));exact B254.out) hb)
       have n10_:=aK (aB (g:=gb281) (o:=.cells #[.slice Ao44 t274.length co44,.int .u64 t277,.int .u64 t278,.int .u64 t279] 25 (0,0)) (by (with_reducible repeat (first|apply bN|apply bD|apply bA));exact B281.out) hb)
       have n11_:=aK (aB (g:=gb289) (o:=.cells #[.slice Ao51 t282.length co51,.int .u64 t285,.int .u64 t286,.int .u64 t287] 25 (0,0)) (by (with_reducible repeat (first|apply bN|apply bD|apply bA));exact B289.out) hb)
       have n12_:=aK (aB (g:=gb297) (o:=.cells #[.slice Ao62 t290.length co62,.int .u64 t293,.int .u64 t294,.int .u64 t295] 28 (0,0)) (by (with_reducible repeat (first|apply bN|apply bD|apply bA));exact B297.out) hb)
       have n13_:=aK (aB (g:=gb305) (o:=.cells #[.slice Ao73 t298.length co73,.int .u64 t301,.int .u64 t302,.int .u64 t303] 28 (0,0)) (by (with_reducible repeat (first|apply bN|apply bD|apply bA));exact B305.out) hb)
       have n14_:=aK (aT (by repeat (first|(with_reducible first|exact HB.out|apply aA|apply aW|apply aD|refine aS ?_ E252.out|refine aS ?_ E253.out|refine aS ?_ E254.out|refine aS ?_ E281.out|refine aS ?_ E289.out|refine aS ?_ E297.out|refine aS ?_ E305.out)|exact HB.out)) hb)
       clear HO_253000
       clear HO_254000
       clear HO_282000
       clear HO_290000
       clear HO_298000
       clear HO_306000
       clear B252
       clear B253
       clear B254
       clear B281
       clear B289
       clear B297
       clear B305
       clear HB
       have HO_253000:=n0_
       have HO_254000:=n1_
       have HO_282000:=n2_
       have HO_290000:=n3_
       have HO_298000:=n4_
       have HO_306000:=n5_
       have O315:=n6_
       have B252:=n7_
       have B253:=n8_
       have B254:=n9_
       have B281:=n10_
       have B289:=n11_
       have B297:=n12_
       have B305:=n13_
       have HB:=n14_
       clear n0_ n1_ n2_ n3_ n4_ n5_ n6_ n7_ n8_ n9_ n10_ n11_ n12_ n13_ n14_
       (try clear hb)
       (try clear hb2)
       (try clear hk)
       (try clear hi)
       (try clear ho0)
       refine hK.out _ _ ⟨(aC B297.out 0).trans rfl,(aC B297.out 1).trans rfl,(aC B297.out 2).trans rfl,(aC B297.out 3).trans rfl,(aC B305.out 0).trans rfl,(aC B305.out 1).trans rfl,(aC B305.out 2).trans rfl,(aC B305.out 3).trans rfl,(aC B254.out 0).trans rfl,(aC B254.out 1).trans rfl,(aC B254.out 2).trans rfl,(aC B254.out 3).trans rfl⟩ (fun hHeld => ?_)
       clear hK K
       refine norm_ (a':=?_) ?_ ?_
       rotate_left
       ·show Act.put _ (some 112) _ = _
        simp only [Act.put,sA,sZ,sS,i64_w,i32_w]
        rfl
       refine one_ (i:=12) (N:=some 114) #[tt,tt,tt,tt,tt,tt,tt,tt,tt,tt,tt,tt,tt,ff,ff,ff,ff,ff,ff] rfl rfl (one_of HT_.out (by kernel_rfl)) (by decide) (fun K hK => ?_)
       refine goes_ Try.func9 (by kernel_rfl) rfl #[.agg #[.slice A3_0 l3_0.length c3_0,.int .u64 a3_1,.int .u64 a3_2,.int .u64 a3_3]] (by rfl) rfl rfl (by (try simp only [List.map_toArray,List.map_cons,List.map_nil]);first|done|rfl|(simp only [List.length_drop,List.length_take];rfl)) ?_
       with_reducible refine (ratlineref09_Whole.calls _ _ l3_0 a3_1 a3_2 a3_3 t319 t322 t323 t324 _ ?side1 ?side2 A141.out).mono ?_
       (case side1 => repeat (first|exact (Kd.C_below HR3_0.out HB.out)|(with_reducible refine aH ?_ _)|(with_reducible refine aG ?_ _)|(with_reducible refine aI ?_)))
       (case side2 => exact HC3_0.out)
       rintro e w148 ⟨v320,rfl,ho0,hb⟩
       refine ⟨_,rfl,?_⟩
       have n0_:=aK (aV (by (with_reducible repeat (first|apply vA|apply vN|apply vD));exact HO_253000.out) (aJ ho0) hb)
       have n1_:=aK (aV (by (with_reducible repeat (first|apply vA|apply vN|apply vD));exact HO_254000.out) (aJ ho0) hb)
       have n2_:=aK (aR (by (with_reducible repeat (first|apply zA|apply zN|apply zD));exact HO_282000.out) (aJ ho0) hb)
       have n3_:=aK (aR (by (with_reducible repeat (first|apply zA|apply zN|apply zD));exact HO_290000.out) (aJ ho0) hb)
       have n4_:=aK (aR (by (with_reducible repeat (first|apply zA|apply zN|apply zD));exact HO_298000.out) (aJ ho0) hb)
       have n5_:=aK (aR (by (with_reducible repeat (first|apply zA|apply zN|apply zD));exact HO_306000.out) (aJ ho0) hb)
       have n6_:=aK (aR (by (with_reducible repeat (first|apply zA|apply zN|apply zD));exact O315.out) (aJ ho0) hb)
       have n7_:=aK (aL (Kd.R_new' (Kd.R_new' (Kd.R_new' (Kd.R_new' (Kd.R_new' (Kd.R_newM (M:=fun k_ => (w.heap.size ≤ k_)) ho0 (aZ (by repeat (first|(with_reducible first|exact HB.out|apply aA|apply aW|apply aD|refine aS ?_ E252.out|refine aS ?_ E253.out|refine aS ?_ E254.out|refine aS ?_ E281.out|refine aS ?_ E289.out|refine aS ?_ E297.out|refine aS ?_ E305.out)|exact HB.out))) (fun k_ h_ => h_)) (Kd.R_lt (by (with_reducible repeat (first|apply zA|apply zN|apply zD));exact HO_282000.out))) (Kd.R_lt (by (with_reducible repeat (first|apply zA|apply zN|apply zD));exact HO_290000.out))) (Kd.R_lt (by (with_reducible repeat (first|apply zA|apply zN|apply zD));exact HO_298000.out))) (Kd.R_lt (by (with_reducible repeat (first|apply zA|apply zN|apply zD));exact HO_306000.out))) (Kd.R_lt (by (with_reducible repeat (first|apply zA|apply zN|apply zD));exact O315.out))) (aZ (by repeat (first|(with_reducible first|exact HB.out|apply aA|apply aW|apply aD|refine aS ?_ E252.out|refine aS ?_ E253.out|refine aS ?_ E254.out|refine aS ?_ E281.out|refine aS ?_ E289.out|refine aS ?_ E297.out|refine aS ?_ E305.out)|exact HB.out))))
       have n8_:=aK (aB (g:=gb252) (o:=.cells #[.slice A0_0 l0_0.length c0_0,.int .u64 a0_1,.int .u64 a0_2,.int .u64 a0_3] 25 (0,0)) (by (with_reducible repeat (first|apply bN|apply bD|apply bA));exact B252.out) hb)
       have n9_:=aK (aB (g:=gb253) (o:=.cells #[.slice A1_0 l1_0.length c1_0,.int .u64 a1_1,.int .u64 a1_2,.int .u64 a1_3] 25 (0,0)) (by (with_reducible repeat (first|apply bN|apply bD|apply bA));exact B253.out) hb)
       have n10_:=aK (aB (g:=gb254) (o:=.cells #[.slice A3_0 l3_0.length c3_0,.int .u64 a3_1,.int .u64 a3_2,.int .u64 a3_3] 28 (0,0)) (by (with_reducible repeat (first|apply bN|apply bD|apply bA));exact B254.out) hb)
       have n11_:=aK (aB (g:=gb281) (o:=.cells #[.slice Ao44 t274.length co44,.int .u64 t277,.int .u64 t278,.int .u64 t279] 25 (0,0)) (by (with_reducible repeat (first|apply bN|apply bD|apply bA));exact B281.out) hb)
       have n12_:=aK (aB (g:=gb289) (o:=.cells #[.slice Ao51 t282.length co51,.int .u64 t285,.int .u64 t286,.int .u64 t287] 25 (0,0)) (by (with_reducible repeat (first|apply bN|apply bD|apply bA));exact B289.out) hb)
       have n13_:=aK (aB (g:=gb297) (o:=.cells #[.slice Ao62 t290.length co62,.int .u64 t293,.int .u64 t294,.int .u64 t295] 28 (0,0)) (by (with_reducible repeat (first|apply bN|apply bD|apply bA));exact B297.out) hb)
       have n14_:=aK (aB (g:=gb305) (o:=.cells #[.slice Ao73 t298.length co73,.int .u64 t301,.int .u64 t302,.int .u64 t303] 28 (0,0)) (by (with_reducible repeat (first|apply bN|apply bD|apply bA));exact B305.out) hb)
       have n15_:=aK (aT (by repeat (first|(with_reducible first|exact HB.out|apply aA|apply aW|apply aD|refine aS ?_ E252.out|refine aS ?_ E253.out|refine aS ?_ E254.out|refine aS ?_ E281.out|refine aS ?_ E289.out|refine aS ?_ E297.out|refine aS ?_ E305.out)|exact HB.out)) hb)
       clear HO_253000
       clear HO_254000
       clear HO_282000
       clear HO_290000
       clear HO_298000
       clear HO_306000
       clear O315
       clear B252
       clear B253
       clear B254
       clear B281
       clear B289
       clear B297
       clear B305
       clear HB
       have HO_253000:=n0_
       have HO_254000:=n1_
       have HO_282000:=n2_
       have HO_290000:=n3_
       have HO_298000:=n4_
       have HO_306000:=n5_
       have O315:=n6_
       have O321:=n7_
       have B252:=n8_
       have B253:=n9_
       have B254:=n10_
       have B281:=n11_
       have B289:=n12_
       have B297:=n13_
       have B305:=n14_
       have HB:=n15_
       clear n0_ n1_ n2_ n3_ n4_ n5_ n6_ n7_ n8_ n9_ n10_ n11_ n12_ n13_ n14_ n15_
       (try clear hb)
       (try clear hb2)
       (try clear hk)
       (try clear hi)
       (try clear ho0)
       obtain ⟨Ao149,co149,eo149⟩:=Kd.R_slice O315.out
       (first|subst eo149|(injection eo149 with f1_ f2_ f3_;have f4_:=f1_.symm;have f5_:=f3_.symm;clear f1_ f2_ f3_;subst f4_;subst f5_))
       obtain ⟨Ao150,co150,eo150⟩:=Kd.R_slice O321.out
       (first|subst eo150|(injection eo150 with f1_ f2_ f3_;have f4_:=f1_.symm;have f5_:=f3_.symm;clear f1_ f2_ f3_;subst f4_;subst f5_))
       refine hK.out _ _ ⟨(aC B297.out 0).trans rfl,(aC B297.out 1).trans rfl,(aC B297.out 2).trans rfl,(aC B297.out 3).trans rfl,(aC B305.out 0).trans rfl,(aC B305.out 1).trans rfl,(aC B305.out 2).trans rfl,(aC B305.out 3).trans rfl,(aC B254.out 0).trans rfl,(aC B254.out 1).trans rfl,(aC B254.out 2).trans rfl,(aC B254.out 3).trans rfl⟩ (fun hHeld => ?_)
       clear hK K
       refine norm_ (a':=?_) ?_ ?_
       rotate_left
       ·show Act.put _ (some 114) _ = _
        simp only [Act.put,sA,sZ,sS,i64_w,i32_w]
        rfl
       refine one_ (i:=13) (N:=some 115) #[tt,tt,tt,tt,tt,tt,tt,tt,tt,tt,tt,tt,tt,tt,ff,ff,ff,ff,ff] rfl rfl (one_of HT_.out (by kernel_rfl)) (by decide) (fun K hK => ?_)
       refine goes_ Try.func20 (by kernel_rfl) rfl #[.agg #[.slice Ao149 t313.length co149,.int .u64 t316,.int .u64 t317,.int .u64 t318],.agg #[.slice Ao150 t319.length co150,.int .u64 t322,.int .u64 t323,.int .u64 t324]] (by rfl) rfl rfl (by (try simp only [List.map_toArray,List.map_cons,List.map_nil]);first|done|rfl|(simp only [List.length_drop,List.length_take];rfl)) ?_
       with_reducible refine (ratlineref09_Same.calls kj34 _ _ t313 t316 t317 t318 _ _ t319 t322 t323 t324 true _ ?side1 ?side2 ?side3 ?side4 A142.out).mono ?_
       (case side1 => repeat (first|exact (aQ O315.out).2.2|(with_reducible refine aH ?_ _)|(with_reducible refine aG ?_ _)|(with_reducible refine aI ?_)))
       (case side2 => exact (aQ O315.out).2.1)
       (case side3 => repeat (first|exact (aQ O321.out).2.2|(with_reducible refine aH ?_ _)|(with_reducible refine aG ?_ _)|(with_reducible refine aI ?_)))
       (case side4 => exact (aQ O321.out).2.1)
       rintro e w151 ⟨rfl,hb⟩
       refine ⟨_,rfl,?_⟩
       have n0_:=aK (Kd.V_below (by (with_reducible repeat (first|apply vA|apply vN|apply vD));exact HO_253000.out) hb)
       have n1_:=aK (Kd.V_below (by (with_reducible repeat (first|apply vA|apply vN|apply vD));exact HO_254000.out) hb)
       have n2_:=aK (Kd.R_below (by (with_reducible repeat (first|apply zA|apply zN|apply zD));exact HO_282000.out) hb)
       have n3_:=aK (Kd.R_below (by (with_reducible repeat (first|apply zA|apply zN|apply zD));exact HO_290000.out) hb)
       have n4_:=aK (Kd.R_below (by (with_reducible repeat (first|apply zA|apply zN|apply zD));exact HO_298000.out) hb)
       have n5_:=aK (Kd.R_below (by (with_reducible repeat (first|apply zA|apply zN|apply zD));exact HO_306000.out) hb)
       have n6_:=aK (Kd.R_below (by (with_reducible repeat (first|apply zA|apply zN|apply zD));exact O315.out) hb)
       have n7_:=aK (Kd.R_below (by (with_reducible repeat (first|apply zA|apply zN|apply zD));exact O321.out) hb)
       have n8_:=aK (aB (g:=gb252) (o:=.cells #[.slice A0_0 l0_0.length c0_0,.int .u64 a0_1,.int .u64 a0_2,.int .u64 a0_3] 25 (0,0)) (by (with_reducible repeat (first|apply bN|apply bD|apply bA));exact B252.out) hb)
       have n9_:=aK (aB (g:=gb253) (o:=.cells #[.slice A1_0 l1_0.length c1_0,.int .u64 a1_1,.int .u64 a1_2,.int .u64 a1_3] 25 (0,0)) (by (with_reducible repeat (first|apply bN|apply bD|apply bA));exact B253.out) hb)
       have n10_:=aK (aB (g:=gb254) (o:=.cells #[.slice A3_0 l3_0.length c3_0,.int .u64 a3_1,.int .u64 a3_2,.int .u64 a3_3] 28 (0,0)) (by (with_reducible repeat (first|apply bN|apply bD|apply bA));exact B254.out) hb)
       have n11_:=aK (aB (g:=gb281) (o:=.cells #[.slice Ao44 t274.length co44,.int .u64 t277,.int .u64 t278,.int .u64 t279] 25 (0,0)) (by (with_reducible repeat (first|apply bN|apply bD|apply bA));exact B281.out) hb)
       have n12_:=aK (aB (g:=gb289) (o:=.cells #[.slice Ao51 t282.length co51,.int .u64 t285,.int .u64 t286,.int .u64 t287] 25 (0,0)) (by (with_reducible repeat (first|apply bN|apply bD|apply bA));exact B289.out) hb)
       have n13_:=aK (aB (g:=gb297) (o:=.cells #[.slice Ao62 t290.length co62,.int .u64 t293,.int .u64 t294,.int .u64 t295] 28 (0,0)) (by (with_reducible repeat (first|apply bN|apply bD|apply bA));exact B297.out) hb)
       have n14_:=aK (aB (g:=gb305) (o:=.cells #[.slice Ao73 t298.length co73,.int .u64 t301,.int .u64 t302,.int .u64 t303] 28 (0,0)) (by (with_reducible repeat (first|apply bN|apply bD|apply bA));exact B305.out) hb)
       have n15_:=aK (aT (by repeat (first|(with_reducible first|exact HB.out|apply aA|apply aW|apply aD|refine aS ?_ E252.out|refine aS ?_ E253.out|refine aS ?_ E254.out|refine aS ?_ E281.out|refine aS ?_ E289.out|refine aS ?_ E297.out|refine aS ?_ E305.out)|exact HB.out)) hb)
       clear HO_253000
       clear HO_254000
       clear HO_282000
       clear HO_290000
       clear HO_298000
       clear HO_306000
       clear O315
       clear O321
       clear B252
       clear B253
       clear B254
       clear B281
       clear B289
       clear B297
       clear B305
       clear HB
       have HO_253000:=n0_
       have HO_254000:=n1_
       have HO_282000:=n2_
       have HO_290000:=n3_
       have HO_298000:=n4_
       have HO_306000:=n5_
       have O315:=n6_
       have O321:=n7_
       have B252:=n8_
       have B253:=n9_
       have B254:=n10_
       have B281:=n11_
       have B289:=n12_
       have B297:=n13_
       have B305:=n14_
       have HB:=n15_
       clear n0_ n1_ n2_ n3_ n4_ n5_ n6_ n7_ n8_ n9_ n10_ n11_ n12_ n13_ n14_ n15_
       (try clear hb)
       (try clear hb2)
       (try clear hk)
       (try clear hi)
       refine hK.out _ _ ⟨(aC B297.out 0).trans rfl,(aC B297.out 1).trans rfl,(aC B297.out 2).trans rfl,(aC B297.out 3).trans rfl,(aC B305.out 0).trans rfl,(aC B305.out 1).trans rfl,(aC B305.out 2).trans rfl,(aC B305.out 3).trans rfl,(aC B254.out 0).trans rfl,(aC B254.out 1).trans rfl,(aC B254.out 2).trans rfl,(aC B254.out 3).trans rfl⟩ (fun hHeld => ?_)
       clear hK K
       refine norm_ (a':=?_) ?_ ?_
       rotate_left
       ·show Act.put _ (some 115) _ = _
        simp only [Act.put,sA,sZ,sS,i64_w,i32_w]
        rfl
       refine pure_ (i:=14) (N:=some 116) (v:=?_) (a':=?_) #[tt,tt,tt,tt,tt,tt,tt,tt,tt,tt,tt,tt,tt,tt,tt,ff,ff,ff,ff] rfl rfl (any_of HT_.out (by kernel_rfl)) (fun _ _ _ h => h) (Or.inl ⟨by rfl,?_⟩) ?_ ?_
       rotate_left
       ·intro w'
        go_simp
        with_reducible rfl
       rotate_left
       ·simp only [Act.put,sA,sZ,sS,i64_w,i32_w]
        rfl
       refine pure_ (i:=15) (N:=some 117) (v:=?_) (a':=?_) #[tt,tt,tt,tt,tt,tt,tt,tt,tt,tt,tt,tt,tt,tt,tt,tt,ff,ff,ff] rfl rfl (any_of HT_.out (by kernel_rfl)) (fun _ _ _ h => h) (Or.inl ⟨by rfl,?_⟩) ?_ ?_
       rotate_left
       ·intro w'
        go_simp
        with_reducible rfl
       rotate_left
       ·simp only [Act.put,sA,sZ,sS,i64_w,i32_w]
        rfl
       refine one_ (i:=16) (N:=some 118) #[tt,tt,tt,tt,tt,tt,tt,tt,tt,tt,tt,tt,tt,tt,tt,tt,tt,ff,ff] rfl rfl (one_of HT_.out (by kernel_rfl)) (by decide) (fun K hK => ?_)
       refine goes_ Try.func10 (by kernel_rfl) rfl #[] (by rfl) rfl rfl (by (try simp only [List.map_toArray,List.map_cons,List.map_nil]);first|done|rfl|(simp only [List.length_drop,List.length_take];rfl)) ?_
       with_reducible refine (ratlinelaw09_awake.calls  t326 _ A144.out).mono ?_
       rintro e w152 ⟨rfl,hb⟩
       refine ⟨_,rfl,?_⟩
       have n0_:=aK (Kd.V_below (by (with_reducible repeat (first|apply vA|apply vN|apply vD));exact HO_253000.out) hb)
       have n1_:=aK (Kd.V_below (by (with_reducible repeat (first|apply vA|apply vN|apply vD));exact HO_254000.out) hb)
       have n2_:=aK (Kd.R_below (by (with_reducible repeat (first|apply zA|apply zN|apply zD));exact HO_282000.out) hb)
       have n3_:=aK (Kd.R_below (by (with_reducible repeat (first|apply zA|apply zN|apply zD));exact HO_290000.out) hb)
       have n4_:=aK (Kd.R_below (by (with_reducible repeat (first|apply zA|apply zN|apply zD));exact HO_298000.out) hb)
       have n5_:=aK (Kd.R_below (by (with_reducible repeat (first|apply zA|apply zN|apply zD));exact HO_306000.out) hb)
       have n6_:=aK (Kd.R_below (by (with_reducible repeat (first|apply zA|apply zN|apply zD));exact O315.out) hb)
       have n7_:=aK (Kd.R_below (by (with_reducible repeat (first|apply zA|apply zN|apply zD));exact O321.out) hb)
       have n8_:=aK (aB (g:=gb252) (o:=.cells #[.slice A0_0 l0_0.length c0_0,.int .u64 a0_1,.int .u64 a0_2,.int .u64 a0_3] 25 (0,0)) (by (with_reducible repeat (first|apply bN|apply bD|apply bA));exact B252.out) hb)
       have n9_:=aK (aB (g:=gb253) (o:=.cells #[.slice A1_0 l1_0.length c1_0,.int .u64 a1_1,.int .u64 a1_2,.int .u64 a1_3] 25 (0,0)) (by (with_reducible repeat (first|apply bN|apply bD|apply bA));exact B253.out) hb)
       have n10_:=aK (aB (g:=gb254) (o:=.cells #[.slice A3_0 l3_0.length c3_0,.int .u64 a3_1,.int .u64 a3_2,.int .u64 a3_3] 28 (0,0)) (by (with_reducible repeat (first|apply bN|apply bD|apply bA));exact B254.out) hb)
       have n11_:=aK (aB (g:=gb281) (o:=.cells #[.slice Ao44 t274.length co44,.int .u64 t277,.int .u64 t278,.int .u64 t279] 25 (0,0)) (by (with_reducible repeat (first|apply bN|apply bD|apply bA));exact B281.out) hb)
       have n12_:=aK (aB (g:=gb289) (o:=.cells #[.slice Ao51 t282.length co51,.int .u64 t285,.int .u64 t286,.int .u64 t287] 25 (0,0)) (by (with_reducible repeat (first|apply bN|apply bD|apply bA));exact B289.out) hb)
       have n13_:=aK (aB (g:=gb297) (o:=.cells #[.slice Ao62 t290.length co62,.int .u64 t293,.int .u64 t294,.int .u64 t295] 28 (0,0)) (by (with_reducible repeat (first|apply bN|apply bD|apply bA));exact B297.out) hb)
       have n14_:=aK (aB (g:=gb305) (o:=.cells #[.slice Ao73 t298.length co73,.int .u64 t301,.int .u64 t302,.int .u64 t303] 28 (0,0)) (by (with_reducible repeat (first|apply bN|apply bD|apply bA));exact B305.out) hb)
       have n15_:=aK (aT (by repeat (first|(with_reducible first|exact HB.out|apply aA|apply aW|apply aD|refine aS ?_ E252.out|refine aS ?_ E253.out|refine aS ?_ E254.out|refine aS ?_ E281.out|refine aS ?_ E289.out|refine aS ?_ E297.out|refine aS ?_ E305.out)|exact HB.out)) hb)
       clear HO_253000
       clear HO_254000
       clear HO_282000
       clear HO_290000
       clear HO_298000
       clear HO_306000
       clear O315
       clear O321
       clear B252
       clear B253
       clear B254
       clear B281
       clear B289
       clear B297
       clear B305
       clear HB
       have HO_253000:=n0_
       have HO_254000:=n1_
       have HO_282000:=n2_
       have HO_290000:=n3_
       have HO_298000:=n4_
       have HO_306000:=n5_
       have O315:=n6_
       have O321:=n7_
       have B252:=n8_
       have B253:=n9_
       have B254:=n10_
       have B281:=n11_
       have B289:=n12_
       have B297:=n13_
       have B305:=n14_
       have HB:=n15_
       clear n0_ n1_ n2_ n3_ n4_ n5_ n6_ n7_ n8_ n9_ n10_ n11_ n12_ n13_ n14_ n15_
       (try clear hb)
       (try clear hb2)
       (try clear hk)
       (try clear hi)
       refine hK.out _ _ ⟨(aC B297.out 0).trans rfl,(aC B297.out 1).trans rfl,(aC B297.out 2).trans rfl,(aC B297.out 3).trans rfl,(aC B305.out 0).trans rfl,(aC B305.out 1).trans rfl,(aC B305.out 2).trans rfl,(aC B305.out 3).trans rfl,(aC B254.out 0).trans rfl,(aC B254.out 1).trans rfl,(aC B254.out 2).trans rfl,(aC B254.out 3).trans rfl⟩ (fun hHeld => ?_)
       clear hK K
       refine norm_ (a':=?_) ?_ ?_
       rotate_left
       ·show Act.put _ (some 118) _ = _
        simp only [Act.put,sA,sZ,sS,i64_w,i32_w]
        rfl
       refine pure_ (i:=17) (N:=some 119) (v:=?_) (a':=?_) #[tt,tt,tt,tt,tt,tt,tt,tt,tt,tt,tt,tt,tt,tt,tt,tt,tt,tt,ff] rfl rfl (any_of HT_.out (by kernel_rfl)) (fun _ _ _ h => h) (Or.inl ⟨by rfl,?_⟩) ?_ ?_
       rotate_left
       ·intro w'
        go_simp
        with_reducible rfl
       rotate_left
       ·simp only [Act.put,sA,sZ,sS,i64_w,i32_w]
        rfl
       refine pure_ (i:=18) (N:=some 8) (v:=?_) (a':=?_) #[tt,tt,tt,tt,tt,tt,tt,tt,tt,tt,tt,tt,tt,tt,tt,tt,tt,tt,tt] rfl rfl (any_of HT_.out (by kernel_rfl)) (fun _ _ _ h => h) (Or.inl ⟨by rfl,?_⟩) ?_ ?_
       rotate_left
       ·intro w'
        go_simp
        with_reducible rfl
       rotate_left
       ·simp only [Act.put,sA,sZ,sS,i64_w,i32_w]
        rfl
       refine done_ (done_of HT_.out (by kernel_rfl)) ?_
       try go_wp2
       go_ret
       exact ⟨by first|rfl|(simp [errW_none,errW_some] <;> rfl)|(simp [*,errW_none,errW_some] <;> rfl),by repeat (first|(with_reducible first|exact HB.out|apply aA|apply aW|apply aD|refine aS ?_ E252.out|refine aS ?_ E253.out|refine aS ?_ E254.out|refine aS ?_ E281.out|refine aS ?_ E289.out|refine aS ?_ E297.out|refine aS ?_ E305.out)|exact HB.out)⟩
end Go.Proofs.Ytcagajobpnpicaa.P

end

section
set_option linter.unusedVariables false
namespace Go.Proofs.Ytcagajobpnpicaa.editTells
open Go Go.ChangeShapes Go.WideShapes Go.ChangeAt Go.RowKit Go.Proofs.YtcagajobpnpicaaG Go.Proofs.Ytcagajobpnpicaa.P Go.Proofs.YtcagajobpnpicaaL Go.Proofs.YtcagajobpnpicaaW.PrintWords
open Go.ChangeMaps (open_string shut_string)
theorem own : ownKnob Try.prog.godebug = none:=by kernel_rfl
theorem laidOut : laidOutB Try.prog = true:=by kernel_rfl
set_option maxRecDepth 100000 in
theorem lifted (os : Os) (started : os.Started) (H : Type) (enc : TypeId × Value → H) :
  ReturnsInHanded {} Try.checked os 3 .any (Rows.editTellsSpec.pre6 enc Try.prog Try.f3 Rows.editTellsRow.domain false) (Rows.editTellsSpec.post enc Try.prog Try.f3 false true false false):=by
 refine returnsInHanded_of_change_sized (C:=Try.checked) own started (by kernel_rfl) Try.func3
  (ChangeSpec.witness6 (enc:=enc) (C:=Try.checked) false ⟨#[],#[.agg #[.slice none 0 0,.int .u64 0,.int .u64 0,.int .u64 0],.agg #[.slice none 0 0,.int .u64 0,.int .u64 0,.int .u64 0],.slice none 0 0,.agg #[.slice none 0 0,.int .u64 0,.int .u64 0,.int .u64 0]],[]⟩ 8 (by kernel_rfl) (by kernel_rfl) (by kernel_rfl) (by kernel_rfl)) ?_
 intro W base args ds gs before hval0 hW hcnd hsz0 _
 have hsz : (DataW.weightsEach Try.prog (Try.f3.params.toList ++ Rows.editTellsSpec.plain.varTypes Try.prog) (ds ++ gs)).all (· ≤ reachBytes) = true:=hsz0
 have hval : ∀ (j : Nat) t v,Try.f3.params[j]? = some t → args[j]? = some v → Value.okWide Try.prog W .any base t v:=hval0
 have hW':=hW
 obtain ⟨p,q,hA0,hV,rfl,hfz,hnd⟩:=hW
 have hA : DataW.TrodAll enc Try.prog W 0 (fun _=>true) true Try.f3.params.toList args.toList ds p:=hA0
 rw [Try.params3] at hA hval hsz
 obtain ⟨v0,vs0,d0,ds0,p0,q0,hargs,rfl,rfl,h0,r0⟩:=trodAll_cons hA
 obtain ⟨v1,vs1,d1,ds1,p1,q1,rfl,rfl,rfl,h1,r1⟩:=trodAll_cons r0
 obtain ⟨v2,vs2,d2,ds2,p2,q2,rfl,rfl,rfl,h2,r2⟩:=trodAll_cons r1
 obtain ⟨v3,vs3,d3,ds3,p3,q3,rfl,rfl,rfl,h3,r3⟩:=trodAll_cons r2
 obtain ⟨rfl,rfl,rfl⟩:=trodAll_nil r3
 obtain rfl : args = #[v0,v1,v2,v3]:=by cases args;simp_all
 obtain ⟨rfl,rfl⟩:=trodVars_none hV
 obtain ⟨cs0,rfl⟩:=opens_agg Try.underlying25 (hval 0 25 v0 rfl rfl)
 have k0:=h0
 have lt0 : ∀ x ∈ p0,x.block < W.heap.size:=by obtain ⟨m,hm⟩:=k0;exact DataW.trod_lt m _ _ _ hm
 obtain ⟨fuel0,hf0⟩:=h0
 obtain ⟨x0,hx0,hw0⟩:=(show Opens Try.prog 25 k25 _ from Opens.iso (opens_struct4 (ta:=22) (tb:=23) (tc:=23) (td:=23) Try.underlying25 (by kernel_rfl) (by kernel_rfl) (by kernel_rfl) (by kernel_rfl) (by kernel_rfl) (by kernel_rfl) (by kernel_rfl) (by kernel_rfl) (by kernel_rfl) (opens_slice (by kernel_rfl) Try.underlying22 (show Opens Try.prog 58 k58 _ from Opens.iso (opens_struct4 (ta:=23) (tb:=23) (tc:=9) (td:=9) Try.underlying58 (by kernel_rfl) (by kernel_rfl) (by kernel_rfl) (by kernel_rfl) (by kernel_rfl) (by kernel_rfl) (by kernel_rfl) (by kernel_rfl) (by kernel_rfl) (opens_int Try.underlying23) (opens_int Try.underlying23) (opens_string Try.underlying9) (opens_string Try.underlying9)) (fun x : S58=>(x.f0,x.f1,x.f2,x.f3)) (fun q=>⟨q.1,q.2.1,q.2.2.1,q.2.2.2⟩) (fun _=>rfl))) (opens_int Try.underlying23) (opens_int Try.underlying23) (opens_int Try.underlying23)) (fun x : S25=>(x.f0,x.f1,x.f2,x.f3)) (fun q=>⟨q.1,q.2.1,q.2.2.1,q.2.2.2⟩) (fun _=>rfl)) H enc _ _ _ _ _ _ _ hf0
 obtain ⟨A0_0,c0_0,hcs0,hl0_0,hC0_0⟩:=k25_open hx0
 obtain rfl : cs0 = #[.slice A0_0 (x0.f0).length c0_0,.int .u64 x0.f1,.int .u64 x0.f2,.int .u64 x0.f3]:=Array.ext' hcs0
 obtain ⟨cs1,rfl⟩:=opens_agg Try.underlying25 (hval 1 25 v1 rfl rfl)
 have k1:=h1
 have lt1 : ∀ x ∈ p1,x.block < W.heap.size:=by obtain ⟨m,hm⟩:=k1;exact DataW.trod_lt m _ _ _ hm
 obtain ⟨fuel1,hf1⟩:=h1
 obtain ⟨x1,hx1,hw1⟩:=(show Opens Try.prog 25 k25 _ from Opens.iso (opens_struct4 (ta:=22) (tb:=23) (tc:=23) (td:=23) Try.underlying25 (by kernel_rfl) (by kernel_rfl) (by kernel_rfl) (by kernel_rfl) (by kernel_rfl) (by kernel_rfl) (by kernel_rfl) (by kernel_rfl) (by kernel_rfl) (opens_slice (by kernel_rfl) Try.underlying22 (show Opens Try.prog 58 k58 _ from Opens.iso (opens_struct4 (ta:=23) (tb:=23) (tc:=9) (td:=9) Try.underlying58 (by kernel_rfl) (by kernel_rfl) (by kernel_rfl) (by kernel_rfl) (by kernel_rfl) (by kernel_rfl) (by kernel_rfl) (by kernel_rfl) (by kernel_rfl) (opens_int Try.underlying23) (opens_int Try.underlying23) (opens_string Try.underlying9) (opens_string Try.underlying9)) (fun x : S58=>(x.f0,x.f1,x.f2,x.f3)) (fun q=>⟨q.1,q.2.1,q.2.2.1,q.2.2.2⟩) (fun _=>rfl))) (opens_int Try.underlying23) (opens_int Try.underlying23) (opens_int Try.underlying23)) (fun x : S25=>(x.f0,x.f1,x.f2,x.f3)) (fun q=>⟨q.1,q.2.1,q.2.2.1,q.2.2.2⟩) (fun _=>rfl)) H enc _ _ _ _ _ _ _ hf1
 obtain ⟨A1_0,c1_0,hcs1,hl1_0,hC1_0⟩:=k25_open hx1
 obtain rfl : cs1 = #[.slice A1_0 (x1.f0).length c1_0,.int .u64 x1.f1,.int .u64 x1.f2,.int .u64 x1.f3]:=Array.ext' hcs1
 obtain ⟨a2,len2,cap2,rfl⟩:=okWide_slice Try.underlying26 (hval 2 26 v2 rfl rfl)
 have k2:=h2
 have y2:=sized_row hsz (j:=2) (t:=26) rfl rfl Try.underlying26 1 (by kernel_rfl) h2
 have lt2 : ∀ x ∈ p2,x.block < W.heap.size:=by obtain ⟨m,hm⟩:=k2;exact DataW.trod_lt m _ _ _ hm
 obtain ⟨fuel2,hf2⟩:=h2
 obtain ⟨A2,c2,l2,hcs2,hl2,hm2,hC2,hw2⟩:=opens_row (by kernel_rfl) Try.underlying26 (opens_int Try.underlying5) hf2
 simp only [Value.cells,List.cons.injEq,Value.slice.injEq,and_true] at hcs2
 obtain ⟨rfl,rfl,rfl⟩:=hcs2
 obtain ⟨cs3,rfl⟩:=opens_agg Try.underlying28 (hval 3 28 v3 rfl rfl)
 have k3:=h3
 have lt3 : ∀ x ∈ p3,x.block < W.heap.size:=by obtain ⟨m,hm⟩:=k3;exact DataW.trod_lt m _ _ _ hm
 obtain ⟨fuel3,hf3⟩:=h3
 obtain ⟨x3,hx3,hw3⟩:=(show Opens Try.prog 28 k28 _ from Opens.iso (opens_struct4 (ta:=22) (tb:=23) (tc:=23) (td:=23) Try.underlying28 (by kernel_rfl) (by kernel_rfl) (by kernel_rfl) (by kernel_rfl) (by kernel_rfl) (by kernel_rfl) (by kernel_rfl) (by kernel_rfl) (by kernel_rfl) (opens_slice (by kernel_rfl) Try.underlying22 (show Opens Try.prog 58 k58 _ from Opens.iso (opens_struct4 (ta:=23) (tb:=23) (tc:=9) (td:=9) Try.underlying58 (by kernel_rfl) (by kernel_rfl) (by kernel_rfl) (by kernel_rfl) (by kernel_rfl) (by kernel_rfl) (by kernel_rfl) (by kernel_rfl) (by kernel_rfl) (opens_int Try.underlying23) (opens_int Try.underlying23) (opens_string Try.underlying9) (opens_string Try.underlying9)) (fun x : S58=>(x.f0,x.f1,x.f2,x.f3)) (fun q=>⟨q.1,q.2.1,q.2.2.1,q.2.2.2⟩) (fun _=>rfl))) (opens_int Try.underlying23) (opens_int Try.underlying23) (opens_int Try.underlying23)) (fun x : S28=>(x.f0,x.f1,x.f2,x.f3)) (fun q=>⟨q.1,q.2.1,q.2.2.1,q.2.2.2⟩) (fun _=>rfl)) H enc _ _ _ _ _ _ _ hf3
 obtain ⟨A3_0,c3_0,hcs3,hl3_0,hC3_0⟩:=k28_open hx3
 obtain rfl : cs3 = #[.slice A3_0 (x3.f0).length c3_0,.int .u64 x3.f1,.int .u64 x3.f2,.int .u64 x3.f3]:=Array.ext' hcs3
 have y3 : x3.f0.length * 48 ≤ 140737488351232:=sized_field hsz (j:=3) (t:=28) (x:=(d3,p3)) rfl rfl Try.underlying28 rfl rfl (by kernel_rfl) Try.underlying22 48 (by kernel_rfl) (cs:=[.int .u64 x3.f1,.int .u64 x3.f2,.int .u64 x3.f3]) hf3
 obtain ⟨k,h⟩:=Pure.EditTells x0 hw0 x1 hw1 l2 (Nat.le_trans hl2 hm2) y2 hw2 x3 hw3 (by omega)
 clear hA0 hval0 hsz0 hsz
 refine (P.ratlinelaw09_EditTells.calls k (fun _=>True) _ _ x0.f0 x0.f1 x0.f2 x0.f3 (fun _=>True) _ _ x1.f0 x1.f1 x1.f2 x1.f3 _ _ l2 _ _ x3.f0 x3.f1 x3.f2 x3.f3 true W (Kd.V_mk hl0_0 (Kd.F_mono (Kd.C_F heap58 hC0_0) (fun _ _=>trivial))) (Kd.V_mk hl1_0 (Kd.F_mono (Kd.C_F heap58 hC1_0) (fun _ _=>trivial))) hC2 hl2 hC3_0 hl3_0 h).mono fun e W' ⟨he,bel⟩=>?_
 subst he
 exact ⟨_,rfl,_,_,_,[],_,[],hW',trodAll_mk1 (shut_bool Try.underlying4 _),(trodAll_cons_mk (Below.trod laidOut (by kernel_rfl) (of_decide_eq_true (by kernel_rfl)) k0 bel lt0) (trodAll_cons_mk (Below.trod laidOut (by kernel_rfl) (of_decide_eq_true (by kernel_rfl)) k1 bel lt1) (trodAll_cons_mk (Below.trod laidOut (by kernel_rfl) (of_decide_eq_true (by kernel_rfl)) k2 bel lt2) (trodAll_cons_mk (Below.trod laidOut (by kernel_rfl) (of_decide_eq_true (by kernel_rfl)) k3 bel lt3) trodAll_mk0)))),rfl,bel.frame _,fun h=>by cases h⟩
theorem over : Rows.editTellsRow.holds Try.pinned (OpenSpec.ofChange Rows.editTellsSpec) :=
 OpenClaim.holds_of_wide 3 Try.f3 rfl rfl rfl rfl rfl rfl rfl ⟨rfl,rfl,rfl,rfl,rfl⟩ rfl rfl rfl rfl rfl (by kernel_rfl) Try.func3 (by kernel_rfl)
  (of_decide_eq_true (by kernel_rfl)) (by unfold Func.isWrapper;first|(rw [if_pos (by decide +kernel)];kernel_rfl)|(rw [if_neg (by decide +kernel)];exact ⟨rfl,rfl⟩))
  (fun os started H enc _=>lifted os started H enc)
theorem proved : Rows.EditTellsSaid:=over
#print axioms proved
end Go.Proofs.Ytcagajobpnpicaa.editTells
namespace Go.Proofs.Ytcagajobpnpicaa
/-- The row, under a short name, for the claim. -/
theorem editTells_holds : Rows.EditTellsSaid:=editTells.proved
end Go.Proofs.Ytcagajobpnpicaa

end
