/- Proved here: the row of EditRefused, and what it needs. Conditions: those of each theorem. Written for this claim by programs; what the claim does not use is left out. -/
import Derived.ChangeArms
import Derived.DataReads
import Derived.DataElems
import Derived.OpenShut
import Derived.SizedLaws
import Derived.Test.YtlaihdipagejfaaRows
import Derived.WalkKit
import Derived.ProofKit
import Derived.ShutString
import Derived.ChangeOld
import Derived.Below
import Derived.Test.YtlaihdipagejfaaSEditRefused3
section
namespace Go.Proofs.Ytlaihdipagejfaa.P
open Go.RowKit Go.Proofs.YtlaihdipagejfaaG Go.Proofs.YtlaihdipagejfaaW.PrintWords Go.Proofs.YtlaihdipagejfaaW.PrintLast Go.Proofs.YtlaihdipagejfaaW.PrintMore
attribute [local go_sem] str_gtr str_geq str_leq max2_int min2_int max_two min_two max_three min_three max_four min_four   -- for this text's walks alone
set_option linter.unusedVariables false
set_option linter.unusedSimpArgs false

open ratlinelaw09_EditRefused
set_option linter.unusedVariables false
set_option linter.unusedSimpArgs false
set_option maxHeartbeats 8000000 in
set_option maxRecDepth 100000 in
theorem ratlinelaw09_EditRefused.calls (k : Nat) (P0_0_ : Nat → Prop) (A0_0 : Option Addr) (c0_0 : Nat) (l0_0 : List (S62)) (a0_1 : Int) (a0_2 : Int) (a0_3 : Int) (P1_0_ : Nat → Prop) (A1_0 : Option Addr) (c1_0 : Nat) (l1_0 : List (S62)) (a1_1 : Int) (a1_2 : Int) (a1_3 : Int) (r : Bool) (w : World) (hs0_0 : Kd.V k62 62 w w.heap.size (fun k_ => P0_0_ k_) (.slice A0_0 l0_0.length c0_0) l0_0) (hs1_0 : Kd.V k62 62 w w.heap.size (fun k_ => P1_0_ k_) (.slice A1_0 l1_0.length c1_0) l1_0) (h : f k l0_0 a0_1 a0_2 a0_3 l1_0 a1_1 a1_2 a1_3 = some r) :
  Calls Try.prog 8 #[.agg #[.slice A0_0 l0_0.length c0_0,.int .u64 a0_1,.int .u64 a0_2,.int .u64 a0_3],.agg #[.slice A1_0 l1_0.length c1_0,.int .u64 a1_1,.int .u64 a1_2,.int .u64 a1_3]] w fun e w' => e = .returned (.bool r) ∧ Below w.heap.size w w':=by
 have hu54:=Try.underlying54
 have hu57:=Try.underlying57
 have HO0_0:=aK (show Kd.V k62 62 w w.heap.size (fun k_ => ((P0_0_ k_ ∨ P1_0_ k_) ∨ w.heap.size ≤ k_)) (.slice A0_0 l0_0.length c0_0) l0_0 from aN hs0_0 (fun k_ hk => .inl (.inl hk)))
 have HO1_0:=aK (show Kd.V k62 62 w w.heap.size (fun k_ => ((P0_0_ k_ ∨ P1_0_ k_) ∨ w.heap.size ≤ k_)) (.slice A1_0 l1_0.length c1_0) l1_0 from aN hs1_0 (fun k_ hk => .inl (.inr hk)))
 have HB:=aK (Below.refl w.heap.size w)
 have H : ((ratlinelaw09_Few.f k (([(⟨l0_0,a0_1,a0_2,a0_3⟩ : S54),(⟨l1_0,a1_1,a1_2,a1_3⟩ : S54)] : List (S54)))).bind fun t417 => (if t417 = true then ((edit_Apply.f ([] : List (S62)) 0 0 0 l0_0 a0_1 a0_2 a0_3).bind fun bt419 => (if bt419.2.2.2.2 = 0 then ((edit_Right.f k l1_0 a1_1 a1_2 a1_3).bind fun t427 => (j0 k bt419.2.2.2.2 (!t427) l0_0 a0_1 a0_2 a0_3 l1_0 a1_1 a1_2 a1_3 bt419.1 bt419.2.1 bt419.2.2.1 bt419.2.2.2.1)) else (j0 k bt419.2.2.2.2 true l0_0 a0_1 a0_2 a0_3 l1_0 a1_1 a1_2 a1_3 bt419.1 bt419.2.1 bt419.2.2.1 bt419.2.2.2.1))) else ((ratlinelaw09_awake.f).bind fun t418 => (some t418)))) = some r:=h
 clear h
 obtain ⟨y414,hy414⟩ : ∃ y_ : List (S54),y_ = (([(⟨l0_0,a0_1,a0_2,a0_3⟩ : S54),(⟨l1_0,a1_1,a1_2,a1_3⟩ : S54)] : List (S54))):=⟨_,rfl⟩
 replace H : ((ratlinelaw09_Few.f k y414).bind fun t417 => (if t417 = true then ((edit_Apply.f ([] : List (S62)) 0 0 0 l0_0 a0_1 a0_2 a0_3).bind fun bt419 => (if bt419.2.2.2.2 = 0 then ((edit_Right.f k l1_0 a1_1 a1_2 a1_3).bind fun t427 => (j0 k bt419.2.2.2.2 (!t427) l0_0 a0_1 a0_2 a0_3 l1_0 a1_1 a1_2 a1_3 bt419.1 bt419.2.1 bt419.2.2.1 bt419.2.2.2.1)) else (j0 k bt419.2.2.2.2 true l0_0 a0_1 a0_2 a0_3 l1_0 a1_1 a1_2 a1_3 bt419.1 bt419.2.1 bt419.2.2.1 bt419.2.2.2.1))) else ((ratlinelaw09_awake.f).bind fun t418 => (some t418)))) = some r:=by first|(rw [hy414];with_reducible exact H)|(have H2_:=(Option.bind_some _ _).symm.trans H;rw [hy414];with_reducible exact H2_)|(have H2_:=(Option.bind_some _ _).symm.trans H;with_reducible exact H2_)|with_reducible exact H|(rw [hy414];exact H)|exact H
 have Ny414:=aK hy414
 clear hy414
 replace H:=Option.bind_eq_some_iff.mp H
 obtain ⟨t417,A30,H⟩:=H
 replace H : (if t417 = true then ((edit_Apply.f ([] : List (S62)) 0 0 0 l0_0 a0_1 a0_2 a0_3).bind fun bt419 => (if bt419.2.2.2.2 = 0 then ((edit_Right.f k l1_0 a1_1 a1_2 a1_3).bind fun t427 => (j0 k bt419.2.2.2.2 (!t427) l0_0 a0_1 a0_2 a0_3 l1_0 a1_1 a1_2 a1_3 bt419.1 bt419.2.1 bt419.2.2.1 bt419.2.2.2.1)) else (j0 k bt419.2.2.2.2 true l0_0 a0_1 a0_2 a0_3 l1_0 a1_1 a1_2 a1_3 bt419.1 bt419.2.1 bt419.2.2.1 bt419.2.2.2.1))) else ((ratlinelaw09_awake.f).bind fun t418 => (some t418))) = some r:=H
 have A3:=aK A30
 clear A30
 by_cases c4 : t417 = true
 rotate_left
 ·replace c4:=Bool.eq_false_iff.mpr c4
  subst c4
  have H1 : ((ratlinelaw09_awake.f).bind fun t418 => (some t418)) = some r:=by rw [if_neg (show ¬ (false = true) by decide)] at H;exact H
  clear H
  have H:=H1
  clear H1
  replace H:=Option.bind_eq_some_iff.mp H
  obtain ⟨t418,A2290,H⟩:=H
  replace H : (some t418) = some r:=H
  have A229:=aK A2290
  clear A2290
  obtain rfl:=Option.some.inj H
  go_enter Try.func8,Try.ntmps8
  go_wp2_with (first|((with_reducible refine gate_dst (N:=2) rfl ?_);(try (refine gate_guard (by rfl) ?_;dsimp only));refine box_event ?hg (N:=2) ?hd (cs:=#[.slice A0_0 l0_0.length c0_0,.int .u64 a0_1,.int .u64 a0_2,.int .u64 a0_3]) (t:=54) ?hr ?_;(case hd => rfl);(case hg => rfl);(case hr => first|(go_simp;done)|(go_simp;rfl));intro gb412 hg w230 hbox hb;have n0_:=aK (Kd.V_below (Kd.V_elderB (by (with_reducible repeat (first|apply vA|apply vN|apply vD));exact HO0_0.out) gb412 (Nat.le_of_eq hg.symm)) hb);have n1_:=aK (Kd.V_below (Kd.V_elderB (by (with_reducible repeat (first|apply vA|apply vN|apply vD));exact HO1_0.out) gb412 (Nat.le_of_eq hg.symm)) hb);have n2_:=aK (aT (by repeat (first|(with_reducible first|exact HB.out|apply aA|apply aW|apply aD)|exact HB.out)) hb);have n3_:=aK (hbox);have n4_:=aK ((by rw [hg];exact (aZ (by repeat (first|(with_reducible first|exact HB.out|apply aA|apply aW|apply aD)|exact HB.out))) : w.heap.size ≤ gb412));have n5_:=aK ((by rw [hg];exact (aZ (by repeat (first|(with_reducible first|exact HB.out|apply aA|apply aW|apply aD)|exact HB.out))) : w.heap.size ≤ gb412));clear HO0_0;clear HO1_0;clear HB;have HO0_0:=n0_;have HO1_0:=n1_;have HB:=n2_;have B412:=n3_;have W412:=n4_;have E412:=n5_;clear n0_ n1_ n2_ n3_ n4_ n5_;clear hb hbox hg)|((with_reducible refine gate_dst (N:=3) rfl ?_);(try (refine gate_guard (by rfl) ?_;dsimp only));refine box_event ?hg (N:=3) ?hd (cs:=#[.slice A1_0 l1_0.length c1_0,.int .u64 a1_1,.int .u64 a1_2,.int .u64 a1_3]) (t:=54) ?hr ?_;(case hd => rfl);(case hg => rfl);(case hr => first|(go_simp;done)|(go_simp;rfl));intro gb413 hg w231 hbox hb;have n0_:=aK (Kd.V_below (Kd.V_elderB (by (with_reducible repeat (first|apply vA|apply vN|apply vD));exact HO0_0.out) gb413 (Nat.le_of_eq hg.symm)) hb);have n1_:=aK (Kd.V_below (Kd.V_elderB (by (with_reducible repeat (first|apply vA|apply vN|apply vD));exact HO1_0.out) gb413 (Nat.le_of_eq hg.symm)) hb);have n2_:=aK (aB (g:=gb412) (o:=.cells #[.slice A0_0 l0_0.length c0_0,.int .u64 a0_1,.int .u64 a0_2,.int .u64 a0_3] 54 (0,0)) (by (with_reducible repeat (first|refine bN ?_ _|refine bD ?_|refine bA ?_ _));exact B412.out) hb);have n3_:=aK (aT (by repeat (first|(with_reducible first|exact HB.out|apply aA|apply aW|apply aD|refine aS ?_ E412.out)|exact HB.out)) hb);have n4_:=aK (hbox);have n5_:=aK ((by rw [hg];exact (aZ (by repeat (first|(with_reducible first|exact HB.out|apply aA|apply aW|apply aD|refine aS ?_ E412.out)|exact HB.out))) : w.heap.size ≤ gb413));have n6_:=aK ((by rw [hg];exact (aZ (by repeat (first|(with_reducible first|exact HB.out|apply aA|apply aW|apply aD|refine aS ?_ E412.out)|exact HB.out))) : w.heap.size ≤ gb413));have n7_:=aK ((by rw [hg];exact Nat.ne_of_lt (blk_lt (g:=gb412) (o:=.cells #[.slice A0_0 l0_0.length c0_0,.int .u64 a0_1,.int .u64 a0_2,.int .u64 a0_3] 54 (0,0)) (by (with_reducible repeat (first|refine bN ?_ _|refine bD ?_|refine bA ?_ _));exact B412.out)) : gb412 ≠ gb413));have n8_:=aK ((by rw [hg];exact Nat.ne_of_gt (blk_lt (g:=gb412) (o:=.cells #[.slice A0_0 l0_0.length c0_0,.int .u64 a0_1,.int .u64 a0_2,.int .u64 a0_3] 54 (0,0)) (by (with_reducible repeat (first|refine bN ?_ _|refine bD ?_|refine bA ?_ _));exact B412.out)) : gb413 ≠ gb412));clear HO0_0;clear HO1_0;clear B412;clear HB;have HO0_0:=n0_;have HO1_0:=n1_;have B412:=n2_;have HB:=n3_;have B413:=n4_;have W413:=n5_;have E413:=n6_;have N412_413:=n7_;have N413_412:=n8_;clear n0_ n1_ n2_ n3_ n4_ n5_ n6_ n7_ n8_;clear hb hbox hg;have hnb232:=N412_413.out;have hnc232:=N413_412.out;have z233_0 : w231.cell? ⟨gb412,0,none⟩ = some (.slice A0_0 l0_0.length c0_0):=(aC B412.out 0).trans rfl;have z233_1 : w231.cell? ⟨gb412,1,none⟩ = some (.int .u64 a0_1):=(aC B412.out 1).trans rfl;have z233_2 : w231.cell? ⟨gb412,2,none⟩ = some (.int .u64 a0_2):=(aC B412.out 2).trans rfl;have z233_3 : w231.cell? ⟨gb412,3,none⟩ = some (.int .u64 a0_3):=(aC B412.out 3).trans rfl;have f233_0:=aF B412.out 0;have f233_1:=aF B412.out 1;have f233_2:=aF B412.out 2;have f233_3:=aF B412.out 3;have z234_0 : w231.cell? ⟨gb413,0,none⟩ = some (.slice A1_0 l1_0.length c1_0):=(aC B413.out 0).trans rfl;have z234_1 : w231.cell? ⟨gb413,1,none⟩ = some (.int .u64 a1_1):=(aC B413.out 1).trans rfl;have z234_2 : w231.cell? ⟨gb413,2,none⟩ = some (.int .u64 a1_2):=(aC B413.out 2).trans rfl;have z234_3 : w231.cell? ⟨gb413,3,none⟩ = some (.int .u64 a1_3):=(aC B413.out 3).trans rfl;have f234_0:=aF B413.out 0;have f234_1:=aF B413.out 1;have f234_2:=aF B413.out 2;have f234_3:=aF B413.out 3)|((with_reducible refine gate_dst (N:=16) rfl ?_);(try (refine gate_guard (by rfl) ?_;dsimp only));refine Kd.N_lit k54 _ 54 ?hg (N':=16) ?hd (xs:=([(⟨l0_0,a0_1,a0_2,a0_3⟩ : S54),(⟨l1_0,a1_1,a1_2,a1_3⟩ : S54)] : List (S54))) (inner:=[.slice A0_0 l0_0.length c0_0,.int .u64 a0_1,.int .u64 a0_2,.int .u64 a0_3,.slice A1_0 l1_0.length c1_0,.int .u64 a1_1,.int .u64 a1_2,.int .u64 a1_3]) (ok:=(fun k_ => ((P0_0_ k_ ∨ P1_0_ k_) ∨ w.heap.size ≤ k_) ∧ k_ ≠ gb412 ∧ k_ ≠ gb413)) (okp:=(fun k_ => ((P0_0_ k_ ∨ P1_0_ k_) ∨ w.heap.size ≤ k_) ∧ k_ ≠ gb412 ∧ k_ ≠ gb413)) ?hr ?hp (fun _ hk => hk) ((show ∀ k_,w231.heap.size ≤ k_ → (fun k_ => ((P0_0_ k_ ∨ P1_0_ k_) ∨ w.heap.size ≤ k_) ∧ k_ ≠ gb412 ∧ k_ ≠ gb413) k_ from fun k_ hk => ⟨(.inr (Nat.le_trans (aZ (by repeat (first|(with_reducible first|exact HB.out|apply aA|apply aW|apply aD|refine aS ?_ E412.out|refine aS ?_ E413.out)|exact HB.out))) hk)),Kd.freshB (g:=gb412) (o:=.cells #[.slice A0_0 l0_0.length c0_0,.int .u64 a0_1,.int .u64 a0_2,.int .u64 a0_3] 54 (0,0)) (by (with_reducible repeat (first|refine bN ?_ _|refine bD ?_|refine bA ?_ _));exact B412.out) k_ hk,Kd.freshB (g:=gb413) (o:=.cells #[.slice A1_0 l1_0.length c1_0,.int .u64 a1_1,.int .u64 a1_2,.int .u64 a1_3] 54 (0,0)) (by (with_reducible repeat (first|refine bN ?_ _|refine bD ?_|refine bA ?_ _));exact B413.out) k_ hk⟩) _ (Nat.le_refl _)) (Below.refl _ _) (Nat.le_refl _) (by simp) ?_;(case hd => rfl);(case hg => rfl);(case hr => first|(go_simp;done)|(go_simp;rfl));(case hp => exact (Reps.c4 (show Kd.FK k54 _ _ (⟨l0_0,a0_1,a0_2,a0_3⟩ : S54) [.slice A0_0 l0_0.length c0_0,.int .u64 a0_1,.int .u64 a0_2,.int .u64 a0_3] from (k54_mkF _ _ (⟨l0_0,a0_1,a0_2,a0_3⟩ : S54) (aO (aN (ok':=(fun k_ => ((P0_0_ k_ ∨ P1_0_ k_) ∨ w.heap.size ≤ k_) ∧ k_ ≠ gb412 ∧ k_ ≠ gb413)) (HO0_0.out) (fun k_ hk => ⟨hk.1.1,⟨hk.1.2,hk.2⟩⟩))).2.1 (Kd.V_F (aN (ok':=(fun k_ => ((P0_0_ k_ ∨ P1_0_ k_) ∨ w.heap.size ≤ k_) ∧ k_ ≠ gb412 ∧ k_ ≠ gb413)) (HO0_0.out) (fun k_ hk => ⟨hk.1.1,⟨hk.1.2,hk.2⟩⟩))))) (Reps.c4 (show Kd.FK k54 _ _ (⟨l1_0,a1_1,a1_2,a1_3⟩ : S54) [.slice A1_0 l1_0.length c1_0,.int .u64 a1_1,.int .u64 a1_2,.int .u64 a1_3] from (k54_mkF _ _ (⟨l1_0,a1_1,a1_2,a1_3⟩ : S54) (aO (aN (ok':=(fun k_ => ((P0_0_ k_ ∨ P1_0_ k_) ∨ w.heap.size ≤ k_) ∧ k_ ≠ gb412 ∧ k_ ≠ gb413)) (HO1_0.out) (fun k_ hk => ⟨hk.1.1,⟨hk.1.2,hk.2⟩⟩))).2.1 (Kd.V_F (aN (ok':=(fun k_ => ((P0_0_ k_ ∨ P1_0_ k_) ∨ w.heap.size ≤ k_) ∧ k_ ≠ gb412 ∧ k_ ≠ gb413)) (HO1_0.out) (fun k_ hk => ⟨hk.1.1,⟨hk.1.2,hk.2⟩⟩))))) (Reps.none _ _))));intro v415 w235 ho236 hb hg_ hnew_;clear hg_ hnew_;(first|rw [← Ny414.out] at ho236|(simp only [Int.reduceToNat] at ho236;rw [← Ny414.out] at ho236));have n0_:=aK (aV (by (with_reducible repeat (first|apply vA|apply vN|apply vD));exact HO0_0.out) (Kd.N_base ho236) hb);have n1_:=aK (aV (by (with_reducible repeat (first|apply vA|apply vN|apply vD));exact HO1_0.out) (Kd.N_base ho236) hb);have n2_:=aK (Kd.N_lower ho236 (aZ (by repeat (first|(with_reducible first|exact HB.out|apply aA|apply aW|apply aD|refine aS ?_ E412.out|refine aS ?_ E413.out)|exact HB.out))));have n3_:=aK (aB (g:=gb412) (o:=.cells #[.slice A0_0 l0_0.length c0_0,.int .u64 a0_1,.int .u64 a0_2,.int .u64 a0_3] 54 (0,0)) (by (with_reducible repeat (first|refine bN ?_ _|refine bD ?_|refine bA ?_ _));exact B412.out) hb);have n4_:=aK (aB (g:=gb413) (o:=.cells #[.slice A1_0 l1_0.length c1_0,.int .u64 a1_1,.int .u64 a1_2,.int .u64 a1_3] 54 (0,0)) (by (with_reducible repeat (first|refine bN ?_ _|refine bD ?_|refine bA ?_ _));exact B413.out) hb);have n5_:=aK (aT (by repeat (first|(with_reducible first|exact HB.out|apply aA|apply aW|apply aD|refine aS ?_ E412.out|refine aS ?_ E413.out)|exact HB.out)) hb);clear HO0_0;clear HO1_0;clear B412;clear B413;clear HB;have HO0_0:=n0_;have HO1_0:=n1_;have O416:=n2_;have B412:=n3_;have B413:=n4_;have HB:=n5_;clear n0_ n1_ n2_ n3_ n4_ n5_;clear hb ho236;obtain ⟨Ao237,co237,eo237⟩:=Kd.N_slice O416.out;subst eo237)|((with_reducible refine gate_callee (f:=30) rfl ?_);refine goesL_ (some 17) rfl rfl Try.func30 (by kernel_rfl) rfl #[.slice Ao237 y414.length co237] rfl (by (try simp only [List.map_toArray,List.map_cons,List.map_nil]);first|done|rfl|(simp only [List.length_drop,List.length_take];rfl)) ?_;(with_reducible refine (ratlinelaw09_Few.calls k _ _ y414 false _ ?side1 ?side2 A3.out).mono ?_);(case side1 => repeat (first|exact (Kd.N_reads' O416.out).2.2|(with_reducible refine Kd.C_alloc ?_ _)|(with_reducible refine Kd.C_drewN ?_ _)|(with_reducible refine Kd.C_drew ?_)));(case side2 => exact (Kd.N_reads' O416.out).2.1);rintro e w238 ⟨rfl,hb⟩;refine ⟨_,rfl,?_⟩;have n0_:=aK (Kd.V_below (by (with_reducible repeat (first|apply vA|apply vN|apply vD));exact HO0_0.out) hb);have n1_:=aK (Kd.V_below (by (with_reducible repeat (first|apply vA|apply vN|apply vD));exact HO1_0.out) hb);have n2_:=aK (Kd.N_below (by (with_reducible repeat (first|apply nA|apply nN|apply nD));exact O416.out) hb);have n3_:=aK (aB (g:=gb412) (o:=.cells #[.slice A0_0 l0_0.length c0_0,.int .u64 a0_1,.int .u64 a0_2,.int .u64 a0_3] 54 (0,0)) (by (with_reducible repeat (first|refine bN ?_ _|refine bD ?_|refine bA ?_ _));exact B412.out) hb);have n4_:=aK (aB (g:=gb413) (o:=.cells #[.slice A1_0 l1_0.length c1_0,.int .u64 a1_1,.int .u64 a1_2,.int .u64 a1_3] 54 (0,0)) (by (with_reducible repeat (first|refine bN ?_ _|refine bD ?_|refine bA ?_ _));exact B413.out) hb);have n5_:=aK (aT (by repeat (first|(with_reducible first|exact HB.out|apply aA|apply aW|apply aD|refine aS ?_ E412.out|refine aS ?_ E413.out)|exact HB.out)) hb);clear HO0_0;clear HO1_0;clear O416;clear B412;clear B413;clear HB;have HO0_0:=n0_;have HO1_0:=n1_;have O416:=n2_;have B412:=n3_;have B413:=n4_;have HB:=n5_;clear n0_ n1_ n2_ n3_ n4_ n5_;(try clear hb);skip)|(go_at_call 31;(with_reducible refine (ratlinelaw09_awake.calls  t418 _ A229.out).mono ?_);rintro e w239 ⟨rfl,hb⟩;have n0_:=aK (Kd.V_below (by (with_reducible repeat (first|apply vA|apply vN|apply vD));exact HO0_0.out) hb);have n1_:=aK (Kd.V_below (by (with_reducible repeat (first|apply vA|apply vN|apply vD));exact HO1_0.out) hb);have n2_:=aK (Kd.N_below (by (with_reducible repeat (first|apply nA|apply nN|apply nD));exact O416.out) hb);have n3_:=aK (aB (g:=gb412) (o:=.cells #[.slice A0_0 l0_0.length c0_0,.int .u64 a0_1,.int .u64 a0_2,.int .u64 a0_3] 54 (0,0)) (by (with_reducible repeat (first|refine bN ?_ _|refine bD ?_|refine bA ?_ _));exact B412.out) hb);have n4_:=aK (aB (g:=gb413) (o:=.cells #[.slice A1_0 l1_0.length c1_0,.int .u64 a1_1,.int .u64 a1_2,.int .u64 a1_3] 54 (0,0)) (by (with_reducible repeat (first|refine bN ?_ _|refine bD ?_|refine bA ?_ _));exact B413.out) hb);have n5_:=aK (aT (by repeat (first|(with_reducible first|exact HB.out|apply aA|apply aW|apply aD|refine aS ?_ E412.out|refine aS ?_ E413.out)|exact HB.out)) hb);clear HO0_0;clear HO1_0;clear O416;clear B412;clear B413;clear HB;have HO0_0:=n0_;have HO1_0:=n1_;have O416:=n2_;have B412:=n3_;have B413:=n4_;have HB:=n5_;clear n0_ n1_ n2_ n3_ n4_ n5_;(try clear hb);skip;(try apply_assumption)))
  go_ret
  exact ⟨by first|rfl|(simp [errW_none,errW_some] <;> rfl)|(simp [*,errW_none,errW_some] <;> rfl),by repeat (first|(with_reducible first|exact HB.out|apply aA|apply aW|apply aD|refine aS ?_ E412.out|refine aS ?_ E413.out)|exact HB.out)⟩

 subst c4
 have H1 : ((edit_Apply.f ([] : List (S62)) 0 0 0 l0_0 a0_1 a0_2 a0_3).bind fun bt419 => (if bt419.2.2.2.2 = 0 then ((edit_Right.f k l1_0 a1_1 a1_2 a1_3).bind fun t427 => (j0 k bt419.2.2.2.2 (!t427) l0_0 a0_1 a0_2 a0_3 l1_0 a1_1 a1_2 a1_3 bt419.1 bt419.2.1 bt419.2.2.1 bt419.2.2.2.1)) else (j0 k bt419.2.2.2.2 true l0_0 a0_1 a0_2 a0_3 l1_0 a1_1 a1_2 a1_3 bt419.1 bt419.2.1 bt419.2.2.1 bt419.2.2.2.1))) = some r:=by rw [if_pos rfl] at H;exact H
 clear H
 have H:=H1
 clear H1
 replace H:=Option.bind_eq_some_iff.mp H
 obtain ⟨⟨t419,t422,t423,t424,t425⟩,A50,H⟩:=H
 replace H : (if t425 = 0 then ((edit_Right.f k l1_0 a1_1 a1_2 a1_3).bind fun t427 => (j0 k t425 (!t427) l0_0 a0_1 a0_2 a0_3 l1_0 a1_1 a1_2 a1_3 t419 t422 t423 t424)) else (j0 k t425 true l0_0 a0_1 a0_2 a0_3 l1_0 a1_1 a1_2 a1_3 t419 t422 t423 t424)) = some r:=H
 have A5:=aK A50
 clear A50
 have HC6:=aK H
 clear H
 go_enter Try.func8,Try.ntmps8
 go_upto_region 4 with (first|((with_reducible refine gate_dst (N:=2) rfl ?_);(try (refine gate_guard (by rfl) ?_;dsimp only));refine box_event ?hg (N:=2) ?hd (cs:=#[.slice A0_0 l0_0.length c0_0,.int .u64 a0_1,.int .u64 a0_2,.int .u64 a0_3]) (t:=54) ?hr ?_;(case hd => rfl);(case hg => rfl);(case hr => first|(go_simp;done)|(go_simp;rfl));intro gb412 hg w7 hbox hb;have n0_:=aK (Kd.V_below (Kd.V_elderB (by (with_reducible repeat (first|apply vA|apply vN|apply vD));exact HO0_0.out) gb412 (Nat.le_of_eq hg.symm)) hb);have n1_:=aK (Kd.V_below (Kd.V_elderB (by (with_reducible repeat (first|apply vA|apply vN|apply vD));exact HO1_0.out) gb412 (Nat.le_of_eq hg.symm)) hb);have n2_:=aK (aT (by repeat (first|(with_reducible first|exact HB.out|apply aA|apply aW|apply aD)|exact HB.out)) hb);have n3_:=aK (hbox);have n4_:=aK ((by rw [hg];exact (aZ (by repeat (first|(with_reducible first|exact HB.out|apply aA|apply aW|apply aD)|exact HB.out))) : w.heap.size ≤ gb412));have n5_:=aK ((by rw [hg];exact (aZ (by repeat (first|(with_reducible first|exact HB.out|apply aA|apply aW|apply aD)|exact HB.out))) : w.heap.size ≤ gb412));clear HO0_0;clear HO1_0;clear HB;have HO0_0:=n0_;have HO1_0:=n1_;have HB:=n2_;have B412:=n3_;have W412:=n4_;have E412:=n5_;clear n0_ n1_ n2_ n3_ n4_ n5_;clear hb hbox hg)|((with_reducible refine gate_dst (N:=3) rfl ?_);(try (refine gate_guard (by rfl) ?_;dsimp only));refine box_event ?hg (N:=3) ?hd (cs:=#[.slice A1_0 l1_0.length c1_0,.int .u64 a1_1,.int .u64 a1_2,.int .u64 a1_3]) (t:=54) ?hr ?_;(case hd => rfl);(case hg => rfl);(case hr => first|(go_simp;done)|(go_simp;rfl));intro gb413 hg w8 hbox hb;have n0_:=aK (Kd.V_below (Kd.V_elderB (by (with_reducible repeat (first|apply vA|apply vN|apply vD));exact HO0_0.out) gb413 (Nat.le_of_eq hg.symm)) hb);have n1_:=aK (Kd.V_below (Kd.V_elderB (by (with_reducible repeat (first|apply vA|apply vN|apply vD));exact HO1_0.out) gb413 (Nat.le_of_eq hg.symm)) hb);have n2_:=aK (aB (g:=gb412) (o:=.cells #[.slice A0_0 l0_0.length c0_0,.int .u64 a0_1,.int .u64 a0_2,.int .u64 a0_3] 54 (0,0)) (by (with_reducible repeat (first|refine bN ?_ _|refine bD ?_|refine bA ?_ _));exact B412.out) hb);have n3_:=aK (aT (by repeat (first|(with_reducible first|exact HB.out|apply aA|apply aW|apply aD|refine aS ?_ E412.out)|exact HB.out)) hb);have n4_:=aK (hbox);have n5_:=aK ((by rw [hg];exact (aZ (by repeat (first|(with_reducible first|exact HB.out|apply aA|apply aW|apply aD|refine aS ?_ E412.out)|exact HB.out))) : w.heap.size ≤ gb413));have n6_:=aK ((by rw [hg];exact (aZ (by repeat (first|(with_reducible first|exact HB.out|apply aA|apply aW|apply aD|refine aS ?_ E412.out)|exact HB.out))) : w.heap.size ≤ gb413));have n7_:=aK ((by rw [hg];exact Nat.ne_of_lt (blk_lt (g:=gb412) (o:=.cells #[.slice A0_0 l0_0.length c0_0,.int .u64 a0_1,.int .u64 a0_2,.int .u64 a0_3] 54 (0,0)) (by (with_reducible repeat (first|refine bN ?_ _|refine bD ?_|refine bA ?_ _));exact B412.out)) : gb412 ≠ gb413));have n8_:=aK ((by rw [hg];exact Nat.ne_of_gt (blk_lt (g:=gb412) (o:=.cells #[.slice A0_0 l0_0.length c0_0,.int .u64 a0_1,.int .u64 a0_2,.int .u64 a0_3] 54 (0,0)) (by (with_reducible repeat (first|refine bN ?_ _|refine bD ?_|refine bA ?_ _));exact B412.out)) : gb413 ≠ gb412));clear HO0_0;clear HO1_0;clear B412;clear HB;have HO0_0:=n0_;have HO1_0:=n1_;have B412:=n2_;have HB:=n3_;have B413:=n4_;have W413:=n5_;have E413:=n6_;have N412_413:=n7_;have N413_412:=n8_;clear n0_ n1_ n2_ n3_ n4_ n5_ n6_ n7_ n8_;clear hb hbox hg;have hnb9:=N412_413.out;have hnc9:=N413_412.out;have z10_0 : w8.cell? ⟨gb412,0,none⟩ = some (.slice A0_0 l0_0.length c0_0):=(aC B412.out 0).trans rfl;have z10_1 : w8.cell? ⟨gb412,1,none⟩ = some (.int .u64 a0_1):=(aC B412.out 1).trans rfl;have z10_2 : w8.cell? ⟨gb412,2,none⟩ = some (.int .u64 a0_2):=(aC B412.out 2).trans rfl;have z10_3 : w8.cell? ⟨gb412,3,none⟩ = some (.int .u64 a0_3):=(aC B412.out 3).trans rfl;have f10_0:=aF B412.out 0;have f10_1:=aF B412.out 1;have f10_2:=aF B412.out 2;have f10_3:=aF B412.out 3;have z11_0 : w8.cell? ⟨gb413,0,none⟩ = some (.slice A1_0 l1_0.length c1_0):=(aC B413.out 0).trans rfl;have z11_1 : w8.cell? ⟨gb413,1,none⟩ = some (.int .u64 a1_1):=(aC B413.out 1).trans rfl;have z11_2 : w8.cell? ⟨gb413,2,none⟩ = some (.int .u64 a1_2):=(aC B413.out 2).trans rfl;have z11_3 : w8.cell? ⟨gb413,3,none⟩ = some (.int .u64 a1_3):=(aC B413.out 3).trans rfl;have f11_0:=aF B413.out 0;have f11_1:=aF B413.out 1;have f11_2:=aF B413.out 2;have f11_3:=aF B413.out 3)|((with_reducible refine gate_dst (N:=16) rfl ?_);(try (refine gate_guard (by rfl) ?_;dsimp only));refine Kd.N_lit k54 _ 54 ?hg (N':=16) ?hd (xs:=([(⟨l0_0,a0_1,a0_2,a0_3⟩ : S54),(⟨l1_0,a1_1,a1_2,a1_3⟩ : S54)] : List (S54))) (inner:=[.slice A0_0 l0_0.length c0_0,.int .u64 a0_1,.int .u64 a0_2,.int .u64 a0_3,.slice A1_0 l1_0.length c1_0,.int .u64 a1_1,.int .u64 a1_2,.int .u64 a1_3]) (ok:=(fun k_ => ((P0_0_ k_ ∨ P1_0_ k_) ∨ w.heap.size ≤ k_) ∧ k_ ≠ gb412 ∧ k_ ≠ gb413)) (okp:=(fun k_ => ((P0_0_ k_ ∨ P1_0_ k_) ∨ w.heap.size ≤ k_) ∧ k_ ≠ gb412 ∧ k_ ≠ gb413)) ?hr ?hp (fun _ hk => hk) ((show ∀ k_,w8.heap.size ≤ k_ → (fun k_ => ((P0_0_ k_ ∨ P1_0_ k_) ∨ w.heap.size ≤ k_) ∧ k_ ≠ gb412 ∧ k_ ≠ gb413) k_ from fun k_ hk => ⟨(.inr (Nat.le_trans (aZ (by repeat (first|(with_reducible first|exact HB.out|apply aA|apply aW|apply aD|refine aS ?_ E412.out|refine aS ?_ E413.out)|exact HB.out))) hk)),Kd.freshB (g:=gb412) (o:=.cells #[.slice A0_0 l0_0.length c0_0,.int .u64 a0_1,.int .u64 a0_2,.int .u64 a0_3] 54 (0,0)) (by (with_reducible repeat (first|refine bN ?_ _|refine bD ?_|refine bA ?_ _));exact B412.out) k_ hk,Kd.freshB (g:=gb413) (o:=.cells #[.slice A1_0 l1_0.length c1_0,.int .u64 a1_1,.int .u64 a1_2,.int .u64 a1_3] 54 (0,0)) (by (with_reducible repeat (first|refine bN ?_ _|refine bD ?_|refine bA ?_ _));exact B413.out) k_ hk⟩) _ (Nat.le_refl _)) (Below.refl _ _) (Nat.le_refl _) (by simp) ?_;(case hd => rfl);(case hg => rfl);(case hr => first|(go_simp;done)|(go_simp;rfl));(case hp => exact (Reps.c4 (show Kd.FK k54 _ _ (⟨l0_0,a0_1,a0_2,a0_3⟩ : S54) [.slice A0_0 l0_0.length c0_0,.int .u64 a0_1,.int .u64 a0_2,.int .u64 a0_3] from (k54_mkF _ _ (⟨l0_0,a0_1,a0_2,a0_3⟩ : S54) (aO (aN (ok':=(fun k_ => ((P0_0_ k_ ∨ P1_0_ k_) ∨ w.heap.size ≤ k_) ∧ k_ ≠ gb412 ∧ k_ ≠ gb413)) (HO0_0.out) (fun k_ hk => ⟨hk.1.1,⟨hk.1.2,hk.2⟩⟩))).2.1 (Kd.V_F (aN (ok':=(fun k_ => ((P0_0_ k_ ∨ P1_0_ k_) ∨ w.heap.size ≤ k_) ∧ k_ ≠ gb412 ∧ k_ ≠ gb413)) (HO0_0.out) (fun k_ hk => ⟨hk.1.1,⟨hk.1.2,hk.2⟩⟩))))) (Reps.c4 (show Kd.FK k54 _ _ (⟨l1_0,a1_1,a1_2,a1_3⟩ : S54) [.slice A1_0 l1_0.length c1_0,.int .u64 a1_1,.int .u64 a1_2,.int .u64 a1_3] from (k54_mkF _ _ (⟨l1_0,a1_1,a1_2,a1_3⟩ : S54) (aO (aN (ok':=(fun k_ => ((P0_0_ k_ ∨ P1_0_ k_) ∨ w.heap.size ≤ k_) ∧ k_ ≠ gb412 ∧ k_ ≠ gb413)) (HO1_0.out) (fun k_ hk => ⟨hk.1.1,⟨hk.1.2,hk.2⟩⟩))).2.1 (Kd.V_F (aN (ok':=(fun k_ => ((P0_0_ k_ ∨ P1_0_ k_) ∨ w.heap.size ≤ k_) ∧ k_ ≠ gb412 ∧ k_ ≠ gb413)) (HO1_0.out) (fun k_ hk => ⟨hk.1.1,⟨hk.1.2,hk.2⟩⟩))))) (Reps.none _ _))));intro v415 w12 ho13 hb hg_ hnew_;clear hg_ hnew_;(first|rw [← Ny414.out] at ho13|(simp only [Int.reduceToNat] at ho13;rw [← Ny414.out] at ho13));have n0_:=aK (aV (by (with_reducible repeat (first|apply vA|apply vN|apply vD));exact HO0_0.out) (Kd.N_base ho13) hb);have n1_:=aK (aV (by (with_reducible repeat (first|apply vA|apply vN|apply vD));exact HO1_0.out) (Kd.N_base ho13) hb);have n2_:=aK (Kd.N_lower ho13 (aZ (by repeat (first|(with_reducible first|exact HB.out|apply aA|apply aW|apply aD|refine aS ?_ E412.out|refine aS ?_ E413.out)|exact HB.out))));have n3_:=aK (aB (g:=gb412) (o:=.cells #[.slice A0_0 l0_0.length c0_0,.int .u64 a0_1,.int .u64 a0_2,.int .u64 a0_3] 54 (0,0)) (by (with_reducible repeat (first|refine bN ?_ _|refine bD ?_|refine bA ?_ _));exact B412.out) hb);have n4_:=aK (aB (g:=gb413) (o:=.cells #[.slice A1_0 l1_0.length c1_0,.int .u64 a1_1,.int .u64 a1_2,.int .u64 a1_3] 54 (0,0)) (by (with_reducible repeat (first|refine bN ?_ _|refine bD ?_|refine bA ?_ _));exact B413.out) hb);have n5_:=aK (aT (by repeat (first|(with_reducible first|exact HB.out|apply aA|apply aW|apply aD|refine aS ?_ E412.out|refine aS ?_ E413.out)|exact HB.out)) hb);clear HO0_0;clear HO1_0;clear B412;clear B413;clear HB;have HO0_0:=n0_;have HO1_0:=n1_;have O416:=n2_;have B412:=n3_;have B413:=n4_;have HB:=n5_;clear n0_ n1_ n2_ n3_ n4_ n5_;clear hb ho13;obtain ⟨Ao14,co14,eo14⟩:=Kd.N_slice O416.out;subst eo14)|((with_reducible refine gate_callee (f:=30) rfl ?_);refine goesL_ (some 17) rfl rfl Try.func30 (by kernel_rfl) rfl #[.slice Ao14 y414.length co14] rfl (by (try simp only [List.map_toArray,List.map_cons,List.map_nil]);first|done|rfl|(simp only [List.length_drop,List.length_take];rfl)) ?_;(with_reducible refine (ratlinelaw09_Few.calls k _ _ y414 true _ ?side1 ?side2 A3.out).mono ?_);(case side1 => repeat (first|exact (Kd.N_reads' O416.out).2.2|(with_reducible refine Kd.C_alloc ?_ _)|(with_reducible refine Kd.C_drewN ?_ _)|(with_reducible refine Kd.C_drew ?_)));(case side2 => exact (Kd.N_reads' O416.out).2.1);rintro e w15 ⟨rfl,hb⟩;refine ⟨_,rfl,?_⟩;have n0_:=aK (Kd.V_below (by (with_reducible repeat (first|apply vA|apply vN|apply vD));exact HO0_0.out) hb);have n1_:=aK (Kd.V_below (by (with_reducible repeat (first|apply vA|apply vN|apply vD));exact HO1_0.out) hb);have n2_:=aK (Kd.N_below (by (with_reducible repeat (first|apply nA|apply nN|apply nD));exact O416.out) hb);have n3_:=aK (aB (g:=gb412) (o:=.cells #[.slice A0_0 l0_0.length c0_0,.int .u64 a0_1,.int .u64 a0_2,.int .u64 a0_3] 54 (0,0)) (by (with_reducible repeat (first|refine bN ?_ _|refine bD ?_|refine bA ?_ _));exact B412.out) hb);have n4_:=aK (aB (g:=gb413) (o:=.cells #[.slice A1_0 l1_0.length c1_0,.int .u64 a1_1,.int .u64 a1_2,.int .u64 a1_3] 54 (0,0)) (by (with_reducible repeat (first|refine bN ?_ _|refine bD ?_|refine bA ?_ _));exact B413.out) hb);have n5_:=aK (aT (by repeat (first|(with_reducible first|exact HB.out|apply aA|apply aW|apply aD|refine aS ?_ E412.out|refine aS ?_ E413.out)|exact HB.out)) hb);clear HO0_0;clear HO1_0;clear O416;clear B412;clear B413;clear HB;have HO0_0:=n0_;have HO1_0:=n1_;have O416:=n2_;have B412:=n3_;have B413:=n4_;have HB:=n5_;clear n0_ n1_ n2_ n3_ n4_ n5_;(try clear hb);skip;have z16_0 : w15.cell? ⟨gb412,0,none⟩ = some (.slice A0_0 l0_0.length c0_0):=(aC B412.out 0).trans rfl;have z16_1 : w15.cell? ⟨gb412,1,none⟩ = some (.int .u64 a0_1):=(aC B412.out 1).trans rfl;have z16_2 : w15.cell? ⟨gb412,2,none⟩ = some (.int .u64 a0_2):=(aC B412.out 2).trans rfl;have z16_3 : w15.cell? ⟨gb412,3,none⟩ = some (.int .u64 a0_3):=(aC B412.out 3).trans rfl;have f16_0:=aF B412.out 0;have f16_1:=aF B412.out 1;have f16_2:=aF B412.out 2;have f16_3:=aF B412.out 3)|((with_reducible refine gate_callee (f:=32) rfl ?_);refine goesL_ (some 23) rfl rfl Try.func32 (by kernel_rfl) rfl #[.agg #[.slice none 0 0,.int .u64 0,.int .u64 0,.int .u64 0],.agg #[.slice A0_0 l0_0.length c0_0,.int .u64 a0_1,.int .u64 a0_2,.int .u64 a0_3]] rfl (by (try simp only [List.map_toArray,List.map_cons,List.map_nil]);first|done|rfl|(simp only [List.length_drop,List.length_take];rfl)) ?_;(refine calls_of_args (args':=#[.agg #[.slice none (([] : List (S62))).length 0,.int .u64 0,.int .u64 0,.int .u64 0],.agg #[.slice A0_0 l0_0.length c0_0,.int .u64 a0_1,.int .u64 a0_2,.int .u64 a0_3]]) (by rfl) ?_;with_reducible refine (edit_Apply.calls _ _ ([] : List (S62)) 0 0 0 _ _ l0_0 a0_1 a0_2 a0_3 t419 t422 t423 t424 t425 _ ?side1 ?side2 ?side3 ?side4 A5.out).mono ?_);(case side1 => exact Kd.C_nil _ _);(case side2 => exact Nat.le_refl _);(case side3 => repeat (first|exact (aO HO0_0.out).2.2|(with_reducible refine Kd.C_alloc ?_ _)|(with_reducible refine Kd.C_drewN ?_ _)|(with_reducible refine Kd.C_drew ?_)));(case side4 => exact (aO HO0_0.out).2.1);rintro e w17 ⟨v420,rfl,ho0,hb⟩;refine ⟨_,rfl,?_⟩;have n0_:=aK (aV (by (with_reducible repeat (first|apply vA|apply vN|apply vD));exact HO0_0.out) (aJ ho0) hb);have n1_:=aK (aV (by (with_reducible repeat (first|apply vA|apply vN|apply vD));exact HO1_0.out) (aJ ho0) hb);have n2_:=aK (Kd.N_elder' (by (with_reducible repeat (first|apply nA|apply nN|apply nD));exact O416.out) (aJ ho0) hb);have n3_:=aK (Kd.R_lower (Kd.R_newM (M:=fun k_ => (w.heap.size ≤ k_)) ho0 (aZ (by repeat (first|(with_reducible first|exact HB.out|apply aA|apply aW|apply aD|refine aS ?_ E412.out|refine aS ?_ E413.out)|exact HB.out))) (fun k_ h_ => h_)) (aZ (by repeat (first|(with_reducible first|exact HB.out|apply aA|apply aW|apply aD|refine aS ?_ E412.out|refine aS ?_ E413.out)|exact HB.out))));have n4_:=aK (aB (g:=gb412) (o:=.cells #[.slice A0_0 l0_0.length c0_0,.int .u64 a0_1,.int .u64 a0_2,.int .u64 a0_3] 54 (0,0)) (by (with_reducible repeat (first|refine bN ?_ _|refine bD ?_|refine bA ?_ _));exact B412.out) hb);have n5_:=aK (aB (g:=gb413) (o:=.cells #[.slice A1_0 l1_0.length c1_0,.int .u64 a1_1,.int .u64 a1_2,.int .u64 a1_3] 54 (0,0)) (by (with_reducible repeat (first|refine bN ?_ _|refine bD ?_|refine bA ?_ _));exact B413.out) hb);have n6_:=aK (aT (by repeat (first|(with_reducible first|exact HB.out|apply aA|apply aW|apply aD|refine aS ?_ E412.out|refine aS ?_ E413.out)|exact HB.out)) hb);clear HO0_0;clear HO1_0;clear O416;clear B412;clear B413;clear HB;have HO0_0:=n0_;have HO1_0:=n1_;have O416:=n2_;have O421:=n3_;have B412:=n4_;have B413:=n5_;have HB:=n6_;clear n0_ n1_ n2_ n3_ n4_ n5_ n6_;(try clear hb);skip;(try clear ho0))|((with_reducible refine gate_dst (N:=5) rfl ?_);(try (refine gate_guard (by rfl) ?_;dsimp only));refine box_event ?hg (N:=5) ?hd (cs:=#[.slice none 0 0,.int .u64 0,.int .u64 0,.int .u64 0]) (t:=57) ?hr ?_;(case hd => rfl);(case hg => rfl);(case hr => first|(go_simp;done)|(go_simp;rfl));intro gb426 hg w18 hbox hb;have n0_:=aK (Kd.V_below (Kd.V_elderB (by (with_reducible repeat (first|apply vA|apply vN|apply vD));exact HO0_0.out) gb426 (Nat.le_of_eq hg.symm)) hb);have n1_:=aK (Kd.V_below (Kd.V_elderB (by (with_reducible repeat (first|apply vA|apply vN|apply vD));exact HO1_0.out) gb426 (Nat.le_of_eq hg.symm)) hb);have n2_:=aK (Kd.N_below (Kd.N_elderB (by (with_reducible repeat (first|apply nA|apply nN|apply nD));exact O416.out) gb426 (Nat.le_of_eq hg.symm)) hb);have n3_:=aK (Kd.R_below (by (with_reducible repeat (first|apply zA|apply zN|apply zD));exact O421.out) hb);have n4_:=aK (aB (g:=gb412) (o:=.cells #[.slice A0_0 l0_0.length c0_0,.int .u64 a0_1,.int .u64 a0_2,.int .u64 a0_3] 54 (0,0)) (by (with_reducible repeat (first|refine bN ?_ _|refine bD ?_|refine bA ?_ _));exact B412.out) hb);have n5_:=aK (aB (g:=gb413) (o:=.cells #[.slice A1_0 l1_0.length c1_0,.int .u64 a1_1,.int .u64 a1_2,.int .u64 a1_3] 54 (0,0)) (by (with_reducible repeat (first|refine bN ?_ _|refine bD ?_|refine bA ?_ _));exact B413.out) hb);have n6_:=aK (aT (by repeat (first|(with_reducible first|exact HB.out|apply aA|apply aW|apply aD|refine aS ?_ E412.out|refine aS ?_ E413.out)|exact HB.out)) hb);have n7_:=aK (hbox);have n8_:=aK ((by rw [hg];exact (aZ (by repeat (first|(with_reducible first|exact HB.out|apply aA|apply aW|apply aD|refine aS ?_ E412.out|refine aS ?_ E413.out)|exact HB.out))) : w.heap.size ≤ gb426));have n9_:=aK ((by rw [hg];exact (aZ (by repeat (first|(with_reducible first|exact HB.out|apply aA|apply aW|apply aD|refine aS ?_ E412.out|refine aS ?_ E413.out)|exact HB.out))) : w.heap.size ≤ gb426));have n10_:=aK ((by rw [hg];exact Nat.ne_of_lt (blk_lt (g:=gb412) (o:=.cells #[.slice A0_0 l0_0.length c0_0,.int .u64 a0_1,.int .u64 a0_2,.int .u64 a0_3] 54 (0,0)) (by (with_reducible repeat (first|refine bN ?_ _|refine bD ?_|refine bA ?_ _));exact B412.out)) : gb412 ≠ gb426));have n11_:=aK ((by rw [hg];exact Nat.ne_of_gt (blk_lt (g:=gb412) (o:=.cells #[.slice A0_0 l0_0.length c0_0,.int .u64 a0_1,.int .u64 a0_2,.int .u64 a0_3] 54 (0,0)) (by (with_reducible repeat (first|refine bN ?_ _|refine bD ?_|refine bA ?_ _));exact B412.out)) : gb426 ≠ gb412));have n12_:=aK ((by rw [hg];exact Nat.ne_of_lt (blk_lt (g:=gb413) (o:=.cells #[.slice A1_0 l1_0.length c1_0,.int .u64 a1_1,.int .u64 a1_2,.int .u64 a1_3] 54 (0,0)) (by (with_reducible repeat (first|refine bN ?_ _|refine bD ?_|refine bA ?_ _));exact B413.out)) : gb413 ≠ gb426));have n13_:=aK ((by rw [hg];exact Nat.ne_of_gt (blk_lt (g:=gb413) (o:=.cells #[.slice A1_0 l1_0.length c1_0,.int .u64 a1_1,.int .u64 a1_2,.int .u64 a1_3] 54 (0,0)) (by (with_reducible repeat (first|refine bN ?_ _|refine bD ?_|refine bA ?_ _));exact B413.out)) : gb426 ≠ gb413));clear HO0_0;clear HO1_0;clear O416;clear O421;clear B412;clear B413;clear HB;have HO0_0:=n0_;have HO1_0:=n1_;have O416:=n2_;have O421:=n3_;have B412:=n4_;have B413:=n5_;have HB:=n6_;have B426:=n7_;have W426:=n8_;have E426:=n9_;have N412_426:=n10_;have N426_412:=n11_;have N413_426:=n12_;have N426_413:=n13_;clear n0_ n1_ n2_ n3_ n4_ n5_ n6_ n7_ n8_ n9_ n10_ n11_ n12_ n13_;clear hb hbox hg;obtain ⟨Ao19,co19,eo19⟩:=Kd.R_slice O421.out;subst eo19;have hnb20:=N426_412.out;have hnc20:=N412_426.out;have hnb21:=N426_413.out;have hnc21:=N413_426.out;have z22_0 : w18.cell? ⟨gb426,0,none⟩ = some (.slice none 0 0):=(aC B426.out 0).trans rfl;have z22_1 : w18.cell? ⟨gb426,1,none⟩ = some (.int .u64 0):=(aC B426.out 1).trans rfl;have z22_2 : w18.cell? ⟨gb426,2,none⟩ = some (.int .u64 0):=(aC B426.out 2).trans rfl;have z22_3 : w18.cell? ⟨gb426,3,none⟩ = some (.int .u64 0):=(aC B426.out 3).trans rfl;have f22_0:=aF B426.out 0;have f22_1:=aF B426.out 1;have f22_2:=aF B426.out 2;have f22_3:=aF B426.out 3))
 (try simp only [Act.put,sA,sZ,sS])
 go_cut [32] (fun v32 wc => ∃ (kq : Nat) (x32_5 : Bool),v32 = .bool x32_5 ∧ Aside0 (j0 kq t425 x32_5 l0_0 a0_1 a0_2 a0_3 l1_0 a1_1 a1_2 a1_3 t419 t422 t423 t424 = some r) ∧ Aside0 (kq ≤ k) ∧ Aside0 (Kd.V k62 62 wc w.heap.size (fun k_ => ((P0_0_ k_ ∨ P1_0_ k_) ∨ w.heap.size ≤ k_) ∧ nO k_ ((.slice Ao19 t419.length co19)) ∧ k_ ≠ gb412 ∧ k_ ≠ gb413 ∧ k_ ≠ gb426) (.slice A0_0 l0_0.length c0_0) l0_0) ∧ Aside0 (Kd.V k62 62 wc w.heap.size (fun k_ => ((P0_0_ k_ ∨ P1_0_ k_) ∨ w.heap.size ≤ k_) ∧ nO k_ ((.slice Ao19 t419.length co19)) ∧ k_ ≠ gb412 ∧ k_ ≠ gb413 ∧ k_ ≠ gb426) (.slice A1_0 l1_0.length c1_0) l1_0) ∧ Aside0 (Kd.R k62 62 wc w.heap.size (fun k_ => (w.heap.size ≤ k_)) (.slice Ao19 t419.length co19) t419) ∧ Aside0 (wc.heap[gb412]? = some (.cells #[(.slice A0_0 l0_0.length c0_0),.int .u64 a0_1,.int .u64 a0_2,.int .u64 a0_3] 54 (0,0))) ∧ Aside0 (wc.heap[gb413]? = some (.cells #[(.slice A1_0 l1_0.length c1_0),.int .u64 a1_1,.int .u64 a1_2,.int .u64 a1_3] 54 (0,0))) ∧ Aside0 (wc.heap[gb426]? = some (.cells #[(.slice Ao19 t419.length co19),.int .u64 t422,.int .u64 t423,.int .u64 t424] 57 (0,0))) ∧ Aside0 (Below w.heap.size w wc))
 case first =>
  have H:=HC6.out
  clear HC6
  by_cases c23 : t425 = 0
  ·rw [if_pos c23] at H
   have c23b0 : (t425 == 0) = true:=beq_iff_eq.mpr c23
   have c23b1 : (t425 != 0) = false:=bne_eq_false_iff_eq.mpr c23
   clear c23
   (first|rw [c23b0]|(simp only [i64_w,i32_w];rw [c23b0])|skip)
   replace H:=Option.bind_eq_some_iff.mp H
   obtain ⟨t427,A240,H⟩:=H
   replace H : (j0 k t425 (!t427) l0_0 a0_1 a0_2 a0_3 l1_0 a1_1 a1_2 a1_3 t419 t422 t423 t424) = some r:=H
   have A24:=aK A240
   clear A240
   have H':=aK H
   clear H
   have hnb25:=N413_412.out
   have hnc25:=N412_413.out
   have hnb26:=N413_426.out
   have hnc26:=N426_413.out
   have z27_0 : w18.cell? ⟨gb413,0,none⟩ = some (.slice A1_0 l1_0.length c1_0):=(aC B413.out 0).trans rfl
   have z27_1 : w18.cell? ⟨gb413,1,none⟩ = some (.int .u64 a1_1):=(aC B413.out 1).trans rfl
   have z27_2 : w18.cell? ⟨gb413,2,none⟩ = some (.int .u64 a1_2):=(aC B413.out 2).trans rfl
   have z27_3 : w18.cell? ⟨gb413,3,none⟩ = some (.int .u64 a1_3):=(aC B413.out 3).trans rfl
   have f27_0:=aF B413.out 0
   have f27_1:=aF B413.out 1
   have f27_2:=aF B413.out 2
   have f27_3:=aF B413.out 3
   go_wp2_with (first|(go_at_call 33;(with_reducible refine (edit_Right.calls k _ _ l1_0 a1_1 a1_2 a1_3 t427 _ ?side1 ?side2 A24.out).mono ?_);(case side1 => refine (aO (e:=62) (base:=w.heap.size) (ok:=fun k_ => (((((((P0_0_ k_ ∨ P1_0_ k_) ∨ w.heap.size ≤ k_) ∧ k_ ≠ gb412) ∧ k_ ≠ gb413) ∧ nB k_ Ao14 y414.length co14) ∧ nB k_ Ao19 t419.length co19) ∧ k_ ≠ gb426)) (n:=l1_0.length) (c:=c1_0) ?_).2.2;exact (by (with_reducible repeat (first|apply vA|apply vN|apply vD));exact (aN (aU (p:=⟨gb426,3,none⟩) (aU (p:=⟨gb426,2,none⟩) (aU (p:=⟨gb426,1,none⟩) (aU (p:=⟨gb426,0,none⟩) (aN HO1_0.out (fun k_ hk => (⟨hk,hk.2⟩ : _ ∧ k_ ≠ gb426))) (fun _ hk => hk.2) (.slice Ao19 t419.length co19)) (fun _ hk => hk.2) (.int .u64 t422)) (fun _ hk => hk.2) (.int .u64 t423)) (fun _ hk => hk.2) (.int .u64 t424)) (fun _ h_ => h_.1))));(case side2 => exact (aO HO1_0.out).2.1);rintro e w28 ⟨rfl,hb⟩;have n0_:=aK (Kd.V_below (by (with_reducible repeat (first|apply vA|apply vN|apply vD));exact (aN (aU (p:=⟨gb426,3,none⟩) (aU (p:=⟨gb426,2,none⟩) (aU (p:=⟨gb426,1,none⟩) (aU (p:=⟨gb426,0,none⟩) (aN HO0_0.out (fun k_ hk => (⟨hk,hk.2⟩ : _ ∧ k_ ≠ gb426))) (fun _ hk => hk.2) (.slice Ao19 t419.length co19)) (fun _ hk => hk.2) (.int .u64 t422)) (fun _ hk => hk.2) (.int .u64 t423)) (fun _ hk => hk.2) (.int .u64 t424)) (fun _ h_ => h_.1))) hb);have n1_:=aK (Kd.V_below (by (with_reducible repeat (first|apply vA|apply vN|apply vD));exact (aN (aU (p:=⟨gb426,3,none⟩) (aU (p:=⟨gb426,2,none⟩) (aU (p:=⟨gb426,1,none⟩) (aU (p:=⟨gb426,0,none⟩) (aN HO1_0.out (fun k_ hk => (⟨hk,hk.2⟩ : _ ∧ k_ ≠ gb426))) (fun _ hk => hk.2) (.slice Ao19 t419.length co19)) (fun _ hk => hk.2) (.int .u64 t422)) (fun _ hk => hk.2) (.int .u64 t423)) (fun _ hk => hk.2) (.int .u64 t424)) (fun _ h_ => h_.1))) hb);have n2_:=aK (Kd.N_below (by (with_reducible repeat (first|apply nA|apply nN|apply nD));exact (Kd.N_mono (Kd.N_far (p:=⟨gb426,3,none⟩) (Kd.N_far (p:=⟨gb426,2,none⟩) (Kd.N_far (p:=⟨gb426,1,none⟩) (Kd.N_far (p:=⟨gb426,0,none⟩) (Kd.N_mono O416.out (fun k_ hk => (⟨hk,hk.2⟩ : _ ∧ k_ ≠ gb426))) (fun _ hk => hk.2) (.slice Ao19 t419.length co19)) (fun _ hk => hk.2) (.int .u64 t422)) (fun _ hk => hk.2) (.int .u64 t423)) (fun _ hk => hk.2) (.int .u64 t424)) (fun _ h_ => h_.1))) hb);have n3_:=aK (Kd.R_below (by (with_reducible repeat (first|apply zA|apply zN|apply zD));exact (aM (aY (p:=⟨gb426,3,none⟩) (aY (p:=⟨gb426,2,none⟩) (aY (p:=⟨gb426,1,none⟩) (aY (p:=⟨gb426,0,none⟩) (aP O421.out B426.out (by decide)) (fun _ hk => hk.2) (.slice Ao19 t419.length co19)) (fun _ hk => hk.2) (.int .u64 t422)) (fun _ hk => hk.2) (.int .u64 t423)) (fun _ hk => hk.2) (.int .u64 t424)) (fun _ h_ => h_.1))) hb);have n4_:=aK (aB (g:=gb412) (o:=.cells #[.slice A0_0 l0_0.length c0_0,.int .u64 a0_1,.int .u64 a0_2,.int .u64 a0_3] 54 (0,0)) (by (with_reducible repeat (first|refine bN ?_ _|refine bD ?_|refine bA ?_ _));refine aX ?_ N412_426.out _;(with_reducible repeat (first|refine bN ?_ _|refine bD ?_|refine bA ?_ _));refine aX ?_ N412_426.out _;(with_reducible repeat (first|refine bN ?_ _|refine bD ?_|refine bA ?_ _));refine aX ?_ N412_426.out _;(with_reducible repeat (first|refine bN ?_ _|refine bD ?_|refine bA ?_ _));refine aX ?_ N412_426.out _;(with_reducible repeat (first|refine bN ?_ _|refine bD ?_|refine bA ?_ _));exact B412.out) hb);have n5_:=aK (aB (g:=gb413) (o:=.cells #[.slice A1_0 l1_0.length c1_0,.int .u64 a1_1,.int .u64 a1_2,.int .u64 a1_3] 54 (0,0)) (by (with_reducible repeat (first|refine bN ?_ _|refine bD ?_|refine bA ?_ _));refine aX ?_ N413_426.out _;(with_reducible repeat (first|refine bN ?_ _|refine bD ?_|refine bA ?_ _));refine aX ?_ N413_426.out _;(with_reducible repeat (first|refine bN ?_ _|refine bD ?_|refine bA ?_ _));refine aX ?_ N413_426.out _;(with_reducible repeat (first|refine bN ?_ _|refine bD ?_|refine bA ?_ _));refine aX ?_ N413_426.out _;(with_reducible repeat (first|refine bN ?_ _|refine bD ?_|refine bA ?_ _));exact B413.out) hb);have n6_:=aK (aB (g:=gb426) (o:=.cells #[.slice Ao19 t419.length co19,.int .u64 t422,.int .u64 t423,.int .u64 t424] 57 (0,0)) (by (with_reducible repeat (first|refine bN ?_ _|refine bD ?_|refine bA ?_ _));refine blk_put (cs:=#[.slice Ao19 t419.length co19,.int .u64 t422,.int .u64 t423,.int .u64 0]) ?_ 3 _ rfl;(with_reducible repeat (first|refine bN ?_ _|refine bD ?_|refine bA ?_ _));refine blk_put (cs:=#[.slice Ao19 t419.length co19,.int .u64 t422,.int .u64 0,.int .u64 0]) ?_ 2 _ rfl;(with_reducible repeat (first|refine bN ?_ _|refine bD ?_|refine bA ?_ _));refine blk_put (cs:=#[.slice Ao19 t419.length co19,.int .u64 0,.int .u64 0,.int .u64 0]) ?_ 1 _ rfl;(with_reducible repeat (first|refine bN ?_ _|refine bD ?_|refine bA ?_ _));refine blk_put (cs:=#[.slice none 0 0,.int .u64 0,.int .u64 0,.int .u64 0]) ?_ 0 _ rfl;(with_reducible repeat (first|refine bN ?_ _|refine bD ?_|refine bA ?_ _));exact B426.out) hb);have n7_:=aK (aT (by repeat (first|(with_reducible first|exact HB.out|apply aA|apply aW|apply aD|refine aS ?_ E412.out|refine aS ?_ E413.out|refine aS ?_ E426.out)|exact HB.out)) hb);clear HO0_0;clear HO1_0;clear O416;clear O421;clear B412;clear B413;clear B426;clear HB;have HO0_0:=n0_;have HO1_0:=n1_;have O416:=n2_;have O421:=n3_;have B412:=n4_;have B413:=n5_;have B426:=n6_;have HB:=n7_;clear n0_ n1_ n2_ n3_ n4_ n5_ n6_ n7_;(try clear hb);skip))
   go_meet
   case rel => exact ⟨_,(!t427),(by first|rfl|(simp;done)|(simp [*];done)),H',⟨by first|omega|exact Nat.le_refl _⟩,⟨by (with_reducible repeat (first|apply vA|apply vN|apply vD));exact aN HO0_0.out (fun _ hk => ⟨hk.1.1.1.1.1,⟨hk.1.2,⟨hk.1.1.1.1.2,⟨hk.1.1.1.2,hk.2⟩⟩⟩⟩)⟩,⟨by (with_reducible repeat (first|apply vA|apply vN|apply vD));exact aN HO1_0.out (fun _ hk => ⟨hk.1.1.1.1.1,⟨hk.1.2,⟨hk.1.1.1.1.2,⟨hk.1.1.1.2,hk.2⟩⟩⟩⟩)⟩,⟨by (with_reducible repeat (first|apply zA|apply zN|apply zD));exact aM O421.out (fun _ hk => hk.1)⟩,⟨by (with_reducible repeat (first|refine bN ?_ _|refine bD ?_|refine bA ?_ _));exact B412.out⟩,⟨by (with_reducible repeat (first|refine bN ?_ _|refine bD ?_|refine bA ?_ _));exact B413.out⟩,⟨by (with_reducible repeat (first|refine bN ?_ _|refine bD ?_|refine bA ?_ _));exact B426.out⟩,⟨by repeat (first|(with_reducible first|exact HB.out|apply aA|apply aW|apply aD|refine aS ?_ E412.out|refine aS ?_ E413.out|refine aS ?_ E426.out)|exact HB.out)⟩⟩
  ·rw [if_neg c23] at H
   have c23b0 : (t425 == 0) = false:=beq_eq_false_iff_ne.mpr c23
   have c23b1 : (t425 != 0) = true:=bne_iff_ne.mpr c23
   (first|rw [c23b0]|(simp only [i64_w,i32_w];rw [c23b0])|skip)
   have H':=aK H
   clear H
   go_wp2
   go_meet
   case rel => exact ⟨_,(true),(by first|rfl|(simp;done)|(simp [*];done)),H',⟨by first|omega|exact Nat.le_refl _⟩,⟨by (with_reducible repeat (first|apply vA|apply vN|apply vD));exact aN (aU (p:=⟨gb426,3,none⟩) (aU (p:=⟨gb426,2,none⟩) (aU (p:=⟨gb426,1,none⟩) (aU (p:=⟨gb426,0,none⟩) (aN HO0_0.out (fun k_ hk => (⟨hk,hk.2⟩ : _ ∧ k_ ≠ gb426))) (fun _ hk => hk.2) (.slice Ao19 t419.length co19)) (fun _ hk => hk.2) (.int .u64 t422)) (fun _ hk => hk.2) (.int .u64 t423)) (fun _ hk => hk.2) (.int .u64 t424)) (fun _ hk => ⟨hk.1.1.1.1.1.1,⟨hk.1.1.2,⟨hk.1.1.1.1.1.2,⟨hk.1.1.1.1.2,hk.1.2⟩⟩⟩⟩)⟩,⟨by (with_reducible repeat (first|apply vA|apply vN|apply vD));exact aN (aU (p:=⟨gb426,3,none⟩) (aU (p:=⟨gb426,2,none⟩) (aU (p:=⟨gb426,1,none⟩) (aU (p:=⟨gb426,0,none⟩) (aN HO1_0.out (fun k_ hk => (⟨hk,hk.2⟩ : _ ∧ k_ ≠ gb426))) (fun _ hk => hk.2) (.slice Ao19 t419.length co19)) (fun _ hk => hk.2) (.int .u64 t422)) (fun _ hk => hk.2) (.int .u64 t423)) (fun _ hk => hk.2) (.int .u64 t424)) (fun _ hk => ⟨hk.1.1.1.1.1.1,⟨hk.1.1.2,⟨hk.1.1.1.1.1.2,⟨hk.1.1.1.1.2,hk.1.2⟩⟩⟩⟩)⟩,⟨by (with_reducible repeat (first|apply zA|apply zN|apply zD));exact aM (aY (p:=⟨gb426,3,none⟩) (aY (p:=⟨gb426,2,none⟩) (aY (p:=⟨gb426,1,none⟩) (aY (p:=⟨gb426,0,none⟩) (aP O421.out B426.out (by decide)) (fun _ hk => hk.2) (.slice Ao19 t419.length co19)) (fun _ hk => hk.2) (.int .u64 t422)) (fun _ hk => hk.2) (.int .u64 t423)) (fun _ hk => hk.2) (.int .u64 t424)) (fun _ hk => hk.1.1)⟩,⟨by (with_reducible repeat (first|refine bN ?_ _|refine bD ?_|refine bA ?_ _));refine aX ?_ N412_426.out _;(with_reducible repeat (first|refine bN ?_ _|refine bD ?_|refine bA ?_ _));refine aX ?_ N412_426.out _;(with_reducible repeat (first|refine bN ?_ _|refine bD ?_|refine bA ?_ _));refine aX ?_ N412_426.out _;(with_reducible repeat (first|refine bN ?_ _|refine bD ?_|refine bA ?_ _));refine aX ?_ N412_426.out _;(with_reducible repeat (first|refine bN ?_ _|refine bD ?_|refine bA ?_ _));exact B412.out⟩,⟨by (with_reducible repeat (first|refine bN ?_ _|refine bD ?_|refine bA ?_ _));refine aX ?_ N413_426.out _;(with_reducible repeat (first|refine bN ?_ _|refine bD ?_|refine bA ?_ _));refine aX ?_ N413_426.out _;(with_reducible repeat (first|refine bN ?_ _|refine bD ?_|refine bA ?_ _));refine aX ?_ N413_426.out _;(with_reducible repeat (first|refine bN ?_ _|refine bD ?_|refine bA ?_ _));refine aX ?_ N413_426.out _;(with_reducible repeat (first|refine bN ?_ _|refine bD ?_|refine bA ?_ _));exact B413.out⟩,⟨by (with_reducible repeat (first|refine bN ?_ _|refine bD ?_|refine bA ?_ _));refine blk_put (cs:=#[.slice Ao19 t419.length co19,.int .u64 t422,.int .u64 t423,.int .u64 0]) ?_ 3 _ rfl;(with_reducible repeat (first|refine bN ?_ _|refine bD ?_|refine bA ?_ _));refine blk_put (cs:=#[.slice Ao19 t419.length co19,.int .u64 t422,.int .u64 0,.int .u64 0]) ?_ 2 _ rfl;(with_reducible repeat (first|refine bN ?_ _|refine bD ?_|refine bA ?_ _));refine blk_put (cs:=#[.slice Ao19 t419.length co19,.int .u64 0,.int .u64 0,.int .u64 0]) ?_ 1 _ rfl;(with_reducible repeat (first|refine bN ?_ _|refine bD ?_|refine bA ?_ _));refine blk_put (cs:=#[.slice none 0 0,.int .u64 0,.int .u64 0,.int .u64 0]) ?_ 0 _ rfl;(with_reducible repeat (first|refine bN ?_ _|refine bD ?_|refine bA ?_ _));exact B426.out⟩,⟨by repeat (first|(with_reducible first|exact HB.out|apply aA|apply aW|apply aD|refine aS ?_ E412.out|refine aS ?_ E413.out|refine aS ?_ E426.out)|exact HB.out)⟩⟩
 case rest =>
  clear HC6
  try clear c2 p2
  try clear c23b0
  try clear c23b1
  try clear c26 z10_0 z10_1 z10_2 z10_3 z11_0 z11_1 z11_2 z11_3 z16_0 z16_1 z16_2 z16_3 z22_0 z22_1 z22_2 z22_3 z27_0 z27_1 z27_2 z27_3 f10_0 f10_1 f10_2 f10_3 f11_0 f11_1 f11_2 f11_3 f16_0 f16_1 f16_2 f16_3 f22_0 f22_1 f22_2 f22_3 f27_0 f27_1 f27_2 f27_3
  obtain ⟨kq,x32_5,rfl,HA,HJ5,HO_413000,HO_414000,HO_427000,B412,B413,B426,HB⟩:=hcut
  cases kq with
  | zero => exact absurd HA.out (by simp [j0])
  | succ kj5 =>
   have H:=HA.out
   clear HA
   simp only [j0] at H
   by_cases c29 : x32_5 = true
   ·subst c29
    have H1 : ((edit_Right.f kj5 l0_0 a0_1 a0_2 a0_3).bind fun t428 => (if ((t425 == 0) == t428) = true then ((ratlinelaw09_awake.f).bind fun t429 => (some t429)) else (none))) = some r:=by rw [if_pos rfl] at H;exact H
    clear H
    have H:=H1
    clear H1
    replace H:=Option.bind_eq_some_iff.mp H
    obtain ⟨t428,A300,H⟩:=H
    replace H : (if ((t425 == 0) == t428) = true then ((ratlinelaw09_awake.f).bind fun t429 => (some t429)) else (none)) = some r:=H
    have A30:=aK A300
    clear A300
    by_cases c31 : ((t425 == 0) == t428) = true
    rotate_left
    ·rw [if_neg c31] at H
     exact absurd H (by simp)
    rw [if_pos c31] at H
    have c31b0 : ((t425 == 0) == t428) = true:=c31
    (try (have c31b1 : decide ((t425 == 0) = t428) = true:=by simpa using c31))
    (try (have c31b2 : ((t425 == 0) == t428) = true:=by simpa using c31))
    clear c31
    replace H:=Option.bind_eq_some_iff.mp H
    obtain ⟨t429,A320,H⟩:=H
    replace H : (some t429) = some r:=H
    have A32:=aK A320
    clear A320
    obtain rfl:=Option.some.inj H
    have hnb33:=N412_413.out
    have hnc33:=N413_412.out
    have hnb34:=N412_426.out
    have hnc34:=N426_412.out
    have z35_0 : wc.cell? ⟨gb412,0,none⟩ = some (.slice A0_0 l0_0.length c0_0):=(aC B412.out 0).trans rfl
    have z35_1 : wc.cell? ⟨gb412,1,none⟩ = some (.int .u64 a0_1):=(aC B412.out 1).trans rfl
    have z35_2 : wc.cell? ⟨gb412,2,none⟩ = some (.int .u64 a0_2):=(aC B412.out 2).trans rfl
    have z35_3 : wc.cell? ⟨gb412,3,none⟩ = some (.int .u64 a0_3):=(aC B412.out 3).trans rfl
    have f35_0:=aF B412.out 0
    have f35_1:=aF B412.out 1
    have f35_2:=aF B412.out 2
    have f35_3:=aF B412.out 3
    go_wp2_with (first|((with_reducible refine gate_callee (f:=33) rfl ?_);refine goesL_ (some 36) rfl rfl Try.func33 (by kernel_rfl) rfl #[.agg #[.slice A0_0 l0_0.length c0_0,.int .u64 a0_1,.int .u64 a0_2,.int .u64 a0_3]] rfl (by (try simp only [List.map_toArray,List.map_cons,List.map_nil]);first|done|rfl|(simp only [List.length_drop,List.length_take];rfl)) ?_;(with_reducible refine (edit_Right.calls kj5 _ _ l0_0 a0_1 a0_2 a0_3 t428 _ ?side1 ?side2 A30.out).mono ?_);(case side1 => repeat (first|exact (aO HO_413000.out).2.2|(with_reducible refine Kd.C_alloc ?_ _)|(with_reducible refine Kd.C_drewN ?_ _)|(with_reducible refine Kd.C_drew ?_)));(case side2 => exact (aO HO_413000.out).2.1);rintro e w36 ⟨rfl,hb⟩;refine ⟨_,rfl,?_⟩;have n0_:=aK (Kd.V_below (by (with_reducible repeat (first|apply vA|apply vN|apply vD));exact HO_413000.out) hb);have n1_:=aK (Kd.V_below (by (with_reducible repeat (first|apply vA|apply vN|apply vD));exact HO_414000.out) hb);have n2_:=aK (Kd.R_below (by (with_reducible repeat (first|apply zA|apply zN|apply zD));exact HO_427000.out) hb);have n3_:=aK (aB (g:=gb412) (o:=.cells #[.slice A0_0 l0_0.length c0_0,.int .u64 a0_1,.int .u64 a0_2,.int .u64 a0_3] 54 (0,0)) (by (with_reducible repeat (first|refine bN ?_ _|refine bD ?_|refine bA ?_ _));exact B412.out) hb);have n4_:=aK (aB (g:=gb413) (o:=.cells #[.slice A1_0 l1_0.length c1_0,.int .u64 a1_1,.int .u64 a1_2,.int .u64 a1_3] 54 (0,0)) (by (with_reducible repeat (first|refine bN ?_ _|refine bD ?_|refine bA ?_ _));exact B413.out) hb);have n5_:=aK (aB (g:=gb426) (o:=.cells #[.slice Ao19 t419.length co19,.int .u64 t422,.int .u64 t423,.int .u64 t424] 57 (0,0)) (by (with_reducible repeat (first|refine bN ?_ _|refine bD ?_|refine bA ?_ _));exact B426.out) hb);have n6_:=aK (aT (by repeat (first|(with_reducible first|exact HB.out|apply aA|apply aW|apply aD|refine aS ?_ E412.out|refine aS ?_ E413.out|refine aS ?_ E426.out)|exact HB.out)) hb);clear HO_413000;clear HO_414000;clear HO_427000;clear B412;clear B413;clear B426;clear HB;have HO_413000:=n0_;have HO_414000:=n1_;have HO_427000:=n2_;have B412:=n3_;have B413:=n4_;have B426:=n5_;have HB:=n6_;clear n0_ n1_ n2_ n3_ n4_ n5_ n6_;(try clear hb);skip)|(go_at_call 31;(with_reducible refine (ratlinelaw09_awake.calls  t429 _ A32.out).mono ?_);rintro e w37 ⟨rfl,hb⟩;have n0_:=aK (Kd.V_below (by (with_reducible repeat (first|apply vA|apply vN|apply vD));exact HO_413000.out) hb);have n1_:=aK (Kd.V_below (by (with_reducible repeat (first|apply vA|apply vN|apply vD));exact HO_414000.out) hb);have n2_:=aK (Kd.R_below (by (with_reducible repeat (first|apply zA|apply zN|apply zD));exact HO_427000.out) hb);have n3_:=aK (aB (g:=gb412) (o:=.cells #[.slice A0_0 l0_0.length c0_0,.int .u64 a0_1,.int .u64 a0_2,.int .u64 a0_3] 54 (0,0)) (by (with_reducible repeat (first|refine bN ?_ _|refine bD ?_|refine bA ?_ _));exact B412.out) hb);have n4_:=aK (aB (g:=gb413) (o:=.cells #[.slice A1_0 l1_0.length c1_0,.int .u64 a1_1,.int .u64 a1_2,.int .u64 a1_3] 54 (0,0)) (by (with_reducible repeat (first|refine bN ?_ _|refine bD ?_|refine bA ?_ _));exact B413.out) hb);have n5_:=aK (aB (g:=gb426) (o:=.cells #[.slice Ao19 t419.length co19,.int .u64 t422,.int .u64 t423,.int .u64 t424] 57 (0,0)) (by (with_reducible repeat (first|refine bN ?_ _|refine bD ?_|refine bA ?_ _));exact B426.out) hb);have n6_:=aK (aT (by repeat (first|(with_reducible first|exact HB.out|apply aA|apply aW|apply aD|refine aS ?_ E412.out|refine aS ?_ E413.out|refine aS ?_ E426.out)|exact HB.out)) hb);clear HO_413000;clear HO_414000;clear HO_427000;clear B412;clear B413;clear B426;clear HB;have HO_413000:=n0_;have HO_414000:=n1_;have HO_427000:=n2_;have B412:=n3_;have B413:=n4_;have B426:=n5_;have HB:=n6_;clear n0_ n1_ n2_ n3_ n4_ n5_ n6_;(try clear hb);skip))
    go_ret
    exact ⟨by first|rfl|(simp [errW_none,errW_some] <;> rfl)|(simp [*,errW_none,errW_some] <;> rfl),by repeat (first|(with_reducible first|exact HB.out|apply aA|apply aW|apply aD|refine aS ?_ E412.out|refine aS ?_ E413.out|refine aS ?_ E426.out)|exact HB.out)⟩
   ·replace c29:=Bool.eq_false_iff.mpr c29
    subst c29
    have H1 : ((edit_Apply.f t419 t422 t423 t424 l1_0 a1_1 a1_2 a1_3).bind fun bt430 => (if (t419.length : Int) > 0 then (if (l1_0.length : Int) > 0 then (if 0 < (l1_0.length : Int) then (if 0 ≤ (wrap64 ((t419.length : Int) - 1)) then (if (wrap64 ((t419.length : Int) - 1)) < (t419.length : Int) then (j1 kj5 bt430.2.2.2.2 (decide (((rd_T62 l1_0 0).f0) ≤ ((rd_T62 t419 (wrap64 ((t419.length : Int) - 1))).f0))) l1_0 a1_1 a1_2 a1_3 t419 t422 t423 t424) else (none)) else (none)) else (none)) else (j1 kj5 bt430.2.2.2.2 false l1_0 a1_1 a1_2 a1_3 t419 t422 t423 t424)) else (j1 kj5 bt430.2.2.2.2 false l1_0 a1_1 a1_2 a1_3 t419 t422 t423 t424))) = some r:=by rw [if_neg (show ¬ (false = true) by decide)] at H;exact H
    clear H
    have H:=H1
    clear H1
    replace H:=Option.bind_eq_some_iff.mp H
    obtain ⟨⟨t430,t433,t434,t435,t436⟩,A380,H⟩:=H
    replace H : (if (t419.length : Int) > 0 then (if (l1_0.length : Int) > 0 then (if 0 < (l1_0.length : Int) then (if 0 ≤ (wrap64 ((t419.length : Int) - 1)) then (if (wrap64 ((t419.length : Int) - 1)) < (t419.length : Int) then (j1 kj5 t436 (decide (((rd_T62 l1_0 0).f0) ≤ ((rd_T62 t419 (wrap64 ((t419.length : Int) - 1))).f0))) l1_0 a1_1 a1_2 a1_3 t419 t422 t423 t424) else (none)) else (none)) else (none)) else (j1 kj5 t436 false l1_0 a1_1 a1_2 a1_3 t419 t422 t423 t424)) else (j1 kj5 t436 false l1_0 a1_1 a1_2 a1_3 t419 t422 t423 t424)) = some r:=H
    have A38:=aK A380
    clear A380
    have HC39:=aK H
    clear H
    have hnb40:=N426_412.out
    have hnc40:=N412_426.out
    have hnb41:=N426_413.out
    have hnc41:=N413_426.out
    have z42_0 : wc.cell? ⟨gb426,0,none⟩ = some (.slice Ao19 t419.length co19):=(aC B426.out 0).trans rfl
    have z42_1 : wc.cell? ⟨gb426,1,none⟩ = some (.int .u64 t422):=(aC B426.out 1).trans rfl
    have z42_2 : wc.cell? ⟨gb426,2,none⟩ = some (.int .u64 t423):=(aC B426.out 2).trans rfl
    have z42_3 : wc.cell? ⟨gb426,3,none⟩ = some (.int .u64 t424):=(aC B426.out 3).trans rfl
    have f42_0:=aF B426.out 0
    have f42_1:=aF B426.out 1
    have f42_2:=aF B426.out 2
    have f42_3:=aF B426.out 3
    have hnb43:=N413_412.out
    have hnc43:=N412_413.out
    have z44_0 : wc.cell? ⟨gb413,0,none⟩ = some (.slice A1_0 l1_0.length c1_0):=(aC B413.out 0).trans rfl
    have z44_1 : wc.cell? ⟨gb413,1,none⟩ = some (.int .u64 a1_1):=(aC B413.out 1).trans rfl
    have z44_2 : wc.cell? ⟨gb413,2,none⟩ = some (.int .u64 a1_2):=(aC B413.out 2).trans rfl
    have z44_3 : wc.cell? ⟨gb413,3,none⟩ = some (.int .u64 a1_3):=(aC B413.out 3).trans rfl
    have f44_0:=aF B413.out 0
    have f44_1:=aF B413.out 1
    have f44_2:=aF B413.out 2
    have f44_3:=aF B413.out 3
    go_upto_region 7 with (first|((with_reducible refine gate_callee (f:=32) rfl ?_);refine goesL_ (some 44) rfl rfl Try.func32 (by kernel_rfl) rfl #[.agg #[.slice Ao19 t419.length co19,.int .u64 t422,.int .u64 t423,.int .u64 t424],.agg #[.slice A1_0 l1_0.length c1_0,.int .u64 a1_1,.int .u64 a1_2,.int .u64 a1_3]] rfl (by (try simp only [List.map_toArray,List.map_cons,List.map_nil]);first|done|rfl|(simp only [List.length_drop,List.length_take];rfl)) ?_;(with_reducible refine (edit_Apply.calls _ _ t419 t422 t423 t424 _ _ l1_0 a1_1 a1_2 a1_3 t430 t433 t434 t435 t436 _ ?side1 ?side2 ?side3 ?side4 A38.out).mono ?_);(case side1 => repeat (first|exact (aQ HO_427000.out).2.2|(with_reducible refine Kd.C_alloc ?_ _)|(with_reducible refine Kd.C_drewN ?_ _)|(with_reducible refine Kd.C_drew ?_)));(case side2 => exact (aQ HO_427000.out).2.1);(case side3 => repeat (first|exact (aO HO_414000.out).2.2|(with_reducible refine Kd.C_alloc ?_ _)|(with_reducible refine Kd.C_drewN ?_ _)|(with_reducible refine Kd.C_drew ?_)));(case side4 => exact (aO HO_414000.out).2.1);rintro e w45 ⟨v431,rfl,ho0,hb⟩;refine ⟨_,rfl,?_⟩;have n0_:=aK (aV (by (with_reducible repeat (first|apply vA|apply vN|apply vD));exact HO_413000.out) (aJ ho0) hb);have n1_:=aK (aV (by (with_reducible repeat (first|apply vA|apply vN|apply vD));exact HO_414000.out) (aJ ho0) hb);have n2_:=aK (Kd.R_elder' (by (with_reducible repeat (first|apply zA|apply zN|apply zD));exact HO_427000.out) (aJ ho0) hb);have n3_:=aK (Kd.R_lower (Kd.R_new' (Kd.R_newM (M:=fun k_ => (w.heap.size ≤ k_)) ho0 (aZ (by repeat (first|(with_reducible first|exact HB.out|apply aA|apply aW|apply aD|refine aS ?_ E412.out|refine aS ?_ E413.out|refine aS ?_ E426.out)|exact HB.out))) (fun k_ h_ => h_)) (Kd.R_lt (by (with_reducible repeat (first|apply zA|apply zN|apply zD));exact HO_427000.out))) (aZ (by repeat (first|(with_reducible first|exact HB.out|apply aA|apply aW|apply aD|refine aS ?_ E412.out|refine aS ?_ E413.out|refine aS ?_ E426.out)|exact HB.out))));have n4_:=aK (aB (g:=gb412) (o:=.cells #[.slice A0_0 l0_0.length c0_0,.int .u64 a0_1,.int .u64 a0_2,.int .u64 a0_3] 54 (0,0)) (by (with_reducible repeat (first|refine bN ?_ _|refine bD ?_|refine bA ?_ _));exact B412.out) hb);have n5_:=aK (aB (g:=gb413) (o:=.cells #[.slice A1_0 l1_0.length c1_0,.int .u64 a1_1,.int .u64 a1_2,.int .u64 a1_3] 54 (0,0)) (by (with_reducible repeat (first|refine bN ?_ _|refine bD ?_|refine bA ?_ _));exact B413.out) hb);have n6_:=aK (aB (g:=gb426) (o:=.cells #[.slice Ao19 t419.length co19,.int .u64 t422,.int .u64 t423,.int .u64 t424] 57 (0,0)) (by (with_reducible repeat (first|refine bN ?_ _|refine bD ?_|refine bA ?_ _));exact B426.out) hb);have n7_:=aK (aT (by repeat (first|(with_reducible first|exact HB.out|apply aA|apply aW|apply aD|refine aS ?_ E412.out|refine aS ?_ E413.out|refine aS ?_ E426.out)|exact HB.out)) hb);clear HO_413000;clear HO_414000;clear HO_427000;clear B412;clear B413;clear B426;clear HB;have HO_413000:=n0_;have HO_414000:=n1_;have HO_427000:=n2_;have O432:=n3_;have B412:=n4_;have B413:=n5_;have B426:=n6_;have HB:=n7_;clear n0_ n1_ n2_ n3_ n4_ n5_ n6_ n7_;(try clear hb);skip;(try clear ho0))|((with_reducible refine gate_dst (N:=7) rfl ?_);(try (refine gate_guard (by rfl) ?_;dsimp only));refine box_event ?hg (N:=7) ?hd (cs:=#[.slice none 0 0,.int .u64 0,.int .u64 0,.int .u64 0]) (t:=57) ?hr ?_;(case hd => rfl);(case hg => rfl);(case hr => first|(go_simp;done)|(go_simp;rfl));intro gb437 hg w46 hbox hb;have n0_:=aK (Kd.V_below (Kd.V_elderB (by (with_reducible repeat (first|apply vA|apply vN|apply vD));exact HO_413000.out) gb437 (Nat.le_of_eq hg.symm)) hb);have n1_:=aK (Kd.V_below (Kd.V_elderB (by (with_reducible repeat (first|apply vA|apply vN|apply vD));exact HO_414000.out) gb437 (Nat.le_of_eq hg.symm)) hb);have n2_:=aK (Kd.R_below (by (with_reducible repeat (first|apply zA|apply zN|apply zD));exact HO_427000.out) hb);have n3_:=aK (Kd.R_below (by (with_reducible repeat (first|apply zA|apply zN|apply zD));exact O432.out) hb);have n4_:=aK (aB (g:=gb412) (o:=.cells #[.slice A0_0 l0_0.length c0_0,.int .u64 a0_1,.int .u64 a0_2,.int .u64 a0_3] 54 (0,0)) (by (with_reducible repeat (first|refine bN ?_ _|refine bD ?_|refine bA ?_ _));exact B412.out) hb);have n5_:=aK (aB (g:=gb413) (o:=.cells #[.slice A1_0 l1_0.length c1_0,.int .u64 a1_1,.int .u64 a1_2,.int .u64 a1_3] 54 (0,0)) (by (with_reducible repeat (first|refine bN ?_ _|refine bD ?_|refine bA ?_ _));exact B413.out) hb);have n6_:=aK (aB (g:=gb426) (o:=.cells #[.slice Ao19 t419.length co19,.int .u64 t422,.int .u64 t423,.int .u64 t424] 57 (0,0)) (by (with_reducible repeat (first|refine bN ?_ _|refine bD ?_|refine bA ?_ _));exact B426.out) hb);have n7_:=aK (aT (by repeat (first|(with_reducible first|exact HB.out|apply aA|apply aW|apply aD|refine aS ?_ E412.out|refine aS ?_ E413.out|refine aS ?_ E426.out)|exact HB.out)) hb);have n8_:=aK (hbox);have n9_:=aK ((by rw [hg];exact (aZ (by repeat (first|(with_reducible first|exact HB.out|apply aA|apply aW|apply aD|refine aS ?_ E412.out|refine aS ?_ E413.out|refine aS ?_ E426.out)|exact HB.out))) : w.heap.size ≤ gb437));have n10_:=aK ((by rw [hg];exact (aZ (by repeat (first|(with_reducible first|exact HB.out|apply aA|apply aW|apply aD|refine aS ?_ E412.out|refine aS ?_ E413.out|refine aS ?_ E426.out)|exact HB.out))) : w.heap.size ≤ gb437));have n11_:=aK ((by rw [hg];exact Nat.ne_of_lt (blk_lt (g:=gb412) (o:=.cells #[.slice A0_0 l0_0.length c0_0,.int .u64 a0_1,.int .u64 a0_2,.int .u64 a0_3] 54 (0,0)) (by (with_reducible repeat (first|refine bN ?_ _|refine bD ?_|refine bA ?_ _));exact B412.out)) : gb412 ≠ gb437));have n12_:=aK ((by rw [hg];exact Nat.ne_of_gt (blk_lt (g:=gb412) (o:=.cells #[.slice A0_0 l0_0.length c0_0,.int .u64 a0_1,.int .u64 a0_2,.int .u64 a0_3] 54 (0,0)) (by (with_reducible repeat (first|refine bN ?_ _|refine bD ?_|refine bA ?_ _));exact B412.out)) : gb437 ≠ gb412));have n13_:=aK ((by rw [hg];exact Nat.ne_of_lt (blk_lt (g:=gb413) (o:=.cells #[.slice A1_0 l1_0.length c1_0,.int .u64 a1_1,.int .u64 a1_2,.int .u64 a1_3] 54 (0,0)) (by (with_reducible repeat (first|refine bN ?_ _|refine bD ?_|refine bA ?_ _));exact B413.out)) : gb413 ≠ gb437));have n14_:=aK ((by rw [hg];exact Nat.ne_of_gt (blk_lt (g:=gb413) (o:=.cells #[.slice A1_0 l1_0.length c1_0,.int .u64 a1_1,.int .u64 a1_2,.int .u64 a1_3] 54 (0,0)) (by (with_reducible repeat (first|refine bN ?_ _|refine bD ?_|refine bA ?_ _));exact B413.out)) : gb437 ≠ gb413));have n15_:=aK ((by rw [hg];exact Nat.ne_of_lt (blk_lt (g:=gb426) (o:=.cells #[.slice Ao19 t419.length co19,.int .u64 t422,.int .u64 t423,.int .u64 t424] 57 (0,0)) (by (with_reducible repeat (first|refine bN ?_ _|refine bD ?_|refine bA ?_ _));exact B426.out)) : gb426 ≠ gb437));have n16_:=aK ((by rw [hg];exact Nat.ne_of_gt (blk_lt (g:=gb426) (o:=.cells #[.slice Ao19 t419.length co19,.int .u64 t422,.int .u64 t423,.int .u64 t424] 57 (0,0)) (by (with_reducible repeat (first|refine bN ?_ _|refine bD ?_|refine bA ?_ _));exact B426.out)) : gb437 ≠ gb426));clear HO_413000;clear HO_414000;clear HO_427000;clear O432;clear B412;clear B413;clear B426;clear HB;have HO_413000:=n0_;have HO_414000:=n1_;have HO_427000:=n2_;have O432:=n3_;have B412:=n4_;have B413:=n5_;have B426:=n6_;have HB:=n7_;have B437:=n8_;have W437:=n9_;have E437:=n10_;have N412_437:=n11_;have N437_412:=n12_;have N413_437:=n13_;have N437_413:=n14_;have N426_437:=n15_;have N437_426:=n16_;clear n0_ n1_ n2_ n3_ n4_ n5_ n6_ n7_ n8_ n9_ n10_ n11_ n12_ n13_ n14_ n15_ n16_;clear hb hbox hg;obtain ⟨Ao47,co47,eo47⟩:=Kd.R_slice O432.out;subst eo47;have hnb48:=N437_412.out;have hnc48:=N412_437.out;have hnb49:=N437_413.out;have hnc49:=N413_437.out;have hnb50:=N437_426.out;have hnc50:=N426_437.out;have z51_0 : w46.cell? ⟨gb437,0,none⟩ = some (.slice none 0 0):=(aC B437.out 0).trans rfl;have z51_1 : w46.cell? ⟨gb437,1,none⟩ = some (.int .u64 0):=(aC B437.out 1).trans rfl;have z51_2 : w46.cell? ⟨gb437,2,none⟩ = some (.int .u64 0):=(aC B437.out 2).trans rfl;have z51_3 : w46.cell? ⟨gb437,3,none⟩ = some (.int .u64 0):=(aC B437.out 3).trans rfl;have f51_0:=aF B437.out 0;have f51_1:=aF B437.out 1;have f51_2:=aF B437.out 2;have f51_3:=aF B437.out 3))
    (try simp only [Act.put,sA,sZ,sS])
    go_cut [9] (fun v9 wc => ∃ (kq : Nat) (x9_38 : Bool),v9 = .bool x9_38 ∧ Aside0 (j1 kq t436 x9_38 l1_0 a1_1 a1_2 a1_3 t419 t422 t423 t424 = some r) ∧ Aside0 (kq ≤ kj5) ∧ Aside0 (Kd.V k62 62 wc w.heap.size (fun k_ => ((P0_0_ k_ ∨ P1_0_ k_) ∨ w.heap.size ≤ k_) ∧ nO k_ ((.slice Ao19 t419.length co19)) ∧ nO k_ ((.slice Ao47 t430.length co47)) ∧ k_ ≠ gb412 ∧ k_ ≠ gb413 ∧ k_ ≠ gb426 ∧ k_ ≠ gb437) (.slice A0_0 l0_0.length c0_0) l0_0) ∧ Aside0 (Kd.V k62 62 wc w.heap.size (fun k_ => ((P0_0_ k_ ∨ P1_0_ k_) ∨ w.heap.size ≤ k_) ∧ nO k_ ((.slice Ao19 t419.length co19)) ∧ nO k_ ((.slice Ao47 t430.length co47)) ∧ k_ ≠ gb412 ∧ k_ ≠ gb413 ∧ k_ ≠ gb426 ∧ k_ ≠ gb437) (.slice A1_0 l1_0.length c1_0) l1_0) ∧ Aside0 (Kd.R k62 62 wc w.heap.size (fun k_ => (w.heap.size ≤ k_) ∧ nO k_ ((.slice Ao47 t430.length co47))) (.slice Ao19 t419.length co19) t419) ∧ Aside0 (Kd.R k62 62 wc w.heap.size (fun k_ => (w.heap.size ≤ k_) ∧ nO k_ ((.slice Ao19 t419.length co19))) (.slice Ao47 t430.length co47) t430) ∧ Aside0 (wc.heap[gb412]? = some (.cells #[(.slice A0_0 l0_0.length c0_0),.int .u64 a0_1,.int .u64 a0_2,.int .u64 a0_3] 54 (0,0))) ∧ Aside0 (wc.heap[gb413]? = some (.cells #[(.slice A1_0 l1_0.length c1_0),.int .u64 a1_1,.int .u64 a1_2,.int .u64 a1_3] 54 (0,0))) ∧ Aside0 (wc.heap[gb426]? = some (.cells #[(.slice Ao19 t419.length co19),.int .u64 t422,.int .u64 t423,.int .u64 t424] 57 (0,0))) ∧ Aside0 (wc.heap[gb437]? = some (.cells #[(.slice Ao47 t430.length co47),.int .u64 t433,.int .u64 t434,.int .u64 t435] 57 (0,0))) ∧ Aside0 (Below w.heap.size w wc))
    case first =>
     have H:=HC39.out
     clear HC39
     by_cases c52 : (t419.length : Int) > 0
     ·rw [if_pos c52] at H
      have c52b0 : decide (0 < (t419.length : Int)) = true:=decide_eq_true c52
      have c52b1 : decide (0 < t419.length) = true:=decide_eq_true (by omega)
      clear c52
      (first|rw [c52b0]|(simp only [i64_w,i32_w];rw [c52b0])|skip)
      by_cases c53 : (l1_0.length : Int) > 0
      ·rw [if_pos c53] at H
       have c53b0 : decide (0 < (l1_0.length : Int)) = true:=decide_eq_true c53
       have c53b1 : decide (0 < l1_0.length) = true:=decide_eq_true (by omega)
       clear c53
       by_cases c54 : 0 < (l1_0.length : Int)
       rotate_left
       ·rw [if_neg c54] at H
        exact absurd H (by simp)
       rw [if_pos c54] at H
       have c54b0 : decide (0 < (l1_0.length : Int)) = true:=decide_eq_true c54
       have c54b1 : decide (0 < l1_0.length) = true:=decide_eq_true (by omega)
       clear c54
       obtain ⟨ji55,hji55⟩ : ∃ j_ : Int,(wrap64 ((t419.length : Int) - 1)) = j_:=⟨_,rfl⟩
       replace H : (if 0 ≤ (ji55) then (if (ji55) < (t419.length : Int) then (j1 kj5 t436 (decide (((rd_T62 l1_0 0).f0) ≤ ((rd_T62 t419 (ji55)).f0))) l1_0 a1_1 a1_2 a1_3 t419 t422 t423 t424) else (none)) else (none)) = some r:=by first|(rw [hji55] at H;exact H)|(simp only [hji55] at H ⊢;exact H)
       have hji55w : (IntKind.i64.wrap ((t419.length : Int) - 1)) = ji55:=(i64_w _).trans hji55
       by_cases c56 : 0 ≤ (ji55)
       rotate_left
       ·rw [if_neg c56] at H
        exact absurd H (by simp)
       rw [if_pos c56] at H
       have c56b0 : decide (0 ≤ (ji55)) = true:=decide_eq_true c56
       clear c56
       by_cases c57 : (ji55) < (t419.length : Int)
       rotate_left
       ·rw [if_neg c57] at H
        exact absurd H (by simp)
       rw [if_pos c57] at H
       have c57b0 : decide ((ji55) < (t419.length : Int)) = true:=decide_eq_true c57
       clear c57
       have H':=aK H
       clear H
       try go_wp2
       have n0_ : Aside0 (Kd.V k62 62 ((((w46.setCell ⟨gb437,0,none⟩ (.slice Ao47 t430.length co47)).setCell ⟨gb437,1,none⟩ (.int .u64 t433)).setCell ⟨gb437,2,none⟩ (.int .u64 t434)).setCell ⟨gb437,3,none⟩ (.int .u64 t435)) w.heap.size (fun k_ => ((P0_0_ k_ ∨ P1_0_ k_) ∨ w.heap.size ≤ k_) ∧ nB k_ Ao19 t419.length co19 ∧ nB k_ Ao47 t430.length co47 ∧ k_ ≠ gb412 ∧ k_ ≠ gb413 ∧ k_ ≠ gb426 ∧ k_ ≠ gb437) (.slice A0_0 l0_0.length c0_0) l0_0):=⟨by (with_reducible repeat (first|apply vA|apply vN|apply vD));exact aN (aU (p:=⟨gb437,3,none⟩) (aU (p:=⟨gb437,2,none⟩) (aU (p:=⟨gb437,1,none⟩) (aU (p:=⟨gb437,0,none⟩) (aN HO_413000.out (fun k_ hk => (⟨hk,hk.2⟩ : _ ∧ k_ ≠ gb437))) (fun _ hk => hk.2) (.slice Ao47 t430.length co47)) (fun _ hk => hk.2) (.int .u64 t433)) (fun _ hk => hk.2) (.int .u64 t434)) (fun _ hk => hk.2) (.int .u64 t435)) (fun _ hk => ⟨hk.1.1.1.1,⟨hk.1.1.1.2.1,⟨hk.1.1.2,⟨hk.1.1.1.2.2.1,⟨hk.1.1.1.2.2.2.1,⟨hk.1.1.1.2.2.2.2,hk.1.2⟩⟩⟩⟩⟩⟩)⟩
       have n1_ : Aside0 (Kd.V k62 62 ((((w46.setCell ⟨gb437,0,none⟩ (.slice Ao47 t430.length co47)).setCell ⟨gb437,1,none⟩ (.int .u64 t433)).setCell ⟨gb437,2,none⟩ (.int .u64 t434)).setCell ⟨gb437,3,none⟩ (.int .u64 t435)) w.heap.size (fun k_ => ((P0_0_ k_ ∨ P1_0_ k_) ∨ w.heap.size ≤ k_) ∧ nB k_ Ao19 t419.length co19 ∧ nB k_ Ao47 t430.length co47 ∧ k_ ≠ gb412 ∧ k_ ≠ gb413 ∧ k_ ≠ gb426 ∧ k_ ≠ gb437) (.slice A1_0 l1_0.length c1_0) l1_0):=⟨by (with_reducible repeat (first|apply vA|apply vN|apply vD));exact aN (aU (p:=⟨gb437,3,none⟩) (aU (p:=⟨gb437,2,none⟩) (aU (p:=⟨gb437,1,none⟩) (aU (p:=⟨gb437,0,none⟩) (aN HO_414000.out (fun k_ hk => (⟨hk,hk.2⟩ : _ ∧ k_ ≠ gb437))) (fun _ hk => hk.2) (.slice Ao47 t430.length co47)) (fun _ hk => hk.2) (.int .u64 t433)) (fun _ hk => hk.2) (.int .u64 t434)) (fun _ hk => hk.2) (.int .u64 t435)) (fun _ hk => ⟨hk.1.1.1.1,⟨hk.1.1.1.2.1,⟨hk.1.1.2,⟨hk.1.1.1.2.2.1,⟨hk.1.1.1.2.2.2.1,⟨hk.1.1.1.2.2.2.2,hk.1.2⟩⟩⟩⟩⟩⟩)⟩
       have n2_ : Aside0 (Kd.R k62 62 ((((w46.setCell ⟨gb437,0,none⟩ (.slice Ao47 t430.length co47)).setCell ⟨gb437,1,none⟩ (.int .u64 t433)).setCell ⟨gb437,2,none⟩ (.int .u64 t434)).setCell ⟨gb437,3,none⟩ (.int .u64 t435)) w.heap.size (fun k_ => (w.heap.size ≤ k_) ∧ nB k_ Ao47 t430.length co47) (.slice Ao19 t419.length co19) t419):=⟨by (with_reducible repeat (first|apply zA|apply zN|apply zD));exact aM (aY (p:=⟨gb437,3,none⟩) (aY (p:=⟨gb437,2,none⟩) (aY (p:=⟨gb437,1,none⟩) (aY (p:=⟨gb437,0,none⟩) (aP HO_427000.out B437.out (by decide)) (fun _ hk => hk.2) (.slice Ao47 t430.length co47)) (fun _ hk => hk.2) (.int .u64 t433)) (fun _ hk => hk.2) (.int .u64 t434)) (fun _ hk => hk.2) (.int .u64 t435)) (fun _ hk => ⟨hk.1.1,hk.1.2⟩)⟩
       have n3_ : Aside0 (Kd.R k62 62 ((((w46.setCell ⟨gb437,0,none⟩ (.slice Ao47 t430.length co47)).setCell ⟨gb437,1,none⟩ (.int .u64 t433)).setCell ⟨gb437,2,none⟩ (.int .u64 t434)).setCell ⟨gb437,3,none⟩ (.int .u64 t435)) w.heap.size (fun k_ => (w.heap.size ≤ k_) ∧ nB k_ Ao19 t419.length co19) (.slice Ao47 t430.length co47) t430):=⟨by (with_reducible repeat (first|apply zA|apply zN|apply zD));exact aM (aY (p:=⟨gb437,3,none⟩) (aY (p:=⟨gb437,2,none⟩) (aY (p:=⟨gb437,1,none⟩) (aY (p:=⟨gb437,0,none⟩) (aP O432.out B437.out (by decide)) (fun _ hk => hk.2) (.slice Ao47 t430.length co47)) (fun _ hk => hk.2) (.int .u64 t433)) (fun _ hk => hk.2) (.int .u64 t434)) (fun _ hk => hk.2) (.int .u64 t435)) (fun _ hk => ⟨hk.1.1.1,hk.1.2⟩)⟩
       have n4_ : Aside0 (((((w46.setCell ⟨gb437,0,none⟩ (.slice Ao47 t430.length co47)).setCell ⟨gb437,1,none⟩ (.int .u64 t433)).setCell ⟨gb437,2,none⟩ (.int .u64 t434)).setCell ⟨gb437,3,none⟩ (.int .u64 t435)).heap[gb412]? = some (.cells #[.slice A0_0 l0_0.length c0_0,.int .u64 a0_1,.int .u64 a0_2,.int .u64 a0_3] 54 (0,0))):=⟨by (with_reducible repeat (first|refine bN ?_ _|refine bD ?_|refine bA ?_ _));refine aX ?_ N412_437.out _;(with_reducible repeat (first|refine bN ?_ _|refine bD ?_|refine bA ?_ _));refine aX ?_ N412_437.out _;(with_reducible repeat (first|refine bN ?_ _|refine bD ?_|refine bA ?_ _));refine aX ?_ N412_437.out _;(with_reducible repeat (first|refine bN ?_ _|refine bD ?_|refine bA ?_ _));refine aX ?_ N412_437.out _;(with_reducible repeat (first|refine bN ?_ _|refine bD ?_|refine bA ?_ _));exact B412.out⟩
       have n5_ : Aside0 (((((w46.setCell ⟨gb437,0,none⟩ (.slice Ao47 t430.length co47)).setCell ⟨gb437,1,none⟩ (.int .u64 t433)).setCell ⟨gb437,2,none⟩ (.int .u64 t434)).setCell ⟨gb437,3,none⟩ (.int .u64 t435)).heap[gb413]? = some (.cells #[.slice A1_0 l1_0.length c1_0,.int .u64 a1_1,.int .u64 a1_2,.int .u64 a1_3] 54 (0,0))):=⟨by (with_reducible repeat (first|refine bN ?_ _|refine bD ?_|refine bA ?_ _));refine aX ?_ N413_437.out _;(with_reducible repeat (first|refine bN ?_ _|refine bD ?_|refine bA ?_ _));refine aX ?_ N413_437.out _;(with_reducible repeat (first|refine bN ?_ _|refine bD ?_|refine bA ?_ _));refine aX ?_ N413_437.out _;(with_reducible repeat (first|refine bN ?_ _|refine bD ?_|refine bA ?_ _));refine aX ?_ N413_437.out _;(with_reducible repeat (first|refine bN ?_ _|refine bD ?_|refine bA ?_ _));exact B413.out⟩
       have n6_ : Aside0 (((((w46.setCell ⟨gb437,0,none⟩ (.slice Ao47 t430.length co47)).setCell ⟨gb437,1,none⟩ (.int .u64 t433)).setCell ⟨gb437,2,none⟩ (.int .u64 t434)).setCell ⟨gb437,3,none⟩ (.int .u64 t435)).heap[gb426]? = some (.cells #[.slice Ao19 t419.length co19,.int .u64 t422,.int .u64 t423,.int .u64 t424] 57 (0,0))):=⟨by (with_reducible repeat (first|refine bN ?_ _|refine bD ?_|refine bA ?_ _));refine aX ?_ N426_437.out _;(with_reducible repeat (first|refine bN ?_ _|refine bD ?_|refine bA ?_ _));refine aX ?_ N426_437.out _;(with_reducible repeat (first|refine bN ?_ _|refine bD ?_|refine bA ?_ _));refine aX ?_ N426_437.out _;(with_reducible repeat (first|refine bN ?_ _|refine bD ?_|refine bA ?_ _));refine aX ?_ N426_437.out _;(with_reducible repeat (first|refine bN ?_ _|refine bD ?_|refine bA ?_ _));exact B426.out⟩
       have n7_ : Aside0 (((((w46.setCell ⟨gb437,0,none⟩ (.slice Ao47 t430.length co47)).setCell ⟨gb437,1,none⟩ (.int .u64 t433)).setCell ⟨gb437,2,none⟩ (.int .u64 t434)).setCell ⟨gb437,3,none⟩ (.int .u64 t435)).heap[gb437]? = some (.cells #[.slice Ao47 t430.length co47,.int .u64 t433,.int .u64 t434,.int .u64 t435] 57 (0,0))):=⟨by (with_reducible repeat (first|refine bN ?_ _|refine bD ?_|refine bA ?_ _));refine blk_put (cs:=#[.slice Ao47 t430.length co47,.int .u64 t433,.int .u64 t434,.int .u64 0]) ?_ 3 _ rfl;(with_reducible repeat (first|refine bN ?_ _|refine bD ?_|refine bA ?_ _));refine blk_put (cs:=#[.slice Ao47 t430.length co47,.int .u64 t433,.int .u64 0,.int .u64 0]) ?_ 2 _ rfl;(with_reducible repeat (first|refine bN ?_ _|refine bD ?_|refine bA ?_ _));refine blk_put (cs:=#[.slice Ao47 t430.length co47,.int .u64 0,.int .u64 0,.int .u64 0]) ?_ 1 _ rfl;(with_reducible repeat (first|refine bN ?_ _|refine bD ?_|refine bA ?_ _));refine blk_put (cs:=#[.slice none 0 0,.int .u64 0,.int .u64 0,.int .u64 0]) ?_ 0 _ rfl;(with_reducible repeat (first|refine bN ?_ _|refine bD ?_|refine bA ?_ _));exact B437.out⟩
       have n8_ : Aside0 (Below w.heap.size w ((((w46.setCell ⟨gb437,0,none⟩ (.slice Ao47 t430.length co47)).setCell ⟨gb437,1,none⟩ (.int .u64 t433)).setCell ⟨gb437,2,none⟩ (.int .u64 t434)).setCell ⟨gb437,3,none⟩ (.int .u64 t435))):=⟨by repeat (first|(with_reducible first|exact HB.out|apply aA|apply aW|apply aD|refine aS ?_ E412.out|refine aS ?_ E413.out|refine aS ?_ E426.out|refine aS ?_ E437.out)|exact HB.out)⟩
       (try clear HO_413000)
       (try clear HO_414000)
       (try clear HO_427000)
       (try clear O432)
       (try clear B412)
       (try clear B413)
       (try clear B426)
       (try clear B437)
       (try clear HB)
       generalize ((((w46.setCell ⟨gb437,0,none⟩ (.slice Ao47 t430.length co47)).setCell ⟨gb437,1,none⟩ (.int .u64 t433)).setCell ⟨gb437,2,none⟩ (.int .u64 t434)).setCell ⟨gb437,3,none⟩ (.int .u64 t435)) = w58 at n0_ n1_ n2_ n3_ n4_ n5_ n6_ n7_ n8_ ⊢
       have HO_413000:=n0_
       have HO_414000:=n1_
       have HO_427000:=n2_
       have O432:=n3_
       have B412:=n4_
       have B413:=n5_
       have B426:=n6_
       have B437:=n7_
       have HB:=n8_
       clear n0_ n1_ n2_ n3_ n4_ n5_ n6_ n7_ n8_
       have n0_:=aK (Kd.V_drew HO_413000.out)
       have n1_:=aK (Kd.V_drew HO_414000.out)
       have n2_:=aK (Kd.R_drew HO_427000.out)
       have n3_:=aK (Kd.R_drew O432.out)
       have n4_:=aK (blk_drew B412.out)
       have n5_:=aK (blk_drew B413.out)
       have n6_:=aK (blk_drew B426.out)
       have n7_:=aK (blk_drew B437.out)
       have n8_:=aK (aD HB.out)
       clear HO_413000
       clear HO_414000
       clear HO_427000
       clear O432
       clear B412
       clear B413
       clear B426
       clear B437
       clear HB
       have HO_413000:=n0_
       have HO_414000:=n1_
       have HO_427000:=n2_
       have O432:=n3_
       have B412:=n4_
       have B413:=n5_
       have B426:=n6_
       have B437:=n7_
       have HB:=n8_
       clear n0_ n1_ n2_ n3_ n4_ n5_ n6_ n7_ n8_
       have p438 : 0 ≤ (0 : Int):=(by omega)
       have q438 : 0 < (l1_0.length : Int):=of_decide_eq_true (by first|(with_reducible assumption)|assumption)
       obtain ⟨ad438,e438,hx438_0,hx438_1,hx438_2,hx438_3⟩:=at_T62 (aO HO_414000.out).2.2 0 p438 q438
       cases e438
       have qi438 : (0 < l1_0.length) = True:=eq_true (by omega)
       (try rw [show ((0 : Int)).toNat = 0 from rfl] at hx438_0)
       (try rw [show 0 * 4 = 0 from rfl] at hx438_0)
       (try rw [Addr.add_zero'] at hx438_0)
       (try rw [show ((0 : Int)).toNat = 0 from rfl] at hx438_1)
       (try rw [show 0 * 4 = 0 from rfl] at hx438_1)
       (try rw [Addr.add_zero'] at hx438_1)
       (try rw [show ((0 : Int)).toNat = 0 from rfl] at hx438_2)
       (try rw [show 0 * 4 = 0 from rfl] at hx438_2)
       (try rw [Addr.add_zero'] at hx438_2)
       (try rw [show ((0 : Int)).toNat = 0 from rfl] at hx438_3)
       (try rw [show 0 * 4 = 0 from rfl] at hx438_3)
       (try rw [Addr.add_zero'] at hx438_3)
       replace p438:=eq_true p438
       replace q438:=eq_true q438
       have p439 : 0 ≤ ((ji55) : Int):=of_decide_eq_true (by first|(with_reducible assumption)|assumption)
       have q439 : (ji55) < (t419.length : Int):=of_decide_eq_true (by first|(with_reducible assumption)|assumption)
       obtain ⟨ad439,e439,hx439_0,hx439_1,hx439_2,hx439_3⟩:=at_T62 (aQ HO_427000.out).2.2 (ji55) p439 q439
       cases e439
       replace p439:=eq_true p439
       replace q439:=eq_true q439
       refine start_ (n:=28) (S:=fun w' => w'.cell? ⟨gb426,0,none⟩ = some (.slice (some ad439) t419.length co19) ∧ w'.cell? ⟨gb426,1,none⟩ = some (.int .u64 t422) ∧ w'.cell? ⟨gb426,2,none⟩ = some (.int .u64 t423) ∧ w'.cell? ⟨gb426,3,none⟩ = some (.int .u64 t424) ∧ w'.cell? ⟨gb413,0,none⟩ = some (.slice (some ad438) l1_0.length c1_0) ∧ w'.cell? ⟨gb413,1,none⟩ = some (.int .u64 a1_1) ∧ w'.cell? ⟨gb413,2,none⟩ = some (.int .u64 a1_2) ∧ w'.cell? ⟨gb413,3,none⟩ = some (.int .u64 a1_3) ∧ w'.cell? ad438 = some (.int .u64 ((rd_T62 l1_0 0).f0)) ∧ w'.cell? ⟨ad438.block,ad438.off + 1,none⟩ = some (.int .u64 ((rd_T62 l1_0 0).f1)) ∧ w'.cell? ⟨ad438.block,ad438.off + 2,none⟩ = some (.string ((rd_T62 l1_0 0).f2)) ∧ w'.cell? ⟨ad438.block,ad438.off + 3,none⟩ = some (.string ((rd_T62 l1_0 0).f3)) ∧ w'.cell? (ad439.add (((ji55)).toNat * 4)) = some (.int .u64 ((rd_T62 t419 (ji55)).f0)) ∧ w'.cell? ⟨(ad439.add (((ji55)).toNat * 4)).block,(ad439.add (((ji55)).toNat * 4)).off + 1,none⟩ = some (.int .u64 ((rd_T62 t419 (ji55)).f1)) ∧ w'.cell? ⟨(ad439.add (((ji55)).toNat * 4)).block,(ad439.add (((ji55)).toNat * 4)).off + 2,none⟩ = some (.string ((rd_T62 t419 (ji55)).f2)) ∧ w'.cell? ⟨(ad439.add (((ji55)).toNat * 4)).block,(ad439.add (((ji55)).toNat * 4)).off + 3,none⟩ = some (.string ((rd_T62 t419 (ji55)).f3))) (ds:=[]) #[ff,ff,ff,ff,ff,ff,ff,ff,ff,ff,ff,ff,ff,ff,ff,ff,ff,ff,ff,ff,ff,ff,ff,ff,ff,ff,ff,ff] (by kernel_rfl) rfl rfl ⟨(aC B426.out 0).trans rfl,(aC B426.out 1).trans rfl,(aC B426.out 2).trans rfl,(aC B426.out 3).trans rfl,(aC B413.out 0).trans rfl,(aC B413.out 1).trans rfl,(aC B413.out 2).trans rfl,(aC B413.out 3).trans rfl,hx438_0,hx438_1,hx438_2,hx438_3,hx439_0,hx439_1,hx439_2,hx439_3⟩ (fun hHeld => ?_);refine with_tabW tab7 bits7 (fun HT_ HW_ => ?_)
       generalize w58.drew = w59 at HO_413000 HO_414000 HO_427000 O432 B412 B413 B426 B437 HB hx438_0 hx438_1 hx438_2 hx438_3 hx439_0 hx439_1 hx439_2 hx439_3 hHeld ⊢
       refine pure_ (i:=0) (N:=some 47) (v:=?_) (a':=?_) #[tt,ff,ff,ff,ff,ff,ff,ff,ff,ff,ff,ff,ff,ff,ff,ff,ff,ff,ff,ff,ff,ff,ff,ff,ff,ff,ff,ff] rfl rfl (any_of HT_.out (by kernel_rfl)) (fun _ _ _ h => h) (Or.inl ⟨by rfl,?_⟩) ?_ ?_
       rotate_left
       ·intro w'
        go_simp
        with_reducible rfl
       rotate_left
       ·simp only [Act.put,sA,sZ,sS,i64_w,i32_w]
        rfl
       refine take_ (i:=1) (N:=some 48) (v:=?_) (a':=?_) #[tt,tt,ff,ff,ff,ff,ff,ff,ff,ff,ff,ff,ff,ff,ff,ff,ff,ff,ff,ff,ff,ff,ff,ff,ff,ff,ff,ff] rfl rfl (take_ofW HT_.out HW_.out (by kernel_rfl)) (fun _ _ _ h => h) (Or.inl ⟨by rfl,?_⟩) hHeld ?_ ?_
       rotate_left
       ·rintro w' ⟨s0,s1,s2,s3,s4,s5,s6,s7,s8,s9,s10,s11,s12,s13,s14,s15⟩
        go_simp
        with_reducible rfl
       rotate_left
       ·simp only [Act.put,sA,sZ,sS,i64_w,i32_w]
        rfl
       refine pure_ (i:=2) (N:=some 49) (v:=?_) (a':=?_) #[tt,tt,tt,ff,ff,ff,ff,ff,ff,ff,ff,ff,ff,ff,ff,ff,ff,ff,ff,ff,ff,ff,ff,ff,ff,ff,ff,ff] rfl rfl (any_of HT_.out (by kernel_rfl)) (fun _ _ _ h => h) (Or.inl ⟨by rfl,?_⟩) ?_ ?_
       rotate_left
       ·intro w'
        go_simp
        with_reducible rfl
       rotate_left
       ·simp only [Act.put,sA,sZ,sS,i64_w,i32_w]
        rfl
       refine pure_ (i:=3) (N:=some 50) (v:=?_) (a':=?_) #[tt,tt,tt,tt,ff,ff,ff,ff,ff,ff,ff,ff,ff,ff,ff,ff,ff,ff,ff,ff,ff,ff,ff,ff,ff,ff,ff,ff] rfl rfl (any_of HT_.out (by kernel_rfl)) (fun _ _ _ h => h) (Or.inl ⟨by rfl,?_⟩) ?_ ?_
       rotate_left
       ·intro w'
        go_simp
        with_reducible rfl
       rotate_left
       ·simp only [Act.put,sA,sZ,sS,i64_w,i32_w]
        rfl
       refine pure_ (i:=4) (N:=some 51) (v:=?_) (a':=?_) #[tt,tt,tt,tt,tt,ff,ff,ff,ff,ff,ff,ff,ff,ff,ff,ff,ff,ff,ff,ff,ff,ff,ff,ff,ff,ff,ff,ff] rfl rfl (any_of HT_.out (by kernel_rfl)) (fun _ _ _ h => h) (Or.inl ⟨by rfl,?_⟩) ?_ ?_
       rotate_left
       ·intro w'
        go_simp
        with_reducible rfl
       rotate_left
       ·simp only [Act.put,sA,sZ,sS,i64_w,i32_w]
        rfl
       refine pure_ (i:=5) (N:=some 52) (v:=?_) (a':=?_) #[tt,tt,tt,tt,tt,tt,ff,ff,ff,ff,ff,ff,ff,ff,ff,ff,ff,ff,ff,ff,ff,ff,ff,ff,ff,ff,ff,ff] rfl rfl (any_of HT_.out (by kernel_rfl)) (fun _ _ _ h => h) (Or.inl ⟨by rfl,?_⟩) ?_ ?_
       rotate_left
       ·intro w'
        go_simp
        with_reducible rfl
       rotate_left
       ·simp only [Act.put,sA,sZ,sS,i64_w,i32_w]
        rfl
       refine take_ (i:=6) (N:=some 53) (v:=?_) (a':=?_) #[tt,tt,tt,tt,tt,tt,tt,ff,ff,ff,ff,ff,ff,ff,ff,ff,ff,ff,ff,ff,ff,ff,ff,ff,ff,ff,ff,ff] rfl rfl (take_ofW HT_.out HW_.out (by kernel_rfl)) (fun _ _ _ h => h) (Or.inl ⟨by rfl,?_⟩) hHeld ?_ ?_
       rotate_left
       ·rintro w' ⟨s0,s1,s2,s3,s4,s5,s6,s7,s8,s9,s10,s11,s12,s13,s14,s15⟩
        go_simp
        with_reducible rfl
       rotate_left
       ·simp only [Act.put,sA,sZ,sS,i64_w,i32_w]
        rfl
       refine pure_ (i:=7) (N:=some 54) (v:=?_) (a':=?_) #[tt,tt,tt,tt,tt,tt,tt,tt,ff,ff,ff,ff,ff,ff,ff,ff,ff,ff,ff,ff,ff,ff,ff,ff,ff,ff,ff,ff] rfl rfl (any_of HT_.out (by kernel_rfl)) (fun _ _ _ h => h) (Or.inl ⟨by rfl,?_⟩) ?_ ?_
       rotate_left
       ·intro w'
        go_simp
        with_reducible rfl
       rotate_left
       ·simp only [Act.put,sA,sZ,sS,i64_w,i32_w]
        rfl
       refine pure_ (i:=8) (N:=some 55) (v:=?_) (a':=?_) #[tt,tt,tt,tt,tt,tt,tt,tt,tt,ff,ff,ff,ff,ff,ff,ff,ff,ff,ff,ff,ff,ff,ff,ff,ff,ff,ff,ff] rfl rfl (any_of HT_.out (by kernel_rfl)) (fun _ _ _ h => h) (Or.inl ⟨by rfl,?_⟩) ?_ ?_
       rotate_left
       ·intro w'
        go_simp
        with_reducible rfl
       rotate_left
       ·simp only [Act.put,sA,sZ,sS,i64_w,i32_w]
        rfl
       refine pure_ (i:=9) (N:=some 56) (v:=?_) (a':=?_) #[tt,tt,tt,tt,tt,tt,tt,tt,tt,tt,ff,ff,ff,ff,ff,ff,ff,ff,ff,ff,ff,ff,ff,ff,ff,ff,ff,ff] rfl rfl (any_of HT_.out (by kernel_rfl)) (fun _ _ _ h => h) (Or.inl ⟨by rfl,?_⟩) ?_ ?_
       rotate_left
       ·intro w'
        go_simp
        with_reducible rfl
       rotate_left
       ·simp only [Act.put,sA,sZ,sS,i64_w,i32_w]
        rfl
       refine pure_ (i:=10) (N:=some 57) (v:=?_) (a':=?_) #[tt,tt,tt,tt,tt,tt,tt,tt,tt,tt,tt,ff,ff,ff,ff,ff,ff,ff,ff,ff,ff,ff,ff,ff,ff,ff,ff,ff] rfl rfl (any_of HT_.out (by kernel_rfl)) (fun _ _ _ h => h) (Or.inl ⟨by rfl,?_⟩) ?_ ?_
       rotate_left
       ·intro w'
        go_simp
        with_reducible rfl
       rotate_left
       ·simp only [Act.put,sA,sZ,sS,i64_w,i32_w]
        rfl
       refine pure_ (i:=11) (N:=some 58) (v:=?_) (a':=?_) #[tt,tt,tt,tt,tt,tt,tt,tt,tt,tt,tt,tt,ff,ff,ff,ff,ff,ff,ff,ff,ff,ff,ff,ff,ff,ff,ff,ff] rfl rfl (any_of HT_.out (by kernel_rfl)) (fun _ _ _ h => h) (Or.inl ⟨by rfl,?_⟩) ?_ ?_
       rotate_left
       ·intro w'
        go_simp
        with_reducible rfl
       rotate_left
       ·simp only [Act.put,sA,sZ,sS,i64_w,i32_w]
        rfl
       refine pure_ (i:=16) (N:=some 63) (v:=?_) (a':=?_) #[tt,tt,tt,tt,tt,tt,tt,tt,tt,tt,tt,tt,ff,ff,ff,ff,tt,ff,ff,ff,ff,ff,ff,ff,ff,ff,ff,ff] rfl rfl (any_of HT_.out (by kernel_rfl)) (fun _ _ _ h => h) (Or.inl ⟨by rfl,?_⟩) ?_ ?_
       rotate_left
       ·intro w'
        go_simp
        with_reducible rfl
       rotate_left
       ·simp only [Act.put,sA,sZ,sS,i64_w,i32_w]
        rfl
       refine pure_ (i:=18) (N:=some 65) (v:=?_) (a':=?_) #[tt,tt,tt,tt,tt,tt,tt,tt,tt,tt,tt,tt,ff,ff,ff,ff,tt,ff,tt,ff,ff,ff,ff,ff,ff,ff,ff,ff] rfl rfl (any_of HT_.out (by kernel_rfl)) (fun _ _ _ h => h) (Or.inl ⟨by rfl,?_⟩) ?_ ?_
       rotate_left
       ·intro w'
        go_simp
        with_reducible rfl
       rotate_left
       ·simp only [Act.put,sA,sZ,sS,i64_w,i32_w]
        rfl
       refine take_ (i:=12) (N:=some 59) (v:=?_) (a':=?_) #[tt,tt,tt,tt,tt,tt,tt,tt,tt,tt,tt,tt,tt,ff,ff,ff,tt,ff,tt,ff,ff,ff,ff,ff,ff,ff,ff,ff] rfl rfl (take_ofW HT_.out HW_.out (by kernel_rfl)) (fun _ _ _ h => h) (Or.inl ⟨by rfl,?_⟩) hHeld ?_ ?_
       rotate_left
       ·rintro w' ⟨s0,s1,s2,s3,s4,s5,s6,s7,s8,s9,s10,s11,s12,s13,s14,s15⟩
        go_simp
        with_reducible rfl
       rotate_left
       ·simp only [Act.put,sA,sZ,sS,i64_w,i32_w]
        rfl
       refine pure_ (i:=13) (N:=some 60) (v:=?_) (a':=?_) #[tt,tt,tt,tt,tt,tt,tt,tt,tt,tt,tt,tt,tt,tt,ff,ff,tt,ff,tt,ff,ff,ff,ff,ff,ff,ff,ff,ff] rfl rfl (any_of HT_.out (by kernel_rfl)) (fun _ _ _ h => h) (Or.inl ⟨by rfl,?_⟩) ?_ ?_
       rotate_left
       ·intro w'
        go_simp
        with_reducible rfl
       rotate_left
       ·simp only [Act.put,sA,sZ,sS,i64_w,i32_w]
        rfl
       refine pure_ (i:=14) (N:=some 61) (v:=?_) (a':=?_) #[tt,tt,tt,tt,tt,tt,tt,tt,tt,tt,tt,tt,tt,tt,tt,ff,tt,ff,tt,ff,ff,ff,ff,ff,ff,ff,ff,ff] rfl rfl (any_of HT_.out (by kernel_rfl)) (fun _ _ _ h => h) (Or.inl ⟨by rfl,?_⟩) ?_ ?_
       rotate_left
       ·intro w'
        go_simp
        with_reducible rfl
       rotate_left
       ·simp only [Act.put,sA,sZ,sS,i64_w,i32_w]
        rfl
       refine take_ (i:=15) (N:=some 62) (v:=?_) (a':=?_) #[tt,tt,tt,tt,tt,tt,tt,tt,tt,tt,tt,tt,tt,tt,tt,tt,tt,ff,tt,ff,ff,ff,ff,ff,ff,ff,ff,ff] rfl rfl (take_ofW HT_.out HW_.out (by kernel_rfl)) (fun _ _ _ h => h) (Or.inl ⟨by rfl,?_⟩) hHeld ?_ ?_
       rotate_left
       ·rintro w' ⟨s0,s1,s2,s3,s4,s5,s6,s7,s8,s9,s10,s11,s12,s13,s14,s15⟩
        go_simp
        with_reducible rfl
       rotate_left
       ·simp only [Act.put,sA,sZ,sS,i64_w,i32_w]
        rfl
       refine take_ (i:=17) (N:=some 64) (v:=?_) (a':=?_) #[tt,tt,tt,tt,tt,tt,tt,tt,tt,tt,tt,tt,tt,tt,tt,tt,tt,tt,tt,ff,ff,ff,ff,ff,ff,ff,ff,ff] rfl rfl (take_ofW HT_.out HW_.out (by kernel_rfl)) (fun _ _ _ h => h) (Or.inl ⟨by rfl,?_⟩) hHeld ?_ ?_
       rotate_left
       ·rintro w' ⟨s0,s1,s2,s3,s4,s5,s6,s7,s8,s9,s10,s11,s12,s13,s14,s15⟩
        go_simp
        with_reducible rfl
       rotate_left
       ·simp only [Act.put,sA,sZ,sS,i64_w,i32_w]
        rfl
       refine take_ (i:=19) (N:=some 66) (v:=?_) (a':=?_) #[tt,tt,tt,tt,tt,tt,tt,tt,tt,tt,tt,tt,tt,tt,tt,tt,tt,tt,tt,tt,ff,ff,ff,ff,ff,ff,ff,ff] rfl rfl (take_ofW HT_.out HW_.out (by kernel_rfl)) (fun _ _ _ h => h) (Or.inl ⟨by rfl,?_⟩) hHeld ?_ ?_
       rotate_left
       ·rintro w' ⟨s0,s1,s2,s3,s4,s5,s6,s7,s8,s9,s10,s11,s12,s13,s14,s15⟩
        go_simp
        with_reducible rfl
       rotate_left
       ·simp only [Act.put,sA,sZ,sS,i64_w,i32_w]
        rfl
       refine pure_ (i:=20) (N:=some 67) (v:=?_) (a':=?_) #[tt,tt,tt,tt,tt,tt,tt,tt,tt,tt,tt,tt,tt,tt,tt,tt,tt,tt,tt,tt,tt,ff,ff,ff,ff,ff,ff,ff] rfl rfl (any_of HT_.out (by kernel_rfl)) (fun _ _ _ h => h) (Or.inl ⟨by rfl,?_⟩) ?_ ?_
       rotate_left
       ·intro w'
        go_simp
        with_reducible rfl
       rotate_left
       ·simp only [Act.put,sA,sZ,sS,i64_w,i32_w]
        rfl
       refine pure_ (i:=21) (N:=some 68) (v:=?_) (a':=?_) #[tt,tt,tt,tt,tt,tt,tt,tt,tt,tt,tt,tt,tt,tt,tt,tt,tt,tt,tt,tt,tt,tt,ff,ff,ff,ff,ff,ff] rfl rfl (any_of HT_.out (by kernel_rfl)) (fun _ _ _ h => h) (Or.inl ⟨by rfl,?_⟩) ?_ ?_
       rotate_left
       ·intro w'
        go_simp
        with_reducible rfl
       rotate_left
       ·simp only [Act.put,sA,sZ,sS,i64_w,i32_w]
        rfl
       refine pure_ (i:=22) (N:=some 69) (v:=?_) (a':=?_) #[tt,tt,tt,tt,tt,tt,tt,tt,tt,tt,tt,tt,tt,tt,tt,tt,tt,tt,tt,tt,tt,tt,tt,ff,ff,ff,ff,ff] rfl rfl (any_of HT_.out (by kernel_rfl)) (fun _ _ _ h => h) (Or.inl ⟨by rfl,?_⟩) ?_ ?_
       rotate_left
       ·intro w'
        go_simp
        with_reducible rfl
       rotate_left
       ·simp only [Act.put,sA,sZ,sS,i64_w,i32_w]
        rfl
       refine pure_ (i:=23) (N:=some 70) (v:=?_) (a':=?_) #[tt,tt,tt,tt,tt,tt,tt,tt,tt,tt,tt,tt,tt,tt,tt,tt,tt,tt,tt,tt,tt,tt,tt,tt,ff,ff,ff,ff] rfl rfl (any_of HT_.out (by kernel_rfl)) (fun _ _ _ h => h) (Or.inl ⟨by rfl,?_⟩) ?_ ?_
       rotate_left
       ·intro w'
        go_simp
        with_reducible rfl
       rotate_left
       ·simp only [Act.put,sA,sZ,sS,i64_w,i32_w]
        rfl
       refine take_ (i:=24) (N:=some 71) (v:=?_) (a':=?_) #[tt,tt,tt,tt,tt,tt,tt,tt,tt,tt,tt,tt,tt,tt,tt,tt,tt,tt,tt,tt,tt,tt,tt,tt,tt,ff,ff,ff] rfl rfl (take_ofW HT_.out HW_.out (by kernel_rfl)) (fun _ _ _ h => h) (Or.inl ⟨by rfl,?_⟩) hHeld ?_ ?_
       rotate_left
       ·rintro w' ⟨s0,s1,s2,s3,s4,s5,s6,s7,s8,s9,s10,s11,s12,s13,s14,s15⟩
        go_simp
        with_reducible rfl
       rotate_left
       ·simp only [Act.put,sA,sZ,sS,i64_w,i32_w]
        rfl
       refine pure_ (i:=25) (N:=some 72) (v:=?_) (a':=?_) #[tt,tt,tt,tt,tt,tt,tt,tt,tt,tt,tt,tt,tt,tt,tt,tt,tt,tt,tt,tt,tt,tt,tt,tt,tt,tt,ff,ff] rfl rfl (any_of HT_.out (by kernel_rfl)) (fun _ _ _ h => h) (Or.inl ⟨by rfl,?_⟩) ?_ ?_
       rotate_left
       ·intro w'
        go_simp
        with_reducible rfl
       rotate_left
       ·simp only [Act.put,sA,sZ,sS,i64_w,i32_w]
        rfl
       refine pure_ (i:=26) (N:=some 73) (v:=?_) (a':=?_) #[tt,tt,tt,tt,tt,tt,tt,tt,tt,tt,tt,tt,tt,tt,tt,tt,tt,tt,tt,tt,tt,tt,tt,tt,tt,tt,tt,ff] rfl rfl (any_of HT_.out (by kernel_rfl)) (fun _ _ _ h => h) (Or.inl ⟨by rfl,?_⟩) ?_ ?_
       rotate_left
       ·intro w'
        go_simp
        with_reducible rfl
       rotate_left
       ·simp only [Act.put,sA,sZ,sS,i64_w,i32_w]
        rfl
       refine pure_ (i:=27) (N:=some 9) (v:=?_) (a':=?_) #[tt,tt,tt,tt,tt,tt,tt,tt,tt,tt,tt,tt,tt,tt,tt,tt,tt,tt,tt,tt,tt,tt,tt,tt,tt,tt,tt,tt] rfl rfl (any_of HT_.out (by kernel_rfl)) (fun _ _ _ h => h) (Or.inl ⟨by rfl,?_⟩) ?_ ?_
       rotate_left
       ·intro w'
        go_simp
        with_reducible rfl
       rotate_left
       ·simp only [Act.put,sA,sZ,sS,i64_w,i32_w]
        rfl
       refine done_ (done_of HT_.out (by kernel_rfl)) ?_
       try go_wp2
       go_meet
       case rel => exact ⟨_,(decide (((rd_T62 l1_0 0).f0) ≤ ((rd_T62 t419 (ji55)).f0))),(by first|rfl|(simp;done)|(simp only [← hji55] <;> (first|rfl|simp))|(simp [*];done)),H',⟨by have:=HJ5.out;first|omega|exact Nat.le_refl _⟩,⟨by (with_reducible repeat (first|apply vA|apply vN|apply vD));exact HO_413000.out⟩,⟨by (with_reducible repeat (first|apply vA|apply vN|apply vD));exact HO_414000.out⟩,⟨by (with_reducible repeat (first|apply zA|apply zN|apply zD));exact HO_427000.out⟩,⟨by (with_reducible repeat (first|apply zA|apply zN|apply zD));exact O432.out⟩,⟨by (with_reducible repeat (first|refine bN ?_ _|refine bD ?_|refine bA ?_ _));exact B412.out⟩,⟨by (with_reducible repeat (first|refine bN ?_ _|refine bD ?_|refine bA ?_ _));exact B413.out⟩,⟨by (with_reducible repeat (first|refine bN ?_ _|refine bD ?_|refine bA ?_ _));exact B426.out⟩,⟨by (with_reducible repeat (first|refine bN ?_ _|refine bD ?_|refine bA ?_ _));exact B437.out⟩,⟨by repeat (first|(with_reducible first|exact HB.out|apply aA|apply aW|apply aD|refine aS ?_ E412.out|refine aS ?_ E413.out|refine aS ?_ E426.out|refine aS ?_ E437.out)|exact HB.out)⟩⟩
      ·rw [if_neg c53] at H
       have c53b0 : decide (0 < (l1_0.length : Int)) = false:=decide_eq_false c53
       have c53b1 : decide (0 < l1_0.length) = false:=decide_eq_false (by omega)
       clear c53
       have H':=aK H
       clear H
       try go_wp2
       have n0_ : Aside0 (Kd.V k62 62 ((((w46.setCell ⟨gb437,0,none⟩ (.slice Ao47 t430.length co47)).setCell ⟨gb437,1,none⟩ (.int .u64 t433)).setCell ⟨gb437,2,none⟩ (.int .u64 t434)).setCell ⟨gb437,3,none⟩ (.int .u64 t435)) w.heap.size (fun k_ => ((P0_0_ k_ ∨ P1_0_ k_) ∨ w.heap.size ≤ k_) ∧ nB k_ Ao19 t419.length co19 ∧ nB k_ Ao47 t430.length co47 ∧ k_ ≠ gb412 ∧ k_ ≠ gb413 ∧ k_ ≠ gb426 ∧ k_ ≠ gb437) (.slice A0_0 l0_0.length c0_0) l0_0):=⟨by (with_reducible repeat (first|apply vA|apply vN|apply vD));exact aN (aU (p:=⟨gb437,3,none⟩) (aU (p:=⟨gb437,2,none⟩) (aU (p:=⟨gb437,1,none⟩) (aU (p:=⟨gb437,0,none⟩) (aN HO_413000.out (fun k_ hk => (⟨hk,hk.2⟩ : _ ∧ k_ ≠ gb437))) (fun _ hk => hk.2) (.slice Ao47 t430.length co47)) (fun _ hk => hk.2) (.int .u64 t433)) (fun _ hk => hk.2) (.int .u64 t434)) (fun _ hk => hk.2) (.int .u64 t435)) (fun _ hk => ⟨hk.1.1.1.1,⟨hk.1.1.1.2.1,⟨hk.1.1.2,⟨hk.1.1.1.2.2.1,⟨hk.1.1.1.2.2.2.1,⟨hk.1.1.1.2.2.2.2,hk.1.2⟩⟩⟩⟩⟩⟩)⟩
       have n1_ : Aside0 (Kd.V k62 62 ((((w46.setCell ⟨gb437,0,none⟩ (.slice Ao47 t430.length co47)).setCell ⟨gb437,1,none⟩ (.int .u64 t433)).setCell ⟨gb437,2,none⟩ (.int .u64 t434)).setCell ⟨gb437,3,none⟩ (.int .u64 t435)) w.heap.size (fun k_ => ((P0_0_ k_ ∨ P1_0_ k_) ∨ w.heap.size ≤ k_) ∧ nB k_ Ao19 t419.length co19 ∧ nB k_ Ao47 t430.length co47 ∧ k_ ≠ gb412 ∧ k_ ≠ gb413 ∧ k_ ≠ gb426 ∧ k_ ≠ gb437) (.slice A1_0 l1_0.length c1_0) l1_0):=⟨by (with_reducible repeat (first|apply vA|apply vN|apply vD));exact aN (aU (p:=⟨gb437,3,none⟩) (aU (p:=⟨gb437,2,none⟩) (aU (p:=⟨gb437,1,none⟩) (aU (p:=⟨gb437,0,none⟩) (aN HO_414000.out (fun k_ hk => (⟨hk,hk.2⟩ : _ ∧ k_ ≠ gb437))) (fun _ hk => hk.2) (.slice Ao47 t430.length co47)) (fun _ hk => hk.2) (.int .u64 t433)) (fun _ hk => hk.2) (.int .u64 t434)) (fun _ hk => hk.2) (.int .u64 t435)) (fun _ hk => ⟨hk.1.1.1.1,⟨hk.1.1.1.2.1,⟨hk.1.1.2,⟨hk.1.1.1.2.2.1,⟨hk.1.1.1.2.2.2.1,⟨hk.1.1.1.2.2.2.2,hk.1.2⟩⟩⟩⟩⟩⟩)⟩
       have n2_ : Aside0 (Kd.R k62 62 ((((w46.setCell ⟨gb437,0,none⟩ (.slice Ao47 t430.length co47)).setCell ⟨gb437,1,none⟩ (.int .u64 t433)).setCell ⟨gb437,2,none⟩ (.int .u64 t434)).setCell ⟨gb437,3,none⟩ (.int .u64 t435)) w.heap.size (fun k_ => (w.heap.size ≤ k_) ∧ nB k_ Ao47 t430.length co47) (.slice Ao19 t419.length co19) t419):=⟨by (with_reducible repeat (first|apply zA|apply zN|apply zD));exact aM (aY (p:=⟨gb437,3,none⟩) (aY (p:=⟨gb437,2,none⟩) (aY (p:=⟨gb437,1,none⟩) (aY (p:=⟨gb437,0,none⟩) (aP HO_427000.out B437.out (by decide)) (fun _ hk => hk.2) (.slice Ao47 t430.length co47)) (fun _ hk => hk.2) (.int .u64 t433)) (fun _ hk => hk.2) (.int .u64 t434)) (fun _ hk => hk.2) (.int .u64 t435)) (fun _ hk => ⟨hk.1.1,hk.1.2⟩)⟩
       have n3_ : Aside0 (Kd.R k62 62 ((((w46.setCell ⟨gb437,0,none⟩ (.slice Ao47 t430.length co47)).setCell ⟨gb437,1,none⟩ (.int .u64 t433)).setCell ⟨gb437,2,none⟩ (.int .u64 t434)).setCell ⟨gb437,3,none⟩ (.int .u64 t435)) w.heap.size (fun k_ => (w.heap.size ≤ k_) ∧ nB k_ Ao19 t419.length co19) (.slice Ao47 t430.length co47) t430):=⟨by (with_reducible repeat (first|apply zA|apply zN|apply zD));exact aM (aY (p:=⟨gb437,3,none⟩) (aY (p:=⟨gb437,2,none⟩) (aY (p:=⟨gb437,1,none⟩) (aY (p:=⟨gb437,0,none⟩) (aP O432.out B437.out (by decide)) (fun _ hk => hk.2) (.slice Ao47 t430.length co47)) (fun _ hk => hk.2) (.int .u64 t433)) (fun _ hk => hk.2) (.int .u64 t434)) (fun _ hk => hk.2) (.int .u64 t435)) (fun _ hk => ⟨hk.1.1.1,hk.1.2⟩)⟩
       have n4_ : Aside0 (((((w46.setCell ⟨gb437,0,none⟩ (.slice Ao47 t430.length co47)).setCell ⟨gb437,1,none⟩ (.int .u64 t433)).setCell ⟨gb437,2,none⟩ (.int .u64 t434)).setCell ⟨gb437,3,none⟩ (.int .u64 t435)).heap[gb412]? = some (.cells #[.slice A0_0 l0_0.length c0_0,.int .u64 a0_1,.int .u64 a0_2,.int .u64 a0_3] 54 (0,0))):=⟨by (with_reducible repeat (first|refine bN ?_ _|refine bD ?_|refine bA ?_ _));refine aX ?_ N412_437.out _;(with_reducible repeat (first|refine bN ?_ _|refine bD ?_|refine bA ?_ _));refine aX ?_ N412_437.out _;(with_reducible repeat (first|refine bN ?_ _|refine bD ?_|refine bA ?_ _));refine aX ?_ N412_437.out _;(with_reducible repeat (first|refine bN ?_ _|refine bD ?_|refine bA ?_ _));refine aX ?_ N412_437.out _;(with_reducible repeat (first|refine bN ?_ _|refine bD ?_|refine bA ?_ _));exact B412.out⟩
       have n5_ : Aside0 (((((w46.setCell ⟨gb437,0,none⟩ (.slice Ao47 t430.length co47)).setCell ⟨gb437,1,none⟩ (.int .u64 t433)).setCell ⟨gb437,2,none⟩ (.int .u64 t434)).setCell ⟨gb437,3,none⟩ (.int .u64 t435)).heap[gb413]? = some (.cells #[.slice A1_0 l1_0.length c1_0,.int .u64 a1_1,.int .u64 a1_2,.int .u64 a1_3] 54 (0,0))):=⟨by (with_reducible repeat (first|refine bN ?_ _|refine bD ?_|refine bA ?_ _));refine aX ?_ N413_437.out _;(with_reducible repeat (first|refine bN ?_ _|refine bD ?_|refine bA ?_ _));refine aX ?_ N413_437.out _;(with_reducible repeat (first|refine bN ?_ _|refine bD ?_|refine bA ?_ _));refine aX ?_ N413_437.out _;(with_reducible repeat (first|refine bN ?_ _|refine bD ?_|refine bA ?_ _));refine aX ?_ N413_437.out _;(with_reducible repeat (first|refine bN ?_ _|refine bD ?_|refine bA ?_ _));exact B413.out⟩
       have n6_ : Aside0 (((((w46.setCell ⟨gb437,0,none⟩ (.slice Ao47 t430.length co47)).setCell ⟨gb437,1,none⟩ (.int .u64 t433)).setCell ⟨gb437,2,none⟩ (.int .u64 t434)).setCell ⟨gb437,3,none⟩ (.int .u64 t435)).heap[gb426]? = some (.cells #[.slice Ao19 t419.length co19,.int .u64 t422,.int .u64 t423,.int .u64 t424] 57 (0,0))):=⟨by (with_reducible repeat (first|refine bN ?_ _|refine bD ?_|refine bA ?_ _));refine aX ?_ N426_437.out _;(with_reducible repeat (first|refine bN ?_ _|refine bD ?_|refine bA ?_ _));refine aX ?_ N426_437.out _;(with_reducible repeat (first|refine bN ?_ _|refine bD ?_|refine bA ?_ _));refine aX ?_ N426_437.out _;(with_reducible repeat (first|refine bN ?_ _|refine bD ?_|refine bA ?_ _));refine aX ?_ N426_437.out _;(with_reducible repeat (first|refine bN ?_ _|refine bD ?_|refine bA ?_ _));exact B426.out⟩
       have n7_ : Aside0 (((((w46.setCell ⟨gb437,0,none⟩ (.slice Ao47 t430.length co47)).setCell ⟨gb437,1,none⟩ (.int .u64 t433)).setCell ⟨gb437,2,none⟩ (.int .u64 t434)).setCell ⟨gb437,3,none⟩ (.int .u64 t435)).heap[gb437]? = some (.cells #[.slice Ao47 t430.length co47,.int .u64 t433,.int .u64 t434,.int .u64 t435] 57 (0,0))):=⟨by (with_reducible repeat (first|refine bN ?_ _|refine bD ?_|refine bA ?_ _));refine blk_put (cs:=#[.slice Ao47 t430.length co47,.int .u64 t433,.int .u64 t434,.int .u64 0]) ?_ 3 _ rfl;(with_reducible repeat (first|refine bN ?_ _|refine bD ?_|refine bA ?_ _));refine blk_put (cs:=#[.slice Ao47 t430.length co47,.int .u64 t433,.int .u64 0,.int .u64 0]) ?_ 2 _ rfl;(with_reducible repeat (first|refine bN ?_ _|refine bD ?_|refine bA ?_ _));refine blk_put (cs:=#[.slice Ao47 t430.length co47,.int .u64 0,.int .u64 0,.int .u64 0]) ?_ 1 _ rfl;(with_reducible repeat (first|refine bN ?_ _|refine bD ?_|refine bA ?_ _));refine blk_put (cs:=#[.slice none 0 0,.int .u64 0,.int .u64 0,.int .u64 0]) ?_ 0 _ rfl;(with_reducible repeat (first|refine bN ?_ _|refine bD ?_|refine bA ?_ _));exact B437.out⟩
       have n8_ : Aside0 (Below w.heap.size w ((((w46.setCell ⟨gb437,0,none⟩ (.slice Ao47 t430.length co47)).setCell ⟨gb437,1,none⟩ (.int .u64 t433)).setCell ⟨gb437,2,none⟩ (.int .u64 t434)).setCell ⟨gb437,3,none⟩ (.int .u64 t435))):=⟨by repeat (first|(with_reducible first|exact HB.out|apply aA|apply aW|apply aD|refine aS ?_ E412.out|refine aS ?_ E413.out|refine aS ?_ E426.out|refine aS ?_ E437.out)|exact HB.out)⟩
       (try clear HO_413000)
       (try clear HO_414000)
       (try clear HO_427000)
       (try clear O432)
       (try clear B412)
       (try clear B413)
       (try clear B426)
       (try clear B437)
       (try clear HB)
       generalize ((((w46.setCell ⟨gb437,0,none⟩ (.slice Ao47 t430.length co47)).setCell ⟨gb437,1,none⟩ (.int .u64 t433)).setCell ⟨gb437,2,none⟩ (.int .u64 t434)).setCell ⟨gb437,3,none⟩ (.int .u64 t435)) = w60 at n0_ n1_ n2_ n3_ n4_ n5_ n6_ n7_ n8_ ⊢
       have HO_413000:=n0_
       have HO_414000:=n1_
       have HO_427000:=n2_
       have O432:=n3_
       have B412:=n4_
       have B413:=n5_
       have B426:=n6_
       have B437:=n7_
       have HB:=n8_
       clear n0_ n1_ n2_ n3_ n4_ n5_ n6_ n7_ n8_
       have n0_:=aK (Kd.V_drew HO_413000.out)
       have n1_:=aK (Kd.V_drew HO_414000.out)
       have n2_:=aK (Kd.R_drew HO_427000.out)
       have n3_:=aK (Kd.R_drew O432.out)
       have n4_:=aK (blk_drew B412.out)
       have n5_:=aK (blk_drew B413.out)
       have n6_:=aK (blk_drew B426.out)
       have n7_:=aK (blk_drew B437.out)
       have n8_:=aK (aD HB.out)
       clear HO_413000
       clear HO_414000
       clear HO_427000
       clear O432
       clear B412
       clear B413
       clear B426
       clear B437
       clear HB
       have HO_413000:=n0_
       have HO_414000:=n1_
       have HO_427000:=n2_
       have O432:=n3_
       have B412:=n4_
       have B413:=n5_
       have B426:=n6_
       have B437:=n7_
       have HB:=n8_
       clear n0_ n1_ n2_ n3_ n4_ n5_ n6_ n7_ n8_
       refine start_ (n:=28) (S:=fun w' => w'.cell? ⟨gb426,0,none⟩ = some (.slice Ao19 t419.length co19) ∧ w'.cell? ⟨gb426,1,none⟩ = some (.int .u64 t422) ∧ w'.cell? ⟨gb426,2,none⟩ = some (.int .u64 t423) ∧ w'.cell? ⟨gb426,3,none⟩ = some (.int .u64 t424) ∧ w'.cell? ⟨gb413,0,none⟩ = some (.slice A1_0 l1_0.length c1_0) ∧ w'.cell? ⟨gb413,1,none⟩ = some (.int .u64 a1_1) ∧ w'.cell? ⟨gb413,2,none⟩ = some (.int .u64 a1_2) ∧ w'.cell? ⟨gb413,3,none⟩ = some (.int .u64 a1_3)) (ds:=[]) #[ff,ff,ff,ff,ff,ff,ff,ff,ff,ff,ff,ff,ff,ff,ff,ff,ff,ff,ff,ff,ff,ff,ff,ff,ff,ff,ff,ff] (by kernel_rfl) rfl rfl ⟨(aC B426.out 0).trans rfl,(aC B426.out 1).trans rfl,(aC B426.out 2).trans rfl,(aC B426.out 3).trans rfl,(aC B413.out 0).trans rfl,(aC B413.out 1).trans rfl,(aC B413.out 2).trans rfl,(aC B413.out 3).trans rfl⟩ (fun hHeld => ?_);refine with_tabW tab7 bits7 (fun HT_ HW_ => ?_)
       generalize w60.drew = w61 at HO_413000 HO_414000 HO_427000 O432 B412 B413 B426 B437 HB hHeld ⊢
       refine pure_ (i:=0) (N:=some 47) (v:=?_) (a':=?_) #[tt,ff,ff,ff,ff,ff,ff,ff,ff,ff,ff,ff,ff,ff,ff,ff,ff,ff,ff,ff,ff,ff,ff,ff,ff,ff,ff,ff] rfl rfl (any_of HT_.out (by kernel_rfl)) (fun _ _ _ h => h) (Or.inl ⟨by rfl,?_⟩) ?_ ?_
       rotate_left
       ·intro w'
        go_simp
        with_reducible rfl
       rotate_left
       ·simp only [Act.put,sA,sZ,sS,i64_w,i32_w]
        rfl
       refine take_ (i:=1) (N:=some 48) (v:=?_) (a':=?_) #[tt,tt,ff,ff,ff,ff,ff,ff,ff,ff,ff,ff,ff,ff,ff,ff,ff,ff,ff,ff,ff,ff,ff,ff,ff,ff,ff,ff] rfl rfl (take_ofW HT_.out HW_.out (by kernel_rfl)) (fun _ _ _ h => h) (Or.inl ⟨by rfl,?_⟩) hHeld ?_ ?_
       rotate_left
       ·rintro w' ⟨s0,s1,s2,s3,s4,s5,s6,s7⟩
        go_simp
        with_reducible rfl
       rotate_left
       ·simp only [Act.put,sA,sZ,sS,i64_w,i32_w]
        rfl
       refine pure_ (i:=2) (N:=some 49) (v:=?_) (a':=?_) #[tt,tt,tt,ff,ff,ff,ff,ff,ff,ff,ff,ff,ff,ff,ff,ff,ff,ff,ff,ff,ff,ff,ff,ff,ff,ff,ff,ff] rfl rfl (any_of HT_.out (by kernel_rfl)) (fun _ _ _ h => h) (Or.inl ⟨by rfl,?_⟩) ?_ ?_
       rotate_left
       ·intro w'
        go_simp
        with_reducible rfl
       rotate_left
       ·simp only [Act.put,sA,sZ,sS,i64_w,i32_w]
        rfl
       refine pure_ (i:=3) (N:=some 50) (v:=?_) (a':=?_) #[tt,tt,tt,tt,ff,ff,ff,ff,ff,ff,ff,ff,ff,ff,ff,ff,ff,ff,ff,ff,ff,ff,ff,ff,ff,ff,ff,ff] rfl rfl (any_of HT_.out (by kernel_rfl)) (fun _ _ _ h => h) (Or.inl ⟨by rfl,?_⟩) ?_ ?_
       rotate_left
       ·intro w'
        go_simp
        with_reducible rfl
       rotate_left
       ·simp only [Act.put,sA,sZ,sS,i64_w,i32_w]
        rfl
       refine pure_ (i:=4) (N:=some 51) (v:=?_) (a':=?_) #[tt,tt,tt,tt,tt,ff,ff,ff,ff,ff,ff,ff,ff,ff,ff,ff,ff,ff,ff,ff,ff,ff,ff,ff,ff,ff,ff,ff] rfl rfl (any_of HT_.out (by kernel_rfl)) (fun _ _ _ h => h) (Or.inl ⟨by rfl,?_⟩) ?_ ?_
       rotate_left
       ·intro w'
        go_simp
        with_reducible rfl
       rotate_left
       ·simp only [Act.put,sA,sZ,sS,i64_w,i32_w]
        rfl
       refine pure_ (i:=5) (N:=some 52) (v:=?_) (a':=?_) #[tt,tt,tt,tt,tt,tt,ff,ff,ff,ff,ff,ff,ff,ff,ff,ff,ff,ff,ff,ff,ff,ff,ff,ff,ff,ff,ff,ff] rfl rfl (any_of HT_.out (by kernel_rfl)) (fun _ _ _ h => h) (Or.inl ⟨by rfl,?_⟩) ?_ ?_
       rotate_left
       ·intro w'
        go_simp
        with_reducible rfl
       rotate_left
       ·simp only [Act.put,sA,sZ,sS,i64_w,i32_w]
        rfl
       refine take_ (i:=6) (N:=some 53) (v:=?_) (a':=?_) #[tt,tt,tt,tt,tt,tt,tt,ff,ff,ff,ff,ff,ff,ff,ff,ff,ff,ff,ff,ff,ff,ff,ff,ff,ff,ff,ff,ff] rfl rfl (take_ofW HT_.out HW_.out (by kernel_rfl)) (fun _ _ _ h => h) (Or.inl ⟨by rfl,?_⟩) hHeld ?_ ?_
       rotate_left
       ·rintro w' ⟨s0,s1,s2,s3,s4,s5,s6,s7⟩
        go_simp
        with_reducible rfl
       rotate_left
       ·simp only [Act.put,sA,sZ,sS,i64_w,i32_w]
        rfl
       refine pure_ (i:=7) (N:=some 54) (v:=?_) (a':=?_) #[tt,tt,tt,tt,tt,tt,tt,tt,ff,ff,ff,ff,ff,ff,ff,ff,ff,ff,ff,ff,ff,ff,ff,ff,ff,ff,ff,ff] rfl rfl (any_of HT_.out (by kernel_rfl)) (fun _ _ _ h => h) (Or.inl ⟨by rfl,?_⟩) ?_ ?_
       rotate_left
       ·intro w'
        go_simp
        with_reducible rfl
       rotate_left
       ·simp only [Act.put,sA,sZ,sS,i64_w,i32_w]
        rfl
       refine pure_ (i:=8) (N:=some 55) (v:=?_) (a':=?_) #[tt,tt,tt,tt,tt,tt,tt,tt,tt,ff,ff,ff,ff,ff,ff,ff,ff,ff,ff,ff,ff,ff,ff,ff,ff,ff,ff,ff] rfl rfl (any_of HT_.out (by kernel_rfl)) (fun _ _ _ h => h) (Or.inl ⟨by rfl,?_⟩) ?_ ?_
       rotate_left
       ·intro w'
        go_simp
        with_reducible rfl
       rotate_left
       ·simp only [Act.put,sA,sZ,sS,i64_w,i32_w]
        rfl
       refine pure_ (i:=9) (N:=some 56) (v:=?_) (a':=?_) #[tt,tt,tt,tt,tt,tt,tt,tt,tt,tt,ff,ff,ff,ff,ff,ff,ff,ff,ff,ff,ff,ff,ff,ff,ff,ff,ff,ff] rfl rfl (any_of HT_.out (by kernel_rfl)) (fun _ _ _ h => h) (Or.inl ⟨by rfl,?_⟩) ?_ ?_
       rotate_left
       ·intro w'
        go_simp
        with_reducible rfl
       rotate_left
       ·simp only [Act.put,sA,sZ,sS,i64_w,i32_w]
        rfl
       refine pure_ (i:=10) (N:=some 57) (v:=?_) (a':=?_) #[tt,tt,tt,tt,tt,tt,tt,tt,tt,tt,tt,ff,ff,ff,ff,ff,ff,ff,ff,ff,ff,ff,ff,ff,ff,ff,ff,ff] rfl rfl (any_of HT_.out (by kernel_rfl)) (fun _ _ _ h => h) (Or.inl ⟨by rfl,?_⟩) ?_ ?_
       rotate_left
       ·intro w'
        go_simp
        with_reducible rfl
       rotate_left
       ·simp only [Act.put,sA,sZ,sS,i64_w,i32_w]
        rfl
       refine pure_ (i:=11) (N:=some 58) (v:=undef) (a':=?_) #[tt,tt,tt,tt,tt,tt,tt,tt,tt,tt,tt,tt,ff,ff,ff,ff,ff,ff,ff,ff,ff,ff,ff,ff,ff,ff,ff,ff] rfl rfl (any_of HT_.out (by kernel_rfl)) (fun _ _ _ h => h) (Or.inr ⟨by rfl,rfl⟩) ?_ ?_
       rotate_left
       ·simp only [Act.put,sA,sZ,sS,i64_w,i32_w]
        rfl
       refine pure_ (i:=12) (N:=some 59) (v:=undef) (a':=?_) #[tt,tt,tt,tt,tt,tt,tt,tt,tt,tt,tt,tt,tt,ff,ff,ff,ff,ff,ff,ff,ff,ff,ff,ff,ff,ff,ff,ff] rfl rfl (any_of HT_.out (by kernel_rfl)) (fun _ _ _ h => h) (Or.inr ⟨by rfl,rfl⟩) ?_ ?_
       rotate_left
       ·simp only [Act.put,sA,sZ,sS,i64_w,i32_w]
        rfl
       refine pure_ (i:=13) (N:=some 60) (v:=undef) (a':=?_) #[tt,tt,tt,tt,tt,tt,tt,tt,tt,tt,tt,tt,tt,tt,ff,ff,ff,ff,ff,ff,ff,ff,ff,ff,ff,ff,ff,ff] rfl rfl (any_of HT_.out (by kernel_rfl)) (fun _ _ _ h => h) (Or.inr ⟨by rfl,rfl⟩) ?_ ?_
       rotate_left
       ·simp only [Act.put,sA,sZ,sS,i64_w,i32_w]
        rfl
       refine pure_ (i:=14) (N:=some 61) (v:=undef) (a':=?_) #[tt,tt,tt,tt,tt,tt,tt,tt,tt,tt,tt,tt,tt,tt,tt,ff,ff,ff,ff,ff,ff,ff,ff,ff,ff,ff,ff,ff] rfl rfl (any_of HT_.out (by kernel_rfl)) (fun _ _ _ h => h) (Or.inr ⟨by rfl,rfl⟩) ?_ ?_
       rotate_left
       ·simp only [Act.put,sA,sZ,sS,i64_w,i32_w]
        rfl
       refine pure_ (i:=15) (N:=some 62) (v:=undef) (a':=?_) #[tt,tt,tt,tt,tt,tt,tt,tt,tt,tt,tt,tt,tt,tt,tt,tt,ff,ff,ff,ff,ff,ff,ff,ff,ff,ff,ff,ff] rfl rfl (any_of HT_.out (by kernel_rfl)) (fun _ _ _ h => h) (Or.inr ⟨by rfl,rfl⟩) ?_ ?_
       rotate_left
       ·simp only [Act.put,sA,sZ,sS,i64_w,i32_w]
        rfl
       refine pure_ (i:=16) (N:=some 63) (v:=undef) (a':=?_) #[tt,tt,tt,tt,tt,tt,tt,tt,tt,tt,tt,tt,tt,tt,tt,tt,tt,ff,ff,ff,ff,ff,ff,ff,ff,ff,ff,ff] rfl rfl (any_of HT_.out (by kernel_rfl)) (fun _ _ _ h => h) (Or.inr ⟨by rfl,rfl⟩) ?_ ?_
       rotate_left
       ·simp only [Act.put,sA,sZ,sS,i64_w,i32_w]
        rfl
       refine pure_ (i:=17) (N:=some 64) (v:=undef) (a':=?_) #[tt,tt,tt,tt,tt,tt,tt,tt,tt,tt,tt,tt,tt,tt,tt,tt,tt,tt,ff,ff,ff,ff,ff,ff,ff,ff,ff,ff] rfl rfl (any_of HT_.out (by kernel_rfl)) (fun _ _ _ h => h) (Or.inr ⟨by rfl,rfl⟩) ?_ ?_
       rotate_left
       ·simp only [Act.put,sA,sZ,sS,i64_w,i32_w]
        rfl
       refine pure_ (i:=18) (N:=some 65) (v:=undef) (a':=?_) #[tt,tt,tt,tt,tt,tt,tt,tt,tt,tt,tt,tt,tt,tt,tt,tt,tt,tt,tt,ff,ff,ff,ff,ff,ff,ff,ff,ff] rfl rfl (any_of HT_.out (by kernel_rfl)) (fun _ _ _ h => h) (Or.inr ⟨by rfl,rfl⟩) ?_ ?_
       rotate_left
       ·simp only [Act.put,sA,sZ,sS,i64_w,i32_w]
        rfl
       refine pure_ (i:=19) (N:=some 66) (v:=undef) (a':=?_) #[tt,tt,tt,tt,tt,tt,tt,tt,tt,tt,tt,tt,tt,tt,tt,tt,tt,tt,tt,tt,ff,ff,ff,ff,ff,ff,ff,ff] rfl rfl (any_of HT_.out (by kernel_rfl)) (fun _ _ _ h => h) (Or.inr ⟨by rfl,rfl⟩) ?_ ?_
       rotate_left
       ·simp only [Act.put,sA,sZ,sS,i64_w,i32_w]
        rfl
       refine pure_ (i:=20) (N:=some 67) (v:=undef) (a':=?_) #[tt,tt,tt,tt,tt,tt,tt,tt,tt,tt,tt,tt,tt,tt,tt,tt,tt,tt,tt,tt,tt,ff,ff,ff,ff,ff,ff,ff] rfl rfl (any_of HT_.out (by kernel_rfl)) (fun _ _ _ h => h) (Or.inr ⟨by rfl,rfl⟩) ?_ ?_
       rotate_left
       ·simp only [Act.put,sA,sZ,sS,i64_w,i32_w]
        rfl
       refine pure_ (i:=21) (N:=some 68) (v:=undef) (a':=?_) #[tt,tt,tt,tt,tt,tt,tt,tt,tt,tt,tt,tt,tt,tt,tt,tt,tt,tt,tt,tt,tt,tt,ff,ff,ff,ff,ff,ff] rfl rfl (any_of HT_.out (by kernel_rfl)) (fun _ _ _ h => h) (Or.inr ⟨by rfl,rfl⟩) ?_ ?_
       rotate_left
       ·simp only [Act.put,sA,sZ,sS,i64_w,i32_w]
        rfl
       refine pure_ (i:=22) (N:=some 69) (v:=undef) (a':=?_) #[tt,tt,tt,tt,tt,tt,tt,tt,tt,tt,tt,tt,tt,tt,tt,tt,tt,tt,tt,tt,tt,tt,tt,ff,ff,ff,ff,ff] rfl rfl (any_of HT_.out (by kernel_rfl)) (fun _ _ _ h => h) (Or.inr ⟨by rfl,rfl⟩) ?_ ?_
       rotate_left
       ·simp only [Act.put,sA,sZ,sS,i64_w,i32_w]
        rfl
       refine pure_ (i:=23) (N:=some 70) (v:=undef) (a':=?_) #[tt,tt,tt,tt,tt,tt,tt,tt,tt,tt,tt,tt,tt,tt,tt,tt,tt,tt,tt,tt,tt,tt,tt,tt,ff,ff,ff,ff] rfl rfl (any_of HT_.out (by kernel_rfl)) (fun _ _ _ h => h) (Or.inr ⟨by rfl,rfl⟩) ?_ ?_
       rotate_left
       ·simp only [Act.put,sA,sZ,sS,i64_w,i32_w]
        rfl
       refine pure_ (i:=24) (N:=some 71) (v:=undef) (a':=?_) #[tt,tt,tt,tt,tt,tt,tt,tt,tt,tt,tt,tt,tt,tt,tt,tt,tt,tt,tt,tt,tt,tt,tt,tt,tt,ff,ff,ff] rfl rfl (any_of HT_.out (by kernel_rfl)) (fun _ _ _ h => h) (Or.inr ⟨by rfl,rfl⟩) ?_ ?_
       rotate_left
       ·simp only [Act.put,sA,sZ,sS,i64_w,i32_w]
        rfl
       refine pure_ (i:=25) (N:=some 72) (v:=undef) (a':=?_) #[tt,tt,tt,tt,tt,tt,tt,tt,tt,tt,tt,tt,tt,tt,tt,tt,tt,tt,tt,tt,tt,tt,tt,tt,tt,tt,ff,ff] rfl rfl (any_of HT_.out (by kernel_rfl)) (fun _ _ _ h => h) (Or.inr ⟨by rfl,rfl⟩) ?_ ?_
       rotate_left
       ·simp only [Act.put,sA,sZ,sS,i64_w,i32_w]
        rfl
       refine pure_ (i:=26) (N:=some 73) (v:=?_) (a':=?_) #[tt,tt,tt,tt,tt,tt,tt,tt,tt,tt,tt,tt,tt,tt,tt,tt,tt,tt,tt,tt,tt,tt,tt,tt,tt,tt,tt,ff] rfl rfl (any_of HT_.out (by kernel_rfl)) (fun _ _ _ h => h) (Or.inl ⟨by rfl,?_⟩) ?_ ?_
       rotate_left
       ·intro w'
        go_simp
        with_reducible rfl
       rotate_left
       ·simp only [Act.put,sA,sZ,sS,i64_w,i32_w]
        rfl
       refine pure_ (i:=27) (N:=some 9) (v:=?_) (a':=?_) #[tt,tt,tt,tt,tt,tt,tt,tt,tt,tt,tt,tt,tt,tt,tt,tt,tt,tt,tt,tt,tt,tt,tt,tt,tt,tt,tt,tt] rfl rfl (any_of HT_.out (by kernel_rfl)) (fun _ _ _ h => h) (Or.inl ⟨by rfl,?_⟩) ?_ ?_
       rotate_left
       ·intro w'
        go_simp
        with_reducible rfl
       rotate_left
       ·simp only [Act.put,sA,sZ,sS,i64_w,i32_w]
        rfl
       refine done_ (done_of HT_.out (by kernel_rfl)) ?_
       try go_wp2
       go_meet
       case rel => exact ⟨_,(false),(by first|rfl|(simp;done)|(simp [*];done)),H',⟨by have:=HJ5.out;first|omega|exact Nat.le_refl _⟩,⟨by (with_reducible repeat (first|apply vA|apply vN|apply vD));exact HO_413000.out⟩,⟨by (with_reducible repeat (first|apply vA|apply vN|apply vD));exact HO_414000.out⟩,⟨by (with_reducible repeat (first|apply zA|apply zN|apply zD));exact HO_427000.out⟩,⟨by (with_reducible repeat (first|apply zA|apply zN|apply zD));exact O432.out⟩,⟨by (with_reducible repeat (first|refine bN ?_ _|refine bD ?_|refine bA ?_ _));exact B412.out⟩,⟨by (with_reducible repeat (first|refine bN ?_ _|refine bD ?_|refine bA ?_ _));exact B413.out⟩,⟨by (with_reducible repeat (first|refine bN ?_ _|refine bD ?_|refine bA ?_ _));exact B426.out⟩,⟨by (with_reducible repeat (first|refine bN ?_ _|refine bD ?_|refine bA ?_ _));exact B437.out⟩,⟨by repeat (first|(with_reducible first|exact HB.out|apply aA|apply aW|apply aD|refine aS ?_ E412.out|refine aS ?_ E413.out|refine aS ?_ E426.out|refine aS ?_ E437.out)|exact HB.out)⟩⟩
     ·rw [if_neg c52] at H
      have c52b0 : decide (0 < (t419.length : Int)) = false:=decide_eq_false c52
      have c52b1 : decide (0 < t419.length) = false:=decide_eq_false (by omega)
      clear c52
      (first|rw [c52b0]|(simp only [i64_w,i32_w];rw [c52b0])|skip)
      have H':=aK H
      clear H
      try go_wp2
      have n0_ : Aside0 (Kd.V k62 62 ((((w46.setCell ⟨gb437,0,none⟩ (.slice Ao47 t430.length co47)).setCell ⟨gb437,1,none⟩ (.int .u64 t433)).setCell ⟨gb437,2,none⟩ (.int .u64 t434)).setCell ⟨gb437,3,none⟩ (.int .u64 t435)) w.heap.size (fun k_ => ((P0_0_ k_ ∨ P1_0_ k_) ∨ w.heap.size ≤ k_) ∧ nB k_ Ao19 t419.length co19 ∧ nB k_ Ao47 t430.length co47 ∧ k_ ≠ gb412 ∧ k_ ≠ gb413 ∧ k_ ≠ gb426 ∧ k_ ≠ gb437) (.slice A0_0 l0_0.length c0_0) l0_0):=⟨by (with_reducible repeat (first|apply vA|apply vN|apply vD));exact aN (aU (p:=⟨gb437,3,none⟩) (aU (p:=⟨gb437,2,none⟩) (aU (p:=⟨gb437,1,none⟩) (aU (p:=⟨gb437,0,none⟩) (aN HO_413000.out (fun k_ hk => (⟨hk,hk.2⟩ : _ ∧ k_ ≠ gb437))) (fun _ hk => hk.2) (.slice Ao47 t430.length co47)) (fun _ hk => hk.2) (.int .u64 t433)) (fun _ hk => hk.2) (.int .u64 t434)) (fun _ hk => hk.2) (.int .u64 t435)) (fun _ hk => ⟨hk.1.1.1.1,⟨hk.1.1.1.2.1,⟨hk.1.1.2,⟨hk.1.1.1.2.2.1,⟨hk.1.1.1.2.2.2.1,⟨hk.1.1.1.2.2.2.2,hk.1.2⟩⟩⟩⟩⟩⟩)⟩
      have n1_ : Aside0 (Kd.V k62 62 ((((w46.setCell ⟨gb437,0,none⟩ (.slice Ao47 t430.length co47)).setCell ⟨gb437,1,none⟩ (.int .u64 t433)).setCell ⟨gb437,2,none⟩ (.int .u64 t434)).setCell ⟨gb437,3,none⟩ (.int .u64 t435)) w.heap.size (fun k_ => ((P0_0_ k_ ∨ P1_0_ k_) ∨ w.heap.size ≤ k_) ∧ nB k_ Ao19 t419.length co19 ∧ nB k_ Ao47 t430.length co47 ∧ k_ ≠ gb412 ∧ k_ ≠ gb413 ∧ k_ ≠ gb426 ∧ k_ ≠ gb437) (.slice A1_0 l1_0.length c1_0) l1_0):=⟨by (with_reducible repeat (first|apply vA|apply vN|apply vD));exact aN (aU (p:=⟨gb437,3,none⟩) (aU (p:=⟨gb437,2,none⟩) (aU (p:=⟨gb437,1,none⟩) (aU (p:=⟨gb437,0,none⟩) (aN HO_414000.out (fun k_ hk => (⟨hk,hk.2⟩ : _ ∧ k_ ≠ gb437))) (fun _ hk => hk.2) (.slice Ao47 t430.length co47)) (fun _ hk => hk.2) (.int .u64 t433)) (fun _ hk => hk.2) (.int .u64 t434)) (fun _ hk => hk.2) (.int .u64 t435)) (fun _ hk => ⟨hk.1.1.1.1,⟨hk.1.1.1.2.1,⟨hk.1.1.2,⟨hk.1.1.1.2.2.1,⟨hk.1.1.1.2.2.2.1,⟨hk.1.1.1.2.2.2.2,hk.1.2⟩⟩⟩⟩⟩⟩)⟩
      have n2_ : Aside0 (Kd.R k62 62 ((((w46.setCell ⟨gb437,0,none⟩ (.slice Ao47 t430.length co47)).setCell ⟨gb437,1,none⟩ (.int .u64 t433)).setCell ⟨gb437,2,none⟩ (.int .u64 t434)).setCell ⟨gb437,3,none⟩ (.int .u64 t435)) w.heap.size (fun k_ => (w.heap.size ≤ k_) ∧ nB k_ Ao47 t430.length co47) (.slice Ao19 t419.length co19) t419):=⟨by (with_reducible repeat (first|apply zA|apply zN|apply zD));exact aM (aY (p:=⟨gb437,3,none⟩) (aY (p:=⟨gb437,2,none⟩) (aY (p:=⟨gb437,1,none⟩) (aY (p:=⟨gb437,0,none⟩) (aP HO_427000.out B437.out (by decide)) (fun _ hk => hk.2) (.slice Ao47 t430.length co47)) (fun _ hk => hk.2) (.int .u64 t433)) (fun _ hk => hk.2) (.int .u64 t434)) (fun _ hk => hk.2) (.int .u64 t435)) (fun _ hk => ⟨hk.1.1,hk.1.2⟩)⟩
      have n3_ : Aside0 (Kd.R k62 62 ((((w46.setCell ⟨gb437,0,none⟩ (.slice Ao47 t430.length co47)).setCell ⟨gb437,1,none⟩ (.int .u64 t433)).setCell ⟨gb437,2,none⟩ (.int .u64 t434)).setCell ⟨gb437,3,none⟩ (.int .u64 t435)) w.heap.size (fun k_ => (w.heap.size ≤ k_) ∧ nB k_ Ao19 t419.length co19) (.slice Ao47 t430.length co47) t430):=⟨by (with_reducible repeat (first|apply zA|apply zN|apply zD));exact aM (aY (p:=⟨gb437,3,none⟩) (aY (p:=⟨gb437,2,none⟩) (aY (p:=⟨gb437,1,none⟩) (aY (p:=⟨gb437,0,none⟩) (aP O432.out B437.out (by decide)) (fun _ hk => hk.2) (.slice Ao47 t430.length co47)) (fun _ hk => hk.2) (.int .u64 t433)) (fun _ hk => hk.2) (.int .u64 t434)) (fun _ hk => hk.2) (.int .u64 t435)) (fun _ hk => ⟨hk.1.1.1,hk.1.2⟩)⟩
      have n4_ : Aside0 (((((w46.setCell ⟨gb437,0,none⟩ (.slice Ao47 t430.length co47)).setCell ⟨gb437,1,none⟩ (.int .u64 t433)).setCell ⟨gb437,2,none⟩ (.int .u64 t434)).setCell ⟨gb437,3,none⟩ (.int .u64 t435)).heap[gb412]? = some (.cells #[.slice A0_0 l0_0.length c0_0,.int .u64 a0_1,.int .u64 a0_2,.int .u64 a0_3] 54 (0,0))):=⟨by (with_reducible repeat (first|refine bN ?_ _|refine bD ?_|refine bA ?_ _));refine aX ?_ N412_437.out _;(with_reducible repeat (first|refine bN ?_ _|refine bD ?_|refine bA ?_ _));refine aX ?_ N412_437.out _;(with_reducible repeat (first|refine bN ?_ _|refine bD ?_|refine bA ?_ _));refine aX ?_ N412_437.out _;(with_reducible repeat (first|refine bN ?_ _|refine bD ?_|refine bA ?_ _));refine aX ?_ N412_437.out _;(with_reducible repeat (first|refine bN ?_ _|refine bD ?_|refine bA ?_ _));exact B412.out⟩
      have n5_ : Aside0 (((((w46.setCell ⟨gb437,0,none⟩ (.slice Ao47 t430.length co47)).setCell ⟨gb437,1,none⟩ (.int .u64 t433)).setCell ⟨gb437,2,none⟩ (.int .u64 t434)).setCell ⟨gb437,3,none⟩ (.int .u64 t435)).heap[gb413]? = some (.cells #[.slice A1_0 l1_0.length c1_0,.int .u64 a1_1,.int .u64 a1_2,.int .u64 a1_3] 54 (0,0))):=⟨by (with_reducible repeat (first|refine bN ?_ _|refine bD ?_|refine bA ?_ _));refine aX ?_ N413_437.out _;(with_reducible repeat (first|refine bN ?_ _|refine bD ?_|refine bA ?_ _));refine aX ?_ N413_437.out _;(with_reducible repeat (first|refine bN ?_ _|refine bD ?_|refine bA ?_ _));refine aX ?_ N413_437.out _;(with_reducible repeat (first|refine bN ?_ _|refine bD ?_|refine bA ?_ _));refine aX ?_ N413_437.out _;(with_reducible repeat (first|refine bN ?_ _|refine bD ?_|refine bA ?_ _));exact B413.out⟩
      have n6_ : Aside0 (((((w46.setCell ⟨gb437,0,none⟩ (.slice Ao47 t430.length co47)).setCell ⟨gb437,1,none⟩ (.int .u64 t433)).setCell ⟨gb437,2,none⟩ (.int .u64 t434)).setCell ⟨gb437,3,none⟩ (.int .u64 t435)).heap[gb426]? = some (.cells #[.slice Ao19 t419.length co19,.int .u64 t422,.int .u64 t423,.int .u64 t424] 57 (0,0))):=⟨by (with_reducible repeat (first|refine bN ?_ _|refine bD ?_|refine bA ?_ _));refine aX ?_ N426_437.out _;(with_reducible repeat (first|refine bN ?_ _|refine bD ?_|refine bA ?_ _));refine aX ?_ N426_437.out _;(with_reducible repeat (first|refine bN ?_ _|refine bD ?_|refine bA ?_ _));refine aX ?_ N426_437.out _;(with_reducible repeat (first|refine bN ?_ _|refine bD ?_|refine bA ?_ _));refine aX ?_ N426_437.out _;(with_reducible repeat (first|refine bN ?_ _|refine bD ?_|refine bA ?_ _));exact B426.out⟩
      have n7_ : Aside0 (((((w46.setCell ⟨gb437,0,none⟩ (.slice Ao47 t430.length co47)).setCell ⟨gb437,1,none⟩ (.int .u64 t433)).setCell ⟨gb437,2,none⟩ (.int .u64 t434)).setCell ⟨gb437,3,none⟩ (.int .u64 t435)).heap[gb437]? = some (.cells #[.slice Ao47 t430.length co47,.int .u64 t433,.int .u64 t434,.int .u64 t435] 57 (0,0))):=⟨by (with_reducible repeat (first|refine bN ?_ _|refine bD ?_|refine bA ?_ _));refine blk_put (cs:=#[.slice Ao47 t430.length co47,.int .u64 t433,.int .u64 t434,.int .u64 0]) ?_ 3 _ rfl;(with_reducible repeat (first|refine bN ?_ _|refine bD ?_|refine bA ?_ _));refine blk_put (cs:=#[.slice Ao47 t430.length co47,.int .u64 t433,.int .u64 0,.int .u64 0]) ?_ 2 _ rfl;(with_reducible repeat (first|refine bN ?_ _|refine bD ?_|refine bA ?_ _));refine blk_put (cs:=#[.slice Ao47 t430.length co47,.int .u64 0,.int .u64 0,.int .u64 0]) ?_ 1 _ rfl;(with_reducible repeat (first|refine bN ?_ _|refine bD ?_|refine bA ?_ _));refine blk_put (cs:=#[.slice none 0 0,.int .u64 0,.int .u64 0,.int .u64 0]) ?_ 0 _ rfl;(with_reducible repeat (first|refine bN ?_ _|refine bD ?_|refine bA ?_ _));exact B437.out⟩
      have n8_ : Aside0 (Below w.heap.size w ((((w46.setCell ⟨gb437,0,none⟩ (.slice Ao47 t430.length co47)).setCell ⟨gb437,1,none⟩ (.int .u64 t433)).setCell ⟨gb437,2,none⟩ (.int .u64 t434)).setCell ⟨gb437,3,none⟩ (.int .u64 t435))):=⟨by repeat (first|(with_reducible first|exact HB.out|apply aA|apply aW|apply aD|refine aS ?_ E412.out|refine aS ?_ E413.out|refine aS ?_ E426.out|refine aS ?_ E437.out)|exact HB.out)⟩
      (try clear HO_413000)
      (try clear HO_414000)
      (try clear HO_427000)
      (try clear O432)
      (try clear B412)
      (try clear B413)
      (try clear B426)
      (try clear B437)
      (try clear HB)
      generalize ((((w46.setCell ⟨gb437,0,none⟩ (.slice Ao47 t430.length co47)).setCell ⟨gb437,1,none⟩ (.int .u64 t433)).setCell ⟨gb437,2,none⟩ (.int .u64 t434)).setCell ⟨gb437,3,none⟩ (.int .u64 t435)) = w62 at n0_ n1_ n2_ n3_ n4_ n5_ n6_ n7_ n8_ ⊢
      have HO_413000:=n0_
      have HO_414000:=n1_
      have HO_427000:=n2_
      have O432:=n3_
      have B412:=n4_
      have B413:=n5_
      have B426:=n6_
      have B437:=n7_
      have HB:=n8_
      clear n0_ n1_ n2_ n3_ n4_ n5_ n6_ n7_ n8_
      have n0_:=aK (Kd.V_drew HO_413000.out)
      have n1_:=aK (Kd.V_drew HO_414000.out)
      have n2_:=aK (Kd.R_drew HO_427000.out)
      have n3_:=aK (Kd.R_drew O432.out)
      have n4_:=aK (blk_drew B412.out)
      have n5_:=aK (blk_drew B413.out)
      have n6_:=aK (blk_drew B426.out)
      have n7_:=aK (blk_drew B437.out)
      have n8_:=aK (aD HB.out)
      clear HO_413000
      clear HO_414000
      clear HO_427000
      clear O432
      clear B412
      clear B413
      clear B426
      clear B437
      clear HB
      have HO_413000:=n0_
      have HO_414000:=n1_
      have HO_427000:=n2_
      have O432:=n3_
      have B412:=n4_
      have B413:=n5_
      have B426:=n6_
      have B437:=n7_
      have HB:=n8_
      clear n0_ n1_ n2_ n3_ n4_ n5_ n6_ n7_ n8_
      refine start_ (n:=28) (S:=fun w' => w'.cell? ⟨gb426,0,none⟩ = some (.slice Ao19 t419.length co19) ∧ w'.cell? ⟨gb426,1,none⟩ = some (.int .u64 t422) ∧ w'.cell? ⟨gb426,2,none⟩ = some (.int .u64 t423) ∧ w'.cell? ⟨gb426,3,none⟩ = some (.int .u64 t424)) (ds:=[]) #[ff,ff,ff,ff,ff,ff,ff,ff,ff,ff,ff,ff,ff,ff,ff,ff,ff,ff,ff,ff,ff,ff,ff,ff,ff,ff,ff,ff] (by kernel_rfl) rfl rfl ⟨(aC B426.out 0).trans rfl,(aC B426.out 1).trans rfl,(aC B426.out 2).trans rfl,(aC B426.out 3).trans rfl⟩ (fun hHeld => ?_);refine with_tabW tab7 bits7 (fun HT_ HW_ => ?_)
      generalize w62.drew = w63 at HO_413000 HO_414000 HO_427000 O432 B412 B413 B426 B437 HB hHeld ⊢
      refine pure_ (i:=0) (N:=some 47) (v:=?_) (a':=?_) #[tt,ff,ff,ff,ff,ff,ff,ff,ff,ff,ff,ff,ff,ff,ff,ff,ff,ff,ff,ff,ff,ff,ff,ff,ff,ff,ff,ff] rfl rfl (any_of HT_.out (by kernel_rfl)) (fun _ _ _ h => h) (Or.inl ⟨by rfl,?_⟩) ?_ ?_
      rotate_left
      ·intro w'
       go_simp
       with_reducible rfl
      rotate_left
      ·simp only [Act.put,sA,sZ,sS,i64_w,i32_w]
       rfl
      refine take_ (i:=1) (N:=some 48) (v:=?_) (a':=?_) #[tt,tt,ff,ff,ff,ff,ff,ff,ff,ff,ff,ff,ff,ff,ff,ff,ff,ff,ff,ff,ff,ff,ff,ff,ff,ff,ff,ff] rfl rfl (take_ofW HT_.out HW_.out (by kernel_rfl)) (fun _ _ _ h => h) (Or.inl ⟨by rfl,?_⟩) hHeld ?_ ?_
      rotate_left
      ·rintro w' ⟨s0,s1,s2,s3⟩
       go_simp
       with_reducible rfl
      rotate_left
      ·simp only [Act.put,sA,sZ,sS,i64_w,i32_w]
       rfl
      refine pure_ (i:=2) (N:=some 49) (v:=?_) (a':=?_) #[tt,tt,tt,ff,ff,ff,ff,ff,ff,ff,ff,ff,ff,ff,ff,ff,ff,ff,ff,ff,ff,ff,ff,ff,ff,ff,ff,ff] rfl rfl (any_of HT_.out (by kernel_rfl)) (fun _ _ _ h => h) (Or.inl ⟨by rfl,?_⟩) ?_ ?_
      rotate_left
      ·intro w'
       go_simp
       with_reducible rfl
      rotate_left
      ·simp only [Act.put,sA,sZ,sS,i64_w,i32_w]
       rfl
      refine pure_ (i:=3) (N:=some 50) (v:=?_) (a':=?_) #[tt,tt,tt,tt,ff,ff,ff,ff,ff,ff,ff,ff,ff,ff,ff,ff,ff,ff,ff,ff,ff,ff,ff,ff,ff,ff,ff,ff] rfl rfl (any_of HT_.out (by kernel_rfl)) (fun _ _ _ h => h) (Or.inl ⟨by rfl,?_⟩) ?_ ?_
      rotate_left
      ·intro w'
       go_simp
       with_reducible rfl
      rotate_left
      ·simp only [Act.put,sA,sZ,sS,i64_w,i32_w]
       rfl
      refine pure_ (i:=4) (N:=some 51) (v:=?_) (a':=?_) #[tt,tt,tt,tt,tt,ff,ff,ff,ff,ff,ff,ff,ff,ff,ff,ff,ff,ff,ff,ff,ff,ff,ff,ff,ff,ff,ff,ff] rfl rfl (any_of HT_.out (by kernel_rfl)) (fun _ _ _ h => h) (Or.inl ⟨by rfl,?_⟩) ?_ ?_
      rotate_left
      ·intro w'
       go_simp
       with_reducible rfl
      rotate_left
      ·simp only [Act.put,sA,sZ,sS,i64_w,i32_w]
       rfl
      refine pure_ (i:=5) (N:=some 52) (v:=undef) (a':=?_) #[tt,tt,tt,tt,tt,tt,ff,ff,ff,ff,ff,ff,ff,ff,ff,ff,ff,ff,ff,ff,ff,ff,ff,ff,ff,ff,ff,ff] rfl rfl (any_of HT_.out (by kernel_rfl)) (fun _ _ _ h => h) (Or.inr ⟨by rfl,rfl⟩) ?_ ?_
      rotate_left
      ·simp only [Act.put,sA,sZ,sS,i64_w,i32_w]
       rfl
      refine pure_ (i:=6) (N:=some 53) (v:=undef) (a':=?_) #[tt,tt,tt,tt,tt,tt,tt,ff,ff,ff,ff,ff,ff,ff,ff,ff,ff,ff,ff,ff,ff,ff,ff,ff,ff,ff,ff,ff] rfl rfl (any_of HT_.out (by kernel_rfl)) (fun _ _ _ h => h) (Or.inr ⟨by rfl,rfl⟩) ?_ ?_
      rotate_left
      ·simp only [Act.put,sA,sZ,sS,i64_w,i32_w]
       rfl
      refine pure_ (i:=7) (N:=some 54) (v:=undef) (a':=?_) #[tt,tt,tt,tt,tt,tt,tt,tt,ff,ff,ff,ff,ff,ff,ff,ff,ff,ff,ff,ff,ff,ff,ff,ff,ff,ff,ff,ff] rfl rfl (any_of HT_.out (by kernel_rfl)) (fun _ _ _ h => h) (Or.inr ⟨by rfl,rfl⟩) ?_ ?_
      rotate_left
      ·simp only [Act.put,sA,sZ,sS,i64_w,i32_w]
       rfl
      refine pure_ (i:=8) (N:=some 55) (v:=undef) (a':=?_) #[tt,tt,tt,tt,tt,tt,tt,tt,tt,ff,ff,ff,ff,ff,ff,ff,ff,ff,ff,ff,ff,ff,ff,ff,ff,ff,ff,ff] rfl rfl (any_of HT_.out (by kernel_rfl)) (fun _ _ _ h => h) (Or.inr ⟨by rfl,rfl⟩) ?_ ?_
      rotate_left
      ·simp only [Act.put,sA,sZ,sS,i64_w,i32_w]
       rfl
      refine pure_ (i:=9) (N:=some 56) (v:=?_) (a':=?_) #[tt,tt,tt,tt,tt,tt,tt,tt,tt,tt,ff,ff,ff,ff,ff,ff,ff,ff,ff,ff,ff,ff,ff,ff,ff,ff,ff,ff] rfl rfl (any_of HT_.out (by kernel_rfl)) (fun _ _ _ h => h) (Or.inl ⟨by rfl,?_⟩) ?_ ?_
      rotate_left
      ·intro w'
       go_simp
       with_reducible rfl
      rotate_left
      ·simp only [Act.put,sA,sZ,sS,i64_w,i32_w]
       rfl
      refine pure_ (i:=10) (N:=some 57) (v:=?_) (a':=?_) #[tt,tt,tt,tt,tt,tt,tt,tt,tt,tt,tt,ff,ff,ff,ff,ff,ff,ff,ff,ff,ff,ff,ff,ff,ff,ff,ff,ff] rfl rfl (any_of HT_.out (by kernel_rfl)) (fun _ _ _ h => h) (Or.inl ⟨by rfl,?_⟩) ?_ ?_
      rotate_left
      ·intro w'
       go_simp
       with_reducible rfl
      rotate_left
      ·simp only [Act.put,sA,sZ,sS,i64_w,i32_w]
       rfl
      refine pure_ (i:=11) (N:=some 58) (v:=undef) (a':=?_) #[tt,tt,tt,tt,tt,tt,tt,tt,tt,tt,tt,tt,ff,ff,ff,ff,ff,ff,ff,ff,ff,ff,ff,ff,ff,ff,ff,ff] rfl rfl (any_of HT_.out (by kernel_rfl)) (fun _ _ _ h => h) (Or.inr ⟨by rfl,rfl⟩) ?_ ?_
      rotate_left
      ·simp only [Act.put,sA,sZ,sS,i64_w,i32_w]
       rfl
      refine pure_ (i:=12) (N:=some 59) (v:=undef) (a':=?_) #[tt,tt,tt,tt,tt,tt,tt,tt,tt,tt,tt,tt,tt,ff,ff,ff,ff,ff,ff,ff,ff,ff,ff,ff,ff,ff,ff,ff] rfl rfl (any_of HT_.out (by kernel_rfl)) (fun _ _ _ h => h) (Or.inr ⟨by rfl,rfl⟩) ?_ ?_
      rotate_left
      ·simp only [Act.put,sA,sZ,sS,i64_w,i32_w]
       rfl
      refine pure_ (i:=13) (N:=some 60) (v:=undef) (a':=?_) #[tt,tt,tt,tt,tt,tt,tt,tt,tt,tt,tt,tt,tt,tt,ff,ff,ff,ff,ff,ff,ff,ff,ff,ff,ff,ff,ff,ff] rfl rfl (any_of HT_.out (by kernel_rfl)) (fun _ _ _ h => h) (Or.inr ⟨by rfl,rfl⟩) ?_ ?_
      rotate_left
      ·simp only [Act.put,sA,sZ,sS,i64_w,i32_w]
       rfl
      refine pure_ (i:=14) (N:=some 61) (v:=undef) (a':=?_) #[tt,tt,tt,tt,tt,tt,tt,tt,tt,tt,tt,tt,tt,tt,tt,ff,ff,ff,ff,ff,ff,ff,ff,ff,ff,ff,ff,ff] rfl rfl (any_of HT_.out (by kernel_rfl)) (fun _ _ _ h => h) (Or.inr ⟨by rfl,rfl⟩) ?_ ?_
      rotate_left
      ·simp only [Act.put,sA,sZ,sS,i64_w,i32_w]
       rfl
      refine pure_ (i:=15) (N:=some 62) (v:=undef) (a':=?_) #[tt,tt,tt,tt,tt,tt,tt,tt,tt,tt,tt,tt,tt,tt,tt,tt,ff,ff,ff,ff,ff,ff,ff,ff,ff,ff,ff,ff] rfl rfl (any_of HT_.out (by kernel_rfl)) (fun _ _ _ h => h) (Or.inr ⟨by rfl,rfl⟩) ?_ ?_
      rotate_left
      ·simp only [Act.put,sA,sZ,sS,i64_w,i32_w]
       rfl
      refine pure_ (i:=16) (N:=some 63) (v:=undef) (a':=?_) #[tt,tt,tt,tt,tt,tt,tt,tt,tt,tt,tt,tt,tt,tt,tt,tt,tt,ff,ff,ff,ff,ff,ff,ff,ff,ff,ff,ff] rfl rfl (any_of HT_.out (by kernel_rfl)) (fun _ _ _ h => h) (Or.inr ⟨by rfl,rfl⟩) ?_ ?_
      rotate_left
      ·simp only [Act.put,sA,sZ,sS,i64_w,i32_w]
       rfl
      refine pure_ (i:=17) (N:=some 64) (v:=undef) (a':=?_) #[tt,tt,tt,tt,tt,tt,tt,tt,tt,tt,tt,tt,tt,tt,tt,tt,tt,tt,ff,ff,ff,ff,ff,ff,ff,ff,ff,ff] rfl rfl (any_of HT_.out (by kernel_rfl)) (fun _ _ _ h => h) (Or.inr ⟨by rfl,rfl⟩) ?_ ?_
      rotate_left
      ·simp only [Act.put,sA,sZ,sS,i64_w,i32_w]
       rfl
      refine pure_ (i:=18) (N:=some 65) (v:=undef) (a':=?_) #[tt,tt,tt,tt,tt,tt,tt,tt,tt,tt,tt,tt,tt,tt,tt,tt,tt,tt,tt,ff,ff,ff,ff,ff,ff,ff,ff,ff] rfl rfl (any_of HT_.out (by kernel_rfl)) (fun _ _ _ h => h) (Or.inr ⟨by rfl,rfl⟩) ?_ ?_
      rotate_left
      ·simp only [Act.put,sA,sZ,sS,i64_w,i32_w]
       rfl
      refine pure_ (i:=19) (N:=some 66) (v:=undef) (a':=?_) #[tt,tt,tt,tt,tt,tt,tt,tt,tt,tt,tt,tt,tt,tt,tt,tt,tt,tt,tt,tt,ff,ff,ff,ff,ff,ff,ff,ff] rfl rfl (any_of HT_.out (by kernel_rfl)) (fun _ _ _ h => h) (Or.inr ⟨by rfl,rfl⟩) ?_ ?_
      rotate_left
      ·simp only [Act.put,sA,sZ,sS,i64_w,i32_w]
       rfl
      refine pure_ (i:=20) (N:=some 67) (v:=undef) (a':=?_) #[tt,tt,tt,tt,tt,tt,tt,tt,tt,tt,tt,tt,tt,tt,tt,tt,tt,tt,tt,tt,tt,ff,ff,ff,ff,ff,ff,ff] rfl rfl (any_of HT_.out (by kernel_rfl)) (fun _ _ _ h => h) (Or.inr ⟨by rfl,rfl⟩) ?_ ?_
      rotate_left
      ·simp only [Act.put,sA,sZ,sS,i64_w,i32_w]
       rfl
      refine pure_ (i:=21) (N:=some 68) (v:=undef) (a':=?_) #[tt,tt,tt,tt,tt,tt,tt,tt,tt,tt,tt,tt,tt,tt,tt,tt,tt,tt,tt,tt,tt,tt,ff,ff,ff,ff,ff,ff] rfl rfl (any_of HT_.out (by kernel_rfl)) (fun _ _ _ h => h) (Or.inr ⟨by rfl,rfl⟩) ?_ ?_
      rotate_left
      ·simp only [Act.put,sA,sZ,sS,i64_w,i32_w]
       rfl
      refine pure_ (i:=22) (N:=some 69) (v:=undef) (a':=?_) #[tt,tt,tt,tt,tt,tt,tt,tt,tt,tt,tt,tt,tt,tt,tt,tt,tt,tt,tt,tt,tt,tt,tt,ff,ff,ff,ff,ff] rfl rfl (any_of HT_.out (by kernel_rfl)) (fun _ _ _ h => h) (Or.inr ⟨by rfl,rfl⟩) ?_ ?_
      rotate_left
      ·simp only [Act.put,sA,sZ,sS,i64_w,i32_w]
       rfl
      refine pure_ (i:=23) (N:=some 70) (v:=undef) (a':=?_) #[tt,tt,tt,tt,tt,tt,tt,tt,tt,tt,tt,tt,tt,tt,tt,tt,tt,tt,tt,tt,tt,tt,tt,tt,ff,ff,ff,ff] rfl rfl (any_of HT_.out (by kernel_rfl)) (fun _ _ _ h => h) (Or.inr ⟨by rfl,rfl⟩) ?_ ?_
      rotate_left
      ·simp only [Act.put,sA,sZ,sS,i64_w,i32_w]
       rfl
      refine pure_ (i:=24) (N:=some 71) (v:=undef) (a':=?_) #[tt,tt,tt,tt,tt,tt,tt,tt,tt,tt,tt,tt,tt,tt,tt,tt,tt,tt,tt,tt,tt,tt,tt,tt,tt,ff,ff,ff] rfl rfl (any_of HT_.out (by kernel_rfl)) (fun _ _ _ h => h) (Or.inr ⟨by rfl,rfl⟩) ?_ ?_
      rotate_left
      ·simp only [Act.put,sA,sZ,sS,i64_w,i32_w]
       rfl
      refine pure_ (i:=25) (N:=some 72) (v:=undef) (a':=?_) #[tt,tt,tt,tt,tt,tt,tt,tt,tt,tt,tt,tt,tt,tt,tt,tt,tt,tt,tt,tt,tt,tt,tt,tt,tt,tt,ff,ff] rfl rfl (any_of HT_.out (by kernel_rfl)) (fun _ _ _ h => h) (Or.inr ⟨by rfl,rfl⟩) ?_ ?_
      rotate_left
      ·simp only [Act.put,sA,sZ,sS,i64_w,i32_w]
       rfl
      refine pure_ (i:=26) (N:=some 73) (v:=?_) (a':=?_) #[tt,tt,tt,tt,tt,tt,tt,tt,tt,tt,tt,tt,tt,tt,tt,tt,tt,tt,tt,tt,tt,tt,tt,tt,tt,tt,tt,ff] rfl rfl (any_of HT_.out (by kernel_rfl)) (fun _ _ _ h => h) (Or.inl ⟨by rfl,?_⟩) ?_ ?_
      rotate_left
      ·intro w'
       go_simp
       with_reducible rfl
      rotate_left
      ·simp only [Act.put,sA,sZ,sS,i64_w,i32_w]
       rfl
      refine pure_ (i:=27) (N:=some 9) (v:=?_) (a':=?_) #[tt,tt,tt,tt,tt,tt,tt,tt,tt,tt,tt,tt,tt,tt,tt,tt,tt,tt,tt,tt,tt,tt,tt,tt,tt,tt,tt,tt] rfl rfl (any_of HT_.out (by kernel_rfl)) (fun _ _ _ h => h) (Or.inl ⟨by rfl,?_⟩) ?_ ?_
      rotate_left
      ·intro w'
       go_simp
       with_reducible rfl
      rotate_left
      ·simp only [Act.put,sA,sZ,sS,i64_w,i32_w]
       rfl
      refine done_ (done_of HT_.out (by kernel_rfl)) ?_
      try go_wp2
      go_meet
      case rel => exact ⟨_,(false),(by first|rfl|(simp;done)|(simp [*];done)),H',⟨by have:=HJ5.out;first|omega|exact Nat.le_refl _⟩,⟨by (with_reducible repeat (first|apply vA|apply vN|apply vD));exact HO_413000.out⟩,⟨by (with_reducible repeat (first|apply vA|apply vN|apply vD));exact HO_414000.out⟩,⟨by (with_reducible repeat (first|apply zA|apply zN|apply zD));exact HO_427000.out⟩,⟨by (with_reducible repeat (first|apply zA|apply zN|apply zD));exact O432.out⟩,⟨by (with_reducible repeat (first|refine bN ?_ _|refine bD ?_|refine bA ?_ _));exact B412.out⟩,⟨by (with_reducible repeat (first|refine bN ?_ _|refine bD ?_|refine bA ?_ _));exact B413.out⟩,⟨by (with_reducible repeat (first|refine bN ?_ _|refine bD ?_|refine bA ?_ _));exact B426.out⟩,⟨by (with_reducible repeat (first|refine bN ?_ _|refine bD ?_|refine bA ?_ _));exact B437.out⟩,⟨by repeat (first|(with_reducible first|exact HB.out|apply aA|apply aW|apply aD|refine aS ?_ E412.out|refine aS ?_ E413.out|refine aS ?_ E426.out|refine aS ?_ E437.out)|exact HB.out)⟩⟩
    case rest =>
     clear HC39
     try clear c1 p2
     try clear c52b0
     try clear c52b1
     try clear c53b0
     try clear c53b1
     obtain ⟨kq,x9_38,rfl,HA,HJ38,HO_413000,HO_414000,HO_427000,HO_438000,B412,B413,B426,B437,HB⟩:=hcut
     cases kq with
     | zero => exact absurd HA.out (by simp [j1])
     | succ kj38 =>
      have H:=HA.out
      clear HA
      simp only [j1] at H
      have HC64:=aK H
      clear H
      go_upto_region 8 with (fail)
      go_cut [10] (fun v10 wc => ∃ (kq : Nat) (x10_63 : Bool),v10 = .bool x10_63 ∧ Aside0 (j2 kq t436 x9_38 x10_63 l1_0 a1_1 a1_2 a1_3 t419 t422 t423 t424 = some r) ∧ Aside0 (kq ≤ kj38) ∧ Aside0 (Kd.V k62 62 wc w.heap.size (fun k_ => ((P0_0_ k_ ∨ P1_0_ k_) ∨ w.heap.size ≤ k_) ∧ nO k_ ((.slice Ao19 t419.length co19)) ∧ nO k_ ((.slice Ao47 t430.length co47)) ∧ k_ ≠ gb412 ∧ k_ ≠ gb413 ∧ k_ ≠ gb426 ∧ k_ ≠ gb437) (.slice A0_0 l0_0.length c0_0) l0_0) ∧ Aside0 (Kd.V k62 62 wc w.heap.size (fun k_ => ((P0_0_ k_ ∨ P1_0_ k_) ∨ w.heap.size ≤ k_) ∧ nO k_ ((.slice Ao19 t419.length co19)) ∧ nO k_ ((.slice Ao47 t430.length co47)) ∧ k_ ≠ gb412 ∧ k_ ≠ gb413 ∧ k_ ≠ gb426 ∧ k_ ≠ gb437) (.slice A1_0 l1_0.length c1_0) l1_0) ∧ Aside0 (Kd.R k62 62 wc w.heap.size (fun k_ => (w.heap.size ≤ k_) ∧ nO k_ ((.slice Ao47 t430.length co47))) (.slice Ao19 t419.length co19) t419) ∧ Aside0 (Kd.R k62 62 wc w.heap.size (fun k_ => (w.heap.size ≤ k_) ∧ nO k_ ((.slice Ao19 t419.length co19))) (.slice Ao47 t430.length co47) t430) ∧ Aside0 (wc.heap[gb412]? = some (.cells #[(.slice A0_0 l0_0.length c0_0),.int .u64 a0_1,.int .u64 a0_2,.int .u64 a0_3] 54 (0,0))) ∧ Aside0 (wc.heap[gb413]? = some (.cells #[(.slice A1_0 l1_0.length c1_0),.int .u64 a1_1,.int .u64 a1_2,.int .u64 a1_3] 54 (0,0))) ∧ Aside0 (wc.heap[gb426]? = some (.cells #[(.slice Ao19 t419.length co19),.int .u64 t422,.int .u64 t423,.int .u64 t424] 57 (0,0))) ∧ Aside0 (wc.heap[gb437]? = some (.cells #[(.slice Ao47 t430.length co47),.int .u64 t433,.int .u64 t434,.int .u64 t435] 57 (0,0))) ∧ Aside0 (Below w.heap.size w wc))
      case first =>
       have H:=HC64.out
       clear HC64
       by_cases c65 : a1_1 > 0
       ·rw [if_pos c65] at H
        have c65b0 : decide (0 < a1_1) = true:=decide_eq_true c65
        clear c65
        (first|rw [c65b0]|(simp only [i64_w,i32_w];rw [c65b0])|skip)
        by_cases c66 : a1_1 < t422
        ·rw [if_pos c66] at H
         have c66b0 : decide (a1_1 < t422) = true:=decide_eq_true c66
         clear c66
         have H':=aK H
         clear H
         have hnb67:=N413_412.out
         have hnc67:=N412_413.out
         have hnb68:=N413_426.out
         have hnc68:=N426_413.out
         have hnb69:=N413_437.out
         have hnc69:=N437_413.out
         have z70_0 : wc.cell? ⟨gb413,0,none⟩ = some (.slice A1_0 l1_0.length c1_0):=(aC B413.out 0).trans rfl
         have z70_1 : wc.cell? ⟨gb413,1,none⟩ = some (.int .u64 a1_1):=(aC B413.out 1).trans rfl
         have z70_2 : wc.cell? ⟨gb413,2,none⟩ = some (.int .u64 a1_2):=(aC B413.out 2).trans rfl
         have z70_3 : wc.cell? ⟨gb413,3,none⟩ = some (.int .u64 a1_3):=(aC B413.out 3).trans rfl
         have f70_0:=aF B413.out 0
         have f70_1:=aF B413.out 1
         have f70_2:=aF B413.out 2
         have f70_3:=aF B413.out 3
         have hnb71:=N426_412.out
         have hnc71:=N412_426.out
         have hnb72:=N426_437.out
         have hnc72:=N437_426.out
         have z73_0 : wc.cell? ⟨gb426,0,none⟩ = some (.slice Ao19 t419.length co19):=(aC B426.out 0).trans rfl
         have z73_1 : wc.cell? ⟨gb426,1,none⟩ = some (.int .u64 t422):=(aC B426.out 1).trans rfl
         have z73_2 : wc.cell? ⟨gb426,2,none⟩ = some (.int .u64 t423):=(aC B426.out 2).trans rfl
         have z73_3 : wc.cell? ⟨gb426,3,none⟩ = some (.int .u64 t424):=(aC B426.out 3).trans rfl
         have f73_0:=aF B426.out 0
         have f73_1:=aF B426.out 1
         have f73_2:=aF B426.out 2
         have f73_3:=aF B426.out 3
         go_wp2
         go_meet
         case rel => exact ⟨_,(true),(by first|rfl|(simp;done)|(simp [*];done)),H',⟨by have:=HJ5.out;have:=HJ38.out;first|omega|exact Nat.le_refl _⟩,⟨by (with_reducible repeat (first|apply vA|apply vN|apply vD));exact HO_413000.out⟩,⟨by (with_reducible repeat (first|apply vA|apply vN|apply vD));exact HO_414000.out⟩,⟨by (with_reducible repeat (first|apply zA|apply zN|apply zD));exact HO_427000.out⟩,⟨by (with_reducible repeat (first|apply zA|apply zN|apply zD));exact HO_438000.out⟩,⟨by (with_reducible repeat (first|refine bN ?_ _|refine bD ?_|refine bA ?_ _));exact B412.out⟩,⟨by (with_reducible repeat (first|refine bN ?_ _|refine bD ?_|refine bA ?_ _));exact B413.out⟩,⟨by (with_reducible repeat (first|refine bN ?_ _|refine bD ?_|refine bA ?_ _));exact B426.out⟩,⟨by (with_reducible repeat (first|refine bN ?_ _|refine bD ?_|refine bA ?_ _));exact B437.out⟩,⟨by repeat (first|(with_reducible first|exact HB.out|apply aA|apply aW|apply aD|refine aS ?_ E412.out|refine aS ?_ E413.out|refine aS ?_ E426.out|refine aS ?_ E437.out)|exact HB.out)⟩⟩
        ·rw [if_neg c66] at H
         have c66b0 : decide (a1_1 < t422) = false:=decide_eq_false c66
         clear c66
         by_cases c74 : a1_2 > 0
         ·rw [if_pos c74] at H
          have c74b0 : decide (0 < a1_2) = true:=decide_eq_true c74
          clear c74
          by_cases c75 : a1_2 < t423
          ·rw [if_pos c75] at H
           have c75b0 : decide (a1_2 < t423) = true:=decide_eq_true c75
           clear c75
           have H':=aK H
           clear H
           have hnb76:=N413_412.out
           have hnc76:=N412_413.out
           have hnb77:=N413_426.out
           have hnc77:=N426_413.out
           have hnb78:=N413_437.out
           have hnc78:=N437_413.out
           have z79_0 : wc.cell? ⟨gb413,0,none⟩ = some (.slice A1_0 l1_0.length c1_0):=(aC B413.out 0).trans rfl
           have z79_1 : wc.cell? ⟨gb413,1,none⟩ = some (.int .u64 a1_1):=(aC B413.out 1).trans rfl
           have z79_2 : wc.cell? ⟨gb413,2,none⟩ = some (.int .u64 a1_2):=(aC B413.out 2).trans rfl
           have z79_3 : wc.cell? ⟨gb413,3,none⟩ = some (.int .u64 a1_3):=(aC B413.out 3).trans rfl
           have f79_0:=aF B413.out 0
           have f79_1:=aF B413.out 1
           have f79_2:=aF B413.out 2
           have f79_3:=aF B413.out 3
           have hnb80:=N426_412.out
           have hnc80:=N412_426.out
           have hnb81:=N426_437.out
           have hnc81:=N437_426.out
           have z82_0 : wc.cell? ⟨gb426,0,none⟩ = some (.slice Ao19 t419.length co19):=(aC B426.out 0).trans rfl
           have z82_1 : wc.cell? ⟨gb426,1,none⟩ = some (.int .u64 t422):=(aC B426.out 1).trans rfl
           have z82_2 : wc.cell? ⟨gb426,2,none⟩ = some (.int .u64 t423):=(aC B426.out 2).trans rfl
           have z82_3 : wc.cell? ⟨gb426,3,none⟩ = some (.int .u64 t424):=(aC B426.out 3).trans rfl
           have f82_0:=aF B426.out 0
           have f82_1:=aF B426.out 1
           have f82_2:=aF B426.out 2
           have f82_3:=aF B426.out 3
           go_wp2
           go_meet
           case rel => exact ⟨_,(true),(by first|rfl|(simp;done)|(simp [*];done)),H',⟨by have:=HJ5.out;have:=HJ38.out;first|omega|exact Nat.le_refl _⟩,⟨by (with_reducible repeat (first|apply vA|apply vN|apply vD));exact HO_413000.out⟩,⟨by (with_reducible repeat (first|apply vA|apply vN|apply vD));exact HO_414000.out⟩,⟨by (with_reducible repeat (first|apply zA|apply zN|apply zD));exact HO_427000.out⟩,⟨by (with_reducible repeat (first|apply zA|apply zN|apply zD));exact HO_438000.out⟩,⟨by (with_reducible repeat (first|refine bN ?_ _|refine bD ?_|refine bA ?_ _));exact B412.out⟩,⟨by (with_reducible repeat (first|refine bN ?_ _|refine bD ?_|refine bA ?_ _));exact B413.out⟩,⟨by (with_reducible repeat (first|refine bN ?_ _|refine bD ?_|refine bA ?_ _));exact B426.out⟩,⟨by (with_reducible repeat (first|refine bN ?_ _|refine bD ?_|refine bA ?_ _));exact B437.out⟩,⟨by repeat (first|(with_reducible first|exact HB.out|apply aA|apply aW|apply aD|refine aS ?_ E412.out|refine aS ?_ E413.out|refine aS ?_ E426.out|refine aS ?_ E437.out)|exact HB.out)⟩⟩
          ·rw [if_neg c75] at H
           have c75b0 : decide (a1_2 < t423) = false:=decide_eq_false c75
           clear c75
           by_cases c83 : a1_3 > 0
           ·rw [if_pos c83] at H
            have c83b0 : decide (0 < a1_3) = true:=decide_eq_true c83
            clear c83
            have H':=aK H
            clear H
            have hnb84:=N413_412.out
            have hnc84:=N412_413.out
            have hnb85:=N413_426.out
            have hnc85:=N426_413.out
            have hnb86:=N413_437.out
            have hnc86:=N437_413.out
            have z87_0 : wc.cell? ⟨gb413,0,none⟩ = some (.slice A1_0 l1_0.length c1_0):=(aC B413.out 0).trans rfl
            have z87_1 : wc.cell? ⟨gb413,1,none⟩ = some (.int .u64 a1_1):=(aC B413.out 1).trans rfl
            have z87_2 : wc.cell? ⟨gb413,2,none⟩ = some (.int .u64 a1_2):=(aC B413.out 2).trans rfl
            have z87_3 : wc.cell? ⟨gb413,3,none⟩ = some (.int .u64 a1_3):=(aC B413.out 3).trans rfl
            have f87_0:=aF B413.out 0
            have f87_1:=aF B413.out 1
            have f87_2:=aF B413.out 2
            have f87_3:=aF B413.out 3
            have hnb88:=N426_412.out
            have hnc88:=N412_426.out
            have hnb89:=N426_437.out
            have hnc89:=N437_426.out
            have z90_0 : wc.cell? ⟨gb426,0,none⟩ = some (.slice Ao19 t419.length co19):=(aC B426.out 0).trans rfl
            have z90_1 : wc.cell? ⟨gb426,1,none⟩ = some (.int .u64 t422):=(aC B426.out 1).trans rfl
            have z90_2 : wc.cell? ⟨gb426,2,none⟩ = some (.int .u64 t423):=(aC B426.out 2).trans rfl
            have z90_3 : wc.cell? ⟨gb426,3,none⟩ = some (.int .u64 t424):=(aC B426.out 3).trans rfl
            have f90_0:=aF B426.out 0
            have f90_1:=aF B426.out 1
            have f90_2:=aF B426.out 2
            have f90_3:=aF B426.out 3
            go_wp2
            go_meet
            case rel => exact ⟨_,(decide (a1_3 < t424)),(by first|rfl|(simp;done)|(simp [*];done)),H',⟨by have:=HJ5.out;have:=HJ38.out;first|omega|exact Nat.le_refl _⟩,⟨by (with_reducible repeat (first|apply vA|apply vN|apply vD));exact HO_413000.out⟩,⟨by (with_reducible repeat (first|apply vA|apply vN|apply vD));exact HO_414000.out⟩,⟨by (with_reducible repeat (first|apply zA|apply zN|apply zD));exact HO_427000.out⟩,⟨by (with_reducible repeat (first|apply zA|apply zN|apply zD));exact HO_438000.out⟩,⟨by (with_reducible repeat (first|refine bN ?_ _|refine bD ?_|refine bA ?_ _));exact B412.out⟩,⟨by (with_reducible repeat (first|refine bN ?_ _|refine bD ?_|refine bA ?_ _));exact B413.out⟩,⟨by (with_reducible repeat (first|refine bN ?_ _|refine bD ?_|refine bA ?_ _));exact B426.out⟩,⟨by (with_reducible repeat (first|refine bN ?_ _|refine bD ?_|refine bA ?_ _));exact B437.out⟩,⟨by repeat (first|(with_reducible first|exact HB.out|apply aA|apply aW|apply aD|refine aS ?_ E412.out|refine aS ?_ E413.out|refine aS ?_ E426.out|refine aS ?_ E437.out)|exact HB.out)⟩⟩
           ·rw [if_neg c83] at H
            have c83b0 : decide (0 < a1_3) = false:=decide_eq_false c83
            clear c83
            have H':=aK H
            clear H
            have hnb91:=N413_412.out
            have hnc91:=N412_413.out
            have hnb92:=N413_426.out
            have hnc92:=N426_413.out
            have hnb93:=N413_437.out
            have hnc93:=N437_413.out
            have z94_0 : wc.cell? ⟨gb413,0,none⟩ = some (.slice A1_0 l1_0.length c1_0):=(aC B413.out 0).trans rfl
            have z94_1 : wc.cell? ⟨gb413,1,none⟩ = some (.int .u64 a1_1):=(aC B413.out 1).trans rfl
            have z94_2 : wc.cell? ⟨gb413,2,none⟩ = some (.int .u64 a1_2):=(aC B413.out 2).trans rfl
            have z94_3 : wc.cell? ⟨gb413,3,none⟩ = some (.int .u64 a1_3):=(aC B413.out 3).trans rfl
            have f94_0:=aF B413.out 0
            have f94_1:=aF B413.out 1
            have f94_2:=aF B413.out 2
            have f94_3:=aF B413.out 3
            have hnb95:=N426_412.out
            have hnc95:=N412_426.out
            have hnb96:=N426_437.out
            have hnc96:=N437_426.out
            have z97_0 : wc.cell? ⟨gb426,0,none⟩ = some (.slice Ao19 t419.length co19):=(aC B426.out 0).trans rfl
            have z97_1 : wc.cell? ⟨gb426,1,none⟩ = some (.int .u64 t422):=(aC B426.out 1).trans rfl
            have z97_2 : wc.cell? ⟨gb426,2,none⟩ = some (.int .u64 t423):=(aC B426.out 2).trans rfl
            have z97_3 : wc.cell? ⟨gb426,3,none⟩ = some (.int .u64 t424):=(aC B426.out 3).trans rfl
            have f97_0:=aF B426.out 0
            have f97_1:=aF B426.out 1
            have f97_2:=aF B426.out 2
            have f97_3:=aF B426.out 3
            go_wp2
            go_meet
            case rel => exact ⟨_,(false),(by first|rfl|(simp;done)|(simp [*];done)),H',⟨by have:=HJ5.out;have:=HJ38.out;first|omega|exact Nat.le_refl _⟩,⟨by (with_reducible repeat (first|apply vA|apply vN|apply vD));exact HO_413000.out⟩,⟨by (with_reducible repeat (first|apply vA|apply vN|apply vD));exact HO_414000.out⟩,⟨by (with_reducible repeat (first|apply zA|apply zN|apply zD));exact HO_427000.out⟩,⟨by (with_reducible repeat (first|apply zA|apply zN|apply zD));exact HO_438000.out⟩,⟨by (with_reducible repeat (first|refine bN ?_ _|refine bD ?_|refine bA ?_ _));exact B412.out⟩,⟨by (with_reducible repeat (first|refine bN ?_ _|refine bD ?_|refine bA ?_ _));exact B413.out⟩,⟨by (with_reducible repeat (first|refine bN ?_ _|refine bD ?_|refine bA ?_ _));exact B426.out⟩,⟨by (with_reducible repeat (first|refine bN ?_ _|refine bD ?_|refine bA ?_ _));exact B437.out⟩,⟨by repeat (first|(with_reducible first|exact HB.out|apply aA|apply aW|apply aD|refine aS ?_ E412.out|refine aS ?_ E413.out|refine aS ?_ E426.out|refine aS ?_ E437.out)|exact HB.out)⟩⟩
         ·rw [if_neg c74] at H
          have c74b0 : decide (0 < a1_2) = false:=decide_eq_false c74
          clear c74
          by_cases c98 : a1_3 > 0
          ·rw [if_pos c98] at H
           have c98b0 : decide (0 < a1_3) = true:=decide_eq_true c98
           clear c98
           have H':=aK H
           clear H
           have hnb99:=N413_412.out
           have hnc99:=N412_413.out
           have hnb100:=N413_426.out
           have hnc100:=N426_413.out
           have hnb101:=N413_437.out
           have hnc101:=N437_413.out
           have z102_0 : wc.cell? ⟨gb413,0,none⟩ = some (.slice A1_0 l1_0.length c1_0):=(aC B413.out 0).trans rfl
           have z102_1 : wc.cell? ⟨gb413,1,none⟩ = some (.int .u64 a1_1):=(aC B413.out 1).trans rfl
           have z102_2 : wc.cell? ⟨gb413,2,none⟩ = some (.int .u64 a1_2):=(aC B413.out 2).trans rfl
           have z102_3 : wc.cell? ⟨gb413,3,none⟩ = some (.int .u64 a1_3):=(aC B413.out 3).trans rfl
           have f102_0:=aF B413.out 0
           have f102_1:=aF B413.out 1
           have f102_2:=aF B413.out 2
           have f102_3:=aF B413.out 3
           have hnb103:=N426_412.out
           have hnc103:=N412_426.out
           have hnb104:=N426_437.out
           have hnc104:=N437_426.out
           have z105_0 : wc.cell? ⟨gb426,0,none⟩ = some (.slice Ao19 t419.length co19):=(aC B426.out 0).trans rfl
           have z105_1 : wc.cell? ⟨gb426,1,none⟩ = some (.int .u64 t422):=(aC B426.out 1).trans rfl
           have z105_2 : wc.cell? ⟨gb426,2,none⟩ = some (.int .u64 t423):=(aC B426.out 2).trans rfl
           have z105_3 : wc.cell? ⟨gb426,3,none⟩ = some (.int .u64 t424):=(aC B426.out 3).trans rfl
           have f105_0:=aF B426.out 0
           have f105_1:=aF B426.out 1
           have f105_2:=aF B426.out 2
           have f105_3:=aF B426.out 3
           go_wp2
           go_meet
           case rel => exact ⟨_,(decide (a1_3 < t424)),(by first|rfl|(simp;done)|(simp [*];done)),H',⟨by have:=HJ5.out;have:=HJ38.out;first|omega|exact Nat.le_refl _⟩,⟨by (with_reducible repeat (first|apply vA|apply vN|apply vD));exact HO_413000.out⟩,⟨by (with_reducible repeat (first|apply vA|apply vN|apply vD));exact HO_414000.out⟩,⟨by (with_reducible repeat (first|apply zA|apply zN|apply zD));exact HO_427000.out⟩,⟨by (with_reducible repeat (first|apply zA|apply zN|apply zD));exact HO_438000.out⟩,⟨by (with_reducible repeat (first|refine bN ?_ _|refine bD ?_|refine bA ?_ _));exact B412.out⟩,⟨by (with_reducible repeat (first|refine bN ?_ _|refine bD ?_|refine bA ?_ _));exact B413.out⟩,⟨by (with_reducible repeat (first|refine bN ?_ _|refine bD ?_|refine bA ?_ _));exact B426.out⟩,⟨by (with_reducible repeat (first|refine bN ?_ _|refine bD ?_|refine bA ?_ _));exact B437.out⟩,⟨by repeat (first|(with_reducible first|exact HB.out|apply aA|apply aW|apply aD|refine aS ?_ E412.out|refine aS ?_ E413.out|refine aS ?_ E426.out|refine aS ?_ E437.out)|exact HB.out)⟩⟩
          ·rw [if_neg c98] at H
           have c98b0 : decide (0 < a1_3) = false:=decide_eq_false c98
           clear c98
           have H':=aK H
           clear H
           have hnb106:=N413_412.out
           have hnc106:=N412_413.out
           have hnb107:=N413_426.out
           have hnc107:=N426_413.out
           have hnb108:=N413_437.out
           have hnc108:=N437_413.out
           have z109_0 : wc.cell? ⟨gb413,0,none⟩ = some (.slice A1_0 l1_0.length c1_0):=(aC B413.out 0).trans rfl
           have z109_1 : wc.cell? ⟨gb413,1,none⟩ = some (.int .u64 a1_1):=(aC B413.out 1).trans rfl
           have z109_2 : wc.cell? ⟨gb413,2,none⟩ = some (.int .u64 a1_2):=(aC B413.out 2).trans rfl
           have z109_3 : wc.cell? ⟨gb413,3,none⟩ = some (.int .u64 a1_3):=(aC B413.out 3).trans rfl
           have f109_0:=aF B413.out 0
           have f109_1:=aF B413.out 1
           have f109_2:=aF B413.out 2
           have f109_3:=aF B413.out 3
           have hnb110:=N426_412.out
           have hnc110:=N412_426.out
           have hnb111:=N426_437.out
           have hnc111:=N437_426.out
           have z112_0 : wc.cell? ⟨gb426,0,none⟩ = some (.slice Ao19 t419.length co19):=(aC B426.out 0).trans rfl
           have z112_1 : wc.cell? ⟨gb426,1,none⟩ = some (.int .u64 t422):=(aC B426.out 1).trans rfl
           have z112_2 : wc.cell? ⟨gb426,2,none⟩ = some (.int .u64 t423):=(aC B426.out 2).trans rfl
           have z112_3 : wc.cell? ⟨gb426,3,none⟩ = some (.int .u64 t424):=(aC B426.out 3).trans rfl
           have f112_0:=aF B426.out 0
           have f112_1:=aF B426.out 1
           have f112_2:=aF B426.out 2
           have f112_3:=aF B426.out 3
           go_wp2
           go_meet
           case rel => exact ⟨_,(false),(by first|rfl|(simp;done)|(simp [*];done)),H',⟨by have:=HJ5.out;have:=HJ38.out;first|omega|exact Nat.le_refl _⟩,⟨by (with_reducible repeat (first|apply vA|apply vN|apply vD));exact HO_413000.out⟩,⟨by (with_reducible repeat (first|apply vA|apply vN|apply vD));exact HO_414000.out⟩,⟨by (with_reducible repeat (first|apply zA|apply zN|apply zD));exact HO_427000.out⟩,⟨by (with_reducible repeat (first|apply zA|apply zN|apply zD));exact HO_438000.out⟩,⟨by (with_reducible repeat (first|refine bN ?_ _|refine bD ?_|refine bA ?_ _));exact B412.out⟩,⟨by (with_reducible repeat (first|refine bN ?_ _|refine bD ?_|refine bA ?_ _));exact B413.out⟩,⟨by (with_reducible repeat (first|refine bN ?_ _|refine bD ?_|refine bA ?_ _));exact B426.out⟩,⟨by (with_reducible repeat (first|refine bN ?_ _|refine bD ?_|refine bA ?_ _));exact B437.out⟩,⟨by repeat (first|(with_reducible first|exact HB.out|apply aA|apply aW|apply aD|refine aS ?_ E412.out|refine aS ?_ E413.out|refine aS ?_ E426.out|refine aS ?_ E437.out)|exact HB.out)⟩⟩
       ·rw [if_neg c65] at H
        have c65b0 : decide (0 < a1_1) = false:=decide_eq_false c65
        clear c65
        (first|rw [c65b0]|(simp only [i64_w,i32_w];rw [c65b0])|skip)
        by_cases c113 : a1_2 > 0
        ·rw [if_pos c113] at H
         have c113b0 : decide (0 < a1_2) = true:=decide_eq_true c113
         clear c113
         by_cases c114 : a1_2 < t423
         ·rw [if_pos c114] at H
          have c114b0 : decide (a1_2 < t423) = true:=decide_eq_true c114
          clear c114
          have H':=aK H
          clear H
          have hnb115:=N413_412.out
          have hnc115:=N412_413.out
          have hnb116:=N413_426.out
          have hnc116:=N426_413.out
          have hnb117:=N413_437.out
          have hnc117:=N437_413.out
          have z118_0 : wc.cell? ⟨gb413,0,none⟩ = some (.slice A1_0 l1_0.length c1_0):=(aC B413.out 0).trans rfl
          have z118_1 : wc.cell? ⟨gb413,1,none⟩ = some (.int .u64 a1_1):=(aC B413.out 1).trans rfl
          have z118_2 : wc.cell? ⟨gb413,2,none⟩ = some (.int .u64 a1_2):=(aC B413.out 2).trans rfl
          have z118_3 : wc.cell? ⟨gb413,3,none⟩ = some (.int .u64 a1_3):=(aC B413.out 3).trans rfl
          have f118_0:=aF B413.out 0
          have f118_1:=aF B413.out 1
          have f118_2:=aF B413.out 2
          have f118_3:=aF B413.out 3
          have hnb119:=N426_412.out
          have hnc119:=N412_426.out
          have hnb120:=N426_437.out
          have hnc120:=N437_426.out
          have z121_0 : wc.cell? ⟨gb426,0,none⟩ = some (.slice Ao19 t419.length co19):=(aC B426.out 0).trans rfl
          have z121_1 : wc.cell? ⟨gb426,1,none⟩ = some (.int .u64 t422):=(aC B426.out 1).trans rfl
          have z121_2 : wc.cell? ⟨gb426,2,none⟩ = some (.int .u64 t423):=(aC B426.out 2).trans rfl
          have z121_3 : wc.cell? ⟨gb426,3,none⟩ = some (.int .u64 t424):=(aC B426.out 3).trans rfl
          have f121_0:=aF B426.out 0
          have f121_1:=aF B426.out 1
          have f121_2:=aF B426.out 2
          have f121_3:=aF B426.out 3
          go_wp2
          go_meet
          case rel => exact ⟨_,(true),(by first|rfl|(simp;done)|(simp [*];done)),H',⟨by have:=HJ5.out;have:=HJ38.out;first|omega|exact Nat.le_refl _⟩,⟨by (with_reducible repeat (first|apply vA|apply vN|apply vD));exact HO_413000.out⟩,⟨by (with_reducible repeat (first|apply vA|apply vN|apply vD));exact HO_414000.out⟩,⟨by (with_reducible repeat (first|apply zA|apply zN|apply zD));exact HO_427000.out⟩,⟨by (with_reducible repeat (first|apply zA|apply zN|apply zD));exact HO_438000.out⟩,⟨by (with_reducible repeat (first|refine bN ?_ _|refine bD ?_|refine bA ?_ _));exact B412.out⟩,⟨by (with_reducible repeat (first|refine bN ?_ _|refine bD ?_|refine bA ?_ _));exact B413.out⟩,⟨by (with_reducible repeat (first|refine bN ?_ _|refine bD ?_|refine bA ?_ _));exact B426.out⟩,⟨by (with_reducible repeat (first|refine bN ?_ _|refine bD ?_|refine bA ?_ _));exact B437.out⟩,⟨by repeat (first|(with_reducible first|exact HB.out|apply aA|apply aW|apply aD|refine aS ?_ E412.out|refine aS ?_ E413.out|refine aS ?_ E426.out|refine aS ?_ E437.out)|exact HB.out)⟩⟩
         ·rw [if_neg c114] at H
          have c114b0 : decide (a1_2 < t423) = false:=decide_eq_false c114
          clear c114
          by_cases c122 : a1_3 > 0
          ·rw [if_pos c122] at H
           have c122b0 : decide (0 < a1_3) = true:=decide_eq_true c122
           clear c122
           have H':=aK H
           clear H
           have hnb123:=N413_412.out
           have hnc123:=N412_413.out
           have hnb124:=N413_426.out
           have hnc124:=N426_413.out
           have hnb125:=N413_437.out
           have hnc125:=N437_413.out
           have z126_0 : wc.cell? ⟨gb413,0,none⟩ = some (.slice A1_0 l1_0.length c1_0):=(aC B413.out 0).trans rfl
           have z126_1 : wc.cell? ⟨gb413,1,none⟩ = some (.int .u64 a1_1):=(aC B413.out 1).trans rfl
           have z126_2 : wc.cell? ⟨gb413,2,none⟩ = some (.int .u64 a1_2):=(aC B413.out 2).trans rfl
           have z126_3 : wc.cell? ⟨gb413,3,none⟩ = some (.int .u64 a1_3):=(aC B413.out 3).trans rfl
           have f126_0:=aF B413.out 0
           have f126_1:=aF B413.out 1
           have f126_2:=aF B413.out 2
           have f126_3:=aF B413.out 3
           have hnb127:=N426_412.out
           have hnc127:=N412_426.out
           have hnb128:=N426_437.out
           have hnc128:=N437_426.out
           have z129_0 : wc.cell? ⟨gb426,0,none⟩ = some (.slice Ao19 t419.length co19):=(aC B426.out 0).trans rfl
           have z129_1 : wc.cell? ⟨gb426,1,none⟩ = some (.int .u64 t422):=(aC B426.out 1).trans rfl
           have z129_2 : wc.cell? ⟨gb426,2,none⟩ = some (.int .u64 t423):=(aC B426.out 2).trans rfl
           have z129_3 : wc.cell? ⟨gb426,3,none⟩ = some (.int .u64 t424):=(aC B426.out 3).trans rfl
           have f129_0:=aF B426.out 0
           have f129_1:=aF B426.out 1
           have f129_2:=aF B426.out 2
           have f129_3:=aF B426.out 3
           go_wp2
           go_meet
           case rel => exact ⟨_,(decide (a1_3 < t424)),(by first|rfl|(simp;done)|(simp [*];done)),H',⟨by have:=HJ5.out;have:=HJ38.out;first|omega|exact Nat.le_refl _⟩,⟨by (with_reducible repeat (first|apply vA|apply vN|apply vD));exact HO_413000.out⟩,⟨by (with_reducible repeat (first|apply vA|apply vN|apply vD));exact HO_414000.out⟩,⟨by (with_reducible repeat (first|apply zA|apply zN|apply zD));exact HO_427000.out⟩,⟨by (with_reducible repeat (first|apply zA|apply zN|apply zD));exact HO_438000.out⟩,⟨by (with_reducible repeat (first|refine bN ?_ _|refine bD ?_|refine bA ?_ _));exact B412.out⟩,⟨by (with_reducible repeat (first|refine bN ?_ _|refine bD ?_|refine bA ?_ _));exact B413.out⟩,⟨by (with_reducible repeat (first|refine bN ?_ _|refine bD ?_|refine bA ?_ _));exact B426.out⟩,⟨by (with_reducible repeat (first|refine bN ?_ _|refine bD ?_|refine bA ?_ _));exact B437.out⟩,⟨by repeat (first|(with_reducible first|exact HB.out|apply aA|apply aW|apply aD|refine aS ?_ E412.out|refine aS ?_ E413.out|refine aS ?_ E426.out|refine aS ?_ E437.out)|exact HB.out)⟩⟩
          ·rw [if_neg c122] at H
           have c122b0 : decide (0 < a1_3) = false:=decide_eq_false c122
           clear c122
           have H':=aK H
           clear H
           have hnb130:=N413_412.out
           have hnc130:=N412_413.out
           have hnb131:=N413_426.out
           have hnc131:=N426_413.out
           have hnb132:=N413_437.out
           have hnc132:=N437_413.out
           have z133_0 : wc.cell? ⟨gb413,0,none⟩ = some (.slice A1_0 l1_0.length c1_0):=(aC B413.out 0).trans rfl
           have z133_1 : wc.cell? ⟨gb413,1,none⟩ = some (.int .u64 a1_1):=(aC B413.out 1).trans rfl
           have z133_2 : wc.cell? ⟨gb413,2,none⟩ = some (.int .u64 a1_2):=(aC B413.out 2).trans rfl
           have z133_3 : wc.cell? ⟨gb413,3,none⟩ = some (.int .u64 a1_3):=(aC B413.out 3).trans rfl
           have f133_0:=aF B413.out 0
           have f133_1:=aF B413.out 1
           have f133_2:=aF B413.out 2
           have f133_3:=aF B413.out 3
           have hnb134:=N426_412.out
           have hnc134:=N412_426.out
           have hnb135:=N426_437.out
           have hnc135:=N437_426.out
           have z136_0 : wc.cell? ⟨gb426,0,none⟩ = some (.slice Ao19 t419.length co19):=(aC B426.out 0).trans rfl
           have z136_1 : wc.cell? ⟨gb426,1,none⟩ = some (.int .u64 t422):=(aC B426.out 1).trans rfl
           have z136_2 : wc.cell? ⟨gb426,2,none⟩ = some (.int .u64 t423):=(aC B426.out 2).trans rfl
           have z136_3 : wc.cell? ⟨gb426,3,none⟩ = some (.int .u64 t424):=(aC B426.out 3).trans rfl
           have f136_0:=aF B426.out 0
           have f136_1:=aF B426.out 1
           have f136_2:=aF B426.out 2
           have f136_3:=aF B426.out 3
           go_wp2
           go_meet
           case rel => exact ⟨_,(false),(by first|rfl|(simp;done)|(simp [*];done)),H',⟨by have:=HJ5.out;have:=HJ38.out;first|omega|exact Nat.le_refl _⟩,⟨by (with_reducible repeat (first|apply vA|apply vN|apply vD));exact HO_413000.out⟩,⟨by (with_reducible repeat (first|apply vA|apply vN|apply vD));exact HO_414000.out⟩,⟨by (with_reducible repeat (first|apply zA|apply zN|apply zD));exact HO_427000.out⟩,⟨by (with_reducible repeat (first|apply zA|apply zN|apply zD));exact HO_438000.out⟩,⟨by (with_reducible repeat (first|refine bN ?_ _|refine bD ?_|refine bA ?_ _));exact B412.out⟩,⟨by (with_reducible repeat (first|refine bN ?_ _|refine bD ?_|refine bA ?_ _));exact B413.out⟩,⟨by (with_reducible repeat (first|refine bN ?_ _|refine bD ?_|refine bA ?_ _));exact B426.out⟩,⟨by (with_reducible repeat (first|refine bN ?_ _|refine bD ?_|refine bA ?_ _));exact B437.out⟩,⟨by repeat (first|(with_reducible first|exact HB.out|apply aA|apply aW|apply aD|refine aS ?_ E412.out|refine aS ?_ E413.out|refine aS ?_ E426.out|refine aS ?_ E437.out)|exact HB.out)⟩⟩
        ·rw [if_neg c113] at H
         have c113b0 : decide (0 < a1_2) = false:=decide_eq_false c113
         clear c113
         by_cases c137 : a1_3 > 0
         ·rw [if_pos c137] at H
          have c137b0 : decide (0 < a1_3) = true:=decide_eq_true c137
          clear c137
          have H':=aK H
          clear H
          have hnb138:=N413_412.out
          have hnc138:=N412_413.out
          have hnb139:=N413_426.out
          have hnc139:=N426_413.out
          have hnb140:=N413_437.out
          have hnc140:=N437_413.out
          have z141_0 : wc.cell? ⟨gb413,0,none⟩ = some (.slice A1_0 l1_0.length c1_0):=(aC B413.out 0).trans rfl
          have z141_1 : wc.cell? ⟨gb413,1,none⟩ = some (.int .u64 a1_1):=(aC B413.out 1).trans rfl
          have z141_2 : wc.cell? ⟨gb413,2,none⟩ = some (.int .u64 a1_2):=(aC B413.out 2).trans rfl
          have z141_3 : wc.cell? ⟨gb413,3,none⟩ = some (.int .u64 a1_3):=(aC B413.out 3).trans rfl
          have f141_0:=aF B413.out 0
          have f141_1:=aF B413.out 1
          have f141_2:=aF B413.out 2
          have f141_3:=aF B413.out 3
          have hnb142:=N426_412.out
          have hnc142:=N412_426.out
          have hnb143:=N426_437.out
          have hnc143:=N437_426.out
          have z144_0 : wc.cell? ⟨gb426,0,none⟩ = some (.slice Ao19 t419.length co19):=(aC B426.out 0).trans rfl
          have z144_1 : wc.cell? ⟨gb426,1,none⟩ = some (.int .u64 t422):=(aC B426.out 1).trans rfl
          have z144_2 : wc.cell? ⟨gb426,2,none⟩ = some (.int .u64 t423):=(aC B426.out 2).trans rfl
          have z144_3 : wc.cell? ⟨gb426,3,none⟩ = some (.int .u64 t424):=(aC B426.out 3).trans rfl
          have f144_0:=aF B426.out 0
          have f144_1:=aF B426.out 1
          have f144_2:=aF B426.out 2
          have f144_3:=aF B426.out 3
          go_wp2
          go_meet
          case rel => exact ⟨_,(decide (a1_3 < t424)),(by first|rfl|(simp;done)|(simp [*];done)),H',⟨by have:=HJ5.out;have:=HJ38.out;first|omega|exact Nat.le_refl _⟩,⟨by (with_reducible repeat (first|apply vA|apply vN|apply vD));exact HO_413000.out⟩,⟨by (with_reducible repeat (first|apply vA|apply vN|apply vD));exact HO_414000.out⟩,⟨by (with_reducible repeat (first|apply zA|apply zN|apply zD));exact HO_427000.out⟩,⟨by (with_reducible repeat (first|apply zA|apply zN|apply zD));exact HO_438000.out⟩,⟨by (with_reducible repeat (first|refine bN ?_ _|refine bD ?_|refine bA ?_ _));exact B412.out⟩,⟨by (with_reducible repeat (first|refine bN ?_ _|refine bD ?_|refine bA ?_ _));exact B413.out⟩,⟨by (with_reducible repeat (first|refine bN ?_ _|refine bD ?_|refine bA ?_ _));exact B426.out⟩,⟨by (with_reducible repeat (first|refine bN ?_ _|refine bD ?_|refine bA ?_ _));exact B437.out⟩,⟨by repeat (first|(with_reducible first|exact HB.out|apply aA|apply aW|apply aD|refine aS ?_ E412.out|refine aS ?_ E413.out|refine aS ?_ E426.out|refine aS ?_ E437.out)|exact HB.out)⟩⟩
         ·rw [if_neg c137] at H
          have c137b0 : decide (0 < a1_3) = false:=decide_eq_false c137
          clear c137
          have H':=aK H
          clear H
          have hnb145:=N413_412.out
          have hnc145:=N412_413.out
          have hnb146:=N413_426.out
          have hnc146:=N426_413.out
          have hnb147:=N413_437.out
          have hnc147:=N437_413.out
          have z148_0 : wc.cell? ⟨gb413,0,none⟩ = some (.slice A1_0 l1_0.length c1_0):=(aC B413.out 0).trans rfl
          have z148_1 : wc.cell? ⟨gb413,1,none⟩ = some (.int .u64 a1_1):=(aC B413.out 1).trans rfl
          have z148_2 : wc.cell? ⟨gb413,2,none⟩ = some (.int .u64 a1_2):=(aC B413.out 2).trans rfl
          have z148_3 : wc.cell? ⟨gb413,3,none⟩ = some (.int .u64 a1_3):=(aC B413.out 3).trans rfl
          have f148_0:=aF B413.out 0
          have f148_1:=aF B413.out 1
          have f148_2:=aF B413.out 2
          have f148_3:=aF B413.out 3
          go_wp2
          go_meet
          case rel => exact ⟨_,(false),(by first|rfl|(simp;done)|(simp [*];done)),H',⟨by have:=HJ5.out;have:=HJ38.out;first|omega|exact Nat.le_refl _⟩,⟨by (with_reducible repeat (first|apply vA|apply vN|apply vD));exact HO_413000.out⟩,⟨by (with_reducible repeat (first|apply vA|apply vN|apply vD));exact HO_414000.out⟩,⟨by (with_reducible repeat (first|apply zA|apply zN|apply zD));exact HO_427000.out⟩,⟨by (with_reducible repeat (first|apply zA|apply zN|apply zD));exact HO_438000.out⟩,⟨by (with_reducible repeat (first|refine bN ?_ _|refine bD ?_|refine bA ?_ _));exact B412.out⟩,⟨by (with_reducible repeat (first|refine bN ?_ _|refine bD ?_|refine bA ?_ _));exact B413.out⟩,⟨by (with_reducible repeat (first|refine bN ?_ _|refine bD ?_|refine bA ?_ _));exact B426.out⟩,⟨by (with_reducible repeat (first|refine bN ?_ _|refine bD ?_|refine bA ?_ _));exact B437.out⟩,⟨by repeat (first|(with_reducible first|exact HB.out|apply aA|apply aW|apply aD|refine aS ?_ E412.out|refine aS ?_ E413.out|refine aS ?_ E426.out|refine aS ?_ E437.out)|exact HB.out)⟩⟩
      case rest =>
       clear HC64
       try clear c1 p2
       try clear c52b0
       try clear c52b1
       try clear c53b0
       try clear c53b1
       try clear c65b0
       try clear c66b0
       try clear c74b0
       try clear c75b0
       try clear c83b0
       try clear c98b0
       try clear c113b0
       try clear c114b0
       try clear c122b0
       try clear c137b0
       try clear c147 z102_0 z102_1 z102_2 z102_3 z105_0 z105_1 z105_2 z105_3 z109_0 z109_1 z109_2 z109_3 z112_0 z112_1 z112_2 z112_3 z118_0 z118_1 z118_2 z118_3 z121_0 z121_1 z121_2 z121_3 z126_0 z126_1 z126_2 z126_3 z129_0 z129_1 z129_2 z129_3 z133_0 z133_1 z133_2 z133_3 z136_0 z136_1 z136_2 z136_3 z141_0 z141_1 z141_2 z141_3 z144_0 z144_1 z144_2 z144_3 z148_0 z148_1 z148_2 z148_3 z70_0 z70_1 z70_2 z70_3 z73_0 z73_1 z73_2 z73_3 z79_0 z79_1 z79_2 z79_3 z82_0 z82_1 z82_2 z82_3 z87_0 z87_1 z87_2 z87_3 z90_0 z90_1 z90_2 z90_3 z94_0 z94_1 z94_2 z94_3 z97_0 z97_1 z97_2 z97_3 f102_0 f102_1 f102_2 f102_3 f105_0 f105_1 f105_2 f105_3 f109_0 f109_1 f109_2 f109_3 f112_0 f112_1 f112_2 f112_3 f118_0 f118_1 f118_2 f118_3 f121_0 f121_1 f121_2 f121_3 f126_0 f126_1 f126_2 f126_3 f129_0 f129_1 f129_2 f129_3 f133_0 f133_1 f133_2 f133_3 f136_0 f136_1 f136_2 f136_3 f141_0 f141_1 f141_2 f141_3 f144_0 f144_1 f144_2 f144_3 f148_0 f148_1 f148_2 f148_3 f70_0 f70_1 f70_2 f70_3 f73_0 f73_1 f73_2 f73_3 f79_0 f79_1 f79_2 f79_3 f82_0 f82_1 f82_2 f82_3 f87_0 f87_1 f87_2 f87_3 f90_0 f90_1 f90_2 f90_3 f94_0 f94_1 f94_2 f94_3 f97_0 f97_1 f97_2 f97_3 p2
       obtain ⟨kq,x10_63,rfl,HA,HJ63,HO_413000,HO_414000,HO_427000,HO_438000,B412,B413,B426,B437,HB⟩:=hcut
       cases kq with
       | zero => exact absurd HA.out (by simp [j2])
       | succ kj63 =>
        have H:=HA.out
        clear HA
        simp only [j2] at H
        have HC149:=aK H
        clear H
        go_upto_region 9 with (fail)
        go_cut [114] (fun v114 wc => ∃ (kq : Nat) (x114_148 : Bool),v114 = .bool x114_148 ∧ Aside0 (j3 kq x9_38 x114_148 l1_0 a1_1 a1_2 a1_3 t419 t422 t423 t424 = some r) ∧ Aside0 (kq ≤ kj63) ∧ Aside0 (Kd.V k62 62 wc w.heap.size (fun k_ => ((P0_0_ k_ ∨ P1_0_ k_) ∨ w.heap.size ≤ k_) ∧ nO k_ ((.slice Ao19 t419.length co19)) ∧ nO k_ ((.slice Ao47 t430.length co47)) ∧ k_ ≠ gb412 ∧ k_ ≠ gb413 ∧ k_ ≠ gb426 ∧ k_ ≠ gb437) (.slice A0_0 l0_0.length c0_0) l0_0) ∧ Aside0 (Kd.V k62 62 wc w.heap.size (fun k_ => ((P0_0_ k_ ∨ P1_0_ k_) ∨ w.heap.size ≤ k_) ∧ nO k_ ((.slice Ao19 t419.length co19)) ∧ nO k_ ((.slice Ao47 t430.length co47)) ∧ k_ ≠ gb412 ∧ k_ ≠ gb413 ∧ k_ ≠ gb426 ∧ k_ ≠ gb437) (.slice A1_0 l1_0.length c1_0) l1_0) ∧ Aside0 (Kd.R k62 62 wc w.heap.size (fun k_ => (w.heap.size ≤ k_) ∧ nO k_ ((.slice Ao47 t430.length co47))) (.slice Ao19 t419.length co19) t419) ∧ Aside0 (Kd.R k62 62 wc w.heap.size (fun k_ => (w.heap.size ≤ k_) ∧ nO k_ ((.slice Ao19 t419.length co19))) (.slice Ao47 t430.length co47) t430) ∧ Aside0 (wc.heap[gb412]? = some (.cells #[(.slice A0_0 l0_0.length c0_0),.int .u64 a0_1,.int .u64 a0_2,.int .u64 a0_3] 54 (0,0))) ∧ Aside0 (wc.heap[gb413]? = some (.cells #[(.slice A1_0 l1_0.length c1_0),.int .u64 a1_1,.int .u64 a1_2,.int .u64 a1_3] 54 (0,0))) ∧ Aside0 (wc.heap[gb426]? = some (.cells #[(.slice Ao19 t419.length co19),.int .u64 t422,.int .u64 t423,.int .u64 t424] 57 (0,0))) ∧ Aside0 (wc.heap[gb437]? = some (.cells #[(.slice Ao47 t430.length co47),.int .u64 t433,.int .u64 t434,.int .u64 t435] 57 (0,0))) ∧ Aside0 (Below w.heap.size w wc))
        case first =>
         have H:=HC149.out
         clear HC149
         by_cases c150 : x9_38 = true
         ·subst c150
          have H1 : (j3 kj63 true ((t436 == 0) == true) l1_0 a1_1 a1_2 a1_3 t419 t422 t423 t424) = some r:=by rw [if_pos rfl] at H;exact H
          clear H
          have H:=H1
          clear H1
          have H':=aK H
          clear H
          go_wp2
          go_meet
          case rel => exact ⟨_,(((t436 == 0) == true)),(by first|rfl|(simp;done)|(simp [*];done)),H',⟨by have:=HJ5.out;have:=HJ38.out;have:=HJ63.out;first|omega|exact Nat.le_refl _⟩,⟨by (with_reducible repeat (first|apply vA|apply vN|apply vD));exact HO_413000.out⟩,⟨by (with_reducible repeat (first|apply vA|apply vN|apply vD));exact HO_414000.out⟩,⟨by (with_reducible repeat (first|apply zA|apply zN|apply zD));exact HO_427000.out⟩,⟨by (with_reducible repeat (first|apply zA|apply zN|apply zD));exact HO_438000.out⟩,⟨by (with_reducible repeat (first|refine bN ?_ _|refine bD ?_|refine bA ?_ _));exact B412.out⟩,⟨by (with_reducible repeat (first|refine bN ?_ _|refine bD ?_|refine bA ?_ _));exact B413.out⟩,⟨by (with_reducible repeat (first|refine bN ?_ _|refine bD ?_|refine bA ?_ _));exact B426.out⟩,⟨by (with_reducible repeat (first|refine bN ?_ _|refine bD ?_|refine bA ?_ _));exact B437.out⟩,⟨by repeat (first|(with_reducible first|exact HB.out|apply aA|apply aW|apply aD|refine aS ?_ E412.out|refine aS ?_ E413.out|refine aS ?_ E426.out|refine aS ?_ E437.out)|exact HB.out)⟩⟩
         ·replace c150:=Bool.eq_false_iff.mpr c150
          subst c150
          have H1 : (j3 kj63 false ((t436 == 0) == x10_63) l1_0 a1_1 a1_2 a1_3 t419 t422 t423 t424) = some r:=by rw [if_neg (show ¬ (false = true) by decide)] at H;exact H
          clear H
          have H:=H1
          clear H1
          have H':=aK H
          clear H
          go_wp2
          go_meet
          case rel => exact ⟨_,(((t436 == 0) == x10_63)),(by first|rfl|(simp;done)|(simp [*];done)),H',⟨by have:=HJ5.out;have:=HJ38.out;have:=HJ63.out;first|omega|exact Nat.le_refl _⟩,⟨by (with_reducible repeat (first|apply vA|apply vN|apply vD));exact HO_413000.out⟩,⟨by (with_reducible repeat (first|apply vA|apply vN|apply vD));exact HO_414000.out⟩,⟨by (with_reducible repeat (first|apply zA|apply zN|apply zD));exact HO_427000.out⟩,⟨by (with_reducible repeat (first|apply zA|apply zN|apply zD));exact HO_438000.out⟩,⟨by (with_reducible repeat (first|refine bN ?_ _|refine bD ?_|refine bA ?_ _));exact B412.out⟩,⟨by (with_reducible repeat (first|refine bN ?_ _|refine bD ?_|refine bA ?_ _));exact B413.out⟩,⟨by (with_reducible repeat (first|refine bN ?_ _|refine bD ?_|refine bA ?_ _));exact B426.out⟩,⟨by (with_reducible repeat (first|refine bN ?_ _|refine bD ?_|refine bA ?_ _));exact B437.out⟩,⟨by repeat (first|(with_reducible first|exact HB.out|apply aA|apply aW|apply aD|refine aS ?_ E412.out|refine aS ?_ E413.out|refine aS ?_ E426.out|refine aS ?_ E437.out)|exact HB.out)⟩⟩
        case rest =>
         clear HC149
         try clear c1 p2
         try clear c52b0
         try clear c52b1
         try clear c53b0
         try clear c53b1
         try clear c65b0
         try clear c66b0
         try clear c74b0
         try clear c75b0
         try clear c83b0
         try clear c98b0
         try clear c113b0
         try clear c114b0
         try clear c122b0
         try clear c137b0
         try clear c150 z102_0 z102_1 z102_2 z102_3 z105_0 z105_1 z105_2 z105_3 z109_0 z109_1 z109_2 z109_3 z112_0 z112_1 z112_2 z112_3 z118_0 z118_1 z118_2 z118_3 z121_0 z121_1 z121_2 z121_3 z126_0 z126_1 z126_2 z126_3 z129_0 z129_1 z129_2 z129_3 z133_0 z133_1 z133_2 z133_3 z136_0 z136_1 z136_2 z136_3 z141_0 z141_1 z141_2 z141_3 z144_0 z144_1 z144_2 z144_3 z148_0 z148_1 z148_2 z148_3 z70_0 z70_1 z70_2 z70_3 z73_0 z73_1 z73_2 z73_3 z79_0 z79_1 z79_2 z79_3 z82_0 z82_1 z82_2 z82_3 z87_0 z87_1 z87_2 z87_3 z90_0 z90_1 z90_2 z90_3 z94_0 z94_1 z94_2 z94_3 z97_0 z97_1 z97_2 z97_3 f102_0 f102_1 f102_2 f102_3 f105_0 f105_1 f105_2 f105_3 f109_0 f109_1 f109_2 f109_3 f112_0 f112_1 f112_2 f112_3 f118_0 f118_1 f118_2 f118_3 f121_0 f121_1 f121_2 f121_3 f126_0 f126_1 f126_2 f126_3 f129_0 f129_1 f129_2 f129_3 f133_0 f133_1 f133_2 f133_3 f136_0 f136_1 f136_2 f136_3 f141_0 f141_1 f141_2 f141_3 f144_0 f144_1 f144_2 f144_3 f148_0 f148_1 f148_2 f148_3 f70_0 f70_1 f70_2 f70_3 f73_0 f73_1 f73_2 f73_3 f79_0 f79_1 f79_2 f79_3 f82_0 f82_1 f82_2 f82_3 f87_0 f87_1 f87_2 f87_3 f90_0 f90_1 f90_2 f90_3 f94_0 f94_1 f94_2 f94_3 f97_0 f97_1 f97_2 f97_3 p2
         obtain ⟨kq,x114_148,rfl,HA,HJ148,HO_413000,HO_414000,HO_427000,HO_438000,B412,B413,B426,B437,HB⟩:=hcut
         exact tailt1 P0_0_ A0_0 c0_0 l0_0 a0_1 a0_2 a0_3 P1_0_ A1_0 c1_0 l1_0 a1_1 a1_2 a1_3 r w t419 t422 t423 t424 t425 _ rfl gb412 E412 gb413 E413 N412_413 N413_412 gb426 E426 N412_426 N426_412 N413_426 N426_413 Ao19 co19 t430 t433 t434 t435 t436 gb437 E437 N413_437 N437_413 N426_437 N437_426 Ao47 co47 x9_38 x10_63 _ (by assumption) _ (by assumption) wc u7 u12 u14 u15 u16 u17 u18 u19 u20 u21 u22 u23 u24 u25 u26 u27 u28 u29 u30 u31 u32 u33 u34 u35 u36 u37 u38 u39 u40 u41 u42 u43 u44 u45 u46 u47 u48 u49 u50 u51 u52 u53 u54 u55 u56 u57 u58 u59 u60 u61 u62 u63 u64 u65 u66 u67 u68 u69 u70 u71 u72 u73 u74 u75 u76 u77 u78 u79 u80 u81 u82 u83 u84 u85 u86 u87 u88 u89 u90 u91 u92 u93 u94 u95 u96 u97 u98 u99 u100 u101 u102 u103 u104 u105 u106 u107 u108 u109 u110 u111 u112 u113 u115 u116 u117 u118 u119 u120 u121 u122 u123 u124 u125 u126 u127 u128 u129 u130 u131 u132 u133 u134 u135 u136 u137 u138 u139 u140 u141 u142 u143 u144 u145 u146 u147 u148 u149 kq x114_148 HA HO_413000 HO_414000 HO_427000 HO_438000 B412 B413 B426 B437 HB
end Go.Proofs.Ytlaihdipagejfaa.P

end

section
set_option linter.unusedVariables false
set_option linter.unusedSimpArgs false
namespace Go.Proofs.YtlaihdipagejfaaL
open Go Go.RowKit Go.Proofs.YtlaihdipagejfaaG Go.Proofs.Ytlaihdipagejfaa.P Go.Proofs.YtlaihdipagejfaaW.PrintWords Go.Proofs.YtlaihdipagejfaaW.PrintMore

theorem heap62 : Kd.Heap k62 := by
  unfold k62
  repeat (first | apply Kd.heap_slice | apply Kd.heap_iso | apply Kd.heap_pair | exact Kd.heap_string | exact Kd.heap_int _)
abbrev EdS := S54
theorem lit_u64 {x : Int} (h : (Lit.int .u64 x).wf = true) : U64 x := by
  simp [Lit.wf, IntKind.min, IntKind.max, IntKind.bits, IntKind.signed] at h
  exact ⟨by omega, by omega⟩
def shortB (m : MetaS) : Bool := decide (m.f2.size ≤ 70) && decide (m.f3.size ≤ 70)
def fewE (e : EdS) : Bool := e.f0.all shortB && decide (e.f0.length ≤ 70)
theorem few_l1 (L : List EdS) (x9 : Int) (l : List MetaS) (a b c : Int) (hl : l.length ≤ 9223372036854775807) (r : Bool) (hc : Ev (fun k => ratlinelaw09_Few.l0 k L (L.length : Int) (wrap64 (x9 + 1))) r) :
    ∀ (n i : Nat), i + n = l.length → Ev (fun k => ratlinelaw09_Few.l1 k L (L.length : Int) x9 l (l.length : Int) i l a b c) ((l.drop i).all shortB && decide (l.length ≤ 70) && r) := by
  intro n
  induction n with
  | zero =>
    intro i hi
    rw [List.drop_eq_nil_of_le (by omega), List.all_nil, Bool.true_and]
    by_cases h : l.length ≤ 70
    · rw [decide_eq_true h, Bool.true_and]
      exact ev_step (fun k => by rw [ratlinelaw09_Few.l1, if_neg (by omega), if_neg (by omega)]) hc
    · rw [decide_eq_false h, Bool.false_and]
      exact ev_of 1 (fun k => by rw [ratlinelaw09_Few.l1, if_neg (by omega), if_pos (by omega)])
  | succ n ih =>
    intro i hi
    have hlt : i < l.length := by omega
    have hr : rd_T62 l (i : Int) = l[i] := getD_at hlt
    have hn := ih (i + 1) (by omega)
    rw [List.drop_eq_getElem_cons hlt, List.all_cons]
    by_cases h2 : (l[i]).f2.size ≤ 70
    · by_cases h3 : (l[i]).f3.size ≤ 70
      · rw [show shortB l[i] = true by unfold shortB; rw [decide_eq_true h2, decide_eq_true h3]; rfl, Bool.true_and]
        exact ev_step (fun k => by rw [ratlinelaw09_Few.l1, if_pos (by omega), if_pos (by omega), if_pos (by omega), hr, if_neg (by omega), if_neg (by omega), up1' (by omega)]) hn
      · rw [show shortB l[i] = false by unfold shortB; rw [decide_eq_true h2, decide_eq_false h3]; rfl, Bool.false_and, Bool.false_and, Bool.false_and]
        exact ev_of 1 (fun k => by rw [ratlinelaw09_Few.l1, if_pos (by omega), if_pos (by omega), if_pos (by omega), hr, if_neg (by omega), if_pos (by omega)])
    · rw [show shortB l[i] = false by unfold shortB; rw [decide_eq_false h2]; rfl, Bool.false_and, Bool.false_and, Bool.false_and]
      exact ev_of 1 (fun k => by rw [ratlinelaw09_Few.l1, if_pos (by omega), if_pos (by omega), if_pos (by omega), hr, if_pos (by omega)])
theorem few_l0 (L : List EdS) (hL : L.length ≤ 1000) (hl : ∀ e ∈ L, e.f0.length ≤ 9223372036854775807) :
    ∀ (n i : Nat), i + n = L.length → Ev (fun k => ratlinelaw09_Few.l0 k L (L.length : Int) i) ((L.drop i).all fewE) := by
  intro n
  induction n with
  | zero =>
    intro i hi
    rw [List.drop_eq_nil_of_le (by omega), List.all_nil]
    exact ev_of 1 (fun k => by rw [ratlinelaw09_Few.l0, if_neg (by omega)])
  | succ n ih =>
    intro i hi
    have hlt : i < L.length := by omega
    have hr : rd_T54 L (i : Int) = L[i] := getD_at hlt
    have hn := ih (i + 1) (by omega)
    rw [List.drop_eq_getElem_cons hlt, List.all_cons]
    have h1 := few_l1 L (i : Int) (L[i]).f0 (L[i]).f1 (L[i]).f2 (L[i]).f3 (hl _ (List.getElem_mem hlt)) _ (by rw [up1 (by omega)]; exact hn) (L[i]).f0.length 0 (by omega)
    rw [List.drop_zero] at h1
    exact ev_step (fun k => by rw [ratlinelaw09_Few.l0, if_pos (by omega), if_pos (by omega), if_pos (by omega), hr]; rfl) h1
theorem few_ev (L : List EdS) (hL : L.length ≤ 1000) (hl : ∀ e ∈ L, e.f0.length ≤ 9223372036854775807) : Ev (fun k => ratlinelaw09_Few.f k L) (L.all fewE) := by
  have := few_l0 L hL hl L.length 0 (by omega)
  rw [List.drop_zero] at this
  exact this
theorem fewE_len {e : EdS} (h : fewE e = true) : e.f0.length ≤ 70 := by
  unfold fewE at h
  simp only [Bool.and_eq_true, decide_eq_true_eq] at h
  exact h.2
/-- What comes in. -/
def WfI (e : EdS) : Prop := (e.f0.length ≤ maxLen ∧ ∀ m ∈ e.f0, (Lit.int .u64 m.f0).wf = true ∧ (Lit.int .u64 m.f1).wf = true ∧ m.f2.size ≤ maxLen ∧ m.f3.size ≤ maxLen) ∧ (Lit.int .u64 e.f1).wf = true ∧ (Lit.int .u64 e.f2).wf = true ∧ (Lit.int .u64 e.f3).wf = true
theorem WfI.e {e : EdS} (h : WfI e) : WfE e.f0 e.f1 e.f2 e.f3 := ⟨fun m hm => ⟨lit_u64 (h.1.2 m hm).1, lit_u64 (h.1.2 m hm).2.1⟩, lit_u64 h.2.1, lit_u64 h.2.2.1, lit_u64 h.2.2.2⟩
theorem WfI.len {e : EdS} (h : WfI e) : e.f0.length ≤ 9223372036854775807 := h.1.1
end Go.Proofs.YtlaihdipagejfaaL

end

section
set_option linter.unusedVariables false
set_option linter.unusedSimpArgs false
namespace Go.Proofs.Ytlaihdipagejfaa.Pure
open Go Go.RowKit Go.Proofs.Ytlaihdipagejfaa.P Go.Proofs.YtlaihdipagejfaaG Go.Proofs.YtlaihdipagejfaaL Go.Proofs.YtlaihdipagejfaaW.PrintWords Go.Proofs.YtlaihdipagejfaaW.PrintMore Go.Proofs.YtlaihdipagejfaaW.PrintLast

theorem apply_eq {l0 : List MetaS} {a b c : Int} {l1 : List MetaS} {d e f : Int} (hw : WfE l1 d e f) (hl : l0.length ≤ 1000000) : edit_Apply.f l0 a b c l1 d e f = some (if okB l0 a b c l1 d e f = true then (l0 ++ l1, mx a d, mx b e, mx c f, 0) else (l0, a, b, c, 90)) := by
  unfold edit_Apply.f
  rw [if_pos ⟨hw, by omega⟩]
theorem falls_zero {x : Int} (h : U64 x) : fallsB 0 x = false := by
  unfold fallsB
  by_cases h1 : 0 < x
  · rw [decide_eq_true h1, Bool.true_and]
    exact decide_eq_false (by omega)
  · rw [decide_eq_false h1, Bool.false_and]
theorem falls_mx (x w : Int) : fallsB w (mx x w) = false := by
  unfold fallsB mx
  by_cases h : x < w
  · rw [if_pos h, decide_eq_false (show ¬ w < w by omega), Bool.and_false]
  · rw [if_neg h, decide_eq_false (show ¬ x < w by omega), Bool.and_false]
theorem mx_u64 {x w : Int} (hx : U64 x) (hw : U64 w) : U64 (mx x w) := by
  unfold mx
  split <;> assumption
theorem mx_zero {x : Int} (h : U64 x) : mx 0 x = x := by
  have h1 := h.1
  unfold mx
  split <;> omega
theorem low_nil (l : List MetaS) : lowB l [] = false := by unfold lowB; simp
theorem low_nil' (l : List MetaS) : lowB [] l = false := by unfold lowB; simp
theorem refused_j1 (x8 : Int) (x9 : Bool) (l : List MetaS) (a b c : Int) (v : List MetaS) (p q s : Int) {r : Bool} (h : Ev (fun k => ratlinelaw09_EditRefused.j2 k x8 x9 (fallsB p a || fallsB q b || fallsB s c) l a b c v p q s) r) :
    Ev (fun k => ratlinelaw09_EditRefused.j1 k x8 x9 l a b c v p q s) r := by
  refine ev_step (f := fun k => ratlinelaw09_EditRefused.j2 k x8 x9 (fallsB p a || fallsB q b || fallsB s c) l a b c v p q s) (fun k => ?_) h
  rw [ratlinelaw09_EditRefused.j1]
  unfold fallsB
  by_cases h1 : a > 0
  · by_cases h2 : a < p
    · rw [if_pos h1, if_pos h2, decide_eq_true (show 0 < a from h1), decide_eq_true h2]
      rfl
    · by_cases h3 : b > 0
      · by_cases h4 : b < q
        · rw [if_pos h1, if_neg h2, if_pos h3, if_pos h4, decide_eq_false h2, decide_eq_true (show 0 < b from h3), decide_eq_true h4, Bool.and_false]
          rfl
        · by_cases h5 : c > 0
          · rw [if_pos h1, if_neg h2, if_pos h3, if_neg h4, if_pos h5, decide_eq_false h2, decide_eq_false h4, decide_eq_true (show 0 < c from h5), Bool.and_false, Bool.and_false]
            rfl
          · rw [if_pos h1, if_neg h2, if_pos h3, if_neg h4, if_neg h5, decide_eq_false h2, decide_eq_false h4, decide_eq_false (show ¬ 0 < c from h5), Bool.and_false, Bool.and_false]
            rfl
      · by_cases h5 : c > 0
        · rw [if_pos h1, if_neg h2, if_neg h3, if_pos h5, decide_eq_false h2, decide_eq_false (show ¬ 0 < b from h3), decide_eq_true (show 0 < c from h5), Bool.and_false]
          rfl
        · rw [if_pos h1, if_neg h2, if_neg h3, if_neg h5, decide_eq_false h2, decide_eq_false (show ¬ 0 < b from h3), decide_eq_false (show ¬ 0 < c from h5), Bool.and_false]
          rfl
  · by_cases h3 : b > 0
    · by_cases h4 : b < q
      · rw [if_neg h1, if_pos h3, if_pos h4, decide_eq_false (show ¬ 0 < a from h1), decide_eq_true (show 0 < b from h3), decide_eq_true h4]
        rfl
      · by_cases h5 : c > 0
        · rw [if_neg h1, if_pos h3, if_neg h4, if_pos h5, decide_eq_false (show ¬ 0 < a from h1), decide_eq_false h4, decide_eq_true (show 0 < c from h5), Bool.and_false]
          rfl
        · rw [if_neg h1, if_pos h3, if_neg h4, if_neg h5, decide_eq_false (show ¬ 0 < a from h1), decide_eq_false h4, decide_eq_false (show ¬ 0 < c from h5), Bool.and_false]
          rfl
    · by_cases h5 : c > 0
      · rw [if_neg h1, if_neg h3, if_pos h5, decide_eq_false (show ¬ 0 < a from h1), decide_eq_false (show ¬ 0 < b from h3), decide_eq_true (show 0 < c from h5)]
        rfl
      · rw [if_neg h1, if_neg h3, if_neg h5, decide_eq_false (show ¬ 0 < a from h1), decide_eq_false (show ¬ 0 < b from h3), decide_eq_false (show ¬ 0 < c from h5)]
        rfl
theorem errno_ok (p : Bool) (l0 l1 : List MetaS) (a b c d e f : Int) : ((if p = true then (l0 ++ l1, mx a d, mx b e, mx c f, (0 : Int)) else (l0, a, b, c, 90)).2.2.2.2 == 0) = p := by cases p <;> rfl
theorem refused_j3 (x9 : Bool) (l : List MetaS) (a b c : Int) (v : List MetaS) (p q s : Int) (hg : WfE l a b c) (hv : U64 p ∧ U64 q ∧ U64 s) (hl : v.length ≤ 1000000) (hll : l.length ≤ 9223372036854775807) (h9 : x9 = lowB v l) :
    Ev (fun k => ratlinelaw09_EditRefused.j3 k x9 false l a b c v p q s) true := by
  have hm := And.intro (mx_u64 hg.2.1 hv.1) (And.intro (mx_u64 hg.2.2.1 hv.2.1) (mx_u64 hg.2.2.2 hv.2.2))
  refine Ev.step (f := fun k => if x9 = true then ((edit_Apply.f v p q s ([] : List MetaS) (mx a p) (mx b q) (mx c s)).bind fun bt441 => ((edit_Right.f k ([] : List MetaS) (mx a p) (mx b q) (mx c s)).bind fun t449 => (if ((bt441.2.2.2.2 == 0) == t449) = true then ((ratlinelaw09_awake.f).bind fun t450 => (some t450)) else (none)))) else ((edit_Apply.f v p q s l (mx a p) (mx b q) (mx c s)).bind fun bt451 => ((edit_Right.f k l (mx a p) (mx b q) (mx c s)).bind fun t459 => (if ((bt451.2.2.2.2 == 0) == t459) = true then ((ratlinelaw09_awake.f).bind fun t460 => (some t460)) else (none)))) ) (fun k => by rw [ratlinelaw09_EditRefused.j3, if_neg (by decide)]) ?_
  cases x9 with
  | true =>
    have hw : WfE [] (mx a p) (mx b q) (mx c s) := ⟨fun m hm => by simp at hm, hm⟩
    refine ev_pos rfl ?_
    refine ev_bind (apply_eq hw hl) ?_
    refine ev_call (right_ev [] _ _ _ (by simp) hw) ?_
    rw [errno_ok]
    have hok : okB v p q s [] (mx a p) (mx b q) (mx c s) = rightB [] (mx a p) (mx b q) (mx c s) := by
      unfold okB
      rw [falls_mx, falls_mx, falls_mx, low_nil]
      simp
    rw [hok]
    refine ev_pos (by simp) ?_
    exact ev_some true
  | false =>
    have hw : WfE l (mx a p) (mx b q) (mx c s) := ⟨hg.1, hm⟩
    refine ev_neg (by decide) ?_
    refine ev_bind (apply_eq hw hl) ?_
    refine ev_call (right_ev l _ _ _ hll hw) ?_
    rw [errno_ok]
    have hok : okB v p q s l (mx a p) (mx b q) (mx c s) = rightB l (mx a p) (mx b q) (mx c s) := by
      unfold okB
      rw [falls_mx, falls_mx, falls_mx, ← h9]
      simp
    rw [hok]
    refine ev_pos (by simp) ?_
    exact ev_some true
theorem refused_j2 (x8 : Int) (x9 x10 : Bool) (l : List MetaS) (a b c : Int) (v : List MetaS) (p q s : Int) (hg : WfE l a b c) (hv : U64 p ∧ U64 q ∧ U64 s) (hl : v.length ≤ 1000000) (hll : l.length ≤ 9223372036854775807) (h9 : x9 = lowB v l) (h8 : (x8 == 0) = (!x10 && !x9)) :
    Ev (fun k => ratlinelaw09_EditRefused.j2 k x8 x9 x10 l a b c v p q s) true := by
  have h3 := refused_j3 x9 l a b c v p q s hg hv hl hll h9
  refine ev_step (f := fun k => ratlinelaw09_EditRefused.j3 k x9 false l a b c v p q s) (fun k => ?_) h3
  rw [ratlinelaw09_EditRefused.j2, h8]
  cases x9 <;> cases x10 <;> rfl
theorem refused_j0 (l0 : List MetaS) (p q s : Int) (l : List MetaS) (a b c : Int) (he : WfE l0 p q s) (hr : rightB l0 p q s = true) (hg : WfE l a b c) (hl : l0.length ≤ 1000000) (hll : l.length ≤ 1000000) :
    Ev (fun k => ratlinelaw09_EditRefused.j0 k 0 (!rightB l a b c) l0 p q s l a b c l0 p q s) true := by
  refine Ev.step (f := fun k => if (!rightB l a b c) = true then ((edit_Right.f k l0 p q s).bind fun t428 => (if (((0 : Int) == 0) == t428) = true then ((ratlinelaw09_awake.f).bind fun t429 => (some t429)) else (none))) else ((edit_Apply.f l0 p q s l a b c).bind fun bt430 => ratlinelaw09_EditRefused.j1 k bt430.2.2.2.2 (lowB l0 l) l a b c l0 p q s)) (fun k => ?_) ?_
  · rw [ratlinelaw09_EditRefused.j0]
    congr 1
    congr 1
    funext bt
    unfold lowB
    by_cases h1 : (l0.length : Int) > 0
    · by_cases h2 : (l.length : Int) > 0
      · have hw : wrap64 ((l0.length : Int) - 1) = (l0.length : Int) - 1 := by unfold wrap64; omega
        rw [if_pos h1, if_pos h2, if_pos (by omega), hw, if_pos (by omega), if_pos (by omega), decide_eq_true (show 0 < l0.length by omega), decide_eq_true (show 0 < l.length by omega)]
        rfl
      · rw [if_pos h1, if_neg h2, decide_eq_false (show ¬ 0 < l.length by omega), Bool.and_false, Bool.false_and]
    · rw [if_neg h1, decide_eq_false (show ¬ 0 < l0.length by omega), Bool.false_and, Bool.false_and]
  · cases hR : rightB l a b c with
    | false =>
      refine ev_pos rfl ?_
      refine ev_call (right_ev l0 _ _ _ (by omega) he) ?_
      rw [hr]
      refine ev_pos rfl ?_
      exact ev_some true
    | true =>
      refine ev_neg (by decide) ?_
      refine ev_bind (apply_eq hg hl) ?_
      refine refused_j1 _ _ _ _ _ _ _ _ _ _ ?_
      refine refused_j2 _ _ _ _ _ _ _ _ _ _ _ hg ⟨he.2.1, he.2.2.1, he.2.2.2⟩ hl (by omega) rfl ?_
      rw [errno_ok]
      unfold okB
      rw [hR]
      cases fallsB p a <;> cases fallsB q b <;> cases fallsB s c <;> cases lowB l0 l <;> rfl
theorem EditRefused (e : EdS) (he : WfI e) (g : EdS) (hg : WfI g) : ∃ k, ratlinelaw09_EditRefused.f k e.f0 e.f1 e.f2 e.f3 g.f0 g.f1 g.f2 g.f3 = some true := by
  refine Ev.rounds (g := fun k => ratlinelaw09_EditRefused.f k e.f0 e.f1 e.f2 e.f3 g.f0 g.f1 g.f2 g.f3) ?_
  unfold ratlinelaw09_EditRefused.f
  refine ev_call (few_ev [e, g] (by simp) (fun x hx => by
    simp only [List.mem_cons, List.not_mem_nil, or_false] at hx
    rcases hx with rfl | rfl
    · exact he.len
    · exact hg.len)) ?_
  by_cases hf : ([e, g].all fewE) = true
  · refine ev_pos hf ?_
    simp only [List.all_cons, List.all_nil, Bool.and_true, Bool.and_eq_true] at hf
    have h1 := fewE_len hf.1
    have h2 := fewE_len hf.2
    have hwe := he.e
    have hwg := hg.e
    refine ev_bind (apply_eq hwe (by simp)) ?_
    have hok : okB [] 0 0 0 e.f0 e.f1 e.f2 e.f3 = rightB e.f0 e.f1 e.f2 e.f3 := by
      unfold okB
      rw [falls_zero hwe.2.1, falls_zero hwe.2.2.1, falls_zero hwe.2.2.2, low_nil']
      simp
    rw [hok]
    cases hr : rightB e.f0 e.f1 e.f2 e.f3 with
    | true =>
      simp only [if_true, List.nil_append, mx_zero hwe.2.1, mx_zero hwe.2.2.1, mx_zero hwe.2.2.2]
      refine ev_call (right_ev g.f0 _ _ _ hg.len hwg) ?_
      exact refused_j0 e.f0 e.f1 e.f2 e.f3 g.f0 g.f1 g.f2 g.f3 hwe hr hwg (by omega) (by omega)
    | false =>
      simp only [Bool.false_eq_true, if_false]
      refine ev_neg (by decide) ?_
      refine Ev.step (f := fun k => (edit_Right.f k e.f0 e.f1 e.f2 e.f3).bind fun t428 => (if (((90 : Int) == 0) == t428) = true then ((ratlinelaw09_awake.f).bind fun t429 => (some t429)) else (none))) (fun k => by rw [ratlinelaw09_EditRefused.j0, if_pos rfl]) ?_
      refine ev_call (right_ev e.f0 _ _ _ he.len hwe) ?_
      rw [hr]
      refine ev_pos rfl ?_
      exact ev_some true
  · refine ev_neg hf ?_
    exact ev_some true
end Go.Proofs.Ytlaihdipagejfaa.Pure

end

section
set_option linter.unusedVariables false
namespace Go.Proofs.YtlaihdipagejfaaG
open Go Go.RowKit Go.Proofs.YtlaihdipagejfaaW.PrintWords

/-- What is trodden of this type is of this kind, and is right. -/
def Opens {α : Type} (P : Program) (t : TypeId) (d : Kd α) (wf : α → Prop) : Prop :=
  ∀ (H : Type) (enc : TypeId × Value → H) (w : World) (base : Nat) (sp : Nat → Bool) (held : Bool) (fuel : Nat) (cs : List Value) (x : DataW H × List MemPlace),
    DataW.trod enc P w base sp held fuel t cs = some x → ∃ a, d.K w a cs ∧ wf a
section
variable {P : Program} {t e : TypeId}
theorem opens_int {k : IntKind} (ht : P.underlying t = some (.int k)) : Opens P t (Kd.int k) (fun n => (Lit.int k n).wf = true) := by
  intro H enc w base sp held fuel cs x h
  obtain ⟨n, rfl, _, hw⟩ := DataW.trod_int ht h
  exact ⟨n, rfl, hw⟩
theorem opens_string (ht : P.underlying t = some .string) : Opens P t Kd.string (fun s => s.size ≤ maxLen) := by
  intro H enc w base sp held fuel cs x h
  obtain ⟨n, rfl, _, hm⟩ := DataW.trod_string ht h
  exact ⟨n, rfl, hm⟩
theorem build {α : Type} {Q : Nat → α → Prop} : ∀ n : Nat, (∀ i, i < n → ∃ a, Q i a) → ∃ l : List α, l.length = n ∧ ∀ i a, l[i]? = some a → Q i a := by
  intro n
  induction n with
  | zero => intro _; exact ⟨[], rfl, fun i a h => by simp at h⟩
  | succ n ih =>
    intro h
    obtain ⟨l, hl, hq⟩ := ih (fun i hi => h i (by omega))
    obtain ⟨a, ha⟩ := h n (by omega)
    refine ⟨l ++ [a], by simp [hl], fun i b hb => ?_⟩
    by_cases hi : i < n
    · rw [List.getElem?_append_left (by omega)] at hb
      exact hq i b hb
    · rw [List.getElem?_append_right (by omega)] at hb
      by_cases hin : i = n
      · subst hin
        rw [hl, Nat.sub_self] at hb
        simp at hb
        exact hb ▸ ha
      · rw [List.getElem?_eq_none (by simp; omega)] at hb
        cases hb
theorem opens_row {α : Type} {d : Kd α} {wf : α → Prop} (hc : P.cellsOf e = d.sz) (ht : P.underlying t = some (.slice e)) (he : Opens P e d wf)
    {H : Type} {enc : TypeId × Value → H} {w : World} {base : Nat} {sp : Nat → Bool} {held : Bool} {fuel : Nat} {cs : List Value} {x : DataW H × List MemPlace} (h : DataW.trod enc P w base sp held fuel t cs = some x) :
    ∃ (A : Option Addr) (c : Nat) (xs : List α), cs = [.slice A xs.length c] ∧ xs.length ≤ c ∧ c ≤ maxLen ∧ d.C w A xs.length xs ∧ ∀ a ∈ xs, wf a := by
  rcases DataW.trod_slice ht h with ⟨rfl, _⟩ | ⟨ad, len, cap, elems, rest, n, _, rfl, _, hb, hl, hm, hn, hel, _, _⟩
  · exact ⟨none, 0, [], rfl, Nat.le_refl _, by decide, Kd.C_nil d w, fun a ha => by cases ha⟩
  · obtain ⟨xs, hxl, hx⟩ := build (Q := fun i a => wf a ∧ ∃ c, c.length = d.sz ∧ d.K w a c ∧ ∀ j u, c[j]? = some u → w.cell? (ad.add (i * d.sz + j)) = some u) len (fun i hi => by
      have h1 := hel i hi
      rw [List.getElem?_eq_getElem (by omega)] at h1
      obtain ⟨cs', hcs, htr⟩ := Option.bind_eq_some_iff.1 h1
      obtain ⟨a, ha, hw⟩ := he H enc w base sp held n cs' _ htr
      have hlen := d.K_len ha
      obtain ⟨_, hlen2, hcell⟩ := World.cells?_some hcs
      refine ⟨a, hw, cs', hlen, ha, fun j u hj => ?_⟩
      have hjl : j < cs'.length := by
        by_cases hjl : j < cs'.length
        · exact hjl
        · rw [List.getElem?_eq_none (by omega)] at hj; cases hj
      have h2 := hcell j (by omega)
      rw [hc] at h2
      have hadd : (ad.add (i * d.sz)).add j = ad.add (i * d.sz + j) := Addr.add_add ad _ _
      rw [← hadd, h2, hj])
    have hmax : maxLen ≤ 9223372036854775807 := by decide
    refine ⟨some ad, cap, xs, by rw [hxl], by omega, hm, ⟨rfl, by omega, fun _ => ⟨ad, rfl, fun j p hp => (hx j p hp).2⟩⟩, fun a ha => ?_⟩
    obtain ⟨i, hi⟩ := List.mem_iff_getElem?.1 ha
    exact (hx i a hi).1
theorem opens_slice {α : Type} {d : Kd α} {wf : α → Prop} (hc : P.cellsOf e = d.sz) (ht : P.underlying t = some (.slice e)) (he : Opens P e d wf) :
    Opens P t (Kd.slice e d) (fun l => l.length ≤ maxLen ∧ ∀ a ∈ l, wf a) := by
  intro H enc w base sp held fuel cs x h
  obtain ⟨A, c, xs, rfl, hl, hm, hC, hw⟩ := opens_row hc ht he h
  exact ⟨xs, ⟨A, c, rfl, hl, hC⟩, by omega, hw⟩
theorem Opens.iso {α β : Type} {d : Kd α} {wf : α → Prop} (h : Opens P t d wf) (f : β → α) (g : α → β) (hfg : ∀ a, f (g a) = a) : Opens P t (Kd.iso d f) (fun b => wf (f b)) := by
  intro H enc w base sp held fuel cs x htr
  obtain ⟨a, ha, hw⟩ := h H enc w base sp held fuel cs x htr
  exact ⟨g a, by show d.K w (f (g a)) cs; rw [hfg]; exact ha, by show wf (f (g a)); rw [hfg]; exact hw⟩
end

/-- A field of a struct. -/
theorem opens_field {α : Type} {P : Program} {t e : TypeId} {fs : Array Field} {d : Kd α} {wf : α → Prop} {off i : Nat} {f : Field} (ht : P.underlying t = some (.struct fs)) (hi : fs[i]? = some f) (hft : f.type = e) (hfo : f.offset = off) (hc : P.cellsOf e = d.sz) (he : Opens P e d wf)
    {H : Type} {enc : TypeId × Value → H} {w : World} {base : Nat} {sp : Nat → Bool} {held : Bool} {fuel : Nat} {cs : List Value} {x : DataW H × List MemPlace} (h : DataW.trod enc P w base sp held fuel t cs = some x) :
    ∃ a, d.K w a ((cs.drop off).take d.sz) ∧ wf a := by
  obtain ⟨xs, n, _, _, _, hn, hf⟩ := DataW.trod_struct ht h
  have h1 := hf i f hi
  have hil : i < xs.length := by
    rw [hn]
    exact (Array.getElem?_eq_some_iff.1 hi).1
  rw [List.getElem?_eq_getElem hil, hft, hfo, hc] at h1
  exact he H enc w base sp held n _ _ h1
theorem opens_cells {P : Program} {t : TypeId} {fs : Array Field} (ht : P.underlying t = some (.struct fs)) {H : Type} {enc : TypeId × Value → H} {w : World} {base : Nat} {sp : Nat → Bool} {held : Bool} {fuel : Nat} {cs : List Value} {x : DataW H × List MemPlace} (h : DataW.trod enc P w base sp held fuel t cs = some x) :
    cs.length = P.cellsOf t := by
  obtain ⟨xs, n, _, _, hl, _⟩ := DataW.trod_struct ht h
  exact hl
theorem opens_struct4 {α β γ δ : Type} {P : Program} {t ta tb tc td : TypeId} {fs : Array Field} {a : Kd α} {b : Kd β} {c : Kd γ} {d : Kd δ} {wa : α → Prop} {wb : β → Prop} {wc : γ → Prop} {wd : δ → Prop} (ht : P.underlying t = some (.struct fs)) (hc : P.cellsOf t = a.sz + (b.sz + (c.sz + d.sz)))
    (f0 : (fs[0]?).map (fun f => (f.type, f.offset)) = some (ta, 0)) (f1 : (fs[1]?).map (fun f => (f.type, f.offset)) = some (tb, a.sz)) (f2 : (fs[2]?).map (fun f => (f.type, f.offset)) = some (tc, a.sz + b.sz)) (f3 : (fs[3]?).map (fun f => (f.type, f.offset)) = some (td, a.sz + b.sz + c.sz)) (ca : P.cellsOf ta = a.sz) (cb : P.cellsOf tb = b.sz) (cc : P.cellsOf tc = c.sz) (cd : P.cellsOf td = d.sz) (oa : Opens P ta a wa) (ob : Opens P tb b wb) (oc : Opens P tc c wc) (od : Opens P td d wd) :
    Opens P t (Kd.pair a (Kd.pair b (Kd.pair c d))) (fun x => wa x.1 ∧ wb x.2.1 ∧ wc x.2.2.1 ∧ wd x.2.2.2) := by
  intro H enc w base sp held fuel cs x h
  obtain ⟨g0, e0, q0⟩ := Option.map_eq_some_iff.1 f0
  obtain ⟨g1, e1, q1⟩ := Option.map_eq_some_iff.1 f1
  obtain ⟨g2, e2, q2⟩ := Option.map_eq_some_iff.1 f2
  obtain ⟨g3, e3, q3⟩ := Option.map_eq_some_iff.1 f3
  simp only [Prod.mk.injEq] at q0 q1 q2 q3
  obtain ⟨x0, k0, w0⟩ := opens_field ht e0 q0.1 q0.2 ca oa h
  obtain ⟨x1, k1, w1⟩ := opens_field ht e1 q1.1 q1.2 cb ob h
  obtain ⟨x2, k2, w2⟩ := opens_field ht e2 q2.1 q2.2 cc oc h
  obtain ⟨x3, k3, w3⟩ := opens_field ht e3 q3.1 q3.2 cd od h
  have hl := opens_cells ht h
  have hsp : (cs.drop (a.sz + b.sz + c.sz)).take d.sz = ((cs.drop a.sz).drop b.sz).drop c.sz := by rw [List.take_of_length_le (by rw [List.length_drop]; omega)]; simp only [List.drop_drop, Nat.add_assoc]
  rw [List.drop_zero] at k0
  rw [hsp] at k3
  rw [← List.drop_drop] at k2
  exact ⟨(x0, x1, x2, x3), ⟨cs.take a.sz, cs.drop a.sz, (List.take_append_drop _ _).symm, k0, _, _, (List.take_append_drop b.sz _).symm, k1, _, _, (List.take_append_drop c.sz _).symm, k2, k3⟩, w0, w1, w2, w3⟩
/-- A struct as an argument. -/
theorem opens_agg {P : Program} {t : TypeId} {fs : Array Field} {w : World} {r : Reach} {base : Nat} {v : Value} (ht : P.underlying t = some (.struct fs)) (h : Value.okWide P w r base t v) : ∃ cs, v = .agg cs := by
  unfold Value.okWide at h
  rw [ht] at h
  obtain ⟨cs, hv, _⟩ := h
  exact ⟨cs, hv⟩
end Go.Proofs.YtlaihdipagejfaaG

end

section
set_option linter.unusedVariables false
namespace Go.Proofs.Ytlaihdipagejfaa.editRefused
open Go Go.ChangeShapes Go.WideShapes Go.ChangeAt Go.RowKit Go.Proofs.YtlaihdipagejfaaG Go.Proofs.Ytlaihdipagejfaa.P Go.Proofs.YtlaihdipagejfaaL Go.Proofs.YtlaihdipagejfaaW.PrintWords
open Go.ChangeMaps (open_string shut_string)
theorem own : ownKnob Try.prog.godebug = none := by kernel_rfl
theorem laidOut : laidOutB Try.prog = true := by kernel_rfl
set_option maxRecDepth 100000 in
theorem lifted (os : Os) (started : os.Started) (H : Type) (enc : TypeId × Value → H) :
    ReturnsInHanded {} Try.checked os 8 .any (Rows.editRefusedSpec.pre6 enc Try.prog Try.f8 Rows.editRefusedRow.domain false) (Rows.editRefusedSpec.post enc Try.prog Try.f8 false true false false) := by
  refine returnsInHanded_of_change_sized (C := Try.checked) own started (by kernel_rfl) Try.func8
    (ChangeSpec.witness6 (enc := enc) (C := Try.checked) false ⟨#[], #[.agg #[.slice none 0 0, .int .u64 0, .int .u64 0, .int .u64 0], .agg #[.slice none 0 0, .int .u64 0, .int .u64 0, .int .u64 0]], []⟩ 8 (by kernel_rfl) (by kernel_rfl) (by kernel_rfl) (by kernel_rfl)) ?_
  intro W base args ds gs before hval0 hW hcnd hsz0 _
  have hsz : (DataW.weightsEach Try.prog (Try.f8.params.toList ++ Rows.editRefusedSpec.plain.varTypes Try.prog) (ds ++ gs)).all (· ≤ reachBytes) = true := hsz0
  have hval : ∀ (j : Nat) t v, Try.f8.params[j]? = some t → args[j]? = some v → Value.okWide Try.prog W .any base t v := hval0
  have hW' := hW
  obtain ⟨p, q, hA0, hV, rfl, hfz, hnd⟩ := hW
  have hA : DataW.TrodAll enc Try.prog W 0 (fun _ => true) true Try.f8.params.toList args.toList ds p := hA0
  rw [Try.params8] at hA hval hsz
  obtain ⟨v0, vs0, d0, ds0, p0, q0, hargs, rfl, rfl, h0, r0⟩ := trodAll_cons hA
  obtain ⟨v1, vs1, d1, ds1, p1, q1, rfl, rfl, rfl, h1, r1⟩ := trodAll_cons r0
  obtain ⟨rfl, rfl, rfl⟩ := trodAll_nil r1
  obtain rfl : args = #[v0, v1] := by cases args; simp_all
  obtain ⟨rfl, rfl⟩ := trodVars_none hV
  obtain ⟨cs0, rfl⟩ := opens_agg Try.underlying54 (hval 0 54 v0 rfl rfl)
  have k0 := h0
  have lt0 : ∀ x ∈ p0, x.block < W.heap.size := by obtain ⟨m, hm⟩ := k0; exact DataW.trod_lt m _ _ _ hm
  obtain ⟨fuel0, hf0⟩ := h0
  obtain ⟨x0, hx0, hw0⟩ := (show Opens Try.prog 54 k54 _ from Opens.iso (opens_struct4 (ta := 52) (tb := 35) (tc := 35) (td := 35) Try.underlying54 (by kernel_rfl) (by kernel_rfl) (by kernel_rfl) (by kernel_rfl) (by kernel_rfl) (by kernel_rfl) (by kernel_rfl) (by kernel_rfl) (by kernel_rfl) (opens_slice (by kernel_rfl) Try.underlying52 (show Opens Try.prog 62 k62 _ from Opens.iso (opens_struct4 (ta := 35) (tb := 35) (tc := 9) (td := 9) Try.underlying62 (by kernel_rfl) (by kernel_rfl) (by kernel_rfl) (by kernel_rfl) (by kernel_rfl) (by kernel_rfl) (by kernel_rfl) (by kernel_rfl) (by kernel_rfl) (opens_int Try.underlying35) (opens_int Try.underlying35) (opens_string Try.underlying9) (opens_string Try.underlying9)) (fun x : S62 => (x.f0, x.f1, x.f2, x.f3)) (fun q => ⟨q.1, q.2.1, q.2.2.1, q.2.2.2⟩) (fun _ => rfl))) (opens_int Try.underlying35) (opens_int Try.underlying35) (opens_int Try.underlying35)) (fun x : S54 => (x.f0, x.f1, x.f2, x.f3)) (fun q => ⟨q.1, q.2.1, q.2.2.1, q.2.2.2⟩) (fun _ => rfl)) H enc _ _ _ _ _ _ _ hf0
  obtain ⟨A0_0, c0_0, hcs0, hl0_0, hC0_0⟩ := k54_open hx0
  obtain rfl : cs0 = #[.slice A0_0 (x0.f0).length c0_0, .int .u64 x0.f1, .int .u64 x0.f2, .int .u64 x0.f3] := Array.ext' hcs0
  obtain ⟨cs1, rfl⟩ := opens_agg Try.underlying54 (hval 1 54 v1 rfl rfl)
  have k1 := h1
  have lt1 : ∀ x ∈ p1, x.block < W.heap.size := by obtain ⟨m, hm⟩ := k1; exact DataW.trod_lt m _ _ _ hm
  obtain ⟨fuel1, hf1⟩ := h1
  obtain ⟨x1, hx1, hw1⟩ := (show Opens Try.prog 54 k54 _ from Opens.iso (opens_struct4 (ta := 52) (tb := 35) (tc := 35) (td := 35) Try.underlying54 (by kernel_rfl) (by kernel_rfl) (by kernel_rfl) (by kernel_rfl) (by kernel_rfl) (by kernel_rfl) (by kernel_rfl) (by kernel_rfl) (by kernel_rfl) (opens_slice (by kernel_rfl) Try.underlying52 (show Opens Try.prog 62 k62 _ from Opens.iso (opens_struct4 (ta := 35) (tb := 35) (tc := 9) (td := 9) Try.underlying62 (by kernel_rfl) (by kernel_rfl) (by kernel_rfl) (by kernel_rfl) (by kernel_rfl) (by kernel_rfl) (by kernel_rfl) (by kernel_rfl) (by kernel_rfl) (opens_int Try.underlying35) (opens_int Try.underlying35) (opens_string Try.underlying9) (opens_string Try.underlying9)) (fun x : S62 => (x.f0, x.f1, x.f2, x.f3)) (fun q => ⟨q.1, q.2.1, q.2.2.1, q.2.2.2⟩) (fun _ => rfl))) (opens_int Try.underlying35) (opens_int Try.underlying35) (opens_int Try.underlying35)) (fun x : S54 => (x.f0, x.f1, x.f2, x.f3)) (fun q => ⟨q.1, q.2.1, q.2.2.1, q.2.2.2⟩) (fun _ => rfl)) H enc _ _ _ _ _ _ _ hf1
  obtain ⟨A1_0, c1_0, hcs1, hl1_0, hC1_0⟩ := k54_open hx1
  obtain rfl : cs1 = #[.slice A1_0 (x1.f0).length c1_0, .int .u64 x1.f1, .int .u64 x1.f2, .int .u64 x1.f3] := Array.ext' hcs1
  obtain ⟨k, h⟩ := Pure.EditRefused x0 hw0 x1 hw1
  clear hA0 hval0 hsz0 hsz
  refine (P.ratlinelaw09_EditRefused.calls k (fun _ => True) _ _ x0.f0 x0.f1 x0.f2 x0.f3 (fun _ => True) _ _ x1.f0 x1.f1 x1.f2 x1.f3 true W (Kd.V_mk hl0_0 (Kd.F_mono (Kd.C_F heap62 hC0_0) (fun _ _ => trivial))) (Kd.V_mk hl1_0 (Kd.F_mono (Kd.C_F heap62 hC1_0) (fun _ _ => trivial))) h).mono fun e W' ⟨he, bel⟩ => ?_
  subst he
  exact ⟨_, rfl, _, _, _, [], _, [], hW', trodAll_mk1 (shut_bool Try.underlying4 _), (trodAll_cons_mk (Below.trod laidOut (by kernel_rfl) (of_decide_eq_true (by kernel_rfl)) k0 bel lt0) (trodAll_cons_mk (Below.trod laidOut (by kernel_rfl) (of_decide_eq_true (by kernel_rfl)) k1 bel lt1) trodAll_mk0)), rfl, bel.frame _, fun h => by cases h⟩
theorem over : Rows.editRefusedRow.holds Try.pinned (OpenSpec.ofChange Rows.editRefusedSpec) :=
  OpenClaim.holds_of_wide 8 Try.f8 rfl rfl rfl rfl rfl rfl rfl ⟨rfl, rfl, rfl, rfl, rfl⟩ rfl rfl rfl rfl rfl (by kernel_rfl) Try.func8 (by kernel_rfl)
    (of_decide_eq_true (by kernel_rfl)) (by unfold Func.isWrapper; first | (rw [if_pos (by decide +kernel)]; kernel_rfl) | (rw [if_neg (by decide +kernel)]; exact ⟨rfl, rfl⟩))
    (fun os started H enc _ => lifted os started H enc)
theorem proved : Rows.EditRefusedSaid := over
#print axioms proved
end Go.Proofs.Ytlaihdipagejfaa.editRefused
namespace Go.Proofs.Ytlaihdipagejfaa
/-- The row, under a short name, for the claim. -/
theorem editRefused_holds : Rows.EditRefusedSaid := editRefused.proved
end Go.Proofs.Ytlaihdipagejfaa

end
