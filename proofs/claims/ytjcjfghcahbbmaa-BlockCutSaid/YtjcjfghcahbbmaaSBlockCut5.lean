/- Proved here: what the row of BlockCut needs, part 5. Conditions: those of each theorem. Written for this claim by programs; what the claim does not use is left out. -/
import Derived.Test.YtjcjfghcahbbmaaSBlockCut4
section
namespace Go.Proofs.Ytjcjfghcahbbmaa.P
open Go.RowKit Go.Proofs.YtjcjfghcahbbmaaG Go.Proofs.YtjcjfghcahbbmaaW.PrintWords Go.Proofs.YtjcjfghcahbbmaaW.PrintLast Go.Proofs.YtjcjfghcahbbmaaW.PrintMore
attribute [local go_sem] str_gtr str_geq str_leq max2_int min2_int max_two min_two max_three min_three max_four min_four   -- for this text's walks alone
set_option linter.unusedVariables false
set_option linter.unusedSimpArgs false

mutual
noncomputable def ratlinelaw07_BlockCut.j0 : Nat → List (S59) → Int → Int → List Int → Bool → Option (Bool)
 | 0,_,_,_,_,_=>none
 | k + 1,x0,x1,x2,x7,x38=>if x38 = true then (none) else (if (x7.length : Int) = 0 then (none) else (ratlinelaw07_BlockCut.l0 k x0 x2 x7 (Int.tmod (wrap64 (x1)) (x7.length : Int)) (wrap64 (4 * (wrap64 ((x0.length : Int) + 2)))) x0 (x0.length : Int) 0))
noncomputable def ratlinelaw07_BlockCut.l0 : Nat → List (S59) → Int → List Int → Int → Int → List (S59) → Int → Int → Option (Bool)
 | 0,_,_,_,_,_,_,_,_=>none
 | k + 1,x0,x2,x7,x9,x10,x48,x49,x50=>if x50 < x49 then (if 0 ≤ x50 then (if x50 < (x48.length : Int) then (ratlinelaw07_BlockCut.l0 k x0 x2 x7 x9 (wrap64 (x10 + (wrap64 ((wrap64 ((wrap64 ((wrap64 ((wrap64 ((((rd_T59 x48 x50).f0.f0).size : Int) + (((rd_T59 x48 x50).f1).size : Int))) + 1)) + 2)) + 9)) + 2)))) x48 x49 (wrap64 (x50 + 1))) else (none)) else (none)) else (if 0 ≤ x9 then (if x9 ≤ (x7.length : Int) then ((some (([] : List Int) : List Int)).bind fun y558=>(if y558.length + x7.length < 140737488355328 then ((some (y558 ++ x7 : List Int)).bind fun y561=>((some (([x2] : List Int) : List Int)).bind fun y564=>(if y561.length + y564.length < 140737488355328 then ((some (([] : List Int) : List Int)).bind fun y570=>((some (x7.take (x9 : Int).toNat : List Int)).bind fun y573=>(if y570.length + y573.length < 140737488355328 then ((some (y570 ++ y573 : List Int)).bind fun y578=>(if 0 ≤ (wrap64 (x9 + 1)) then (if (wrap64 (x9 + 1)) ≤ (x7.length : Int) then ((some (x7.drop ((wrap64 (x9 + 1)) : Int).toNat : List Int)).bind fun y581=>(if y578.length + y581.length < 140737488355328 then ((some (([(x7.take (x9 : Int).toNat),(y561 ++ y564),(y578 ++ y581)] : List (List Int)) : List (List Int))).bind fun y589=>(ratlinelaw07_BlockCut.l1 k x0 x7 x10 y589 (y589.length : Int) 0)) else (none))) else (none)) else (none))) else (none)))) else (none)))) else (none))) else (none)) else (none))
noncomputable def ratlinelaw07_BlockCut.l1 : Nat → List (S59) → List Int → Int → List (List Int) → Int → Int → Option (Bool)
 | 0,_,_,_,_,_,_=>none
 | k + 1,x0,x7,x10,x88,x89,x90=>if x90 < x89 then (if 0 ≤ x90 then (if x90 < (x88.length : Int) then ((block_Parse.f k (rd_L5 x88 x90)).bind fun bt594=>(if bt594.2 = 0 then ((ratlinelaw04_Entries.f k bt594.1 x0).bind fun t598=>(if t598 = true then (none) else (ratlinelaw07_BlockCut.l1 k x0 x7 x10 x88 x89 (wrap64 (x90 + 1))))) else (ratlinelaw07_BlockCut.l1 k x0 x7 x10 x88 x89 (wrap64 (x90 + 1))))) else (none)) else (none)) else (if (x7.length : Int) ≤ x10 then ((ratlinelaw07_awake.f k).bind fun t592=>(some t592)) else (none))
end
noncomputable def ratlinelaw07_BlockCut.f (k : Nat) (l0 : List (S59)) (a1 : Int) (a2 : Int) : Option (Bool):=(ratlinelaw03_Few.f k l0 70).bind fun t541=>(if t541 = true then ((ratlinelaw07_Sorted.f l0 64).bind fun t543=>(if (t543.length : Int) = 0 then ((ratlinelaw07_awake.f k).bind fun t546=>(some t546)) else ((block_Build.f t543).bind fun bt547=>(if bt547.2 = 0 then (ratlinelaw07_BlockCut.j0 k t543 a1 a2 bt547.1 ((bt547.1.length : Int) == 0)) else (ratlinelaw07_BlockCut.j0 k t543 a1 a2 bt547.1 true))))) else ((ratlinelaw07_awake.f k).bind fun t542=>(some t542)))
def ratlinelaw07_BlockCut.T16 : Bool × List (List Nat × List Nat):=(true,[([],[]),([],[]),([0,1],[0,1]),([],[]),([],[]),([3,4],[3,4]),([],[]),([6],[6]),([5,7,5],[5,7]),([],[]),([],[]),([],[]),([10,11],[10,11]),([9,12,8],[9,12]),([],[]),([],[]),([15],[15]),([14,16],[14,16]),([13,17,13],[13,17]),([2,8,18],[2,8,18]),([19],[19]),([],[])])
def ratlinelaw07_BlockCut.B16 : List Nat:=[0,0,3,0,0,24,0,64,248,0,0,0,3072,8184,0,0,32768,114688,262136,524287,1048575,0]
theorem ratlinelaw07_BlockCut.tab16 : rtab .any (opsOf Try.f8 16) = ratlinelaw07_BlockCut.T16:=by kernel_rfl
theorem ratlinelaw07_BlockCut.bits16 : waitsOk ratlinelaw07_BlockCut.T16.2 ratlinelaw07_BlockCut.B16 = true:=by kernel_rfl
set_option maxHeartbeats 8000000 in
set_option maxRecDepth 100000 in
theorem ratlinelaw07_BlockCut.calls (k : Nat) (A0 : Option Addr) (c0 : Nat) (l0 : List (S59)) (a1 : Int) (a2 : Int) (r : Bool) (w : World) (hr0 : Kd.C k59 w A0 l0.length l0) (hc0 : l0.length ≤ c0) (h : ratlinelaw07_BlockCut.f k l0 a1 a2 = some r) :
  Calls Try.prog 8 #[.slice A0 l0.length c0,.int .u16 a1,.int .u8 a2] w fun e w'=>e = .returned (.bool r) ∧ Below w.heap.size w w':=by
 have hu59:=Try.underlying59
 have HR0:=Aside0.mk hr0
 have HC0:=Aside0.mk hc0
 clear hr0 hc0
 have HB:=Aside0.mk (Below.refl w.heap.size w)
 have H : ((ratlinelaw03_Few.f k l0 70).bind fun t541=>(if t541 = true then ((ratlinelaw07_Sorted.f l0 64).bind fun t543=>(if (t543.length : Int) = 0 then ((ratlinelaw07_awake.f k).bind fun t546=>(some t546)) else ((block_Build.f t543).bind fun bt547=>(if bt547.2 = 0 then (ratlinelaw07_BlockCut.j0 k t543 a1 a2 bt547.1 ((bt547.1.length : Int) == 0)) else (ratlinelaw07_BlockCut.j0 k t543 a1 a2 bt547.1 true))))) else ((ratlinelaw07_awake.f k).bind fun t542=>(some t542)))) = some r:=h
 clear h
 replace H:=Option.bind_eq_some_iff.mp H
 obtain ⟨t541,A40,H⟩:=H
 replace H : (if t541 = true then ((ratlinelaw07_Sorted.f l0 64).bind fun t543=>(if (t543.length : Int) = 0 then ((ratlinelaw07_awake.f k).bind fun t546=>(some t546)) else ((block_Build.f t543).bind fun bt547=>(if bt547.2 = 0 then (ratlinelaw07_BlockCut.j0 k t543 a1 a2 bt547.1 ((bt547.1.length : Int) == 0)) else (ratlinelaw07_BlockCut.j0 k t543 a1 a2 bt547.1 true))))) else ((ratlinelaw07_awake.f k).bind fun t542=>(some t542))) = some r:=H
 have A4:=Aside0.mk A40
 clear A40
 by_cases c5 : t541 = true
 ·subst c5
  have H1 : ((ratlinelaw07_Sorted.f l0 64).bind fun t543=>(if (t543.length : Int) = 0 then ((ratlinelaw07_awake.f k).bind fun t546=>(some t546)) else ((block_Build.f t543).bind fun bt547=>(if bt547.2 = 0 then (ratlinelaw07_BlockCut.j0 k t543 a1 a2 bt547.1 ((bt547.1.length : Int) == 0)) else (ratlinelaw07_BlockCut.j0 k t543 a1 a2 bt547.1 true))))) = some r:=by rw [if_pos rfl] at H;exact H
  clear H
  have H:=H1
  clear H1
  replace H:=Option.bind_eq_some_iff.mp H
  obtain ⟨t543,A60,H⟩:=H
  replace H : (if (t543.length : Int) = 0 then ((ratlinelaw07_awake.f k).bind fun t546=>(some t546)) else ((block_Build.f t543).bind fun bt547=>(if bt547.2 = 0 then (ratlinelaw07_BlockCut.j0 k t543 a1 a2 bt547.1 ((bt547.1.length : Int) == 0)) else (ratlinelaw07_BlockCut.j0 k t543 a1 a2 bt547.1 true)))) = some r:=H
  have A6:=Aside0.mk A60
  clear A60
  by_cases c7 : (t543.length : Int) = 0
  ·rw [if_pos c7] at H
   have c7b0 : ((t543.length : Int) == 0) = true:=beq_iff_eq.mpr c7
   have c7b1 : ((t543.length : Int) != 0) = false:=bne_eq_false_iff_eq.mpr c7
   clear c7
   replace H:=Option.bind_eq_some_iff.mp H
   obtain ⟨t546,A80,H⟩:=H
   replace H : (some t546) = some r:=H
   have A8:=Aside0.mk A80
   clear A80
   obtain rfl:=Option.some.inj H
   go_enter Try.func8,Try.ntmps8
   go_wp2_with (first|((with_reducible refine gate_callee (f:=20) rfl ?_);refine goesL_ (some 18) rfl rfl Try.func20 (by kernel_rfl) rfl #[.slice A0 l0.length c0,.int .i64 70] rfl (by (try simp only [List.map_toArray,List.map_cons,List.map_nil]);first|done|rfl|(simp only [List.length_drop,List.length_take];rfl)) ?_;(with_reducible refine (ratlinelaw03_Few.calls k _ _ l0 70 true _ ?side1 ?side2 A4.out).mono ?_);(case side1=>repeat (first|exact HR0.out|(with_reducible refine Kd.C_alloc ?_ _)|(with_reducible refine Kd.C_drewN ?_ _)|(with_reducible refine Kd.C_drew ?_)));(case side2=>exact HC0.out);rintro e w9 ⟨rfl,hb⟩;refine ⟨_,rfl,?_⟩;have n0_:=Aside0.mk (below_step (by repeat (first|(with_reducible first|exact HB.out|apply below_alloc|apply pw_below_drewN|apply below_drew1)|exact HB.out)) hb);clear HB;have HB:=n0_;clear n0_;(try clear hb);(try clear hb2);(try clear hk);(try clear hi))|((with_reducible refine gate_callee (f:=30) rfl ?_);refine goesL_ (some 22) rfl rfl Try.func30 (by kernel_rfl) rfl #[.slice A0 l0.length c0,.int .i64 64] rfl (by (try simp only [List.map_toArray,List.map_cons,List.map_nil]);first|done|rfl|(simp only [List.length_drop,List.length_take];rfl)) ?_;(with_reducible refine (ratlinelaw07_Sorted.calls _ _ l0 64 t543 _ ?side1 ?side2 A6.out).mono ?_);(case side1=>repeat (first|exact (Kd.C_below HR0.out HB.out)|(with_reducible refine Kd.C_alloc ?_ _)|(with_reducible refine Kd.C_drewN ?_ _)|(with_reducible refine Kd.C_drew ?_)));(case side2=>exact HC0.out);rintro e w10 ⟨v544,rfl,ho0,hb⟩;refine ⟨_,rfl,?_⟩;have n0_:=Aside0.mk (Kd.R_lower ho0 (below_size (by repeat (first|(with_reducible first|exact HB.out|apply below_alloc|apply pw_below_drewN|apply below_drew1)|exact HB.out))));have n1_:=Aside0.mk (below_step (by repeat (first|(with_reducible first|exact HB.out|apply below_alloc|apply pw_below_drewN|apply below_drew1)|exact HB.out)) hb);clear HB;have HO545:=n0_;have HB:=n1_;clear n0_ n1_;(try clear hb);(try clear hb2);(try clear hk);(try clear hi);(try clear ho0);obtain ⟨Ao11,co11,eo11⟩:=Kd.R_slice HO545.out;subst eo11)|(go_at_call 21;(with_reducible refine (ratlinelaw07_awake.calls k  t546 _ A8.out).mono ?_);rintro e w12 ⟨rfl,hb⟩;have n0_:=Aside0.mk (Kd.R_below (by (with_reducible repeat (first|apply Kd.R_alloc|apply Kd.R_drewN|apply Kd.R_drew));exact HO545.out) hb);have n1_:=Aside0.mk (below_step (by repeat (first|(with_reducible first|exact HB.out|apply below_alloc|apply pw_below_drewN|apply below_drew1)|exact HB.out)) hb);clear HO545;clear HB;have HO545:=n0_;have HB:=n1_;clear n0_ n1_;(try clear hb);(try clear hb2);(try clear hk);(try clear hi);(try apply_assumption)))
   go_ret
   exact ⟨by first|rfl|(simp [errW_none,errW_some] <;> rfl)|(simp [*,errW_none,errW_some] <;> rfl),by repeat (first|(with_reducible first|exact HB.out|apply below_alloc|apply pw_below_drewN|apply below_drew1)|exact HB.out)⟩
  ·rw [if_neg c7] at H
   have c7b0 : ((t543.length : Int) == 0) = false:=beq_eq_false_iff_ne.mpr c7
   have c7b1 : ((t543.length : Int) != 0) = true:=bne_iff_ne.mpr c7
   have c7b2 : ¬ (t543 = []):=fun h_=>c7 (by rw [h_];rfl)
   replace H:=Option.bind_eq_some_iff.mp H
   obtain ⟨⟨t547,t548⟩,A130,H⟩:=H
   replace H : (if t548 = 0 then (ratlinelaw07_BlockCut.j0 k t543 a1 a2 t547 ((t547.length : Int) == 0)) else (ratlinelaw07_BlockCut.j0 k t543 a1 a2 t547 true)) = some r:=H
   have A13:=Aside0.mk A130
   clear A130
   have HC14:=Aside0.mk H
   clear H
   go_enter Try.func8,Try.ntmps8
   go_upto_region 7 with (first|((with_reducible refine gate_callee (f:=20) rfl ?_);refine goesL_ (some 18) rfl rfl Try.func20 (by kernel_rfl) rfl #[.slice A0 l0.length c0,.int .i64 70] rfl (by (try simp only [List.map_toArray,List.map_cons,List.map_nil]);first|done|rfl|(simp only [List.length_drop,List.length_take];rfl)) ?_;(with_reducible refine (ratlinelaw03_Few.calls k _ _ l0 70 true _ ?side1 ?side2 A4.out).mono ?_);(case side1=>repeat (first|exact HR0.out|(with_reducible refine Kd.C_alloc ?_ _)|(with_reducible refine Kd.C_drewN ?_ _)|(with_reducible refine Kd.C_drew ?_)));(case side2=>exact HC0.out);rintro e w15 ⟨rfl,hb⟩;refine ⟨_,rfl,?_⟩;have n0_:=Aside0.mk (below_step (by repeat (first|(with_reducible first|exact HB.out|apply below_alloc|apply pw_below_drewN|apply below_drew1)|exact HB.out)) hb);clear HB;have HB:=n0_;clear n0_;(try clear hb);(try clear hb2);(try clear hk);(try clear hi))|((with_reducible refine gate_callee (f:=30) rfl ?_);refine goesL_ (some 22) rfl rfl Try.func30 (by kernel_rfl) rfl #[.slice A0 l0.length c0,.int .i64 64] rfl (by (try simp only [List.map_toArray,List.map_cons,List.map_nil]);first|done|rfl|(simp only [List.length_drop,List.length_take];rfl)) ?_;(with_reducible refine (ratlinelaw07_Sorted.calls _ _ l0 64 t543 _ ?side1 ?side2 A6.out).mono ?_);(case side1=>repeat (first|exact (Kd.C_below HR0.out HB.out)|(with_reducible refine Kd.C_alloc ?_ _)|(with_reducible refine Kd.C_drewN ?_ _)|(with_reducible refine Kd.C_drew ?_)));(case side2=>exact HC0.out);rintro e w16 ⟨v544,rfl,ho0,hb⟩;refine ⟨_,rfl,?_⟩;have n0_:=Aside0.mk (Kd.R_lower ho0 (below_size (by repeat (first|(with_reducible first|exact HB.out|apply below_alloc|apply pw_below_drewN|apply below_drew1)|exact HB.out))));have n1_:=Aside0.mk (below_step (by repeat (first|(with_reducible first|exact HB.out|apply below_alloc|apply pw_below_drewN|apply below_drew1)|exact HB.out)) hb);clear HB;have HO545:=n0_;have HB:=n1_;clear n0_ n1_;(try clear hb);(try clear hb2);(try clear hk);(try clear hi);(try clear ho0);obtain ⟨Ao17,co17,eo17⟩:=Kd.R_slice HO545.out;subst eo17)|((with_reducible refine gate_callee (f:=22) rfl ?_);refine goesL_ (some 29) rfl rfl Try.func22 (by kernel_rfl) rfl #[.slice Ao17 t543.length co17] rfl (by (try simp only [List.map_toArray,List.map_cons,List.map_nil]);first|done|rfl|(simp only [List.length_drop,List.length_take];rfl)) ?_;(with_reducible refine (block_Build.calls _ _ t543 t547 t548 _ ?side1 ?side2 A13.out).mono ?_);(case side1=>repeat (first|exact (Kd.R_reads' HO545.out).2.2|(with_reducible refine Kd.C_alloc ?_ _)|(with_reducible refine Kd.C_drewN ?_ _)|(with_reducible refine Kd.C_drew ?_)));(case side2=>exact (Kd.R_reads' HO545.out).2.1);rintro e w18 ⟨v549,rfl,ho0,hb⟩;refine ⟨_,rfl,?_⟩;have n0_:=Aside0.mk (Kd.R_below (by (with_reducible repeat (first|apply Kd.R_alloc|apply Kd.R_drewN|apply Kd.R_drew));exact HO545.out) hb);have n1_:=Aside0.mk (Kd.R_lower ho0 (below_size (by repeat (first|(with_reducible first|exact HB.out|apply below_alloc|apply pw_below_drewN|apply below_drew1)|exact HB.out))));have n2_:=Aside0.mk (below_step (by repeat (first|(with_reducible first|exact HB.out|apply below_alloc|apply pw_below_drewN|apply below_drew1)|exact HB.out)) hb);clear HO545;clear HB;have HO545:=n0_;have HO550:=n1_;have HB:=n2_;clear n0_ n1_ n2_;(try clear hb);(try clear hb2);(try clear hk);(try clear hi);(try clear ho0)))
   (try simp only [Act.put,List.setIfInBounds_toArray,List.set_cons_zero,List.set_cons_succ])
   go_cut [38] (fun v38 wc=>∃ (kq : Nat) (x38_13 : Bool),v38 = .bool x38_13 ∧ Aside0 (ratlinelaw07_BlockCut.j0 kq t543 a1 a2 t547 x38_13 = some r) ∧ Aside0 (kq ≤ k) ∧ Aside0 (Kd.R k59 59 wc w.heap.size (fun _=>True) (.slice Ao17 t543.length co17) t543) ∧ Aside0 (Kd.R (Kd.int .u8) 5 wc w.heap.size (fun _=>True) v549 t547) ∧ Aside0 (Below w.heap.size w wc))
   case first =>
    have H:=HC14.out
    clear HC14
    by_cases c19 : t548 = 0
    ·rw [if_pos c19] at H
     have c19b0 : (t548 == 0) = true:=beq_iff_eq.mpr c19
     have c19b1 : (t548 != 0) = false:=bne_eq_false_iff_eq.mpr c19
     clear c19
     (first|rw [c19b0]|(simp only [i64_w,i32_w];rw [c19b0])|skip)
     have H':=Aside0.mk H
     clear H
     obtain ⟨Ao20,co20,eo20⟩:=Kd.R_slice HO550.out
     subst eo20
     go_wp2
     go_meet
     case rel=>exact ⟨_,(((t547.length : Int) == 0)),(by first|rfl|(simp;done)|(simp [*];done)),H',⟨by first|omega|exact Nat.le_refl _⟩,⟨by (with_reducible repeat (first|apply Kd.R_alloc|apply Kd.R_drewN|apply Kd.R_drew));exact HO545.out⟩,⟨by (with_reducible repeat (first|apply Kd.R_alloc|apply Kd.R_drewN|apply Kd.R_drew));exact HO550.out⟩,⟨by repeat (first|(with_reducible first|exact HB.out|apply below_alloc|apply pw_below_drewN|apply below_drew1)|exact HB.out)⟩⟩
    ·rw [if_neg c19] at H
     have c19b0 : (t548 == 0) = false:=beq_eq_false_iff_ne.mpr c19
     have c19b1 : (t548 != 0) = true:=bne_iff_ne.mpr c19
     (first|rw [c19b0]|(simp only [i64_w,i32_w];rw [c19b0])|skip)
     have H':=Aside0.mk H
     clear H
     go_wp2
     go_meet
     case rel=>exact ⟨_,(true),(by first|rfl|(simp;done)|(simp [*];done)),H',⟨by first|omega|exact Nat.le_refl _⟩,⟨by (with_reducible repeat (first|apply Kd.R_alloc|apply Kd.R_drewN|apply Kd.R_drew));exact HO545.out⟩,⟨by (with_reducible repeat (first|apply Kd.R_alloc|apply Kd.R_drewN|apply Kd.R_drew));exact HO550.out⟩,⟨by repeat (first|(with_reducible first|exact HB.out|apply below_alloc|apply pw_below_drewN|apply below_drew1)|exact HB.out)⟩⟩
   case rest =>
    clear HC14
    try clear c1
    try clear c2
    try clear p2
    try clear c3
    try clear c5
    try clear c7
    try clear c7b0
    try clear c7b1
    try clear c7b2
    try clear c8
    try clear c19
    try clear c19b0
    try clear c19b1
    try clear c20
    obtain ⟨kq,x38_13,rfl,HA,HJ13,HO_0,HO_7,HB⟩:=hcut
    cases kq with
    | zero=>exact absurd HA.out (by simp [ratlinelaw07_BlockCut.j0])
    | succ kj13 =>
     have H:=HA.out
     clear HA
     simp only [ratlinelaw07_BlockCut.j0] at H
     by_cases c21 : x38_13 = true
     ·subst c21
      have H1 : (none) = some r:=by rw [if_pos rfl] at H;exact H
      clear H
      have H:=H1
      clear H1
      exact absurd H (by simp)
     ·replace c21:=Bool.eq_false_iff.mpr c21
      subst c21
      have H1 : (if (t547.length : Int) = 0 then (none) else (ratlinelaw07_BlockCut.l0 kj13 t543 a2 t547 (Int.tmod (wrap64 (a1)) (t547.length : Int)) (wrap64 (4 * (wrap64 ((t543.length : Int) + 2)))) t543 (t543.length : Int) 0)) = some r:=by rw [if_neg (show ¬ (false = true) by decide)] at H;exact H
      clear H
      have H:=H1
      clear H1
      by_cases c22 : (t547.length : Int) = 0
      ·rw [if_pos c22] at H
       exact absurd H (by simp)
      ·rw [if_neg c22] at H
       have c22b0 : ((t547.length : Int) == 0) = false:=beq_eq_false_iff_ne.mpr c22
       have c22b1 : ((t547.length : Int) != 0) = true:=bne_iff_ne.mpr c22
       have c22b2 : ¬ (t547 = []):=fun h_=>c22 (by rw [h_];rfl)
       have H':=Aside0.mk H
       clear H
       obtain ⟨Ao23,co23,eo23⟩:=Kd.R_slice HO_7.out
       subst eo23
       go_wp2
       go_loopg [10,50] kj13 (fun kq v10 v50 w'=>∃ (x10_2 : Int) (x50_2 : Int),v10 = .int .i64 x10_2 ∧ v50 = .int .i64 x50_2 ∧ Aside0 (ratlinelaw07_BlockCut.l0 kq t543 a2 t547 (Int.tmod (wrap64 (a1)) (t547.length : Int)) x10_2 t543 (t543.length : Int) x50_2 = some r) ∧ Aside0 (kq ≤ kj13) ∧ Aside0 (Kd.R k59 59 w' w.heap.size (fun _=>True) (.slice Ao17 t543.length co17) t543) ∧ Aside0 (Kd.R (Kd.int .u8) 5 w' w.heap.size (fun _=>True) (.slice Ao23 t547.length co23) t547) ∧ Aside0 (Kd.R k59 59 w' w.heap.size (fun _=>True) (.slice Ao17 t543.length co17) t543) ∧ Aside0 (Below w.heap.size w w'))
       case atStart=>exact ⟨(wrap64 (4 * (wrap64 ((t543.length : Int) + 2)))),(0),(by first|rfl|(simp;done)|(simp [*];done)),(by first|rfl|(simp;done)|(simp [*];done)),H',⟨Nat.le_refl _⟩,⟨by (with_reducible repeat (first|apply Kd.R_alloc|apply Kd.R_drewN|apply Kd.R_drew));exact HO_0.out⟩,⟨by (with_reducible repeat (first|apply Kd.R_alloc|apply Kd.R_drewN|apply Kd.R_drew));exact HO_7.out⟩,⟨by (with_reducible repeat (first|apply Kd.R_alloc|apply Kd.R_drewN|apply Kd.R_drew));exact HO_0.out⟩,⟨by repeat (first|(with_reducible first|exact HB.out|apply below_alloc|apply pw_below_drewN|apply below_drew1)|exact HB.out)⟩⟩
       case round =>
        clear H'
        try clear c1
        try clear c2
        try clear p2
        try clear c3
        try clear c5
        try clear p6
        try clear c7
        try clear c7b0
        try clear c7b1
        try clear c7b2
        try clear c8
        try clear c19
        try clear c19b0
        try clear c19b1
        try clear c20
        try clear c21
        try clear c22
        try clear c22b0
        try clear c22b1
        try clear c22b2
        try clear p2
        obtain ⟨x10_2,x50_2,rfl,rfl,HA,HK2,HO_0,HO_7,HO_48,HB⟩:=hrel
        cases gk with
        | zero=>exact absurd HA.out (by simp [ratlinelaw07_BlockCut.l0])
        | succ k2 =>
         have H:=HA.out
         clear HA
         simp only [ratlinelaw07_BlockCut.l0] at H
         by_cases c24 : x50_2 < (t543.length : Int)
         ·rw [if_pos c24] at H
          have c24b0 : decide (x50_2 < (t543.length : Int)) = true:=decide_eq_true c24
          clear c24
          by_cases c25 : 0 ≤ x50_2
          ·rw [if_pos c25] at H
           have c25b0 : decide (0 ≤ x50_2) = true:=decide_eq_true c25
           clear c25
           by_cases c26 : x50_2 < (t543.length : Int)
           ·rw [if_pos c26] at H
            have c26b0 : decide (x50_2 < (t543.length : Int)) = true:=decide_eq_true c26
            clear c26
            have H':=Aside0.mk H
            clear H
            have p551 : 0 ≤ (x50_2 : Int):=of_decide_eq_true (by first|(with_reducible assumption)|assumption)
            have q551 : x50_2 < (t543.length : Int):=of_decide_eq_true (by first|(with_reducible assumption)|assumption)
            obtain ⟨ad551,e551,hx551_0,hx551_1,hx551_2,hx551_3⟩:=at_T59 (Kd.R_reads' HO_48.out).2.2 x50_2 p551 q551
            cases e551
            replace p551:=eq_true p551
            replace q551:=eq_true q551
            go_wp2_with (first|((with_reducible refine gate_dst (N:=12) rfl ?_);(try (refine gate_guard (by rfl) ?_;dsimp only));refine box_event ?hg (N:=12) ?hd (cs:=#[.string (⟨#[]⟩ : ByteArray),.int .u64 0,.int .u8 0,.string (⟨#[]⟩ : ByteArray)]) (t:=59) ?hr ?_;(case hd=>rfl);(case hg=>rfl);(case hr=>first|(go_simp;done)|(go_simp;rfl));intro gb552 hg w27 hbox hb;have n0_:=Aside0.mk (Kd.R_below (Kd.R_elderB (by (with_reducible repeat (first|apply Kd.R_alloc|apply Kd.R_drewN|apply Kd.R_drew));exact HO_0.out) gb552 (Nat.le_of_eq hg.symm)) hb);have n1_:=Aside0.mk (Kd.R_below (by (with_reducible repeat (first|apply Kd.R_alloc|apply Kd.R_drewN|apply Kd.R_drew));exact HO_7.out) hb);have n2_:=Aside0.mk (Kd.R_below (Kd.R_elderB (by (with_reducible repeat (first|apply Kd.R_alloc|apply Kd.R_drewN|apply Kd.R_drew));exact HO_48.out) gb552 (Nat.le_of_eq hg.symm)) hb);have n3_:=Aside0.mk (below_step (by repeat (first|(with_reducible first|exact HB.out|apply below_alloc|apply pw_below_drewN|apply below_drew1)|exact HB.out)) hb);have n4_:=Aside0.mk (hbox);have n5_:=Aside0.mk ((by rw [hg];exact (below_size (by repeat (first|(with_reducible first|exact HB.out|apply below_alloc|apply pw_below_drewN|apply below_drew1)|exact HB.out))) : w.heap.size ≤ gb552));have n6_:=Aside0.mk ((by rw [hg];exact (below_size (by repeat (first|(with_reducible first|exact HB.out|apply below_alloc|apply pw_below_drewN|apply below_drew1)|exact HB.out))) : w.heap.size ≤ gb552));clear HO_0;clear HO_7;clear HO_48;clear HB;have HO_0:=n0_;have HO_7:=n1_;have HO_48:=n2_;have HB:=n3_;have BK552:=n4_;have GW552:=n5_;have GE552:=n6_;clear n0_ n1_ n2_ n3_ n4_ n5_ n6_;clear hb hbox hg;have hcz28_0 : w27.cell? ⟨gb552,0,none⟩ = some (.string (⟨#[]⟩ : ByteArray)):=(blk_cell BK552.out 0).trans rfl;have hcz28_1 : w27.cell? ⟨gb552,1,none⟩ = some (.int .u64 0):=(blk_cell BK552.out 1).trans rfl;have hcz28_2 : w27.cell? ⟨gb552,2,none⟩ = some (.int .u8 0):=(blk_cell BK552.out 2).trans rfl;have hcz28_3 : w27.cell? ⟨gb552,3,none⟩ = some (.string (⟨#[]⟩ : ByteArray)):=(blk_cell BK552.out 3).trans rfl;have hfz28_0:=blk_frozen BK552.out 0;have hfz28_1:=blk_frozen BK552.out 1;have hfz28_2:=blk_frozen BK552.out 2;have hfz28_3:=blk_frozen BK552.out 3))
            go_roundg k2
            case measure=>have:=HJ13.out;have:=HK2.out;omega
            case rel=>exact ⟨(wrap64 (x10_2 + (wrap64 ((wrap64 ((wrap64 ((wrap64 ((wrap64 ((((rd_T59 t543 x50_2).f0.f0).size : Int) + (((rd_T59 t543 x50_2).f1).size : Int))) + 1)) + 2)) + 9)) + 2)))),(wrap64 (x50_2 + 1)),(by first|rfl|(simp;done)|(simp [*];done)),(by first|rfl|(simp;done)|(simp [*];done)),H',⟨by have:=HJ13.out;have:=HK2.out;omega⟩,⟨by (with_reducible repeat (first|apply Kd.R_alloc|apply Kd.R_drewN|apply Kd.R_drew));exact Kd.R_mono (Kd.R_far (p:=⟨gb552,3,none⟩) (Kd.R_far (p:=⟨gb552,2,none⟩) (Kd.R_far (p:=⟨gb552,1,none⟩) (Kd.R_far (p:=⟨gb552,0,none⟩) (Kd.R_mono HO_0.out (fun k_ hk=>(⟨hk,hk.2⟩ : _ ∧ k_ ≠ gb552))) (fun _ hk=>hk.2) (.string ((rd_T59 t543 x50_2).f0.f0))) (fun _ hk=>hk.2) (.int .u64 ((rd_T59 t543 x50_2).f0.f1))) (fun _ hk=>hk.2) (.int .u8 ((rd_T59 t543 x50_2).f0.f2))) (fun _ hk=>hk.2) (.string ((rd_T59 t543 x50_2).f1))) (fun _ hk=>trivial)⟩,⟨by (with_reducible repeat (first|apply Kd.R_alloc|apply Kd.R_drewN|apply Kd.R_drew));exact Kd.R_mono (Kd.R_far (p:=⟨gb552,3,none⟩) (Kd.R_far (p:=⟨gb552,2,none⟩) (Kd.R_far (p:=⟨gb552,1,none⟩) (Kd.R_far (p:=⟨gb552,0,none⟩) (Kd.R_types HO_7.out BK552.out (by decide)) (fun _ hk=>hk.2) (.string ((rd_T59 t543 x50_2).f0.f0))) (fun _ hk=>hk.2) (.int .u64 ((rd_T59 t543 x50_2).f0.f1))) (fun _ hk=>hk.2) (.int .u8 ((rd_T59 t543 x50_2).f0.f2))) (fun _ hk=>hk.2) (.string ((rd_T59 t543 x50_2).f1))) (fun _ hk=>trivial)⟩,⟨by (with_reducible repeat (first|apply Kd.R_alloc|apply Kd.R_drewN|apply Kd.R_drew));exact Kd.R_mono (Kd.R_far (p:=⟨gb552,3,none⟩) (Kd.R_far (p:=⟨gb552,2,none⟩) (Kd.R_far (p:=⟨gb552,1,none⟩) (Kd.R_far (p:=⟨gb552,0,none⟩) (Kd.R_mono HO_48.out (fun k_ hk=>(⟨hk,hk.2⟩ : _ ∧ k_ ≠ gb552))) (fun _ hk=>hk.2) (.string ((rd_T59 t543 x50_2).f0.f0))) (fun _ hk=>hk.2) (.int .u64 ((rd_T59 t543 x50_2).f0.f1))) (fun _ hk=>hk.2) (.int .u8 ((rd_T59 t543 x50_2).f0.f2))) (fun _ hk=>hk.2) (.string ((rd_T59 t543 x50_2).f1))) (fun _ hk=>trivial)⟩,⟨by repeat (first|(with_reducible first|exact HB.out|apply below_alloc|apply pw_below_drewN|apply below_drew1|refine below_set ?_ GE552.out)|exact HB.out)⟩⟩
           ·rw [if_neg c26] at H
            exact absurd H (by simp)
          ·rw [if_neg c25] at H
           exact absurd H (by simp)
         ·rw [if_neg c24] at H
          have c24b0 : decide (x50_2 < (t543.length : Int)) = false:=decide_eq_false c24
          clear c24
          obtain ⟨ji29,hji29⟩ : ∃ j_ : Int,(Int.tmod (wrap64 (a1)) (t547.length : Int)) = j_:=⟨_,rfl⟩
          replace H : (if 0 ≤ (ji29) then (if (ji29) ≤ (t547.length : Int) then ((some (([] : List Int) : List Int)).bind fun y558=>(if y558.length + t547.length < 140737488355328 then ((some (y558 ++ t547 : List Int)).bind fun y561=>((some (([a2] : List Int) : List Int)).bind fun y564=>(if y561.length + y564.length < 140737488355328 then ((some (([] : List Int) : List Int)).bind fun y570=>((some (t547.take ((ji29) : Int).toNat : List Int)).bind fun y573=>(if y570.length + y573.length < 140737488355328 then ((some (y570 ++ y573 : List Int)).bind fun y578=>(if 0 ≤ (wrap64 ((ji29) + 1)) then (if (wrap64 ((ji29) + 1)) ≤ (t547.length : Int) then ((some (t547.drop ((wrap64 ((ji29) + 1)) : Int).toNat : List Int)).bind fun y581=>(if y578.length + y581.length < 140737488355328 then ((some (([(t547.take ((ji29) : Int).toNat),(y561 ++ y564),(y578 ++ y581)] : List (List Int)) : List (List Int))).bind fun y589=>(ratlinelaw07_BlockCut.l1 k2 t543 t547 x10_2 y589 (y589.length : Int) 0)) else (none))) else (none)) else (none))) else (none)))) else (none)))) else (none))) else (none)) else (none)) = some r:=by first|(rw [hji29] at H;exact H)|(simp only [hji29] at H ⊢;exact H)
          by_cases c30 : 0 ≤ (ji29)
          ·rw [if_pos c30] at H
           have c30b0:=eq_true c30
           have c30b1 : decide (0 ≤ (ji29)) = true:=decide_eq_true c30
           clear c30
           by_cases c31 : (ji29) ≤ (t547.length : Int)
           ·rw [if_pos c31] at H
            have c31b0:=eq_true c31
            have c31b1 : decide ((ji29) ≤ (t547.length : Int)) = true:=decide_eq_true c31
            clear c31
            obtain ⟨y553,hy553⟩ : ∃ y_ : List Int,y_ = (t547.take ((ji29) : Int).toNat):=⟨_,rfl⟩
            replace H : ((some (([] : List Int) : List Int)).bind fun y558=>(if y558.length + t547.length < 140737488355328 then ((some (y558 ++ t547 : List Int)).bind fun y561=>((some (([a2] : List Int) : List Int)).bind fun y564=>(if y561.length + y564.length < 140737488355328 then ((some (([] : List Int) : List Int)).bind fun y570=>((some (t547.take ((ji29) : Int).toNat : List Int)).bind fun y573=>(if y570.length + y573.length < 140737488355328 then ((some (y570 ++ y573 : List Int)).bind fun y578=>(if 0 ≤ (wrap64 ((ji29) + 1)) then (if (wrap64 ((ji29) + 1)) ≤ (t547.length : Int) then ((some (t547.drop ((wrap64 ((ji29) + 1)) : Int).toNat : List Int)).bind fun y581=>(if y578.length + y581.length < 140737488355328 then ((some (([y553,(y561 ++ y564),(y578 ++ y581)] : List (List Int)) : List (List Int))).bind fun y589=>(ratlinelaw07_BlockCut.l1 k2 t543 t547 x10_2 y589 (y589.length : Int) 0)) else (none))) else (none)) else (none))) else (none)))) else (none)))) else (none))) = some r:=by first|(rw [hy553];with_reducible exact H)|(have H2_:=(Option.bind_some _ _).symm.trans H;rw [hy553];with_reducible exact H2_)|(have H2_:=(Option.bind_some _ _).symm.trans H;with_reducible exact H2_)|with_reducible exact H|(rw [hy553];exact H)|exact H
            have Ny553:=Aside0.mk hy553
            clear hy553
            obtain ⟨y558,hy558⟩ : ∃ y_ : List Int,y_ = (([] : List Int)):=⟨_,rfl⟩
            replace H : (if y558.length + t547.length < 140737488355328 then ((some (y558 ++ t547 : List Int)).bind fun y561=>((some (([a2] : List Int) : List Int)).bind fun y564=>(if y561.length + y564.length < 140737488355328 then ((some (([] : List Int) : List Int)).bind fun y570=>((some (t547.take ((ji29) : Int).toNat : List Int)).bind fun y573=>(if y570.length + y573.length < 140737488355328 then ((some (y570 ++ y573 : List Int)).bind fun y578=>(if 0 ≤ (wrap64 ((ji29) + 1)) then (if (wrap64 ((ji29) + 1)) ≤ (t547.length : Int) then ((some (t547.drop ((wrap64 ((ji29) + 1)) : Int).toNat : List Int)).bind fun y581=>(if y578.length + y581.length < 140737488355328 then ((some (([y553,(y561 ++ y564),(y578 ++ y581)] : List (List Int)) : List (List Int))).bind fun y589=>(ratlinelaw07_BlockCut.l1 k2 t543 t547 x10_2 y589 (y589.length : Int) 0)) else (none))) else (none)) else (none))) else (none)))) else (none)))) else (none)) = some r:=by first|(rw [hy558];with_reducible exact H)|(have H2_:=(Option.bind_some _ _).symm.trans H;rw [hy558];with_reducible exact H2_)|(have H2_:=(Option.bind_some _ _).symm.trans H;with_reducible exact H2_)|with_reducible exact H|(rw [hy558];exact H)|exact H
            have Ny558:=Aside0.mk hy558
            clear hy558
            by_cases c32 : y558.length + t547.length < 140737488355328
            ·rw [if_pos c32] at H
             have LMc32:=Aside0.mk c32
             clear c32
             obtain ⟨y561,hy561⟩ : ∃ y_ : List Int,y_ = (y558 ++ t547):=⟨_,rfl⟩
             replace H : ((some (([a2] : List Int) : List Int)).bind fun y564=>(if y561.length + y564.length < 140737488355328 then ((some (([] : List Int) : List Int)).bind fun y570=>((some (t547.take ((ji29) : Int).toNat : List Int)).bind fun y573=>(if y570.length + y573.length < 140737488355328 then ((some (y570 ++ y573 : List Int)).bind fun y578=>(if 0 ≤ (wrap64 ((ji29) + 1)) then (if (wrap64 ((ji29) + 1)) ≤ (t547.length : Int) then ((some (t547.drop ((wrap64 ((ji29) + 1)) : Int).toNat : List Int)).bind fun y581=>(if y578.length + y581.length < 140737488355328 then ((some (([y553,(y561 ++ y564),(y578 ++ y581)] : List (List Int)) : List (List Int))).bind fun y589=>(ratlinelaw07_BlockCut.l1 k2 t543 t547 x10_2 y589 (y589.length : Int) 0)) else (none))) else (none)) else (none))) else (none)))) else (none))) = some r:=by first|(rw [hy561];with_reducible exact H)|(have H2_:=(Option.bind_some _ _).symm.trans H;rw [hy561];with_reducible exact H2_)|(have H2_:=(Option.bind_some _ _).symm.trans H;with_reducible exact H2_)|with_reducible exact H|(rw [hy561];exact H)|exact H
             have Ny561:=Aside0.mk hy561
             clear hy561
             obtain ⟨y564,hy564⟩ : ∃ y_ : List Int,y_ = (([a2] : List Int)):=⟨_,rfl⟩
             replace H : (if y561.length + y564.length < 140737488355328 then ((some (([] : List Int) : List Int)).bind fun y570=>((some (t547.take ((ji29) : Int).toNat : List Int)).bind fun y573=>(if y570.length + y573.length < 140737488355328 then ((some (y570 ++ y573 : List Int)).bind fun y578=>(if 0 ≤ (wrap64 ((ji29) + 1)) then (if (wrap64 ((ji29) + 1)) ≤ (t547.length : Int) then ((some (t547.drop ((wrap64 ((ji29) + 1)) : Int).toNat : List Int)).bind fun y581=>(if y578.length + y581.length < 140737488355328 then ((some (([y553,(y561 ++ y564),(y578 ++ y581)] : List (List Int)) : List (List Int))).bind fun y589=>(ratlinelaw07_BlockCut.l1 k2 t543 t547 x10_2 y589 (y589.length : Int) 0)) else (none))) else (none)) else (none))) else (none)))) else (none)) = some r:=by first|(rw [hy564];with_reducible exact H)|(have H2_:=(Option.bind_some _ _).symm.trans H;rw [hy564];with_reducible exact H2_)|(have H2_:=(Option.bind_some _ _).symm.trans H;with_reducible exact H2_)|with_reducible exact H|(rw [hy564];exact H)|exact H
             have Ny564:=Aside0.mk hy564
             clear hy564
             by_cases c33 : y561.length + y564.length < 140737488355328
             ·rw [if_pos c33] at H
              have LMc33:=Aside0.mk c33
              clear c33
              obtain ⟨y567,hy567⟩ : ∃ y_ : List Int,y_ = (y561 ++ y564):=⟨_,rfl⟩
              replace H : ((some (([] : List Int) : List Int)).bind fun y570=>((some (t547.take ((ji29) : Int).toNat : List Int)).bind fun y573=>(if y570.length + y573.length < 140737488355328 then ((some (y570 ++ y573 : List Int)).bind fun y578=>(if 0 ≤ (wrap64 ((ji29) + 1)) then (if (wrap64 ((ji29) + 1)) ≤ (t547.length : Int) then ((some (t547.drop ((wrap64 ((ji29) + 1)) : Int).toNat : List Int)).bind fun y581=>(if y578.length + y581.length < 140737488355328 then ((some (([y553,y567,(y578 ++ y581)] : List (List Int)) : List (List Int))).bind fun y589=>(ratlinelaw07_BlockCut.l1 k2 t543 t547 x10_2 y589 (y589.length : Int) 0)) else (none))) else (none)) else (none))) else (none)))) = some r:=by first|(rw [hy567];with_reducible exact H)|(have H2_:=(Option.bind_some _ _).symm.trans H;rw [hy567];with_reducible exact H2_)|(have H2_:=(Option.bind_some _ _).symm.trans H;with_reducible exact H2_)|with_reducible exact H|(rw [hy567];exact H)|exact H
              have Ny567:=Aside0.mk hy567
              clear hy567
              obtain ⟨y570,hy570⟩ : ∃ y_ : List Int,y_ = (([] : List Int)):=⟨_,rfl⟩
              replace H : ((some (t547.take ((ji29) : Int).toNat : List Int)).bind fun y573=>(if y570.length + y573.length < 140737488355328 then ((some (y570 ++ y573 : List Int)).bind fun y578=>(if 0 ≤ (wrap64 ((ji29) + 1)) then (if (wrap64 ((ji29) + 1)) ≤ (t547.length : Int) then ((some (t547.drop ((wrap64 ((ji29) + 1)) : Int).toNat : List Int)).bind fun y581=>(if y578.length + y581.length < 140737488355328 then ((some (([y553,y567,(y578 ++ y581)] : List (List Int)) : List (List Int))).bind fun y589=>(ratlinelaw07_BlockCut.l1 k2 t543 t547 x10_2 y589 (y589.length : Int) 0)) else (none))) else (none)) else (none))) else (none))) = some r:=by first|(rw [hy570];with_reducible exact H)|(have H2_:=(Option.bind_some _ _).symm.trans H;rw [hy570];with_reducible exact H2_)|(have H2_:=(Option.bind_some _ _).symm.trans H;with_reducible exact H2_)|with_reducible exact H|(rw [hy570];exact H)|exact H
              have Ny570:=Aside0.mk hy570
              clear hy570
              have c34b0:=eq_true (of_decide_eq_true (by first|(with_reducible assumption)|assumption) : 0 ≤ (ji29))
              have c35b0:=eq_true (of_decide_eq_true (by first|(with_reducible assumption)|assumption) : (ji29) ≤ (t547.length : Int))
              obtain ⟨y573,hy573⟩ : ∃ y_ : List Int,y_ = (t547.take ((ji29) : Int).toNat):=⟨_,rfl⟩
              replace H : (if y570.length + y573.length < 140737488355328 then ((some (y570 ++ y573 : List Int)).bind fun y578=>(if 0 ≤ (wrap64 ((ji29) + 1)) then (if (wrap64 ((ji29) + 1)) ≤ (t547.length : Int) then ((some (t547.drop ((wrap64 ((ji29) + 1)) : Int).toNat : List Int)).bind fun y581=>(if y578.length + y581.length < 140737488355328 then ((some (([y553,y567,(y578 ++ y581)] : List (List Int)) : List (List Int))).bind fun y589=>(ratlinelaw07_BlockCut.l1 k2 t543 t547 x10_2 y589 (y589.length : Int) 0)) else (none))) else (none)) else (none))) else (none)) = some r:=by first|(rw [hy573];with_reducible exact H)|(have H2_:=(Option.bind_some _ _).symm.trans H;rw [hy573];with_reducible exact H2_)|(have H2_:=(Option.bind_some _ _).symm.trans H;with_reducible exact H2_)|with_reducible exact H|(rw [hy573];exact H)|exact H
              have Ny573:=Aside0.mk hy573
              clear hy573
              by_cases c36 : y570.length + y573.length < 140737488355328
              ·rw [if_pos c36] at H
               have LMc36:=Aside0.mk c36
               clear c36
               obtain ⟨y578,hy578⟩ : ∃ y_ : List Int,y_ = (y570 ++ y573):=⟨_,rfl⟩
               replace H : (if 0 ≤ (wrap64 ((ji29) + 1)) then (if (wrap64 ((ji29) + 1)) ≤ (t547.length : Int) then ((some (t547.drop ((wrap64 ((ji29) + 1)) : Int).toNat : List Int)).bind fun y581=>(if y578.length + y581.length < 140737488355328 then ((some (([y553,y567,(y578 ++ y581)] : List (List Int)) : List (List Int))).bind fun y589=>(ratlinelaw07_BlockCut.l1 k2 t543 t547 x10_2 y589 (y589.length : Int) 0)) else (none))) else (none)) else (none)) = some r:=by first|(rw [hy578];with_reducible exact H)|(have H2_:=(Option.bind_some _ _).symm.trans H;rw [hy578];with_reducible exact H2_)|(have H2_:=(Option.bind_some _ _).symm.trans H;with_reducible exact H2_)|with_reducible exact H|(rw [hy578];exact H)|exact H
               have Ny578:=Aside0.mk hy578
               clear hy578
               obtain ⟨ji37,hji37⟩ : ∃ j_ : Int,(wrap64 ((ji29) + 1)) = j_:=⟨_,rfl⟩
               replace H : (if 0 ≤ (ji37) then (if (ji37) ≤ (t547.length : Int) then ((some (t547.drop ((ji37) : Int).toNat : List Int)).bind fun y581=>(if y578.length + y581.length < 140737488355328 then ((some (([y553,y567,(y578 ++ y581)] : List (List Int)) : List (List Int))).bind fun y589=>(ratlinelaw07_BlockCut.l1 k2 t543 t547 x10_2 y589 (y589.length : Int) 0)) else (none))) else (none)) else (none)) = some r:=by first|(rw [hji37] at H;exact H)|(simp only [hji37] at H ⊢;exact H)
               have hji37w : (IntKind.i64.wrap ((ji29) + 1)) = ji37:=(i64_w _).trans hji37
               by_cases c38 : 0 ≤ (ji37)
               ·rw [if_pos c38] at H
                have c38b0:=eq_true c38
                have c38b1 : decide (0 ≤ (ji37)) = true:=decide_eq_true c38
                clear c38
                by_cases c39 : (ji37) ≤ (t547.length : Int)
                ·rw [if_pos c39] at H
                 have c39b0:=eq_true c39
                 have c39b1 : decide ((ji37) ≤ (t547.length : Int)) = true:=decide_eq_true c39
                 clear c39
                 obtain ⟨y581,hy581⟩ : ∃ y_ : List Int,y_ = (t547.drop ((ji37) : Int).toNat):=⟨_,rfl⟩
                 replace H : (if y578.length + y581.length < 140737488355328 then ((some (([y553,y567,(y578 ++ y581)] : List (List Int)) : List (List Int))).bind fun y589=>(ratlinelaw07_BlockCut.l1 k2 t543 t547 x10_2 y589 (y589.length : Int) 0)) else (none)) = some r:=by first|(rw [hy581];with_reducible exact H)|(have H2_:=(Option.bind_some _ _).symm.trans H;rw [hy581];with_reducible exact H2_)|(have H2_:=(Option.bind_some _ _).symm.trans H;with_reducible exact H2_)|with_reducible exact H|(rw [hy581];exact H)|exact H
                 have Ny581:=Aside0.mk hy581
                 clear hy581
                 by_cases c40 : y578.length + y581.length < 140737488355328
                 ·rw [if_pos c40] at H
                  have LMc40:=Aside0.mk c40
                  clear c40
                  obtain ⟨y586,hy586⟩ : ∃ y_ : List Int,y_ = (y578 ++ y581):=⟨_,rfl⟩
                  replace H : ((some (([y553,y567,y586] : List (List Int)) : List (List Int))).bind fun y589=>(ratlinelaw07_BlockCut.l1 k2 t543 t547 x10_2 y589 (y589.length : Int) 0)) = some r:=by first|(rw [hy586];with_reducible exact H)|(have H2_:=(Option.bind_some _ _).symm.trans H;rw [hy586];with_reducible exact H2_)|(have H2_:=(Option.bind_some _ _).symm.trans H;with_reducible exact H2_)|with_reducible exact H|(rw [hy586];exact H)|exact H
                  have Ny586:=Aside0.mk hy586
                  clear hy586
                  obtain ⟨y589,hy589⟩ : ∃ y_ : List (List Int),y_ = (([y553,y567,y586] : List (List Int))):=⟨_,rfl⟩
                  replace H : (ratlinelaw07_BlockCut.l1 k2 t543 t547 x10_2 y589 (y589.length : Int) 0) = some r:=by first|(rw [hy589];with_reducible exact H)|(have H2_:=(Option.bind_some _ _).symm.trans H;rw [hy589];with_reducible exact H2_)|(have H2_:=(Option.bind_some _ _).symm.trans H;with_reducible exact H2_)|with_reducible exact H|(rw [hy589];exact H)|exact H
                  have Ny589:=Aside0.mk hy589
                  clear hy589
                  have H':=Aside0.mk H
                  clear H
                  try go_wp2
                  have n0_:=Aside0.mk (Kd.R_drew HO_0.out)
                  have n1_:=Aside0.mk (Kd.R_drew HO_7.out)
                  have n2_:=Aside0.mk (Kd.R_drew HO_48.out)
                  have n3_:=Aside0.mk (below_drew1 HB.out)
                  clear HO_0
                  clear HO_7
                  clear HO_48
                  clear HB
                  have HO_0:=n0_
                  have HO_7:=n1_
                  have HO_48:=n2_
                  have HB:=n3_
                  clear n0_ n1_ n2_ n3_
                  have q42 : ((ji29) : Int) ≤ ((t547.length : Int) : Int):=of_decide_eq_true (by first|(with_reducible assumption)|assumption)
                  obtain ⟨i042,hi042,_,hsz42,_⟩:=info_parts info5
                  have hroom42 : t547.length ≤ co23:=(Kd.R_reads' HO_7.out).2.1
                  have hC42 : Kd.F (Kd.int .u8) _ _ Ao23 t547.length t547:=(Kd.V_at (base:=w.heap.size) (Kd.R_V (Kd.R_apart' (Kd.R_apart' (HO_7.out) (Kd.R_typed HO_0.out) (by decide)) (Kd.R_typed HO_48.out) (by decide)))).2.2
                  have hcut42:=cut_to (P:=Try.prog) 26 5 .i64 Try.underlying26 hi042 Ao23 t547.length co23 (ji29) (of_decide_eq_true (by first|(with_reducible assumption)|assumption)) q42 hroom42
                  have hr42:=Kd.F_take (m:=((ji29) : Int).toNat) hC42 (by omega)
                  have hy42 : y553.length = ((ji29) : Int).toNat:=(by rw [Ny553.out,List.length_take];omega)
                  rw [← Ny553.out] at hr42
                  rw [← hy42] at hcut42
                  have HO557:=Aside0.mk (show Kd.V (Kd.int .u8) 5 _ w.heap.size _ (.slice Ao23 y553.length co23) y553 from Kd.V_mk (by omega) hr42)
                  have HC557:=Aside0.mk (show y553.length ≤ co23 from by omega)
                  clear hr42 hC42 hroom42 hi042 hsz42
                  have KY42:=Aside0.mk hy42
                  clear hy42
                  replace q42:=eq_true q42
                  have q43 : ((ji29) : Int) ≤ ((t547.length : Int) : Int):=of_decide_eq_true (by first|(with_reducible assumption)|assumption)
                  obtain ⟨i043,hi043,_,hsz43,_⟩:=info_parts info5
                  have hroom43 : t547.length ≤ co23:=(Kd.R_reads' HO_7.out).2.1
                  have hC43 : Kd.F (Kd.int .u8) _ _ Ao23 t547.length t547:=(Kd.V_at (base:=w.heap.size) (Kd.R_V (Kd.R_apart' (Kd.R_apart' (HO_7.out) (Kd.R_typed HO_0.out) (by decide)) (Kd.R_typed HO_48.out) (by decide)))).2.2
                  have hcut43:=cut_to (P:=Try.prog) 26 5 .i64 Try.underlying26 hi043 Ao23 t547.length co23 (ji29) (of_decide_eq_true (by first|(with_reducible assumption)|assumption)) q43 hroom43
                  have hr43:=Kd.F_take (m:=((ji29) : Int).toNat) hC43 (by omega)
                  have hy43 : y573.length = ((ji29) : Int).toNat:=(by rw [Ny573.out,List.length_take];omega)
                  rw [← Ny573.out] at hr43
                  rw [← hy43] at hcut43
                  have HO577:=Aside0.mk (show Kd.V (Kd.int .u8) 5 _ w.heap.size _ (.slice Ao23 y573.length co23) y573 from Kd.V_mk (by omega) hr43)
                  have HC577:=Aside0.mk (show y573.length ≤ co23 from by omega)
                  clear hr43 hC43 hroom43 hi043 hsz43
                  have KY43:=Aside0.mk hy43
                  clear hy43
                  replace q43:=eq_true q43
                  have q44 : ((ji37) : Int) ≤ ((t547.length : Int) : Int):=of_decide_eq_true (by first|(with_reducible assumption)|assumption)
                  obtain ⟨i044,hi044,_,hsz44,_⟩:=info_parts info5
                  have hroom44 : t547.length ≤ co23:=(Kd.R_reads' HO_7.out).2.1
                  have hC44 : Kd.F (Kd.int .u8) _ _ Ao23 t547.length t547:=(Kd.V_at (base:=w.heap.size) (Kd.R_V (Kd.R_apart' (Kd.R_apart' (HO_7.out) (Kd.R_typed HO_0.out) (by decide)) (Kd.R_typed HO_48.out) (by decide)))).2.2
                  have q044 : (0 : Int) ≤ ((ji37) : Int):=of_decide_eq_true (by first|(with_reducible assumption)|assumption)
                  have hcut44:=cut_from (P:=Try.prog) 26 5 .i64 Try.underlying26 hi044 1 hsz44 Ao23 t547.length co23 (ji37) q044 q44
                  have hr44:=Kd.F_cut (m:=((ji37) : Int).toNat) (c:=co23) hC44 (by omega) hroom44
                  obtain ⟨A44,hA44⟩ : ∃ A1,A1 = (if co23 = ((ji37) : Int).toNat then Ao23 else (Ao23 : Option Addr).map (·.add (((ji37) : Int).toNat * 1))):=⟨_,rfl⟩
                  obtain ⟨c44,hc44⟩ : ∃ c1,c1 = co23 - ((ji37) : Int).toNat:=⟨_,rfl⟩
                  have hy44 : y581.length = t547.length - ((ji37) : Int).toNat:=(by rw [Ny581.out,List.length_drop] <;> omega)
                  rw [show (t547).drop ((ji37) : Int).toNat = y581 from Ny581.out.symm] at hr44
                  replace hr44 : Kd.F (Kd.int .u8) _ _ A44 y581.length y581:=(by rw [hA44];exact hr44)
                  rw [← hy44,← hA44,← hc44] at hcut44
                  have HO585:=Aside0.mk (show Kd.V (Kd.int .u8) 5 _ w.heap.size _ (.slice A44 y581.length c44) y581 from Kd.V_mk (by rw [hy44,hc44];exact Nat.sub_le_sub_right hroom44 _) hr44)
                  have HC585:=Aside0.mk (show y581.length ≤ c44 from by rw [hy44,hc44];exact Nat.sub_le_sub_right hroom44 _)
                  clear hr44 hC44 hroom44 hi044 hsz44 hc44
                  have KY44:=Aside0.mk hy44
                  have KA44:=Aside0.mk hA44
                  clear hy44 hA44
                  replace q44:=eq_true q44
                  refine start_ (n:=22) (S:=fun w'=>True) (ds:=[]) #[false,false,false,false,false,false,false,false,false,false,false,false,false,false,false,false,false,false,false,false,false,false] (by kernel_rfl) rfl rfl trivial (fun hHeld=>?_);refine with_tabW ratlinelaw07_BlockCut.tab16 ratlinelaw07_BlockCut.bits16 (fun HT_ HW_=>?_)
                  generalize wr.drew = w41 at HO_0 HO_7 HO_48 HB HO557 HO577 HO585 hHeld ⊢
                  refine pure_ (i:=0) (N:=some 69) (v:=?_) (a':=?_) #[true,false,false,false,false,false,false,false,false,false,false,false,false,false,false,false,false,false,false,false,false,false] rfl rfl (any_of HT_.out (by kernel_rfl)) (fun _ _ _ h=>h) (Or.inl ⟨by rfl,?_⟩) ?_ ?_
                  rotate_left
                  ·intro w'
                   go_simp
                   with_reducible rfl
                  rotate_left
                  ·simp only [Act.put,List.setIfInBounds_toArray,List.set_cons_zero,List.set_cons_succ,i64_w,i32_w]
                   rfl
                  refine pure_ (i:=1) (N:=some 70) (v:=?_) (a':=?_) #[true,true,false,false,false,false,false,false,false,false,false,false,false,false,false,false,false,false,false,false,false,false] rfl rfl (any_of HT_.out (by kernel_rfl)) (fun _ _ _ h=>h) (Or.inl ⟨by rfl,?_⟩) ?_ ?_
                  rotate_left
                  ·intro w'
                   go_simp
                   with_reducible rfl
                  rotate_left
                  ·simp only [Act.put,List.setIfInBounds_toArray,List.set_cons_zero,List.set_cons_succ,i64_w,i32_w]
                   rfl
                  refine pure_ (i:=2) (N:=some 71) (v:=?_) (a':=?_) #[true,true,true,false,false,false,false,false,false,false,false,false,false,false,false,false,false,false,false,false,false,false] rfl rfl (any_of HT_.out (by kernel_rfl)) (fun _ _ _ h=>h) (Or.inl ⟨by rfl,?_⟩) ?_ ?_
                  rotate_left
                  ·intro w'
                   go_simp
                   with_reducible rfl
                  rotate_left
                  ·simp only [Act.put,List.setIfInBounds_toArray,List.set_cons_zero,List.set_cons_succ,i64_w,i32_w]
                   rfl
                  refine pure_ (i:=4) (N:=some 73) (v:=?_) (a':=?_) #[true,true,true,false,true,false,false,false,false,false,false,false,false,false,false,false,false,false,false,false,false,false] rfl rfl (any_of HT_.out (by kernel_rfl)) (fun _ _ _ h=>h) (Or.inl ⟨by rfl,?_⟩) ?_ ?_
                  rotate_left
                  ·intro w'
                   go_simp
                   with_reducible rfl
                  rotate_left
                  ·simp only [Act.put,List.setIfInBounds_toArray,List.set_cons_zero,List.set_cons_succ,i64_w,i32_w]
                   rfl
                  refine pure_ (i:=6) (N:=some 75) (v:=?_) (a':=?_) #[true,true,true,false,true,false,true,false,false,false,false,false,false,false,false,false,false,false,false,false,false,false] rfl rfl (any_of HT_.out (by kernel_rfl)) (fun _ _ _ h=>h) (Or.inl ⟨by rfl,?_⟩) ?_ ?_
                  rotate_left
                  ·intro w'
                   go_simp
                   with_reducible rfl
                  rotate_left
                  ·simp only [Act.put,List.setIfInBounds_toArray,List.set_cons_zero,List.set_cons_succ,i64_w,i32_w]
                   rfl
                  refine pure_ (i:=10) (N:=some 79) (v:=?_) (a':=?_) #[true,true,true,false,true,false,true,false,false,false,true,false,false,false,false,false,false,false,false,false,false,false] rfl rfl (any_of HT_.out (by kernel_rfl)) (fun _ _ _ h=>h) (Or.inl ⟨by rfl,?_⟩) ?_ ?_
                  rotate_left
                  ·intro w'
                   go_simp
                   with_reducible rfl
                  rotate_left
                  ·simp only [Act.put,List.setIfInBounds_toArray,List.set_cons_zero,List.set_cons_succ,i64_w,i32_w]
                   rfl
                  refine pure_ (i:=11) (N:=some 80) (v:=?_) (a':=?_) #[true,true,true,false,true,false,true,false,false,false,true,true,false,false,false,false,false,false,false,false,false,false] rfl rfl (any_of HT_.out (by kernel_rfl)) (fun _ _ _ h=>h) (Or.inl ⟨by rfl,?_⟩) ?_ ?_
                  rotate_left
                  ·intro w'
                   go_simp
                   with_reducible rfl
                  rotate_left
                  ·simp only [Act.put,List.setIfInBounds_toArray,List.set_cons_zero,List.set_cons_succ,i64_w,i32_w]
                   rfl
                  refine pure_ (i:=12) (N:=some 81) (v:=?_) (a':=?_) #[true,true,true,false,true,false,true,false,false,false,true,true,true,false,false,false,false,false,false,false,false,false] rfl rfl (any_of HT_.out (by kernel_rfl)) (fun _ _ _ h=>h) (Or.inl ⟨by rfl,?_⟩) ?_ ?_
                  rotate_left
                  ·intro w'
                   go_simp
                   with_reducible rfl
                  rotate_left
                  ·simp only [Act.put,List.setIfInBounds_toArray,List.set_cons_zero,List.set_cons_succ,i64_w,i32_w]
                   rfl
                  refine pure_ (i:=14) (N:=some 83) (v:=?_) (a':=?_) #[true,true,true,false,true,false,true,false,false,false,true,true,true,false,true,false,false,false,false,false,false,false] rfl rfl (any_of HT_.out (by kernel_rfl)) (fun _ _ _ h=>h) (Or.inl ⟨by rfl,?_⟩) ?_ ?_
                  rotate_left
                  ·intro w'
                   go_simp
                   with_reducible rfl
                  rotate_left
                  ·simp only [Act.put,List.setIfInBounds_toArray,List.set_cons_zero,List.set_cons_succ,i64_w,i32_w]
                   rfl
                  refine pure_ (i:=15) (N:=some 84) (v:=?_) (a':=?_) #[true,true,true,false,true,false,true,false,false,false,true,true,true,false,true,true,false,false,false,false,false,false] rfl rfl (any_of HT_.out (by kernel_rfl)) (fun _ _ _ h=>h) (Or.inl ⟨by rfl,?_⟩) ?_ ?_
                  rotate_left
                  ·intro w'
                   go_simp
                   with_reducible rfl
                  rotate_left
                  ·simp only [Act.put,List.setIfInBounds_toArray,List.set_cons_zero,List.set_cons_succ,i64_w,i32_w]
                   rfl
                  refine pure_ (i:=16) (N:=some 85) (v:=?_) (a':=?_) #[true,true,true,false,true,false,true,false,false,false,true,true,true,false,true,true,true,false,false,false,false,false] rfl rfl (any_of HT_.out (by kernel_rfl)) (fun _ _ _ h=>h) (Or.inl ⟨by rfl,?_⟩) ?_ ?_
                  rotate_left
                  ·intro w'
                   go_simp
                   with_reducible rfl
                  rotate_left
                  ·simp only [Act.put,List.setIfInBounds_toArray,List.set_cons_zero,List.set_cons_succ,i64_w,i32_w]
                   rfl
                  refine pure_ (i:=17) (N:=some 86) (v:=?_) (a':=?_) #[true,true,true,false,true,false,true,false,false,false,true,true,true,false,true,true,true,true,false,false,false,false] rfl rfl (any_of HT_.out (by kernel_rfl)) (fun _ _ _ h=>h) (Or.inl ⟨by rfl,?_⟩) ?_ ?_
                  rotate_left
                  ·intro w'
                   go_simp
                   with_reducible rfl
                  rotate_left
                  ·simp only [Act.put,List.setIfInBounds_toArray,List.set_cons_zero,List.set_cons_succ,i64_w,i32_w]
                   rfl
                  refine pure_ (i:=21) (N:=some 90) (v:=?_) (a':=?_) #[true,true,true,false,true,false,true,false,false,false,true,true,true,false,true,true,true,true,false,false,false,true] rfl rfl (any_of HT_.out (by kernel_rfl)) (fun _ _ _ h=>h) (Or.inl ⟨by rfl,?_⟩) ?_ ?_
                  rotate_left
                  ·intro w'
                   go_simp
                   with_reducible rfl
                  rotate_left
                  ·simp only [Act.put,List.setIfInBounds_toArray,List.set_cons_zero,List.set_cons_succ,i64_w,i32_w]
                   rfl
                  refine join_ (σ:=Value × Value × Value × Value × Value) 4 #[true,true,true,true,true,true,true,true,true,true,true,true,true,false,true,true,true,true,false,false,false,true] (fun s_=>[(72,s_.1),(74,s_.2.1),(76,s_.2.2.1),(77,s_.2.2.2.1),(78,s_.2.2.2.2)]) (fun s_ w'=>(Kd.V (Kd.int .u8) 5 w' w.heap.size (fun k_=>some k_ ≠ (s_.2.2.1 : Value).ownBlock ∧ some k_ ≠ (s_.2.2.2.1 : Value).ownBlock ∧ some k_ ≠ (s_.2.2.2.2 : Value).ownBlock ∧ some k_ ≠ (.slice Ao17 t543.length co17 : Value).ownBlock ∧ some k_ ≠ (.slice Ao17 t543.length co17 : Value).ownBlock) (.slice Ao23 y553.length co23) y553) ∧ (Kd.R (Kd.int .u8) 5 w' w.heap.size (fun k_=>some k_ ≠ (s_.2.2.2.1 : Value).ownBlock ∧ some k_ ≠ (s_.2.2.2.2 : Value).ownBlock ∧ some k_ ≠ (.slice Ao23 t547.length co23 : Value).ownBlock) s_.2.2.1 y564) ∧ (Kd.R (Kd.int .u8) 5 w' w.heap.size (fun k_=>some k_ ≠ (s_.2.2.1 : Value).ownBlock ∧ some k_ ≠ (s_.2.2.2.2 : Value).ownBlock ∧ some k_ ≠ (.slice Ao23 t547.length co23 : Value).ownBlock) s_.2.2.2.1 y567) ∧ (Kd.R (Kd.int .u8) 5 w' w.heap.size (fun k_=>some k_ ≠ (s_.2.2.1 : Value).ownBlock ∧ some k_ ≠ (s_.2.2.2.1 : Value).ownBlock ∧ some k_ ≠ (.slice Ao23 t547.length co23 : Value).ownBlock) s_.2.2.2.2 y570) ∧ (Kd.V (Kd.int .u8) 5 w' w.heap.size (fun k_=>some k_ ≠ (s_.2.2.1 : Value).ownBlock ∧ some k_ ≠ (s_.2.2.2.1 : Value).ownBlock ∧ some k_ ≠ (s_.2.2.2.2 : Value).ownBlock ∧ some k_ ≠ (.slice Ao17 t543.length co17 : Value).ownBlock ∧ some k_ ≠ (.slice Ao17 t543.length co17 : Value).ownBlock) (.slice Ao23 y573.length co23) y573) ∧ (Kd.V (Kd.int .u8) 5 w' w.heap.size (fun k_=>some k_ ≠ (s_.2.2.1 : Value).ownBlock ∧ some k_ ≠ (s_.2.2.2.1 : Value).ownBlock ∧ some k_ ≠ (s_.2.2.2.2 : Value).ownBlock ∧ some k_ ≠ (.slice Ao17 t543.length co17 : Value).ownBlock ∧ some k_ ≠ (.slice Ao17 t543.length co17 : Value).ownBlock) (.slice A44 y581.length c44) y581) ∧ (Kd.R k59 59 w' w.heap.size (fun _=>True) (.slice Ao17 t543.length co17) t543) ∧ (Kd.R k59 59 w' w.heap.size (fun _=>True) (.slice Ao17 t543.length co17) t543) ∧ (Kd.R (Kd.int .u8) 5 w' w.heap.size (fun k_=>some k_ ≠ (s_.2.2.1 : Value).ownBlock ∧ some k_ ≠ (s_.2.2.2.1 : Value).ownBlock ∧ some k_ ≠ (s_.2.2.2.2 : Value).ownBlock) (.slice Ao23 t547.length co23) t547) ∧ (Below w.heap.size w w')) ?_ ?_
                  rotate_left
                  ·intro hJ3_5_7_8_9
                   refine join_ (σ:=Value × Value × Value × Value) 5 #[true,true,true,true,true,true,true,true,true,false,true,true,true,false,true,true,true,true,false,false,false,true] (fun s_=>[(72,s_.1),(74,s_.2.1),(76,s_.2.2.1),(77,s_.2.2.2)]) (fun s_ w'=>(Kd.V (Kd.int .u8) 5 w' w.heap.size (fun k_=>some k_ ≠ (s_.2.2.1 : Value).ownBlock ∧ some k_ ≠ (s_.2.2.2 : Value).ownBlock ∧ some k_ ≠ (.slice Ao17 t543.length co17 : Value).ownBlock ∧ some k_ ≠ (.slice Ao17 t543.length co17 : Value).ownBlock) (.slice Ao23 y553.length co23) y553) ∧ (Kd.R (Kd.int .u8) 5 w' w.heap.size (fun k_=>some k_ ≠ (s_.2.2.2 : Value).ownBlock ∧ some k_ ≠ (.slice Ao23 t547.length co23 : Value).ownBlock) s_.2.2.1 y564) ∧ (Kd.R (Kd.int .u8) 5 w' w.heap.size (fun k_=>some k_ ≠ (s_.2.2.1 : Value).ownBlock ∧ some k_ ≠ (.slice Ao23 t547.length co23 : Value).ownBlock) s_.2.2.2 y567) ∧ (Kd.V (Kd.int .u8) 5 w' w.heap.size (fun k_=>some k_ ≠ (s_.2.2.1 : Value).ownBlock ∧ some k_ ≠ (s_.2.2.2 : Value).ownBlock ∧ some k_ ≠ (.slice Ao17 t543.length co17 : Value).ownBlock ∧ some k_ ≠ (.slice Ao17 t543.length co17 : Value).ownBlock) (.slice Ao23 y573.length co23) y573) ∧ (Kd.V (Kd.int .u8) 5 w' w.heap.size (fun k_=>some k_ ≠ (s_.2.2.1 : Value).ownBlock ∧ some k_ ≠ (s_.2.2.2 : Value).ownBlock ∧ some k_ ≠ (.slice Ao17 t543.length co17 : Value).ownBlock ∧ some k_ ≠ (.slice Ao17 t543.length co17 : Value).ownBlock) (.slice A44 y581.length c44) y581) ∧ (Kd.R k59 59 w' w.heap.size (fun _=>True) (.slice Ao17 t543.length co17) t543) ∧ (Kd.R k59 59 w' w.heap.size (fun _=>True) (.slice Ao17 t543.length co17) t543) ∧ (Kd.R (Kd.int .u8) 5 w' w.heap.size (fun k_=>some k_ ≠ (s_.2.2.1 : Value).ownBlock ∧ some k_ ≠ (s_.2.2.2 : Value).ownBlock) (.slice Ao23 t547.length co23) t547) ∧ (Below w.heap.size w w')) ?_ ?_
                   rotate_left
                   ·intro hJ3_5_7_8
                    refine join_ (σ:=Value × Value × Value × Value) 5 #[true,true,true,true,true,true,true,true,false,true,true,true,true,false,true,true,true,true,false,false,false,true] (fun s_=>[(72,s_.1),(74,s_.2.1),(76,s_.2.2.1),(78,s_.2.2.2)]) (fun s_ w'=>(Kd.V (Kd.int .u8) 5 w' w.heap.size (fun k_=>some k_ ≠ (s_.2.1 : Value).ownBlock ∧ some k_ ≠ (s_.2.2.1 : Value).ownBlock ∧ some k_ ≠ (s_.2.2.2 : Value).ownBlock ∧ some k_ ≠ (.slice Ao17 t543.length co17 : Value).ownBlock ∧ some k_ ≠ (.slice Ao17 t543.length co17 : Value).ownBlock) (.slice Ao23 y553.length co23) y553) ∧ (Kd.R (Kd.int .u8) 5 w' w.heap.size (fun k_=>some k_ ≠ (s_.2.2.1 : Value).ownBlock ∧ some k_ ≠ (s_.2.2.2 : Value).ownBlock ∧ some k_ ≠ (.slice Ao23 t547.length co23 : Value).ownBlock) s_.2.1 y561) ∧ (Kd.R (Kd.int .u8) 5 w' w.heap.size (fun k_=>some k_ ≠ (s_.2.1 : Value).ownBlock ∧ some k_ ≠ (s_.2.2.2 : Value).ownBlock ∧ some k_ ≠ (.slice Ao23 t547.length co23 : Value).ownBlock) s_.2.2.1 y564) ∧ (Kd.R (Kd.int .u8) 5 w' w.heap.size (fun k_=>some k_ ≠ (s_.2.1 : Value).ownBlock ∧ some k_ ≠ (s_.2.2.1 : Value).ownBlock ∧ some k_ ≠ (.slice Ao23 t547.length co23 : Value).ownBlock) s_.2.2.2 y570) ∧ (Kd.V (Kd.int .u8) 5 w' w.heap.size (fun k_=>some k_ ≠ (s_.2.1 : Value).ownBlock ∧ some k_ ≠ (s_.2.2.1 : Value).ownBlock ∧ some k_ ≠ (s_.2.2.2 : Value).ownBlock ∧ some k_ ≠ (.slice Ao17 t543.length co17 : Value).ownBlock ∧ some k_ ≠ (.slice Ao17 t543.length co17 : Value).ownBlock) (.slice Ao23 y573.length co23) y573) ∧ (Kd.V (Kd.int .u8) 5 w' w.heap.size (fun k_=>some k_ ≠ (s_.2.1 : Value).ownBlock ∧ some k_ ≠ (s_.2.2.1 : Value).ownBlock ∧ some k_ ≠ (s_.2.2.2 : Value).ownBlock ∧ some k_ ≠ (.slice Ao17 t543.length co17 : Value).ownBlock ∧ some k_ ≠ (.slice Ao17 t543.length co17 : Value).ownBlock) (.slice A44 y581.length c44) y581) ∧ (Kd.R k59 59 w' w.heap.size (fun _=>True) (.slice Ao17 t543.length co17) t543) ∧ (Kd.R k59 59 w' w.heap.size (fun _=>True) (.slice Ao17 t543.length co17) t543) ∧ (Kd.R (Kd.int .u8) 5 w' w.heap.size (fun k_=>some k_ ≠ (s_.2.1 : Value).ownBlock ∧ some k_ ≠ (s_.2.2.1 : Value).ownBlock ∧ some k_ ≠ (s_.2.2.2 : Value).ownBlock) (.slice Ao23 t547.length co23) t547) ∧ (Below w.heap.size w w')) ?_ ?_
                    rotate_left
                    ·intro hJ3_5_7_9
                     refine join_ (σ:=Value × Value × Value) 6 #[true,true,true,true,true,true,true,true,false,false,true,true,true,false,true,true,true,true,false,false,false,true] (fun s_=>[(72,s_.1),(74,s_.2.1),(76,s_.2.2)]) (fun s_ w'=>(Kd.V (Kd.int .u8) 5 w' w.heap.size (fun k_=>some k_ ≠ (s_.2.1 : Value).ownBlock ∧ some k_ ≠ (s_.2.2 : Value).ownBlock ∧ some k_ ≠ (.slice Ao17 t543.length co17 : Value).ownBlock ∧ some k_ ≠ (.slice Ao17 t543.length co17 : Value).ownBlock) (.slice Ao23 y553.length co23) y553) ∧ (Kd.R (Kd.int .u8) 5 w' w.heap.size (fun k_=>some k_ ≠ (s_.2.2 : Value).ownBlock ∧ some k_ ≠ (.slice Ao23 t547.length co23 : Value).ownBlock) s_.2.1 y561) ∧ (Kd.R (Kd.int .u8) 5 w' w.heap.size (fun k_=>some k_ ≠ (s_.2.1 : Value).ownBlock ∧ some k_ ≠ (.slice Ao23 t547.length co23 : Value).ownBlock) s_.2.2 y564) ∧ (Kd.V (Kd.int .u8) 5 w' w.heap.size (fun k_=>some k_ ≠ (s_.2.1 : Value).ownBlock ∧ some k_ ≠ (s_.2.2 : Value).ownBlock ∧ some k_ ≠ (.slice Ao17 t543.length co17 : Value).ownBlock ∧ some k_ ≠ (.slice Ao17 t543.length co17 : Value).ownBlock) (.slice Ao23 y573.length co23) y573) ∧ (Kd.V (Kd.int .u8) 5 w' w.heap.size (fun k_=>some k_ ≠ (s_.2.1 : Value).ownBlock ∧ some k_ ≠ (s_.2.2 : Value).ownBlock ∧ some k_ ≠ (.slice Ao17 t543.length co17 : Value).ownBlock ∧ some k_ ≠ (.slice Ao17 t543.length co17 : Value).ownBlock) (.slice A44 y581.length c44) y581) ∧ (Kd.R k59 59 w' w.heap.size (fun _=>True) (.slice Ao17 t543.length co17) t543) ∧ (Kd.R k59 59 w' w.heap.size (fun _=>True) (.slice Ao17 t543.length co17) t543) ∧ (Kd.R (Kd.int .u8) 5 w' w.heap.size (fun k_=>some k_ ≠ (s_.2.1 : Value).ownBlock ∧ some k_ ≠ (s_.2.2 : Value).ownBlock) (.slice Ao23 t547.length co23) t547) ∧ (Below w.heap.size w w')) ?_ ?_
                     rotate_left
                     ·intro hJ3_5_7
                      refine join_ (σ:=Value × Value × Value) 6 #[true,true,true,true,true,true,true,false,false,true,true,true,true,false,true,true,true,true,false,false,false,true] (fun s_=>[(72,s_.1),(74,s_.2.1),(78,s_.2.2)]) (fun s_ w'=>(Kd.V (Kd.int .u8) 5 w' w.heap.size (fun k_=>some k_ ≠ (s_.2.1 : Value).ownBlock ∧ some k_ ≠ (s_.2.2 : Value).ownBlock ∧ some k_ ≠ (.slice Ao17 t543.length co17 : Value).ownBlock ∧ some k_ ≠ (.slice Ao17 t543.length co17 : Value).ownBlock) (.slice Ao23 y553.length co23) y553) ∧ (Kd.R (Kd.int .u8) 5 w' w.heap.size (fun k_=>some k_ ≠ (s_.2.2 : Value).ownBlock ∧ some k_ ≠ (.slice Ao23 t547.length co23 : Value).ownBlock) s_.2.1 y561) ∧ (Kd.R (Kd.int .u8) 5 w' w.heap.size (fun k_=>some k_ ≠ (s_.2.1 : Value).ownBlock ∧ some k_ ≠ (.slice Ao23 t547.length co23 : Value).ownBlock) s_.2.2 y570) ∧ (Kd.V (Kd.int .u8) 5 w' w.heap.size (fun k_=>some k_ ≠ (s_.2.1 : Value).ownBlock ∧ some k_ ≠ (s_.2.2 : Value).ownBlock ∧ some k_ ≠ (.slice Ao17 t543.length co17 : Value).ownBlock ∧ some k_ ≠ (.slice Ao17 t543.length co17 : Value).ownBlock) (.slice Ao23 y573.length co23) y573) ∧ (Kd.V (Kd.int .u8) 5 w' w.heap.size (fun k_=>some k_ ≠ (s_.2.1 : Value).ownBlock ∧ some k_ ≠ (s_.2.2 : Value).ownBlock ∧ some k_ ≠ (.slice Ao17 t543.length co17 : Value).ownBlock ∧ some k_ ≠ (.slice Ao17 t543.length co17 : Value).ownBlock) (.slice A44 y581.length c44) y581) ∧ (Kd.R k59 59 w' w.heap.size (fun _=>True) (.slice Ao17 t543.length co17) t543) ∧ (Kd.R k59 59 w' w.heap.size (fun _=>True) (.slice Ao17 t543.length co17) t543) ∧ (Kd.R (Kd.int .u8) 5 w' w.heap.size (fun k_=>some k_ ≠ (s_.2.1 : Value).ownBlock ∧ some k_ ≠ (s_.2.2 : Value).ownBlock) (.slice Ao23 t547.length co23) t547) ∧ (Below w.heap.size w w')) ?_ ?_
                      rotate_left
                      ·intro hJ3_5_9
                       refine join_ (σ:=Value × Value × Value) 6 #[true,true,true,true,true,false,true,true,false,true,true,true,true,false,true,true,true,true,false,false,false,true] (fun s_=>[(72,s_.1),(76,s_.2.1),(78,s_.2.2)]) (fun s_ w'=>(Kd.V (Kd.int .u8) 5 w' w.heap.size (fun k_=>some k_ ≠ (s_.1 : Value).ownBlock ∧ some k_ ≠ (s_.2.1 : Value).ownBlock ∧ some k_ ≠ (s_.2.2 : Value).ownBlock ∧ some k_ ≠ (.slice Ao17 t543.length co17 : Value).ownBlock ∧ some k_ ≠ (.slice Ao17 t543.length co17 : Value).ownBlock) (.slice Ao23 y553.length co23) y553) ∧ (Kd.R (Kd.int .u8) 5 w' w.heap.size (fun k_=>some k_ ≠ (s_.2.1 : Value).ownBlock ∧ some k_ ≠ (s_.2.2 : Value).ownBlock ∧ some k_ ≠ (.slice Ao23 t547.length co23 : Value).ownBlock) s_.1 y558) ∧ (Kd.R (Kd.int .u8) 5 w' w.heap.size (fun k_=>some k_ ≠ (s_.1 : Value).ownBlock ∧ some k_ ≠ (s_.2.2 : Value).ownBlock ∧ some k_ ≠ (.slice Ao23 t547.length co23 : Value).ownBlock) s_.2.1 y564) ∧ (Kd.R (Kd.int .u8) 5 w' w.heap.size (fun k_=>some k_ ≠ (s_.1 : Value).ownBlock ∧ some k_ ≠ (s_.2.1 : Value).ownBlock ∧ some k_ ≠ (.slice Ao23 t547.length co23 : Value).ownBlock) s_.2.2 y570) ∧ (Kd.V (Kd.int .u8) 5 w' w.heap.size (fun k_=>some k_ ≠ (s_.1 : Value).ownBlock ∧ some k_ ≠ (s_.2.1 : Value).ownBlock ∧ some k_ ≠ (s_.2.2 : Value).ownBlock ∧ some k_ ≠ (.slice Ao17 t543.length co17 : Value).ownBlock ∧ some k_ ≠ (.slice Ao17 t543.length co17 : Value).ownBlock) (.slice Ao23 y573.length co23) y573) ∧ (Kd.V (Kd.int .u8) 5 w' w.heap.size (fun k_=>some k_ ≠ (s_.1 : Value).ownBlock ∧ some k_ ≠ (s_.2.1 : Value).ownBlock ∧ some k_ ≠ (s_.2.2 : Value).ownBlock ∧ some k_ ≠ (.slice Ao17 t543.length co17 : Value).ownBlock ∧ some k_ ≠ (.slice Ao17 t543.length co17 : Value).ownBlock) (.slice A44 y581.length c44) y581) ∧ (Kd.R k59 59 w' w.heap.size (fun _=>True) (.slice Ao17 t543.length co17) t543) ∧ (Kd.R k59 59 w' w.heap.size (fun _=>True) (.slice Ao17 t543.length co17) t543) ∧ (Kd.R (Kd.int .u8) 5 w' w.heap.size (fun k_=>some k_ ≠ (s_.1 : Value).ownBlock ∧ some k_ ≠ (s_.2.1 : Value).ownBlock ∧ some k_ ≠ (s_.2.2 : Value).ownBlock) (.slice Ao23 t547.length co23) t547) ∧ (Below w.heap.size w w')) ?_ ?_
                       rotate_left
                       ·intro hJ3_7_9
                        refine join_ (σ:=Value × Value) 7 #[true,true,true,true,true,true,true,false,false,false,true,true,true,false,true,true,true,true,false,false,false,true] (fun s_=>[(72,s_.1),(74,s_.2)]) (fun s_ w'=>(Kd.V (Kd.int .u8) 5 w' w.heap.size (fun k_=>some k_ ≠ (s_.2 : Value).ownBlock ∧ some k_ ≠ (.slice Ao17 t543.length co17 : Value).ownBlock ∧ some k_ ≠ (.slice Ao17 t543.length co17 : Value).ownBlock) (.slice Ao23 y553.length co23) y553) ∧ (Kd.R (Kd.int .u8) 5 w' w.heap.size (fun k_=>some k_ ≠ (.slice Ao23 t547.length co23 : Value).ownBlock) s_.2 y561) ∧ (Kd.V (Kd.int .u8) 5 w' w.heap.size (fun k_=>some k_ ≠ (s_.2 : Value).ownBlock ∧ some k_ ≠ (.slice Ao17 t543.length co17 : Value).ownBlock ∧ some k_ ≠ (.slice Ao17 t543.length co17 : Value).ownBlock) (.slice Ao23 y573.length co23) y573) ∧ (Kd.V (Kd.int .u8) 5 w' w.heap.size (fun k_=>some k_ ≠ (s_.2 : Value).ownBlock ∧ some k_ ≠ (.slice Ao17 t543.length co17 : Value).ownBlock ∧ some k_ ≠ (.slice Ao17 t543.length co17 : Value).ownBlock) (.slice A44 y581.length c44) y581) ∧ (Kd.R k59 59 w' w.heap.size (fun _=>True) (.slice Ao17 t543.length co17) t543) ∧ (Kd.R k59 59 w' w.heap.size (fun _=>True) (.slice Ao17 t543.length co17) t543) ∧ (Kd.R (Kd.int .u8) 5 w' w.heap.size (fun k_=>some k_ ≠ (s_.2 : Value).ownBlock) (.slice Ao23 t547.length co23) t547) ∧ (Below w.heap.size w w')) ?_ ?_
                        rotate_left
                        ·intro hJ3_5
                         refine join_ (σ:=Value × Value) 7 #[true,true,true,true,true,false,true,true,false,false,true,true,true,false,true,true,true,true,false,false,false,true] (fun s_=>[(72,s_.1),(76,s_.2)]) (fun s_ w'=>(Kd.V (Kd.int .u8) 5 w' w.heap.size (fun k_=>some k_ ≠ (s_.1 : Value).ownBlock ∧ some k_ ≠ (s_.2 : Value).ownBlock ∧ some k_ ≠ (.slice Ao17 t543.length co17 : Value).ownBlock ∧ some k_ ≠ (.slice Ao17 t543.length co17 : Value).ownBlock) (.slice Ao23 y553.length co23) y553) ∧ (Kd.R (Kd.int .u8) 5 w' w.heap.size (fun k_=>some k_ ≠ (s_.2 : Value).ownBlock ∧ some k_ ≠ (.slice Ao23 t547.length co23 : Value).ownBlock) s_.1 y558) ∧ (Kd.R (Kd.int .u8) 5 w' w.heap.size (fun k_=>some k_ ≠ (s_.1 : Value).ownBlock ∧ some k_ ≠ (.slice Ao23 t547.length co23 : Value).ownBlock) s_.2 y564) ∧ (Kd.V (Kd.int .u8) 5 w' w.heap.size (fun k_=>some k_ ≠ (s_.1 : Value).ownBlock ∧ some k_ ≠ (s_.2 : Value).ownBlock ∧ some k_ ≠ (.slice Ao17 t543.length co17 : Value).ownBlock ∧ some k_ ≠ (.slice Ao17 t543.length co17 : Value).ownBlock) (.slice Ao23 y573.length co23) y573) ∧ (Kd.V (Kd.int .u8) 5 w' w.heap.size (fun k_=>some k_ ≠ (s_.1 : Value).ownBlock ∧ some k_ ≠ (s_.2 : Value).ownBlock ∧ some k_ ≠ (.slice Ao17 t543.length co17 : Value).ownBlock ∧ some k_ ≠ (.slice Ao17 t543.length co17 : Value).ownBlock) (.slice A44 y581.length c44) y581) ∧ (Kd.R k59 59 w' w.heap.size (fun _=>True) (.slice Ao17 t543.length co17) t543) ∧ (Kd.R k59 59 w' w.heap.size (fun _=>True) (.slice Ao17 t543.length co17) t543) ∧ (Kd.R (Kd.int .u8) 5 w' w.heap.size (fun k_=>some k_ ≠ (s_.1 : Value).ownBlock ∧ some k_ ≠ (s_.2 : Value).ownBlock) (.slice Ao23 t547.length co23) t547) ∧ (Below w.heap.size w w')) ?_ ?_
                         rotate_left
                         ·intro hJ3_7
                          refine join_ (σ:=Value × Value) 7 #[true,true,true,true,true,false,true,false,false,true,true,true,true,false,true,true,true,true,false,false,false,true] (fun s_=>[(72,s_.1),(78,s_.2)]) (fun s_ w'=>(Kd.V (Kd.int .u8) 5 w' w.heap.size (fun k_=>some k_ ≠ (s_.1 : Value).ownBlock ∧ some k_ ≠ (s_.2 : Value).ownBlock ∧ some k_ ≠ (.slice Ao17 t543.length co17 : Value).ownBlock ∧ some k_ ≠ (.slice Ao17 t543.length co17 : Value).ownBlock) (.slice Ao23 y553.length co23) y553) ∧ (Kd.R (Kd.int .u8) 5 w' w.heap.size (fun k_=>some k_ ≠ (s_.2 : Value).ownBlock ∧ some k_ ≠ (.slice Ao23 t547.length co23 : Value).ownBlock) s_.1 y558) ∧ (Kd.R (Kd.int .u8) 5 w' w.heap.size (fun k_=>some k_ ≠ (s_.1 : Value).ownBlock ∧ some k_ ≠ (.slice Ao23 t547.length co23 : Value).ownBlock) s_.2 y570) ∧ (Kd.V (Kd.int .u8) 5 w' w.heap.size (fun k_=>some k_ ≠ (s_.1 : Value).ownBlock ∧ some k_ ≠ (s_.2 : Value).ownBlock ∧ some k_ ≠ (.slice Ao17 t543.length co17 : Value).ownBlock ∧ some k_ ≠ (.slice Ao17 t543.length co17 : Value).ownBlock) (.slice Ao23 y573.length co23) y573) ∧ (Kd.V (Kd.int .u8) 5 w' w.heap.size (fun k_=>some k_ ≠ (s_.1 : Value).ownBlock ∧ some k_ ≠ (s_.2 : Value).ownBlock ∧ some k_ ≠ (.slice Ao17 t543.length co17 : Value).ownBlock ∧ some k_ ≠ (.slice Ao17 t543.length co17 : Value).ownBlock) (.slice A44 y581.length c44) y581) ∧ (Kd.R k59 59 w' w.heap.size (fun _=>True) (.slice Ao17 t543.length co17) t543) ∧ (Kd.R k59 59 w' w.heap.size (fun _=>True) (.slice Ao17 t543.length co17) t543) ∧ (Kd.R (Kd.int .u8) 5 w' w.heap.size (fun k_=>some k_ ≠ (s_.1 : Value).ownBlock ∧ some k_ ≠ (s_.2 : Value).ownBlock) (.slice Ao23 t547.length co23) t547) ∧ (Below w.heap.size w w')) ?_ ?_
                          rotate_left
                          ·intro hJ3_9
                           refine join_ (σ:=Value × Value) 7 #[true,true,true,false,true,false,true,true,false,true,true,true,true,false,true,true,true,true,false,false,false,true] (fun s_=>[(76,s_.1),(78,s_.2)]) (fun s_ w'=>(Kd.V (Kd.int .u8) 5 w' w.heap.size (fun k_=>some k_ ≠ (s_.1 : Value).ownBlock ∧ some k_ ≠ (s_.2 : Value).ownBlock ∧ some k_ ≠ (.slice Ao17 t543.length co17 : Value).ownBlock ∧ some k_ ≠ (.slice Ao17 t543.length co17 : Value).ownBlock) (.slice Ao23 y553.length co23) y553) ∧ (Kd.R (Kd.int .u8) 5 w' w.heap.size (fun k_=>some k_ ≠ (s_.2 : Value).ownBlock ∧ some k_ ≠ (.slice Ao23 t547.length co23 : Value).ownBlock) s_.1 y564) ∧ (Kd.R (Kd.int .u8) 5 w' w.heap.size (fun k_=>some k_ ≠ (s_.1 : Value).ownBlock ∧ some k_ ≠ (.slice Ao23 t547.length co23 : Value).ownBlock) s_.2 y570) ∧ (Kd.V (Kd.int .u8) 5 w' w.heap.size (fun k_=>some k_ ≠ (s_.1 : Value).ownBlock ∧ some k_ ≠ (s_.2 : Value).ownBlock ∧ some k_ ≠ (.slice Ao17 t543.length co17 : Value).ownBlock ∧ some k_ ≠ (.slice Ao17 t543.length co17 : Value).ownBlock) (.slice Ao23 y573.length co23) y573) ∧ (Kd.V (Kd.int .u8) 5 w' w.heap.size (fun k_=>some k_ ≠ (s_.1 : Value).ownBlock ∧ some k_ ≠ (s_.2 : Value).ownBlock ∧ some k_ ≠ (.slice Ao17 t543.length co17 : Value).ownBlock ∧ some k_ ≠ (.slice Ao17 t543.length co17 : Value).ownBlock) (.slice A44 y581.length c44) y581) ∧ (Kd.R k59 59 w' w.heap.size (fun _=>True) (.slice Ao17 t543.length co17) t543) ∧ (Kd.R k59 59 w' w.heap.size (fun _=>True) (.slice Ao17 t543.length co17) t543) ∧ (Kd.R (Kd.int .u8) 5 w' w.heap.size (fun k_=>some k_ ≠ (s_.1 : Value).ownBlock ∧ some k_ ≠ (s_.2 : Value).ownBlock) (.slice Ao23 t547.length co23) t547) ∧ (Below w.heap.size w w')) ?_ ?_
                           rotate_left
                           ·intro hJ7_9
                            refine join_ (σ:=Value) 8 #[true,true,true,true,true,false,true,false,false,false,true,true,true,false,true,true,true,true,false,false,false,true] (fun s_=>[(72,s_)]) (fun s_ w'=>(Kd.V (Kd.int .u8) 5 w' w.heap.size (fun k_=>some k_ ≠ (s_ : Value).ownBlock ∧ some k_ ≠ (.slice Ao17 t543.length co17 : Value).ownBlock ∧ some k_ ≠ (.slice Ao17 t543.length co17 : Value).ownBlock) (.slice Ao23 y553.length co23) y553) ∧ (Kd.R (Kd.int .u8) 5 w' w.heap.size (fun k_=>some k_ ≠ (.slice Ao23 t547.length co23 : Value).ownBlock) s_ y558) ∧ (Kd.V (Kd.int .u8) 5 w' w.heap.size (fun k_=>some k_ ≠ (s_ : Value).ownBlock ∧ some k_ ≠ (.slice Ao17 t543.length co17 : Value).ownBlock ∧ some k_ ≠ (.slice Ao17 t543.length co17 : Value).ownBlock) (.slice Ao23 y573.length co23) y573) ∧ (Kd.V (Kd.int .u8) 5 w' w.heap.size (fun k_=>some k_ ≠ (s_ : Value).ownBlock ∧ some k_ ≠ (.slice Ao17 t543.length co17 : Value).ownBlock ∧ some k_ ≠ (.slice Ao17 t543.length co17 : Value).ownBlock) (.slice A44 y581.length c44) y581) ∧ (Kd.R k59 59 w' w.heap.size (fun _=>True) (.slice Ao17 t543.length co17) t543) ∧ (Kd.R k59 59 w' w.heap.size (fun _=>True) (.slice Ao17 t543.length co17) t543) ∧ (Kd.R (Kd.int .u8) 5 w' w.heap.size (fun k_=>some k_ ≠ (s_ : Value).ownBlock) (.slice Ao23 t547.length co23) t547) ∧ (Below w.heap.size w w')) ?_ ?_
                            rotate_left
                            ·intro hJ3
                             refine join_ (σ:=Value) 8 #[true,true,true,false,true,false,true,true,false,false,true,true,true,false,true,true,true,true,false,false,false,true] (fun s_=>[(76,s_)]) (fun s_ w'=>(Kd.V (Kd.int .u8) 5 w' w.heap.size (fun k_=>some k_ ≠ (s_ : Value).ownBlock ∧ some k_ ≠ (.slice Ao17 t543.length co17 : Value).ownBlock ∧ some k_ ≠ (.slice Ao17 t543.length co17 : Value).ownBlock) (.slice Ao23 y553.length co23) y553) ∧ (Kd.R (Kd.int .u8) 5 w' w.heap.size (fun k_=>some k_ ≠ (.slice Ao23 t547.length co23 : Value).ownBlock) s_ y564) ∧ (Kd.V (Kd.int .u8) 5 w' w.heap.size (fun k_=>some k_ ≠ (s_ : Value).ownBlock ∧ some k_ ≠ (.slice Ao17 t543.length co17 : Value).ownBlock ∧ some k_ ≠ (.slice Ao17 t543.length co17 : Value).ownBlock) (.slice Ao23 y573.length co23) y573) ∧ (Kd.V (Kd.int .u8) 5 w' w.heap.size (fun k_=>some k_ ≠ (s_ : Value).ownBlock ∧ some k_ ≠ (.slice Ao17 t543.length co17 : Value).ownBlock ∧ some k_ ≠ (.slice Ao17 t543.length co17 : Value).ownBlock) (.slice A44 y581.length c44) y581) ∧ (Kd.R k59 59 w' w.heap.size (fun _=>True) (.slice Ao17 t543.length co17) t543) ∧ (Kd.R k59 59 w' w.heap.size (fun _=>True) (.slice Ao17 t543.length co17) t543) ∧ (Kd.R (Kd.int .u8) 5 w' w.heap.size (fun k_=>some k_ ≠ (s_ : Value).ownBlock) (.slice Ao23 t547.length co23) t547) ∧ (Below w.heap.size w w')) ?_ ?_
                             rotate_left
                             ·intro hJ7
                              refine join_ (σ:=Value) 8 #[true,true,true,false,true,false,true,false,false,true,true,true,true,false,true,true,true,true,false,false,false,true] (fun s_=>[(78,s_)]) (fun s_ w'=>(Kd.V (Kd.int .u8) 5 w' w.heap.size (fun k_=>some k_ ≠ (s_ : Value).ownBlock ∧ some k_ ≠ (.slice Ao17 t543.length co17 : Value).ownBlock ∧ some k_ ≠ (.slice Ao17 t543.length co17 : Value).ownBlock) (.slice Ao23 y553.length co23) y553) ∧ (Kd.R (Kd.int .u8) 5 w' w.heap.size (fun k_=>some k_ ≠ (.slice Ao23 t547.length co23 : Value).ownBlock) s_ y570) ∧ (Kd.V (Kd.int .u8) 5 w' w.heap.size (fun k_=>some k_ ≠ (s_ : Value).ownBlock ∧ some k_ ≠ (.slice Ao17 t543.length co17 : Value).ownBlock ∧ some k_ ≠ (.slice Ao17 t543.length co17 : Value).ownBlock) (.slice Ao23 y573.length co23) y573) ∧ (Kd.V (Kd.int .u8) 5 w' w.heap.size (fun k_=>some k_ ≠ (s_ : Value).ownBlock ∧ some k_ ≠ (.slice Ao17 t543.length co17 : Value).ownBlock ∧ some k_ ≠ (.slice Ao17 t543.length co17 : Value).ownBlock) (.slice A44 y581.length c44) y581) ∧ (Kd.R k59 59 w' w.heap.size (fun _=>True) (.slice Ao17 t543.length co17) t543) ∧ (Kd.R k59 59 w' w.heap.size (fun _=>True) (.slice Ao17 t543.length co17) t543) ∧ (Kd.R (Kd.int .u8) 5 w' w.heap.size (fun k_=>some k_ ≠ (s_ : Value).ownBlock) (.slice Ao23 t547.length co23) t547) ∧ (Below w.heap.size w w')) ?_ ?_
                              rotate_left
                              ·intro hJ9
                               refine three_ (i:=3) (j:=7) (k:=9) (Ni:=some 72) (Nj:=some 76) (Nk:=some 78) #[true,true,true,true,true,false,true,false,false,false,true,true,true,false,true,true,true,true,false,false,false,true] #[true,true,true,false,true,false,true,true,false,false,true,true,true,false,true,true,true,true,false,false,false,true] #[true,true,true,false,true,false,true,false,false,true,true,true,true,false,true,true,true,true,false,false,false,true] rfl rfl rfl rfl rfl rfl (three_of HT_.out (by kernel_rfl)) (by decide) (by decide) (by decide) (fun K hK=>?_) (fun K hK=>?_) (fun K hK=>?_)
                               ·skip
                                refine Kd.R_lit_step (Kd.int .u8) _ 5 ?hg (N:=72) ?hd (xs:=([] : List Int)) (inner:=[]) (ok:=fun _=>True) (okp:=fun _=>True) ?hr ?hp (fun _ hk=>hk) trivial (Below.refl _ _) (Nat.le_refl _) (by simp) ?_;(case hd=>rfl);(case hg=>rfl);(case hr=>first|(go_simp;done)|(go_simp;rfl));(case hp=>exact (Reps.none _ _))
                                intro v559 w45 ho46 hb hg_ hnew_
                                clear hg_ hnew_
                                (first|rw [← Ny558.out] at ho46|(simp only [Int.reduceToNat] at ho46;rw [← Ny558.out] at ho46))
                                have n0_:=Aside0.mk (Kd.R_below (by (with_reducible repeat (first|apply Kd.R_alloc|apply Kd.R_drewN|apply Kd.R_drew));exact HO_0.out) hb)
                                have n1_:=Aside0.mk (Kd.R_elder' (by (with_reducible repeat (first|apply Kd.R_alloc|apply Kd.R_drewN|apply Kd.R_drew));exact HO_7.out) (Kd.R_base ho46) hb)
                                have n2_:=Aside0.mk (Kd.R_below (by (with_reducible repeat (first|apply Kd.R_alloc|apply Kd.R_drewN|apply Kd.R_drew));exact HO_48.out) hb)
                                have n3_:=Aside0.mk (Kd.V_elder' (by (with_reducible repeat (first|apply Kd.V_alloc|apply Kd.V_drewN|apply Kd.V_drew));exact HO557.out) (Kd.R_base ho46) hb)
                                have n4_:=Aside0.mk (Kd.V_elder' (by (with_reducible repeat (first|apply Kd.V_alloc|apply Kd.V_drewN|apply Kd.V_drew));exact HO577.out) (Kd.R_base ho46) hb)
                                have n5_:=Aside0.mk (Kd.V_elder' (by (with_reducible repeat (first|apply Kd.V_alloc|apply Kd.V_drewN|apply Kd.V_drew));exact HO585.out) (Kd.R_base ho46) hb)
                                have n6_:=Aside0.mk (Kd.R_lower (Kd.R_new' ho46 (Kd.R_lt (by (with_reducible repeat (first|apply Kd.R_alloc|apply Kd.R_drewN|apply Kd.R_drew));exact HO_7.out))) (below_size (by repeat (first|(with_reducible first|exact HB.out|apply below_alloc|apply pw_below_drewN|apply below_drew1)|exact HB.out))))
                                have n7_:=Aside0.mk (below_step (by repeat (first|(with_reducible first|exact HB.out|apply below_alloc|apply pw_below_drewN|apply below_drew1)|exact HB.out)) hb)
                                clear HO_0
                                clear HO_7
                                clear HO_48
                                clear HO557
                                clear HO577
                                clear HO585
                                clear HB
                                have HO_0:=n0_
                                have HO_7:=n1_
                                have HO_48:=n2_
                                have HO557:=n3_
                                have HO577:=n4_
                                have HO585:=n5_
                                have HO560:=n6_
                                have HB:=n7_
                                clear n0_ n1_ n2_ n3_ n4_ n5_ n6_ n7_
                                clear hb ho46
                                refine hK.out _ _ trivial (fun hHeld=>?_)
                                clear hK K
                                refine norm_ (a':=?_) ?_ ?_
                                rotate_left
                                ·show Act.put _ (some 72) _ = _
                                 simp only [Act.put,List.setIfInBounds_toArray,List.set_cons_zero,List.set_cons_succ,i64_w,i32_w]
                                 rfl
                                exact norm_ (by first|(simp only [putAll,Act.put,List.setIfInBounds_toArray,List.set_cons_zero,List.set_cons_succ];done)|(simp only [putAll,Act.put,List.setIfInBounds_toArray,List.set_cons_zero,List.set_cons_succ];rfl)) (hJ3 (v559) _ ⟨(by (with_reducible repeat (first|apply Kd.V_alloc|apply Kd.V_drewN|apply Kd.V_drew));exact Kd.V_mono HO557.out (fun _ hk=>⟨hk.2,⟨hk.1.1.2,hk.1.2⟩⟩)),(by (with_reducible repeat (first|apply Kd.R_alloc|apply Kd.R_drewN|apply Kd.R_drew));exact Kd.R_mono HO560.out (fun _ hk=>hk.2)),(by (with_reducible repeat (first|apply Kd.V_alloc|apply Kd.V_drewN|apply Kd.V_drew));exact Kd.V_mono HO577.out (fun _ hk=>⟨hk.2,⟨hk.1.1.2,hk.1.2⟩⟩)),(by (with_reducible repeat (first|apply Kd.V_alloc|apply Kd.V_drewN|apply Kd.V_drew));exact Kd.V_mono HO585.out (fun _ hk=>⟨hk.2,⟨hk.1.1.2,hk.1.2⟩⟩)),(by (with_reducible repeat (first|apply Kd.R_alloc|apply Kd.R_drewN|apply Kd.R_drew));exact HO_0.out),(by (with_reducible repeat (first|apply Kd.R_alloc|apply Kd.R_drewN|apply Kd.R_drew));exact HO_48.out),(by (with_reducible repeat (first|apply Kd.R_alloc|apply Kd.R_drewN|apply Kd.R_drew));exact Kd.R_mono HO_7.out (fun _ hk=>hk.2)),(by repeat (first|(with_reducible first|exact HB.out|apply below_alloc|apply pw_below_drewN|apply below_drew1)|exact HB.out))⟩)
                               ·skip
                                refine Kd.R_lit_step (Kd.int .u8) _ 5 ?hg (N:=76) ?hd (xs:=([a2] : List Int)) (inner:=[.int .u8 a2]) (ok:=fun _=>True) (okp:=fun _=>True) ?hr ?hp (fun _ hk=>hk) trivial (Below.refl _ _) (Nat.le_refl _) (by simp) ?_;(case hd=>rfl);(case hg=>rfl);(case hr=>first|(go_simp;done)|(go_simp;rfl));(case hp=>exact (Reps.one (show Kd.M (Kd.int .u8) _ _ _ a2 [.int .u8 a2] from rfl) (Reps.none _ _)))
                                intro v565 w45 ho46 hb hg_ hnew_
                                clear hg_ hnew_
                                (first|rw [← Ny564.out] at ho46|(simp only [Int.reduceToNat] at ho46;rw [← Ny564.out] at ho46))
                                have n0_:=Aside0.mk (Kd.R_below (by (with_reducible repeat (first|apply Kd.R_alloc|apply Kd.R_drewN|apply Kd.R_drew));exact HO_0.out) hb)
                                have n1_:=Aside0.mk (Kd.R_elder' (by (with_reducible repeat (first|apply Kd.R_alloc|apply Kd.R_drewN|apply Kd.R_drew));exact HO_7.out) (Kd.R_base ho46) hb)
                                have n2_:=Aside0.mk (Kd.R_below (by (with_reducible repeat (first|apply Kd.R_alloc|apply Kd.R_drewN|apply Kd.R_drew));exact HO_48.out) hb)
                                have n3_:=Aside0.mk (Kd.V_elder' (by (with_reducible repeat (first|apply Kd.V_alloc|apply Kd.V_drewN|apply Kd.V_drew));exact HO557.out) (Kd.R_base ho46) hb)
                                have n4_:=Aside0.mk (Kd.V_elder' (by (with_reducible repeat (first|apply Kd.V_alloc|apply Kd.V_drewN|apply Kd.V_drew));exact HO577.out) (Kd.R_base ho46) hb)
                                have n5_:=Aside0.mk (Kd.V_elder' (by (with_reducible repeat (first|apply Kd.V_alloc|apply Kd.V_drewN|apply Kd.V_drew));exact HO585.out) (Kd.R_base ho46) hb)
                                have n6_:=Aside0.mk (Kd.R_lower (Kd.R_new' ho46 (Kd.R_lt (by (with_reducible repeat (first|apply Kd.R_alloc|apply Kd.R_drewN|apply Kd.R_drew));exact HO_7.out))) (below_size (by repeat (first|(with_reducible first|exact HB.out|apply below_alloc|apply pw_below_drewN|apply below_drew1)|exact HB.out))))
                                have n7_:=Aside0.mk (below_step (by repeat (first|(with_reducible first|exact HB.out|apply below_alloc|apply pw_below_drewN|apply below_drew1)|exact HB.out)) hb)
                                clear HO_0
                                clear HO_7
                                clear HO_48
                                clear HO557
                                clear HO577
                                clear HO585
                                clear HB
                                have HO_0:=n0_
                                have HO_7:=n1_
                                have HO_48:=n2_
                                have HO557:=n3_
                                have HO577:=n4_
                                have HO585:=n5_
                                have HO566:=n6_
                                have HB:=n7_
                                clear n0_ n1_ n2_ n3_ n4_ n5_ n6_ n7_
                                clear hb ho46
                                refine hK.out _ _ trivial (fun hHeld=>?_)
                                clear hK K
                                refine norm_ (a':=?_) ?_ ?_
                                rotate_left
                                ·show Act.put _ (some 76) _ = _
                                 simp only [Act.put,List.setIfInBounds_toArray,List.set_cons_zero,List.set_cons_succ,i64_w,i32_w]
                                 rfl
                                exact norm_ (by first|(simp only [putAll,Act.put,List.setIfInBounds_toArray,List.set_cons_zero,List.set_cons_succ];done)|(simp only [putAll,Act.put,List.setIfInBounds_toArray,List.set_cons_zero,List.set_cons_succ];rfl)) (hJ7 (v565) _ ⟨(by (with_reducible repeat (first|apply Kd.V_alloc|apply Kd.V_drewN|apply Kd.V_drew));exact Kd.V_mono HO557.out (fun _ hk=>⟨hk.2,⟨hk.1.1.2,hk.1.2⟩⟩)),(by (with_reducible repeat (first|apply Kd.R_alloc|apply Kd.R_drewN|apply Kd.R_drew));exact Kd.R_mono HO566.out (fun _ hk=>hk.2)),(by (with_reducible repeat (first|apply Kd.V_alloc|apply Kd.V_drewN|apply Kd.V_drew));exact Kd.V_mono HO577.out (fun _ hk=>⟨hk.2,⟨hk.1.1.2,hk.1.2⟩⟩)),(by (with_reducible repeat (first|apply Kd.V_alloc|apply Kd.V_drewN|apply Kd.V_drew));exact Kd.V_mono HO585.out (fun _ hk=>⟨hk.2,⟨hk.1.1.2,hk.1.2⟩⟩)),(by (with_reducible repeat (first|apply Kd.R_alloc|apply Kd.R_drewN|apply Kd.R_drew));exact HO_0.out),(by (with_reducible repeat (first|apply Kd.R_alloc|apply Kd.R_drewN|apply Kd.R_drew));exact HO_48.out),(by (with_reducible repeat (first|apply Kd.R_alloc|apply Kd.R_drewN|apply Kd.R_drew));exact Kd.R_mono HO_7.out (fun _ hk=>hk.2)),(by repeat (first|(with_reducible first|exact HB.out|apply below_alloc|apply pw_below_drewN|apply below_drew1)|exact HB.out))⟩)
                               ·skip
                                refine Kd.R_lit_step (Kd.int .u8) _ 5 ?hg (N:=78) ?hd (xs:=([] : List Int)) (inner:=[]) (ok:=fun _=>True) (okp:=fun _=>True) ?hr ?hp (fun _ hk=>hk) trivial (Below.refl _ _) (Nat.le_refl _) (by simp) ?_;(case hd=>rfl);(case hg=>rfl);(case hr=>first|(go_simp;done)|(go_simp;rfl));(case hp=>exact (Reps.none _ _))
                                intro v571 w45 ho46 hb hg_ hnew_
                                clear hg_ hnew_
                                (first|rw [← Ny570.out] at ho46|(simp only [Int.reduceToNat] at ho46;rw [← Ny570.out] at ho46))
                                have n0_:=Aside0.mk (Kd.R_below (by (with_reducible repeat (first|apply Kd.R_alloc|apply Kd.R_drewN|apply Kd.R_drew));exact HO_0.out) hb)
                                have n1_:=Aside0.mk (Kd.R_elder' (by (with_reducible repeat (first|apply Kd.R_alloc|apply Kd.R_drewN|apply Kd.R_drew));exact HO_7.out) (Kd.R_base ho46) hb)
                                have n2_:=Aside0.mk (Kd.R_below (by (with_reducible repeat (first|apply Kd.R_alloc|apply Kd.R_drewN|apply Kd.R_drew));exact HO_48.out) hb)
                                have n3_:=Aside0.mk (Kd.V_elder' (by (with_reducible repeat (first|apply Kd.V_alloc|apply Kd.V_drewN|apply Kd.V_drew));exact HO557.out) (Kd.R_base ho46) hb)
                                have n4_:=Aside0.mk (Kd.V_elder' (by (with_reducible repeat (first|apply Kd.V_alloc|apply Kd.V_drewN|apply Kd.V_drew));exact HO577.out) (Kd.R_base ho46) hb)
                                have n5_:=Aside0.mk (Kd.V_elder' (by (with_reducible repeat (first|apply Kd.V_alloc|apply Kd.V_drewN|apply Kd.V_drew));exact HO585.out) (Kd.R_base ho46) hb)
                                have n6_:=Aside0.mk (Kd.R_lower (Kd.R_new' ho46 (Kd.R_lt (by (with_reducible repeat (first|apply Kd.R_alloc|apply Kd.R_drewN|apply Kd.R_drew));exact HO_7.out))) (below_size (by repeat (first|(with_reducible first|exact HB.out|apply below_alloc|apply pw_below_drewN|apply below_drew1)|exact HB.out))))
                                have n7_:=Aside0.mk (below_step (by repeat (first|(with_reducible first|exact HB.out|apply below_alloc|apply pw_below_drewN|apply below_drew1)|exact HB.out)) hb)
                                clear HO_0
                                clear HO_7
                                clear HO_48
                                clear HO557
                                clear HO577
                                clear HO585
                                clear HB
                                have HO_0:=n0_
                                have HO_7:=n1_
                                have HO_48:=n2_
                                have HO557:=n3_
                                have HO577:=n4_
                                have HO585:=n5_
                                have HO572:=n6_
                                have HB:=n7_
                                clear n0_ n1_ n2_ n3_ n4_ n5_ n6_ n7_
                                clear hb ho46
                                refine hK.out _ _ trivial (fun hHeld=>?_)
                                clear hK K
                                refine norm_ (a':=?_) ?_ ?_
                                rotate_left
                                ·show Act.put _ (some 78) _ = _
                                 simp only [Act.put,List.setIfInBounds_toArray,List.set_cons_zero,List.set_cons_succ,i64_w,i32_w]
                                 rfl
                                exact norm_ (by first|(simp only [putAll,Act.put,List.setIfInBounds_toArray,List.set_cons_zero,List.set_cons_succ];done)|(simp only [putAll,Act.put,List.setIfInBounds_toArray,List.set_cons_zero,List.set_cons_succ];rfl)) (hJ9 (v571) _ ⟨(by (with_reducible repeat (first|apply Kd.V_alloc|apply Kd.V_drewN|apply Kd.V_drew));exact Kd.V_mono HO557.out (fun _ hk=>⟨hk.2,⟨hk.1.1.2,hk.1.2⟩⟩)),(by (with_reducible repeat (first|apply Kd.R_alloc|apply Kd.R_drewN|apply Kd.R_drew));exact Kd.R_mono HO572.out (fun _ hk=>hk.2)),(by (with_reducible repeat (first|apply Kd.V_alloc|apply Kd.V_drewN|apply Kd.V_drew));exact Kd.V_mono HO577.out (fun _ hk=>⟨hk.2,⟨hk.1.1.2,hk.1.2⟩⟩)),(by (with_reducible repeat (first|apply Kd.V_alloc|apply Kd.V_drewN|apply Kd.V_drew));exact Kd.V_mono HO585.out (fun _ hk=>⟨hk.2,⟨hk.1.1.2,hk.1.2⟩⟩)),(by (with_reducible repeat (first|apply Kd.R_alloc|apply Kd.R_drewN|apply Kd.R_drew));exact HO_0.out),(by (with_reducible repeat (first|apply Kd.R_alloc|apply Kd.R_drewN|apply Kd.R_drew));exact HO_48.out),(by (with_reducible repeat (first|apply Kd.R_alloc|apply Kd.R_drewN|apply Kd.R_drew));exact Kd.R_mono HO_7.out (fun _ hk=>hk.2)),(by repeat (first|(with_reducible first|exact HB.out|apply below_alloc|apply pw_below_drewN|apply below_drew1)|exact HB.out))⟩)
                              ·skip
                               rintro v571 w47 ⟨h0_,h1_,h2_,h3_,h4_,h5_,h6_,h7_⟩
                               have n0_ : Aside0 (Kd.V (Kd.int .u8) 5 w47 w.heap.size (fun k_=>some k_ ≠ (v571 : Value).ownBlock ∧ some k_ ≠ (.slice Ao17 t543.length co17 : Value).ownBlock ∧ some k_ ≠ (.slice Ao17 t543.length co17 : Value).ownBlock) (.slice Ao23 y553.length co23) y553):=⟨h0_⟩
                               have n1_ : Aside0 (Kd.R (Kd.int .u8) 5 w47 w.heap.size (fun k_=>some k_ ≠ (.slice Ao23 t547.length co23 : Value).ownBlock) v571 y570):=⟨h1_⟩
                               have n2_ : Aside0 (Kd.V (Kd.int .u8) 5 w47 w.heap.size (fun k_=>some k_ ≠ (v571 : Value).ownBlock ∧ some k_ ≠ (.slice Ao17 t543.length co17 : Value).ownBlock ∧ some k_ ≠ (.slice Ao17 t543.length co17 : Value).ownBlock) (.slice Ao23 y573.length co23) y573):=⟨h2_⟩
                               have n3_ : Aside0 (Kd.V (Kd.int .u8) 5 w47 w.heap.size (fun k_=>some k_ ≠ (v571 : Value).ownBlock ∧ some k_ ≠ (.slice Ao17 t543.length co17 : Value).ownBlock ∧ some k_ ≠ (.slice Ao17 t543.length co17 : Value).ownBlock) (.slice A44 y581.length c44) y581):=⟨h3_⟩
                               have n4_ : Aside0 (Kd.R k59 59 w47 w.heap.size (fun _=>True) (.slice Ao17 t543.length co17) t543):=⟨h4_⟩
                               have n5_ : Aside0 (Kd.R k59 59 w47 w.heap.size (fun _=>True) (.slice Ao17 t543.length co17) t543):=⟨h5_⟩
                               have n6_ : Aside0 (Kd.R (Kd.int .u8) 5 w47 w.heap.size (fun k_=>some k_ ≠ (v571 : Value).ownBlock) (.slice Ao23 t547.length co23) t547):=⟨h6_⟩
                               have n7_ : Aside0 (Below w.heap.size w w47):=⟨h7_⟩
                               clear HO_0
                               clear HO_7
                               clear HO_48
                               clear HB
                               clear h0_ h1_ h2_ h3_ h4_ h5_ h6_ h7_
                               have HO557:=n0_
                               have HO572:=n1_
                               have HO577:=n2_
                               have HO585:=n3_
                               have HO_0:=n4_
                               have HO_48:=n5_
                               have HO_7:=n6_
                               have HB:=n7_
                               clear n0_ n1_ n2_ n3_ n4_ n5_ n6_ n7_
                               have hHeld:=trivial
                               refine norm_ (a':=?_) ?_ ?_
                               rotate_left
                               ·simp only [putAll,Act.put,List.setIfInBounds_toArray,List.set_cons_zero,List.set_cons_succ]
                                rfl
                               refine two_ (i:=3) (j:=7) (Ni:=some 72) (Nj:=some 76) #[true,true,true,true,true,false,true,false,false,true,true,true,true,false,true,true,true,true,false,false,false,true] #[true,true,true,false,true,false,true,true,false,true,true,true,true,false,true,true,true,true,false,false,false,true] rfl rfl rfl rfl (two_of HT_.out (by kernel_rfl)) (by decide) (by decide) (fun K hK=>?_) (fun K hK=>?_)
                               ·skip
                                refine Kd.R_lit_step (Kd.int .u8) _ 5 ?hg (N:=72) ?hd (xs:=([] : List Int)) (inner:=[]) (ok:=fun _=>True) (okp:=fun _=>True) ?hr ?hp (fun _ hk=>hk) trivial (Below.refl _ _) (Nat.le_refl _) (by simp) ?_;(case hd=>rfl);(case hg=>rfl);(case hr=>first|(go_simp;done)|(go_simp;rfl));(case hp=>exact (Reps.none _ _))
                                intro v559 w48 ho49 hb hg_ hnew_
                                clear hg_ hnew_
                                (first|rw [← Ny558.out] at ho49|(simp only [Int.reduceToNat] at ho49;rw [← Ny558.out] at ho49))
                                have n0_:=Aside0.mk (Kd.R_below (by (with_reducible repeat (first|apply Kd.R_alloc|apply Kd.R_drewN|apply Kd.R_drew));exact HO_0.out) hb)
                                have n1_:=Aside0.mk (Kd.R_elder' (by (with_reducible repeat (first|apply Kd.R_alloc|apply Kd.R_drewN|apply Kd.R_drew));exact HO_7.out) (Kd.R_base ho49) hb)
                                have n2_:=Aside0.mk (Kd.R_below (by (with_reducible repeat (first|apply Kd.R_alloc|apply Kd.R_drewN|apply Kd.R_drew));exact HO_48.out) hb)
                                have n3_:=Aside0.mk (Kd.V_elder' (by (with_reducible repeat (first|apply Kd.V_alloc|apply Kd.V_drewN|apply Kd.V_drew));exact HO557.out) (Kd.R_base ho49) hb)
                                have n4_:=Aside0.mk (Kd.V_elder' (by (with_reducible repeat (first|apply Kd.V_alloc|apply Kd.V_drewN|apply Kd.V_drew));exact HO577.out) (Kd.R_base ho49) hb)
                                have n5_:=Aside0.mk (Kd.V_elder' (by (with_reducible repeat (first|apply Kd.V_alloc|apply Kd.V_drewN|apply Kd.V_drew));exact HO585.out) (Kd.R_base ho49) hb)
                                have n6_:=Aside0.mk (Kd.R_elder' (by (with_reducible repeat (first|apply Kd.R_alloc|apply Kd.R_drewN|apply Kd.R_drew));exact HO572.out) (Kd.R_base ho49) hb)
                                have n7_:=Aside0.mk (Kd.R_lower (Kd.R_new' (Kd.R_new' ho49 (Kd.R_lt (by (with_reducible repeat (first|apply Kd.R_alloc|apply Kd.R_drewN|apply Kd.R_drew));exact HO_7.out))) (Kd.R_lt (by (with_reducible repeat (first|apply Kd.R_alloc|apply Kd.R_drewN|apply Kd.R_drew));exact HO572.out))) (below_size (by repeat (first|(with_reducible first|exact HB.out|apply below_alloc|apply pw_below_drewN|apply below_drew1)|exact HB.out))))
                                have n8_:=Aside0.mk (below_step (by repeat (first|(with_reducible first|exact HB.out|apply below_alloc|apply pw_below_drewN|apply below_drew1)|exact HB.out)) hb)
                                clear HO_0
                                clear HO_7
                                clear HO_48
                                clear HO557
                                clear HO577
                                clear HO585
                                clear HO572
                                clear HB
                                have HO_0:=n0_
                                have HO_7:=n1_
                                have HO_48:=n2_
                                have HO557:=n3_
                                have HO577:=n4_
                                have HO585:=n5_
                                have HO572:=n6_
                                have HO560:=n7_
                                have HB:=n8_
                                clear n0_ n1_ n2_ n3_ n4_ n5_ n6_ n7_ n8_
                                clear hb ho49
                                refine hK.out _ _ trivial (fun hHeld=>?_)
                                clear hK K
                                refine norm_ (a':=?_) ?_ ?_
                                rotate_left
                                ·show Act.put _ (some 72) _ = _
                                 simp only [Act.put,List.setIfInBounds_toArray,List.set_cons_zero,List.set_cons_succ,i64_w,i32_w]
                                 rfl
                                exact norm_ (by first|(simp only [putAll,Act.put,List.setIfInBounds_toArray,List.set_cons_zero,List.set_cons_succ];done)|(simp only [putAll,Act.put,List.setIfInBounds_toArray,List.set_cons_zero,List.set_cons_succ];rfl)) (hJ3_9 (v559,v571) _ ⟨(by (with_reducible repeat (first|apply Kd.V_alloc|apply Kd.V_drewN|apply Kd.V_drew));exact Kd.V_mono HO557.out (fun _ hk=>⟨hk.2,⟨hk.1.1,⟨hk.1.2.1,hk.1.2.2⟩⟩⟩)),(by (with_reducible repeat (first|apply Kd.R_alloc|apply Kd.R_drewN|apply Kd.R_drew));exact Kd.R_mono HO560.out (fun _ hk=>⟨hk.2,hk.1.2⟩)),(by (with_reducible repeat (first|apply Kd.R_alloc|apply Kd.R_drewN|apply Kd.R_drew));exact Kd.R_mono HO572.out (fun _ hk=>⟨hk.2,hk.1⟩)),(by (with_reducible repeat (first|apply Kd.V_alloc|apply Kd.V_drewN|apply Kd.V_drew));exact Kd.V_mono HO577.out (fun _ hk=>⟨hk.2,⟨hk.1.1,⟨hk.1.2.1,hk.1.2.2⟩⟩⟩)),(by (with_reducible repeat (first|apply Kd.V_alloc|apply Kd.V_drewN|apply Kd.V_drew));exact Kd.V_mono HO585.out (fun _ hk=>⟨hk.2,⟨hk.1.1,⟨hk.1.2.1,hk.1.2.2⟩⟩⟩)),(by (with_reducible repeat (first|apply Kd.R_alloc|apply Kd.R_drewN|apply Kd.R_drew));exact HO_0.out),(by (with_reducible repeat (first|apply Kd.R_alloc|apply Kd.R_drewN|apply Kd.R_drew));exact HO_48.out),(by (with_reducible repeat (first|apply Kd.R_alloc|apply Kd.R_drewN|apply Kd.R_drew));exact Kd.R_mono HO_7.out (fun _ hk=>⟨hk.2,hk.1⟩)),(by repeat (first|(with_reducible first|exact HB.out|apply below_alloc|apply pw_below_drewN|apply below_drew1)|exact HB.out))⟩)
                               ·skip
                                refine Kd.R_lit_step (Kd.int .u8) _ 5 ?hg (N:=76) ?hd (xs:=([a2] : List Int)) (inner:=[.int .u8 a2]) (ok:=fun _=>True) (okp:=fun _=>True) ?hr ?hp (fun _ hk=>hk) trivial (Below.refl _ _) (Nat.le_refl _) (by simp) ?_;(case hd=>rfl);(case hg=>rfl);(case hr=>first|(go_simp;done)|(go_simp;rfl));(case hp=>exact (Reps.one (show Kd.M (Kd.int .u8) _ _ _ a2 [.int .u8 a2] from rfl) (Reps.none _ _)))
                                intro v565 w48 ho49 hb hg_ hnew_
                                clear hg_ hnew_
                                (first|rw [← Ny564.out] at ho49|(simp only [Int.reduceToNat] at ho49;rw [← Ny564.out] at ho49))
                                have n0_:=Aside0.mk (Kd.R_below (by (with_reducible repeat (first|apply Kd.R_alloc|apply Kd.R_drewN|apply Kd.R_drew));exact HO_0.out) hb)
                                have n1_:=Aside0.mk (Kd.R_elder' (by (with_reducible repeat (first|apply Kd.R_alloc|apply Kd.R_drewN|apply Kd.R_drew));exact HO_7.out) (Kd.R_base ho49) hb)
                                have n2_:=Aside0.mk (Kd.R_below (by (with_reducible repeat (first|apply Kd.R_alloc|apply Kd.R_drewN|apply Kd.R_drew));exact HO_48.out) hb)
                                have n3_:=Aside0.mk (Kd.V_elder' (by (with_reducible repeat (first|apply Kd.V_alloc|apply Kd.V_drewN|apply Kd.V_drew));exact HO557.out) (Kd.R_base ho49) hb)
                                have n4_:=Aside0.mk (Kd.V_elder' (by (with_reducible repeat (first|apply Kd.V_alloc|apply Kd.V_drewN|apply Kd.V_drew));exact HO577.out) (Kd.R_base ho49) hb)
                                have n5_:=Aside0.mk (Kd.V_elder' (by (with_reducible repeat (first|apply Kd.V_alloc|apply Kd.V_drewN|apply Kd.V_drew));exact HO585.out) (Kd.R_base ho49) hb)
                                have n6_:=Aside0.mk (Kd.R_elder' (by (with_reducible repeat (first|apply Kd.R_alloc|apply Kd.R_drewN|apply Kd.R_drew));exact HO572.out) (Kd.R_base ho49) hb)
                                have n7_:=Aside0.mk (Kd.R_lower (Kd.R_new' (Kd.R_new' ho49 (Kd.R_lt (by (with_reducible repeat (first|apply Kd.R_alloc|apply Kd.R_drewN|apply Kd.R_drew));exact HO_7.out))) (Kd.R_lt (by (with_reducible repeat (first|apply Kd.R_alloc|apply Kd.R_drewN|apply Kd.R_drew));exact HO572.out))) (below_size (by repeat (first|(with_reducible first|exact HB.out|apply below_alloc|apply pw_below_drewN|apply below_drew1)|exact HB.out))))
                                have n8_:=Aside0.mk (below_step (by repeat (first|(with_reducible first|exact HB.out|apply below_alloc|apply pw_below_drewN|apply below_drew1)|exact HB.out)) hb)
                                clear HO_0
                                clear HO_7
                                clear HO_48
                                clear HO557
                                clear HO577
                                clear HO585
                                clear HO572
                                clear HB
                                have HO_0:=n0_
                                have HO_7:=n1_
                                have HO_48:=n2_
                                have HO557:=n3_
                                have HO577:=n4_
                                have HO585:=n5_
                                have HO572:=n6_
                                have HO566:=n7_
                                have HB:=n8_
                                clear n0_ n1_ n2_ n3_ n4_ n5_ n6_ n7_ n8_
                                clear hb ho49
                                refine hK.out _ _ trivial (fun hHeld=>?_)
                                clear hK K
                                refine norm_ (a':=?_) ?_ ?_
                                rotate_left
                                ·show Act.put _ (some 76) _ = _
                                 simp only [Act.put,List.setIfInBounds_toArray,List.set_cons_zero,List.set_cons_succ,i64_w,i32_w]
                                 rfl
                                exact norm_ (by first|(simp only [putAll,Act.put,List.setIfInBounds_toArray,List.set_cons_zero,List.set_cons_succ];done)|(simp only [putAll,Act.put,List.setIfInBounds_toArray,List.set_cons_zero,List.set_cons_succ];rfl)) (hJ7_9 (v565,v571) _ ⟨(by (with_reducible repeat (first|apply Kd.V_alloc|apply Kd.V_drewN|apply Kd.V_drew));exact Kd.V_mono HO557.out (fun _ hk=>⟨hk.2,⟨hk.1.1,⟨hk.1.2.1,hk.1.2.2⟩⟩⟩)),(by (with_reducible repeat (first|apply Kd.R_alloc|apply Kd.R_drewN|apply Kd.R_drew));exact Kd.R_mono HO566.out (fun _ hk=>⟨hk.2,hk.1.2⟩)),(by (with_reducible repeat (first|apply Kd.R_alloc|apply Kd.R_drewN|apply Kd.R_drew));exact Kd.R_mono HO572.out (fun _ hk=>⟨hk.2,hk.1⟩)),(by (with_reducible repeat (first|apply Kd.V_alloc|apply Kd.V_drewN|apply Kd.V_drew));exact Kd.V_mono HO577.out (fun _ hk=>⟨hk.2,⟨hk.1.1,⟨hk.1.2.1,hk.1.2.2⟩⟩⟩)),(by (with_reducible repeat (first|apply Kd.V_alloc|apply Kd.V_drewN|apply Kd.V_drew));exact Kd.V_mono HO585.out (fun _ hk=>⟨hk.2,⟨hk.1.1,⟨hk.1.2.1,hk.1.2.2⟩⟩⟩)),(by (with_reducible repeat (first|apply Kd.R_alloc|apply Kd.R_drewN|apply Kd.R_drew));exact HO_0.out),(by (with_reducible repeat (first|apply Kd.R_alloc|apply Kd.R_drewN|apply Kd.R_drew));exact HO_48.out),(by (with_reducible repeat (first|apply Kd.R_alloc|apply Kd.R_drewN|apply Kd.R_drew));exact Kd.R_mono HO_7.out (fun _ hk=>⟨hk.2,hk.1⟩)),(by repeat (first|(with_reducible first|exact HB.out|apply below_alloc|apply pw_below_drewN|apply below_drew1)|exact HB.out))⟩)
                             ·skip
                              rintro v565 w47 ⟨h0_,h1_,h2_,h3_,h4_,h5_,h6_,h7_⟩
                              have n0_ : Aside0 (Kd.V (Kd.int .u8) 5 w47 w.heap.size (fun k_=>some k_ ≠ (v565 : Value).ownBlock ∧ some k_ ≠ (.slice Ao17 t543.length co17 : Value).ownBlock ∧ some k_ ≠ (.slice Ao17 t543.length co17 : Value).ownBlock) (.slice Ao23 y553.length co23) y553):=⟨h0_⟩
                              have n1_ : Aside0 (Kd.R (Kd.int .u8) 5 w47 w.heap.size (fun k_=>some k_ ≠ (.slice Ao23 t547.length co23 : Value).ownBlock) v565 y564):=⟨h1_⟩
                              have n2_ : Aside0 (Kd.V (Kd.int .u8) 5 w47 w.heap.size (fun k_=>some k_ ≠ (v565 : Value).ownBlock ∧ some k_ ≠ (.slice Ao17 t543.length co17 : Value).ownBlock ∧ some k_ ≠ (.slice Ao17 t543.length co17 : Value).ownBlock) (.slice Ao23 y573.length co23) y573):=⟨h2_⟩
                              have n3_ : Aside0 (Kd.V (Kd.int .u8) 5 w47 w.heap.size (fun k_=>some k_ ≠ (v565 : Value).ownBlock ∧ some k_ ≠ (.slice Ao17 t543.length co17 : Value).ownBlock ∧ some k_ ≠ (.slice Ao17 t543.length co17 : Value).ownBlock) (.slice A44 y581.length c44) y581):=⟨h3_⟩
                              have n4_ : Aside0 (Kd.R k59 59 w47 w.heap.size (fun _=>True) (.slice Ao17 t543.length co17) t543):=⟨h4_⟩
                              have n5_ : Aside0 (Kd.R k59 59 w47 w.heap.size (fun _=>True) (.slice Ao17 t543.length co17) t543):=⟨h5_⟩
                              have n6_ : Aside0 (Kd.R (Kd.int .u8) 5 w47 w.heap.size (fun k_=>some k_ ≠ (v565 : Value).ownBlock) (.slice Ao23 t547.length co23) t547):=⟨h6_⟩
                              have n7_ : Aside0 (Below w.heap.size w w47):=⟨h7_⟩
                              clear HO_0
                              clear HO_7
                              clear HO_48
                              clear HB
                              clear h0_ h1_ h2_ h3_ h4_ h5_ h6_ h7_
                              have HO557:=n0_
                              have HO566:=n1_
                              have HO577:=n2_
                              have HO585:=n3_
                              have HO_0:=n4_
                              have HO_48:=n5_
                              have HO_7:=n6_
                              have HB:=n7_
                              clear n0_ n1_ n2_ n3_ n4_ n5_ n6_ n7_
                              have hHeld:=trivial
                              refine norm_ (a':=?_) ?_ ?_
                              rotate_left
                              ·simp only [putAll,Act.put,List.setIfInBounds_toArray,List.set_cons_zero,List.set_cons_succ]
                               rfl
                              refine two_ (i:=3) (j:=9) (Ni:=some 72) (Nj:=some 78) #[true,true,true,true,true,false,true,true,false,false,true,true,true,false,true,true,true,true,false,false,false,true] #[true,true,true,false,true,false,true,true,false,true,true,true,true,false,true,true,true,true,false,false,false,true] rfl rfl rfl rfl (two_of HT_.out (by kernel_rfl)) (by decide) (by decide) (fun K hK=>?_) (fun K hK=>?_)
                              ·skip
                               refine Kd.R_lit_step (Kd.int .u8) _ 5 ?hg (N:=72) ?hd (xs:=([] : List Int)) (inner:=[]) (ok:=fun _=>True) (okp:=fun _=>True) ?hr ?hp (fun _ hk=>hk) trivial (Below.refl _ _) (Nat.le_refl _) (by simp) ?_;(case hd=>rfl);(case hg=>rfl);(case hr=>first|(go_simp;done)|(go_simp;rfl));(case hp=>exact (Reps.none _ _))
                               intro v559 w48 ho49 hb hg_ hnew_
                               clear hg_ hnew_
                               (first|rw [← Ny558.out] at ho49|(simp only [Int.reduceToNat] at ho49;rw [← Ny558.out] at ho49))
                               have n0_:=Aside0.mk (Kd.R_below (by (with_reducible repeat (first|apply Kd.R_alloc|apply Kd.R_drewN|apply Kd.R_drew));exact HO_0.out) hb)
                               have n1_:=Aside0.mk (Kd.R_elder' (by (with_reducible repeat (first|apply Kd.R_alloc|apply Kd.R_drewN|apply Kd.R_drew));exact HO_7.out) (Kd.R_base ho49) hb)
                               have n2_:=Aside0.mk (Kd.R_below (by (with_reducible repeat (first|apply Kd.R_alloc|apply Kd.R_drewN|apply Kd.R_drew));exact HO_48.out) hb)
                               have n3_:=Aside0.mk (Kd.V_elder' (by (with_reducible repeat (first|apply Kd.V_alloc|apply Kd.V_drewN|apply Kd.V_drew));exact HO557.out) (Kd.R_base ho49) hb)
                               have n4_:=Aside0.mk (Kd.V_elder' (by (with_reducible repeat (first|apply Kd.V_alloc|apply Kd.V_drewN|apply Kd.V_drew));exact HO577.out) (Kd.R_base ho49) hb)
                               have n5_:=Aside0.mk (Kd.V_elder' (by (with_reducible repeat (first|apply Kd.V_alloc|apply Kd.V_drewN|apply Kd.V_drew));exact HO585.out) (Kd.R_base ho49) hb)
                               have n6_:=Aside0.mk (Kd.R_elder' (by (with_reducible repeat (first|apply Kd.R_alloc|apply Kd.R_drewN|apply Kd.R_drew));exact HO566.out) (Kd.R_base ho49) hb)
                               have n7_:=Aside0.mk (Kd.R_lower (Kd.R_new' (Kd.R_new' ho49 (Kd.R_lt (by (with_reducible repeat (first|apply Kd.R_alloc|apply Kd.R_drewN|apply Kd.R_drew));exact HO_7.out))) (Kd.R_lt (by (with_reducible repeat (first|apply Kd.R_alloc|apply Kd.R_drewN|apply Kd.R_drew));exact HO566.out))) (below_size (by repeat (first|(with_reducible first|exact HB.out|apply below_alloc|apply pw_below_drewN|apply below_drew1)|exact HB.out))))
                               have n8_:=Aside0.mk (below_step (by repeat (first|(with_reducible first|exact HB.out|apply below_alloc|apply pw_below_drewN|apply below_drew1)|exact HB.out)) hb)
                               clear HO_0
                               clear HO_7
                               clear HO_48
                               clear HO557
                               clear HO577
                               clear HO585
                               clear HO566
                               clear HB
                               have HO_0:=n0_
                               have HO_7:=n1_
                               have HO_48:=n2_
                               have HO557:=n3_
                               have HO577:=n4_
                               have HO585:=n5_
                               have HO566:=n6_
                               have HO560:=n7_
                               have HB:=n8_
                               clear n0_ n1_ n2_ n3_ n4_ n5_ n6_ n7_ n8_
                               clear hb ho49
                               refine hK.out _ _ trivial (fun hHeld=>?_)
                               clear hK K
                               refine norm_ (a':=?_) ?_ ?_
                               rotate_left
                               ·show Act.put _ (some 72) _ = _
                                simp only [Act.put,List.setIfInBounds_toArray,List.set_cons_zero,List.set_cons_succ,i64_w,i32_w]
                                rfl
                               exact norm_ (by first|(simp only [putAll,Act.put,List.setIfInBounds_toArray,List.set_cons_zero,List.set_cons_succ];done)|(simp only [putAll,Act.put,List.setIfInBounds_toArray,List.set_cons_zero,List.set_cons_succ];rfl)) (hJ3_7 (v559,v565) _ ⟨(by (with_reducible repeat (first|apply Kd.V_alloc|apply Kd.V_drewN|apply Kd.V_drew));exact Kd.V_mono HO557.out (fun _ hk=>⟨hk.2,⟨hk.1.1,⟨hk.1.2.1,hk.1.2.2⟩⟩⟩)),(by (with_reducible repeat (first|apply Kd.R_alloc|apply Kd.R_drewN|apply Kd.R_drew));exact Kd.R_mono HO560.out (fun _ hk=>⟨hk.2,hk.1.2⟩)),(by (with_reducible repeat (first|apply Kd.R_alloc|apply Kd.R_drewN|apply Kd.R_drew));exact Kd.R_mono HO566.out (fun _ hk=>⟨hk.2,hk.1⟩)),(by (with_reducible repeat (first|apply Kd.V_alloc|apply Kd.V_drewN|apply Kd.V_drew));exact Kd.V_mono HO577.out (fun _ hk=>⟨hk.2,⟨hk.1.1,⟨hk.1.2.1,hk.1.2.2⟩⟩⟩)),(by (with_reducible repeat (first|apply Kd.V_alloc|apply Kd.V_drewN|apply Kd.V_drew));exact Kd.V_mono HO585.out (fun _ hk=>⟨hk.2,⟨hk.1.1,⟨hk.1.2.1,hk.1.2.2⟩⟩⟩)),(by (with_reducible repeat (first|apply Kd.R_alloc|apply Kd.R_drewN|apply Kd.R_drew));exact HO_0.out),(by (with_reducible repeat (first|apply Kd.R_alloc|apply Kd.R_drewN|apply Kd.R_drew));exact HO_48.out),(by (with_reducible repeat (first|apply Kd.R_alloc|apply Kd.R_drewN|apply Kd.R_drew));exact Kd.R_mono HO_7.out (fun _ hk=>⟨hk.2,hk.1⟩)),(by repeat (first|(with_reducible first|exact HB.out|apply below_alloc|apply pw_below_drewN|apply below_drew1)|exact HB.out))⟩)
                              ·skip
                               refine Kd.R_lit_step (Kd.int .u8) _ 5 ?hg (N:=78) ?hd (xs:=([] : List Int)) (inner:=[]) (ok:=fun _=>True) (okp:=fun _=>True) ?hr ?hp (fun _ hk=>hk) trivial (Below.refl _ _) (Nat.le_refl _) (by simp) ?_;(case hd=>rfl);(case hg=>rfl);(case hr=>first|(go_simp;done)|(go_simp;rfl));(case hp=>exact (Reps.none _ _))
                               intro v571 w48 ho49 hb hg_ hnew_
                               clear hg_ hnew_
                               (first|rw [← Ny570.out] at ho49|(simp only [Int.reduceToNat] at ho49;rw [← Ny570.out] at ho49))
                               have n0_:=Aside0.mk (Kd.R_below (by (with_reducible repeat (first|apply Kd.R_alloc|apply Kd.R_drewN|apply Kd.R_drew));exact HO_0.out) hb)
                               have n1_:=Aside0.mk (Kd.R_elder' (by (with_reducible repeat (first|apply Kd.R_alloc|apply Kd.R_drewN|apply Kd.R_drew));exact HO_7.out) (Kd.R_base ho49) hb)
                               have n2_:=Aside0.mk (Kd.R_below (by (with_reducible repeat (first|apply Kd.R_alloc|apply Kd.R_drewN|apply Kd.R_drew));exact HO_48.out) hb)
                               have n3_:=Aside0.mk (Kd.V_elder' (by (with_reducible repeat (first|apply Kd.V_alloc|apply Kd.V_drewN|apply Kd.V_drew));exact HO557.out) (Kd.R_base ho49) hb)
                               have n4_:=Aside0.mk (Kd.V_elder' (by (with_reducible repeat (first|apply Kd.V_alloc|apply Kd.V_drewN|apply Kd.V_drew));exact HO577.out) (Kd.R_base ho49) hb)
                               have n5_:=Aside0.mk (Kd.V_elder' (by (with_reducible repeat (first|apply Kd.V_alloc|apply Kd.V_drewN|apply Kd.V_drew));exact HO585.out) (Kd.R_base ho49) hb)
                               have n6_:=Aside0.mk (Kd.R_elder' (by (with_reducible repeat (first|apply Kd.R_alloc|apply Kd.R_drewN|apply Kd.R_drew));exact HO566.out) (Kd.R_base ho49) hb)
                               have n7_:=Aside0.mk (Kd.R_lower (Kd.R_new' (Kd.R_new' ho49 (Kd.R_lt (by (with_reducible repeat (first|apply Kd.R_alloc|apply Kd.R_drewN|apply Kd.R_drew));exact HO_7.out))) (Kd.R_lt (by (with_reducible repeat (first|apply Kd.R_alloc|apply Kd.R_drewN|apply Kd.R_drew));exact HO566.out))) (below_size (by repeat (first|(with_reducible first|exact HB.out|apply below_alloc|apply pw_below_drewN|apply below_drew1)|exact HB.out))))
                               have n8_:=Aside0.mk (below_step (by repeat (first|(with_reducible first|exact HB.out|apply below_alloc|apply pw_below_drewN|apply below_drew1)|exact HB.out)) hb)
                               clear HO_0
                               clear HO_7
                               clear HO_48
                               clear HO557
                               clear HO577
                               clear HO585
                               clear HO566
                               clear HB
                               have HO_0:=n0_
                               have HO_7:=n1_
                               have HO_48:=n2_
                               have HO557:=n3_
                               have HO577:=n4_
                               have HO585:=n5_
                               have HO566:=n6_
                               have HO572:=n7_
                               have HB:=n8_
                               clear n0_ n1_ n2_ n3_ n4_ n5_ n6_ n7_ n8_
                               clear hb ho49
                               refine hK.out _ _ trivial (fun hHeld=>?_)
                               clear hK K
                               refine norm_ (a':=?_) ?_ ?_
                               rotate_left
                               ·show Act.put _ (some 78) _ = _
                                simp only [Act.put,List.setIfInBounds_toArray,List.set_cons_zero,List.set_cons_succ,i64_w,i32_w]
                                rfl
                               exact norm_ (by first|(simp only [putAll,Act.put,List.setIfInBounds_toArray,List.set_cons_zero,List.set_cons_succ];done)|(simp only [putAll,Act.put,List.setIfInBounds_toArray,List.set_cons_zero,List.set_cons_succ];rfl)) (hJ7_9 (v565,v571) _ ⟨(by (with_reducible repeat (first|apply Kd.V_alloc|apply Kd.V_drewN|apply Kd.V_drew));exact Kd.V_mono HO557.out (fun _ hk=>⟨hk.1.1,⟨hk.2,⟨hk.1.2.1,hk.1.2.2⟩⟩⟩)),(by (with_reducible repeat (first|apply Kd.R_alloc|apply Kd.R_drewN|apply Kd.R_drew));exact Kd.R_mono HO566.out (fun _ hk=>⟨hk.2,hk.1⟩)),(by (with_reducible repeat (first|apply Kd.R_alloc|apply Kd.R_drewN|apply Kd.R_drew));exact Kd.R_mono HO572.out (fun _ hk=>⟨hk.2,hk.1.2⟩)),(by (with_reducible repeat (first|apply Kd.V_alloc|apply Kd.V_drewN|apply Kd.V_drew));exact Kd.V_mono HO577.out (fun _ hk=>⟨hk.1.1,⟨hk.2,⟨hk.1.2.1,hk.1.2.2⟩⟩⟩)),(by (with_reducible repeat (first|apply Kd.V_alloc|apply Kd.V_drewN|apply Kd.V_drew));exact Kd.V_mono HO585.out (fun _ hk=>⟨hk.1.1,⟨hk.2,⟨hk.1.2.1,hk.1.2.2⟩⟩⟩)),(by (with_reducible repeat (first|apply Kd.R_alloc|apply Kd.R_drewN|apply Kd.R_drew));exact HO_0.out),(by (with_reducible repeat (first|apply Kd.R_alloc|apply Kd.R_drewN|apply Kd.R_drew));exact HO_48.out),(by (with_reducible repeat (first|apply Kd.R_alloc|apply Kd.R_drewN|apply Kd.R_drew));exact HO_7.out),(by repeat (first|(with_reducible first|exact HB.out|apply below_alloc|apply pw_below_drewN|apply below_drew1)|exact HB.out))⟩)
                            ·skip
                             rintro v559 w47 ⟨h0_,h1_,h2_,h3_,h4_,h5_,h6_,h7_⟩
                             have n0_ : Aside0 (Kd.V (Kd.int .u8) 5 w47 w.heap.size (fun k_=>some k_ ≠ (v559 : Value).ownBlock ∧ some k_ ≠ (.slice Ao17 t543.length co17 : Value).ownBlock ∧ some k_ ≠ (.slice Ao17 t543.length co17 : Value).ownBlock) (.slice Ao23 y553.length co23) y553):=⟨h0_⟩
                             have n1_ : Aside0 (Kd.R (Kd.int .u8) 5 w47 w.heap.size (fun k_=>some k_ ≠ (.slice Ao23 t547.length co23 : Value).ownBlock) v559 y558):=⟨h1_⟩
                             have n2_ : Aside0 (Kd.V (Kd.int .u8) 5 w47 w.heap.size (fun k_=>some k_ ≠ (v559 : Value).ownBlock ∧ some k_ ≠ (.slice Ao17 t543.length co17 : Value).ownBlock ∧ some k_ ≠ (.slice Ao17 t543.length co17 : Value).ownBlock) (.slice Ao23 y573.length co23) y573):=⟨h2_⟩
                             have n3_ : Aside0 (Kd.V (Kd.int .u8) 5 w47 w.heap.size (fun k_=>some k_ ≠ (v559 : Value).ownBlock ∧ some k_ ≠ (.slice Ao17 t543.length co17 : Value).ownBlock ∧ some k_ ≠ (.slice Ao17 t543.length co17 : Value).ownBlock) (.slice A44 y581.length c44) y581):=⟨h3_⟩
                             have n4_ : Aside0 (Kd.R k59 59 w47 w.heap.size (fun _=>True) (.slice Ao17 t543.length co17) t543):=⟨h4_⟩
                             have n5_ : Aside0 (Kd.R k59 59 w47 w.heap.size (fun _=>True) (.slice Ao17 t543.length co17) t543):=⟨h5_⟩
                             have n6_ : Aside0 (Kd.R (Kd.int .u8) 5 w47 w.heap.size (fun k_=>some k_ ≠ (v559 : Value).ownBlock) (.slice Ao23 t547.length co23) t547):=⟨h6_⟩
                             have n7_ : Aside0 (Below w.heap.size w w47):=⟨h7_⟩
                             clear HO_0
                             clear HO_7
                             clear HO_48
                             clear HB
                             clear h0_ h1_ h2_ h3_ h4_ h5_ h6_ h7_
                             have HO557:=n0_
                             have HO560:=n1_
                             have HO577:=n2_
                             have HO585:=n3_
                             have HO_0:=n4_
                             have HO_48:=n5_
                             have HO_7:=n6_
                             have HB:=n7_
                             clear n0_ n1_ n2_ n3_ n4_ n5_ n6_ n7_
                             have hHeld:=trivial
                             refine norm_ (a':=?_) ?_ ?_
                             rotate_left
                             ·simp only [putAll,Act.put,List.setIfInBounds_toArray,List.set_cons_zero,List.set_cons_succ]
                              rfl
                             refine three_ (i:=5) (j:=7) (k:=9) (Ni:=some 74) (Nj:=some 76) (Nk:=some 78) #[true,true,true,true,true,true,true,false,false,false,true,true,true,false,true,true,true,true,false,false,false,true] #[true,true,true,true,true,false,true,true,false,false,true,true,true,false,true,true,true,true,false,false,false,true] #[true,true,true,true,true,false,true,false,false,true,true,true,true,false,true,true,true,true,false,false,false,true] rfl rfl rfl rfl rfl rfl (three_of HT_.out (by kernel_rfl)) (by decide) (by decide) (by decide) (fun K hK=>?_) (fun K hK=>?_) (fun K hK=>?_)
                             ·skip
                              refine Kd.R_append_rows_step (Kd.int .u8) (w0:=w) w.heap.size (by rfl) (.tmp 72) (.tmp 73) 26 5 (.int .u8 0) 1 rfl Try.underlying26 info5 rfl (by decide) (by omega) v559 y558 t547 _ _ _ (fun k_=>some k_ ≠ (.slice Ao23 t547.length co23 : Value).ownBlock) (fun _=>False) rfl rfl ?aO ?aR (fun _ _ h=>h) (fun _ h=>h.elim) ?aF ?aB ?aS ?aL ?_
                              (case aR=>repeat (first|exact (Kd.R_reads' HO_7.out).2.2|(with_reducible refine Kd.C_alloc ?_ _)|(with_reducible refine Kd.C_drewN ?_ _)|(with_reducible refine Kd.C_drew ?_)))
                              (case aB=>exact (by repeat (first|(with_reducible first|exact HB.out|apply below_alloc|apply pw_below_drewN|apply below_drew1)|exact HB.out)))
                              (case aF=>exact (fun k_ hk=>Kd.fresh' (Kd.R_lt (by (with_reducible repeat (first|apply Kd.R_alloc|apply Kd.R_drewN|apply Kd.R_drew));exact HO_7.out)) k_ hk))
                              (case aO=>exact (by (with_reducible repeat (first|apply Kd.R_alloc|apply Kd.R_drewN|apply Kd.R_drew));exact HO560.out))
                              (case aS=>exact (below_size (by repeat (first|(with_reducible first|exact HB.out|apply below_alloc|apply pw_below_drewN|apply below_drew1)|exact HB.out))))
                              (case aL=>have:=LMc32.out;omega)
                              intro v562 w48 ho hb hg hat
                              rw [← Ny561.out] at ho
                              have n0_:=Aside0.mk (Kd.R_over' (by (with_reducible repeat (first|apply Kd.R_alloc|apply Kd.R_drewN|apply Kd.R_drew));exact HO_0.out) (Kd.R_typed (by (with_reducible repeat (first|apply Kd.R_alloc|apply Kd.R_drewN|apply Kd.R_drew));exact HO560.out)) (by decide) hg)
                              have n1_:=Aside0.mk (Kd.R_after (ok:=(fun _=>True)) (by (with_reducible repeat (first|apply Kd.R_alloc|apply Kd.R_drewN|apply Kd.R_drew));exact Kd.R_mono HO_7.out (fun _ hk=>⟨trivial,hk⟩)) hg hat)
                              have n2_:=Aside0.mk (Kd.R_over' (by (with_reducible repeat (first|apply Kd.R_alloc|apply Kd.R_drewN|apply Kd.R_drew));exact HO_48.out) (Kd.R_typed (by (with_reducible repeat (first|apply Kd.R_alloc|apply Kd.R_drewN|apply Kd.R_drew));exact HO560.out)) (by decide) hg)
                              have n3_:=Aside0.mk (Kd.V_afterv (ok:=(fun k_=>some k_ ≠ (.slice Ao17 t543.length co17 : Value).ownBlock ∧ some k_ ≠ (.slice Ao17 t543.length co17 : Value).ownBlock)) (by (with_reducible repeat (first|apply Kd.V_alloc|apply Kd.V_drewN|apply Kd.V_drew));exact Kd.V_mono HO557.out (fun _ hk=>⟨⟨hk.2.1,hk.2.2⟩,hk.1⟩)) hg hat)
                              have n4_:=Aside0.mk (Kd.V_afterv (ok:=(fun k_=>some k_ ≠ (.slice Ao17 t543.length co17 : Value).ownBlock ∧ some k_ ≠ (.slice Ao17 t543.length co17 : Value).ownBlock)) (by (with_reducible repeat (first|apply Kd.V_alloc|apply Kd.V_drewN|apply Kd.V_drew));exact Kd.V_mono HO577.out (fun _ hk=>⟨⟨hk.2.1,hk.2.2⟩,hk.1⟩)) hg hat)
                              have n5_:=Aside0.mk (Kd.V_afterv (ok:=(fun k_=>some k_ ≠ (.slice Ao17 t543.length co17 : Value).ownBlock ∧ some k_ ≠ (.slice Ao17 t543.length co17 : Value).ownBlock)) (by (with_reducible repeat (first|apply Kd.V_alloc|apply Kd.V_drewN|apply Kd.V_drew));exact Kd.V_mono HO585.out (fun _ hk=>⟨⟨hk.2.1,hk.2.2⟩,hk.1⟩)) hg hat)
                              have n6_:=Aside0.mk (hb)
                              have n7_:=Aside0.mk (ho)
                              clear HO_0
                              clear HO_7
                              clear HO_48
                              clear HO557
                              clear HO577
                              clear HO585
                              clear HB
                              clear HO560
                              have HO_0:=n0_
                              have HO_7:=n1_
                              have HO_48:=n2_
                              have HO557:=n3_
                              have HO577:=n4_
                              have HO585:=n5_
                              have HB:=n6_
                              have HO563:=n7_
                              clear n0_ n1_ n2_ n3_ n4_ n5_ n6_ n7_
                              clear ho hb hg hat
                              refine hK.out _ _ trivial (fun hHeld=>?_)
                              clear hK K
                              refine norm_ (a':=?_) ?_ ?_
                              rotate_left
                              ·show Act.put _ (some 74) _ = _
                               simp only [Act.put,List.setIfInBounds_toArray,List.set_cons_zero,List.set_cons_succ,i64_w,i32_w]
                               rfl
                              exact norm_ (by first|(simp only [putAll,Act.put,List.setIfInBounds_toArray,List.set_cons_zero,List.set_cons_succ];done)|(simp only [putAll,Act.put,List.setIfInBounds_toArray,List.set_cons_zero,List.set_cons_succ];rfl)) (hJ3_5 (v559,v562) _ ⟨(by (with_reducible repeat (first|apply Kd.V_alloc|apply Kd.V_drewN|apply Kd.V_drew));exact Kd.V_mono HO557.out (fun _ hk=>⟨hk.2,⟨hk.1.1,hk.1.2⟩⟩)),(by (with_reducible repeat (first|apply Kd.R_alloc|apply Kd.R_drewN|apply Kd.R_drew));exact HO563.out),(by (with_reducible repeat (first|apply Kd.V_alloc|apply Kd.V_drewN|apply Kd.V_drew));exact Kd.V_mono HO577.out (fun _ hk=>⟨hk.2,⟨hk.1.1,hk.1.2⟩⟩)),(by (with_reducible repeat (first|apply Kd.V_alloc|apply Kd.V_drewN|apply Kd.V_drew));exact Kd.V_mono HO585.out (fun _ hk=>⟨hk.2,⟨hk.1.1,hk.1.2⟩⟩)),(by (with_reducible repeat (first|apply Kd.R_alloc|apply Kd.R_drewN|apply Kd.R_drew));exact HO_0.out),(by (with_reducible repeat (first|apply Kd.R_alloc|apply Kd.R_drewN|apply Kd.R_drew));exact HO_48.out),(by (with_reducible repeat (first|apply Kd.R_alloc|apply Kd.R_drewN|apply Kd.R_drew));exact Kd.R_mono HO_7.out (fun _ hk=>hk.2)),(by repeat (first|(with_reducible first|exact HB.out|apply below_alloc|apply pw_below_drewN|apply below_drew1)|exact HB.out))⟩)
                             ·skip
                              refine Kd.R_lit_step (Kd.int .u8) _ 5 ?hg (N:=76) ?hd (xs:=([a2] : List Int)) (inner:=[.int .u8 a2]) (ok:=fun _=>True) (okp:=fun _=>True) ?hr ?hp (fun _ hk=>hk) trivial (Below.refl _ _) (Nat.le_refl _) (by simp) ?_;(case hd=>rfl);(case hg=>rfl);(case hr=>first|(go_simp;done)|(go_simp;rfl));(case hp=>exact (Reps.one (show Kd.M (Kd.int .u8) _ _ _ a2 [.int .u8 a2] from rfl) (Reps.none _ _)))
                              intro v565 w48 ho49 hb hg_ hnew_
                              clear hg_ hnew_
                              (first|rw [← Ny564.out] at ho49|(simp only [Int.reduceToNat] at ho49;rw [← Ny564.out] at ho49))
                              have n0_:=Aside0.mk (Kd.R_below (by (with_reducible repeat (first|apply Kd.R_alloc|apply Kd.R_drewN|apply Kd.R_drew));exact HO_0.out) hb)
                              have n1_:=Aside0.mk (Kd.R_elder' (by (with_reducible repeat (first|apply Kd.R_alloc|apply Kd.R_drewN|apply Kd.R_drew));exact HO_7.out) (Kd.R_base ho49) hb)
                              have n2_:=Aside0.mk (Kd.R_below (by (with_reducible repeat (first|apply Kd.R_alloc|apply Kd.R_drewN|apply Kd.R_drew));exact HO_48.out) hb)
                              have n3_:=Aside0.mk (Kd.V_elder' (by (with_reducible repeat (first|apply Kd.V_alloc|apply Kd.V_drewN|apply Kd.V_drew));exact HO557.out) (Kd.R_base ho49) hb)
                              have n4_:=Aside0.mk (Kd.V_elder' (by (with_reducible repeat (first|apply Kd.V_alloc|apply Kd.V_drewN|apply Kd.V_drew));exact HO577.out) (Kd.R_base ho49) hb)
                              have n5_:=Aside0.mk (Kd.V_elder' (by (with_reducible repeat (first|apply Kd.V_alloc|apply Kd.V_drewN|apply Kd.V_drew));exact HO585.out) (Kd.R_base ho49) hb)
                              have n6_:=Aside0.mk (Kd.R_elder' (by (with_reducible repeat (first|apply Kd.R_alloc|apply Kd.R_drewN|apply Kd.R_drew));exact HO560.out) (Kd.R_base ho49) hb)
                              have n7_:=Aside0.mk (Kd.R_lower (Kd.R_new' (Kd.R_new' ho49 (Kd.R_lt (by (with_reducible repeat (first|apply Kd.R_alloc|apply Kd.R_drewN|apply Kd.R_drew));exact HO_7.out))) (Kd.R_lt (by (with_reducible repeat (first|apply Kd.R_alloc|apply Kd.R_drewN|apply Kd.R_drew));exact HO560.out))) (below_size (by repeat (first|(with_reducible first|exact HB.out|apply below_alloc|apply pw_below_drewN|apply below_drew1)|exact HB.out))))
                              have n8_:=Aside0.mk (below_step (by repeat (first|(with_reducible first|exact HB.out|apply below_alloc|apply pw_below_drewN|apply below_drew1)|exact HB.out)) hb)
                              clear HO_0
                              clear HO_7
                              clear HO_48
                              clear HO557
                              clear HO577
                              clear HO585
                              clear HO560
                              clear HB
                              have HO_0:=n0_
                              have HO_7:=n1_
                              have HO_48:=n2_
                              have HO557:=n3_
                              have HO577:=n4_
                              have HO585:=n5_
                              have HO560:=n6_
                              have HO566:=n7_
                              have HB:=n8_
                              clear n0_ n1_ n2_ n3_ n4_ n5_ n6_ n7_ n8_
                              clear hb ho49
                              refine hK.out _ _ trivial (fun hHeld=>?_)
                              clear hK K
                              refine norm_ (a':=?_) ?_ ?_
                              rotate_left
                              ·show Act.put _ (some 76) _ = _
                               simp only [Act.put,List.setIfInBounds_toArray,List.set_cons_zero,List.set_cons_succ,i64_w,i32_w]
                               rfl
                              exact norm_ (by first|(simp only [putAll,Act.put,List.setIfInBounds_toArray,List.set_cons_zero,List.set_cons_succ];done)|(simp only [putAll,Act.put,List.setIfInBounds_toArray,List.set_cons_zero,List.set_cons_succ];rfl)) (hJ3_7 (v559,v565) _ ⟨(by (with_reducible repeat (first|apply Kd.V_alloc|apply Kd.V_drewN|apply Kd.V_drew));exact Kd.V_mono HO557.out (fun _ hk=>⟨hk.1.1,⟨hk.2,⟨hk.1.2.1,hk.1.2.2⟩⟩⟩)),(by (with_reducible repeat (first|apply Kd.R_alloc|apply Kd.R_drewN|apply Kd.R_drew));exact Kd.R_mono HO560.out (fun _ hk=>⟨hk.2,hk.1⟩)),(by (with_reducible repeat (first|apply Kd.R_alloc|apply Kd.R_drewN|apply Kd.R_drew));exact Kd.R_mono HO566.out (fun _ hk=>⟨hk.2,hk.1.2⟩)),(by (with_reducible repeat (first|apply Kd.V_alloc|apply Kd.V_drewN|apply Kd.V_drew));exact Kd.V_mono HO577.out (fun _ hk=>⟨hk.1.1,⟨hk.2,⟨hk.1.2.1,hk.1.2.2⟩⟩⟩)),(by (with_reducible repeat (first|apply Kd.V_alloc|apply Kd.V_drewN|apply Kd.V_drew));exact Kd.V_mono HO585.out (fun _ hk=>⟨hk.1.1,⟨hk.2,⟨hk.1.2.1,hk.1.2.2⟩⟩⟩)),(by (with_reducible repeat (first|apply Kd.R_alloc|apply Kd.R_drewN|apply Kd.R_drew));exact HO_0.out),(by (with_reducible repeat (first|apply Kd.R_alloc|apply Kd.R_drewN|apply Kd.R_drew));exact HO_48.out),(by (with_reducible repeat (first|apply Kd.R_alloc|apply Kd.R_drewN|apply Kd.R_drew));exact HO_7.out),(by repeat (first|(with_reducible first|exact HB.out|apply below_alloc|apply pw_below_drewN|apply below_drew1)|exact HB.out))⟩)
                             ·skip
                              refine Kd.R_lit_step (Kd.int .u8) _ 5 ?hg (N:=78) ?hd (xs:=([] : List Int)) (inner:=[]) (ok:=fun _=>True) (okp:=fun _=>True) ?hr ?hp (fun _ hk=>hk) trivial (Below.refl _ _) (Nat.le_refl _) (by simp) ?_;(case hd=>rfl);(case hg=>rfl);(case hr=>first|(go_simp;done)|(go_simp;rfl));(case hp=>exact (Reps.none _ _))
                              intro v571 w48 ho49 hb hg_ hnew_
                              clear hg_ hnew_
                              (first|rw [← Ny570.out] at ho49|(simp only [Int.reduceToNat] at ho49;rw [← Ny570.out] at ho49))
                              have n0_:=Aside0.mk (Kd.R_below (by (with_reducible repeat (first|apply Kd.R_alloc|apply Kd.R_drewN|apply Kd.R_drew));exact HO_0.out) hb)
                              have n1_:=Aside0.mk (Kd.R_elder' (by (with_reducible repeat (first|apply Kd.R_alloc|apply Kd.R_drewN|apply Kd.R_drew));exact HO_7.out) (Kd.R_base ho49) hb)
                              have n2_:=Aside0.mk (Kd.R_below (by (with_reducible repeat (first|apply Kd.R_alloc|apply Kd.R_drewN|apply Kd.R_drew));exact HO_48.out) hb)
                              have n3_:=Aside0.mk (Kd.V_elder' (by (with_reducible repeat (first|apply Kd.V_alloc|apply Kd.V_drewN|apply Kd.V_drew));exact HO557.out) (Kd.R_base ho49) hb)
                              have n4_:=Aside0.mk (Kd.V_elder' (by (with_reducible repeat (first|apply Kd.V_alloc|apply Kd.V_drewN|apply Kd.V_drew));exact HO577.out) (Kd.R_base ho49) hb)
                              have n5_:=Aside0.mk (Kd.V_elder' (by (with_reducible repeat (first|apply Kd.V_alloc|apply Kd.V_drewN|apply Kd.V_drew));exact HO585.out) (Kd.R_base ho49) hb)
                              have n6_:=Aside0.mk (Kd.R_elder' (by (with_reducible repeat (first|apply Kd.R_alloc|apply Kd.R_drewN|apply Kd.R_drew));exact HO560.out) (Kd.R_base ho49) hb)
                              have n7_:=Aside0.mk (Kd.R_lower (Kd.R_new' (Kd.R_new' ho49 (Kd.R_lt (by (with_reducible repeat (first|apply Kd.R_alloc|apply Kd.R_drewN|apply Kd.R_drew));exact HO_7.out))) (Kd.R_lt (by (with_reducible repeat (first|apply Kd.R_alloc|apply Kd.R_drewN|apply Kd.R_drew));exact HO560.out))) (below_size (by repeat (first|(with_reducible first|exact HB.out|apply below_alloc|apply pw_below_drewN|apply below_drew1)|exact HB.out))))
                              have n8_:=Aside0.mk (below_step (by repeat (first|(with_reducible first|exact HB.out|apply below_alloc|apply pw_below_drewN|apply below_drew1)|exact HB.out)) hb)
                              clear HO_0
                              clear HO_7
                              clear HO_48
                              clear HO557
                              clear HO577
                              clear HO585
                              clear HO560
                              clear HB
                              have HO_0:=n0_
                              have HO_7:=n1_
                              have HO_48:=n2_
                              have HO557:=n3_
                              have HO577:=n4_
                              have HO585:=n5_
                              have HO560:=n6_
                              have HO572:=n7_
                              have HB:=n8_
                              clear n0_ n1_ n2_ n3_ n4_ n5_ n6_ n7_ n8_
                              clear hb ho49
                              refine hK.out _ _ trivial (fun hHeld=>?_)
                              clear hK K
                              refine norm_ (a':=?_) ?_ ?_
                              rotate_left
                              ·show Act.put _ (some 78) _ = _
                               simp only [Act.put,List.setIfInBounds_toArray,List.set_cons_zero,List.set_cons_succ,i64_w,i32_w]
                               rfl
                              exact norm_ (by first|(simp only [putAll,Act.put,List.setIfInBounds_toArray,List.set_cons_zero,List.set_cons_succ];done)|(simp only [putAll,Act.put,List.setIfInBounds_toArray,List.set_cons_zero,List.set_cons_succ];rfl)) (hJ3_9 (v559,v571) _ ⟨(by (with_reducible repeat (first|apply Kd.V_alloc|apply Kd.V_drewN|apply Kd.V_drew));exact Kd.V_mono HO557.out (fun _ hk=>⟨hk.1.1,⟨hk.2,⟨hk.1.2.1,hk.1.2.2⟩⟩⟩)),(by (with_reducible repeat (first|apply Kd.R_alloc|apply Kd.R_drewN|apply Kd.R_drew));exact Kd.R_mono HO560.out (fun _ hk=>⟨hk.2,hk.1⟩)),(by (with_reducible repeat (first|apply Kd.R_alloc|apply Kd.R_drewN|apply Kd.R_drew));exact Kd.R_mono HO572.out (fun _ hk=>⟨hk.2,hk.1.2⟩)),(by (with_reducible repeat (first|apply Kd.V_alloc|apply Kd.V_drewN|apply Kd.V_drew));exact Kd.V_mono HO577.out (fun _ hk=>⟨hk.1.1,⟨hk.2,⟨hk.1.2.1,hk.1.2.2⟩⟩⟩)),(by (with_reducible repeat (first|apply Kd.V_alloc|apply Kd.V_drewN|apply Kd.V_drew));exact Kd.V_mono HO585.out (fun _ hk=>⟨hk.1.1,⟨hk.2,⟨hk.1.2.1,hk.1.2.2⟩⟩⟩)),(by (with_reducible repeat (first|apply Kd.R_alloc|apply Kd.R_drewN|apply Kd.R_drew));exact HO_0.out),(by (with_reducible repeat (first|apply Kd.R_alloc|apply Kd.R_drewN|apply Kd.R_drew));exact HO_48.out),(by (with_reducible repeat (first|apply Kd.R_alloc|apply Kd.R_drewN|apply Kd.R_drew));exact HO_7.out),(by repeat (first|(with_reducible first|exact HB.out|apply below_alloc|apply pw_below_drewN|apply below_drew1)|exact HB.out))⟩)
                           ·skip
                            rintro ⟨v565,v571⟩ w49 ⟨h0_,h1_,h2_,h3_,h4_,h5_,h6_,h7_,h8_⟩
                            have n0_ : Aside0 (Kd.V (Kd.int .u8) 5 w49 w.heap.size (fun k_=>some k_ ≠ (v565 : Value).ownBlock ∧ some k_ ≠ (v571 : Value).ownBlock ∧ some k_ ≠ (.slice Ao17 t543.length co17 : Value).ownBlock ∧ some k_ ≠ (.slice Ao17 t543.length co17 : Value).ownBlock) (.slice Ao23 y553.length co23) y553):=⟨h0_⟩
                            have n1_ : Aside0 (Kd.R (Kd.int .u8) 5 w49 w.heap.size (fun k_=>some k_ ≠ (v571 : Value).ownBlock ∧ some k_ ≠ (.slice Ao23 t547.length co23 : Value).ownBlock) v565 y564):=⟨h1_⟩
                            have n2_ : Aside0 (Kd.R (Kd.int .u8) 5 w49 w.heap.size (fun k_=>some k_ ≠ (v565 : Value).ownBlock ∧ some k_ ≠ (.slice Ao23 t547.length co23 : Value).ownBlock) v571 y570):=⟨h2_⟩
                            have n3_ : Aside0 (Kd.V (Kd.int .u8) 5 w49 w.heap.size (fun k_=>some k_ ≠ (v565 : Value).ownBlock ∧ some k_ ≠ (v571 : Value).ownBlock ∧ some k_ ≠ (.slice Ao17 t543.length co17 : Value).ownBlock ∧ some k_ ≠ (.slice Ao17 t543.length co17 : Value).ownBlock) (.slice Ao23 y573.length co23) y573):=⟨h3_⟩
                            have n4_ : Aside0 (Kd.V (Kd.int .u8) 5 w49 w.heap.size (fun k_=>some k_ ≠ (v565 : Value).ownBlock ∧ some k_ ≠ (v571 : Value).ownBlock ∧ some k_ ≠ (.slice Ao17 t543.length co17 : Value).ownBlock ∧ some k_ ≠ (.slice Ao17 t543.length co17 : Value).ownBlock) (.slice A44 y581.length c44) y581):=⟨h4_⟩
                            have n5_ : Aside0 (Kd.R k59 59 w49 w.heap.size (fun _=>True) (.slice Ao17 t543.length co17) t543):=⟨h5_⟩
                            have n6_ : Aside0 (Kd.R k59 59 w49 w.heap.size (fun _=>True) (.slice Ao17 t543.length co17) t543):=⟨h6_⟩
                            have n7_ : Aside0 (Kd.R (Kd.int .u8) 5 w49 w.heap.size (fun k_=>some k_ ≠ (v565 : Value).ownBlock ∧ some k_ ≠ (v571 : Value).ownBlock) (.slice Ao23 t547.length co23) t547):=⟨h7_⟩
                            have n8_ : Aside0 (Below w.heap.size w w49):=⟨h8_⟩
                            clear HO_0
                            clear HO_7
                            clear HO_48
                            clear HB
                            clear h0_ h1_ h2_ h3_ h4_ h5_ h6_ h7_ h8_
                            have HO557:=n0_
                            have HO566:=n1_
                            have HO572:=n2_
                            have HO577:=n3_
                            have HO585:=n4_
                            have HO_0:=n5_
                            have HO_48:=n6_
                            have HO_7:=n7_
                            have HB:=n8_
                            clear n0_ n1_ n2_ n3_ n4_ n5_ n6_ n7_ n8_
                            have hHeld:=trivial
                            refine norm_ (a':=?_) ?_ ?_
                            rotate_left
                            ·simp only [putAll,Act.put,List.setIfInBounds_toArray,List.set_cons_zero,List.set_cons_succ]
                             rfl
                            refine one_ (i:=3) (N:=some 72) #[true,true,true,true,true,false,true,true,false,true,true,true,true,false,true,true,true,true,false,false,false,true] rfl rfl (one_of HT_.out (by kernel_rfl)) (by decide) (fun K hK=>?_)
                            refine Kd.R_lit_step (Kd.int .u8) _ 5 ?hg (N:=72) ?hd (xs:=([] : List Int)) (inner:=[]) (ok:=fun _=>True) (okp:=fun _=>True) ?hr ?hp (fun _ hk=>hk) trivial (Below.refl _ _) (Nat.le_refl _) (by simp) ?_;(case hd=>rfl);(case hg=>rfl);(case hr=>first|(go_simp;done)|(go_simp;rfl));(case hp=>exact (Reps.none _ _))
                            intro v559 w50 ho51 hb hg_ hnew_
                            clear hg_ hnew_
                            (first|rw [← Ny558.out] at ho51|(simp only [Int.reduceToNat] at ho51;rw [← Ny558.out] at ho51))
                            have n0_:=Aside0.mk (Kd.R_below (by (with_reducible repeat (first|apply Kd.R_alloc|apply Kd.R_drewN|apply Kd.R_drew));exact HO_0.out) hb)
                            have n1_:=Aside0.mk (Kd.R_elder' (by (with_reducible repeat (first|apply Kd.R_alloc|apply Kd.R_drewN|apply Kd.R_drew));exact HO_7.out) (Kd.R_base ho51) hb)
                            have n2_:=Aside0.mk (Kd.R_below (by (with_reducible repeat (first|apply Kd.R_alloc|apply Kd.R_drewN|apply Kd.R_drew));exact HO_48.out) hb)
                            have n3_:=Aside0.mk (Kd.V_elder' (by (with_reducible repeat (first|apply Kd.V_alloc|apply Kd.V_drewN|apply Kd.V_drew));exact HO557.out) (Kd.R_base ho51) hb)
                            have n4_:=Aside0.mk (Kd.V_elder' (by (with_reducible repeat (first|apply Kd.V_alloc|apply Kd.V_drewN|apply Kd.V_drew));exact HO577.out) (Kd.R_base ho51) hb)
                            have n5_:=Aside0.mk (Kd.V_elder' (by (with_reducible repeat (first|apply Kd.V_alloc|apply Kd.V_drewN|apply Kd.V_drew));exact HO585.out) (Kd.R_base ho51) hb)
                            have n6_:=Aside0.mk (Kd.R_elder' (by (with_reducible repeat (first|apply Kd.R_alloc|apply Kd.R_drewN|apply Kd.R_drew));exact HO566.out) (Kd.R_base ho51) hb)
                            have n7_:=Aside0.mk (Kd.R_elder' (by (with_reducible repeat (first|apply Kd.R_alloc|apply Kd.R_drewN|apply Kd.R_drew));exact HO572.out) (Kd.R_base ho51) hb)
                            have n8_:=Aside0.mk (Kd.R_lower (Kd.R_new' (Kd.R_new' (Kd.R_new' ho51 (Kd.R_lt (by (with_reducible repeat (first|apply Kd.R_alloc|apply Kd.R_drewN|apply Kd.R_drew));exact HO_7.out))) (Kd.R_lt (by (with_reducible repeat (first|apply Kd.R_alloc|apply Kd.R_drewN|apply Kd.R_drew));exact HO566.out))) (Kd.R_lt (by (with_reducible repeat (first|apply Kd.R_alloc|apply Kd.R_drewN|apply Kd.R_drew));exact HO572.out))) (below_size (by repeat (first|(with_reducible first|exact HB.out|apply below_alloc|apply pw_below_drewN|apply below_drew1)|exact HB.out))))
                            have n9_:=Aside0.mk (below_step (by repeat (first|(with_reducible first|exact HB.out|apply below_alloc|apply pw_below_drewN|apply below_drew1)|exact HB.out)) hb)
                            clear HO_0
                            clear HO_7
                            clear HO_48
                            clear HO557
                            clear HO577
                            clear HO585
                            clear HO566
                            clear HO572
                            clear HB
                            have HO_0:=n0_
                            have HO_7:=n1_
                            have HO_48:=n2_
                            have HO557:=n3_
                            have HO577:=n4_
                            have HO585:=n5_
                            have HO566:=n6_
                            have HO572:=n7_
                            have HO560:=n8_
                            have HB:=n9_
                            clear n0_ n1_ n2_ n3_ n4_ n5_ n6_ n7_ n8_ n9_
                            clear hb ho51
                            refine hK.out _ _ trivial (fun hHeld=>?_)
                            clear hK K
                            refine norm_ (a':=?_) ?_ ?_
                            rotate_left
                            ·show Act.put _ (some 72) _ = _
                             simp only [Act.put,List.setIfInBounds_toArray,List.set_cons_zero,List.set_cons_succ,i64_w,i32_w]
                             rfl
                            exact norm_ (by first|(simp only [putAll,Act.put,List.setIfInBounds_toArray,List.set_cons_zero,List.set_cons_succ];done)|(simp only [putAll,Act.put,List.setIfInBounds_toArray,List.set_cons_zero,List.set_cons_succ];rfl)) (hJ3_7_9 (v559,v565,v571) _ ⟨(by (with_reducible repeat (first|apply Kd.V_alloc|apply Kd.V_drewN|apply Kd.V_drew));exact Kd.V_mono HO557.out (fun _ hk=>⟨hk.2,⟨hk.1.1,⟨hk.1.2.1,⟨hk.1.2.2.1,hk.1.2.2.2⟩⟩⟩⟩)),(by (with_reducible repeat (first|apply Kd.R_alloc|apply Kd.R_drewN|apply Kd.R_drew));exact Kd.R_mono HO560.out (fun _ hk=>⟨hk.1.2,⟨hk.2,hk.1.1.2⟩⟩)),(by (with_reducible repeat (first|apply Kd.R_alloc|apply Kd.R_drewN|apply Kd.R_drew));exact Kd.R_mono HO566.out (fun _ hk=>⟨hk.2,⟨hk.1.1,hk.1.2⟩⟩)),(by (with_reducible repeat (first|apply Kd.R_alloc|apply Kd.R_drewN|apply Kd.R_drew));exact Kd.R_mono HO572.out (fun _ hk=>⟨hk.2,⟨hk.1.1,hk.1.2⟩⟩)),(by (with_reducible repeat (first|apply Kd.V_alloc|apply Kd.V_drewN|apply Kd.V_drew));exact Kd.V_mono HO577.out (fun _ hk=>⟨hk.2,⟨hk.1.1,⟨hk.1.2.1,⟨hk.1.2.2.1,hk.1.2.2.2⟩⟩⟩⟩)),(by (with_reducible repeat (first|apply Kd.V_alloc|apply Kd.V_drewN|apply Kd.V_drew));exact Kd.V_mono HO585.out (fun _ hk=>⟨hk.2,⟨hk.1.1,⟨hk.1.2.1,⟨hk.1.2.2.1,hk.1.2.2.2⟩⟩⟩⟩)),(by (with_reducible repeat (first|apply Kd.R_alloc|apply Kd.R_drewN|apply Kd.R_drew));exact HO_0.out),(by (with_reducible repeat (first|apply Kd.R_alloc|apply Kd.R_drewN|apply Kd.R_drew));exact HO_48.out),(by (with_reducible repeat (first|apply Kd.R_alloc|apply Kd.R_drewN|apply Kd.R_drew));exact Kd.R_mono HO_7.out (fun _ hk=>⟨hk.2,⟨hk.1.1,hk.1.2⟩⟩)),(by repeat (first|(with_reducible first|exact HB.out|apply below_alloc|apply pw_below_drewN|apply below_drew1)|exact HB.out))⟩)
                          ·skip
                           rintro ⟨v559,v571⟩ w49 ⟨h0_,h1_,h2_,h3_,h4_,h5_,h6_,h7_,h8_⟩
                           have n0_ : Aside0 (Kd.V (Kd.int .u8) 5 w49 w.heap.size (fun k_=>some k_ ≠ (v559 : Value).ownBlock ∧ some k_ ≠ (v571 : Value).ownBlock ∧ some k_ ≠ (.slice Ao17 t543.length co17 : Value).ownBlock ∧ some k_ ≠ (.slice Ao17 t543.length co17 : Value).ownBlock) (.slice Ao23 y553.length co23) y553):=⟨h0_⟩
                           have n1_ : Aside0 (Kd.R (Kd.int .u8) 5 w49 w.heap.size (fun k_=>some k_ ≠ (v571 : Value).ownBlock ∧ some k_ ≠ (.slice Ao23 t547.length co23 : Value).ownBlock) v559 y558):=⟨h1_⟩
                           have n2_ : Aside0 (Kd.R (Kd.int .u8) 5 w49 w.heap.size (fun k_=>some k_ ≠ (v559 : Value).ownBlock ∧ some k_ ≠ (.slice Ao23 t547.length co23 : Value).ownBlock) v571 y570):=⟨h2_⟩
                           have n3_ : Aside0 (Kd.V (Kd.int .u8) 5 w49 w.heap.size (fun k_=>some k_ ≠ (v559 : Value).ownBlock ∧ some k_ ≠ (v571 : Value).ownBlock ∧ some k_ ≠ (.slice Ao17 t543.length co17 : Value).ownBlock ∧ some k_ ≠ (.slice Ao17 t543.length co17 : Value).ownBlock) (.slice Ao23 y573.length co23) y573):=⟨h3_⟩
                           have n4_ : Aside0 (Kd.V (Kd.int .u8) 5 w49 w.heap.size (fun k_=>some k_ ≠ (v559 : Value).ownBlock ∧ some k_ ≠ (v571 : Value).ownBlock ∧ some k_ ≠ (.slice Ao17 t543.length co17 : Value).ownBlock ∧ some k_ ≠ (.slice Ao17 t543.length co17 : Value).ownBlock) (.slice A44 y581.length c44) y581):=⟨h4_⟩
                           have n5_ : Aside0 (Kd.R k59 59 w49 w.heap.size (fun _=>True) (.slice Ao17 t543.length co17) t543):=⟨h5_⟩
                           have n6_ : Aside0 (Kd.R k59 59 w49 w.heap.size (fun _=>True) (.slice Ao17 t543.length co17) t543):=⟨h6_⟩
                           have n7_ : Aside0 (Kd.R (Kd.int .u8) 5 w49 w.heap.size (fun k_=>some k_ ≠ (v559 : Value).ownBlock ∧ some k_ ≠ (v571 : Value).ownBlock) (.slice Ao23 t547.length co23) t547):=⟨h7_⟩
                           have n8_ : Aside0 (Below w.heap.size w w49):=⟨h8_⟩
                           clear HO_0
                           clear HO_7
                           clear HO_48
                           clear HB
                           clear h0_ h1_ h2_ h3_ h4_ h5_ h6_ h7_ h8_
                           have HO557:=n0_
                           have HO560:=n1_
                           have HO572:=n2_
                           have HO577:=n3_
                           have HO585:=n4_
                           have HO_0:=n5_
                           have HO_48:=n6_
                           have HO_7:=n7_
                           have HB:=n8_
                           clear n0_ n1_ n2_ n3_ n4_ n5_ n6_ n7_ n8_
                           have hHeld:=trivial
                           refine norm_ (a':=?_) ?_ ?_
                           rotate_left
                           ·simp only [putAll,Act.put,List.setIfInBounds_toArray,List.set_cons_zero,List.set_cons_succ]
                            rfl
                           refine two_ (i:=5) (j:=7) (Ni:=some 74) (Nj:=some 76) #[true,true,true,true,true,true,true,false,false,true,true,true,true,false,true,true,true,true,false,false,false,true] #[true,true,true,true,true,false,true,true,false,true,true,true,true,false,true,true,true,true,false,false,false,true] rfl rfl rfl rfl (two_of HT_.out (by kernel_rfl)) (by decide) (by decide) (fun K hK=>?_) (fun K hK=>?_)
                           ·skip
                            refine Kd.R_append_rows_step (Kd.int .u8) (w0:=w) w.heap.size (by rfl) (.tmp 72) (.tmp 73) 26 5 (.int .u8 0) 1 rfl Try.underlying26 info5 rfl (by decide) (by omega) v559 y558 t547 _ _ _ (fun k_=>some k_ ≠ (.slice Ao23 t547.length co23 : Value).ownBlock ∧ some k_ ≠ (v571 : Value).ownBlock) (fun _=>False) rfl rfl ?aO ?aR (fun _ _ h=>h) (fun _ h=>h.elim) ?aF ?aB ?aS ?aL ?_
                            (case aR=>repeat (first|exact (Kd.R_reads' HO_7.out).2.2|(with_reducible refine Kd.C_alloc ?_ _)|(with_reducible refine Kd.C_drewN ?_ _)|(with_reducible refine Kd.C_drew ?_)))
                            (case aB=>exact (by repeat (first|(with_reducible first|exact HB.out|apply below_alloc|apply pw_below_drewN|apply below_drew1)|exact HB.out)))
                            (case aF=>exact (fun k_ hk=>⟨Kd.fresh' (Kd.R_lt (by (with_reducible repeat (first|apply Kd.R_alloc|apply Kd.R_drewN|apply Kd.R_drew));exact HO_7.out)) k_ hk,Kd.fresh' (Kd.R_lt (by (with_reducible repeat (first|apply Kd.R_alloc|apply Kd.R_drewN|apply Kd.R_drew));exact HO572.out)) k_ hk⟩))
                            (case aO=>exact (by (with_reducible repeat (first|apply Kd.R_alloc|apply Kd.R_drewN|apply Kd.R_drew));exact Kd.R_mono HO560.out (fun _ hk=>⟨hk.2,hk.1⟩)))
                            (case aS=>exact (below_size (by repeat (first|(with_reducible first|exact HB.out|apply below_alloc|apply pw_below_drewN|apply below_drew1)|exact HB.out))))
                            (case aL=>have:=LMc32.out;omega)
                            intro v562 w50 ho hb hg hat
                            rw [← Ny561.out] at ho
                            have n0_:=Aside0.mk (Kd.R_over' (by (with_reducible repeat (first|apply Kd.R_alloc|apply Kd.R_drewN|apply Kd.R_drew));exact HO_0.out) (Kd.R_typed (by (with_reducible repeat (first|apply Kd.R_alloc|apply Kd.R_drewN|apply Kd.R_drew));exact HO560.out)) (by decide) hg)
                            have n1_:=Aside0.mk (Kd.R_after (ok:=(fun k_=>some k_ ≠ (v571 : Value).ownBlock)) (by (with_reducible repeat (first|apply Kd.R_alloc|apply Kd.R_drewN|apply Kd.R_drew));exact Kd.R_mono HO_7.out (fun _ hk=>⟨hk.2,hk.1⟩)) hg hat)
                            have n2_:=Aside0.mk (Kd.R_over' (by (with_reducible repeat (first|apply Kd.R_alloc|apply Kd.R_drewN|apply Kd.R_drew));exact HO_48.out) (Kd.R_typed (by (with_reducible repeat (first|apply Kd.R_alloc|apply Kd.R_drewN|apply Kd.R_drew));exact HO560.out)) (by decide) hg)
                            have n3_:=Aside0.mk (Kd.V_afterv (ok:=(fun k_=>some k_ ≠ (.slice Ao17 t543.length co17 : Value).ownBlock ∧ some k_ ≠ (.slice Ao17 t543.length co17 : Value).ownBlock ∧ some k_ ≠ (v571 : Value).ownBlock)) (by (with_reducible repeat (first|apply Kd.V_alloc|apply Kd.V_drewN|apply Kd.V_drew));exact Kd.V_mono HO557.out (fun _ hk=>⟨⟨hk.2.2.1,⟨hk.2.2.2,hk.2.1⟩⟩,hk.1⟩)) hg hat)
                            have n4_:=Aside0.mk (Kd.V_afterv (ok:=(fun k_=>some k_ ≠ (.slice Ao17 t543.length co17 : Value).ownBlock ∧ some k_ ≠ (.slice Ao17 t543.length co17 : Value).ownBlock ∧ some k_ ≠ (v571 : Value).ownBlock)) (by (with_reducible repeat (first|apply Kd.V_alloc|apply Kd.V_drewN|apply Kd.V_drew));exact Kd.V_mono HO577.out (fun _ hk=>⟨⟨hk.2.2.1,⟨hk.2.2.2,hk.2.1⟩⟩,hk.1⟩)) hg hat)
                            have n5_:=Aside0.mk (Kd.V_afterv (ok:=(fun k_=>some k_ ≠ (.slice Ao17 t543.length co17 : Value).ownBlock ∧ some k_ ≠ (.slice Ao17 t543.length co17 : Value).ownBlock ∧ some k_ ≠ (v571 : Value).ownBlock)) (by (with_reducible repeat (first|apply Kd.V_alloc|apply Kd.V_drewN|apply Kd.V_drew));exact Kd.V_mono HO585.out (fun _ hk=>⟨⟨hk.2.2.1,⟨hk.2.2.2,hk.2.1⟩⟩,hk.1⟩)) hg hat)
                            have n6_:=Aside0.mk (Kd.R_after (ok:=(fun k_=>some k_ ≠ (.slice Ao23 t547.length co23 : Value).ownBlock)) (by (with_reducible repeat (first|apply Kd.R_alloc|apply Kd.R_drewN|apply Kd.R_drew));exact Kd.R_mono HO572.out (fun _ hk=>⟨hk.2,hk.1⟩)) hg hat)
                            have n7_:=Aside0.mk (hb)
                            have n8_:=Aside0.mk (ho)
                            clear HO_0
                            clear HO_7
                            clear HO_48
                            clear HO557
                            clear HO577
                            clear HO585
                            clear HO572
                            clear HB
                            clear HO560
                            have HO_0:=n0_
                            have HO_7:=n1_
                            have HO_48:=n2_
                            have HO557:=n3_
                            have HO577:=n4_
                            have HO585:=n5_
                            have HO572:=n6_
                            have HB:=n7_
                            have HO563:=n8_
                            clear n0_ n1_ n2_ n3_ n4_ n5_ n6_ n7_ n8_
                            clear ho hb hg hat
                            refine hK.out _ _ trivial (fun hHeld=>?_)
                            clear hK K
                            refine norm_ (a':=?_) ?_ ?_
                            rotate_left
                            ·show Act.put _ (some 74) _ = _
                             simp only [Act.put,List.setIfInBounds_toArray,List.set_cons_zero,List.set_cons_succ,i64_w,i32_w]
                             rfl
                            exact norm_ (by first|(simp only [putAll,Act.put,List.setIfInBounds_toArray,List.set_cons_zero,List.set_cons_succ];done)|(simp only [putAll,Act.put,List.setIfInBounds_toArray,List.set_cons_zero,List.set_cons_succ];rfl)) (hJ3_5_9 (v559,v562,v571) _ ⟨(by (with_reducible repeat (first|apply Kd.V_alloc|apply Kd.V_drewN|apply Kd.V_drew));exact Kd.V_mono HO557.out (fun _ hk=>⟨hk.2,⟨hk.1.2.2,⟨hk.1.1,hk.1.2.1⟩⟩⟩)),(by (with_reducible repeat (first|apply Kd.R_alloc|apply Kd.R_drewN|apply Kd.R_drew));exact Kd.R_mono HO563.out (fun _ hk=>⟨hk.2,hk.1⟩)),(by (with_reducible repeat (first|apply Kd.R_alloc|apply Kd.R_drewN|apply Kd.R_drew));exact Kd.R_mono HO572.out (fun _ hk=>⟨hk.2,hk.1⟩)),(by (with_reducible repeat (first|apply Kd.V_alloc|apply Kd.V_drewN|apply Kd.V_drew));exact Kd.V_mono HO577.out (fun _ hk=>⟨hk.2,⟨hk.1.2.2,⟨hk.1.1,hk.1.2.1⟩⟩⟩)),(by (with_reducible repeat (first|apply Kd.V_alloc|apply Kd.V_drewN|apply Kd.V_drew));exact Kd.V_mono HO585.out (fun _ hk=>⟨hk.2,⟨hk.1.2.2,⟨hk.1.1,hk.1.2.1⟩⟩⟩)),(by (with_reducible repeat (first|apply Kd.R_alloc|apply Kd.R_drewN|apply Kd.R_drew));exact HO_0.out),(by (with_reducible repeat (first|apply Kd.R_alloc|apply Kd.R_drewN|apply Kd.R_drew));exact HO_48.out),(by (with_reducible repeat (first|apply Kd.R_alloc|apply Kd.R_drewN|apply Kd.R_drew));exact Kd.R_mono HO_7.out (fun _ hk=>⟨hk.2,hk.1⟩)),(by repeat (first|(with_reducible first|exact HB.out|apply below_alloc|apply pw_below_drewN|apply below_drew1)|exact HB.out))⟩)
                           ·skip
                            refine Kd.R_lit_step (Kd.int .u8) _ 5 ?hg (N:=76) ?hd (xs:=([a2] : List Int)) (inner:=[.int .u8 a2]) (ok:=fun _=>True) (okp:=fun _=>True) ?hr ?hp (fun _ hk=>hk) trivial (Below.refl _ _) (Nat.le_refl _) (by simp) ?_;(case hd=>rfl);(case hg=>rfl);(case hr=>first|(go_simp;done)|(go_simp;rfl));(case hp=>exact (Reps.one (show Kd.M (Kd.int .u8) _ _ _ a2 [.int .u8 a2] from rfl) (Reps.none _ _)))
                            intro v565 w50 ho51 hb hg_ hnew_
                            clear hg_ hnew_
                            (first|rw [← Ny564.out] at ho51|(simp only [Int.reduceToNat] at ho51;rw [← Ny564.out] at ho51))
                            have n0_:=Aside0.mk (Kd.R_below (by (with_reducible repeat (first|apply Kd.R_alloc|apply Kd.R_drewN|apply Kd.R_drew));exact HO_0.out) hb)
                            have n1_:=Aside0.mk (Kd.R_elder' (by (with_reducible repeat (first|apply Kd.R_alloc|apply Kd.R_drewN|apply Kd.R_drew));exact HO_7.out) (Kd.R_base ho51) hb)
                            have n2_:=Aside0.mk (Kd.R_below (by (with_reducible repeat (first|apply Kd.R_alloc|apply Kd.R_drewN|apply Kd.R_drew));exact HO_48.out) hb)
                            have n3_:=Aside0.mk (Kd.V_elder' (by (with_reducible repeat (first|apply Kd.V_alloc|apply Kd.V_drewN|apply Kd.V_drew));exact HO557.out) (Kd.R_base ho51) hb)
                            have n4_:=Aside0.mk (Kd.V_elder' (by (with_reducible repeat (first|apply Kd.V_alloc|apply Kd.V_drewN|apply Kd.V_drew));exact HO577.out) (Kd.R_base ho51) hb)
                            have n5_:=Aside0.mk (Kd.V_elder' (by (with_reducible repeat (first|apply Kd.V_alloc|apply Kd.V_drewN|apply Kd.V_drew));exact HO585.out) (Kd.R_base ho51) hb)
                            have n6_:=Aside0.mk (Kd.R_elder' (by (with_reducible repeat (first|apply Kd.R_alloc|apply Kd.R_drewN|apply Kd.R_drew));exact HO560.out) (Kd.R_base ho51) hb)
                            have n7_:=Aside0.mk (Kd.R_elder' (by (with_reducible repeat (first|apply Kd.R_alloc|apply Kd.R_drewN|apply Kd.R_drew));exact HO572.out) (Kd.R_base ho51) hb)
                            have n8_:=Aside0.mk (Kd.R_lower (Kd.R_new' (Kd.R_new' (Kd.R_new' ho51 (Kd.R_lt (by (with_reducible repeat (first|apply Kd.R_alloc|apply Kd.R_drewN|apply Kd.R_drew));exact HO_7.out))) (Kd.R_lt (by (with_reducible repeat (first|apply Kd.R_alloc|apply Kd.R_drewN|apply Kd.R_drew));exact HO560.out))) (Kd.R_lt (by (with_reducible repeat (first|apply Kd.R_alloc|apply Kd.R_drewN|apply Kd.R_drew));exact HO572.out))) (below_size (by repeat (first|(with_reducible first|exact HB.out|apply below_alloc|apply pw_below_drewN|apply below_drew1)|exact HB.out))))
                            have n9_:=Aside0.mk (below_step (by repeat (first|(with_reducible first|exact HB.out|apply below_alloc|apply pw_below_drewN|apply below_drew1)|exact HB.out)) hb)
                            clear HO_0
                            clear HO_7
                            clear HO_48
                            clear HO557
                            clear HO577
                            clear HO585
                            clear HO560
                            clear HO572
                            clear HB
                            have HO_0:=n0_
                            have HO_7:=n1_
                            have HO_48:=n2_
                            have HO557:=n3_
                            have HO577:=n4_
                            have HO585:=n5_
                            have HO560:=n6_
                            have HO572:=n7_
                            have HO566:=n8_
                            have HB:=n9_
                            clear n0_ n1_ n2_ n3_ n4_ n5_ n6_ n7_ n8_ n9_
                            clear hb ho51
                            refine hK.out _ _ trivial (fun hHeld=>?_)
                            clear hK K
                            refine norm_ (a':=?_) ?_ ?_
                            rotate_left
                            ·show Act.put _ (some 76) _ = _
                             simp only [Act.put,List.setIfInBounds_toArray,List.set_cons_zero,List.set_cons_succ,i64_w,i32_w]
                             rfl
                            exact norm_ (by first|(simp only [putAll,Act.put,List.setIfInBounds_toArray,List.set_cons_zero,List.set_cons_succ];done)|(simp only [putAll,Act.put,List.setIfInBounds_toArray,List.set_cons_zero,List.set_cons_succ];rfl)) (hJ3_7_9 (v559,v565,v571) _ ⟨(by (with_reducible repeat (first|apply Kd.V_alloc|apply Kd.V_drewN|apply Kd.V_drew));exact Kd.V_mono HO557.out (fun _ hk=>⟨hk.1.1,⟨hk.2,⟨hk.1.2.1,⟨hk.1.2.2.1,hk.1.2.2.2⟩⟩⟩⟩)),(by (with_reducible repeat (first|apply Kd.R_alloc|apply Kd.R_drewN|apply Kd.R_drew));exact Kd.R_mono HO560.out (fun _ hk=>⟨hk.2,⟨hk.1.1,hk.1.2⟩⟩)),(by (with_reducible repeat (first|apply Kd.R_alloc|apply Kd.R_drewN|apply Kd.R_drew));exact Kd.R_mono HO566.out (fun _ hk=>⟨hk.1.2,⟨hk.2,hk.1.1.2⟩⟩)),(by (with_reducible repeat (first|apply Kd.R_alloc|apply Kd.R_drewN|apply Kd.R_drew));exact Kd.R_mono HO572.out (fun _ hk=>⟨hk.1.1,⟨hk.2,hk.1.2⟩⟩)),(by (with_reducible repeat (first|apply Kd.V_alloc|apply Kd.V_drewN|apply Kd.V_drew));exact Kd.V_mono HO577.out (fun _ hk=>⟨hk.1.1,⟨hk.2,⟨hk.1.2.1,⟨hk.1.2.2.1,hk.1.2.2.2⟩⟩⟩⟩)),(by (with_reducible repeat (first|apply Kd.V_alloc|apply Kd.V_drewN|apply Kd.V_drew));exact Kd.V_mono HO585.out (fun _ hk=>⟨hk.1.1,⟨hk.2,⟨hk.1.2.1,⟨hk.1.2.2.1,hk.1.2.2.2⟩⟩⟩⟩)),(by (with_reducible repeat (first|apply Kd.R_alloc|apply Kd.R_drewN|apply Kd.R_drew));exact HO_0.out),(by (with_reducible repeat (first|apply Kd.R_alloc|apply Kd.R_drewN|apply Kd.R_drew));exact HO_48.out),(by (with_reducible repeat (first|apply Kd.R_alloc|apply Kd.R_drewN|apply Kd.R_drew));exact Kd.R_mono HO_7.out (fun _ hk=>⟨hk.1.1,⟨hk.2,hk.1.2⟩⟩)),(by repeat (first|(with_reducible first|exact HB.out|apply below_alloc|apply pw_below_drewN|apply below_drew1)|exact HB.out))⟩)
                         ·skip
                          rintro ⟨v559,v565⟩ w49 ⟨h0_,h1_,h2_,h3_,h4_,h5_,h6_,h7_,h8_⟩
                          have n0_ : Aside0 (Kd.V (Kd.int .u8) 5 w49 w.heap.size (fun k_=>some k_ ≠ (v559 : Value).ownBlock ∧ some k_ ≠ (v565 : Value).ownBlock ∧ some k_ ≠ (.slice Ao17 t543.length co17 : Value).ownBlock ∧ some k_ ≠ (.slice Ao17 t543.length co17 : Value).ownBlock) (.slice Ao23 y553.length co23) y553):=⟨h0_⟩
                          have n1_ : Aside0 (Kd.R (Kd.int .u8) 5 w49 w.heap.size (fun k_=>some k_ ≠ (v565 : Value).ownBlock ∧ some k_ ≠ (.slice Ao23 t547.length co23 : Value).ownBlock) v559 y558):=⟨h1_⟩
                          have n2_ : Aside0 (Kd.R (Kd.int .u8) 5 w49 w.heap.size (fun k_=>some k_ ≠ (v559 : Value).ownBlock ∧ some k_ ≠ (.slice Ao23 t547.length co23 : Value).ownBlock) v565 y564):=⟨h2_⟩
                          have n3_ : Aside0 (Kd.V (Kd.int .u8) 5 w49 w.heap.size (fun k_=>some k_ ≠ (v559 : Value).ownBlock ∧ some k_ ≠ (v565 : Value).ownBlock ∧ some k_ ≠ (.slice Ao17 t543.length co17 : Value).ownBlock ∧ some k_ ≠ (.slice Ao17 t543.length co17 : Value).ownBlock) (.slice Ao23 y573.length co23) y573):=⟨h3_⟩
                          have n4_ : Aside0 (Kd.V (Kd.int .u8) 5 w49 w.heap.size (fun k_=>some k_ ≠ (v559 : Value).ownBlock ∧ some k_ ≠ (v565 : Value).ownBlock ∧ some k_ ≠ (.slice Ao17 t543.length co17 : Value).ownBlock ∧ some k_ ≠ (.slice Ao17 t543.length co17 : Value).ownBlock) (.slice A44 y581.length c44) y581):=⟨h4_⟩
                          have n5_ : Aside0 (Kd.R k59 59 w49 w.heap.size (fun _=>True) (.slice Ao17 t543.length co17) t543):=⟨h5_⟩
                          have n6_ : Aside0 (Kd.R k59 59 w49 w.heap.size (fun _=>True) (.slice Ao17 t543.length co17) t543):=⟨h6_⟩
                          have n7_ : Aside0 (Kd.R (Kd.int .u8) 5 w49 w.heap.size (fun k_=>some k_ ≠ (v559 : Value).ownBlock ∧ some k_ ≠ (v565 : Value).ownBlock) (.slice Ao23 t547.length co23) t547):=⟨h7_⟩
                          have n8_ : Aside0 (Below w.heap.size w w49):=⟨h8_⟩
                          clear HO_0
                          clear HO_7
                          clear HO_48
                          clear HB
                          clear h0_ h1_ h2_ h3_ h4_ h5_ h6_ h7_ h8_
                          have HO557:=n0_
                          have HO560:=n1_
                          have HO566:=n2_
                          have HO577:=n3_
                          have HO585:=n4_
                          have HO_0:=n5_
                          have HO_48:=n6_
                          have HO_7:=n7_
                          have HB:=n8_
                          clear n0_ n1_ n2_ n3_ n4_ n5_ n6_ n7_ n8_
                          have hHeld:=trivial
                          refine norm_ (a':=?_) ?_ ?_
                          rotate_left
                          ·simp only [putAll,Act.put,List.setIfInBounds_toArray,List.set_cons_zero,List.set_cons_succ]
                           rfl
                          refine two_ (i:=5) (j:=9) (Ni:=some 74) (Nj:=some 78) #[true,true,true,true,true,true,true,true,false,false,true,true,true,false,true,true,true,true,false,false,false,true] #[true,true,true,true,true,false,true,true,false,true,true,true,true,false,true,true,true,true,false,false,false,true] rfl rfl rfl rfl (two_of HT_.out (by kernel_rfl)) (by decide) (by decide) (fun K hK=>?_) (fun K hK=>?_)
                          ·skip
                           refine Kd.R_append_rows_step (Kd.int .u8) (w0:=w) w.heap.size (by rfl) (.tmp 72) (.tmp 73) 26 5 (.int .u8 0) 1 rfl Try.underlying26 info5 rfl (by decide) (by omega) v559 y558 t547 _ _ _ (fun k_=>some k_ ≠ (.slice Ao23 t547.length co23 : Value).ownBlock ∧ some k_ ≠ (v565 : Value).ownBlock) (fun _=>False) rfl rfl ?aO ?aR (fun _ _ h=>h) (fun _ h=>h.elim) ?aF ?aB ?aS ?aL ?_
                           (case aR=>repeat (first|exact (Kd.R_reads' HO_7.out).2.2|(with_reducible refine Kd.C_alloc ?_ _)|(with_reducible refine Kd.C_drewN ?_ _)|(with_reducible refine Kd.C_drew ?_)))
                           (case aB=>exact (by repeat (first|(with_reducible first|exact HB.out|apply below_alloc|apply pw_below_drewN|apply below_drew1)|exact HB.out)))
                           (case aF=>exact (fun k_ hk=>⟨Kd.fresh' (Kd.R_lt (by (with_reducible repeat (first|apply Kd.R_alloc|apply Kd.R_drewN|apply Kd.R_drew));exact HO_7.out)) k_ hk,Kd.fresh' (Kd.R_lt (by (with_reducible repeat (first|apply Kd.R_alloc|apply Kd.R_drewN|apply Kd.R_drew));exact HO566.out)) k_ hk⟩))
                           (case aO=>exact (by (with_reducible repeat (first|apply Kd.R_alloc|apply Kd.R_drewN|apply Kd.R_drew));exact Kd.R_mono HO560.out (fun _ hk=>⟨hk.2,hk.1⟩)))
                           (case aS=>exact (below_size (by repeat (first|(with_reducible first|exact HB.out|apply below_alloc|apply pw_below_drewN|apply below_drew1)|exact HB.out))))
                           (case aL=>have:=LMc32.out;omega)
                           intro v562 w50 ho hb hg hat
                           rw [← Ny561.out] at ho
                           have n0_:=Aside0.mk (Kd.R_over' (by (with_reducible repeat (first|apply Kd.R_alloc|apply Kd.R_drewN|apply Kd.R_drew));exact HO_0.out) (Kd.R_typed (by (with_reducible repeat (first|apply Kd.R_alloc|apply Kd.R_drewN|apply Kd.R_drew));exact HO560.out)) (by decide) hg)
                           have n1_:=Aside0.mk (Kd.R_after (ok:=(fun k_=>some k_ ≠ (v565 : Value).ownBlock)) (by (with_reducible repeat (first|apply Kd.R_alloc|apply Kd.R_drewN|apply Kd.R_drew));exact Kd.R_mono HO_7.out (fun _ hk=>⟨hk.2,hk.1⟩)) hg hat)
                           have n2_:=Aside0.mk (Kd.R_over' (by (with_reducible repeat (first|apply Kd.R_alloc|apply Kd.R_drewN|apply Kd.R_drew));exact HO_48.out) (Kd.R_typed (by (with_reducible repeat (first|apply Kd.R_alloc|apply Kd.R_drewN|apply Kd.R_drew));exact HO560.out)) (by decide) hg)
                           have n3_:=Aside0.mk (Kd.V_afterv (ok:=(fun k_=>some k_ ≠ (.slice Ao17 t543.length co17 : Value).ownBlock ∧ some k_ ≠ (.slice Ao17 t543.length co17 : Value).ownBlock ∧ some k_ ≠ (v565 : Value).ownBlock)) (by (with_reducible repeat (first|apply Kd.V_alloc|apply Kd.V_drewN|apply Kd.V_drew));exact Kd.V_mono HO557.out (fun _ hk=>⟨⟨hk.2.2.1,⟨hk.2.2.2,hk.2.1⟩⟩,hk.1⟩)) hg hat)
                           have n4_:=Aside0.mk (Kd.V_afterv (ok:=(fun k_=>some k_ ≠ (.slice Ao17 t543.length co17 : Value).ownBlock ∧ some k_ ≠ (.slice Ao17 t543.length co17 : Value).ownBlock ∧ some k_ ≠ (v565 : Value).ownBlock)) (by (with_reducible repeat (first|apply Kd.V_alloc|apply Kd.V_drewN|apply Kd.V_drew));exact Kd.V_mono HO577.out (fun _ hk=>⟨⟨hk.2.2.1,⟨hk.2.2.2,hk.2.1⟩⟩,hk.1⟩)) hg hat)
                           have n5_:=Aside0.mk (Kd.V_afterv (ok:=(fun k_=>some k_ ≠ (.slice Ao17 t543.length co17 : Value).ownBlock ∧ some k_ ≠ (.slice Ao17 t543.length co17 : Value).ownBlock ∧ some k_ ≠ (v565 : Value).ownBlock)) (by (with_reducible repeat (first|apply Kd.V_alloc|apply Kd.V_drewN|apply Kd.V_drew));exact Kd.V_mono HO585.out (fun _ hk=>⟨⟨hk.2.2.1,⟨hk.2.2.2,hk.2.1⟩⟩,hk.1⟩)) hg hat)
                           have n6_:=Aside0.mk (Kd.R_after (ok:=(fun k_=>some k_ ≠ (.slice Ao23 t547.length co23 : Value).ownBlock)) (by (with_reducible repeat (first|apply Kd.R_alloc|apply Kd.R_drewN|apply Kd.R_drew));exact Kd.R_mono HO566.out (fun _ hk=>⟨hk.2,hk.1⟩)) hg hat)
                           have n7_:=Aside0.mk (hb)
                           have n8_:=Aside0.mk (ho)
                           clear HO_0
                           clear HO_7
                           clear HO_48
                           clear HO557
                           clear HO577
                           clear HO585
                           clear HO566
                           clear HB
                           clear HO560
                           have HO_0:=n0_
                           have HO_7:=n1_
                           have HO_48:=n2_
                           have HO557:=n3_
                           have HO577:=n4_
                           have HO585:=n5_
                           have HO566:=n6_
                           have HB:=n7_
                           have HO563:=n8_
                           clear n0_ n1_ n2_ n3_ n4_ n5_ n6_ n7_ n8_
                           clear ho hb hg hat
                           refine hK.out _ _ trivial (fun hHeld=>?_)
                           clear hK K
                           refine norm_ (a':=?_) ?_ ?_
                           rotate_left
                           ·show Act.put _ (some 74) _ = _
                            simp only [Act.put,List.setIfInBounds_toArray,List.set_cons_zero,List.set_cons_succ,i64_w,i32_w]
                            rfl
                           exact norm_ (by first|(simp only [putAll,Act.put,List.setIfInBounds_toArray,List.set_cons_zero,List.set_cons_succ];done)|(simp only [putAll,Act.put,List.setIfInBounds_toArray,List.set_cons_zero,List.set_cons_succ];rfl)) (hJ3_5_7 (v559,v562,v565) _ ⟨(by (with_reducible repeat (first|apply Kd.V_alloc|apply Kd.V_drewN|apply Kd.V_drew));exact Kd.V_mono HO557.out (fun _ hk=>⟨hk.2,⟨hk.1.2.2,⟨hk.1.1,hk.1.2.1⟩⟩⟩)),(by (with_reducible repeat (first|apply Kd.R_alloc|apply Kd.R_drewN|apply Kd.R_drew));exact Kd.R_mono HO563.out (fun _ hk=>⟨hk.2,hk.1⟩)),(by (with_reducible repeat (first|apply Kd.R_alloc|apply Kd.R_drewN|apply Kd.R_drew));exact Kd.R_mono HO566.out (fun _ hk=>⟨hk.2,hk.1⟩)),(by (with_reducible repeat (first|apply Kd.V_alloc|apply Kd.V_drewN|apply Kd.V_drew));exact Kd.V_mono HO577.out (fun _ hk=>⟨hk.2,⟨hk.1.2.2,⟨hk.1.1,hk.1.2.1⟩⟩⟩)),(by (with_reducible repeat (first|apply Kd.V_alloc|apply Kd.V_drewN|apply Kd.V_drew));exact Kd.V_mono HO585.out (fun _ hk=>⟨hk.2,⟨hk.1.2.2,⟨hk.1.1,hk.1.2.1⟩⟩⟩)),(by (with_reducible repeat (first|apply Kd.R_alloc|apply Kd.R_drewN|apply Kd.R_drew));exact HO_0.out),(by (with_reducible repeat (first|apply Kd.R_alloc|apply Kd.R_drewN|apply Kd.R_drew));exact HO_48.out),(by (with_reducible repeat (first|apply Kd.R_alloc|apply Kd.R_drewN|apply Kd.R_drew));exact Kd.R_mono HO_7.out (fun _ hk=>⟨hk.2,hk.1⟩)),(by repeat (first|(with_reducible first|exact HB.out|apply below_alloc|apply pw_below_drewN|apply below_drew1)|exact HB.out))⟩)
                          ·skip
                           refine Kd.R_lit_step (Kd.int .u8) _ 5 ?hg (N:=78) ?hd (xs:=([] : List Int)) (inner:=[]) (ok:=fun _=>True) (okp:=fun _=>True) ?hr ?hp (fun _ hk=>hk) trivial (Below.refl _ _) (Nat.le_refl _) (by simp) ?_;(case hd=>rfl);(case hg=>rfl);(case hr=>first|(go_simp;done)|(go_simp;rfl));(case hp=>exact (Reps.none _ _))
                           intro v571 w50 ho51 hb hg_ hnew_
                           clear hg_ hnew_
                           (first|rw [← Ny570.out] at ho51|(simp only [Int.reduceToNat] at ho51;rw [← Ny570.out] at ho51))
                           have n0_:=Aside0.mk (Kd.R_below (by (with_reducible repeat (first|apply Kd.R_alloc|apply Kd.R_drewN|apply Kd.R_drew));exact HO_0.out) hb)
                           have n1_:=Aside0.mk (Kd.R_elder' (by (with_reducible repeat (first|apply Kd.R_alloc|apply Kd.R_drewN|apply Kd.R_drew));exact HO_7.out) (Kd.R_base ho51) hb)
                           have n2_:=Aside0.mk (Kd.R_below (by (with_reducible repeat (first|apply Kd.R_alloc|apply Kd.R_drewN|apply Kd.R_drew));exact HO_48.out) hb)
                           have n3_:=Aside0.mk (Kd.V_elder' (by (with_reducible repeat (first|apply Kd.V_alloc|apply Kd.V_drewN|apply Kd.V_drew));exact HO557.out) (Kd.R_base ho51) hb)
                           have n4_:=Aside0.mk (Kd.V_elder' (by (with_reducible repeat (first|apply Kd.V_alloc|apply Kd.V_drewN|apply Kd.V_drew));exact HO577.out) (Kd.R_base ho51) hb)
                           have n5_:=Aside0.mk (Kd.V_elder' (by (with_reducible repeat (first|apply Kd.V_alloc|apply Kd.V_drewN|apply Kd.V_drew));exact HO585.out) (Kd.R_base ho51) hb)
                           have n6_:=Aside0.mk (Kd.R_elder' (by (with_reducible repeat (first|apply Kd.R_alloc|apply Kd.R_drewN|apply Kd.R_drew));exact HO560.out) (Kd.R_base ho51) hb)
                           have n7_:=Aside0.mk (Kd.R_elder' (by (with_reducible repeat (first|apply Kd.R_alloc|apply Kd.R_drewN|apply Kd.R_drew));exact HO566.out) (Kd.R_base ho51) hb)
                           have n8_:=Aside0.mk (Kd.R_lower (Kd.R_new' (Kd.R_new' (Kd.R_new' ho51 (Kd.R_lt (by (with_reducible repeat (first|apply Kd.R_alloc|apply Kd.R_drewN|apply Kd.R_drew));exact HO_7.out))) (Kd.R_lt (by (with_reducible repeat (first|apply Kd.R_alloc|apply Kd.R_drewN|apply Kd.R_drew));exact HO560.out))) (Kd.R_lt (by (with_reducible repeat (first|apply Kd.R_alloc|apply Kd.R_drewN|apply Kd.R_drew));exact HO566.out))) (below_size (by repeat (first|(with_reducible first|exact HB.out|apply below_alloc|apply pw_below_drewN|apply below_drew1)|exact HB.out))))
                           have n9_:=Aside0.mk (below_step (by repeat (first|(with_reducible first|exact HB.out|apply below_alloc|apply pw_below_drewN|apply below_drew1)|exact HB.out)) hb)
                           clear HO_0
                           clear HO_7
                           clear HO_48
                           clear HO557
                           clear HO577
                           clear HO585
                           clear HO560
                           clear HO566
                           clear HB
                           have HO_0:=n0_
                           have HO_7:=n1_
                           have HO_48:=n2_
                           have HO557:=n3_
                           have HO577:=n4_
                           have HO585:=n5_
                           have HO560:=n6_
                           have HO566:=n7_
                           have HO572:=n8_
                           have HB:=n9_
                           clear n0_ n1_ n2_ n3_ n4_ n5_ n6_ n7_ n8_ n9_
                           clear hb ho51
                           refine hK.out _ _ trivial (fun hHeld=>?_)
                           clear hK K
                           refine norm_ (a':=?_) ?_ ?_
                           rotate_left
                           ·show Act.put _ (some 78) _ = _
                            simp only [Act.put,List.setIfInBounds_toArray,List.set_cons_zero,List.set_cons_succ,i64_w,i32_w]
                            rfl
                           exact norm_ (by first|(simp only [putAll,Act.put,List.setIfInBounds_toArray,List.set_cons_zero,List.set_cons_succ];done)|(simp only [putAll,Act.put,List.setIfInBounds_toArray,List.set_cons_zero,List.set_cons_succ];rfl)) (hJ3_7_9 (v559,v565,v571) _ ⟨(by (with_reducible repeat (first|apply Kd.V_alloc|apply Kd.V_drewN|apply Kd.V_drew));exact Kd.V_mono HO557.out (fun _ hk=>⟨hk.1.1,⟨hk.1.2.1,⟨hk.2,⟨hk.1.2.2.1,hk.1.2.2.2⟩⟩⟩⟩)),(by (with_reducible repeat (first|apply Kd.R_alloc|apply Kd.R_drewN|apply Kd.R_drew));exact Kd.R_mono HO560.out (fun _ hk=>⟨hk.1.1,⟨hk.2,hk.1.2⟩⟩)),(by (with_reducible repeat (first|apply Kd.R_alloc|apply Kd.R_drewN|apply Kd.R_drew));exact Kd.R_mono HO566.out (fun _ hk=>⟨hk.1.1,⟨hk.2,hk.1.2⟩⟩)),(by (with_reducible repeat (first|apply Kd.R_alloc|apply Kd.R_drewN|apply Kd.R_drew));exact Kd.R_mono HO572.out (fun _ hk=>⟨hk.1.2,⟨hk.2,hk.1.1.2⟩⟩)),(by (with_reducible repeat (first|apply Kd.V_alloc|apply Kd.V_drewN|apply Kd.V_drew));exact Kd.V_mono HO577.out (fun _ hk=>⟨hk.1.1,⟨hk.1.2.1,⟨hk.2,⟨hk.1.2.2.1,hk.1.2.2.2⟩⟩⟩⟩)),(by (with_reducible repeat (first|apply Kd.V_alloc|apply Kd.V_drewN|apply Kd.V_drew));exact Kd.V_mono HO585.out (fun _ hk=>⟨hk.1.1,⟨hk.1.2.1,⟨hk.2,⟨hk.1.2.2.1,hk.1.2.2.2⟩⟩⟩⟩)),(by (with_reducible repeat (first|apply Kd.R_alloc|apply Kd.R_drewN|apply Kd.R_drew));exact HO_0.out),(by (with_reducible repeat (first|apply Kd.R_alloc|apply Kd.R_drewN|apply Kd.R_drew));exact HO_48.out),(by (with_reducible repeat (first|apply Kd.R_alloc|apply Kd.R_drewN|apply Kd.R_drew));exact Kd.R_mono HO_7.out (fun _ hk=>⟨hk.1.1,⟨hk.1.2,hk.2⟩⟩)),(by repeat (first|(with_reducible first|exact HB.out|apply below_alloc|apply pw_below_drewN|apply below_drew1)|exact HB.out))⟩)
                        ·skip
                         rintro ⟨v559,v562⟩ w48 ⟨h0_,h1_,h2_,h3_,h4_,h5_,h6_,h7_⟩
                         have n0_ : Aside0 (Kd.V (Kd.int .u8) 5 w48 w.heap.size (fun k_=>some k_ ≠ (v562 : Value).ownBlock ∧ some k_ ≠ (.slice Ao17 t543.length co17 : Value).ownBlock ∧ some k_ ≠ (.slice Ao17 t543.length co17 : Value).ownBlock) (.slice Ao23 y553.length co23) y553):=⟨h0_⟩
                         have n1_ : Aside0 (Kd.R (Kd.int .u8) 5 w48 w.heap.size (fun k_=>some k_ ≠ (.slice Ao23 t547.length co23 : Value).ownBlock) v562 y561):=⟨h1_⟩
                         have n2_ : Aside0 (Kd.V (Kd.int .u8) 5 w48 w.heap.size (fun k_=>some k_ ≠ (v562 : Value).ownBlock ∧ some k_ ≠ (.slice Ao17 t543.length co17 : Value).ownBlock ∧ some k_ ≠ (.slice Ao17 t543.length co17 : Value).ownBlock) (.slice Ao23 y573.length co23) y573):=⟨h2_⟩
                         have n3_ : Aside0 (Kd.V (Kd.int .u8) 5 w48 w.heap.size (fun k_=>some k_ ≠ (v562 : Value).ownBlock ∧ some k_ ≠ (.slice Ao17 t543.length co17 : Value).ownBlock ∧ some k_ ≠ (.slice Ao17 t543.length co17 : Value).ownBlock) (.slice A44 y581.length c44) y581):=⟨h3_⟩
                         have n4_ : Aside0 (Kd.R k59 59 w48 w.heap.size (fun _=>True) (.slice Ao17 t543.length co17) t543):=⟨h4_⟩
                         have n5_ : Aside0 (Kd.R k59 59 w48 w.heap.size (fun _=>True) (.slice Ao17 t543.length co17) t543):=⟨h5_⟩
                         have n6_ : Aside0 (Kd.R (Kd.int .u8) 5 w48 w.heap.size (fun k_=>some k_ ≠ (v562 : Value).ownBlock) (.slice Ao23 t547.length co23) t547):=⟨h6_⟩
                         have n7_ : Aside0 (Below w.heap.size w w48):=⟨h7_⟩
                         clear HO_0
                         clear HO_7
                         clear HO_48
                         clear HB
                         clear h0_ h1_ h2_ h3_ h4_ h5_ h6_ h7_
                         have HO557:=n0_
                         have HO563:=n1_
                         have HO577:=n2_
                         have HO585:=n3_
                         have HO_0:=n4_
                         have HO_48:=n5_
                         have HO_7:=n6_
                         have HB:=n7_
                         clear n0_ n1_ n2_ n3_ n4_ n5_ n6_ n7_
                         have hHeld:=trivial
                         refine norm_ (a':=?_) ?_ ?_
                         rotate_left
                         ·simp only [putAll,Act.put,List.setIfInBounds_toArray,List.set_cons_zero,List.set_cons_succ]
                          rfl
                         refine two_ (i:=7) (j:=9) (Ni:=some 76) (Nj:=some 78) #[true,true,true,true,true,true,true,true,false,false,true,true,true,false,true,true,true,true,false,false,false,true] #[true,true,true,true,true,true,true,false,false,true,true,true,true,false,true,true,true,true,false,false,false,true] rfl rfl rfl rfl (two_of HT_.out (by kernel_rfl)) (by decide) (by decide) (fun K hK=>?_) (fun K hK=>?_)
                         ·skip
                          refine Kd.R_lit_step (Kd.int .u8) _ 5 ?hg (N:=76) ?hd (xs:=([a2] : List Int)) (inner:=[.int .u8 a2]) (ok:=fun _=>True) (okp:=fun _=>True) ?hr ?hp (fun _ hk=>hk) trivial (Below.refl _ _) (Nat.le_refl _) (by simp) ?_;(case hd=>rfl);(case hg=>rfl);(case hr=>first|(go_simp;done)|(go_simp;rfl));(case hp=>exact (Reps.one (show Kd.M (Kd.int .u8) _ _ _ a2 [.int .u8 a2] from rfl) (Reps.none _ _)))
                          intro v565 w49 ho50 hb hg_ hnew_
                          clear hg_ hnew_
                          (first|rw [← Ny564.out] at ho50|(simp only [Int.reduceToNat] at ho50;rw [← Ny564.out] at ho50))
                          have n0_:=Aside0.mk (Kd.R_below (by (with_reducible repeat (first|apply Kd.R_alloc|apply Kd.R_drewN|apply Kd.R_drew));exact HO_0.out) hb)
                          have n1_:=Aside0.mk (Kd.R_elder' (by (with_reducible repeat (first|apply Kd.R_alloc|apply Kd.R_drewN|apply Kd.R_drew));exact HO_7.out) (Kd.R_base ho50) hb)
                          have n2_:=Aside0.mk (Kd.R_below (by (with_reducible repeat (first|apply Kd.R_alloc|apply Kd.R_drewN|apply Kd.R_drew));exact HO_48.out) hb)
                          have n3_:=Aside0.mk (Kd.V_elder' (by (with_reducible repeat (first|apply Kd.V_alloc|apply Kd.V_drewN|apply Kd.V_drew));exact HO557.out) (Kd.R_base ho50) hb)
                          have n4_:=Aside0.mk (Kd.V_elder' (by (with_reducible repeat (first|apply Kd.V_alloc|apply Kd.V_drewN|apply Kd.V_drew));exact HO577.out) (Kd.R_base ho50) hb)
                          have n5_:=Aside0.mk (Kd.V_elder' (by (with_reducible repeat (first|apply Kd.V_alloc|apply Kd.V_drewN|apply Kd.V_drew));exact HO585.out) (Kd.R_base ho50) hb)
                          have n6_:=Aside0.mk (Kd.R_elder' (by (with_reducible repeat (first|apply Kd.R_alloc|apply Kd.R_drewN|apply Kd.R_drew));exact HO563.out) (Kd.R_base ho50) hb)
                          have n7_:=Aside0.mk (Kd.R_lower (Kd.R_new' (Kd.R_new' ho50 (Kd.R_lt (by (with_reducible repeat (first|apply Kd.R_alloc|apply Kd.R_drewN|apply Kd.R_drew));exact HO_7.out))) (Kd.R_lt (by (with_reducible repeat (first|apply Kd.R_alloc|apply Kd.R_drewN|apply Kd.R_drew));exact HO563.out))) (below_size (by repeat (first|(with_reducible first|exact HB.out|apply below_alloc|apply pw_below_drewN|apply below_drew1)|exact HB.out))))
                          have n8_:=Aside0.mk (below_step (by repeat (first|(with_reducible first|exact HB.out|apply below_alloc|apply pw_below_drewN|apply below_drew1)|exact HB.out)) hb)
                          clear HO_0
                          clear HO_7
                          clear HO_48
                          clear HO557
                          clear HO577
                          clear HO585
                          clear HO563
                          clear HB
                          have HO_0:=n0_
                          have HO_7:=n1_
                          have HO_48:=n2_
                          have HO557:=n3_
                          have HO577:=n4_
                          have HO585:=n5_
                          have HO563:=n6_
                          have HO566:=n7_
                          have HB:=n8_
                          clear n0_ n1_ n2_ n3_ n4_ n5_ n6_ n7_ n8_
                          clear hb ho50
                          refine hK.out _ _ trivial (fun hHeld=>?_)
                          clear hK K
                          refine norm_ (a':=?_) ?_ ?_
                          rotate_left
                          ·show Act.put _ (some 76) _ = _
                           simp only [Act.put,List.setIfInBounds_toArray,List.set_cons_zero,List.set_cons_succ,i64_w,i32_w]
                           rfl
                          exact norm_ (by first|(simp only [putAll,Act.put,List.setIfInBounds_toArray,List.set_cons_zero,List.set_cons_succ];done)|(simp only [putAll,Act.put,List.setIfInBounds_toArray,List.set_cons_zero,List.set_cons_succ];rfl)) (hJ3_5_7 (v559,v562,v565) _ ⟨(by (with_reducible repeat (first|apply Kd.V_alloc|apply Kd.V_drewN|apply Kd.V_drew));exact Kd.V_mono HO557.out (fun _ hk=>⟨hk.1.1,⟨hk.2,⟨hk.1.2.1,hk.1.2.2⟩⟩⟩)),(by (with_reducible repeat (first|apply Kd.R_alloc|apply Kd.R_drewN|apply Kd.R_drew));exact Kd.R_mono HO563.out (fun _ hk=>⟨hk.2,hk.1⟩)),(by (with_reducible repeat (first|apply Kd.R_alloc|apply Kd.R_drewN|apply Kd.R_drew));exact Kd.R_mono HO566.out (fun _ hk=>⟨hk.2,hk.1.2⟩)),(by (with_reducible repeat (first|apply Kd.V_alloc|apply Kd.V_drewN|apply Kd.V_drew));exact Kd.V_mono HO577.out (fun _ hk=>⟨hk.1.1,⟨hk.2,⟨hk.1.2.1,hk.1.2.2⟩⟩⟩)),(by (with_reducible repeat (first|apply Kd.V_alloc|apply Kd.V_drewN|apply Kd.V_drew));exact Kd.V_mono HO585.out (fun _ hk=>⟨hk.1.1,⟨hk.2,⟨hk.1.2.1,hk.1.2.2⟩⟩⟩)),(by (with_reducible repeat (first|apply Kd.R_alloc|apply Kd.R_drewN|apply Kd.R_drew));exact HO_0.out),(by (with_reducible repeat (first|apply Kd.R_alloc|apply Kd.R_drewN|apply Kd.R_drew));exact HO_48.out),(by (with_reducible repeat (first|apply Kd.R_alloc|apply Kd.R_drewN|apply Kd.R_drew));exact HO_7.out),(by repeat (first|(with_reducible first|exact HB.out|apply below_alloc|apply pw_below_drewN|apply below_drew1)|exact HB.out))⟩)
                         ·skip
                          refine Kd.R_lit_step (Kd.int .u8) _ 5 ?hg (N:=78) ?hd (xs:=([] : List Int)) (inner:=[]) (ok:=fun _=>True) (okp:=fun _=>True) ?hr ?hp (fun _ hk=>hk) trivial (Below.refl _ _) (Nat.le_refl _) (by simp) ?_;(case hd=>rfl);(case hg=>rfl);(case hr=>first|(go_simp;done)|(go_simp;rfl));(case hp=>exact (Reps.none _ _))
                          intro v571 w49 ho50 hb hg_ hnew_
                          clear hg_ hnew_
                          (first|rw [← Ny570.out] at ho50|(simp only [Int.reduceToNat] at ho50;rw [← Ny570.out] at ho50))
                          have n0_:=Aside0.mk (Kd.R_below (by (with_reducible repeat (first|apply Kd.R_alloc|apply Kd.R_drewN|apply Kd.R_drew));exact HO_0.out) hb)
                          have n1_:=Aside0.mk (Kd.R_elder' (by (with_reducible repeat (first|apply Kd.R_alloc|apply Kd.R_drewN|apply Kd.R_drew));exact HO_7.out) (Kd.R_base ho50) hb)
                          have n2_:=Aside0.mk (Kd.R_below (by (with_reducible repeat (first|apply Kd.R_alloc|apply Kd.R_drewN|apply Kd.R_drew));exact HO_48.out) hb)
                          have n3_:=Aside0.mk (Kd.V_elder' (by (with_reducible repeat (first|apply Kd.V_alloc|apply Kd.V_drewN|apply Kd.V_drew));exact HO557.out) (Kd.R_base ho50) hb)
                          have n4_:=Aside0.mk (Kd.V_elder' (by (with_reducible repeat (first|apply Kd.V_alloc|apply Kd.V_drewN|apply Kd.V_drew));exact HO577.out) (Kd.R_base ho50) hb)
                          have n5_:=Aside0.mk (Kd.V_elder' (by (with_reducible repeat (first|apply Kd.V_alloc|apply Kd.V_drewN|apply Kd.V_drew));exact HO585.out) (Kd.R_base ho50) hb)
                          have n6_:=Aside0.mk (Kd.R_elder' (by (with_reducible repeat (first|apply Kd.R_alloc|apply Kd.R_drewN|apply Kd.R_drew));exact HO563.out) (Kd.R_base ho50) hb)
                          have n7_:=Aside0.mk (Kd.R_lower (Kd.R_new' (Kd.R_new' ho50 (Kd.R_lt (by (with_reducible repeat (first|apply Kd.R_alloc|apply Kd.R_drewN|apply Kd.R_drew));exact HO_7.out))) (Kd.R_lt (by (with_reducible repeat (first|apply Kd.R_alloc|apply Kd.R_drewN|apply Kd.R_drew));exact HO563.out))) (below_size (by repeat (first|(with_reducible first|exact HB.out|apply below_alloc|apply pw_below_drewN|apply below_drew1)|exact HB.out))))
                          have n8_:=Aside0.mk (below_step (by repeat (first|(with_reducible first|exact HB.out|apply below_alloc|apply pw_below_drewN|apply below_drew1)|exact HB.out)) hb)
                          clear HO_0
                          clear HO_7
                          clear HO_48
                          clear HO557
                          clear HO577
                          clear HO585
                          clear HO563
                          clear HB
                          have HO_0:=n0_
                          have HO_7:=n1_
                          have HO_48:=n2_
                          have HO557:=n3_
                          have HO577:=n4_
                          have HO585:=n5_
                          have HO563:=n6_
                          have HO572:=n7_
                          have HB:=n8_
                          clear n0_ n1_ n2_ n3_ n4_ n5_ n6_ n7_ n8_
                          clear hb ho50
                          refine hK.out _ _ trivial (fun hHeld=>?_)
                          clear hK K
                          refine norm_ (a':=?_) ?_ ?_
                          rotate_left
                          ·show Act.put _ (some 78) _ = _
                           simp only [Act.put,List.setIfInBounds_toArray,List.set_cons_zero,List.set_cons_succ,i64_w,i32_w]
                           rfl
                          exact norm_ (by first|(simp only [putAll,Act.put,List.setIfInBounds_toArray,List.set_cons_zero,List.set_cons_succ];done)|(simp only [putAll,Act.put,List.setIfInBounds_toArray,List.set_cons_zero,List.set_cons_succ];rfl)) (hJ3_5_9 (v559,v562,v571) _ ⟨(by (with_reducible repeat (first|apply Kd.V_alloc|apply Kd.V_drewN|apply Kd.V_drew));exact Kd.V_mono HO557.out (fun _ hk=>⟨hk.1.1,⟨hk.2,⟨hk.1.2.1,hk.1.2.2⟩⟩⟩)),(by (with_reducible repeat (first|apply Kd.R_alloc|apply Kd.R_drewN|apply Kd.R_drew));exact Kd.R_mono HO563.out (fun _ hk=>⟨hk.2,hk.1⟩)),(by (with_reducible repeat (first|apply Kd.R_alloc|apply Kd.R_drewN|apply Kd.R_drew));exact Kd.R_mono HO572.out (fun _ hk=>⟨hk.2,hk.1.2⟩)),(by (with_reducible repeat (first|apply Kd.V_alloc|apply Kd.V_drewN|apply Kd.V_drew));exact Kd.V_mono HO577.out (fun _ hk=>⟨hk.1.1,⟨hk.2,⟨hk.1.2.1,hk.1.2.2⟩⟩⟩)),(by (with_reducible repeat (first|apply Kd.V_alloc|apply Kd.V_drewN|apply Kd.V_drew));exact Kd.V_mono HO585.out (fun _ hk=>⟨hk.1.1,⟨hk.2,⟨hk.1.2.1,hk.1.2.2⟩⟩⟩)),(by (with_reducible repeat (first|apply Kd.R_alloc|apply Kd.R_drewN|apply Kd.R_drew));exact HO_0.out),(by (with_reducible repeat (first|apply Kd.R_alloc|apply Kd.R_drewN|apply Kd.R_drew));exact HO_48.out),(by (with_reducible repeat (first|apply Kd.R_alloc|apply Kd.R_drewN|apply Kd.R_drew));exact HO_7.out),(by repeat (first|(with_reducible first|exact HB.out|apply below_alloc|apply pw_below_drewN|apply below_drew1)|exact HB.out))⟩)
                       ·skip
                        rintro ⟨v559,v565,v571⟩ w51 ⟨h0_,h1_,h2_,h3_,h4_,h5_,h6_,h7_,h8_,h9_⟩
                        have n0_ : Aside0 (Kd.V (Kd.int .u8) 5 w51 w.heap.size (fun k_=>some k_ ≠ (v559 : Value).ownBlock ∧ some k_ ≠ (v565 : Value).ownBlock ∧ some k_ ≠ (v571 : Value).ownBlock ∧ some k_ ≠ (.slice Ao17 t543.length co17 : Value).ownBlock ∧ some k_ ≠ (.slice Ao17 t543.length co17 : Value).ownBlock) (.slice Ao23 y553.length co23) y553):=⟨h0_⟩
                        have n1_ : Aside0 (Kd.R (Kd.int .u8) 5 w51 w.heap.size (fun k_=>some k_ ≠ (v565 : Value).ownBlock ∧ some k_ ≠ (v571 : Value).ownBlock ∧ some k_ ≠ (.slice Ao23 t547.length co23 : Value).ownBlock) v559 y558):=⟨h1_⟩
                        have n2_ : Aside0 (Kd.R (Kd.int .u8) 5 w51 w.heap.size (fun k_=>some k_ ≠ (v559 : Value).ownBlock ∧ some k_ ≠ (v571 : Value).ownBlock ∧ some k_ ≠ (.slice Ao23 t547.length co23 : Value).ownBlock) v565 y564):=⟨h2_⟩
                        have n3_ : Aside0 (Kd.R (Kd.int .u8) 5 w51 w.heap.size (fun k_=>some k_ ≠ (v559 : Value).ownBlock ∧ some k_ ≠ (v565 : Value).ownBlock ∧ some k_ ≠ (.slice Ao23 t547.length co23 : Value).ownBlock) v571 y570):=⟨h3_⟩
                        have n4_ : Aside0 (Kd.V (Kd.int .u8) 5 w51 w.heap.size (fun k_=>some k_ ≠ (v559 : Value).ownBlock ∧ some k_ ≠ (v565 : Value).ownBlock ∧ some k_ ≠ (v571 : Value).ownBlock ∧ some k_ ≠ (.slice Ao17 t543.length co17 : Value).ownBlock ∧ some k_ ≠ (.slice Ao17 t543.length co17 : Value).ownBlock) (.slice Ao23 y573.length co23) y573):=⟨h4_⟩
                        have n5_ : Aside0 (Kd.V (Kd.int .u8) 5 w51 w.heap.size (fun k_=>some k_ ≠ (v559 : Value).ownBlock ∧ some k_ ≠ (v565 : Value).ownBlock ∧ some k_ ≠ (v571 : Value).ownBlock ∧ some k_ ≠ (.slice Ao17 t543.length co17 : Value).ownBlock ∧ some k_ ≠ (.slice Ao17 t543.length co17 : Value).ownBlock) (.slice A44 y581.length c44) y581):=⟨h5_⟩
                        have n6_ : Aside0 (Kd.R k59 59 w51 w.heap.size (fun _=>True) (.slice Ao17 t543.length co17) t543):=⟨h6_⟩
                        have n7_ : Aside0 (Kd.R k59 59 w51 w.heap.size (fun _=>True) (.slice Ao17 t543.length co17) t543):=⟨h7_⟩
                        have n8_ : Aside0 (Kd.R (Kd.int .u8) 5 w51 w.heap.size (fun k_=>some k_ ≠ (v559 : Value).ownBlock ∧ some k_ ≠ (v565 : Value).ownBlock ∧ some k_ ≠ (v571 : Value).ownBlock) (.slice Ao23 t547.length co23) t547):=⟨h8_⟩
                        have n9_ : Aside0 (Below w.heap.size w w51):=⟨h9_⟩
                        clear HO_0
                        clear HO_7
                        clear HO_48
                        clear HB
                        clear h0_ h1_ h2_ h3_ h4_ h5_ h6_ h7_ h8_ h9_
                        have HO557:=n0_
                        have HO560:=n1_
                        have HO566:=n2_
                        have HO572:=n3_
                        have HO577:=n4_
                        have HO585:=n5_
                        have HO_0:=n6_
                        have HO_48:=n7_
                        have HO_7:=n8_
                        have HB:=n9_
                        clear n0_ n1_ n2_ n3_ n4_ n5_ n6_ n7_ n8_ n9_
                        have hHeld:=trivial
                        refine norm_ (a':=?_) ?_ ?_
                        rotate_left
                        ·simp only [putAll,Act.put,List.setIfInBounds_toArray,List.set_cons_zero,List.set_cons_succ]
                         rfl
                        refine one_ (i:=5) (N:=some 74) #[true,true,true,true,true,true,true,true,false,true,true,true,true,false,true,true,true,true,false,false,false,true] rfl rfl (one_of HT_.out (by kernel_rfl)) (by decide) (fun K hK=>?_)
                        refine Kd.R_append_rows_step (Kd.int .u8) (w0:=w) w.heap.size (by rfl) (.tmp 72) (.tmp 73) 26 5 (.int .u8 0) 1 rfl Try.underlying26 info5 rfl (by decide) (by omega) v559 y558 t547 _ _ _ (fun k_=>some k_ ≠ (.slice Ao23 t547.length co23 : Value).ownBlock ∧ some k_ ≠ (v565 : Value).ownBlock ∧ some k_ ≠ (v571 : Value).ownBlock) (fun _=>False) rfl rfl ?aO ?aR (fun _ _ h=>h) (fun _ h=>h.elim) ?aF ?aB ?aS ?aL ?_
                        (case aR=>repeat (first|exact (Kd.R_reads' HO_7.out).2.2|(with_reducible refine Kd.C_alloc ?_ _)|(with_reducible refine Kd.C_drewN ?_ _)|(with_reducible refine Kd.C_drew ?_)))
                        (case aB=>exact (by repeat (first|(with_reducible first|exact HB.out|apply below_alloc|apply pw_below_drewN|apply below_drew1)|exact HB.out)))
                        (case aF=>exact (fun k_ hk=>⟨Kd.fresh' (Kd.R_lt (by (with_reducible repeat (first|apply Kd.R_alloc|apply Kd.R_drewN|apply Kd.R_drew));exact HO_7.out)) k_ hk,Kd.fresh' (Kd.R_lt (by (with_reducible repeat (first|apply Kd.R_alloc|apply Kd.R_drewN|apply Kd.R_drew));exact HO566.out)) k_ hk,Kd.fresh' (Kd.R_lt (by (with_reducible repeat (first|apply Kd.R_alloc|apply Kd.R_drewN|apply Kd.R_drew));exact HO572.out)) k_ hk⟩))
                        (case aO=>exact (by (with_reducible repeat (first|apply Kd.R_alloc|apply Kd.R_drewN|apply Kd.R_drew));exact Kd.R_mono HO560.out (fun _ hk=>⟨hk.2.2,⟨hk.1,hk.2.1⟩⟩)))
                        (case aS=>exact (below_size (by repeat (first|(with_reducible first|exact HB.out|apply below_alloc|apply pw_below_drewN|apply below_drew1)|exact HB.out))))
                        (case aL=>have:=LMc32.out;omega)
                        intro v562 w52 ho hb hg hat
                        rw [← Ny561.out] at ho
                        have n0_:=Aside0.mk (Kd.R_over' (by (with_reducible repeat (first|apply Kd.R_alloc|apply Kd.R_drewN|apply Kd.R_drew));exact HO_0.out) (Kd.R_typed (by (with_reducible repeat (first|apply Kd.R_alloc|apply Kd.R_drewN|apply Kd.R_drew));exact HO560.out)) (by decide) hg)
                        have n1_:=Aside0.mk (Kd.R_after (ok:=(fun k_=>some k_ ≠ (v565 : Value).ownBlock ∧ some k_ ≠ (v571 : Value).ownBlock)) (by (with_reducible repeat (first|apply Kd.R_alloc|apply Kd.R_drewN|apply Kd.R_drew));exact Kd.R_mono HO_7.out (fun _ hk=>⟨⟨hk.2.1,hk.2.2⟩,hk.1⟩)) hg hat)
                        have n2_:=Aside0.mk (Kd.R_over' (by (with_reducible repeat (first|apply Kd.R_alloc|apply Kd.R_drewN|apply Kd.R_drew));exact HO_48.out) (Kd.R_typed (by (with_reducible repeat (first|apply Kd.R_alloc|apply Kd.R_drewN|apply Kd.R_drew));exact HO560.out)) (by decide) hg)
                        have n3_:=Aside0.mk (Kd.V_afterv (ok:=(fun k_=>some k_ ≠ (.slice Ao17 t543.length co17 : Value).ownBlock ∧ some k_ ≠ (.slice Ao17 t543.length co17 : Value).ownBlock ∧ some k_ ≠ (v565 : Value).ownBlock ∧ some k_ ≠ (v571 : Value).ownBlock)) (by (with_reducible repeat (first|apply Kd.V_alloc|apply Kd.V_drewN|apply Kd.V_drew));exact Kd.V_mono HO557.out (fun _ hk=>⟨⟨hk.2.2.2.1,⟨hk.2.2.2.2,⟨hk.2.1,hk.2.2.1⟩⟩⟩,hk.1⟩)) hg hat)
                        have n4_:=Aside0.mk (Kd.V_afterv (ok:=(fun k_=>some k_ ≠ (.slice Ao17 t543.length co17 : Value).ownBlock ∧ some k_ ≠ (.slice Ao17 t543.length co17 : Value).ownBlock ∧ some k_ ≠ (v565 : Value).ownBlock ∧ some k_ ≠ (v571 : Value).ownBlock)) (by (with_reducible repeat (first|apply Kd.V_alloc|apply Kd.V_drewN|apply Kd.V_drew));exact Kd.V_mono HO577.out (fun _ hk=>⟨⟨hk.2.2.2.1,⟨hk.2.2.2.2,⟨hk.2.1,hk.2.2.1⟩⟩⟩,hk.1⟩)) hg hat)
                        have n5_:=Aside0.mk (Kd.V_afterv (ok:=(fun k_=>some k_ ≠ (.slice Ao17 t543.length co17 : Value).ownBlock ∧ some k_ ≠ (.slice Ao17 t543.length co17 : Value).ownBlock ∧ some k_ ≠ (v565 : Value).ownBlock ∧ some k_ ≠ (v571 : Value).ownBlock)) (by (with_reducible repeat (first|apply Kd.V_alloc|apply Kd.V_drewN|apply Kd.V_drew));exact Kd.V_mono HO585.out (fun _ hk=>⟨⟨hk.2.2.2.1,⟨hk.2.2.2.2,⟨hk.2.1,hk.2.2.1⟩⟩⟩,hk.1⟩)) hg hat)
                        have n6_:=Aside0.mk (Kd.R_after (ok:=(fun k_=>some k_ ≠ (.slice Ao23 t547.length co23 : Value).ownBlock ∧ some k_ ≠ (v571 : Value).ownBlock)) (by (with_reducible repeat (first|apply Kd.R_alloc|apply Kd.R_drewN|apply Kd.R_drew));exact Kd.R_mono HO566.out (fun _ hk=>⟨⟨hk.2.2,hk.2.1⟩,hk.1⟩)) hg hat)
                        have n7_:=Aside0.mk (Kd.R_after (ok:=(fun k_=>some k_ ≠ (.slice Ao23 t547.length co23 : Value).ownBlock ∧ some k_ ≠ (v565 : Value).ownBlock)) (by (with_reducible repeat (first|apply Kd.R_alloc|apply Kd.R_drewN|apply Kd.R_drew));exact Kd.R_mono HO572.out (fun _ hk=>⟨⟨hk.2.2,hk.2.1⟩,hk.1⟩)) hg hat)
                        have n8_:=Aside0.mk (hb)
                        have n9_:=Aside0.mk (ho)
                        clear HO_0
                        clear HO_7
                        clear HO_48
                        clear HO557
                        clear HO577
                        clear HO585
                        clear HO566
                        clear HO572
                        clear HB
                        clear HO560
                        have HO_0:=n0_
                        have HO_7:=n1_
                        have HO_48:=n2_
                        have HO557:=n3_
                        have HO577:=n4_
                        have HO585:=n5_
                        have HO566:=n6_
                        have HO572:=n7_
                        have HB:=n8_
                        have HO563:=n9_
                        clear n0_ n1_ n2_ n3_ n4_ n5_ n6_ n7_ n8_ n9_
                        clear ho hb hg hat
                        refine hK.out _ _ trivial (fun hHeld=>?_)
                        clear hK K
                        refine norm_ (a':=?_) ?_ ?_
                        rotate_left
                        ·show Act.put _ (some 74) _ = _
                         simp only [Act.put,List.setIfInBounds_toArray,List.set_cons_zero,List.set_cons_succ,i64_w,i32_w]
                         rfl
                        exact norm_ (by first|(simp only [putAll,Act.put,List.setIfInBounds_toArray,List.set_cons_zero,List.set_cons_succ];done)|(simp only [putAll,Act.put,List.setIfInBounds_toArray,List.set_cons_zero,List.set_cons_succ];rfl)) (hJ3_5_7_9 (v559,v562,v565,v571) _ ⟨(by (with_reducible repeat (first|apply Kd.V_alloc|apply Kd.V_drewN|apply Kd.V_drew));exact Kd.V_mono HO557.out (fun _ hk=>⟨hk.2,⟨hk.1.2.2.1,⟨hk.1.2.2.2,⟨hk.1.1,hk.1.2.1⟩⟩⟩⟩)),(by (with_reducible repeat (first|apply Kd.R_alloc|apply Kd.R_drewN|apply Kd.R_drew));exact Kd.R_mono HO563.out (fun _ hk=>⟨hk.2.1,⟨hk.2.2,hk.1⟩⟩)),(by (with_reducible repeat (first|apply Kd.R_alloc|apply Kd.R_drewN|apply Kd.R_drew));exact Kd.R_mono HO566.out (fun _ hk=>⟨hk.2,⟨hk.1.2,hk.1.1⟩⟩)),(by (with_reducible repeat (first|apply Kd.R_alloc|apply Kd.R_drewN|apply Kd.R_drew));exact Kd.R_mono HO572.out (fun _ hk=>⟨hk.2,⟨hk.1.2,hk.1.1⟩⟩)),(by (with_reducible repeat (first|apply Kd.V_alloc|apply Kd.V_drewN|apply Kd.V_drew));exact Kd.V_mono HO577.out (fun _ hk=>⟨hk.2,⟨hk.1.2.2.1,⟨hk.1.2.2.2,⟨hk.1.1,hk.1.2.1⟩⟩⟩⟩)),(by (with_reducible repeat (first|apply Kd.V_alloc|apply Kd.V_drewN|apply Kd.V_drew));exact Kd.V_mono HO585.out (fun _ hk=>⟨hk.2,⟨hk.1.2.2.1,⟨hk.1.2.2.2,⟨hk.1.1,hk.1.2.1⟩⟩⟩⟩)),(by (with_reducible repeat (first|apply Kd.R_alloc|apply Kd.R_drewN|apply Kd.R_drew));exact HO_0.out),(by (with_reducible repeat (first|apply Kd.R_alloc|apply Kd.R_drewN|apply Kd.R_drew));exact HO_48.out),(by (with_reducible repeat (first|apply Kd.R_alloc|apply Kd.R_drewN|apply Kd.R_drew));exact Kd.R_mono HO_7.out (fun _ hk=>⟨hk.2,⟨hk.1.1,hk.1.2⟩⟩)),(by repeat (first|(with_reducible first|exact HB.out|apply below_alloc|apply pw_below_drewN|apply below_drew1)|exact HB.out))⟩)
                      ·skip
                       rintro ⟨v559,v562,v571⟩ w50 ⟨h0_,h1_,h2_,h3_,h4_,h5_,h6_,h7_,h8_⟩
                       have n0_ : Aside0 (Kd.V (Kd.int .u8) 5 w50 w.heap.size (fun k_=>some k_ ≠ (v562 : Value).ownBlock ∧ some k_ ≠ (v571 : Value).ownBlock ∧ some k_ ≠ (.slice Ao17 t543.length co17 : Value).ownBlock ∧ some k_ ≠ (.slice Ao17 t543.length co17 : Value).ownBlock) (.slice Ao23 y553.length co23) y553):=⟨h0_⟩
                       have n1_ : Aside0 (Kd.R (Kd.int .u8) 5 w50 w.heap.size (fun k_=>some k_ ≠ (v571 : Value).ownBlock ∧ some k_ ≠ (.slice Ao23 t547.length co23 : Value).ownBlock) v562 y561):=⟨h1_⟩
                       have n2_ : Aside0 (Kd.R (Kd.int .u8) 5 w50 w.heap.size (fun k_=>some k_ ≠ (v562 : Value).ownBlock ∧ some k_ ≠ (.slice Ao23 t547.length co23 : Value).ownBlock) v571 y570):=⟨h2_⟩
                       have n3_ : Aside0 (Kd.V (Kd.int .u8) 5 w50 w.heap.size (fun k_=>some k_ ≠ (v562 : Value).ownBlock ∧ some k_ ≠ (v571 : Value).ownBlock ∧ some k_ ≠ (.slice Ao17 t543.length co17 : Value).ownBlock ∧ some k_ ≠ (.slice Ao17 t543.length co17 : Value).ownBlock) (.slice Ao23 y573.length co23) y573):=⟨h3_⟩
                       have n4_ : Aside0 (Kd.V (Kd.int .u8) 5 w50 w.heap.size (fun k_=>some k_ ≠ (v562 : Value).ownBlock ∧ some k_ ≠ (v571 : Value).ownBlock ∧ some k_ ≠ (.slice Ao17 t543.length co17 : Value).ownBlock ∧ some k_ ≠ (.slice Ao17 t543.length co17 : Value).ownBlock) (.slice A44 y581.length c44) y581):=⟨h4_⟩
                       have n5_ : Aside0 (Kd.R k59 59 w50 w.heap.size (fun _=>True) (.slice Ao17 t543.length co17) t543):=⟨h5_⟩
                       have n6_ : Aside0 (Kd.R k59 59 w50 w.heap.size (fun _=>True) (.slice Ao17 t543.length co17) t543):=⟨h6_⟩
                       have n7_ : Aside0 (Kd.R (Kd.int .u8) 5 w50 w.heap.size (fun k_=>some k_ ≠ (v562 : Value).ownBlock ∧ some k_ ≠ (v571 : Value).ownBlock) (.slice Ao23 t547.length co23) t547):=⟨h7_⟩
                       have n8_ : Aside0 (Below w.heap.size w w50):=⟨h8_⟩
                       clear HO_0
                       clear HO_7
                       clear HO_48
                       clear HB
                       clear h0_ h1_ h2_ h3_ h4_ h5_ h6_ h7_ h8_
                       have HO557:=n0_
                       have HO563:=n1_
                       have HO572:=n2_
                       have HO577:=n3_
                       have HO585:=n4_
                       have HO_0:=n5_
                       have HO_48:=n6_
                       have HO_7:=n7_
                       have HB:=n8_
                       clear n0_ n1_ n2_ n3_ n4_ n5_ n6_ n7_ n8_
                       have hHeld:=trivial
                       refine norm_ (a':=?_) ?_ ?_
                       rotate_left
                       ·simp only [putAll,Act.put,List.setIfInBounds_toArray,List.set_cons_zero,List.set_cons_succ]
                        rfl
                       refine one_ (i:=7) (N:=some 76) #[true,true,true,true,true,true,true,true,false,true,true,true,true,false,true,true,true,true,false,false,false,true] rfl rfl (one_of HT_.out (by kernel_rfl)) (by decide) (fun K hK=>?_)
                       refine Kd.R_lit_step (Kd.int .u8) _ 5 ?hg (N:=76) ?hd (xs:=([a2] : List Int)) (inner:=[.int .u8 a2]) (ok:=fun _=>True) (okp:=fun _=>True) ?hr ?hp (fun _ hk=>hk) trivial (Below.refl _ _) (Nat.le_refl _) (by simp) ?_;(case hd=>rfl);(case hg=>rfl);(case hr=>first|(go_simp;done)|(go_simp;rfl));(case hp=>exact (Reps.one (show Kd.M (Kd.int .u8) _ _ _ a2 [.int .u8 a2] from rfl) (Reps.none _ _)))
                       intro v565 w51 ho52 hb hg_ hnew_
                       clear hg_ hnew_
                       (first|rw [← Ny564.out] at ho52|(simp only [Int.reduceToNat] at ho52;rw [← Ny564.out] at ho52))
                       have n0_:=Aside0.mk (Kd.R_below (by (with_reducible repeat (first|apply Kd.R_alloc|apply Kd.R_drewN|apply Kd.R_drew));exact HO_0.out) hb)
                       have n1_:=Aside0.mk (Kd.R_elder' (by (with_reducible repeat (first|apply Kd.R_alloc|apply Kd.R_drewN|apply Kd.R_drew));exact HO_7.out) (Kd.R_base ho52) hb)
                       have n2_:=Aside0.mk (Kd.R_below (by (with_reducible repeat (first|apply Kd.R_alloc|apply Kd.R_drewN|apply Kd.R_drew));exact HO_48.out) hb)
                       have n3_:=Aside0.mk (Kd.V_elder' (by (with_reducible repeat (first|apply Kd.V_alloc|apply Kd.V_drewN|apply Kd.V_drew));exact HO557.out) (Kd.R_base ho52) hb)
                       have n4_:=Aside0.mk (Kd.V_elder' (by (with_reducible repeat (first|apply Kd.V_alloc|apply Kd.V_drewN|apply Kd.V_drew));exact HO577.out) (Kd.R_base ho52) hb)
                       have n5_:=Aside0.mk (Kd.V_elder' (by (with_reducible repeat (first|apply Kd.V_alloc|apply Kd.V_drewN|apply Kd.V_drew));exact HO585.out) (Kd.R_base ho52) hb)
                       have n6_:=Aside0.mk (Kd.R_elder' (by (with_reducible repeat (first|apply Kd.R_alloc|apply Kd.R_drewN|apply Kd.R_drew));exact HO563.out) (Kd.R_base ho52) hb)
                       have n7_:=Aside0.mk (Kd.R_elder' (by (with_reducible repeat (first|apply Kd.R_alloc|apply Kd.R_drewN|apply Kd.R_drew));exact HO572.out) (Kd.R_base ho52) hb)
                       have n8_:=Aside0.mk (Kd.R_lower (Kd.R_new' (Kd.R_new' (Kd.R_new' ho52 (Kd.R_lt (by (with_reducible repeat (first|apply Kd.R_alloc|apply Kd.R_drewN|apply Kd.R_drew));exact HO_7.out))) (Kd.R_lt (by (with_reducible repeat (first|apply Kd.R_alloc|apply Kd.R_drewN|apply Kd.R_drew));exact HO563.out))) (Kd.R_lt (by (with_reducible repeat (first|apply Kd.R_alloc|apply Kd.R_drewN|apply Kd.R_drew));exact HO572.out))) (below_size (by repeat (first|(with_reducible first|exact HB.out|apply below_alloc|apply pw_below_drewN|apply below_drew1)|exact HB.out))))
                       have n9_:=Aside0.mk (below_step (by repeat (first|(with_reducible first|exact HB.out|apply below_alloc|apply pw_below_drewN|apply below_drew1)|exact HB.out)) hb)
                       clear HO_0
                       clear HO_7
                       clear HO_48
                       clear HO557
                       clear HO577
                       clear HO585
                       clear HO563
                       clear HO572
                       clear HB
                       have HO_0:=n0_
                       have HO_7:=n1_
                       have HO_48:=n2_
                       have HO557:=n3_
                       have HO577:=n4_
                       have HO585:=n5_
                       have HO563:=n6_
                       have HO572:=n7_
                       have HO566:=n8_
                       have HB:=n9_
                       clear n0_ n1_ n2_ n3_ n4_ n5_ n6_ n7_ n8_ n9_
                       clear hb ho52
                       refine hK.out _ _ trivial (fun hHeld=>?_)
                       clear hK K
                       refine norm_ (a':=?_) ?_ ?_
                       rotate_left
                       ·show Act.put _ (some 76) _ = _
                        simp only [Act.put,List.setIfInBounds_toArray,List.set_cons_zero,List.set_cons_succ,i64_w,i32_w]
                        rfl
                       exact norm_ (by first|(simp only [putAll,Act.put,List.setIfInBounds_toArray,List.set_cons_zero,List.set_cons_succ];done)|(simp only [putAll,Act.put,List.setIfInBounds_toArray,List.set_cons_zero,List.set_cons_succ];rfl)) (hJ3_5_7_9 (v559,v562,v565,v571) _ ⟨(by (with_reducible repeat (first|apply Kd.V_alloc|apply Kd.V_drewN|apply Kd.V_drew));exact Kd.V_mono HO557.out (fun _ hk=>⟨hk.1.1,⟨hk.2,⟨hk.1.2.1,⟨hk.1.2.2.1,hk.1.2.2.2⟩⟩⟩⟩)),(by (with_reducible repeat (first|apply Kd.R_alloc|apply Kd.R_drewN|apply Kd.R_drew));exact Kd.R_mono HO563.out (fun _ hk=>⟨hk.2,⟨hk.1.1,hk.1.2⟩⟩)),(by (with_reducible repeat (first|apply Kd.R_alloc|apply Kd.R_drewN|apply Kd.R_drew));exact Kd.R_mono HO566.out (fun _ hk=>⟨hk.1.2,⟨hk.2,hk.1.1.2⟩⟩)),(by (with_reducible repeat (first|apply Kd.R_alloc|apply Kd.R_drewN|apply Kd.R_drew));exact Kd.R_mono HO572.out (fun _ hk=>⟨hk.1.1,⟨hk.2,hk.1.2⟩⟩)),(by (with_reducible repeat (first|apply Kd.V_alloc|apply Kd.V_drewN|apply Kd.V_drew));exact Kd.V_mono HO577.out (fun _ hk=>⟨hk.1.1,⟨hk.2,⟨hk.1.2.1,⟨hk.1.2.2.1,hk.1.2.2.2⟩⟩⟩⟩)),(by (with_reducible repeat (first|apply Kd.V_alloc|apply Kd.V_drewN|apply Kd.V_drew));exact Kd.V_mono HO585.out (fun _ hk=>⟨hk.1.1,⟨hk.2,⟨hk.1.2.1,⟨hk.1.2.2.1,hk.1.2.2.2⟩⟩⟩⟩)),(by (with_reducible repeat (first|apply Kd.R_alloc|apply Kd.R_drewN|apply Kd.R_drew));exact HO_0.out),(by (with_reducible repeat (first|apply Kd.R_alloc|apply Kd.R_drewN|apply Kd.R_drew));exact HO_48.out),(by (with_reducible repeat (first|apply Kd.R_alloc|apply Kd.R_drewN|apply Kd.R_drew));exact Kd.R_mono HO_7.out (fun _ hk=>⟨hk.1.1,⟨hk.2,hk.1.2⟩⟩)),(by repeat (first|(with_reducible first|exact HB.out|apply below_alloc|apply pw_below_drewN|apply below_drew1)|exact HB.out))⟩)
                     ·skip
                      rintro ⟨v559,v562,v565⟩ w50 ⟨h0_,h1_,h2_,h3_,h4_,h5_,h6_,h7_,h8_⟩
                      have n0_ : Aside0 (Kd.V (Kd.int .u8) 5 w50 w.heap.size (fun k_=>some k_ ≠ (v562 : Value).ownBlock ∧ some k_ ≠ (v565 : Value).ownBlock ∧ some k_ ≠ (.slice Ao17 t543.length co17 : Value).ownBlock ∧ some k_ ≠ (.slice Ao17 t543.length co17 : Value).ownBlock) (.slice Ao23 y553.length co23) y553):=⟨h0_⟩
                      have n1_ : Aside0 (Kd.R (Kd.int .u8) 5 w50 w.heap.size (fun k_=>some k_ ≠ (v565 : Value).ownBlock ∧ some k_ ≠ (.slice Ao23 t547.length co23 : Value).ownBlock) v562 y561):=⟨h1_⟩
                      have n2_ : Aside0 (Kd.R (Kd.int .u8) 5 w50 w.heap.size (fun k_=>some k_ ≠ (v562 : Value).ownBlock ∧ some k_ ≠ (.slice Ao23 t547.length co23 : Value).ownBlock) v565 y564):=⟨h2_⟩
                      have n3_ : Aside0 (Kd.V (Kd.int .u8) 5 w50 w.heap.size (fun k_=>some k_ ≠ (v562 : Value).ownBlock ∧ some k_ ≠ (v565 : Value).ownBlock ∧ some k_ ≠ (.slice Ao17 t543.length co17 : Value).ownBlock ∧ some k_ ≠ (.slice Ao17 t543.length co17 : Value).ownBlock) (.slice Ao23 y573.length co23) y573):=⟨h3_⟩
                      have n4_ : Aside0 (Kd.V (Kd.int .u8) 5 w50 w.heap.size (fun k_=>some k_ ≠ (v562 : Value).ownBlock ∧ some k_ ≠ (v565 : Value).ownBlock ∧ some k_ ≠ (.slice Ao17 t543.length co17 : Value).ownBlock ∧ some k_ ≠ (.slice Ao17 t543.length co17 : Value).ownBlock) (.slice A44 y581.length c44) y581):=⟨h4_⟩
                      have n5_ : Aside0 (Kd.R k59 59 w50 w.heap.size (fun _=>True) (.slice Ao17 t543.length co17) t543):=⟨h5_⟩
                      have n6_ : Aside0 (Kd.R k59 59 w50 w.heap.size (fun _=>True) (.slice Ao17 t543.length co17) t543):=⟨h6_⟩
                      have n7_ : Aside0 (Kd.R (Kd.int .u8) 5 w50 w.heap.size (fun k_=>some k_ ≠ (v562 : Value).ownBlock ∧ some k_ ≠ (v565 : Value).ownBlock) (.slice Ao23 t547.length co23) t547):=⟨h7_⟩
                      have n8_ : Aside0 (Below w.heap.size w w50):=⟨h8_⟩
                      clear HO_0
                      clear HO_7
                      clear HO_48
                      clear HB
                      clear h0_ h1_ h2_ h3_ h4_ h5_ h6_ h7_ h8_
                      have HO557:=n0_
                      have HO563:=n1_
                      have HO566:=n2_
                      have HO577:=n3_
                      have HO585:=n4_
                      have HO_0:=n5_
                      have HO_48:=n6_
                      have HO_7:=n7_
                      have HB:=n8_
                      clear n0_ n1_ n2_ n3_ n4_ n5_ n6_ n7_ n8_
                      have hHeld:=trivial
                      obtain ⟨Ao52,co52,eo52⟩:=Kd.R_slice HO566.out
                      (first|subst eo52|(injection eo52 with f1_ f2_ f3_;have f4_:=f1_.symm;have f5_:=f3_.symm;clear f1_ f2_ f3_;subst f4_;subst f5_))
                      refine norm_ (a':=?_) ?_ ?_
                      rotate_left
                      ·simp only [putAll,Act.put,List.setIfInBounds_toArray,List.set_cons_zero,List.set_cons_succ]
                       rfl
                      refine two_ (i:=8) (j:=9) (Ni:=some 77) (Nj:=some 78) #[true,true,true,true,true,true,true,true,true,false,true,true,true,false,true,true,true,true,false,false,false,true] #[true,true,true,true,true,true,true,true,false,true,true,true,true,false,true,true,true,true,false,false,false,true] rfl rfl rfl rfl (two_of HT_.out (by kernel_rfl)) (by decide) (by decide) (fun K hK=>?_) (fun K hK=>?_)
                      ·skip
                       refine Kd.R_append_rows_step (Kd.int .u8) (w0:=w) w.heap.size (by rfl) (.tmp 74) (.tmp 76) 26 5 (.int .u8 0) 1 rfl Try.underlying26 info5 rfl (by decide) (by omega) v562 y561 y564 _ _ _ (fun k_=>some k_ ≠ (.slice Ao23 t547.length co23 : Value).ownBlock ∧ some k_ ≠ (.slice Ao52 y564.length co52 : Value).ownBlock) (fun _=>False) rfl rfl ?aO ?aR (fun _ _ h=>h) (fun _ h=>h.elim) ?aF ?aB ?aS ?aL ?_
                       (case aR=>repeat (first|exact (Kd.R_reads' HO566.out).2.2|(with_reducible refine Kd.C_alloc ?_ _)|(with_reducible refine Kd.C_drewN ?_ _)|(with_reducible refine Kd.C_drew ?_)))
                       (case aB=>exact (by repeat (first|(with_reducible first|exact HB.out|apply below_alloc|apply pw_below_drewN|apply below_drew1)|exact HB.out)))
                       (case aF=>exact (fun k_ hk=>⟨Kd.fresh' (Kd.R_lt (by (with_reducible repeat (first|apply Kd.R_alloc|apply Kd.R_drewN|apply Kd.R_drew));exact HO_7.out)) k_ hk,Kd.fresh' (Kd.R_lt (by (with_reducible repeat (first|apply Kd.R_alloc|apply Kd.R_drewN|apply Kd.R_drew));exact HO566.out)) k_ hk⟩))
                       (case aO=>exact (by (with_reducible repeat (first|apply Kd.R_alloc|apply Kd.R_drewN|apply Kd.R_drew));exact Kd.R_mono HO563.out (fun _ hk=>⟨hk.2,hk.1⟩)))
                       (case aS=>exact (below_size (by repeat (first|(with_reducible first|exact HB.out|apply below_alloc|apply pw_below_drewN|apply below_drew1)|exact HB.out))))
                       (case aL=>have:=LMc33.out;omega)
                       intro v568 w51 ho hb hg hat
                       rw [← Ny567.out] at ho
                       have n0_:=Aside0.mk (Kd.R_over' (by (with_reducible repeat (first|apply Kd.R_alloc|apply Kd.R_drewN|apply Kd.R_drew));exact HO_0.out) (Kd.R_typed (by (with_reducible repeat (first|apply Kd.R_alloc|apply Kd.R_drewN|apply Kd.R_drew));exact HO563.out)) (by decide) hg)
                       have n1_:=Aside0.mk (Kd.R_after (ok:=(fun k_=>some k_ ≠ (.slice Ao52 y564.length co52 : Value).ownBlock)) (by (with_reducible repeat (first|apply Kd.R_alloc|apply Kd.R_drewN|apply Kd.R_drew));exact Kd.R_mono HO_7.out (fun _ hk=>⟨hk.2,hk.1⟩)) hg hat)
                       have n2_:=Aside0.mk (Kd.R_over' (by (with_reducible repeat (first|apply Kd.R_alloc|apply Kd.R_drewN|apply Kd.R_drew));exact HO_48.out) (Kd.R_typed (by (with_reducible repeat (first|apply Kd.R_alloc|apply Kd.R_drewN|apply Kd.R_drew));exact HO563.out)) (by decide) hg)
                       have n3_:=Aside0.mk (Kd.V_afterv (ok:=(fun k_=>some k_ ≠ (.slice Ao17 t543.length co17 : Value).ownBlock ∧ some k_ ≠ (.slice Ao17 t543.length co17 : Value).ownBlock ∧ some k_ ≠ (.slice Ao52 y564.length co52 : Value).ownBlock)) (by (with_reducible repeat (first|apply Kd.V_alloc|apply Kd.V_drewN|apply Kd.V_drew));exact Kd.V_mono HO557.out (fun _ hk=>⟨⟨hk.2.2.1,⟨hk.2.2.2,hk.2.1⟩⟩,hk.1⟩)) hg hat)
                       have n4_:=Aside0.mk (Kd.V_afterv (ok:=(fun k_=>some k_ ≠ (.slice Ao17 t543.length co17 : Value).ownBlock ∧ some k_ ≠ (.slice Ao17 t543.length co17 : Value).ownBlock ∧ some k_ ≠ (.slice Ao52 y564.length co52 : Value).ownBlock)) (by (with_reducible repeat (first|apply Kd.V_alloc|apply Kd.V_drewN|apply Kd.V_drew));exact Kd.V_mono HO577.out (fun _ hk=>⟨⟨hk.2.2.1,⟨hk.2.2.2,hk.2.1⟩⟩,hk.1⟩)) hg hat)
                       have n5_:=Aside0.mk (Kd.V_afterv (ok:=(fun k_=>some k_ ≠ (.slice Ao17 t543.length co17 : Value).ownBlock ∧ some k_ ≠ (.slice Ao17 t543.length co17 : Value).ownBlock ∧ some k_ ≠ (.slice Ao52 y564.length co52 : Value).ownBlock)) (by (with_reducible repeat (first|apply Kd.V_alloc|apply Kd.V_drewN|apply Kd.V_drew));exact Kd.V_mono HO585.out (fun _ hk=>⟨⟨hk.2.2.1,⟨hk.2.2.2,hk.2.1⟩⟩,hk.1⟩)) hg hat)
                       have n6_:=Aside0.mk (Kd.R_after (ok:=(fun k_=>some k_ ≠ (.slice Ao23 t547.length co23 : Value).ownBlock)) (by (with_reducible repeat (first|apply Kd.R_alloc|apply Kd.R_drewN|apply Kd.R_drew));exact Kd.R_mono HO566.out (fun _ hk=>⟨hk.2,hk.1⟩)) hg hat)
                       have n7_:=Aside0.mk (hb)
                       have n8_:=Aside0.mk (ho)
                       clear HO_0
                       clear HO_7
                       clear HO_48
                       clear HO557
                       clear HO577
                       clear HO585
                       clear HO566
                       clear HB
                       clear HO563
                       have HO_0:=n0_
                       have HO_7:=n1_
                       have HO_48:=n2_
                       have HO557:=n3_
                       have HO577:=n4_
                       have HO585:=n5_
                       have HO566:=n6_
                       have HB:=n7_
                       have HO569:=n8_
                       clear n0_ n1_ n2_ n3_ n4_ n5_ n6_ n7_ n8_
                       clear ho hb hg hat
                       refine hK.out _ _ trivial (fun hHeld=>?_)
                       clear hK K
                       refine norm_ (a':=?_) ?_ ?_
                       rotate_left
                       ·show Act.put _ (some 77) _ = _
                        simp only [Act.put,List.setIfInBounds_toArray,List.set_cons_zero,List.set_cons_succ,i64_w,i32_w]
                        rfl
                       exact norm_ (by first|(simp only [putAll,Act.put,List.setIfInBounds_toArray,List.set_cons_zero,List.set_cons_succ];done)|(simp only [putAll,Act.put,List.setIfInBounds_toArray,List.set_cons_zero,List.set_cons_succ];rfl)) (hJ3_5_7_8 (v559,v562,.slice Ao52 y564.length co52,v568) _ ⟨(by (with_reducible repeat (first|apply Kd.V_alloc|apply Kd.V_drewN|apply Kd.V_drew));exact Kd.V_mono HO557.out (fun _ hk=>⟨hk.1.2.2,⟨hk.2,⟨hk.1.1,hk.1.2.1⟩⟩⟩)),(by (with_reducible repeat (first|apply Kd.R_alloc|apply Kd.R_drewN|apply Kd.R_drew));exact Kd.R_mono HO566.out (fun _ hk=>⟨hk.2,hk.1⟩)),(by (with_reducible repeat (first|apply Kd.R_alloc|apply Kd.R_drewN|apply Kd.R_drew));exact Kd.R_mono HO569.out (fun _ hk=>⟨hk.2,hk.1⟩)),(by (with_reducible repeat (first|apply Kd.V_alloc|apply Kd.V_drewN|apply Kd.V_drew));exact Kd.V_mono HO577.out (fun _ hk=>⟨hk.1.2.2,⟨hk.2,⟨hk.1.1,hk.1.2.1⟩⟩⟩)),(by (with_reducible repeat (first|apply Kd.V_alloc|apply Kd.V_drewN|apply Kd.V_drew));exact Kd.V_mono HO585.out (fun _ hk=>⟨hk.1.2.2,⟨hk.2,⟨hk.1.1,hk.1.2.1⟩⟩⟩)),(by (with_reducible repeat (first|apply Kd.R_alloc|apply Kd.R_drewN|apply Kd.R_drew));exact HO_0.out),(by (with_reducible repeat (first|apply Kd.R_alloc|apply Kd.R_drewN|apply Kd.R_drew));exact HO_48.out),(by (with_reducible repeat (first|apply Kd.R_alloc|apply Kd.R_drewN|apply Kd.R_drew));exact HO_7.out),(by repeat (first|(with_reducible first|exact HB.out|apply below_alloc|apply pw_below_drewN|apply below_drew1)|exact HB.out))⟩)
                      ·skip
                       refine Kd.R_lit_step (Kd.int .u8) _ 5 ?hg (N:=78) ?hd (xs:=([] : List Int)) (inner:=[]) (ok:=fun _=>True) (okp:=fun _=>True) ?hr ?hp (fun _ hk=>hk) trivial (Below.refl _ _) (Nat.le_refl _) (by simp) ?_;(case hd=>rfl);(case hg=>rfl);(case hr=>first|(go_simp;done)|(go_simp;rfl));(case hp=>exact (Reps.none _ _))
                       intro v571 w51 ho52 hb hg_ hnew_
                       clear hg_ hnew_
                       (first|rw [← Ny570.out] at ho52|(simp only [Int.reduceToNat] at ho52;rw [← Ny570.out] at ho52))
                       have n0_:=Aside0.mk (Kd.R_below (by (with_reducible repeat (first|apply Kd.R_alloc|apply Kd.R_drewN|apply Kd.R_drew));exact HO_0.out) hb)
                       have n1_:=Aside0.mk (Kd.R_elder' (by (with_reducible repeat (first|apply Kd.R_alloc|apply Kd.R_drewN|apply Kd.R_drew));exact HO_7.out) (Kd.R_base ho52) hb)
                       have n2_:=Aside0.mk (Kd.R_below (by (with_reducible repeat (first|apply Kd.R_alloc|apply Kd.R_drewN|apply Kd.R_drew));exact HO_48.out) hb)
                       have n3_:=Aside0.mk (Kd.V_elder' (by (with_reducible repeat (first|apply Kd.V_alloc|apply Kd.V_drewN|apply Kd.V_drew));exact HO557.out) (Kd.R_base ho52) hb)
                       have n4_:=Aside0.mk (Kd.V_elder' (by (with_reducible repeat (first|apply Kd.V_alloc|apply Kd.V_drewN|apply Kd.V_drew));exact HO577.out) (Kd.R_base ho52) hb)
                       have n5_:=Aside0.mk (Kd.V_elder' (by (with_reducible repeat (first|apply Kd.V_alloc|apply Kd.V_drewN|apply Kd.V_drew));exact HO585.out) (Kd.R_base ho52) hb)
                       have n6_:=Aside0.mk (Kd.R_elder' (by (with_reducible repeat (first|apply Kd.R_alloc|apply Kd.R_drewN|apply Kd.R_drew));exact HO563.out) (Kd.R_base ho52) hb)
                       have n7_:=Aside0.mk (Kd.R_elder' (by (with_reducible repeat (first|apply Kd.R_alloc|apply Kd.R_drewN|apply Kd.R_drew));exact HO566.out) (Kd.R_base ho52) hb)
                       have n8_:=Aside0.mk (Kd.R_lower (Kd.R_new' (Kd.R_new' (Kd.R_new' ho52 (Kd.R_lt (by (with_reducible repeat (first|apply Kd.R_alloc|apply Kd.R_drewN|apply Kd.R_drew));exact HO_7.out))) (Kd.R_lt (by (with_reducible repeat (first|apply Kd.R_alloc|apply Kd.R_drewN|apply Kd.R_drew));exact HO563.out))) (Kd.R_lt (by (with_reducible repeat (first|apply Kd.R_alloc|apply Kd.R_drewN|apply Kd.R_drew));exact HO566.out))) (below_size (by repeat (first|(with_reducible first|exact HB.out|apply below_alloc|apply pw_below_drewN|apply below_drew1)|exact HB.out))))
                       have n9_:=Aside0.mk (below_step (by repeat (first|(with_reducible first|exact HB.out|apply below_alloc|apply pw_below_drewN|apply below_drew1)|exact HB.out)) hb)
                       clear HO_0
                       clear HO_7
                       clear HO_48
                       clear HO557
                       clear HO577
                       clear HO585
                       clear HO563
                       clear HO566
                       clear HB
                       have HO_0:=n0_
                       have HO_7:=n1_
                       have HO_48:=n2_
                       have HO557:=n3_
                       have HO577:=n4_
                       have HO585:=n5_
                       have HO563:=n6_
                       have HO566:=n7_
                       have HO572:=n8_
                       have HB:=n9_
                       clear n0_ n1_ n2_ n3_ n4_ n5_ n6_ n7_ n8_ n9_
                       clear hb ho52
                       refine hK.out _ _ trivial (fun hHeld=>?_)
                       clear hK K
                       refine norm_ (a':=?_) ?_ ?_
                       rotate_left
                       ·show Act.put _ (some 78) _ = _
                        simp only [Act.put,List.setIfInBounds_toArray,List.set_cons_zero,List.set_cons_succ,i64_w,i32_w]
                        rfl
                       exact norm_ (by first|(simp only [putAll,Act.put,List.setIfInBounds_toArray,List.set_cons_zero,List.set_cons_succ];done)|(simp only [putAll,Act.put,List.setIfInBounds_toArray,List.set_cons_zero,List.set_cons_succ];rfl)) (hJ3_5_7_9 (v559,v562,_,v571) _ ⟨(by (with_reducible repeat (first|apply Kd.V_alloc|apply Kd.V_drewN|apply Kd.V_drew));exact Kd.V_mono HO557.out (fun _ hk=>⟨hk.1.1,⟨hk.1.2.1,⟨hk.2,⟨hk.1.2.2.1,hk.1.2.2.2⟩⟩⟩⟩)),(by (with_reducible repeat (first|apply Kd.R_alloc|apply Kd.R_drewN|apply Kd.R_drew));exact Kd.R_mono HO563.out (fun _ hk=>⟨hk.1.1,⟨hk.2,hk.1.2⟩⟩)),(by (with_reducible repeat (first|apply Kd.R_alloc|apply Kd.R_drewN|apply Kd.R_drew));exact Kd.R_mono HO566.out (fun _ hk=>⟨hk.1.1,⟨hk.2,hk.1.2⟩⟩)),(by (with_reducible repeat (first|apply Kd.R_alloc|apply Kd.R_drewN|apply Kd.R_drew));exact Kd.R_mono HO572.out (fun _ hk=>⟨hk.1.2,⟨hk.2,hk.1.1.2⟩⟩)),(by (with_reducible repeat (first|apply Kd.V_alloc|apply Kd.V_drewN|apply Kd.V_drew));exact Kd.V_mono HO577.out (fun _ hk=>⟨hk.1.1,⟨hk.1.2.1,⟨hk.2,⟨hk.1.2.2.1,hk.1.2.2.2⟩⟩⟩⟩)),(by (with_reducible repeat (first|apply Kd.V_alloc|apply Kd.V_drewN|apply Kd.V_drew));exact Kd.V_mono HO585.out (fun _ hk=>⟨hk.1.1,⟨hk.1.2.1,⟨hk.2,⟨hk.1.2.2.1,hk.1.2.2.2⟩⟩⟩⟩)),(by (with_reducible repeat (first|apply Kd.R_alloc|apply Kd.R_drewN|apply Kd.R_drew));exact HO_0.out),(by (with_reducible repeat (first|apply Kd.R_alloc|apply Kd.R_drewN|apply Kd.R_drew));exact HO_48.out),(by (with_reducible repeat (first|apply Kd.R_alloc|apply Kd.R_drewN|apply Kd.R_drew));exact Kd.R_mono HO_7.out (fun _ hk=>⟨hk.1.1,⟨hk.1.2,hk.2⟩⟩)),(by repeat (first|(with_reducible first|exact HB.out|apply below_alloc|apply pw_below_drewN|apply below_drew1)|exact HB.out))⟩)
                    ·skip
                     rintro ⟨v559,v562,v565,v571⟩ w52 ⟨h0_,h1_,h2_,h3_,h4_,h5_,h6_,h7_,h8_,h9_⟩
                     have n0_ : Aside0 (Kd.V (Kd.int .u8) 5 w52 w.heap.size (fun k_=>some k_ ≠ (v562 : Value).ownBlock ∧ some k_ ≠ (v565 : Value).ownBlock ∧ some k_ ≠ (v571 : Value).ownBlock ∧ some k_ ≠ (.slice Ao17 t543.length co17 : Value).ownBlock ∧ some k_ ≠ (.slice Ao17 t543.length co17 : Value).ownBlock) (.slice Ao23 y553.length co23) y553):=⟨h0_⟩
                     have n1_ : Aside0 (Kd.R (Kd.int .u8) 5 w52 w.heap.size (fun k_=>some k_ ≠ (v565 : Value).ownBlock ∧ some k_ ≠ (v571 : Value).ownBlock ∧ some k_ ≠ (.slice Ao23 t547.length co23 : Value).ownBlock) v562 y561):=⟨h1_⟩
                     have n2_ : Aside0 (Kd.R (Kd.int .u8) 5 w52 w.heap.size (fun k_=>some k_ ≠ (v562 : Value).ownBlock ∧ some k_ ≠ (v571 : Value).ownBlock ∧ some k_ ≠ (.slice Ao23 t547.length co23 : Value).ownBlock) v565 y564):=⟨h2_⟩
                     have n3_ : Aside0 (Kd.R (Kd.int .u8) 5 w52 w.heap.size (fun k_=>some k_ ≠ (v562 : Value).ownBlock ∧ some k_ ≠ (v565 : Value).ownBlock ∧ some k_ ≠ (.slice Ao23 t547.length co23 : Value).ownBlock) v571 y570):=⟨h3_⟩
                     have n4_ : Aside0 (Kd.V (Kd.int .u8) 5 w52 w.heap.size (fun k_=>some k_ ≠ (v562 : Value).ownBlock ∧ some k_ ≠ (v565 : Value).ownBlock ∧ some k_ ≠ (v571 : Value).ownBlock ∧ some k_ ≠ (.slice Ao17 t543.length co17 : Value).ownBlock ∧ some k_ ≠ (.slice Ao17 t543.length co17 : Value).ownBlock) (.slice Ao23 y573.length co23) y573):=⟨h4_⟩
                     have n5_ : Aside0 (Kd.V (Kd.int .u8) 5 w52 w.heap.size (fun k_=>some k_ ≠ (v562 : Value).ownBlock ∧ some k_ ≠ (v565 : Value).ownBlock ∧ some k_ ≠ (v571 : Value).ownBlock ∧ some k_ ≠ (.slice Ao17 t543.length co17 : Value).ownBlock ∧ some k_ ≠ (.slice Ao17 t543.length co17 : Value).ownBlock) (.slice A44 y581.length c44) y581):=⟨h5_⟩
                     have n6_ : Aside0 (Kd.R k59 59 w52 w.heap.size (fun _=>True) (.slice Ao17 t543.length co17) t543):=⟨h6_⟩
                     have n7_ : Aside0 (Kd.R k59 59 w52 w.heap.size (fun _=>True) (.slice Ao17 t543.length co17) t543):=⟨h7_⟩
                     have n8_ : Aside0 (Kd.R (Kd.int .u8) 5 w52 w.heap.size (fun k_=>some k_ ≠ (v562 : Value).ownBlock ∧ some k_ ≠ (v565 : Value).ownBlock ∧ some k_ ≠ (v571 : Value).ownBlock) (.slice Ao23 t547.length co23) t547):=⟨h8_⟩
                     have n9_ : Aside0 (Below w.heap.size w w52):=⟨h9_⟩
                     clear HO_0
                     clear HO_7
                     clear HO_48
                     clear HB
                     clear h0_ h1_ h2_ h3_ h4_ h5_ h6_ h7_ h8_ h9_
                     have HO557:=n0_
                     have HO563:=n1_
                     have HO566:=n2_
                     have HO572:=n3_
                     have HO577:=n4_
                     have HO585:=n5_
                     have HO_0:=n6_
                     have HO_48:=n7_
                     have HO_7:=n8_
                     have HB:=n9_
                     clear n0_ n1_ n2_ n3_ n4_ n5_ n6_ n7_ n8_ n9_
                     have hHeld:=trivial
                     obtain ⟨Ao54,co54,eo54⟩:=Kd.R_slice HO566.out
                     (first|subst eo54|(injection eo54 with f1_ f2_ f3_;have f4_:=f1_.symm;have f5_:=f3_.symm;clear f1_ f2_ f3_;subst f4_;subst f5_))
                     refine norm_ (a':=?_) ?_ ?_
                     rotate_left
                     ·simp only [putAll,Act.put,List.setIfInBounds_toArray,List.set_cons_zero,List.set_cons_succ]
                      rfl
                     refine one_ (i:=8) (N:=some 77) #[true,true,true,true,true,true,true,true,true,true,true,true,true,false,true,true,true,true,false,false,false,true] rfl rfl (one_of HT_.out (by kernel_rfl)) (by decide) (fun K hK=>?_)
                     refine Kd.R_append_rows_step (Kd.int .u8) (w0:=w) w.heap.size (by rfl) (.tmp 74) (.tmp 76) 26 5 (.int .u8 0) 1 rfl Try.underlying26 info5 rfl (by decide) (by omega) v562 y561 y564 _ _ _ (fun k_=>some k_ ≠ (.slice Ao23 t547.length co23 : Value).ownBlock ∧ some k_ ≠ (.slice Ao54 y564.length co54 : Value).ownBlock ∧ some k_ ≠ (v571 : Value).ownBlock) (fun _=>False) rfl rfl ?aO ?aR (fun _ _ h=>h) (fun _ h=>h.elim) ?aF ?aB ?aS ?aL ?_
                     (case aR=>repeat (first|exact (Kd.R_reads' HO566.out).2.2|(with_reducible refine Kd.C_alloc ?_ _)|(with_reducible refine Kd.C_drewN ?_ _)|(with_reducible refine Kd.C_drew ?_)))
                     (case aB=>exact (by repeat (first|(with_reducible first|exact HB.out|apply below_alloc|apply pw_below_drewN|apply below_drew1)|exact HB.out)))
                     (case aF=>exact (fun k_ hk=>⟨Kd.fresh' (Kd.R_lt (by (with_reducible repeat (first|apply Kd.R_alloc|apply Kd.R_drewN|apply Kd.R_drew));exact HO_7.out)) k_ hk,Kd.fresh' (Kd.R_lt (by (with_reducible repeat (first|apply Kd.R_alloc|apply Kd.R_drewN|apply Kd.R_drew));exact HO566.out)) k_ hk,Kd.fresh' (Kd.R_lt (by (with_reducible repeat (first|apply Kd.R_alloc|apply Kd.R_drewN|apply Kd.R_drew));exact HO572.out)) k_ hk⟩))
                     (case aO=>exact (by (with_reducible repeat (first|apply Kd.R_alloc|apply Kd.R_drewN|apply Kd.R_drew));exact Kd.R_mono HO563.out (fun _ hk=>⟨hk.2.2,⟨hk.1,hk.2.1⟩⟩)))
                     (case aS=>exact (below_size (by repeat (first|(with_reducible first|exact HB.out|apply below_alloc|apply pw_below_drewN|apply below_drew1)|exact HB.out))))
                     (case aL=>have:=LMc33.out;omega)
                     intro v568 w53 ho hb hg hat
                     rw [← Ny567.out] at ho
                     have n0_:=Aside0.mk (Kd.R_over' (by (with_reducible repeat (first|apply Kd.R_alloc|apply Kd.R_drewN|apply Kd.R_drew));exact HO_0.out) (Kd.R_typed (by (with_reducible repeat (first|apply Kd.R_alloc|apply Kd.R_drewN|apply Kd.R_drew));exact HO563.out)) (by decide) hg)
                     have n1_:=Aside0.mk (Kd.R_after (ok:=(fun k_=>some k_ ≠ (.slice Ao54 y564.length co54 : Value).ownBlock ∧ some k_ ≠ (v571 : Value).ownBlock)) (by (with_reducible repeat (first|apply Kd.R_alloc|apply Kd.R_drewN|apply Kd.R_drew));exact Kd.R_mono HO_7.out (fun _ hk=>⟨⟨hk.2.1,hk.2.2⟩,hk.1⟩)) hg hat)
                     have n2_:=Aside0.mk (Kd.R_over' (by (with_reducible repeat (first|apply Kd.R_alloc|apply Kd.R_drewN|apply Kd.R_drew));exact HO_48.out) (Kd.R_typed (by (with_reducible repeat (first|apply Kd.R_alloc|apply Kd.R_drewN|apply Kd.R_drew));exact HO563.out)) (by decide) hg)
                     have n3_:=Aside0.mk (Kd.V_afterv (ok:=(fun k_=>some k_ ≠ (.slice Ao17 t543.length co17 : Value).ownBlock ∧ some k_ ≠ (.slice Ao17 t543.length co17 : Value).ownBlock ∧ some k_ ≠ (.slice Ao54 y564.length co54 : Value).ownBlock ∧ some k_ ≠ (v571 : Value).ownBlock)) (by (with_reducible repeat (first|apply Kd.V_alloc|apply Kd.V_drewN|apply Kd.V_drew));exact Kd.V_mono HO557.out (fun _ hk=>⟨⟨hk.2.2.2.1,⟨hk.2.2.2.2,⟨hk.2.1,hk.2.2.1⟩⟩⟩,hk.1⟩)) hg hat)
                     have n4_:=Aside0.mk (Kd.V_afterv (ok:=(fun k_=>some k_ ≠ (.slice Ao17 t543.length co17 : Value).ownBlock ∧ some k_ ≠ (.slice Ao17 t543.length co17 : Value).ownBlock ∧ some k_ ≠ (.slice Ao54 y564.length co54 : Value).ownBlock ∧ some k_ ≠ (v571 : Value).ownBlock)) (by (with_reducible repeat (first|apply Kd.V_alloc|apply Kd.V_drewN|apply Kd.V_drew));exact Kd.V_mono HO577.out (fun _ hk=>⟨⟨hk.2.2.2.1,⟨hk.2.2.2.2,⟨hk.2.1,hk.2.2.1⟩⟩⟩,hk.1⟩)) hg hat)
                     have n5_:=Aside0.mk (Kd.V_afterv (ok:=(fun k_=>some k_ ≠ (.slice Ao17 t543.length co17 : Value).ownBlock ∧ some k_ ≠ (.slice Ao17 t543.length co17 : Value).ownBlock ∧ some k_ ≠ (.slice Ao54 y564.length co54 : Value).ownBlock ∧ some k_ ≠ (v571 : Value).ownBlock)) (by (with_reducible repeat (first|apply Kd.V_alloc|apply Kd.V_drewN|apply Kd.V_drew));exact Kd.V_mono HO585.out (fun _ hk=>⟨⟨hk.2.2.2.1,⟨hk.2.2.2.2,⟨hk.2.1,hk.2.2.1⟩⟩⟩,hk.1⟩)) hg hat)
                     have n6_:=Aside0.mk (Kd.R_after (ok:=(fun k_=>some k_ ≠ (.slice Ao23 t547.length co23 : Value).ownBlock ∧ some k_ ≠ (v571 : Value).ownBlock)) (by (with_reducible repeat (first|apply Kd.R_alloc|apply Kd.R_drewN|apply Kd.R_drew));exact Kd.R_mono HO566.out (fun _ hk=>⟨⟨hk.2.2,hk.2.1⟩,hk.1⟩)) hg hat)
                     have n7_:=Aside0.mk (Kd.R_after (ok:=(fun k_=>some k_ ≠ (.slice Ao23 t547.length co23 : Value).ownBlock ∧ some k_ ≠ (.slice Ao54 y564.length co54 : Value).ownBlock)) (by (with_reducible repeat (first|apply Kd.R_alloc|apply Kd.R_drewN|apply Kd.R_drew));exact Kd.R_mono HO572.out (fun _ hk=>⟨⟨hk.2.2,hk.2.1⟩,hk.1⟩)) hg hat)
                     have n8_:=Aside0.mk (hb)
                     have n9_:=Aside0.mk (ho)
                     clear HO_0
                     clear HO_7
                     clear HO_48
                     clear HO557
                     clear HO577
                     clear HO585
                     clear HO566
                     clear HO572
                     clear HB
                     clear HO563
                     have HO_0:=n0_
                     have HO_7:=n1_
                     have HO_48:=n2_
                     have HO557:=n3_
                     have HO577:=n4_
                     have HO585:=n5_
                     have HO566:=n6_
                     have HO572:=n7_
                     have HB:=n8_
                     have HO569:=n9_
                     clear n0_ n1_ n2_ n3_ n4_ n5_ n6_ n7_ n8_ n9_
                     clear ho hb hg hat
                     refine hK.out _ _ trivial (fun hHeld=>?_)
                     clear hK K
                     refine norm_ (a':=?_) ?_ ?_
                     rotate_left
                     ·show Act.put _ (some 77) _ = _
                      simp only [Act.put,List.setIfInBounds_toArray,List.set_cons_zero,List.set_cons_succ,i64_w,i32_w]
                      rfl
                     exact norm_ (by first|(simp only [putAll,Act.put,List.setIfInBounds_toArray,List.set_cons_zero,List.set_cons_succ];done)|(simp only [putAll,Act.put,List.setIfInBounds_toArray,List.set_cons_zero,List.set_cons_succ];rfl)) (hJ3_5_7_8_9 (v559,v562,.slice Ao54 y564.length co54,v568,v571) _ ⟨(by (with_reducible repeat (first|apply Kd.V_alloc|apply Kd.V_drewN|apply Kd.V_drew));exact Kd.V_mono HO557.out (fun _ hk=>⟨hk.1.2.2.1,⟨hk.2,⟨hk.1.2.2.2,⟨hk.1.1,hk.1.2.1⟩⟩⟩⟩)),(by (with_reducible repeat (first|apply Kd.R_alloc|apply Kd.R_drewN|apply Kd.R_drew));exact Kd.R_mono HO566.out (fun _ hk=>⟨hk.2,⟨hk.1.2,hk.1.1⟩⟩)),(by (with_reducible repeat (first|apply Kd.R_alloc|apply Kd.R_drewN|apply Kd.R_drew));exact Kd.R_mono HO569.out (fun _ hk=>⟨hk.2.1,⟨hk.2.2,hk.1⟩⟩)),(by (with_reducible repeat (first|apply Kd.R_alloc|apply Kd.R_drewN|apply Kd.R_drew));exact Kd.R_mono HO572.out (fun _ hk=>⟨hk.1.2,⟨hk.2,hk.1.1⟩⟩)),(by (with_reducible repeat (first|apply Kd.V_alloc|apply Kd.V_drewN|apply Kd.V_drew));exact Kd.V_mono HO577.out (fun _ hk=>⟨hk.1.2.2.1,⟨hk.2,⟨hk.1.2.2.2,⟨hk.1.1,hk.1.2.1⟩⟩⟩⟩)),(by (with_reducible repeat (first|apply Kd.V_alloc|apply Kd.V_drewN|apply Kd.V_drew));exact Kd.V_mono HO585.out (fun _ hk=>⟨hk.1.2.2.1,⟨hk.2,⟨hk.1.2.2.2,⟨hk.1.1,hk.1.2.1⟩⟩⟩⟩)),(by (with_reducible repeat (first|apply Kd.R_alloc|apply Kd.R_drewN|apply Kd.R_drew));exact HO_0.out),(by (with_reducible repeat (first|apply Kd.R_alloc|apply Kd.R_drewN|apply Kd.R_drew));exact HO_48.out),(by (with_reducible repeat (first|apply Kd.R_alloc|apply Kd.R_drewN|apply Kd.R_drew));exact Kd.R_mono HO_7.out (fun _ hk=>⟨hk.1.1,⟨hk.2,hk.1.2⟩⟩)),(by repeat (first|(with_reducible first|exact HB.out|apply below_alloc|apply pw_below_drewN|apply below_drew1)|exact HB.out))⟩)
                   ·skip
                    rintro ⟨v559,v562,v565,v568⟩ w52 ⟨h0_,h1_,h2_,h3_,h4_,h5_,h6_,h7_,h8_⟩
                    have n0_ : Aside0 (Kd.V (Kd.int .u8) 5 w52 w.heap.size (fun k_=>some k_ ≠ (v565 : Value).ownBlock ∧ some k_ ≠ (v568 : Value).ownBlock ∧ some k_ ≠ (.slice Ao17 t543.length co17 : Value).ownBlock ∧ some k_ ≠ (.slice Ao17 t543.length co17 : Value).ownBlock) (.slice Ao23 y553.length co23) y553):=⟨h0_⟩
                    have n1_ : Aside0 (Kd.R (Kd.int .u8) 5 w52 w.heap.size (fun k_=>some k_ ≠ (v568 : Value).ownBlock ∧ some k_ ≠ (.slice Ao23 t547.length co23 : Value).ownBlock) v565 y564):=⟨h1_⟩
                    have n2_ : Aside0 (Kd.R (Kd.int .u8) 5 w52 w.heap.size (fun k_=>some k_ ≠ (v565 : Value).ownBlock ∧ some k_ ≠ (.slice Ao23 t547.length co23 : Value).ownBlock) v568 y567):=⟨h2_⟩
                    have n3_ : Aside0 (Kd.V (Kd.int .u8) 5 w52 w.heap.size (fun k_=>some k_ ≠ (v565 : Value).ownBlock ∧ some k_ ≠ (v568 : Value).ownBlock ∧ some k_ ≠ (.slice Ao17 t543.length co17 : Value).ownBlock ∧ some k_ ≠ (.slice Ao17 t543.length co17 : Value).ownBlock) (.slice Ao23 y573.length co23) y573):=⟨h3_⟩
                    have n4_ : Aside0 (Kd.V (Kd.int .u8) 5 w52 w.heap.size (fun k_=>some k_ ≠ (v565 : Value).ownBlock ∧ some k_ ≠ (v568 : Value).ownBlock ∧ some k_ ≠ (.slice Ao17 t543.length co17 : Value).ownBlock ∧ some k_ ≠ (.slice Ao17 t543.length co17 : Value).ownBlock) (.slice A44 y581.length c44) y581):=⟨h4_⟩
                    have n5_ : Aside0 (Kd.R k59 59 w52 w.heap.size (fun _=>True) (.slice Ao17 t543.length co17) t543):=⟨h5_⟩
                    have n6_ : Aside0 (Kd.R k59 59 w52 w.heap.size (fun _=>True) (.slice Ao17 t543.length co17) t543):=⟨h6_⟩
                    have n7_ : Aside0 (Kd.R (Kd.int .u8) 5 w52 w.heap.size (fun k_=>some k_ ≠ (v565 : Value).ownBlock ∧ some k_ ≠ (v568 : Value).ownBlock) (.slice Ao23 t547.length co23) t547):=⟨h7_⟩
                    have n8_ : Aside0 (Below w.heap.size w w52):=⟨h8_⟩
                    clear HO_0
                    clear HO_7
                    clear HO_48
                    clear HB
                    clear h0_ h1_ h2_ h3_ h4_ h5_ h6_ h7_ h8_
                    have HO557:=n0_
                    have HO566:=n1_
                    have HO569:=n2_
                    have HO577:=n3_
                    have HO585:=n4_
                    have HO_0:=n5_
                    have HO_48:=n6_
                    have HO_7:=n7_
                    have HB:=n8_
                    clear n0_ n1_ n2_ n3_ n4_ n5_ n6_ n7_ n8_
                    have hHeld:=trivial
                    refine norm_ (a':=?_) ?_ ?_
                    rotate_left
                    ·simp only [putAll,Act.put,List.setIfInBounds_toArray,List.set_cons_zero,List.set_cons_succ]
                     rfl
                    refine one_ (i:=9) (N:=some 78) #[true,true,true,true,true,true,true,true,true,true,true,true,true,false,true,true,true,true,false,false,false,true] rfl rfl (one_of HT_.out (by kernel_rfl)) (by decide) (fun K hK=>?_)
                    refine Kd.R_lit_step (Kd.int .u8) _ 5 ?hg (N:=78) ?hd (xs:=([] : List Int)) (inner:=[]) (ok:=fun _=>True) (okp:=fun _=>True) ?hr ?hp (fun _ hk=>hk) trivial (Below.refl _ _) (Nat.le_refl _) (by simp) ?_;(case hd=>rfl);(case hg=>rfl);(case hr=>first|(go_simp;done)|(go_simp;rfl));(case hp=>exact (Reps.none _ _))
                    intro v571 w53 ho54 hb hg_ hnew_
                    clear hg_ hnew_
                    (first|rw [← Ny570.out] at ho54|(simp only [Int.reduceToNat] at ho54;rw [← Ny570.out] at ho54))
                    have n0_:=Aside0.mk (Kd.R_below (by (with_reducible repeat (first|apply Kd.R_alloc|apply Kd.R_drewN|apply Kd.R_drew));exact HO_0.out) hb)
                    have n1_:=Aside0.mk (Kd.R_elder' (by (with_reducible repeat (first|apply Kd.R_alloc|apply Kd.R_drewN|apply Kd.R_drew));exact HO_7.out) (Kd.R_base ho54) hb)
                    have n2_:=Aside0.mk (Kd.R_below (by (with_reducible repeat (first|apply Kd.R_alloc|apply Kd.R_drewN|apply Kd.R_drew));exact HO_48.out) hb)
                    have n3_:=Aside0.mk (Kd.V_elder' (by (with_reducible repeat (first|apply Kd.V_alloc|apply Kd.V_drewN|apply Kd.V_drew));exact HO557.out) (Kd.R_base ho54) hb)
                    have n4_:=Aside0.mk (Kd.V_elder' (by (with_reducible repeat (first|apply Kd.V_alloc|apply Kd.V_drewN|apply Kd.V_drew));exact HO577.out) (Kd.R_base ho54) hb)
                    have n5_:=Aside0.mk (Kd.V_elder' (by (with_reducible repeat (first|apply Kd.V_alloc|apply Kd.V_drewN|apply Kd.V_drew));exact HO585.out) (Kd.R_base ho54) hb)
                    have n6_:=Aside0.mk (Kd.R_elder' (by (with_reducible repeat (first|apply Kd.R_alloc|apply Kd.R_drewN|apply Kd.R_drew));exact HO566.out) (Kd.R_base ho54) hb)
                    have n7_:=Aside0.mk (Kd.R_elder' (by (with_reducible repeat (first|apply Kd.R_alloc|apply Kd.R_drewN|apply Kd.R_drew));exact HO569.out) (Kd.R_base ho54) hb)
                    have n8_:=Aside0.mk (Kd.R_lower (Kd.R_new' (Kd.R_new' (Kd.R_new' ho54 (Kd.R_lt (by (with_reducible repeat (first|apply Kd.R_alloc|apply Kd.R_drewN|apply Kd.R_drew));exact HO_7.out))) (Kd.R_lt (by (with_reducible repeat (first|apply Kd.R_alloc|apply Kd.R_drewN|apply Kd.R_drew));exact HO566.out))) (Kd.R_lt (by (with_reducible repeat (first|apply Kd.R_alloc|apply Kd.R_drewN|apply Kd.R_drew));exact HO569.out))) (below_size (by repeat (first|(with_reducible first|exact HB.out|apply below_alloc|apply pw_below_drewN|apply below_drew1)|exact HB.out))))
                    have n9_:=Aside0.mk (below_step (by repeat (first|(with_reducible first|exact HB.out|apply below_alloc|apply pw_below_drewN|apply below_drew1)|exact HB.out)) hb)
                    clear HO_0
                    clear HO_7
                    clear HO_48
                    clear HO557
                    clear HO577
                    clear HO585
                    clear HO566
                    clear HO569
                    clear HB
                    have HO_0:=n0_
                    have HO_7:=n1_
                    have HO_48:=n2_
                    have HO557:=n3_
                    have HO577:=n4_
                    have HO585:=n5_
                    have HO566:=n6_
                    have HO569:=n7_
                    have HO572:=n8_
                    have HB:=n9_
                    clear n0_ n1_ n2_ n3_ n4_ n5_ n6_ n7_ n8_ n9_
                    clear hb ho54
                    refine hK.out _ _ trivial (fun hHeld=>?_)
                    clear hK K
                    refine norm_ (a':=?_) ?_ ?_
                    rotate_left
                    ·show Act.put _ (some 78) _ = _
                     simp only [Act.put,List.setIfInBounds_toArray,List.set_cons_zero,List.set_cons_succ,i64_w,i32_w]
                     rfl
                    exact norm_ (by first|(simp only [putAll,Act.put,List.setIfInBounds_toArray,List.set_cons_zero,List.set_cons_succ];done)|(simp only [putAll,Act.put,List.setIfInBounds_toArray,List.set_cons_zero,List.set_cons_succ];rfl)) (hJ3_5_7_8_9 (v559,v562,v565,v568,v571) _ ⟨(by (with_reducible repeat (first|apply Kd.V_alloc|apply Kd.V_drewN|apply Kd.V_drew));exact Kd.V_mono HO557.out (fun _ hk=>⟨hk.1.1,⟨hk.1.2.1,⟨hk.2,⟨hk.1.2.2.1,hk.1.2.2.2⟩⟩⟩⟩)),(by (with_reducible repeat (first|apply Kd.R_alloc|apply Kd.R_drewN|apply Kd.R_drew));exact Kd.R_mono HO566.out (fun _ hk=>⟨hk.1.1,⟨hk.2,hk.1.2⟩⟩)),(by (with_reducible repeat (first|apply Kd.R_alloc|apply Kd.R_drewN|apply Kd.R_drew));exact Kd.R_mono HO569.out (fun _ hk=>⟨hk.1.1,⟨hk.2,hk.1.2⟩⟩)),(by (with_reducible repeat (first|apply Kd.R_alloc|apply Kd.R_drewN|apply Kd.R_drew));exact Kd.R_mono HO572.out (fun _ hk=>⟨hk.1.2,⟨hk.2,hk.1.1.2⟩⟩)),(by (with_reducible repeat (first|apply Kd.V_alloc|apply Kd.V_drewN|apply Kd.V_drew));exact Kd.V_mono HO577.out (fun _ hk=>⟨hk.1.1,⟨hk.1.2.1,⟨hk.2,⟨hk.1.2.2.1,hk.1.2.2.2⟩⟩⟩⟩)),(by (with_reducible repeat (first|apply Kd.V_alloc|apply Kd.V_drewN|apply Kd.V_drew));exact Kd.V_mono HO585.out (fun _ hk=>⟨hk.1.1,⟨hk.1.2.1,⟨hk.2,⟨hk.1.2.2.1,hk.1.2.2.2⟩⟩⟩⟩)),(by (with_reducible repeat (first|apply Kd.R_alloc|apply Kd.R_drewN|apply Kd.R_drew));exact HO_0.out),(by (with_reducible repeat (first|apply Kd.R_alloc|apply Kd.R_drewN|apply Kd.R_drew));exact HO_48.out),(by (with_reducible repeat (first|apply Kd.R_alloc|apply Kd.R_drewN|apply Kd.R_drew));exact Kd.R_mono HO_7.out (fun _ hk=>⟨hk.1.1,⟨hk.1.2,hk.2⟩⟩)),(by repeat (first|(with_reducible first|exact HB.out|apply below_alloc|apply pw_below_drewN|apply below_drew1)|exact HB.out))⟩)
                  rintro ⟨v559,v562,v565,v568,v571⟩ w54 ⟨h0_,h1_,h2_,h3_,h4_,h5_,h6_,h7_,h8_,h9_⟩
                  have n0_ : Aside0 (Kd.V (Kd.int .u8) 5 w54 w.heap.size (fun k_=>some k_ ≠ (v565 : Value).ownBlock ∧ some k_ ≠ (v568 : Value).ownBlock ∧ some k_ ≠ (v571 : Value).ownBlock ∧ some k_ ≠ (.slice Ao17 t543.length co17 : Value).ownBlock ∧ some k_ ≠ (.slice Ao17 t543.length co17 : Value).ownBlock) (.slice Ao23 y553.length co23) y553):=⟨h0_⟩
                  have n1_ : Aside0 (Kd.R (Kd.int .u8) 5 w54 w.heap.size (fun k_=>some k_ ≠ (v568 : Value).ownBlock ∧ some k_ ≠ (v571 : Value).ownBlock ∧ some k_ ≠ (.slice Ao23 t547.length co23 : Value).ownBlock) v565 y564):=⟨h1_⟩
                  have n2_ : Aside0 (Kd.R (Kd.int .u8) 5 w54 w.heap.size (fun k_=>some k_ ≠ (v565 : Value).ownBlock ∧ some k_ ≠ (v571 : Value).ownBlock ∧ some k_ ≠ (.slice Ao23 t547.length co23 : Value).ownBlock) v568 y567):=⟨h2_⟩
                  have n3_ : Aside0 (Kd.R (Kd.int .u8) 5 w54 w.heap.size (fun k_=>some k_ ≠ (v565 : Value).ownBlock ∧ some k_ ≠ (v568 : Value).ownBlock ∧ some k_ ≠ (.slice Ao23 t547.length co23 : Value).ownBlock) v571 y570):=⟨h3_⟩
                  have n4_ : Aside0 (Kd.V (Kd.int .u8) 5 w54 w.heap.size (fun k_=>some k_ ≠ (v565 : Value).ownBlock ∧ some k_ ≠ (v568 : Value).ownBlock ∧ some k_ ≠ (v571 : Value).ownBlock ∧ some k_ ≠ (.slice Ao17 t543.length co17 : Value).ownBlock ∧ some k_ ≠ (.slice Ao17 t543.length co17 : Value).ownBlock) (.slice Ao23 y573.length co23) y573):=⟨h4_⟩
                  have n5_ : Aside0 (Kd.V (Kd.int .u8) 5 w54 w.heap.size (fun k_=>some k_ ≠ (v565 : Value).ownBlock ∧ some k_ ≠ (v568 : Value).ownBlock ∧ some k_ ≠ (v571 : Value).ownBlock ∧ some k_ ≠ (.slice Ao17 t543.length co17 : Value).ownBlock ∧ some k_ ≠ (.slice Ao17 t543.length co17 : Value).ownBlock) (.slice A44 y581.length c44) y581):=⟨h5_⟩
                  have n6_ : Aside0 (Kd.R k59 59 w54 w.heap.size (fun _=>True) (.slice Ao17 t543.length co17) t543):=⟨h6_⟩
                  have n7_ : Aside0 (Kd.R k59 59 w54 w.heap.size (fun _=>True) (.slice Ao17 t543.length co17) t543):=⟨h7_⟩
                  have n8_ : Aside0 (Kd.R (Kd.int .u8) 5 w54 w.heap.size (fun k_=>some k_ ≠ (v565 : Value).ownBlock ∧ some k_ ≠ (v568 : Value).ownBlock ∧ some k_ ≠ (v571 : Value).ownBlock) (.slice Ao23 t547.length co23) t547):=⟨h8_⟩
                  have n9_ : Aside0 (Below w.heap.size w w54):=⟨h9_⟩
                  clear HO_0
                  clear HO_7
                  clear HO_48
                  clear HB
                  clear h0_ h1_ h2_ h3_ h4_ h5_ h6_ h7_ h8_ h9_
                  have HO557:=n0_
                  have HO566:=n1_
                  have HO569:=n2_
                  have HO572:=n3_
                  have HO577:=n4_
                  have HO585:=n5_
                  have HO_0:=n6_
                  have HO_48:=n7_
                  have HO_7:=n8_
                  have HB:=n9_
                  clear n0_ n1_ n2_ n3_ n4_ n5_ n6_ n7_ n8_ n9_
                  have hHeld:=trivial
                  refine norm_ (a':=?_) ?_ ?_
                  rotate_left
                  ·simp only [putAll,Act.put,List.setIfInBounds_toArray,List.set_cons_zero,List.set_cons_succ]
                   rfl
                  refine one_ (i:=13) (N:=some 82) #[true,true,true,true,true,true,true,true,true,true,true,true,true,true,true,true,true,true,false,false,false,true] rfl rfl (one_of HT_.out (by kernel_rfl)) (by decide) (fun K hK=>?_)
                  refine Kd.R_append_rows_step (Kd.int .u8) (w0:=w) w.heap.size (by rfl) (.tmp 78) (.tmp 81) 26 5 (.int .u8 0) 1 rfl Try.underlying26 info5 rfl (by decide) (by omega) v571 y570 y573 _ _ _ (fun k_=>some k_ ≠ (.slice Ao23 t547.length co23 : Value).ownBlock ∧ some k_ ≠ (v565 : Value).ownBlock ∧ some k_ ≠ (v568 : Value).ownBlock) (fun _=>False) rfl rfl ?aO ?aR (fun _ _ h=>h) (fun _ h=>h.elim) ?aF ?aB ?aS ?aL ?_
                  (case aR=>(try rw [show y553 = y573 from Ny553.out.trans Ny573.out.symm]);repeat (first|exact (Kd.V_reads' HO577.out).2.2|(with_reducible refine Kd.C_alloc ?_ _)|(with_reducible refine Kd.C_drewN ?_ _)|(with_reducible refine Kd.C_drew ?_)))
                  (case aB=>exact (by repeat (first|(with_reducible first|exact HB.out|apply below_alloc|apply pw_below_drewN|apply below_drew1)|exact HB.out)))
                  (case aF=>exact (fun k_ hk=>⟨Kd.fresh' (Kd.R_lt (by (with_reducible repeat (first|apply Kd.R_alloc|apply Kd.R_drewN|apply Kd.R_drew));exact HO_7.out)) k_ hk,Kd.fresh' (Kd.R_lt (by (with_reducible repeat (first|apply Kd.R_alloc|apply Kd.R_drewN|apply Kd.R_drew));exact HO566.out)) k_ hk,Kd.fresh' (Kd.R_lt (by (with_reducible repeat (first|apply Kd.R_alloc|apply Kd.R_drewN|apply Kd.R_drew));exact HO569.out)) k_ hk⟩))
                  (case aO=>exact (by (with_reducible repeat (first|apply Kd.R_alloc|apply Kd.R_drewN|apply Kd.R_drew));exact Kd.R_mono HO572.out (fun _ hk=>⟨hk.2.2,⟨hk.1,hk.2.1⟩⟩)))
                  (case aS=>exact (below_size (by repeat (first|(with_reducible first|exact HB.out|apply below_alloc|apply pw_below_drewN|apply below_drew1)|exact HB.out))))
                  (case aL=>have hyy:=congrArg List.length (show y573 = y553 from Ny573.out.trans Ny553.out.symm);have:=LMc36.out;omega)
                  intro v579 w55 ho hb hg hat
                  rw [← Ny578.out] at ho
                  have n0_:=Aside0.mk (Kd.R_over' (by (with_reducible repeat (first|apply Kd.R_alloc|apply Kd.R_drewN|apply Kd.R_drew));exact HO_0.out) (Kd.R_typed (by (with_reducible repeat (first|apply Kd.R_alloc|apply Kd.R_drewN|apply Kd.R_drew));exact HO572.out)) (by decide) hg)
                  have n1_:=Aside0.mk (Kd.R_after (ok:=(fun k_=>some k_ ≠ (v565 : Value).ownBlock ∧ some k_ ≠ (v568 : Value).ownBlock)) (by (with_reducible repeat (first|apply Kd.R_alloc|apply Kd.R_drewN|apply Kd.R_drew));exact Kd.R_mono HO_7.out (fun _ hk=>⟨⟨hk.1,hk.2.1⟩,hk.2.2⟩)) hg hat)
                  have n2_:=Aside0.mk (Kd.R_over' (by (with_reducible repeat (first|apply Kd.R_alloc|apply Kd.R_drewN|apply Kd.R_drew));exact HO_48.out) (Kd.R_typed (by (with_reducible repeat (first|apply Kd.R_alloc|apply Kd.R_drewN|apply Kd.R_drew));exact HO572.out)) (by decide) hg)
                  have n3_:=Aside0.mk (Kd.V_afterv (ok:=(fun k_=>some k_ ≠ (.slice Ao17 t543.length co17 : Value).ownBlock ∧ some k_ ≠ (.slice Ao17 t543.length co17 : Value).ownBlock ∧ some k_ ≠ (v565 : Value).ownBlock ∧ some k_ ≠ (v568 : Value).ownBlock)) (by (with_reducible repeat (first|apply Kd.V_alloc|apply Kd.V_drewN|apply Kd.V_drew));exact Kd.V_mono HO557.out (fun _ hk=>⟨⟨hk.2.2.2.1,⟨hk.2.2.2.2,⟨hk.1,hk.2.1⟩⟩⟩,hk.2.2.1⟩)) hg hat)
                  have n4_:=Aside0.mk (Kd.V_afterv (ok:=(fun k_=>some k_ ≠ (.slice Ao17 t543.length co17 : Value).ownBlock ∧ some k_ ≠ (.slice Ao17 t543.length co17 : Value).ownBlock ∧ some k_ ≠ (v565 : Value).ownBlock ∧ some k_ ≠ (v568 : Value).ownBlock)) (by (with_reducible repeat (first|apply Kd.V_alloc|apply Kd.V_drewN|apply Kd.V_drew));exact Kd.V_mono HO577.out (fun _ hk=>⟨⟨hk.2.2.2.1,⟨hk.2.2.2.2,⟨hk.1,hk.2.1⟩⟩⟩,hk.2.2.1⟩)) hg hat)
                  have n5_:=Aside0.mk (Kd.V_afterv (ok:=(fun k_=>some k_ ≠ (.slice Ao17 t543.length co17 : Value).ownBlock ∧ some k_ ≠ (.slice Ao17 t543.length co17 : Value).ownBlock ∧ some k_ ≠ (v565 : Value).ownBlock ∧ some k_ ≠ (v568 : Value).ownBlock)) (by (with_reducible repeat (first|apply Kd.V_alloc|apply Kd.V_drewN|apply Kd.V_drew));exact Kd.V_mono HO585.out (fun _ hk=>⟨⟨hk.2.2.2.1,⟨hk.2.2.2.2,⟨hk.1,hk.2.1⟩⟩⟩,hk.2.2.1⟩)) hg hat)
                  have n6_:=Aside0.mk (Kd.R_after (ok:=(fun k_=>some k_ ≠ (.slice Ao23 t547.length co23 : Value).ownBlock ∧ some k_ ≠ (v568 : Value).ownBlock)) (by (with_reducible repeat (first|apply Kd.R_alloc|apply Kd.R_drewN|apply Kd.R_drew));exact Kd.R_mono HO566.out (fun _ hk=>⟨⟨hk.2.2,hk.1⟩,hk.2.1⟩)) hg hat)
                  have n7_:=Aside0.mk (Kd.R_after (ok:=(fun k_=>some k_ ≠ (.slice Ao23 t547.length co23 : Value).ownBlock ∧ some k_ ≠ (v565 : Value).ownBlock)) (by (with_reducible repeat (first|apply Kd.R_alloc|apply Kd.R_drewN|apply Kd.R_drew));exact Kd.R_mono HO569.out (fun _ hk=>⟨⟨hk.2.2,hk.1⟩,hk.2.1⟩)) hg hat)
                  have n8_:=Aside0.mk (hb)
                  have n9_:=Aside0.mk (ho)
                  clear HO_0
                  clear HO_7
                  clear HO_48
                  clear HO557
                  clear HO577
                  clear HO585
                  clear HO566
                  clear HO569
                  clear HB
                  clear HO572
                  have HO_0:=n0_
                  have HO_7:=n1_
                  have HO_48:=n2_
                  have HO557:=n3_
                  have HO577:=n4_
                  have HO585:=n5_
                  have HO566:=n6_
                  have HO569:=n7_
                  have HB:=n8_
                  have HO580:=n9_
                  clear n0_ n1_ n2_ n3_ n4_ n5_ n6_ n7_ n8_ n9_
                  clear ho hb hg hat
                  refine hK.out _ _ trivial (fun hHeld=>?_)
                  clear hK K
                  refine norm_ (a':=?_) ?_ ?_
                  rotate_left
                  ·show Act.put _ (some 82) _ = _
                   simp only [Act.put,List.setIfInBounds_toArray,List.set_cons_zero,List.set_cons_succ,i64_w,i32_w]
                   rfl
                  refine one_ (i:=18) (N:=some 87) #[true,true,true,true,true,true,true,true,true,true,true,true,true,true,true,true,true,true,true,false,false,true] rfl rfl (one_of HT_.out (by kernel_rfl)) (by decide) (fun K hK=>?_)
                  refine Kd.R_append_rows_step (Kd.int .u8) (w0:=w) w.heap.size (by rfl) (.tmp 82) (.tmp 86) 26 5 (.int .u8 0) 1 rfl Try.underlying26 info5 rfl (by decide) (by omega) v579 y578 y581 _ _ _ (fun k_=>some k_ ≠ (.slice Ao23 t547.length co23 : Value).ownBlock ∧ some k_ ≠ (v565 : Value).ownBlock ∧ some k_ ≠ (v568 : Value).ownBlock) (fun _=>False) rfl rfl ?aO ?aR (fun _ _ h=>h) (fun _ h=>h.elim) ?aF ?aB ?aS ?aL ?_
                  (case aR=>repeat (first|exact (Kd.V_reads' HO585.out).2.2|(with_reducible refine Kd.C_alloc ?_ _)|(with_reducible refine Kd.C_drewN ?_ _)|(with_reducible refine Kd.C_drew ?_)))
                  (case aB=>exact (by repeat (first|(with_reducible first|exact HB.out|apply below_alloc|apply pw_below_drewN|apply below_drew1)|exact HB.out)))
                  (case aF=>exact (fun k_ hk=>⟨Kd.fresh' (Kd.R_lt (by (with_reducible repeat (first|apply Kd.R_alloc|apply Kd.R_drewN|apply Kd.R_drew));exact HO_7.out)) k_ hk,Kd.fresh' (Kd.R_lt (by (with_reducible repeat (first|apply Kd.R_alloc|apply Kd.R_drewN|apply Kd.R_drew));exact HO566.out)) k_ hk,Kd.fresh' (Kd.R_lt (by (with_reducible repeat (first|apply Kd.R_alloc|apply Kd.R_drewN|apply Kd.R_drew));exact HO569.out)) k_ hk⟩))
                  (case aO=>exact (by (with_reducible repeat (first|apply Kd.R_alloc|apply Kd.R_drewN|apply Kd.R_drew));exact HO580.out))
                  (case aS=>exact (below_size (by repeat (first|(with_reducible first|exact HB.out|apply below_alloc|apply pw_below_drewN|apply below_drew1)|exact HB.out))))
                  (case aL=>have:=LMc40.out;omega)
                  intro v587 w56 ho hb hg hat
                  rw [← Ny586.out] at ho
                  have n0_:=Aside0.mk (Kd.R_over' (by (with_reducible repeat (first|apply Kd.R_alloc|apply Kd.R_drewN|apply Kd.R_drew));exact HO_0.out) (Kd.R_typed (by (with_reducible repeat (first|apply Kd.R_alloc|apply Kd.R_drewN|apply Kd.R_drew));exact HO580.out)) (by decide) hg)
                  have n1_:=Aside0.mk (Kd.R_after (ok:=(fun k_=>some k_ ≠ (v565 : Value).ownBlock ∧ some k_ ≠ (v568 : Value).ownBlock)) (by (with_reducible repeat (first|apply Kd.R_alloc|apply Kd.R_drewN|apply Kd.R_drew));exact HO_7.out) hg hat)
                  have n2_:=Aside0.mk (Kd.R_over' (by (with_reducible repeat (first|apply Kd.R_alloc|apply Kd.R_drewN|apply Kd.R_drew));exact HO_48.out) (Kd.R_typed (by (with_reducible repeat (first|apply Kd.R_alloc|apply Kd.R_drewN|apply Kd.R_drew));exact HO580.out)) (by decide) hg)
                  have n3_:=Aside0.mk (Kd.V_afterv (ok:=(fun k_=>some k_ ≠ (.slice Ao17 t543.length co17 : Value).ownBlock ∧ some k_ ≠ (.slice Ao17 t543.length co17 : Value).ownBlock ∧ some k_ ≠ (v565 : Value).ownBlock ∧ some k_ ≠ (v568 : Value).ownBlock)) (by (with_reducible repeat (first|apply Kd.V_alloc|apply Kd.V_drewN|apply Kd.V_drew));exact HO557.out) hg hat)
                  have n4_:=Aside0.mk (Kd.V_afterv (ok:=(fun k_=>some k_ ≠ (.slice Ao17 t543.length co17 : Value).ownBlock ∧ some k_ ≠ (.slice Ao17 t543.length co17 : Value).ownBlock ∧ some k_ ≠ (v565 : Value).ownBlock ∧ some k_ ≠ (v568 : Value).ownBlock)) (by (with_reducible repeat (first|apply Kd.V_alloc|apply Kd.V_drewN|apply Kd.V_drew));exact HO577.out) hg hat)
                  have n5_:=Aside0.mk (Kd.V_afterv (ok:=(fun k_=>some k_ ≠ (.slice Ao17 t543.length co17 : Value).ownBlock ∧ some k_ ≠ (.slice Ao17 t543.length co17 : Value).ownBlock ∧ some k_ ≠ (v565 : Value).ownBlock ∧ some k_ ≠ (v568 : Value).ownBlock)) (by (with_reducible repeat (first|apply Kd.V_alloc|apply Kd.V_drewN|apply Kd.V_drew));exact HO585.out) hg hat)
                  have n6_:=Aside0.mk (Kd.R_after (ok:=(fun k_=>some k_ ≠ (.slice Ao23 t547.length co23 : Value).ownBlock ∧ some k_ ≠ (v568 : Value).ownBlock)) (by (with_reducible repeat (first|apply Kd.R_alloc|apply Kd.R_drewN|apply Kd.R_drew));exact HO566.out) hg hat)
                  have n7_:=Aside0.mk (Kd.R_after (ok:=(fun k_=>some k_ ≠ (.slice Ao23 t547.length co23 : Value).ownBlock ∧ some k_ ≠ (v565 : Value).ownBlock)) (by (with_reducible repeat (first|apply Kd.R_alloc|apply Kd.R_drewN|apply Kd.R_drew));exact HO569.out) hg hat)
                  have n8_:=Aside0.mk (hb)
                  have n9_:=Aside0.mk (ho)
                  clear HO_0
                  clear HO_7
                  clear HO_48
                  clear HO557
                  clear HO577
                  clear HO585
                  clear HO566
                  clear HO569
                  clear HB
                  clear HO580
                  have HO_0:=n0_
                  have HO_7:=n1_
                  have HO_48:=n2_
                  have HO557:=n3_
                  have HO577:=n4_
                  have HO585:=n5_
                  have HO566:=n6_
                  have HO569:=n7_
                  have HB:=n8_
                  have HO588:=n9_
                  clear n0_ n1_ n2_ n3_ n4_ n5_ n6_ n7_ n8_ n9_
                  clear ho hb hg hat
                  obtain ⟨Ao57,co57,eo57⟩:=Kd.R_slice HO569.out
                  (first|subst eo57|(injection eo57 with f1_ f2_ f3_;have f4_:=f1_.symm;have f5_:=f3_.symm;clear f1_ f2_ f3_;subst f4_;subst f5_))
                  obtain ⟨Ao58,co58,eo58⟩:=Kd.R_slice HO588.out
                  (first|subst eo58|(injection eo58 with f1_ f2_ f3_;have f4_:=f1_.symm;have f5_:=f3_.symm;clear f1_ f2_ f3_;subst f4_;subst f5_))
                  refine hK.out _ _ trivial (fun hHeld=>?_)
                  clear hK K
                  refine norm_ (a':=?_) ?_ ?_
                  rotate_left
                  ·show Act.put _ (some 87) _ = _
                   simp only [Act.put,List.setIfInBounds_toArray,List.set_cons_zero,List.set_cons_succ,i64_w,i32_w]
                   rfl
                  refine one_ (i:=19) (N:=some 88) #[true,true,true,true,true,true,true,true,true,true,true,true,true,true,true,true,true,true,true,true,false,true] rfl rfl (one_of HT_.out (by kernel_rfl)) (by decide) (fun K hK=>?_)
                  refine Kd.N_lit_step (Kd.slice 5 (Kd.int .u8)) _ 26 ?hg (N':=88) ?hd (xs:=([y553,y567,y586] : List (List Int))) (inner:=[.slice Ao23 y553.length co23,.slice Ao57 y567.length co57,.slice Ao58 y586.length co58]) (ok:=(fun k_=>some k_ ≠ (.slice Ao17 t543.length co17 : Value).ownBlock ∧ some k_ ≠ (.slice Ao17 t543.length co17 : Value).ownBlock ∧ some k_ ≠ (v565 : Value).ownBlock)) (okp:=(fun k_=>some k_ ≠ (.slice Ao17 t543.length co17 : Value).ownBlock ∧ some k_ ≠ (.slice Ao17 t543.length co17 : Value).ownBlock ∧ some k_ ≠ (v565 : Value).ownBlock)) ?hr ?hp (fun _ hk=>hk) ((show ∀ k_,w56.heap.size ≤ k_ → (fun k_=>some k_ ≠ (.slice Ao17 t543.length co17 : Value).ownBlock ∧ some k_ ≠ (.slice Ao17 t543.length co17 : Value).ownBlock ∧ some k_ ≠ (v565 : Value).ownBlock) k_ from fun k_ hk=>⟨Kd.fresh' (Kd.R_lt (by (with_reducible repeat (first|apply Kd.R_alloc|apply Kd.R_drewN|apply Kd.R_drew));exact HO_0.out)) k_ hk,Kd.fresh' (Kd.R_lt (by (with_reducible repeat (first|apply Kd.R_alloc|apply Kd.R_drewN|apply Kd.R_drew));exact HO_48.out)) k_ hk,Kd.fresh' (Kd.R_lt (by (with_reducible repeat (first|apply Kd.R_alloc|apply Kd.R_drewN|apply Kd.R_drew));exact HO566.out)) k_ hk⟩) _ (Nat.le_refl _)) (Below.refl _ _) (Nat.le_refl _) (by simp) ?_;(case hd=>rfl);(case hg=>rfl);(case hr=>first|(go_simp;done)|(go_simp;rfl));(case hp=>exact (Reps.one (show Kd.FK (Kd.slice 5 (Kd.int .u8)) _ _ y553 [.slice Ao23 y553.length co23] from (Kd.FK_slice_mk (Kd.V_reads' (Kd.V_mono (ok':=(fun k_=>some k_ ≠ (.slice Ao17 t543.length co17 : Value).ownBlock ∧ some k_ ≠ (.slice Ao17 t543.length co17 : Value).ownBlock ∧ some k_ ≠ (v565 : Value).ownBlock)) (HO557.out) (fun k_ hk=>⟨hk.1.1,⟨hk.1.2.1,hk.1.2.2.1⟩⟩))).2.1 (Kd.V_F (Kd.V_mono (ok':=(fun k_=>some k_ ≠ (.slice Ao17 t543.length co17 : Value).ownBlock ∧ some k_ ≠ (.slice Ao17 t543.length co17 : Value).ownBlock ∧ some k_ ≠ (v565 : Value).ownBlock)) (HO557.out) (fun k_ hk=>⟨hk.1.1,⟨hk.1.2.1,hk.1.2.2.1⟩⟩))))) (Reps.one (show Kd.FK (Kd.slice 5 (Kd.int .u8)) _ _ y567 [.slice Ao57 y567.length co57] from (Kd.FK_slice_mk (Kd.R_reads' (Kd.R_mono (ok':=(fun k_=>some k_ ≠ (.slice Ao17 t543.length co17 : Value).ownBlock ∧ some k_ ≠ (.slice Ao17 t543.length co17 : Value).ownBlock ∧ some k_ ≠ (v565 : Value).ownBlock)) (Kd.R_apart' (Kd.R_apart' (HO569.out) (Kd.R_typed HO_0.out) (by decide)) (Kd.R_typed HO_48.out) (by decide)) (fun k_ hk=>⟨hk.1.2,⟨hk.2,hk.1.1.1.2⟩⟩))).2.1 (Kd.R_F (Kd.R_mono (ok':=(fun k_=>some k_ ≠ (.slice Ao17 t543.length co17 : Value).ownBlock ∧ some k_ ≠ (.slice Ao17 t543.length co17 : Value).ownBlock ∧ some k_ ≠ (v565 : Value).ownBlock)) (Kd.R_apart' (Kd.R_apart' (HO569.out) (Kd.R_typed HO_0.out) (by decide)) (Kd.R_typed HO_48.out) (by decide)) (fun k_ hk=>⟨hk.1.2,⟨hk.2,hk.1.1.1.2⟩⟩))))) (Reps.one (show Kd.FK (Kd.slice 5 (Kd.int .u8)) _ _ y586 [.slice Ao58 y586.length co58] from (Kd.FK_slice_mk (Kd.R_reads' (Kd.R_mono (ok':=(fun k_=>some k_ ≠ (.slice Ao17 t543.length co17 : Value).ownBlock ∧ some k_ ≠ (.slice Ao17 t543.length co17 : Value).ownBlock ∧ some k_ ≠ (v565 : Value).ownBlock)) (Kd.R_apart' (Kd.R_apart' (HO588.out) (Kd.R_typed HO_0.out) (by decide)) (Kd.R_typed HO_48.out) (by decide)) (fun k_ hk=>⟨hk.1.2,⟨hk.2,hk.1.1.2.1⟩⟩))).2.1 (Kd.R_F (Kd.R_mono (ok':=(fun k_=>some k_ ≠ (.slice Ao17 t543.length co17 : Value).ownBlock ∧ some k_ ≠ (.slice Ao17 t543.length co17 : Value).ownBlock ∧ some k_ ≠ (v565 : Value).ownBlock)) (Kd.R_apart' (Kd.R_apart' (HO588.out) (Kd.R_typed HO_0.out) (by decide)) (Kd.R_typed HO_48.out) (by decide)) (fun k_ hk=>⟨hk.1.2,⟨hk.2,hk.1.1.2.1⟩⟩))))) (Reps.none _ _)))))
                  intro v590 w59 ho60 hb hg_ hnew_
                  clear hg_ hnew_
                  (first|rw [← Ny589.out] at ho60|(simp only [Int.reduceToNat] at ho60;rw [← Ny589.out] at ho60))
                  have n0_:=Aside0.mk (Kd.R_below (by (with_reducible repeat (first|apply Kd.R_alloc|apply Kd.R_drewN|apply Kd.R_drew));exact HO_0.out) hb)
                  have n1_:=Aside0.mk (Kd.R_below (by (with_reducible repeat (first|apply Kd.R_alloc|apply Kd.R_drewN|apply Kd.R_drew));exact HO_7.out) hb)
                  have n2_:=Aside0.mk (Kd.R_below (by (with_reducible repeat (first|apply Kd.R_alloc|apply Kd.R_drewN|apply Kd.R_drew));exact HO_48.out) hb)
                  have n3_:=Aside0.mk (Kd.V_elder' (by (with_reducible repeat (first|apply Kd.V_alloc|apply Kd.V_drewN|apply Kd.V_drew));exact HO557.out) (Kd.N_base ho60) hb)
                  have n4_:=Aside0.mk (Kd.V_elder' (by (with_reducible repeat (first|apply Kd.V_alloc|apply Kd.V_drewN|apply Kd.V_drew));exact HO577.out) (Kd.N_base ho60) hb)
                  have n5_:=Aside0.mk (Kd.V_elder' (by (with_reducible repeat (first|apply Kd.V_alloc|apply Kd.V_drewN|apply Kd.V_drew));exact HO585.out) (Kd.N_base ho60) hb)
                  have n6_:=Aside0.mk (Kd.R_below (by (with_reducible repeat (first|apply Kd.R_alloc|apply Kd.R_drewN|apply Kd.R_drew));exact HO566.out) hb)
                  have n7_:=Aside0.mk (Kd.N_lower ho60 (below_size (by repeat (first|(with_reducible first|exact HB.out|apply below_alloc|apply pw_below_drewN|apply below_drew1)|exact HB.out))))
                  have n8_:=Aside0.mk (below_step (by repeat (first|(with_reducible first|exact HB.out|apply below_alloc|apply pw_below_drewN|apply below_drew1)|exact HB.out)) hb)
                  clear HO_0
                  clear HO_7
                  clear HO_48
                  clear HO557
                  clear HO577
                  clear HO585
                  clear HO566
                  clear HB
                  clear HO569
                  clear HO588
                  have HO_0:=n0_
                  have HO_7:=n1_
                  have HO_48:=n2_
                  have HO557:=n3_
                  have HO577:=n4_
                  have HO585:=n5_
                  have HO566:=n6_
                  have HO591:=n7_
                  have HB:=n8_
                  clear n0_ n1_ n2_ n3_ n4_ n5_ n6_ n7_ n8_
                  clear hb ho60
                  obtain ⟨Ao61,co61,eo61⟩:=Kd.N_slice HO591.out
                  (first|subst eo61|(injection eo61 with f1_ f2_ f3_;have f4_:=f1_.symm;have f5_:=f3_.symm;clear f1_ f2_ f3_;subst f4_;subst f5_))
                  refine hK.out _ _ trivial (fun hHeld=>?_)
                  clear hK K
                  refine norm_ (a':=?_) ?_ ?_
                  rotate_left
                  ·show Act.put _ (some 88) _ = _
                   simp only [Act.put,List.setIfInBounds_toArray,List.set_cons_zero,List.set_cons_succ,i64_w,i32_w]
                   rfl
                  refine pure_ (i:=20) (N:=some 89) (v:=?_) (a':=?_) #[true,true,true,true,true,true,true,true,true,true,true,true,true,true,true,true,true,true,true,true,true,true] rfl rfl (any_of HT_.out (by kernel_rfl)) (fun _ _ _ h=>h) (Or.inl ⟨by rfl,?_⟩) ?_ ?_
                  rotate_left
                  ·intro w'
                   go_simp
                   with_reducible rfl
                  rotate_left
                  ·simp only [Act.put,List.setIfInBounds_toArray,List.set_cons_zero,List.set_cons_succ,i64_w,i32_w]
                   rfl
                  refine done_ (done_of HT_.out (by kernel_rfl)) ?_
                  try go_wp2
                  go_loopg [90] k2 (fun kq v90 w'=>∃ (x90_3 : Int),v90 = .int .i64 x90_3 ∧ Aside0 (ratlinelaw07_BlockCut.l1 kq t543 t547 x10_2 y589 (y589.length : Int) x90_3 = some r) ∧ Aside0 (kq ≤ k2) ∧ Aside0 (Kd.R k59 59 w' w.heap.size (fun _=>True) (.slice Ao17 t543.length co17) t543) ∧ Aside0 (Kd.R (Kd.int .u8) 5 w' w.heap.size (fun _=>True) (.slice Ao23 t547.length co23) t547) ∧ Aside0 (Kd.N (Kd.slice 5 (Kd.int .u8)) 26 w' w.heap.size (fun k_=>some k_ ≠ ((.slice Ao17 t543.length co17) : Value).ownBlock) (.slice Ao61 y589.length co61) y589) ∧ Aside0 (Below w.heap.size w w'))
                  case atStart=>exact ⟨(0),(by first|rfl|(simp;done)|(simp [*];done)),H',⟨Nat.le_refl _⟩,⟨by (with_reducible repeat (first|apply Kd.R_alloc|apply Kd.R_drewN|apply Kd.R_drew));exact HO_0.out⟩,⟨by (with_reducible repeat (first|apply Kd.R_alloc|apply Kd.R_drewN|apply Kd.R_drew));exact Kd.R_mono HO_7.out (fun _ hk=>trivial)⟩,⟨by (with_reducible repeat (first|apply Kd.N_alloc|apply Kd.N_drewN|apply Kd.N_drew));exact Kd.N_mono HO591.out (fun _ hk=>hk.1)⟩,⟨by repeat (first|(with_reducible first|exact HB.out|apply below_alloc|apply pw_below_drewN|apply below_drew1)|exact HB.out)⟩⟩
                  case round =>
                   clear H'
                   try clear p2
                   try clear c3
                   try clear c4
                   try clear c32
                   try clear c33
                   try clear c36
                   try clear c40
                   try clear c44
                   obtain ⟨x90_3,rfl,HA,HK3,HO_0,HO_7,HO_88,HB⟩:=hrel
                   cases gk with
                   | zero=>exact absurd HA.out (by simp [ratlinelaw07_BlockCut.l1])
                   | succ k3 =>
                    have H:=HA.out
                    clear HA
                    simp only [ratlinelaw07_BlockCut.l1] at H
                    by_cases c62 : x90_3 < (y589.length : Int)
                    ·rw [if_pos c62] at H
                     have c62b0 : decide (x90_3 < (y589.length : Int)) = true:=decide_eq_true c62
                     clear c62
                     by_cases c63 : 0 ≤ x90_3
                     ·rw [if_pos c63] at H
                      have c63b0 : decide (0 ≤ x90_3) = true:=decide_eq_true c63
                      clear c63
                      by_cases c64 : x90_3 < (y589.length : Int)
                      ·rw [if_pos c64] at H
                       have c64b0 : decide (x90_3 < (y589.length : Int)) = true:=decide_eq_true c64
                       clear c64
                       replace H:=Option.bind_eq_some_iff.mp H
                       obtain ⟨⟨t594,t595⟩,A650,H⟩:=H
                       replace H : (if t595 = 0 then ((ratlinelaw04_Entries.f k3 t594 t543).bind fun t598=>(if t598 = true then (none) else (ratlinelaw07_BlockCut.l1 k3 t543 t547 x10_2 y589 (y589.length : Int) (wrap64 (x90_3 + 1))))) else (ratlinelaw07_BlockCut.l1 k3 t543 t547 x10_2 y589 (y589.length : Int) (wrap64 (x90_3 + 1)))) = some r:=H
                       have A65:=Aside0.mk A650
                       clear A650
                       by_cases c66 : t595 = 0
                       ·rw [if_pos c66] at H
                        have c66b0 : (t595 == 0) = true:=beq_iff_eq.mpr c66
                        have c66b1 : (t595 != 0) = false:=bne_eq_false_iff_eq.mpr c66
                        clear c66
                        replace H:=Option.bind_eq_some_iff.mp H
                        obtain ⟨t598,A670,H⟩:=H
                        replace H : (if t598 = true then (none) else (ratlinelaw07_BlockCut.l1 k3 t543 t547 x10_2 y589 (y589.length : Int) (wrap64 (x90_3 + 1)))) = some r:=H
                        have A67:=Aside0.mk A670
                        clear A670
                        by_cases c68 : t598 = true
                        ·subst c68
                         have H1 : (none) = some r:=by rw [if_pos rfl] at H;exact H
                         clear H
                         have H:=H1
                         clear H1
                         exact absurd H (by simp)
                        ·replace c68:=Bool.eq_false_iff.mpr c68
                         subst c68
                         have H1 : (ratlinelaw07_BlockCut.l1 k3 t543 t547 x10_2 y589 (y589.length : Int) (wrap64 (x90_3 + 1))) = some r:=by rw [if_neg (show ¬ (false = true) by decide)] at H;exact H
                         clear H
                         have H:=H1
                         clear H1
                         have H':=Aside0.mk H
                         clear H
                         have p593 : 0 ≤ (x90_3 : Int):=of_decide_eq_true (by first|(with_reducible assumption)|assumption)
                         have q593 : x90_3 < (y589.length : Int):=of_decide_eq_true (by first|(with_reducible assumption)|assumption)
                         obtain ⟨ad593,A593_0,c593_0,e593,hx593_0,hl593_0,hi593_0⟩:=at_L5 (Kd.N_reads' HO_88.out).2.2 x90_3 p593 q593
                         cases e593
                         obtain ⟨ce593,hce593,hMe593,hcc593⟩:=Kd.N_get HO_88.out [] x90_3 p593 (by first|exact q593|exact of_decide_eq_true (by first|(with_reducible assumption)|assumption)|(have e_:=(Kd.N_reads' HO_88.out).1;omega))
                         obtain ⟨ua593_0,uc593_0,rfl,ul593_0,ge593_0⟩:=Kd.FK_slice_open hMe593
                         have hv593_0:=hcc593 0 _ rfl
                         rw [Nat.add_zero,show ((Kd.slice 5 (Kd.int .u8))).sz = 1 from rfl,Nat.mul_one] at hv593_0
                         replace hv593_0:=Option.some.inj (hv593_0.symm.trans hx593_0)
                         injection hv593_0 with hva_ hvn_ hvc_
                         rw [hva_] at ge593_0
                         rw [hvc_] at ul593_0
                         have HL593_0:=Aside0.mk (show Kd.V (Kd.int .u8) 5 _ w.heap.size _ _ (rd_L5 y589 x90_3) from Kd.V_mk ul593_0 ge593_0)
                         clear hva_ hvn_ hvc_ ge593_0 ul593_0
                         clear hcc593 hce593
                         have HR593_0:=Aside0.mk hi593_0
                         have HC593_0:=Aside0.mk hl593_0
                         clear hi593_0 hl593_0
                         replace p593:=eq_true p593
                         replace q593:=eq_true q593
                         go_wp2_with (first|((with_reducible refine gate_callee (f:=24) rfl ?_);refine goesL_ (some 96) rfl rfl Try.func24 (by kernel_rfl) rfl #[.slice A593_0 (rd_L5 y589 x90_3).length c593_0] rfl (by (try simp only [List.map_toArray,List.map_cons,List.map_nil]);first|done|rfl|(simp only [List.length_drop,List.length_take];rfl)) ?_;(with_reducible refine (block_Parse.calls k3 _ _ (rd_L5 y589 x90_3) t594 t595 _ ?side1 ?side2 A65.out).mono ?_);(case side1=>repeat (first|exact (by repeat (first|(with_reducible exact HR593_0.out)|(with_reducible refine Kd.C_alloc ?_ _)|(with_reducible refine Kd.C_drewN ?_ _)|(with_reducible refine Kd.C_drew ?_)|exact HR593_0.out))|(with_reducible refine Kd.C_alloc ?_ _)|(with_reducible refine Kd.C_drewN ?_ _)|(with_reducible refine Kd.C_drew ?_)));(case side2=>exact HC593_0.out);rintro e w69 ⟨v596,rfl,ho0,hb⟩;refine ⟨_,rfl,?_⟩;have n0_:=Aside0.mk (Kd.R_elder' (by (with_reducible repeat (first|apply Kd.R_alloc|apply Kd.R_drewN|apply Kd.R_drew));exact HO_0.out) (Kd.R_base ho0) hb);have n1_:=Aside0.mk (Kd.R_below (by (with_reducible repeat (first|apply Kd.R_alloc|apply Kd.R_drewN|apply Kd.R_drew));exact HO_7.out) hb);have n2_:=Aside0.mk (Kd.N_elder' (by (with_reducible repeat (first|apply Kd.N_alloc|apply Kd.N_drewN|apply Kd.N_drew));exact HO_88.out) (Kd.R_base ho0) hb);have n3_:=Aside0.mk (Kd.V_elder' (by (with_reducible repeat (first|apply Kd.V_alloc|apply Kd.V_drewN|apply Kd.V_drew));exact HL593_0.out) (Kd.R_base ho0) hb);have n4_:=Aside0.mk (Kd.R_lower (Kd.R_new' ho0 (Kd.R_lt (by (with_reducible repeat (first|apply Kd.R_alloc|apply Kd.R_drewN|apply Kd.R_drew));exact HO_0.out))) (below_size (by repeat (first|(with_reducible first|exact HB.out|apply below_alloc|apply pw_below_drewN|apply below_drew1)|exact HB.out))));have n5_:=Aside0.mk (Kd.C_below (by repeat (first|(with_reducible exact HR593_0.out)|(with_reducible refine Kd.C_alloc ?_ _)|(with_reducible refine Kd.C_drewN ?_ _)|(with_reducible refine Kd.C_drew ?_)|exact HR593_0.out)) hb);have n6_:=Aside0.mk (below_step (by repeat (first|(with_reducible first|exact HB.out|apply below_alloc|apply pw_below_drewN|apply below_drew1)|exact HB.out)) hb);clear HO_0;clear HO_7;clear HO_88;clear HL593_0;clear HR593_0;clear HB;have HO_0:=n0_;have HO_7:=n1_;have HO_88:=n2_;have HL593_0:=n3_;have HO597:=n4_;have HR593_0:=n5_;have HB:=n6_;clear n0_ n1_ n2_ n3_ n4_ n5_ n6_;(try clear hb);(try clear hb2);(try clear hk);(try clear hi);(try clear ho0);obtain ⟨Ao70,co70,eo70⟩:=Kd.R_slice HO597.out;subst eo70)|(go_at_call 27;(with_reducible refine (ratlinelaw04_Entries.calls k3 _ _ t594 _ _ t543 false _ ?side1 ?side2 ?side3 ?side4 A67.out).mono ?_);(case side1=>repeat (first|exact (Kd.R_reads' HO597.out).2.2|(with_reducible refine Kd.C_alloc ?_ _)|(with_reducible refine Kd.C_drewN ?_ _)|(with_reducible refine Kd.C_drew ?_)));(case side2=>exact (Kd.R_reads' HO597.out).2.1);(case side3=>repeat (first|exact (Kd.R_reads' HO_0.out).2.2|(with_reducible refine Kd.C_alloc ?_ _)|(with_reducible refine Kd.C_drewN ?_ _)|(with_reducible refine Kd.C_drew ?_)));(case side4=>exact (Kd.R_reads' HO_0.out).2.1);rintro e w' ⟨rfl,⟨nd,rfl⟩⟩))
                         go_roundg k3
                         case measure=>have:=HJ13.out;have:=HK2.out;have:=HK3.out;omega
                         case rel=>exact ⟨(wrap64 (x90_3 + 1)),(by first|rfl|(simp;done)|(simp [*];done)),H',⟨by have:=HJ13.out;have:=HK2.out;have:=HK3.out;omega⟩,⟨by (with_reducible repeat (first|apply Kd.R_alloc|apply Kd.R_drewN|apply Kd.R_drew));exact Kd.R_mono HO_0.out (fun _ hk=>trivial)⟩,⟨by (with_reducible repeat (first|apply Kd.R_alloc|apply Kd.R_drewN|apply Kd.R_drew));exact HO_7.out⟩,⟨by (with_reducible repeat (first|apply Kd.N_alloc|apply Kd.N_drewN|apply Kd.N_drew));exact Kd.N_mono HO_88.out (fun _ hk=>hk.1)⟩,⟨by repeat (first|(with_reducible first|exact HB.out|apply below_alloc|apply pw_below_drewN|apply below_drew1)|exact HB.out)⟩⟩
                       ·rw [if_neg c66] at H
                        have c66b0 : (t595 == 0) = false:=beq_eq_false_iff_ne.mpr c66
                        have c66b1 : (t595 != 0) = true:=bne_iff_ne.mpr c66
                        have H':=Aside0.mk H
                        clear H
                        have p593 : 0 ≤ (x90_3 : Int):=of_decide_eq_true (by first|(with_reducible assumption)|assumption)
                        have q593 : x90_3 < (y589.length : Int):=of_decide_eq_true (by first|(with_reducible assumption)|assumption)
                        obtain ⟨ad593,A593_0,c593_0,e593,hx593_0,hl593_0,hi593_0⟩:=at_L5 (Kd.N_reads' HO_88.out).2.2 x90_3 p593 q593
                        cases e593
                        obtain ⟨ce593,hce593,hMe593,hcc593⟩:=Kd.N_get HO_88.out [] x90_3 p593 (by first|exact q593|exact of_decide_eq_true (by first|(with_reducible assumption)|assumption)|(have e_:=(Kd.N_reads' HO_88.out).1;omega))
                        obtain ⟨ua593_0,uc593_0,rfl,ul593_0,ge593_0⟩:=Kd.FK_slice_open hMe593
                        have hv593_0:=hcc593 0 _ rfl
                        rw [Nat.add_zero,show ((Kd.slice 5 (Kd.int .u8))).sz = 1 from rfl,Nat.mul_one] at hv593_0
                        replace hv593_0:=Option.some.inj (hv593_0.symm.trans hx593_0)
                        injection hv593_0 with hva_ hvn_ hvc_
                        rw [hva_] at ge593_0
                        rw [hvc_] at ul593_0
                        have HL593_0:=Aside0.mk (show Kd.V (Kd.int .u8) 5 _ w.heap.size _ _ (rd_L5 y589 x90_3) from Kd.V_mk ul593_0 ge593_0)
                        clear hva_ hvn_ hvc_ ge593_0 ul593_0
                        clear hcc593 hce593
                        have HR593_0:=Aside0.mk hi593_0
                        have HC593_0:=Aside0.mk hl593_0
                        clear hi593_0 hl593_0
                        replace p593:=eq_true p593
                        replace q593:=eq_true q593
                        go_wp2_with (first|((with_reducible refine gate_callee (f:=24) rfl ?_);refine goesL_ (some 96) rfl rfl Try.func24 (by kernel_rfl) rfl #[.slice A593_0 (rd_L5 y589 x90_3).length c593_0] rfl (by (try simp only [List.map_toArray,List.map_cons,List.map_nil]);first|done|rfl|(simp only [List.length_drop,List.length_take];rfl)) ?_;(with_reducible refine (block_Parse.calls k3 _ _ (rd_L5 y589 x90_3) t594 t595 _ ?side1 ?side2 A65.out).mono ?_);(case side1=>repeat (first|exact (by repeat (first|(with_reducible exact HR593_0.out)|(with_reducible refine Kd.C_alloc ?_ _)|(with_reducible refine Kd.C_drewN ?_ _)|(with_reducible refine Kd.C_drew ?_)|exact HR593_0.out))|(with_reducible refine Kd.C_alloc ?_ _)|(with_reducible refine Kd.C_drewN ?_ _)|(with_reducible refine Kd.C_drew ?_)));(case side2=>exact HC593_0.out);rintro e w71 ⟨v596,rfl,ho0,hb⟩;refine ⟨_,rfl,?_⟩;have n0_:=Aside0.mk (Kd.R_elder' (by (with_reducible repeat (first|apply Kd.R_alloc|apply Kd.R_drewN|apply Kd.R_drew));exact HO_0.out) (Kd.R_base ho0) hb);have n1_:=Aside0.mk (Kd.R_below (by (with_reducible repeat (first|apply Kd.R_alloc|apply Kd.R_drewN|apply Kd.R_drew));exact HO_7.out) hb);have n2_:=Aside0.mk (Kd.N_elder' (by (with_reducible repeat (first|apply Kd.N_alloc|apply Kd.N_drewN|apply Kd.N_drew));exact HO_88.out) (Kd.R_base ho0) hb);have n3_:=Aside0.mk (Kd.V_elder' (by (with_reducible repeat (first|apply Kd.V_alloc|apply Kd.V_drewN|apply Kd.V_drew));exact HL593_0.out) (Kd.R_base ho0) hb);have n4_:=Aside0.mk (Kd.R_lower (Kd.R_new' ho0 (Kd.R_lt (by (with_reducible repeat (first|apply Kd.R_alloc|apply Kd.R_drewN|apply Kd.R_drew));exact HO_0.out))) (below_size (by repeat (first|(with_reducible first|exact HB.out|apply below_alloc|apply pw_below_drewN|apply below_drew1)|exact HB.out))));have n5_:=Aside0.mk (Kd.C_below (by repeat (first|(with_reducible exact HR593_0.out)|(with_reducible refine Kd.C_alloc ?_ _)|(with_reducible refine Kd.C_drewN ?_ _)|(with_reducible refine Kd.C_drew ?_)|exact HR593_0.out)) hb);have n6_:=Aside0.mk (below_step (by repeat (first|(with_reducible first|exact HB.out|apply below_alloc|apply pw_below_drewN|apply below_drew1)|exact HB.out)) hb);clear HO_0;clear HO_7;clear HO_88;clear HL593_0;clear HR593_0;clear HB;have HO_0:=n0_;have HO_7:=n1_;have HO_88:=n2_;have HL593_0:=n3_;have HO597:=n4_;have HR593_0:=n5_;have HB:=n6_;clear n0_ n1_ n2_ n3_ n4_ n5_ n6_;(try clear hb);(try clear hb2);(try clear hk);(try clear hi);(try clear ho0)))
                        go_roundg k3
                        case measure=>have:=HJ13.out;have:=HK2.out;have:=HK3.out;omega
                        case rel=>exact ⟨(wrap64 (x90_3 + 1)),(by first|rfl|(simp;done)|(simp [*];done)),H',⟨by have:=HJ13.out;have:=HK2.out;have:=HK3.out;omega⟩,⟨by (with_reducible repeat (first|apply Kd.R_alloc|apply Kd.R_drewN|apply Kd.R_drew));exact Kd.R_mono HO_0.out (fun _ hk=>trivial)⟩,⟨by (with_reducible repeat (first|apply Kd.R_alloc|apply Kd.R_drewN|apply Kd.R_drew));exact HO_7.out⟩,⟨by (with_reducible repeat (first|apply Kd.N_alloc|apply Kd.N_drewN|apply Kd.N_drew));exact Kd.N_mono HO_88.out (fun _ hk=>hk.1)⟩,⟨by repeat (first|(with_reducible first|exact HB.out|apply below_alloc|apply pw_below_drewN|apply below_drew1)|exact HB.out)⟩⟩
                      ·rw [if_neg c64] at H
                       exact absurd H (by simp)
                     ·rw [if_neg c63] at H
                      exact absurd H (by simp)
                    ·rw [if_neg c62] at H
                     have c62b0 : decide (x90_3 < (y589.length : Int)) = false:=decide_eq_false c62
                     clear c62
                     by_cases c72 : (t547.length : Int) ≤ x10_2
                     ·rw [if_pos c72] at H
                      have c72b0 : decide ((t547.length : Int) ≤ x10_2) = true:=decide_eq_true c72
                      clear c72
                      replace H:=Option.bind_eq_some_iff.mp H
                      obtain ⟨t592,A730,H⟩:=H
                      replace H : (some t592) = some r:=H
                      have A73:=Aside0.mk A730
                      clear A730
                      obtain rfl:=Option.some.inj H
                      go_wp2_with (first|(go_at_call 21;(with_reducible refine (ratlinelaw07_awake.calls k3  t592 _ A73.out).mono ?_);rintro e w74 ⟨rfl,hb⟩;have n0_:=Aside0.mk (Kd.R_below (by (with_reducible repeat (first|apply Kd.R_alloc|apply Kd.R_drewN|apply Kd.R_drew));exact HO_0.out) hb);have n1_:=Aside0.mk (Kd.R_below (by (with_reducible repeat (first|apply Kd.R_alloc|apply Kd.R_drewN|apply Kd.R_drew));exact HO_7.out) hb);have n2_:=Aside0.mk (Kd.N_below (by (with_reducible repeat (first|apply Kd.N_alloc|apply Kd.N_drewN|apply Kd.N_drew));exact HO_88.out) hb);have n3_:=Aside0.mk (below_step (by repeat (first|(with_reducible first|exact HB.out|apply below_alloc|apply pw_below_drewN|apply below_drew1)|exact HB.out)) hb);clear HO_0;clear HO_7;clear HO_88;clear HB;have HO_0:=n0_;have HO_7:=n1_;have HO_88:=n2_;have HB:=n3_;clear n0_ n1_ n2_ n3_;(try clear hb);(try clear hb2);(try clear hk);(try clear hi)))
                      go_ret
                      exact ⟨by first|rfl|(simp [errW_none,errW_some] <;> rfl)|(simp only [← hji29,← hji37];first|rfl|(simp [errW_none,errW_some] <;> rfl))|(simp [*,errW_none,errW_some] <;> rfl),by repeat (first|(with_reducible first|exact HB.out|apply below_alloc|apply pw_below_drewN|apply below_drew1)|exact HB.out)⟩
                     ·rw [if_neg c72] at H
                      exact absurd H (by simp)
                 ·rw [if_neg c40] at H
                  exact absurd H (by simp)
                ·rw [if_neg c39] at H
                 exact absurd H (by simp)
               ·rw [if_neg c38] at H
                exact absurd H (by simp)
              ·rw [if_neg c36] at H
               exact absurd H (by simp)
             ·rw [if_neg c33] at H
              exact absurd H (by simp)
            ·rw [if_neg c32] at H
             exact absurd H (by simp)
           ·rw [if_neg c31] at H
            exact absurd H (by simp)
          ·rw [if_neg c30] at H
           exact absurd H (by simp)
 ·replace c5:=Bool.eq_false_iff.mpr c5
  subst c5
  have H1 : ((ratlinelaw07_awake.f k).bind fun t542=>(some t542)) = some r:=by rw [if_neg (show ¬ (false = true) by decide)] at H;exact H
  clear H
  have H:=H1
  clear H1
  replace H:=Option.bind_eq_some_iff.mp H
  obtain ⟨t542,A750,H⟩:=H
  replace H : (some t542) = some r:=H
  have A75:=Aside0.mk A750
  clear A750
  obtain rfl:=Option.some.inj H
  go_enter Try.func8,Try.ntmps8
  go_wp2_with (first|((with_reducible refine gate_callee (f:=20) rfl ?_);refine goesL_ (some 18) rfl rfl Try.func20 (by kernel_rfl) rfl #[.slice A0 l0.length c0,.int .i64 70] rfl (by (try simp only [List.map_toArray,List.map_cons,List.map_nil]);first|done|rfl|(simp only [List.length_drop,List.length_take];rfl)) ?_;(with_reducible refine (ratlinelaw03_Few.calls k _ _ l0 70 false _ ?side1 ?side2 A4.out).mono ?_);(case side1=>repeat (first|exact HR0.out|(with_reducible refine Kd.C_alloc ?_ _)|(with_reducible refine Kd.C_drewN ?_ _)|(with_reducible refine Kd.C_drew ?_)));(case side2=>exact HC0.out);rintro e w76 ⟨rfl,hb⟩;refine ⟨_,rfl,?_⟩;have n0_:=Aside0.mk (below_step (by repeat (first|(with_reducible first|exact HB.out|apply below_alloc|apply pw_below_drewN|apply below_drew1)|exact HB.out)) hb);clear HB;have HB:=n0_;clear n0_;(try clear hb);(try clear hb2);(try clear hk);(try clear hi))|(go_at_call 21;(with_reducible refine (ratlinelaw07_awake.calls k  t542 _ A75.out).mono ?_);rintro e w77 ⟨rfl,hb⟩;have n0_:=Aside0.mk (below_step (by repeat (first|(with_reducible first|exact HB.out|apply below_alloc|apply pw_below_drewN|apply below_drew1)|exact HB.out)) hb);clear HB;have HB:=n0_;clear n0_;(try clear hb);(try clear hb2);(try clear hk);(try clear hi);(try apply_assumption)))
  go_ret
  exact ⟨by first|rfl|(simp [errW_none,errW_some] <;> rfl)|(simp [*,errW_none,errW_some] <;> rfl),by repeat (first|(with_reducible first|exact HB.out|apply below_alloc|apply pw_below_drewN|apply below_drew1)|exact HB.out)⟩

end Go.Proofs.Ytjcjfghcahbbmaa.P

end
