/- Proved here: what the row of EditGrows needs, part 4. Conditions: those of each theorem. Written for this claim by programs; what the claim does not use is left out. -/
import Derived.Test.YtlaihdipagejfaaSEditGrows3
section
namespace Go.Proofs.Ytlaihdipagejfaa.P
open Go.RowKit Go.Proofs.YtlaihdipagejfaaG Go.Proofs.YtlaihdipagejfaaW.PrintWords Go.Proofs.YtlaihdipagejfaaW.PrintLast Go.Proofs.YtlaihdipagejfaaW.PrintMore
attribute [local go_sem] str_gtr str_geq str_leq max2_int min2_int max_two min_two max_three min_three max_four min_four   -- for this text's walks alone
set_option linter.unusedVariables false
set_option linter.unusedSimpArgs false

attribute [local go_sem high] eqA62
mutual
def ratlinelaw09_EditGrows.l0 : Nat → List (S54) → Int → Int → List (S62) → Int → Int → Int → Option (Bool)
 | 0,_,_,_,_,_,_,_ => none
 | k + 1,x23,x24,x25,x468000,x468001,x468002,x468003 => if x25 < x24 then (if 0 ≤ x25 then (if x25 < (x23.length : Int) then ((edit_Apply.f x468000 x468001 x468002 x468003 ((rd_T54 x23 x25).f0) ((rd_T54 x23 x25).f1) ((rd_T54 x23 x25).f2) ((rd_T54 x23 x25).f3)).bind fun bt470 => (if bt470.2.2.2.2 = 0 then (if bt470.2.1 < x468001 then (ratlinelaw09_EditGrows.j1 k x23 x24 x25 true x468000 x468001 x468002 x468003 bt470.1 bt470.2.1 bt470.2.2.1 bt470.2.2.2.1) else (if bt470.2.2.1 < x468002 then (ratlinelaw09_EditGrows.j1 k x23 x24 x25 true x468000 x468001 x468002 x468003 bt470.1 bt470.2.1 bt470.2.2.1 bt470.2.2.2.1) else (if bt470.2.2.2.1 < x468003 then (ratlinelaw09_EditGrows.j1 k x23 x24 x25 true x468000 x468001 x468002 x468003 bt470.1 bt470.2.1 bt470.2.2.1 bt470.2.2.2.1) else (if (bt470.1.length : Int) = (wrap64 ((x468000.length : Int) + (((rd_T54 x23 x25).f0).length : Int))) then ((edit_Right.f k ((rd_T54 x23 x25).f0) ((rd_T54 x23 x25).f1) ((rd_T54 x23 x25).f2) ((rd_T54 x23 x25).f3)).bind fun t479 => (ratlinelaw09_EditGrows.j1 k x23 x24 x25 (!t479) x468000 x468001 x468002 x468003 bt470.1 bt470.2.1 bt470.2.2.1 bt470.2.2.2.1)) else (ratlinelaw09_EditGrows.j1 k x23 x24 x25 true x468000 x468001 x468002 x468003 bt470.1 bt470.2.1 bt470.2.2.1 bt470.2.2.2.1))))) else (if bt470.2.2.2.2 = 90 then ((ratlinelaw09_Versions.f k bt470.1 bt470.2.1 bt470.2.2.1 bt470.2.2.2.1 x468000 x468001 x468002 x468003).bind fun t478 => (if t478 = true then (ratlinelaw09_EditGrows.l0 k x23 x24 (wrap64 (x25 + 1)) x468000 x468001 x468002 x468003) else (none))) else (none)))) else (none)) else (none)) else ((edit_Whole.f x468000 x468001 x468002 x468003).bind fun bt485 => (if (x468000.length : Int) > 64 then (ratlinelaw09_EditGrows.j3 k true x468000 x468001 x468002 x468003 bt485.1 bt485.2.1 bt485.2.2.1 bt485.2.2.2) else ((edit_Same.f k bt485.1 bt485.2.1 bt485.2.2.1 bt485.2.2.2 ([] : List (S62)) 0 0 0).bind fun t492 => (ratlinelaw09_EditGrows.j3 k t492 x468000 x468001 x468002 x468003 bt485.1 bt485.2.1 bt485.2.2.1 bt485.2.2.2))))
def ratlinelaw09_EditGrows.j1 : Nat → List (S54) → Int → Int → Bool → List (S62) → Int → Int → Int → List (S62) → Int → Int → Int → Option (Bool)
 | 0,_,_,_,_,_,_,_,_,_,_,_,_ => none
 | k + 1,x23,x24,x25,x81,x468000,x468001,x468002,x468003,x478000,x478001,x478002,x478003 => if x81 = true then (none) else (ratlinelaw09_EditGrows.l1 k x23 x24 x25 x478000 (x478000.length : Int) 0 x468000 x468001 x468002 x468003 x478000 x478001 x478002 x478003)
def ratlinelaw09_EditGrows.l1 : Nat → List (S54) → Int → Int → List (S62) → Int → Int → List (S62) → Int → Int → Int → List (S62) → Int → Int → Int → Option (Bool)
 | 0,_,_,_,_,_,_,_,_,_,_,_,_,_,_ => none
 | k + 1,x23,x24,x25,x83,x84,x85,x468000,x468001,x468002,x468003,x478000,x478001,x478002,x478003 => if x85 < x84 then (if 0 ≤ x85 then (if x85 < (x83.length : Int) then (if x85 < (x468000.length : Int) then (if (!(((rd_T62 x83 x85).f0) == ((rd_T62 x468000 x85).f0)) || (!(((rd_T62 x83 x85).f1) == ((rd_T62 x468000 x85).f1)) || (!((((rd_T62 x83 x85).f2).toList) == (((rd_T62 x468000 x85).f2).toList)) || (!((((rd_T62 x83 x85).f3).toList) == (((rd_T62 x468000 x85).f3).toList)))))) = true then (none) else (if x85 > 0 then (if 0 ≤ (wrap64 (x85 - 1)) then (if (wrap64 (x85 - 1)) < (x478000.length : Int) then (if ((rd_T62 x478000 (wrap64 (x85 - 1))).f0) ≥ ((rd_T62 x83 x85).f0) then (none) else (ratlinelaw09_EditGrows.l1 k x23 x24 x25 x83 x84 (wrap64 (x85 + 1)) x468000 x468001 x468002 x468003 x478000 x478001 x478002 x478003)) else (none)) else (none)) else (ratlinelaw09_EditGrows.l1 k x23 x24 x25 x83 x84 (wrap64 (x85 + 1)) x468000 x468001 x468002 x468003 x478000 x478001 x478002 x478003))) else (if x85 > 0 then (if 0 ≤ (wrap64 (x85 - 1)) then (if (wrap64 (x85 - 1)) < (x478000.length : Int) then (if ((rd_T62 x478000 (wrap64 (x85 - 1))).f0) ≥ ((rd_T62 x83 x85).f0) then (none) else (ratlinelaw09_EditGrows.l1 k x23 x24 x25 x83 x84 (wrap64 (x85 + 1)) x468000 x468001 x468002 x468003 x478000 x478001 x478002 x478003)) else (none)) else (none)) else (ratlinelaw09_EditGrows.l1 k x23 x24 x25 x83 x84 (wrap64 (x85 + 1)) x468000 x468001 x468002 x468003 x478000 x478001 x478002 x478003))) else (none)) else (none)) else (ratlinelaw09_EditGrows.l0 k x23 x24 (wrap64 (x25 + 1)) x478000 x478001 x478002 x478003)
def ratlinelaw09_EditGrows.j3 : Nat → Bool → List (S62) → Int → Int → Int → List (S62) → Int → Int → Int → Option (Bool)
 | 0,_,_,_,_,_,_,_,_,_ => none
 | k + 1,x133,x468000,x468001,x468002,x468003,x492000,x492001,x492002,x492003 => if x133 = true then ((ratlinelaw09_awake.f).bind fun t493 => (some t493)) else ((edit_Apply.f ([] : List (S62)) 0 0 0 x492000 x492001 x492002 x492003).bind fun bt494 => (if bt494.2.2.2.2 = 0 then ((ratlinelaw09_Versions.f k bt494.1 bt494.2.1 bt494.2.2.1 bt494.2.2.2.1 x468000 x468001 x468002 x468003).bind fun t502 => (if t502 = true then ((ratlinelaw09_awake.f).bind fun t503 => (some t503)) else (none))) else (none)))
end
def ratlinelaw09_EditGrows.f (k : Nat) (l0 : List (S54)) : Option (Bool):=if 0 ≤ (mn (l0.length : Int) 20) then (if (mn (l0.length : Int) 20) ≤ (l0.length : Int) then ((some (l0.take ((mn (l0.length : Int) 20) : Int).toNat : List (S54))).bind fun y461 => ((ratlinelaw09_Few.f k y461).bind fun t465 => (if t465 = true then (ratlinelaw09_EditGrows.l0 k y461 (y461.length : Int) 0 ([] : List (S62)) 0 0 0) else ((ratlinelaw09_awake.f).bind fun t466 => (some t466))))) else (none)) else (none)
set_option maxHeartbeats 8000000 in
set_option maxRecDepth 100000 in
theorem ratlinelaw09_EditGrows.calls (k : Nat) (A0 : Option Addr) (c0 : Nat) (l0 : List (S54)) (r : Bool) (w : World) (hr0 : Kd.C k54 w A0 l0.length l0) (hc0 : l0.length ≤ c0) (h : ratlinelaw09_EditGrows.f k l0 = some r) :
  Calls Try.prog 12 #[.slice A0 l0.length c0] w fun e w' => e = .returned (.bool r) ∧ Below w.heap.size w w':=by
 have hu57:=Try.underlying57
 have hu54:=Try.underlying54
 have hu62:=Try.underlying62
 have HR0:=Aside0.mk hr0
 have HC0:=Aside0.mk hc0
 clear hr0 hc0
 have HB:=Aside0.mk (Below.refl w.heap.size w)
 have H : (if 0 ≤ (mn (l0.length : Int) 20) then (if (mn (l0.length : Int) 20) ≤ (l0.length : Int) then ((some (l0.take ((mn (l0.length : Int) 20) : Int).toNat : List (S54))).bind fun y461 => ((ratlinelaw09_Few.f k y461).bind fun t465 => (if t465 = true then (ratlinelaw09_EditGrows.l0 k y461 (y461.length : Int) 0 ([] : List (S62)) 0 0 0) else ((ratlinelaw09_awake.f).bind fun t466 => (some t466))))) else (none)) else (none)) = some r:=h
 clear h
 obtain ⟨ji2,hji2⟩ : ∃ j_ : Int,(mn (l0.length : Int) 20) = j_:=⟨_,rfl⟩
 replace H : (if 0 ≤ (ji2) then (if (ji2) ≤ (l0.length : Int) then ((some (l0.take ((ji2) : Int).toNat : List (S54))).bind fun y461 => ((ratlinelaw09_Few.f k y461).bind fun t465 => (if t465 = true then (ratlinelaw09_EditGrows.l0 k y461 (y461.length : Int) 0 ([] : List (S62)) 0 0 0) else ((ratlinelaw09_awake.f).bind fun t466 => (some t466))))) else (none)) else (none)) = some r:=by first|(rw [hji2] at H;exact H)|(simp only [hji2] at H ⊢;exact H)
 (try (have hji2h : ji2 ≤ 20:=by (rw [← hji2];unfold mn;(repeat' split) <;> omega)))
 (try (have hji2g : ji2 ≤ 64:=by omega))
 (try (have hji2l : 0 ≤ ji2:=by (rw [← hji2];unfold mn;(repeat' split) <;> omega)))
 (try (have hji2m : 0 ≤ ji2:=by omega))
 have hji2_ : (if 20 < (l0.length : Int) then 20 else (l0.length : Int)) = ji2:=hji2
 by_cases c3 : 0 ≤ (ji2)
 rotate_left
 ·rw [if_neg c3] at H
  exact absurd H (by simp)

 rw [if_pos c3] at H
 have c3b0:=eq_true c3
 have c3b1 : decide (0 ≤ (ji2)) = true:=decide_eq_true c3
 clear c3
 by_cases c4 : (ji2) ≤ (l0.length : Int)
 rotate_left
 ·rw [if_neg c4] at H
  exact absurd H (by simp)
 rw [if_pos c4] at H
 have c4b0:=eq_true c4
 have c4b1 : decide ((ji2) ≤ (l0.length : Int)) = true:=decide_eq_true c4
 clear c4
 obtain ⟨y461,hy461⟩ : ∃ y_ : List (S54),y_ = (l0.take ((ji2) : Int).toNat):=⟨_,rfl⟩
 replace H : ((ratlinelaw09_Few.f k y461).bind fun t465 => (if t465 = true then (ratlinelaw09_EditGrows.l0 k y461 (y461.length : Int) 0 ([] : List (S62)) 0 0 0) else ((ratlinelaw09_awake.f).bind fun t466 => (some t466)))) = some r:=by first|(rw [hy461];with_reducible exact H)|(have H2_:=(Option.bind_some _ _).symm.trans H;rw [hy461];with_reducible exact H2_)|(have H2_:=(Option.bind_some _ _).symm.trans H;with_reducible exact H2_)|with_reducible exact H|(rw [hy461];exact H)|exact H
 have Ny461:=Aside0.mk hy461
 clear hy461
 replace H:=Option.bind_eq_some_iff.mp H
 obtain ⟨t465,A50,H⟩:=H
 replace H : (if t465 = true then (ratlinelaw09_EditGrows.l0 k y461 (y461.length : Int) 0 ([] : List (S62)) 0 0 0) else ((ratlinelaw09_awake.f).bind fun t466 => (some t466))) = some r:=H
 have A5:=Aside0.mk A50
 clear A50
 by_cases c6 : t465 = true
 rotate_left
 ·replace c6:=Bool.eq_false_iff.mpr c6
  subst c6
  have H1 : ((ratlinelaw09_awake.f).bind fun t466 => (some t466)) = some r:=by rw [if_neg (show ¬ (false = true) by decide)] at H;exact H
  clear H
  have H:=H1
  clear H1
  replace H:=Option.bind_eq_some_iff.mp H
  obtain ⟨t466,A1730,H⟩:=H
  replace H : (some t466) = some r:=H
  have A173:=Aside0.mk A1730
  clear A1730
  obtain rfl:=Option.some.inj H
  have q174 : ((ji2) : Int) ≤ ((l0.length : Int) : Int):=of_decide_eq_true (by first|(with_reducible assumption)|assumption)
  obtain ⟨i0174,hi0174,_,hsz174,_⟩:=info_parts info54
  have hroom174 : l0.length ≤ c0:=HC0.out
  have hC174 : Kd.C k54 _ A0 l0.length l0:=HR0.out
  have hcut174:=cut_to (P:=Try.prog) 71 54 .i64 Try.underlying71 hi0174 A0 l0.length c0 (ji2) (of_decide_eq_true (by first|(with_reducible assumption)|assumption)) q174 hroom174
  have hr174:=Kd.C_take (m:=((ji2) : Int).toNat) hC174 (by omega)
  have hy174 : y461.length = ((ji2) : Int).toNat:=(by rw [Ny461.out,List.length_take];omega)
  rw [← Ny461.out] at hr174
  rw [← hy174] at hcut174
  have HR464:=Aside0.mk hr174
  have HC464:=Aside0.mk (show y461.length ≤ c0 from by omega)
  clear hr174 hC174 hroom174 hi0174 hsz174
  have KY174:=Aside0.mk hy174
  clear hy174
  replace q174:=eq_true q174
  go_enter Try.func12,Try.ntmps12
  go_wp2_with (first|(go_at_call 30;(with_reducible refine (ratlinelaw09_Few.calls k _ _ y461 false _ ?side1 ?side2 A5.out).mono ?_);(case side1 => repeat (first|exact HR464.out|(with_reducible refine Kd.C_alloc ?_ _)|(with_reducible refine Kd.C_drewN ?_ _)|(with_reducible refine Kd.C_drew ?_)));(case side2 => exact HC464.out);rintro e w175 ⟨rfl,hb⟩;have n0_:=Aside0.mk (below_step (by repeat (first|(with_reducible first|exact HB.out|apply below_alloc|apply pw_below_drewN|apply below_drew1)|exact HB.out)) hb);clear HB;have HB:=n0_;clear n0_;(try clear hb);(try clear hb2);(try clear hk);(try clear hi))|(go_at_call 31;(with_reducible refine (ratlinelaw09_awake.calls  t466 _ A173.out).mono ?_);rintro e w176 ⟨rfl,hb⟩;have n0_:=Aside0.mk (below_step (by repeat (first|(with_reducible first|exact HB.out|apply below_alloc|apply pw_below_drewN|apply below_drew1)|exact HB.out)) hb);clear HB;have HB:=n0_;clear n0_;(try clear hb);(try clear hb2);(try clear hk);(try clear hi);(try apply_assumption)))
  repeat (go_quiet (fail);try go_wp2)
  go_ret
  exact ⟨by first|rfl|(simp [errW_none,errW_some] <;> rfl)|(simp only [← hji2];first|rfl|(simp [errW_none,errW_some] <;> rfl))|(simp [*,errW_none,errW_some] <;> rfl),by repeat (first|(with_reducible first|exact HB.out|apply below_alloc|apply pw_below_drewN|apply below_drew1)|exact HB.out)⟩
 subst c6
 have H1 : (ratlinelaw09_EditGrows.l0 k y461 (y461.length : Int) 0 ([] : List (S62)) 0 0 0) = some r:=by rw [if_pos rfl] at H;exact H
 clear H
 have H:=H1
 clear H1
 have H':=Aside0.mk H
 clear H
 have q7 : ((ji2) : Int) ≤ ((l0.length : Int) : Int):=of_decide_eq_true (by first|(with_reducible assumption)|assumption)
 obtain ⟨i07,hi07,_,hsz7,_⟩:=info_parts info54
 have hroom7 : l0.length ≤ c0:=HC0.out
 have hC7 : Kd.C k54 _ A0 l0.length l0:=HR0.out
 have hcut7:=cut_to (P:=Try.prog) 71 54 .i64 Try.underlying71 hi07 A0 l0.length c0 (ji2) (of_decide_eq_true (by first|(with_reducible assumption)|assumption)) q7 hroom7
 have hr7:=Kd.C_take (m:=((ji2) : Int).toNat) hC7 (by omega)
 have hy7 : y461.length = ((ji2) : Int).toNat:=(by rw [Ny461.out,List.length_take];omega)
 rw [← Ny461.out] at hr7
 rw [← hy7] at hcut7
 have HR464:=Aside0.mk hr7
 have HC464:=Aside0.mk (show y461.length ≤ c0 from by omega)
 clear hr7 hC7 hroom7 hi07 hsz7
 have KY7:=Aside0.mk hy7
 clear hy7
 replace q7:=eq_true q7
 go_enter Try.func12,Try.ntmps12
 go_wp2_with (first|(go_at_call 30;(with_reducible refine (ratlinelaw09_Few.calls k _ _ y461 true _ ?side1 ?side2 A5.out).mono ?_);(case side1 => repeat (first|exact HR464.out|(with_reducible refine Kd.C_alloc ?_ _)|(with_reducible refine Kd.C_drewN ?_ _)|(with_reducible refine Kd.C_drew ?_)));(case side2 => exact HC464.out);rintro e w8 ⟨rfl,hb⟩;have n0_:=Aside0.mk (below_step (by repeat (first|(with_reducible first|exact HB.out|apply below_alloc|apply pw_below_drewN|apply below_drew1)|exact HB.out)) hb);clear HB;have HB:=n0_;clear n0_;(try clear hb);(try clear hb2);(try clear hk);(try clear hi))|((with_reducible refine gate_dst (N:=3) rfl ?_);(try (refine gate_guard (by rfl) ?_;dsimp only));refine box_event ?hg (N:=3) ?hd (cs:=#[.slice none 0 0,.int .u64 0,.int .u64 0,.int .u64 0]) (t:=57) ?hr ?_;(case hd => rfl);(case hg => rfl);(case hr => first|(go_simp;done)|(go_simp;rfl));intro gb467 hg w9 hbox hb;have n0_:=Aside0.mk (below_step (by repeat (first|(with_reducible first|exact HB.out|apply below_alloc|apply pw_below_drewN|apply below_drew1)|exact HB.out)) hb);have n1_:=Aside0.mk (hbox);have n2_:=Aside0.mk ((by rw [hg];exact (below_size (by repeat (first|(with_reducible first|exact HB.out|apply below_alloc|apply pw_below_drewN|apply below_drew1)|exact HB.out))) : w.heap.size ≤ gb467));have n3_:=Aside0.mk ((by rw [hg];exact (below_size (by repeat (first|(with_reducible first|exact HB.out|apply below_alloc|apply pw_below_drewN|apply below_drew1)|exact HB.out))) : w.heap.size ≤ gb467));clear HB;have HB:=n0_;have BK467:=n1_;have GW467:=n2_;have GE467:=n3_;clear n0_ n1_ n2_ n3_;clear hb hbox hg;have hcz10_0 : w9.cell? ⟨gb467,0,none⟩ = some (.slice none 0 0):=(blk_cell BK467.out 0).trans rfl;have hcz10_1 : w9.cell? ⟨gb467,1,none⟩ = some (.int .u64 0):=(blk_cell BK467.out 1).trans rfl;have hcz10_2 : w9.cell? ⟨gb467,2,none⟩ = some (.int .u64 0):=(blk_cell BK467.out 2).trans rfl;have hcz10_3 : w9.cell? ⟨gb467,3,none⟩ = some (.int .u64 0):=(blk_cell BK467.out 3).trans rfl;have hfz10_0:=blk_frozen BK467.out 0;have hfz10_1:=blk_frozen BK467.out 1;have hfz10_2:=blk_frozen BK467.out 2;have hfz10_3:=blk_frozen BK467.out 3))
 repeat (go_quiet (fail);try go_wp2)
 go_loopg [25] k (fun kq v25 w' => ∃ (x25_1 : Int) (x468000_1 : List (S62)) (x468001_1 : Int) (x468002_1 : Int) (x468003_1 : Int) (u468000 : Value),v25 = .int .i64 x25_1 ∧ Aside0 (ratlinelaw09_EditGrows.l0 kq y461 (y461.length : Int) x25_1 x468000_1 x468001_1 x468002_1 x468003_1 = some r) ∧ Aside0 (kq ≤ k) ∧ Aside0 (Kd.R k62 62 w' w.heap.size (fun _ => True) u468000 x468000_1) ∧ Aside0 (w'.heap[gb467]? = some (.cells #[u468000,.int .u64 x468001_1,.int .u64 x468002_1,.int .u64 x468003_1] 57 (0,0))) ∧ Aside0 (Below w.heap.size w w'))
 case atStart => exact ⟨(0),(([] : List (S62))),(0),(0),(0),(.slice none 0 0),(by first|rfl|(simp;done)|(simp [*];done)),H',⟨Nat.le_refl _⟩,⟨by first|exact Kd.R_nil _ _ _ _ _|exact Kd.N_nil _ _ _ _ _|exact Kd.V_nil _ _ _ _ _|exact Kd.Q_nil _ _ _ _ _|exact Kd.S_nil _ _ _ _ _⟩,⟨by (with_reducible repeat (first|refine bN ?_ _|refine bD ?_|refine bA ?_ _));refine blk_put (cs:=#[.slice none 0 0,.int .u64 0,.int .u64 0,.int .u64 0]) ?_ 3 _ rfl;(with_reducible repeat (first|refine bN ?_ _|refine bD ?_|refine bA ?_ _));refine blk_put (cs:=#[.slice none 0 0,.int .u64 0,.int .u64 0,.int .u64 0]) ?_ 2 _ rfl;(with_reducible repeat (first|refine bN ?_ _|refine bD ?_|refine bA ?_ _));refine blk_put (cs:=#[.slice none 0 0,.int .u64 0,.int .u64 0,.int .u64 0]) ?_ 1 _ rfl;(with_reducible repeat (first|refine bN ?_ _|refine bD ?_|refine bA ?_ _));refine blk_put (cs:=#[.slice none 0 0,.int .u64 0,.int .u64 0,.int .u64 0]) ?_ 0 _ rfl;(with_reducible repeat (first|refine bN ?_ _|refine bD ?_|refine bA ?_ _));exact BK467.out⟩,⟨by repeat (first|(with_reducible first|exact HB.out|apply below_alloc|apply pw_below_drewN|apply below_drew1|refine below_set ?_ GE467.out)|exact HB.out)⟩⟩
 case round =>
  clear H'
  try clear c1
  try clear p2
  try clear c3
  try clear c3b0
  try clear c3b1
  try clear c4
  try clear c4b0
  try clear c4b1
  try clear c6
  try clear q7
  try clear hcz10_0
  try clear hcz10_1
  try clear hcz10_2
  try clear hcz10_3
  try clear hfz10_0
  try clear hfz10_1
  try clear hfz10_2
  try clear hfz10_3
  try clear q7
  obtain ⟨x25_1,x468000_1,x468001_1,x468002_1,x468003_1,u468000,rfl,HA,HK1,HO_468000,BK467,HB⟩:=hrel
  cases gk with
  | zero => exact absurd HA.out (by simp [ratlinelaw09_EditGrows.l0])
  | succ k1 =>
   have H:=HA.out
   clear HA
   simp only [ratlinelaw09_EditGrows.l0] at H
   by_cases c11 : x25_1 < (y461.length : Int)
   ·rw [if_pos c11] at H
    have c11b0 : decide (x25_1 < (y461.length : Int)) = true:=decide_eq_true c11
    clear c11
    by_cases c12 : 0 ≤ x25_1
    rotate_left
    ·rw [if_neg c12] at H
     exact absurd H (by simp)
    rw [if_pos c12] at H
    have c12b0 : decide (0 ≤ x25_1) = true:=decide_eq_true c12
    clear c12
    by_cases c13 : x25_1 < (y461.length : Int)
    rotate_left
    ·rw [if_neg c13] at H
     exact absurd H (by simp)
    rw [if_pos c13] at H
    have c13b0 : decide (x25_1 < (y461.length : Int)) = true:=decide_eq_true c13
    clear c13
    replace H:=Option.bind_eq_some_iff.mp H
    obtain ⟨⟨t470,t473,t474,t475,t476⟩,A140,H⟩:=H
    have A14:=Aside0.mk A140
    clear A140
    by_cases c15 : t476 = 0
    rotate_left
    ·rw [if_neg c15] at H
     have c15b0 : (t476 == 0) = false:=beq_eq_false_iff_ne.mpr c15
     have c15b1 : (t476 != 0) = true:=bne_iff_ne.mpr c15
     by_cases c121 : t476 = 90
     rotate_left
     ·rw [if_neg c121] at H
      exact absurd H (by simp)
     rw [if_pos c121] at H
     have c121b0 : (t476 == 90) = true:=beq_iff_eq.mpr c121
     have c121b1 : (t476 != 90) = false:=bne_eq_false_iff_eq.mpr c121
     clear c121
     replace H:=Option.bind_eq_some_iff.mp H
     obtain ⟨t478,A1220,H⟩:=H
     replace H : (if t478 = true then (ratlinelaw09_EditGrows.l0 k1 y461 (y461.length : Int) (wrap64 (x25_1 + 1)) x468000_1 x468001_1 x468002_1 x468003_1) else (none)) = some r:=H
     have A122:=Aside0.mk A1220
     clear A1220
     by_cases c123 : t478 = true
     ·subst c123
      have H1 : (ratlinelaw09_EditGrows.l0 k1 y461 (y461.length : Int) (wrap64 (x25_1 + 1)) x468000_1 x468001_1 x468002_1 x468003_1) = some r:=by rw [if_pos rfl] at H;exact H
      clear H
      have H:=H1
      clear H1
      have H':=Aside0.mk H
      clear H
      have p468 : 0 ≤ (x25_1 : Int):=of_decide_eq_true (by first|(with_reducible assumption)|assumption)
      have q468 : x25_1 < (y461.length : Int):=of_decide_eq_true (by first|(with_reducible assumption)|assumption)
      obtain ⟨ad468,A468_0,c468_0,e468,hx468_0,hx468_1,hx468_2,hx468_3,hl468_0,hi468_0⟩:=at_T54 HR464.out x25_1 p468 q468
      cases e468
      replace hx468_0:=(HB.out.cell (World.block_lt_of_cell? w _ hx468_0)).trans hx468_0
      replace hx468_1:=(HB.out.cell (World.block_lt_of_cell? w _ hx468_1)).trans hx468_1
      replace hx468_2:=(HB.out.cell (World.block_lt_of_cell? w _ hx468_2)).trans hx468_2
      replace hx468_3:=(HB.out.cell (World.block_lt_of_cell? w _ hx468_3)).trans hx468_3
      have HR468_0:=Aside0.mk hi468_0
      have HC468_0:=Aside0.mk hl468_0
      clear hi468_0 hl468_0
      replace p468:=eq_true p468
      replace q468:=eq_true q468
      go_wp2_with (first|((with_reducible refine gate_dst (N:=5) rfl ?_);(try (refine gate_guard (by rfl) ?_;dsimp only));refine box_event ?hg (N:=5) ?hd (cs:=#[.slice none 0 0,.int .u64 0,.int .u64 0,.int .u64 0]) (t:=54) ?hr ?_;(case hd => rfl);(case hg => rfl);(case hr => first|(go_simp;done)|(go_simp;rfl));intro gb469 hg w124 hbox hb;have n0_:=Aside0.mk (Kd.R_below (by (with_reducible repeat (first|apply zA|apply zN|apply zD));exact HO_468000.out) hb);have n1_:=Aside0.mk (blk_below (g:=gb467) (o:=.cells #[u468000,.int .u64 x468001_1,.int .u64 x468002_1,.int .u64 x468003_1] 57 (0,0)) (by (with_reducible repeat (first|refine bN ?_ _|refine bD ?_|refine bA ?_ _));exact BK467.out) hb);have n2_:=Aside0.mk (below_step (by repeat (first|(with_reducible first|exact HB.out|apply below_alloc|apply pw_below_drewN|apply below_drew1|refine below_set ?_ GE467.out)|exact HB.out)) hb);have n3_:=Aside0.mk (hbox);have n4_:=Aside0.mk ((by rw [hg];exact (below_size (by repeat (first|(with_reducible first|exact HB.out|apply below_alloc|apply pw_below_drewN|apply below_drew1|refine below_set ?_ GE467.out)|exact HB.out))) : w.heap.size ≤ gb469));have n5_:=Aside0.mk ((by rw [hg];exact (below_size (by repeat (first|(with_reducible first|exact HB.out|apply below_alloc|apply pw_below_drewN|apply below_drew1|refine below_set ?_ GE467.out)|exact HB.out))) : w.heap.size ≤ gb469));have n6_:=Aside0.mk ((by rw [hg];exact Nat.ne_of_lt (blk_lt (g:=gb467) (o:=.cells #[u468000,.int .u64 x468001_1,.int .u64 x468002_1,.int .u64 x468003_1] 57 (0,0)) (by (with_reducible repeat (first|refine bN ?_ _|refine bD ?_|refine bA ?_ _));exact BK467.out)) : gb467 ≠ gb469));have n7_:=Aside0.mk ((by rw [hg];exact Nat.ne_of_gt (blk_lt (g:=gb467) (o:=.cells #[u468000,.int .u64 x468001_1,.int .u64 x468002_1,.int .u64 x468003_1] 57 (0,0)) (by (with_reducible repeat (first|refine bN ?_ _|refine bD ?_|refine bA ?_ _));exact BK467.out)) : gb469 ≠ gb467));clear HO_468000;clear BK467;clear HB;have HO_468000:=n0_;have BK467:=n1_;have HB:=n2_;have BK469:=n3_;have GW469:=n4_;have GE469:=n5_;have NB467_469:=n6_;have NB469_467:=n7_;clear n0_ n1_ n2_ n3_ n4_ n5_ n6_ n7_;clear hb hbox hg;have hnb125:=NB469_467.out;have hnc125:=NB467_469.out;have hcz126_0 : w124.cell? ⟨gb469,0,none⟩ = some (.slice none 0 0):=(blk_cell BK469.out 0).trans rfl;have hcz126_1 : w124.cell? ⟨gb469,1,none⟩ = some (.int .u64 0):=(blk_cell BK469.out 1).trans rfl;have hcz126_2 : w124.cell? ⟨gb469,2,none⟩ = some (.int .u64 0):=(blk_cell BK469.out 2).trans rfl;have hcz126_3 : w124.cell? ⟨gb469,3,none⟩ = some (.int .u64 0):=(blk_cell BK469.out 3).trans rfl;have hfz126_0:=blk_frozen BK469.out 0;have hfz126_1:=blk_frozen BK469.out 1;have hfz126_2:=blk_frozen BK469.out 2;have hfz126_3:=blk_frozen BK469.out 3;have hcz127_0 : w124.cell? ⟨gb467,0,none⟩ = some (u468000):=(blk_cell BK467.out 0).trans rfl;have hcz127_1 : w124.cell? ⟨gb467,1,none⟩ = some (.int .u64 x468001_1):=(blk_cell BK467.out 1).trans rfl;have hcz127_2 : w124.cell? ⟨gb467,2,none⟩ = some (.int .u64 x468002_1):=(blk_cell BK467.out 2).trans rfl;have hcz127_3 : w124.cell? ⟨gb467,3,none⟩ = some (.int .u64 x468003_1):=(blk_cell BK467.out 3).trans rfl;have hfz127_0:=blk_frozen BK467.out 0;have hfz127_1:=blk_frozen BK467.out 1;have hfz127_2:=blk_frozen BK467.out 2;have hfz127_3:=blk_frozen BK467.out 3;obtain ⟨Ao128,co128,eo128⟩:=Kd.R_slice HO_468000.out;subst eo128)|(go_at_call 32;(with_reducible refine (edit_Apply.calls _ _ x468000_1 x468001_1 x468002_1 x468003_1 _ _ ((rd_T54 y461 x25_1).f0) ((rd_T54 y461 x25_1).f1) ((rd_T54 y461 x25_1).f2) ((rd_T54 y461 x25_1).f3) t470 t473 t474 t475 t476 _ ?side1 ?side2 ?side3 ?side4 A14.out).mono ?_);(case side1 => refine (Kd.R_reads' (e:=62) (base:=w.heap.size) (ok:=fun k_ => True) (n:=x468000_1.length) (c:=co128) ?_).2.2;exact (by (with_reducible repeat (first|apply zA|apply zN|apply zD));exact (Kd.R_mono (Kd.R_far (p:=⟨gb469,3,none⟩) (Kd.R_far (p:=⟨gb469,2,none⟩) (Kd.R_far (p:=⟨gb469,1,none⟩) (Kd.R_far (p:=⟨gb469,0,none⟩) (Kd.R_types HO_468000.out BK469.out (by decide)) (fun _ hk => hk.2) (.slice A468_0 ((rd_T54 y461 x25_1).f0).length c468_0)) (fun _ hk => hk.2) (.int .u64 ((rd_T54 y461 x25_1).f1))) (fun _ hk => hk.2) (.int .u64 ((rd_T54 y461 x25_1).f2))) (fun _ hk => hk.2) (.int .u64 ((rd_T54 y461 x25_1).f3))) (fun _ h_ => h_.1))));(case side2 => exact (Kd.R_reads' HO_468000.out).2.1);(case side3 => exact Kd.C_below HR468_0.out (by repeat (first|(with_reducible first|exact HB.out|apply below_alloc|apply pw_below_drewN|apply below_drew1|refine below_set ?_ GE467.out|refine below_set ?_ GE469.out)|exact HB.out)));(case side4 => exact HC468_0.out);rintro e w129 ⟨v471,rfl,ho0,hb⟩;have n0_:=Aside0.mk (Kd.R_elder' (by (with_reducible repeat (first|apply zA|apply zN|apply zD));exact (Kd.R_mono (Kd.R_far (p:=⟨gb469,3,none⟩) (Kd.R_far (p:=⟨gb469,2,none⟩) (Kd.R_far (p:=⟨gb469,1,none⟩) (Kd.R_far (p:=⟨gb469,0,none⟩) (Kd.R_types HO_468000.out BK469.out (by decide)) (fun _ hk => hk.2) (.slice A468_0 ((rd_T54 y461 x25_1).f0).length c468_0)) (fun _ hk => hk.2) (.int .u64 ((rd_T54 y461 x25_1).f1))) (fun _ hk => hk.2) (.int .u64 ((rd_T54 y461 x25_1).f2))) (fun _ hk => hk.2) (.int .u64 ((rd_T54 y461 x25_1).f3))) (fun _ h_ => h_.1))) (Kd.R_base ho0) hb);have n1_:=Aside0.mk (Kd.R_lower (Kd.R_new' ho0 (Kd.R_lt (by (with_reducible repeat (first|apply zA|apply zN|apply zD));exact (Kd.R_mono (Kd.R_far (p:=⟨gb469,3,none⟩) (Kd.R_far (p:=⟨gb469,2,none⟩) (Kd.R_far (p:=⟨gb469,1,none⟩) (Kd.R_far (p:=⟨gb469,0,none⟩) (Kd.R_types HO_468000.out BK469.out (by decide)) (fun _ hk => hk.2) (.slice A468_0 ((rd_T54 y461 x25_1).f0).length c468_0)) (fun _ hk => hk.2) (.int .u64 ((rd_T54 y461 x25_1).f1))) (fun _ hk => hk.2) (.int .u64 ((rd_T54 y461 x25_1).f2))) (fun _ hk => hk.2) (.int .u64 ((rd_T54 y461 x25_1).f3))) (fun _ h_ => h_.1))))) (below_size (by repeat (first|(with_reducible first|exact HB.out|apply below_alloc|apply pw_below_drewN|apply below_drew1|refine below_set ?_ GE467.out|refine below_set ?_ GE469.out)|exact HB.out))));have n2_:=Aside0.mk (blk_below (g:=gb467) (o:=.cells #[.slice Ao128 x468000_1.length co128,.int .u64 x468001_1,.int .u64 x468002_1,.int .u64 x468003_1] 57 (0,0)) (by (with_reducible repeat (first|refine bN ?_ _|refine bD ?_|refine bA ?_ _));refine blk_far ?_ NB467_469.out _;(with_reducible repeat (first|refine bN ?_ _|refine bD ?_|refine bA ?_ _));refine blk_far ?_ NB467_469.out _;(with_reducible repeat (first|refine bN ?_ _|refine bD ?_|refine bA ?_ _));refine blk_far ?_ NB467_469.out _;(with_reducible repeat (first|refine bN ?_ _|refine bD ?_|refine bA ?_ _));refine blk_far ?_ NB467_469.out _;(with_reducible repeat (first|refine bN ?_ _|refine bD ?_|refine bA ?_ _));exact BK467.out) hb);have n3_:=Aside0.mk (blk_below (g:=gb469) (o:=.cells #[.slice A468_0 ((rd_T54 y461 x25_1).f0).length c468_0,.int .u64 ((rd_T54 y461 x25_1).f1),.int .u64 ((rd_T54 y461 x25_1).f2),.int .u64 ((rd_T54 y461 x25_1).f3)] 54 (0,0)) (by (with_reducible repeat (first|refine bN ?_ _|refine bD ?_|refine bA ?_ _));refine blk_put (cs:=#[.slice A468_0 ((rd_T54 y461 x25_1).f0).length c468_0,.int .u64 ((rd_T54 y461 x25_1).f1),.int .u64 ((rd_T54 y461 x25_1).f2),.int .u64 0]) ?_ 3 _ rfl;(with_reducible repeat (first|refine bN ?_ _|refine bD ?_|refine bA ?_ _));refine blk_put (cs:=#[.slice A468_0 ((rd_T54 y461 x25_1).f0).length c468_0,.int .u64 ((rd_T54 y461 x25_1).f1),.int .u64 0,.int .u64 0]) ?_ 2 _ rfl;(with_reducible repeat (first|refine bN ?_ _|refine bD ?_|refine bA ?_ _));refine blk_put (cs:=#[.slice A468_0 ((rd_T54 y461 x25_1).f0).length c468_0,.int .u64 0,.int .u64 0,.int .u64 0]) ?_ 1 _ rfl;(with_reducible repeat (first|refine bN ?_ _|refine bD ?_|refine bA ?_ _));refine blk_put (cs:=#[.slice none 0 0,.int .u64 0,.int .u64 0,.int .u64 0]) ?_ 0 _ rfl;(with_reducible repeat (first|refine bN ?_ _|refine bD ?_|refine bA ?_ _));exact BK469.out) hb);have n4_:=Aside0.mk (below_step (by repeat (first|(with_reducible first|exact HB.out|apply below_alloc|apply pw_below_drewN|apply below_drew1|refine below_set ?_ GE467.out|refine below_set ?_ GE469.out)|exact HB.out)) hb);clear HO_468000;clear BK467;clear BK469;clear HB;have HO_468000:=n0_;have HO472:=n1_;have BK467:=n2_;have BK469:=n3_;have HB:=n4_;clear n0_ n1_ n2_ n3_ n4_;(try clear hb);(try clear hb2);(try clear hk);(try clear hi);(try clear ho0))|((with_reducible refine gate_dst (N:=6) rfl ?_);(try (refine gate_guard (by rfl) ?_;dsimp only));refine box_event ?hg (N:=6) ?hd (cs:=#[.slice none 0 0,.int .u64 0,.int .u64 0,.int .u64 0]) (t:=57) ?hr ?_;(case hd => rfl);(case hg => rfl);(case hr => first|(go_simp;done)|(go_simp;rfl));intro gb477 hg w130 hbox hb;have n0_:=Aside0.mk (Kd.R_below (by (with_reducible repeat (first|apply zA|apply zN|apply zD));exact HO_468000.out) hb);have n1_:=Aside0.mk (Kd.R_below (by (with_reducible repeat (first|apply zA|apply zN|apply zD));exact HO472.out) hb);have n2_:=Aside0.mk (blk_below (g:=gb467) (o:=.cells #[.slice Ao128 x468000_1.length co128,.int .u64 x468001_1,.int .u64 x468002_1,.int .u64 x468003_1] 57 (0,0)) (by (with_reducible repeat (first|refine bN ?_ _|refine bD ?_|refine bA ?_ _));exact BK467.out) hb);have n3_:=Aside0.mk (blk_below (g:=gb469) (o:=.cells #[.slice A468_0 ((rd_T54 y461 x25_1).f0).length c468_0,.int .u64 ((rd_T54 y461 x25_1).f1),.int .u64 ((rd_T54 y461 x25_1).f2),.int .u64 ((rd_T54 y461 x25_1).f3)] 54 (0,0)) (by (with_reducible repeat (first|refine bN ?_ _|refine bD ?_|refine bA ?_ _));exact BK469.out) hb);have n4_:=Aside0.mk (below_step (by repeat (first|(with_reducible first|exact HB.out|apply below_alloc|apply pw_below_drewN|apply below_drew1|refine below_set ?_ GE467.out|refine below_set ?_ GE469.out)|exact HB.out)) hb);have n5_:=Aside0.mk (hbox);have n6_:=Aside0.mk ((by rw [hg];exact (below_size (by repeat (first|(with_reducible first|exact HB.out|apply below_alloc|apply pw_below_drewN|apply below_drew1|refine below_set ?_ GE467.out|refine below_set ?_ GE469.out)|exact HB.out))) : w.heap.size ≤ gb477));have n7_:=Aside0.mk ((by rw [hg];exact (below_size (by repeat (first|(with_reducible first|exact HB.out|apply below_alloc|apply pw_below_drewN|apply below_drew1|refine below_set ?_ GE467.out|refine below_set ?_ GE469.out)|exact HB.out))) : w.heap.size ≤ gb477));have n8_:=Aside0.mk ((by rw [hg];exact Nat.ne_of_lt (blk_lt (g:=gb467) (o:=.cells #[.slice Ao128 x468000_1.length co128,.int .u64 x468001_1,.int .u64 x468002_1,.int .u64 x468003_1] 57 (0,0)) (by (with_reducible repeat (first|refine bN ?_ _|refine bD ?_|refine bA ?_ _));exact BK467.out)) : gb467 ≠ gb477));have n9_:=Aside0.mk ((by rw [hg];exact Nat.ne_of_gt (blk_lt (g:=gb467) (o:=.cells #[.slice Ao128 x468000_1.length co128,.int .u64 x468001_1,.int .u64 x468002_1,.int .u64 x468003_1] 57 (0,0)) (by (with_reducible repeat (first|refine bN ?_ _|refine bD ?_|refine bA ?_ _));exact BK467.out)) : gb477 ≠ gb467));have n10_:=Aside0.mk ((by rw [hg];exact Nat.ne_of_lt (blk_lt (g:=gb469) (o:=.cells #[.slice A468_0 ((rd_T54 y461 x25_1).f0).length c468_0,.int .u64 ((rd_T54 y461 x25_1).f1),.int .u64 ((rd_T54 y461 x25_1).f2),.int .u64 ((rd_T54 y461 x25_1).f3)] 54 (0,0)) (by (with_reducible repeat (first|refine bN ?_ _|refine bD ?_|refine bA ?_ _));exact BK469.out)) : gb469 ≠ gb477));have n11_:=Aside0.mk ((by rw [hg];exact Nat.ne_of_gt (blk_lt (g:=gb469) (o:=.cells #[.slice A468_0 ((rd_T54 y461 x25_1).f0).length c468_0,.int .u64 ((rd_T54 y461 x25_1).f1),.int .u64 ((rd_T54 y461 x25_1).f2),.int .u64 ((rd_T54 y461 x25_1).f3)] 54 (0,0)) (by (with_reducible repeat (first|refine bN ?_ _|refine bD ?_|refine bA ?_ _));exact BK469.out)) : gb477 ≠ gb469));clear HO_468000;clear HO472;clear BK467;clear BK469;clear HB;have HO_468000:=n0_;have HO472:=n1_;have BK467:=n2_;have BK469:=n3_;have HB:=n4_;have BK477:=n5_;have GW477:=n6_;have GE477:=n7_;have NB467_477:=n8_;have NB477_467:=n9_;have NB469_477:=n10_;have NB477_469:=n11_;clear n0_ n1_ n2_ n3_ n4_ n5_ n6_ n7_ n8_ n9_ n10_ n11_;clear hb hbox hg;obtain ⟨Ao131,co131,eo131⟩:=Kd.R_slice HO472.out;subst eo131;have hnb132:=NB477_467.out;have hnc132:=NB467_477.out;have hnb133:=NB477_469.out;have hnc133:=NB469_477.out;have hcz134_0 : w130.cell? ⟨gb477,0,none⟩ = some (.slice none 0 0):=(blk_cell BK477.out 0).trans rfl;have hcz134_1 : w130.cell? ⟨gb477,1,none⟩ = some (.int .u64 0):=(blk_cell BK477.out 1).trans rfl;have hcz134_2 : w130.cell? ⟨gb477,2,none⟩ = some (.int .u64 0):=(blk_cell BK477.out 2).trans rfl;have hcz134_3 : w130.cell? ⟨gb477,3,none⟩ = some (.int .u64 0):=(blk_cell BK477.out 3).trans rfl;have hfz134_0:=blk_frozen BK477.out 0;have hfz134_1:=blk_frozen BK477.out 1;have hfz134_2:=blk_frozen BK477.out 2;have hfz134_3:=blk_frozen BK477.out 3;have hcz135_0 : w130.cell? ⟨gb467,0,none⟩ = some (.slice Ao128 x468000_1.length co128):=(blk_cell BK467.out 0).trans rfl;have hcz135_1 : w130.cell? ⟨gb467,1,none⟩ = some (.int .u64 x468001_1):=(blk_cell BK467.out 1).trans rfl;have hcz135_2 : w130.cell? ⟨gb467,2,none⟩ = some (.int .u64 x468002_1):=(blk_cell BK467.out 2).trans rfl;have hcz135_3 : w130.cell? ⟨gb467,3,none⟩ = some (.int .u64 x468003_1):=(blk_cell BK467.out 3).trans rfl;have hfz135_0:=blk_frozen BK467.out 0;have hfz135_1:=blk_frozen BK467.out 1;have hfz135_2:=blk_frozen BK467.out 2;have hfz135_3:=blk_frozen BK467.out 3)|(go_at_call 44;(with_reducible refine (ratlinelaw09_Versions.calls k1 _ _ t470 t473 t474 t475 _ _ x468000_1 x468001_1 x468002_1 x468003_1 true _ ?side1 ?side2 ?side3 ?side4 A122.out).mono ?_);(case side1 => refine (Kd.R_reads' (e:=62) (base:=w.heap.size) (ok:=fun k_ => (True ∧ nB k_ Ao128 x468000_1.length co128)) (n:=t470.length) (c:=co131) ?_).2.2;exact (by (with_reducible repeat (first|apply zA|apply zN|apply zD));exact (Kd.R_mono (Kd.R_far (p:=⟨gb477,3,none⟩) (Kd.R_far (p:=⟨gb477,2,none⟩) (Kd.R_far (p:=⟨gb477,1,none⟩) (Kd.R_far (p:=⟨gb477,0,none⟩) (Kd.R_types HO472.out BK477.out (by decide)) (fun _ hk => hk.2) (.slice Ao131 t470.length co131)) (fun _ hk => hk.2) (.int .u64 t473)) (fun _ hk => hk.2) (.int .u64 t474)) (fun _ hk => hk.2) (.int .u64 t475)) (fun _ h_ => h_.1))));(case side2 => exact (Kd.R_reads' HO472.out).2.1);(case side3 => refine (Kd.R_reads' (e:=62) (base:=w.heap.size) (ok:=fun k_ => (True ∧ nB k_ Ao131 t470.length co131)) (n:=x468000_1.length) (c:=co128) ?_).2.2;exact (by (with_reducible repeat (first|apply zA|apply zN|apply zD));exact (Kd.R_mono (Kd.R_far (p:=⟨gb477,3,none⟩) (Kd.R_far (p:=⟨gb477,2,none⟩) (Kd.R_far (p:=⟨gb477,1,none⟩) (Kd.R_far (p:=⟨gb477,0,none⟩) (Kd.R_types HO_468000.out BK477.out (by decide)) (fun _ hk => hk.2) (.slice Ao131 t470.length co131)) (fun _ hk => hk.2) (.int .u64 t473)) (fun _ hk => hk.2) (.int .u64 t474)) (fun _ hk => hk.2) (.int .u64 t475)) (fun _ h_ => h_.1))));(case side4 => exact (Kd.R_reads' HO_468000.out).2.1);rintro e w136 ⟨rfl,hb⟩;have n0_:=Aside0.mk (Kd.R_below (by (with_reducible repeat (first|apply zA|apply zN|apply zD));exact (Kd.R_mono (Kd.R_far (p:=⟨gb477,3,none⟩) (Kd.R_far (p:=⟨gb477,2,none⟩) (Kd.R_far (p:=⟨gb477,1,none⟩) (Kd.R_far (p:=⟨gb477,0,none⟩) (Kd.R_types HO_468000.out BK477.out (by decide)) (fun _ hk => hk.2) (.slice Ao131 t470.length co131)) (fun _ hk => hk.2) (.int .u64 t473)) (fun _ hk => hk.2) (.int .u64 t474)) (fun _ hk => hk.2) (.int .u64 t475)) (fun _ h_ => h_.1))) hb);have n1_:=Aside0.mk (Kd.R_below (by (with_reducible repeat (first|apply zA|apply zN|apply zD));exact (Kd.R_mono (Kd.R_far (p:=⟨gb477,3,none⟩) (Kd.R_far (p:=⟨gb477,2,none⟩) (Kd.R_far (p:=⟨gb477,1,none⟩) (Kd.R_far (p:=⟨gb477,0,none⟩) (Kd.R_types HO472.out BK477.out (by decide)) (fun _ hk => hk.2) (.slice Ao131 t470.length co131)) (fun _ hk => hk.2) (.int .u64 t473)) (fun _ hk => hk.2) (.int .u64 t474)) (fun _ hk => hk.2) (.int .u64 t475)) (fun _ h_ => h_.1))) hb);have n2_:=Aside0.mk (blk_below (g:=gb467) (o:=.cells #[.slice Ao128 x468000_1.length co128,.int .u64 x468001_1,.int .u64 x468002_1,.int .u64 x468003_1] 57 (0,0)) (by (with_reducible repeat (first|refine bN ?_ _|refine bD ?_|refine bA ?_ _));refine blk_far ?_ NB467_477.out _;(with_reducible repeat (first|refine bN ?_ _|refine bD ?_|refine bA ?_ _));refine blk_far ?_ NB467_477.out _;(with_reducible repeat (first|refine bN ?_ _|refine bD ?_|refine bA ?_ _));refine blk_far ?_ NB467_477.out _;(with_reducible repeat (first|refine bN ?_ _|refine bD ?_|refine bA ?_ _));refine blk_far ?_ NB467_477.out _;(with_reducible repeat (first|refine bN ?_ _|refine bD ?_|refine bA ?_ _));exact BK467.out) hb);have n3_:=Aside0.mk (blk_below (g:=gb469) (o:=.cells #[.slice A468_0 ((rd_T54 y461 x25_1).f0).length c468_0,.int .u64 ((rd_T54 y461 x25_1).f1),.int .u64 ((rd_T54 y461 x25_1).f2),.int .u64 ((rd_T54 y461 x25_1).f3)] 54 (0,0)) (by (with_reducible repeat (first|refine bN ?_ _|refine bD ?_|refine bA ?_ _));refine blk_far ?_ NB469_477.out _;(with_reducible repeat (first|refine bN ?_ _|refine bD ?_|refine bA ?_ _));refine blk_far ?_ NB469_477.out _;(with_reducible repeat (first|refine bN ?_ _|refine bD ?_|refine bA ?_ _));refine blk_far ?_ NB469_477.out _;(with_reducible repeat (first|refine bN ?_ _|refine bD ?_|refine bA ?_ _));refine blk_far ?_ NB469_477.out _;(with_reducible repeat (first|refine bN ?_ _|refine bD ?_|refine bA ?_ _));exact BK469.out) hb);have n4_:=Aside0.mk (blk_below (g:=gb477) (o:=.cells #[.slice Ao131 t470.length co131,.int .u64 t473,.int .u64 t474,.int .u64 t475] 57 (0,0)) (by (with_reducible repeat (first|refine bN ?_ _|refine bD ?_|refine bA ?_ _));refine blk_put (cs:=#[.slice Ao131 t470.length co131,.int .u64 t473,.int .u64 t474,.int .u64 0]) ?_ 3 _ rfl;(with_reducible repeat (first|refine bN ?_ _|refine bD ?_|refine bA ?_ _));refine blk_put (cs:=#[.slice Ao131 t470.length co131,.int .u64 t473,.int .u64 0,.int .u64 0]) ?_ 2 _ rfl;(with_reducible repeat (first|refine bN ?_ _|refine bD ?_|refine bA ?_ _));refine blk_put (cs:=#[.slice Ao131 t470.length co131,.int .u64 0,.int .u64 0,.int .u64 0]) ?_ 1 _ rfl;(with_reducible repeat (first|refine bN ?_ _|refine bD ?_|refine bA ?_ _));refine blk_put (cs:=#[.slice none 0 0,.int .u64 0,.int .u64 0,.int .u64 0]) ?_ 0 _ rfl;(with_reducible repeat (first|refine bN ?_ _|refine bD ?_|refine bA ?_ _));exact BK477.out) hb);have n5_:=Aside0.mk (below_step (by repeat (first|(with_reducible first|exact HB.out|apply below_alloc|apply pw_below_drewN|apply below_drew1|refine below_set ?_ GE467.out|refine below_set ?_ GE469.out|refine below_set ?_ GE477.out)|exact HB.out)) hb);clear HO_468000;clear HO472;clear BK467;clear BK469;clear BK477;clear HB;have HO_468000:=n0_;have HO472:=n1_;have BK467:=n2_;have BK469:=n3_;have BK477:=n4_;have HB:=n5_;clear n0_ n1_ n2_ n3_ n4_ n5_;(try clear hb);(try clear hb2);(try clear hk);(try clear hi)))
      repeat (go_quiet (fail);try go_wp2)
      go_roundg k1
      case measure => have:=HK1.out;omega
      case rel => exact ⟨(wrap64 (x25_1 + 1)),(x468000_1),(x468001_1),(x468002_1),(x468003_1),(.slice Ao128 x468000_1.length co128),(by first|rfl|(simp;done)|(simp [*];done)),H',⟨by have:=HK1.out;omega⟩,⟨by (with_reducible repeat (first|apply zA|apply zN|apply zD));exact Kd.R_mono HO_468000.out (fun _ hk => trivial)⟩,⟨by (with_reducible repeat (first|refine bN ?_ _|refine bD ?_|refine bA ?_ _));exact BK467.out⟩,⟨by repeat (first|(with_reducible first|exact HB.out|apply below_alloc|apply pw_below_drewN|apply below_drew1|refine below_set ?_ GE467.out|refine below_set ?_ GE469.out|refine below_set ?_ GE477.out)|exact HB.out)⟩⟩
     ·replace c123:=Bool.eq_false_iff.mpr c123
      subst c123
      have H1 : (none) = some r:=by rw [if_neg (show ¬ (false = true) by decide)] at H;exact H
      clear H
      have H:=H1
      clear H1
      exact absurd H (by simp)
    rw [if_pos c15] at H
    have c15b0 : (t476 == 0) = true:=beq_iff_eq.mpr c15
    have c15b1 : (t476 != 0) = false:=bne_eq_false_iff_eq.mpr c15
    clear c15
    have HC16:=Aside0.mk H
    clear H
    have p468 : 0 ≤ (x25_1 : Int):=of_decide_eq_true (by first|(with_reducible assumption)|assumption)
    have q468 : x25_1 < (y461.length : Int):=of_decide_eq_true (by first|(with_reducible assumption)|assumption)
    obtain ⟨ad468,A468_0,c468_0,e468,hx468_0,hx468_1,hx468_2,hx468_3,hl468_0,hi468_0⟩:=at_T54 HR464.out x25_1 p468 q468
    cases e468
    replace hx468_0:=(HB.out.cell (World.block_lt_of_cell? w _ hx468_0)).trans hx468_0
    replace hx468_1:=(HB.out.cell (World.block_lt_of_cell? w _ hx468_1)).trans hx468_1
    replace hx468_2:=(HB.out.cell (World.block_lt_of_cell? w _ hx468_2)).trans hx468_2
    replace hx468_3:=(HB.out.cell (World.block_lt_of_cell? w _ hx468_3)).trans hx468_3
    have HR468_0:=Aside0.mk hi468_0
    have HC468_0:=Aside0.mk hl468_0
    clear hi468_0 hl468_0
    replace p468:=eq_true p468
    replace q468:=eq_true q468
    go_upto_region 12 with (first|((with_reducible refine gate_dst (N:=5) rfl ?_);(try (refine gate_guard (by rfl) ?_;dsimp only));refine box_event ?hg (N:=5) ?hd (cs:=#[.slice none 0 0,.int .u64 0,.int .u64 0,.int .u64 0]) (t:=54) ?hr ?_;(case hd => rfl);(case hg => rfl);(case hr => first|(go_simp;done)|(go_simp;rfl));intro gb469 hg w17 hbox hb;have n0_:=Aside0.mk (Kd.R_below (by (with_reducible repeat (first|apply zA|apply zN|apply zD));exact HO_468000.out) hb);have n1_:=Aside0.mk (blk_below (g:=gb467) (o:=.cells #[u468000,.int .u64 x468001_1,.int .u64 x468002_1,.int .u64 x468003_1] 57 (0,0)) (by (with_reducible repeat (first|refine bN ?_ _|refine bD ?_|refine bA ?_ _));exact BK467.out) hb);have n2_:=Aside0.mk (below_step (by repeat (first|(with_reducible first|exact HB.out|apply below_alloc|apply pw_below_drewN|apply below_drew1|refine below_set ?_ GE467.out)|exact HB.out)) hb);have n3_:=Aside0.mk (hbox);have n4_:=Aside0.mk ((by rw [hg];exact (below_size (by repeat (first|(with_reducible first|exact HB.out|apply below_alloc|apply pw_below_drewN|apply below_drew1|refine below_set ?_ GE467.out)|exact HB.out))) : w.heap.size ≤ gb469));have n5_:=Aside0.mk ((by rw [hg];exact (below_size (by repeat (first|(with_reducible first|exact HB.out|apply below_alloc|apply pw_below_drewN|apply below_drew1|refine below_set ?_ GE467.out)|exact HB.out))) : w.heap.size ≤ gb469));have n6_:=Aside0.mk ((by rw [hg];exact Nat.ne_of_lt (blk_lt (g:=gb467) (o:=.cells #[u468000,.int .u64 x468001_1,.int .u64 x468002_1,.int .u64 x468003_1] 57 (0,0)) (by (with_reducible repeat (first|refine bN ?_ _|refine bD ?_|refine bA ?_ _));exact BK467.out)) : gb467 ≠ gb469));have n7_:=Aside0.mk ((by rw [hg];exact Nat.ne_of_gt (blk_lt (g:=gb467) (o:=.cells #[u468000,.int .u64 x468001_1,.int .u64 x468002_1,.int .u64 x468003_1] 57 (0,0)) (by (with_reducible repeat (first|refine bN ?_ _|refine bD ?_|refine bA ?_ _));exact BK467.out)) : gb469 ≠ gb467));clear HO_468000;clear BK467;clear HB;have HO_468000:=n0_;have BK467:=n1_;have HB:=n2_;have BK469:=n3_;have GW469:=n4_;have GE469:=n5_;have NB467_469:=n6_;have NB469_467:=n7_;clear n0_ n1_ n2_ n3_ n4_ n5_ n6_ n7_;clear hb hbox hg;have hnb18:=NB469_467.out;have hnc18:=NB467_469.out;have hcz19_0 : w17.cell? ⟨gb469,0,none⟩ = some (.slice none 0 0):=(blk_cell BK469.out 0).trans rfl;have hcz19_1 : w17.cell? ⟨gb469,1,none⟩ = some (.int .u64 0):=(blk_cell BK469.out 1).trans rfl;have hcz19_2 : w17.cell? ⟨gb469,2,none⟩ = some (.int .u64 0):=(blk_cell BK469.out 2).trans rfl;have hcz19_3 : w17.cell? ⟨gb469,3,none⟩ = some (.int .u64 0):=(blk_cell BK469.out 3).trans rfl;have hfz19_0:=blk_frozen BK469.out 0;have hfz19_1:=blk_frozen BK469.out 1;have hfz19_2:=blk_frozen BK469.out 2;have hfz19_3:=blk_frozen BK469.out 3;have hcz20_0 : w17.cell? ⟨gb467,0,none⟩ = some (u468000):=(blk_cell BK467.out 0).trans rfl;have hcz20_1 : w17.cell? ⟨gb467,1,none⟩ = some (.int .u64 x468001_1):=(blk_cell BK467.out 1).trans rfl;have hcz20_2 : w17.cell? ⟨gb467,2,none⟩ = some (.int .u64 x468002_1):=(blk_cell BK467.out 2).trans rfl;have hcz20_3 : w17.cell? ⟨gb467,3,none⟩ = some (.int .u64 x468003_1):=(blk_cell BK467.out 3).trans rfl;have hfz20_0:=blk_frozen BK467.out 0;have hfz20_1:=blk_frozen BK467.out 1;have hfz20_2:=blk_frozen BK467.out 2;have hfz20_3:=blk_frozen BK467.out 3;obtain ⟨Ao21,co21,eo21⟩:=Kd.R_slice HO_468000.out;subst eo21)|(go_at_call 32;(with_reducible refine (edit_Apply.calls _ _ x468000_1 x468001_1 x468002_1 x468003_1 _ _ ((rd_T54 y461 x25_1).f0) ((rd_T54 y461 x25_1).f1) ((rd_T54 y461 x25_1).f2) ((rd_T54 y461 x25_1).f3) t470 t473 t474 t475 t476 _ ?side1 ?side2 ?side3 ?side4 A14.out).mono ?_);(case side1 => refine (Kd.R_reads' (e:=62) (base:=w.heap.size) (ok:=fun k_ => True) (n:=x468000_1.length) (c:=co21) ?_).2.2;exact (by (with_reducible repeat (first|apply zA|apply zN|apply zD));exact (Kd.R_mono (Kd.R_far (p:=⟨gb469,3,none⟩) (Kd.R_far (p:=⟨gb469,2,none⟩) (Kd.R_far (p:=⟨gb469,1,none⟩) (Kd.R_far (p:=⟨gb469,0,none⟩) (Kd.R_types HO_468000.out BK469.out (by decide)) (fun _ hk => hk.2) (.slice A468_0 ((rd_T54 y461 x25_1).f0).length c468_0)) (fun _ hk => hk.2) (.int .u64 ((rd_T54 y461 x25_1).f1))) (fun _ hk => hk.2) (.int .u64 ((rd_T54 y461 x25_1).f2))) (fun _ hk => hk.2) (.int .u64 ((rd_T54 y461 x25_1).f3))) (fun _ h_ => h_.1))));(case side2 => exact (Kd.R_reads' HO_468000.out).2.1);(case side3 => exact Kd.C_below HR468_0.out (by repeat (first|(with_reducible first|exact HB.out|apply below_alloc|apply pw_below_drewN|apply below_drew1|refine below_set ?_ GE467.out|refine below_set ?_ GE469.out)|exact HB.out)));(case side4 => exact HC468_0.out);rintro e w22 ⟨v471,rfl,ho0,hb⟩;have n0_:=Aside0.mk (Kd.R_elder' (by (with_reducible repeat (first|apply zA|apply zN|apply zD));exact (Kd.R_mono (Kd.R_far (p:=⟨gb469,3,none⟩) (Kd.R_far (p:=⟨gb469,2,none⟩) (Kd.R_far (p:=⟨gb469,1,none⟩) (Kd.R_far (p:=⟨gb469,0,none⟩) (Kd.R_types HO_468000.out BK469.out (by decide)) (fun _ hk => hk.2) (.slice A468_0 ((rd_T54 y461 x25_1).f0).length c468_0)) (fun _ hk => hk.2) (.int .u64 ((rd_T54 y461 x25_1).f1))) (fun _ hk => hk.2) (.int .u64 ((rd_T54 y461 x25_1).f2))) (fun _ hk => hk.2) (.int .u64 ((rd_T54 y461 x25_1).f3))) (fun _ h_ => h_.1))) (Kd.R_base ho0) hb);have n1_:=Aside0.mk (Kd.R_lower (Kd.R_new' ho0 (Kd.R_lt (by (with_reducible repeat (first|apply zA|apply zN|apply zD));exact (Kd.R_mono (Kd.R_far (p:=⟨gb469,3,none⟩) (Kd.R_far (p:=⟨gb469,2,none⟩) (Kd.R_far (p:=⟨gb469,1,none⟩) (Kd.R_far (p:=⟨gb469,0,none⟩) (Kd.R_types HO_468000.out BK469.out (by decide)) (fun _ hk => hk.2) (.slice A468_0 ((rd_T54 y461 x25_1).f0).length c468_0)) (fun _ hk => hk.2) (.int .u64 ((rd_T54 y461 x25_1).f1))) (fun _ hk => hk.2) (.int .u64 ((rd_T54 y461 x25_1).f2))) (fun _ hk => hk.2) (.int .u64 ((rd_T54 y461 x25_1).f3))) (fun _ h_ => h_.1))))) (below_size (by repeat (first|(with_reducible first|exact HB.out|apply below_alloc|apply pw_below_drewN|apply below_drew1|refine below_set ?_ GE467.out|refine below_set ?_ GE469.out)|exact HB.out))));have n2_:=Aside0.mk (blk_below (g:=gb467) (o:=.cells #[.slice Ao21 x468000_1.length co21,.int .u64 x468001_1,.int .u64 x468002_1,.int .u64 x468003_1] 57 (0,0)) (by (with_reducible repeat (first|refine bN ?_ _|refine bD ?_|refine bA ?_ _));refine blk_far ?_ NB467_469.out _;(with_reducible repeat (first|refine bN ?_ _|refine bD ?_|refine bA ?_ _));refine blk_far ?_ NB467_469.out _;(with_reducible repeat (first|refine bN ?_ _|refine bD ?_|refine bA ?_ _));refine blk_far ?_ NB467_469.out _;(with_reducible repeat (first|refine bN ?_ _|refine bD ?_|refine bA ?_ _));refine blk_far ?_ NB467_469.out _;(with_reducible repeat (first|refine bN ?_ _|refine bD ?_|refine bA ?_ _));exact BK467.out) hb);have n3_:=Aside0.mk (blk_below (g:=gb469) (o:=.cells #[.slice A468_0 ((rd_T54 y461 x25_1).f0).length c468_0,.int .u64 ((rd_T54 y461 x25_1).f1),.int .u64 ((rd_T54 y461 x25_1).f2),.int .u64 ((rd_T54 y461 x25_1).f3)] 54 (0,0)) (by (with_reducible repeat (first|refine bN ?_ _|refine bD ?_|refine bA ?_ _));refine blk_put (cs:=#[.slice A468_0 ((rd_T54 y461 x25_1).f0).length c468_0,.int .u64 ((rd_T54 y461 x25_1).f1),.int .u64 ((rd_T54 y461 x25_1).f2),.int .u64 0]) ?_ 3 _ rfl;(with_reducible repeat (first|refine bN ?_ _|refine bD ?_|refine bA ?_ _));refine blk_put (cs:=#[.slice A468_0 ((rd_T54 y461 x25_1).f0).length c468_0,.int .u64 ((rd_T54 y461 x25_1).f1),.int .u64 0,.int .u64 0]) ?_ 2 _ rfl;(with_reducible repeat (first|refine bN ?_ _|refine bD ?_|refine bA ?_ _));refine blk_put (cs:=#[.slice A468_0 ((rd_T54 y461 x25_1).f0).length c468_0,.int .u64 0,.int .u64 0,.int .u64 0]) ?_ 1 _ rfl;(with_reducible repeat (first|refine bN ?_ _|refine bD ?_|refine bA ?_ _));refine blk_put (cs:=#[.slice none 0 0,.int .u64 0,.int .u64 0,.int .u64 0]) ?_ 0 _ rfl;(with_reducible repeat (first|refine bN ?_ _|refine bD ?_|refine bA ?_ _));exact BK469.out) hb);have n4_:=Aside0.mk (below_step (by repeat (first|(with_reducible first|exact HB.out|apply below_alloc|apply pw_below_drewN|apply below_drew1|refine below_set ?_ GE467.out|refine below_set ?_ GE469.out)|exact HB.out)) hb);clear HO_468000;clear BK467;clear BK469;clear HB;have HO_468000:=n0_;have HO472:=n1_;have BK467:=n2_;have BK469:=n3_;have HB:=n4_;clear n0_ n1_ n2_ n3_ n4_;(try clear hb);(try clear hb2);(try clear hk);(try clear hi);(try clear ho0))|((with_reducible refine gate_dst (N:=6) rfl ?_);(try (refine gate_guard (by rfl) ?_;dsimp only));refine box_event ?hg (N:=6) ?hd (cs:=#[.slice none 0 0,.int .u64 0,.int .u64 0,.int .u64 0]) (t:=57) ?hr ?_;(case hd => rfl);(case hg => rfl);(case hr => first|(go_simp;done)|(go_simp;rfl));intro gb477 hg w23 hbox hb;have n0_:=Aside0.mk (Kd.R_below (by (with_reducible repeat (first|apply zA|apply zN|apply zD));exact HO_468000.out) hb);have n1_:=Aside0.mk (Kd.R_below (by (with_reducible repeat (first|apply zA|apply zN|apply zD));exact HO472.out) hb);have n2_:=Aside0.mk (blk_below (g:=gb467) (o:=.cells #[.slice Ao21 x468000_1.length co21,.int .u64 x468001_1,.int .u64 x468002_1,.int .u64 x468003_1] 57 (0,0)) (by (with_reducible repeat (first|refine bN ?_ _|refine bD ?_|refine bA ?_ _));exact BK467.out) hb);have n3_:=Aside0.mk (blk_below (g:=gb469) (o:=.cells #[.slice A468_0 ((rd_T54 y461 x25_1).f0).length c468_0,.int .u64 ((rd_T54 y461 x25_1).f1),.int .u64 ((rd_T54 y461 x25_1).f2),.int .u64 ((rd_T54 y461 x25_1).f3)] 54 (0,0)) (by (with_reducible repeat (first|refine bN ?_ _|refine bD ?_|refine bA ?_ _));exact BK469.out) hb);have n4_:=Aside0.mk (below_step (by repeat (first|(with_reducible first|exact HB.out|apply below_alloc|apply pw_below_drewN|apply below_drew1|refine below_set ?_ GE467.out|refine below_set ?_ GE469.out)|exact HB.out)) hb);have n5_:=Aside0.mk (hbox);have n6_:=Aside0.mk ((by rw [hg];exact (below_size (by repeat (first|(with_reducible first|exact HB.out|apply below_alloc|apply pw_below_drewN|apply below_drew1|refine below_set ?_ GE467.out|refine below_set ?_ GE469.out)|exact HB.out))) : w.heap.size ≤ gb477));have n7_:=Aside0.mk ((by rw [hg];exact (below_size (by repeat (first|(with_reducible first|exact HB.out|apply below_alloc|apply pw_below_drewN|apply below_drew1|refine below_set ?_ GE467.out|refine below_set ?_ GE469.out)|exact HB.out))) : w.heap.size ≤ gb477));have n8_:=Aside0.mk ((by rw [hg];exact Nat.ne_of_lt (blk_lt (g:=gb467) (o:=.cells #[.slice Ao21 x468000_1.length co21,.int .u64 x468001_1,.int .u64 x468002_1,.int .u64 x468003_1] 57 (0,0)) (by (with_reducible repeat (first|refine bN ?_ _|refine bD ?_|refine bA ?_ _));exact BK467.out)) : gb467 ≠ gb477));have n9_:=Aside0.mk ((by rw [hg];exact Nat.ne_of_gt (blk_lt (g:=gb467) (o:=.cells #[.slice Ao21 x468000_1.length co21,.int .u64 x468001_1,.int .u64 x468002_1,.int .u64 x468003_1] 57 (0,0)) (by (with_reducible repeat (first|refine bN ?_ _|refine bD ?_|refine bA ?_ _));exact BK467.out)) : gb477 ≠ gb467));have n10_:=Aside0.mk ((by rw [hg];exact Nat.ne_of_lt (blk_lt (g:=gb469) (o:=.cells #[.slice A468_0 ((rd_T54 y461 x25_1).f0).length c468_0,.int .u64 ((rd_T54 y461 x25_1).f1),.int .u64 ((rd_T54 y461 x25_1).f2),.int .u64 ((rd_T54 y461 x25_1).f3)] 54 (0,0)) (by (with_reducible repeat (first|refine bN ?_ _|refine bD ?_|refine bA ?_ _));exact BK469.out)) : gb469 ≠ gb477));have n11_:=Aside0.mk ((by rw [hg];exact Nat.ne_of_gt (blk_lt (g:=gb469) (o:=.cells #[.slice A468_0 ((rd_T54 y461 x25_1).f0).length c468_0,.int .u64 ((rd_T54 y461 x25_1).f1),.int .u64 ((rd_T54 y461 x25_1).f2),.int .u64 ((rd_T54 y461 x25_1).f3)] 54 (0,0)) (by (with_reducible repeat (first|refine bN ?_ _|refine bD ?_|refine bA ?_ _));exact BK469.out)) : gb477 ≠ gb469));clear HO_468000;clear HO472;clear BK467;clear BK469;clear HB;have HO_468000:=n0_;have HO472:=n1_;have BK467:=n2_;have BK469:=n3_;have HB:=n4_;have BK477:=n5_;have GW477:=n6_;have GE477:=n7_;have NB467_477:=n8_;have NB477_467:=n9_;have NB469_477:=n10_;have NB477_469:=n11_;clear n0_ n1_ n2_ n3_ n4_ n5_ n6_ n7_ n8_ n9_ n10_ n11_;clear hb hbox hg;obtain ⟨Ao24,co24,eo24⟩:=Kd.R_slice HO472.out;subst eo24;have hnb25:=NB477_467.out;have hnc25:=NB467_477.out;have hnb26:=NB477_469.out;have hnc26:=NB469_477.out;have hcz27_0 : w23.cell? ⟨gb477,0,none⟩ = some (.slice none 0 0):=(blk_cell BK477.out 0).trans rfl;have hcz27_1 : w23.cell? ⟨gb477,1,none⟩ = some (.int .u64 0):=(blk_cell BK477.out 1).trans rfl;have hcz27_2 : w23.cell? ⟨gb477,2,none⟩ = some (.int .u64 0):=(blk_cell BK477.out 2).trans rfl;have hcz27_3 : w23.cell? ⟨gb477,3,none⟩ = some (.int .u64 0):=(blk_cell BK477.out 3).trans rfl;have hfz27_0:=blk_frozen BK477.out 0;have hfz27_1:=blk_frozen BK477.out 1;have hfz27_2:=blk_frozen BK477.out 2;have hfz27_3:=blk_frozen BK477.out 3))
    repeat (go_quiet (fail);try go_wp2)
    (try simp only [Act.put,sA,sZ,sS])
    go_cut [81] (fun v81 wc => ∃ (kq : Nat) (x81_15 : Bool),v81 = .bool x81_15 ∧ Aside0 (ratlinelaw09_EditGrows.j1 kq y461 (y461.length : Int) x25_1 x81_15 x468000_1 x468001_1 x468002_1 x468003_1 t470 t473 t474 t475 = some r) ∧ Aside0 (kq ≤ k1) ∧ Aside0 (Kd.R k62 62 wc w.heap.size (fun k_ => nO k_ ((.slice Ao24 t470.length co24))) (.slice Ao21 x468000_1.length co21) x468000_1) ∧ Aside0 (Kd.R k62 62 wc w.heap.size (fun k_ => nO k_ ((.slice Ao21 x468000_1.length co21))) (.slice Ao24 t470.length co24) t470) ∧ Aside0 (wc.heap[gb467]? = some (.cells #[(.slice Ao21 x468000_1.length co21),.int .u64 x468001_1,.int .u64 x468002_1,.int .u64 x468003_1] 57 (0,0))) ∧ Aside0 (wc.heap[gb469]? = some (.cells #[(.slice A468_0 ((rd_T54 y461 x25_1).f0).length c468_0),.int .u64 ((rd_T54 y461 x25_1).f1),.int .u64 ((rd_T54 y461 x25_1).f2),.int .u64 ((rd_T54 y461 x25_1).f3)] 54 (0,0))) ∧ Aside0 (wc.heap[gb477]? = some (.cells #[(.slice Ao24 t470.length co24),.int .u64 t473,.int .u64 t474,.int .u64 t475] 57 (0,0))) ∧ Aside0 (Below w.heap.size w wc))
    case first =>
     have H:=HC16.out
     clear HC16
     by_cases c28 : t473 < x468001_1
     ·rw [if_pos c28] at H
      have c28b0 : decide (t473 < x468001_1) = true:=decide_eq_true c28
      clear c28
      (first|rw [c28b0]|(simp only [i64_w,i32_w];rw [c28b0])|skip)
      have H':=Aside0.mk H
      clear H
      have hnb29:=NB477_467.out
      have hnc29:=NB467_477.out
      have hnb30:=NB477_469.out
      have hnc30:=NB469_477.out
      have hcz31_0 : w23.cell? ⟨gb477,0,none⟩ = some (.slice none 0 0):=(blk_cell BK477.out 0).trans rfl
      have hcz31_1 : w23.cell? ⟨gb477,1,none⟩ = some (.int .u64 0):=(blk_cell BK477.out 1).trans rfl
      have hcz31_2 : w23.cell? ⟨gb477,2,none⟩ = some (.int .u64 0):=(blk_cell BK477.out 2).trans rfl
      have hcz31_3 : w23.cell? ⟨gb477,3,none⟩ = some (.int .u64 0):=(blk_cell BK477.out 3).trans rfl
      have hfz31_0:=blk_frozen BK477.out 0
      have hfz31_1:=blk_frozen BK477.out 1
      have hfz31_2:=blk_frozen BK477.out 2
      have hfz31_3:=blk_frozen BK477.out 3
      have hnb32:=NB467_469.out
      have hnc32:=NB469_467.out
      have hcz33_0 : w23.cell? ⟨gb467,0,none⟩ = some (.slice Ao21 x468000_1.length co21):=(blk_cell BK467.out 0).trans rfl
      have hcz33_1 : w23.cell? ⟨gb467,1,none⟩ = some (.int .u64 x468001_1):=(blk_cell BK467.out 1).trans rfl
      have hcz33_2 : w23.cell? ⟨gb467,2,none⟩ = some (.int .u64 x468002_1):=(blk_cell BK467.out 2).trans rfl
      have hcz33_3 : w23.cell? ⟨gb467,3,none⟩ = some (.int .u64 x468003_1):=(blk_cell BK467.out 3).trans rfl
      have hfz33_0:=blk_frozen BK467.out 0
      have hfz33_1:=blk_frozen BK467.out 1
      have hfz33_2:=blk_frozen BK467.out 2
      have hfz33_3:=blk_frozen BK467.out 3
      go_wp2
      repeat (go_quiet (fail);try go_wp2)
      go_meet
      case rel => exact ⟨_,(true),(by first|rfl|(simp;done)|(simp [*];done)),H',⟨by have:=HK1.out;first|omega|exact Nat.le_refl _⟩,⟨by (with_reducible repeat (first|apply zA|apply zN|apply zD));exact Kd.R_mono (Kd.R_far (p:=⟨gb477,3,none⟩) (Kd.R_far (p:=⟨gb477,2,none⟩) (Kd.R_far (p:=⟨gb477,1,none⟩) (Kd.R_far (p:=⟨gb477,0,none⟩) (Kd.R_types HO_468000.out BK477.out (by decide)) (fun _ hk => hk.2) (.slice Ao24 t470.length co24)) (fun _ hk => hk.2) (.int .u64 t473)) (fun _ hk => hk.2) (.int .u64 t474)) (fun _ hk => hk.2) (.int .u64 t475)) (fun _ hk => hk.1.2)⟩,⟨by (with_reducible repeat (first|apply zA|apply zN|apply zD));exact Kd.R_mono (Kd.R_far (p:=⟨gb477,3,none⟩) (Kd.R_far (p:=⟨gb477,2,none⟩) (Kd.R_far (p:=⟨gb477,1,none⟩) (Kd.R_far (p:=⟨gb477,0,none⟩) (Kd.R_types HO472.out BK477.out (by decide)) (fun _ hk => hk.2) (.slice Ao24 t470.length co24)) (fun _ hk => hk.2) (.int .u64 t473)) (fun _ hk => hk.2) (.int .u64 t474)) (fun _ hk => hk.2) (.int .u64 t475)) (fun _ hk => hk.1.2)⟩,⟨by (with_reducible repeat (first|refine bN ?_ _|refine bD ?_|refine bA ?_ _));refine blk_far ?_ NB467_477.out _;(with_reducible repeat (first|refine bN ?_ _|refine bD ?_|refine bA ?_ _));refine blk_far ?_ NB467_477.out _;(with_reducible repeat (first|refine bN ?_ _|refine bD ?_|refine bA ?_ _));refine blk_far ?_ NB467_477.out _;(with_reducible repeat (first|refine bN ?_ _|refine bD ?_|refine bA ?_ _));refine blk_far ?_ NB467_477.out _;(with_reducible repeat (first|refine bN ?_ _|refine bD ?_|refine bA ?_ _));exact BK467.out⟩,⟨by (with_reducible repeat (first|refine bN ?_ _|refine bD ?_|refine bA ?_ _));refine blk_far ?_ NB469_477.out _;(with_reducible repeat (first|refine bN ?_ _|refine bD ?_|refine bA ?_ _));refine blk_far ?_ NB469_477.out _;(with_reducible repeat (first|refine bN ?_ _|refine bD ?_|refine bA ?_ _));refine blk_far ?_ NB469_477.out _;(with_reducible repeat (first|refine bN ?_ _|refine bD ?_|refine bA ?_ _));refine blk_far ?_ NB469_477.out _;(with_reducible repeat (first|refine bN ?_ _|refine bD ?_|refine bA ?_ _));exact BK469.out⟩,⟨by (with_reducible repeat (first|refine bN ?_ _|refine bD ?_|refine bA ?_ _));refine blk_put (cs:=#[.slice Ao24 t470.length co24,.int .u64 t473,.int .u64 t474,.int .u64 0]) ?_ 3 _ rfl;(with_reducible repeat (first|refine bN ?_ _|refine bD ?_|refine bA ?_ _));refine blk_put (cs:=#[.slice Ao24 t470.length co24,.int .u64 t473,.int .u64 0,.int .u64 0]) ?_ 2 _ rfl;(with_reducible repeat (first|refine bN ?_ _|refine bD ?_|refine bA ?_ _));refine blk_put (cs:=#[.slice Ao24 t470.length co24,.int .u64 0,.int .u64 0,.int .u64 0]) ?_ 1 _ rfl;(with_reducible repeat (first|refine bN ?_ _|refine bD ?_|refine bA ?_ _));refine blk_put (cs:=#[.slice none 0 0,.int .u64 0,.int .u64 0,.int .u64 0]) ?_ 0 _ rfl;(with_reducible repeat (first|refine bN ?_ _|refine bD ?_|refine bA ?_ _));exact BK477.out⟩,⟨by repeat (first|(with_reducible first|exact HB.out|apply below_alloc|apply pw_below_drewN|apply below_drew1|refine below_set ?_ GE467.out|refine below_set ?_ GE469.out|refine below_set ?_ GE477.out)|exact HB.out)⟩⟩
     ·rw [if_neg c28] at H
      have c28b0 : decide (t473 < x468001_1) = false:=decide_eq_false c28
      clear c28
      (first|rw [c28b0]|(simp only [i64_w,i32_w];rw [c28b0])|skip)
      by_cases c34 : t474 < x468002_1
      ·rw [if_pos c34] at H
       have c34b0 : decide (t474 < x468002_1) = true:=decide_eq_true c34
       clear c34
       have H':=Aside0.mk H
       clear H
       have hnb35:=NB477_467.out
       have hnc35:=NB467_477.out
       have hnb36:=NB477_469.out
       have hnc36:=NB469_477.out
       have hcz37_0 : w23.cell? ⟨gb477,0,none⟩ = some (.slice none 0 0):=(blk_cell BK477.out 0).trans rfl
       have hcz37_1 : w23.cell? ⟨gb477,1,none⟩ = some (.int .u64 0):=(blk_cell BK477.out 1).trans rfl
       have hcz37_2 : w23.cell? ⟨gb477,2,none⟩ = some (.int .u64 0):=(blk_cell BK477.out 2).trans rfl
       have hcz37_3 : w23.cell? ⟨gb477,3,none⟩ = some (.int .u64 0):=(blk_cell BK477.out 3).trans rfl
       have hfz37_0:=blk_frozen BK477.out 0
       have hfz37_1:=blk_frozen BK477.out 1
       have hfz37_2:=blk_frozen BK477.out 2
       have hfz37_3:=blk_frozen BK477.out 3
       have hnb38:=NB467_469.out
       have hnc38:=NB469_467.out
       have hcz39_0 : w23.cell? ⟨gb467,0,none⟩ = some (.slice Ao21 x468000_1.length co21):=(blk_cell BK467.out 0).trans rfl
       have hcz39_1 : w23.cell? ⟨gb467,1,none⟩ = some (.int .u64 x468001_1):=(blk_cell BK467.out 1).trans rfl
       have hcz39_2 : w23.cell? ⟨gb467,2,none⟩ = some (.int .u64 x468002_1):=(blk_cell BK467.out 2).trans rfl
       have hcz39_3 : w23.cell? ⟨gb467,3,none⟩ = some (.int .u64 x468003_1):=(blk_cell BK467.out 3).trans rfl
       have hfz39_0:=blk_frozen BK467.out 0
       have hfz39_1:=blk_frozen BK467.out 1
       have hfz39_2:=blk_frozen BK467.out 2
       have hfz39_3:=blk_frozen BK467.out 3
       go_wp2
       repeat (go_quiet (fail);try go_wp2)
       go_meet
       case rel => exact ⟨_,(true),(by first|rfl|(simp;done)|(simp [*];done)),H',⟨by have:=HK1.out;first|omega|exact Nat.le_refl _⟩,⟨by (with_reducible repeat (first|apply zA|apply zN|apply zD));exact Kd.R_mono (Kd.R_far (p:=⟨gb477,3,none⟩) (Kd.R_far (p:=⟨gb477,2,none⟩) (Kd.R_far (p:=⟨gb477,1,none⟩) (Kd.R_far (p:=⟨gb477,0,none⟩) (Kd.R_types HO_468000.out BK477.out (by decide)) (fun _ hk => hk.2) (.slice Ao24 t470.length co24)) (fun _ hk => hk.2) (.int .u64 t473)) (fun _ hk => hk.2) (.int .u64 t474)) (fun _ hk => hk.2) (.int .u64 t475)) (fun _ hk => hk.1.2)⟩,⟨by (with_reducible repeat (first|apply zA|apply zN|apply zD));exact Kd.R_mono (Kd.R_far (p:=⟨gb477,3,none⟩) (Kd.R_far (p:=⟨gb477,2,none⟩) (Kd.R_far (p:=⟨gb477,1,none⟩) (Kd.R_far (p:=⟨gb477,0,none⟩) (Kd.R_types HO472.out BK477.out (by decide)) (fun _ hk => hk.2) (.slice Ao24 t470.length co24)) (fun _ hk => hk.2) (.int .u64 t473)) (fun _ hk => hk.2) (.int .u64 t474)) (fun _ hk => hk.2) (.int .u64 t475)) (fun _ hk => hk.1.2)⟩,⟨by (with_reducible repeat (first|refine bN ?_ _|refine bD ?_|refine bA ?_ _));refine blk_far ?_ NB467_477.out _;(with_reducible repeat (first|refine bN ?_ _|refine bD ?_|refine bA ?_ _));refine blk_far ?_ NB467_477.out _;(with_reducible repeat (first|refine bN ?_ _|refine bD ?_|refine bA ?_ _));refine blk_far ?_ NB467_477.out _;(with_reducible repeat (first|refine bN ?_ _|refine bD ?_|refine bA ?_ _));refine blk_far ?_ NB467_477.out _;(with_reducible repeat (first|refine bN ?_ _|refine bD ?_|refine bA ?_ _));exact BK467.out⟩,⟨by (with_reducible repeat (first|refine bN ?_ _|refine bD ?_|refine bA ?_ _));refine blk_far ?_ NB469_477.out _;(with_reducible repeat (first|refine bN ?_ _|refine bD ?_|refine bA ?_ _));refine blk_far ?_ NB469_477.out _;(with_reducible repeat (first|refine bN ?_ _|refine bD ?_|refine bA ?_ _));refine blk_far ?_ NB469_477.out _;(with_reducible repeat (first|refine bN ?_ _|refine bD ?_|refine bA ?_ _));refine blk_far ?_ NB469_477.out _;(with_reducible repeat (first|refine bN ?_ _|refine bD ?_|refine bA ?_ _));exact BK469.out⟩,⟨by (with_reducible repeat (first|refine bN ?_ _|refine bD ?_|refine bA ?_ _));refine blk_put (cs:=#[.slice Ao24 t470.length co24,.int .u64 t473,.int .u64 t474,.int .u64 0]) ?_ 3 _ rfl;(with_reducible repeat (first|refine bN ?_ _|refine bD ?_|refine bA ?_ _));refine blk_put (cs:=#[.slice Ao24 t470.length co24,.int .u64 t473,.int .u64 0,.int .u64 0]) ?_ 2 _ rfl;(with_reducible repeat (first|refine bN ?_ _|refine bD ?_|refine bA ?_ _));refine blk_put (cs:=#[.slice Ao24 t470.length co24,.int .u64 0,.int .u64 0,.int .u64 0]) ?_ 1 _ rfl;(with_reducible repeat (first|refine bN ?_ _|refine bD ?_|refine bA ?_ _));refine blk_put (cs:=#[.slice none 0 0,.int .u64 0,.int .u64 0,.int .u64 0]) ?_ 0 _ rfl;(with_reducible repeat (first|refine bN ?_ _|refine bD ?_|refine bA ?_ _));exact BK477.out⟩,⟨by repeat (first|(with_reducible first|exact HB.out|apply below_alloc|apply pw_below_drewN|apply below_drew1|refine below_set ?_ GE467.out|refine below_set ?_ GE469.out|refine below_set ?_ GE477.out)|exact HB.out)⟩⟩
      ·rw [if_neg c34] at H
       have c34b0 : decide (t474 < x468002_1) = false:=decide_eq_false c34
       clear c34
       by_cases c40 : t475 < x468003_1
       ·rw [if_pos c40] at H
        have c40b0 : decide (t475 < x468003_1) = true:=decide_eq_true c40
        clear c40
        have H':=Aside0.mk H
        clear H
        have hnb41:=NB477_467.out
        have hnc41:=NB467_477.out
        have hnb42:=NB477_469.out
        have hnc42:=NB469_477.out
        have hcz43_0 : w23.cell? ⟨gb477,0,none⟩ = some (.slice none 0 0):=(blk_cell BK477.out 0).trans rfl
        have hcz43_1 : w23.cell? ⟨gb477,1,none⟩ = some (.int .u64 0):=(blk_cell BK477.out 1).trans rfl
        have hcz43_2 : w23.cell? ⟨gb477,2,none⟩ = some (.int .u64 0):=(blk_cell BK477.out 2).trans rfl
        have hcz43_3 : w23.cell? ⟨gb477,3,none⟩ = some (.int .u64 0):=(blk_cell BK477.out 3).trans rfl
        have hfz43_0:=blk_frozen BK477.out 0
        have hfz43_1:=blk_frozen BK477.out 1
        have hfz43_2:=blk_frozen BK477.out 2
        have hfz43_3:=blk_frozen BK477.out 3
        have hnb44:=NB467_469.out
        have hnc44:=NB469_467.out
        have hcz45_0 : w23.cell? ⟨gb467,0,none⟩ = some (.slice Ao21 x468000_1.length co21):=(blk_cell BK467.out 0).trans rfl
        have hcz45_1 : w23.cell? ⟨gb467,1,none⟩ = some (.int .u64 x468001_1):=(blk_cell BK467.out 1).trans rfl
        have hcz45_2 : w23.cell? ⟨gb467,2,none⟩ = some (.int .u64 x468002_1):=(blk_cell BK467.out 2).trans rfl
        have hcz45_3 : w23.cell? ⟨gb467,3,none⟩ = some (.int .u64 x468003_1):=(blk_cell BK467.out 3).trans rfl
        have hfz45_0:=blk_frozen BK467.out 0
        have hfz45_1:=blk_frozen BK467.out 1
        have hfz45_2:=blk_frozen BK467.out 2
        have hfz45_3:=blk_frozen BK467.out 3
        go_wp2
        repeat (go_quiet (fail);try go_wp2)
        go_meet
        case rel => exact ⟨_,(true),(by first|rfl|(simp;done)|(simp [*];done)),H',⟨by have:=HK1.out;first|omega|exact Nat.le_refl _⟩,⟨by (with_reducible repeat (first|apply zA|apply zN|apply zD));exact Kd.R_mono (Kd.R_far (p:=⟨gb477,3,none⟩) (Kd.R_far (p:=⟨gb477,2,none⟩) (Kd.R_far (p:=⟨gb477,1,none⟩) (Kd.R_far (p:=⟨gb477,0,none⟩) (Kd.R_types HO_468000.out BK477.out (by decide)) (fun _ hk => hk.2) (.slice Ao24 t470.length co24)) (fun _ hk => hk.2) (.int .u64 t473)) (fun _ hk => hk.2) (.int .u64 t474)) (fun _ hk => hk.2) (.int .u64 t475)) (fun _ hk => hk.1.2)⟩,⟨by (with_reducible repeat (first|apply zA|apply zN|apply zD));exact Kd.R_mono (Kd.R_far (p:=⟨gb477,3,none⟩) (Kd.R_far (p:=⟨gb477,2,none⟩) (Kd.R_far (p:=⟨gb477,1,none⟩) (Kd.R_far (p:=⟨gb477,0,none⟩) (Kd.R_types HO472.out BK477.out (by decide)) (fun _ hk => hk.2) (.slice Ao24 t470.length co24)) (fun _ hk => hk.2) (.int .u64 t473)) (fun _ hk => hk.2) (.int .u64 t474)) (fun _ hk => hk.2) (.int .u64 t475)) (fun _ hk => hk.1.2)⟩,⟨by (with_reducible repeat (first|refine bN ?_ _|refine bD ?_|refine bA ?_ _));refine blk_far ?_ NB467_477.out _;(with_reducible repeat (first|refine bN ?_ _|refine bD ?_|refine bA ?_ _));refine blk_far ?_ NB467_477.out _;(with_reducible repeat (first|refine bN ?_ _|refine bD ?_|refine bA ?_ _));refine blk_far ?_ NB467_477.out _;(with_reducible repeat (first|refine bN ?_ _|refine bD ?_|refine bA ?_ _));refine blk_far ?_ NB467_477.out _;(with_reducible repeat (first|refine bN ?_ _|refine bD ?_|refine bA ?_ _));exact BK467.out⟩,⟨by (with_reducible repeat (first|refine bN ?_ _|refine bD ?_|refine bA ?_ _));refine blk_far ?_ NB469_477.out _;(with_reducible repeat (first|refine bN ?_ _|refine bD ?_|refine bA ?_ _));refine blk_far ?_ NB469_477.out _;(with_reducible repeat (first|refine bN ?_ _|refine bD ?_|refine bA ?_ _));refine blk_far ?_ NB469_477.out _;(with_reducible repeat (first|refine bN ?_ _|refine bD ?_|refine bA ?_ _));refine blk_far ?_ NB469_477.out _;(with_reducible repeat (first|refine bN ?_ _|refine bD ?_|refine bA ?_ _));exact BK469.out⟩,⟨by (with_reducible repeat (first|refine bN ?_ _|refine bD ?_|refine bA ?_ _));refine blk_put (cs:=#[.slice Ao24 t470.length co24,.int .u64 t473,.int .u64 t474,.int .u64 0]) ?_ 3 _ rfl;(with_reducible repeat (first|refine bN ?_ _|refine bD ?_|refine bA ?_ _));refine blk_put (cs:=#[.slice Ao24 t470.length co24,.int .u64 t473,.int .u64 0,.int .u64 0]) ?_ 2 _ rfl;(with_reducible repeat (first|refine bN ?_ _|refine bD ?_|refine bA ?_ _));refine blk_put (cs:=#[.slice Ao24 t470.length co24,.int .u64 0,.int .u64 0,.int .u64 0]) ?_ 1 _ rfl;(with_reducible repeat (first|refine bN ?_ _|refine bD ?_|refine bA ?_ _));refine blk_put (cs:=#[.slice none 0 0,.int .u64 0,.int .u64 0,.int .u64 0]) ?_ 0 _ rfl;(with_reducible repeat (first|refine bN ?_ _|refine bD ?_|refine bA ?_ _));exact BK477.out⟩,⟨by repeat (first|(with_reducible first|exact HB.out|apply below_alloc|apply pw_below_drewN|apply below_drew1|refine below_set ?_ GE467.out|refine below_set ?_ GE469.out|refine below_set ?_ GE477.out)|exact HB.out)⟩⟩
       ·rw [if_neg c40] at H
        have c40b0 : decide (t475 < x468003_1) = false:=decide_eq_false c40
        clear c40
        by_cases c46 : (t470.length : Int) = (wrap64 ((x468000_1.length : Int) + (((rd_T54 y461 x25_1).f0).length : Int)))
        ·rw [if_pos c46] at H
         have c46b0 : ((t470.length : Int) == (wrap64 ((x468000_1.length : Int) + (((rd_T54 y461 x25_1).f0).length : Int)))) = true:=beq_iff_eq.mpr c46
         have c46b1 : ((t470.length : Int) != (wrap64 ((x468000_1.length : Int) + (((rd_T54 y461 x25_1).f0).length : Int)))) = false:=bne_eq_false_iff_eq.mpr c46
         clear c46
         replace H:=Option.bind_eq_some_iff.mp H
         obtain ⟨t479,A470,H⟩:=H
         replace H : (ratlinelaw09_EditGrows.j1 k1 y461 (y461.length : Int) x25_1 (!t479) x468000_1 x468001_1 x468002_1 x468003_1 t470 t473 t474 t475) = some r:=H
         have A47:=Aside0.mk A470
         clear A470
         have H':=Aside0.mk H
         clear H
         have hnb48:=NB477_467.out
         have hnc48:=NB467_477.out
         have hnb49:=NB477_469.out
         have hnc49:=NB469_477.out
         have hcz50_0 : w23.cell? ⟨gb477,0,none⟩ = some (.slice none 0 0):=(blk_cell BK477.out 0).trans rfl
         have hcz50_1 : w23.cell? ⟨gb477,1,none⟩ = some (.int .u64 0):=(blk_cell BK477.out 1).trans rfl
         have hcz50_2 : w23.cell? ⟨gb477,2,none⟩ = some (.int .u64 0):=(blk_cell BK477.out 2).trans rfl
         have hcz50_3 : w23.cell? ⟨gb477,3,none⟩ = some (.int .u64 0):=(blk_cell BK477.out 3).trans rfl
         have hfz50_0:=blk_frozen BK477.out 0
         have hfz50_1:=blk_frozen BK477.out 1
         have hfz50_2:=blk_frozen BK477.out 2
         have hfz50_3:=blk_frozen BK477.out 3
         have hnb51:=NB467_469.out
         have hnc51:=NB469_467.out
         have hcz52_0 : w23.cell? ⟨gb467,0,none⟩ = some (.slice Ao21 x468000_1.length co21):=(blk_cell BK467.out 0).trans rfl
         have hcz52_1 : w23.cell? ⟨gb467,1,none⟩ = some (.int .u64 x468001_1):=(blk_cell BK467.out 1).trans rfl
         have hcz52_2 : w23.cell? ⟨gb467,2,none⟩ = some (.int .u64 x468002_1):=(blk_cell BK467.out 2).trans rfl
         have hcz52_3 : w23.cell? ⟨gb467,3,none⟩ = some (.int .u64 x468003_1):=(blk_cell BK467.out 3).trans rfl
         have hfz52_0:=blk_frozen BK467.out 0
         have hfz52_1:=blk_frozen BK467.out 1
         have hfz52_2:=blk_frozen BK467.out 2
         have hfz52_3:=blk_frozen BK467.out 3
         have hcz53_0 : w23.cell? ⟨gb469,0,none⟩ = some (.slice A468_0 ((rd_T54 y461 x25_1).f0).length c468_0):=(blk_cell BK469.out 0).trans rfl
         have hcz53_1 : w23.cell? ⟨gb469,1,none⟩ = some (.int .u64 ((rd_T54 y461 x25_1).f1)):=(blk_cell BK469.out 1).trans rfl
         have hcz53_2 : w23.cell? ⟨gb469,2,none⟩ = some (.int .u64 ((rd_T54 y461 x25_1).f2)):=(blk_cell BK469.out 2).trans rfl
         have hcz53_3 : w23.cell? ⟨gb469,3,none⟩ = some (.int .u64 ((rd_T54 y461 x25_1).f3)):=(blk_cell BK469.out 3).trans rfl
         have hfz53_0:=blk_frozen BK469.out 0
         have hfz53_1:=blk_frozen BK469.out 1
         have hfz53_2:=blk_frozen BK469.out 2
         have hfz53_3:=blk_frozen BK469.out 3
         go_wp2_with (first|(go_at_call 33;(with_reducible refine (edit_Right.calls k1 _ _ ((rd_T54 y461 x25_1).f0) ((rd_T54 y461 x25_1).f1) ((rd_T54 y461 x25_1).f2) ((rd_T54 y461 x25_1).f3) t479 _ ?side1 ?side2 A47.out).mono ?_);(case side1 => exact Kd.C_below HR468_0.out (by repeat (first|(with_reducible first|exact HB.out|apply below_alloc|apply pw_below_drewN|apply below_drew1|refine below_set ?_ GE467.out|refine below_set ?_ GE469.out|refine below_set ?_ GE477.out)|exact HB.out)));(case side2 => exact HC468_0.out);rintro e w54 ⟨rfl,hb⟩;have n0_:=Aside0.mk (Kd.R_below (by (with_reducible repeat (first|apply zA|apply zN|apply zD));exact (Kd.R_mono (Kd.R_far (p:=⟨gb477,3,none⟩) (Kd.R_far (p:=⟨gb477,2,none⟩) (Kd.R_far (p:=⟨gb477,1,none⟩) (Kd.R_far (p:=⟨gb477,0,none⟩) (Kd.R_types HO_468000.out BK477.out (by decide)) (fun _ hk => hk.2) (.slice Ao24 t470.length co24)) (fun _ hk => hk.2) (.int .u64 t473)) (fun _ hk => hk.2) (.int .u64 t474)) (fun _ hk => hk.2) (.int .u64 t475)) (fun _ h_ => h_.1))) hb);have n1_:=Aside0.mk (Kd.R_below (by (with_reducible repeat (first|apply zA|apply zN|apply zD));exact (Kd.R_mono (Kd.R_far (p:=⟨gb477,3,none⟩) (Kd.R_far (p:=⟨gb477,2,none⟩) (Kd.R_far (p:=⟨gb477,1,none⟩) (Kd.R_far (p:=⟨gb477,0,none⟩) (Kd.R_types HO472.out BK477.out (by decide)) (fun _ hk => hk.2) (.slice Ao24 t470.length co24)) (fun _ hk => hk.2) (.int .u64 t473)) (fun _ hk => hk.2) (.int .u64 t474)) (fun _ hk => hk.2) (.int .u64 t475)) (fun _ h_ => h_.1))) hb);have n2_:=Aside0.mk (blk_below (g:=gb467) (o:=.cells #[.slice Ao21 x468000_1.length co21,.int .u64 x468001_1,.int .u64 x468002_1,.int .u64 x468003_1] 57 (0,0)) (by (with_reducible repeat (first|refine bN ?_ _|refine bD ?_|refine bA ?_ _));refine blk_far ?_ NB467_477.out _;(with_reducible repeat (first|refine bN ?_ _|refine bD ?_|refine bA ?_ _));refine blk_far ?_ NB467_477.out _;(with_reducible repeat (first|refine bN ?_ _|refine bD ?_|refine bA ?_ _));refine blk_far ?_ NB467_477.out _;(with_reducible repeat (first|refine bN ?_ _|refine bD ?_|refine bA ?_ _));refine blk_far ?_ NB467_477.out _;(with_reducible repeat (first|refine bN ?_ _|refine bD ?_|refine bA ?_ _));exact BK467.out) hb);have n3_:=Aside0.mk (blk_below (g:=gb469) (o:=.cells #[.slice A468_0 ((rd_T54 y461 x25_1).f0).length c468_0,.int .u64 ((rd_T54 y461 x25_1).f1),.int .u64 ((rd_T54 y461 x25_1).f2),.int .u64 ((rd_T54 y461 x25_1).f3)] 54 (0,0)) (by (with_reducible repeat (first|refine bN ?_ _|refine bD ?_|refine bA ?_ _));refine blk_far ?_ NB469_477.out _;(with_reducible repeat (first|refine bN ?_ _|refine bD ?_|refine bA ?_ _));refine blk_far ?_ NB469_477.out _;(with_reducible repeat (first|refine bN ?_ _|refine bD ?_|refine bA ?_ _));refine blk_far ?_ NB469_477.out _;(with_reducible repeat (first|refine bN ?_ _|refine bD ?_|refine bA ?_ _));refine blk_far ?_ NB469_477.out _;(with_reducible repeat (first|refine bN ?_ _|refine bD ?_|refine bA ?_ _));exact BK469.out) hb);have n4_:=Aside0.mk (blk_below (g:=gb477) (o:=.cells #[.slice Ao24 t470.length co24,.int .u64 t473,.int .u64 t474,.int .u64 t475] 57 (0,0)) (by (with_reducible repeat (first|refine bN ?_ _|refine bD ?_|refine bA ?_ _));refine blk_put (cs:=#[.slice Ao24 t470.length co24,.int .u64 t473,.int .u64 t474,.int .u64 0]) ?_ 3 _ rfl;(with_reducible repeat (first|refine bN ?_ _|refine bD ?_|refine bA ?_ _));refine blk_put (cs:=#[.slice Ao24 t470.length co24,.int .u64 t473,.int .u64 0,.int .u64 0]) ?_ 2 _ rfl;(with_reducible repeat (first|refine bN ?_ _|refine bD ?_|refine bA ?_ _));refine blk_put (cs:=#[.slice Ao24 t470.length co24,.int .u64 0,.int .u64 0,.int .u64 0]) ?_ 1 _ rfl;(with_reducible repeat (first|refine bN ?_ _|refine bD ?_|refine bA ?_ _));refine blk_put (cs:=#[.slice none 0 0,.int .u64 0,.int .u64 0,.int .u64 0]) ?_ 0 _ rfl;(with_reducible repeat (first|refine bN ?_ _|refine bD ?_|refine bA ?_ _));exact BK477.out) hb);have n5_:=Aside0.mk (below_step (by repeat (first|(with_reducible first|exact HB.out|apply below_alloc|apply pw_below_drewN|apply below_drew1|refine below_set ?_ GE467.out|refine below_set ?_ GE469.out|refine below_set ?_ GE477.out)|exact HB.out)) hb);clear HO_468000;clear HO472;clear BK467;clear BK469;clear BK477;clear HB;have HO_468000:=n0_;have HO472:=n1_;have BK467:=n2_;have BK469:=n3_;have BK477:=n4_;have HB:=n5_;clear n0_ n1_ n2_ n3_ n4_ n5_;(try clear hb);(try clear hb2);(try clear hk);(try clear hi)))
         repeat (go_quiet (fail);try go_wp2)
         go_meet
         case rel => exact ⟨_,(!t479),(by first|rfl|(simp;done)|(simp [*];done)),H',⟨by have:=HK1.out;first|omega|exact Nat.le_refl _⟩,⟨by (with_reducible repeat (first|apply zA|apply zN|apply zD));exact Kd.R_mono HO_468000.out (fun _ hk => hk.2)⟩,⟨by (with_reducible repeat (first|apply zA|apply zN|apply zD));exact Kd.R_mono HO472.out (fun _ hk => hk.2)⟩,⟨by (with_reducible repeat (first|refine bN ?_ _|refine bD ?_|refine bA ?_ _));exact BK467.out⟩,⟨by (with_reducible repeat (first|refine bN ?_ _|refine bD ?_|refine bA ?_ _));exact BK469.out⟩,⟨by (with_reducible repeat (first|refine bN ?_ _|refine bD ?_|refine bA ?_ _));exact BK477.out⟩,⟨by repeat (first|(with_reducible first|exact HB.out|apply below_alloc|apply pw_below_drewN|apply below_drew1|refine below_set ?_ GE467.out|refine below_set ?_ GE469.out|refine below_set ?_ GE477.out)|exact HB.out)⟩⟩
        ·rw [if_neg c46] at H
         have c46b0 : ((t470.length : Int) == (wrap64 ((x468000_1.length : Int) + (((rd_T54 y461 x25_1).f0).length : Int)))) = false:=beq_eq_false_iff_ne.mpr c46
         have c46b1 : ((t470.length : Int) != (wrap64 ((x468000_1.length : Int) + (((rd_T54 y461 x25_1).f0).length : Int)))) = true:=bne_iff_ne.mpr c46
         have H':=Aside0.mk H
         clear H
         have hnb55:=NB477_467.out
         have hnc55:=NB467_477.out
         have hnb56:=NB477_469.out
         have hnc56:=NB469_477.out
         have hcz57_0 : w23.cell? ⟨gb477,0,none⟩ = some (.slice none 0 0):=(blk_cell BK477.out 0).trans rfl
         have hcz57_1 : w23.cell? ⟨gb477,1,none⟩ = some (.int .u64 0):=(blk_cell BK477.out 1).trans rfl
         have hcz57_2 : w23.cell? ⟨gb477,2,none⟩ = some (.int .u64 0):=(blk_cell BK477.out 2).trans rfl
         have hcz57_3 : w23.cell? ⟨gb477,3,none⟩ = some (.int .u64 0):=(blk_cell BK477.out 3).trans rfl
         have hfz57_0:=blk_frozen BK477.out 0
         have hfz57_1:=blk_frozen BK477.out 1
         have hfz57_2:=blk_frozen BK477.out 2
         have hfz57_3:=blk_frozen BK477.out 3
         have hnb58:=NB467_469.out
         have hnc58:=NB469_467.out
         have hcz59_0 : w23.cell? ⟨gb467,0,none⟩ = some (.slice Ao21 x468000_1.length co21):=(blk_cell BK467.out 0).trans rfl
         have hcz59_1 : w23.cell? ⟨gb467,1,none⟩ = some (.int .u64 x468001_1):=(blk_cell BK467.out 1).trans rfl
         have hcz59_2 : w23.cell? ⟨gb467,2,none⟩ = some (.int .u64 x468002_1):=(blk_cell BK467.out 2).trans rfl
         have hcz59_3 : w23.cell? ⟨gb467,3,none⟩ = some (.int .u64 x468003_1):=(blk_cell BK467.out 3).trans rfl
         have hfz59_0:=blk_frozen BK467.out 0
         have hfz59_1:=blk_frozen BK467.out 1
         have hfz59_2:=blk_frozen BK467.out 2
         have hfz59_3:=blk_frozen BK467.out 3
         have hcz60_0 : w23.cell? ⟨gb469,0,none⟩ = some (.slice A468_0 ((rd_T54 y461 x25_1).f0).length c468_0):=(blk_cell BK469.out 0).trans rfl
         have hcz60_1 : w23.cell? ⟨gb469,1,none⟩ = some (.int .u64 ((rd_T54 y461 x25_1).f1)):=(blk_cell BK469.out 1).trans rfl
         have hcz60_2 : w23.cell? ⟨gb469,2,none⟩ = some (.int .u64 ((rd_T54 y461 x25_1).f2)):=(blk_cell BK469.out 2).trans rfl
         have hcz60_3 : w23.cell? ⟨gb469,3,none⟩ = some (.int .u64 ((rd_T54 y461 x25_1).f3)):=(blk_cell BK469.out 3).trans rfl
         have hfz60_0:=blk_frozen BK469.out 0
         have hfz60_1:=blk_frozen BK469.out 1
         have hfz60_2:=blk_frozen BK469.out 2
         have hfz60_3:=blk_frozen BK469.out 3
         go_wp2
         repeat (go_quiet (fail);try go_wp2)
         go_meet
         case rel => exact ⟨_,(true),(by first|rfl|(simp;done)|(simp [*];done)),H',⟨by have:=HK1.out;first|omega|exact Nat.le_refl _⟩,⟨by (with_reducible repeat (first|apply zA|apply zN|apply zD));exact Kd.R_mono (Kd.R_far (p:=⟨gb477,3,none⟩) (Kd.R_far (p:=⟨gb477,2,none⟩) (Kd.R_far (p:=⟨gb477,1,none⟩) (Kd.R_far (p:=⟨gb477,0,none⟩) (Kd.R_types HO_468000.out BK477.out (by decide)) (fun _ hk => hk.2) (.slice Ao24 t470.length co24)) (fun _ hk => hk.2) (.int .u64 t473)) (fun _ hk => hk.2) (.int .u64 t474)) (fun _ hk => hk.2) (.int .u64 t475)) (fun _ hk => hk.1.2)⟩,⟨by (with_reducible repeat (first|apply zA|apply zN|apply zD));exact Kd.R_mono (Kd.R_far (p:=⟨gb477,3,none⟩) (Kd.R_far (p:=⟨gb477,2,none⟩) (Kd.R_far (p:=⟨gb477,1,none⟩) (Kd.R_far (p:=⟨gb477,0,none⟩) (Kd.R_types HO472.out BK477.out (by decide)) (fun _ hk => hk.2) (.slice Ao24 t470.length co24)) (fun _ hk => hk.2) (.int .u64 t473)) (fun _ hk => hk.2) (.int .u64 t474)) (fun _ hk => hk.2) (.int .u64 t475)) (fun _ hk => hk.1.2)⟩,⟨by (with_reducible repeat (first|refine bN ?_ _|refine bD ?_|refine bA ?_ _));refine blk_far ?_ NB467_477.out _;(with_reducible repeat (first|refine bN ?_ _|refine bD ?_|refine bA ?_ _));refine blk_far ?_ NB467_477.out _;(with_reducible repeat (first|refine bN ?_ _|refine bD ?_|refine bA ?_ _));refine blk_far ?_ NB467_477.out _;(with_reducible repeat (first|refine bN ?_ _|refine bD ?_|refine bA ?_ _));refine blk_far ?_ NB467_477.out _;(with_reducible repeat (first|refine bN ?_ _|refine bD ?_|refine bA ?_ _));exact BK467.out⟩,⟨by (with_reducible repeat (first|refine bN ?_ _|refine bD ?_|refine bA ?_ _));refine blk_far ?_ NB469_477.out _;(with_reducible repeat (first|refine bN ?_ _|refine bD ?_|refine bA ?_ _));refine blk_far ?_ NB469_477.out _;(with_reducible repeat (first|refine bN ?_ _|refine bD ?_|refine bA ?_ _));refine blk_far ?_ NB469_477.out _;(with_reducible repeat (first|refine bN ?_ _|refine bD ?_|refine bA ?_ _));refine blk_far ?_ NB469_477.out _;(with_reducible repeat (first|refine bN ?_ _|refine bD ?_|refine bA ?_ _));exact BK469.out⟩,⟨by (with_reducible repeat (first|refine bN ?_ _|refine bD ?_|refine bA ?_ _));refine blk_put (cs:=#[.slice Ao24 t470.length co24,.int .u64 t473,.int .u64 t474,.int .u64 0]) ?_ 3 _ rfl;(with_reducible repeat (first|refine bN ?_ _|refine bD ?_|refine bA ?_ _));refine blk_put (cs:=#[.slice Ao24 t470.length co24,.int .u64 t473,.int .u64 0,.int .u64 0]) ?_ 2 _ rfl;(with_reducible repeat (first|refine bN ?_ _|refine bD ?_|refine bA ?_ _));refine blk_put (cs:=#[.slice Ao24 t470.length co24,.int .u64 0,.int .u64 0,.int .u64 0]) ?_ 1 _ rfl;(with_reducible repeat (first|refine bN ?_ _|refine bD ?_|refine bA ?_ _));refine blk_put (cs:=#[.slice none 0 0,.int .u64 0,.int .u64 0,.int .u64 0]) ?_ 0 _ rfl;(with_reducible repeat (first|refine bN ?_ _|refine bD ?_|refine bA ?_ _));exact BK477.out⟩,⟨by repeat (first|(with_reducible first|exact HB.out|apply below_alloc|apply pw_below_drewN|apply below_drew1|refine below_set ?_ GE467.out|refine below_set ?_ GE469.out|refine below_set ?_ GE477.out)|exact HB.out)⟩⟩
    case rest =>
     clear HC16
     try clear c1
     try clear c2
     try clear p2
     try clear c3
     try clear c3b0
     try clear c3b1
     try clear c4
     try clear c4b0
     try clear c4b1
     try clear p4
     try clear q4
     try clear hx4
     try clear c5
     try clear c6
     try clear p6
     try clear q7
     try clear c11
     try clear c11b0
     try clear c12
     try clear c12b0
     try clear c13
     try clear c13b0
     try clear c15
     try clear c15b0
     try clear c15b1
     try clear c18
     try clear c25
     try clear c26
     try clear c28
     try clear c28b0
     try clear c29
     try clear c30
     try clear c32
     try clear c34
     try clear c34b0
     try clear c35
     try clear c36
     try clear c38
     try clear c40
     try clear c40b0
     try clear c41
     try clear c42
     try clear c44
     try clear c46
     try clear c46b0
     try clear c46b1
     try clear p46
     try clear q46
     try clear hx46
     try clear c48
     try clear c49
     try clear c51
     try clear c55
     try clear c56
     try clear c58
     try clear hcz10_0
     try clear hcz10_1
     try clear hcz10_2
     try clear hcz10_3
     try clear hcz19_0
     try clear hcz19_1
     try clear hcz19_2
     try clear hcz19_3
     try clear hcz20_0
     try clear hcz20_1
     try clear hcz20_2
     try clear hcz20_3
     try clear hcz27_0
     try clear hcz27_1
     try clear hcz27_2
     try clear hcz27_3
     try clear hcz31_0
     try clear hcz31_1
     try clear hcz31_2
     try clear hcz31_3
     try clear hcz33_0
     try clear hcz33_1
     try clear hcz33_2
     try clear hcz33_3
     try clear hcz37_0
     try clear hcz37_1
     try clear hcz37_2
     try clear hcz37_3
     try clear hcz39_0
     try clear hcz39_1
     try clear hcz39_2
     try clear hcz39_3
     try clear hcz43_0
     try clear hcz43_1
     try clear hcz43_2
     try clear hcz43_3
     try clear hcz45_0
     try clear hcz45_1
     try clear hcz45_2
     try clear hcz45_3
     try clear hcz50_0
     try clear hcz50_1
     try clear hcz50_2
     try clear hcz50_3
     try clear hcz52_0
     try clear hcz52_1
     try clear hcz52_2
     try clear hcz52_3
     try clear hcz53_0
     try clear hcz53_1
     try clear hcz53_2
     try clear hcz53_3
     try clear hcz57_0
     try clear hcz57_1
     try clear hcz57_2
     try clear hcz57_3
     try clear hcz59_0
     try clear hcz59_1
     try clear hcz59_2
     try clear hcz59_3
     try clear hcz60_0
     try clear hcz60_1
     try clear hcz60_2
     try clear hcz60_3
     try clear hfz10_0
     try clear hfz10_1
     try clear hfz10_2
     try clear hfz10_3
     try clear hfz19_0
     try clear hfz19_1
     try clear hfz19_2
     try clear hfz19_3
     try clear hfz20_0
     try clear hfz20_1
     try clear hfz20_2
     try clear hfz20_3
     try clear hfz27_0
     try clear hfz27_1
     try clear hfz27_2
     try clear hfz27_3
     try clear hfz31_0
     try clear hfz31_1
     try clear hfz31_2
     try clear hfz31_3
     try clear hfz33_0
     try clear hfz33_1
     try clear hfz33_2
     try clear hfz33_3
     try clear hfz37_0
     try clear hfz37_1
     try clear hfz37_2
     try clear hfz37_3
     try clear hfz39_0
     try clear hfz39_1
     try clear hfz39_2
     try clear hfz39_3
     try clear hfz43_0
     try clear hfz43_1
     try clear hfz43_2
     try clear hfz43_3
     try clear hfz45_0
     try clear hfz45_1
     try clear hfz45_2
     try clear hfz45_3
     try clear hfz50_0
     try clear hfz50_1
     try clear hfz50_2
     try clear hfz50_3
     try clear hfz52_0
     try clear hfz52_1
     try clear hfz52_2
     try clear hfz52_3
     try clear hfz53_0
     try clear hfz53_1
     try clear hfz53_2
     try clear hfz53_3
     try clear hfz57_0
     try clear hfz57_1
     try clear hfz57_2
     try clear hfz57_3
     try clear hfz59_0
     try clear hfz59_1
     try clear hfz59_2
     try clear hfz59_3
     try clear hfz60_0
     try clear hfz60_1
     try clear hfz60_2
     try clear hfz60_3
     try clear hx468_0
     try clear hx468_1
     try clear hx468_2
     try clear hx468_3
     try clear p2
     try clear p468
     try clear q468
     try clear q7
     obtain ⟨kq,x81_15,rfl,HA,HJ15,HO_468000,HO_478000,BK467,BK469,BK477,HB⟩:=hcut
     cases kq with
     | zero => exact absurd HA.out (by simp [ratlinelaw09_EditGrows.j1])
     | succ kj15 =>
      have H:=HA.out
      clear HA
      simp only [ratlinelaw09_EditGrows.j1] at H
      by_cases c61 : x81_15 = true
      ·subst c61
       have H1 : (none) = some r:=by rw [if_pos rfl] at H;exact H
       clear H
       have H:=H1
       clear H1
       exact absurd H (by simp)
      ·replace c61:=Bool.eq_false_iff.mpr c61
       subst c61
       have H1 : (ratlinelaw09_EditGrows.l1 kj15 y461 (y461.length : Int) x25_1 t470 (t470.length : Int) 0 x468000_1 x468001_1 x468002_1 x468003_1 t470 t473 t474 t475) = some r:=by rw [if_neg (show ¬ (false = true) by decide)] at H;exact H
       clear H
       have H:=H1
       clear H1
       have H':=Aside0.mk H
       clear H
       have hnb62:=NB477_467.out
       have hnc62:=NB467_477.out
       have hnb63:=NB477_469.out
       have hnc63:=NB469_477.out
       have hcz64_0 : wc.cell? ⟨gb477,0,none⟩ = some (.slice Ao24 t470.length co24):=(blk_cell BK477.out 0).trans rfl
       have hcz64_1 : wc.cell? ⟨gb477,1,none⟩ = some (.int .u64 t473):=(blk_cell BK477.out 1).trans rfl
       have hcz64_2 : wc.cell? ⟨gb477,2,none⟩ = some (.int .u64 t474):=(blk_cell BK477.out 2).trans rfl
       have hcz64_3 : wc.cell? ⟨gb477,3,none⟩ = some (.int .u64 t475):=(blk_cell BK477.out 3).trans rfl
       have hfz64_0:=blk_frozen BK477.out 0
       have hfz64_1:=blk_frozen BK477.out 1
       have hfz64_2:=blk_frozen BK477.out 2
       have hfz64_3:=blk_frozen BK477.out 3
       go_wp2
       repeat (go_quiet (fail);try go_wp2)
       go_loopg [85] kj15 (fun kq v85 w' => ∃ (x85_3 : Int),v85 = .int .i64 x85_3 ∧ Aside0 (ratlinelaw09_EditGrows.l1 kq y461 (y461.length : Int) x25_1 t470 (t470.length : Int) x85_3 x468000_1 x468001_1 x468002_1 x468003_1 t470 t473 t474 t475 = some r) ∧ Aside0 (kq ≤ kj15) ∧ Aside0 (Kd.R k62 62 w' w.heap.size (fun k_ => nO k_ ((.slice Ao21 x468000_1.length co21))) (.slice Ao24 t470.length co24) t470) ∧ Aside0 (Kd.R k62 62 w' w.heap.size (fun k_ => nO k_ ((.slice Ao24 t470.length co24)) ∧ nO k_ ((.slice Ao24 t470.length co24))) (.slice Ao21 x468000_1.length co21) x468000_1) ∧ Aside0 (Kd.R k62 62 w' w.heap.size (fun k_ => nO k_ ((.slice Ao21 x468000_1.length co21))) (.slice Ao24 t470.length co24) t470) ∧ Aside0 (w'.heap[gb467]? = some (.cells #[(.slice Ao21 x468000_1.length co21),.int .u64 x468001_1,.int .u64 x468002_1,.int .u64 x468003_1] 57 (0,0))) ∧ Aside0 (w'.heap[gb469]? = some (.cells #[(.slice A468_0 ((rd_T54 y461 x25_1).f0).length c468_0),.int .u64 ((rd_T54 y461 x25_1).f1),.int .u64 ((rd_T54 y461 x25_1).f2),.int .u64 ((rd_T54 y461 x25_1).f3)] 54 (0,0))) ∧ Aside0 (w'.heap[gb477]? = some (.cells #[(.slice Ao24 t470.length co24),.int .u64 t473,.int .u64 t474,.int .u64 t475] 57 (0,0))) ∧ Aside0 (Below w.heap.size w w'))
       case atStart => exact ⟨(0),(by first|rfl|(simp;done)|(simp [*];done)),H',⟨Nat.le_refl _⟩,⟨by (with_reducible repeat (first|apply zA|apply zN|apply zD));exact HO_478000.out⟩,⟨by (with_reducible repeat (first|apply zA|apply zN|apply zD));exact Kd.R_mono HO_468000.out (fun _ hk => ⟨hk,hk⟩)⟩,⟨by (with_reducible repeat (first|apply zA|apply zN|apply zD));exact HO_478000.out⟩,⟨by (with_reducible repeat (first|refine bN ?_ _|refine bD ?_|refine bA ?_ _));exact BK467.out⟩,⟨by (with_reducible repeat (first|refine bN ?_ _|refine bD ?_|refine bA ?_ _));exact BK469.out⟩,⟨by (with_reducible repeat (first|refine bN ?_ _|refine bD ?_|refine bA ?_ _));exact BK477.out⟩,⟨by repeat (first|(with_reducible first|exact HB.out|apply below_alloc|apply pw_below_drewN|apply below_drew1|refine below_set ?_ GE467.out|refine below_set ?_ GE469.out|refine below_set ?_ GE477.out)|exact HB.out)⟩⟩
       case round =>
        clear H'
        try clear c1
        try clear c2
        try clear p2
        try clear c3
        try clear c3b0
        try clear c3b1
        try clear c4
        try clear c4b0
        try clear c4b1
        try clear p4
        try clear q4
        try clear hx4
        try clear c5
        try clear c6
        try clear p6
        try clear q7
        try clear c11
        try clear c11b0
        try clear c12
        try clear c12b0
        try clear c13
        try clear c13b0
        try clear c15
        try clear c15b0
        try clear c15b1
        try clear c18
        try clear c25
        try clear c26
        try clear c28
        try clear c28b0
        try clear c29
        try clear c30
        try clear c32
        try clear c34
        try clear c34b0
        try clear c35
        try clear c36
        try clear c38
        try clear c40
        try clear c40b0
        try clear c41
        try clear c42
        try clear c44
        try clear c46
        try clear c46b0
        try clear c46b1
        try clear p46
        try clear q46
        try clear hx46
        try clear c48
        try clear c49
        try clear c51
        try clear c55
        try clear c56
        try clear c58
        try clear c61
        try clear c62
        try clear c63
        try clear p64
        try clear hcz10_0
        try clear hcz10_1
        try clear hcz10_2
        try clear hcz10_3
        try clear hcz19_0
        try clear hcz19_1
        try clear hcz19_2
        try clear hcz19_3
        try clear hcz20_0
        try clear hcz20_1
        try clear hcz20_2
        try clear hcz20_3
        try clear hcz27_0
        try clear hcz27_1
        try clear hcz27_2
        try clear hcz27_3
        try clear hcz31_0
        try clear hcz31_1
        try clear hcz31_2
        try clear hcz31_3
        try clear hcz33_0
        try clear hcz33_1
        try clear hcz33_2
        try clear hcz33_3
        try clear hcz37_0
        try clear hcz37_1
        try clear hcz37_2
        try clear hcz37_3
        try clear hcz39_0
        try clear hcz39_1
        try clear hcz39_2
        try clear hcz39_3
        try clear hcz43_0
        try clear hcz43_1
        try clear hcz43_2
        try clear hcz43_3
        try clear hcz45_0
        try clear hcz45_1
        try clear hcz45_2
        try clear hcz45_3
        try clear hcz50_0
        try clear hcz50_1
        try clear hcz50_2
        try clear hcz50_3
        try clear hcz52_0
        try clear hcz52_1
        try clear hcz52_2
        try clear hcz52_3
        try clear hcz53_0
        try clear hcz53_1
        try clear hcz53_2
        try clear hcz53_3
        try clear hcz57_0
        try clear hcz57_1
        try clear hcz57_2
        try clear hcz57_3
        try clear hcz59_0
        try clear hcz59_1
        try clear hcz59_2
        try clear hcz59_3
        try clear hcz60_0
        try clear hcz60_1
        try clear hcz60_2
        try clear hcz60_3
        try clear hcz64_0
        try clear hcz64_1
        try clear hcz64_2
        try clear hcz64_3
        try clear hfz10_0
        try clear hfz10_1
        try clear hfz10_2
        try clear hfz10_3
        try clear hfz19_0
        try clear hfz19_1
        try clear hfz19_2
        try clear hfz19_3
        try clear hfz20_0
        try clear hfz20_1
        try clear hfz20_2
        try clear hfz20_3
        try clear hfz27_0
        try clear hfz27_1
        try clear hfz27_2
        try clear hfz27_3
        try clear hfz31_0
        try clear hfz31_1
        try clear hfz31_2
        try clear hfz31_3
        try clear hfz33_0
        try clear hfz33_1
        try clear hfz33_2
        try clear hfz33_3
        try clear hfz37_0
        try clear hfz37_1
        try clear hfz37_2
        try clear hfz37_3
        try clear hfz39_0
        try clear hfz39_1
        try clear hfz39_2
        try clear hfz39_3
        try clear hfz43_0
        try clear hfz43_1
        try clear hfz43_2
        try clear hfz43_3
        try clear hfz45_0
        try clear hfz45_1
        try clear hfz45_2
        try clear hfz45_3
        try clear hfz50_0
        try clear hfz50_1
        try clear hfz50_2
        try clear hfz50_3
        try clear hfz52_0
        try clear hfz52_1
        try clear hfz52_2
        try clear hfz52_3
        try clear hfz53_0
        try clear hfz53_1
        try clear hfz53_2
        try clear hfz53_3
        try clear hfz57_0
        try clear hfz57_1
        try clear hfz57_2
        try clear hfz57_3
        try clear hfz59_0
        try clear hfz59_1
        try clear hfz59_2
        try clear hfz59_3
        try clear hfz60_0
        try clear hfz60_1
        try clear hfz60_2
        try clear hfz60_3
        try clear hfz64_0
        try clear hfz64_1
        try clear hfz64_2
        try clear hfz64_3
        try clear hx468_0
        try clear hx468_1
        try clear hx468_2
        try clear hx468_3
        try clear p2
        try clear p4
        try clear p46
        try clear p468
        try clear p6
        try clear q4
        try clear q46
        try clear q468
        try clear q7
        obtain ⟨x85_3,rfl,HA,HK3,HO_83,HO_468000,HO_478000,BK467,BK469,BK477,HB⟩:=hrel
        cases gk with
        | zero => exact absurd HA.out (by simp [ratlinelaw09_EditGrows.l1])
        | succ k3 =>
         have H:=HA.out
         clear HA
         simp only [ratlinelaw09_EditGrows.l1] at H
         by_cases c65 : x85_3 < (t470.length : Int)
         ·rw [if_pos c65] at H
          have c65b0 : decide (x85_3 < (t470.length : Int)) = true:=decide_eq_true c65
          clear c65
          by_cases c66 : 0 ≤ x85_3
          rotate_left
          ·rw [if_neg c66] at H
           exact absurd H (by simp)
          rw [if_pos c66] at H
          have c66b0 : decide (0 ≤ x85_3) = true:=decide_eq_true c66
          clear c66
          by_cases c67 : x85_3 < (t470.length : Int)
          rotate_left
          ·rw [if_neg c67] at H
           exact absurd H (by simp)
          rw [if_pos c67] at H
          have c67b0 : decide (x85_3 < (t470.length : Int)) = true:=decide_eq_true c67
          clear c67
          by_cases c68 : x85_3 < (x468000_1.length : Int)
          ·rw [if_pos c68] at H
           have c68b0 : decide (x85_3 < (x468000_1.length : Int)) = true:=decide_eq_true c68
           clear c68
           by_cases c69 : (!(((rd_T62 t470 x85_3).f0) == ((rd_T62 x468000_1 x85_3).f0)) || (!(((rd_T62 t470 x85_3).f1) == ((rd_T62 x468000_1 x85_3).f1)) || (!((((rd_T62 t470 x85_3).f2).toList) == (((rd_T62 x468000_1 x85_3).f2).toList)) || (!((((rd_T62 t470 x85_3).f3).toList) == (((rd_T62 x468000_1 x85_3).f3).toList)))))) = true
           ·rw [if_pos c69] at H
            exact absurd H (by simp)
           ·rw [if_neg c69] at H
            have c69b0 : (!(((rd_T62 t470 x85_3).f0) == ((rd_T62 x468000_1 x85_3).f0)) || (!(((rd_T62 t470 x85_3).f1) == ((rd_T62 x468000_1 x85_3).f1)) || (!((((rd_T62 t470 x85_3).f2).toList) == (((rd_T62 x468000_1 x85_3).f2).toList)) || (!((((rd_T62 t470 x85_3).f3).toList) == (((rd_T62 x468000_1 x85_3).f3).toList)))))) = false:=by simpa using c69
            clear c69
            by_cases c70 : x85_3 > 0
            ·rw [if_pos c70] at H
             have c70b0 : decide (0 < x85_3) = true:=decide_eq_true c70
             clear c70
             obtain ⟨ji71,hji71⟩ : ∃ j_ : Int,(wrap64 (x85_3 - 1)) = j_:=⟨_,rfl⟩
             replace H : (if 0 ≤ (ji71) then (if (ji71) < (t470.length : Int) then (if ((rd_T62 t470 (ji71)).f0) ≥ ((rd_T62 t470 x85_3).f0) then (none) else (ratlinelaw09_EditGrows.l1 k3 y461 (y461.length : Int) x25_1 t470 (t470.length : Int) (wrap64 (x85_3 + 1)) x468000_1 x468001_1 x468002_1 x468003_1 t470 t473 t474 t475)) else (none)) else (none)) = some r:=by first|(rw [hji71] at H;exact H)|(simp only [hji71] at H ⊢;exact H)
             have hji71w : (IntKind.i64.wrap (x85_3 - 1)) = ji71:=(i64_w _).trans hji71
             by_cases c72 : 0 ≤ (ji71)
             rotate_left
             ·rw [if_neg c72] at H
              exact absurd H (by simp)
             rw [if_pos c72] at H
             have c72b0 : decide (0 ≤ (ji71)) = true:=decide_eq_true c72
             clear c72
             by_cases c73 : (ji71) < (t470.length : Int)
             rotate_left
             ·rw [if_neg c73] at H
              exact absurd H (by simp)
             rw [if_pos c73] at H
             have c73b0 : decide ((ji71) < (t470.length : Int)) = true:=decide_eq_true c73
             clear c73
             by_cases c74 : ((rd_T62 t470 (ji71)).f0) ≥ ((rd_T62 t470 x85_3).f0)
             ·rw [if_pos c74] at H
              exact absurd H (by simp)
             ·rw [if_neg c74] at H
              have c74b0 : decide (((rd_T62 t470 x85_3).f0) ≤ ((rd_T62 t470 (ji71)).f0)) = false:=decide_eq_false c74
              clear c74
              have H':=Aside0.mk H
              clear H
              have p480 : 0 ≤ (x85_3 : Int):=of_decide_eq_true (by first|(with_reducible assumption)|assumption)
              have q480 : x85_3 < (t470.length : Int):=of_decide_eq_true (by first|(with_reducible assumption)|assumption)
              obtain ⟨ad480,e480,hx480_0,hx480_1,hx480_2,hx480_3⟩:=at_T62 (Kd.R_reads' HO_83.out).2.2 x85_3 p480 q480
              cases e480
              replace p480:=eq_true p480
              replace q480:=eq_true q480
              go_wp2_with (first|((with_reducible refine gate_dst (N:=9) rfl ?_);(try (refine gate_guard (by rfl) ?_;dsimp only));refine box_event ?hg (N:=9) ?hd (cs:=#[.int .u64 0,.int .u64 0,.string (⟨#[]⟩ : BA),.string (⟨#[]⟩ : BA)]) (t:=62) ?hr ?_;(case hd => rfl);(case hg => rfl);(case hr => first|(go_simp;done)|(go_simp;rfl));intro gb481 hg w75 hbox hb;have n0_:=Aside0.mk (Kd.R_below (Kd.R_elderB (by (with_reducible repeat (first|apply zA|apply zN|apply zD));exact HO_83.out) gb481 (Nat.le_of_eq hg.symm)) hb);have n1_:=Aside0.mk (Kd.R_below (Kd.R_elderB (by (with_reducible repeat (first|apply zA|apply zN|apply zD));exact HO_468000.out) gb481 (Nat.le_of_eq hg.symm)) hb);have n2_:=Aside0.mk (Kd.R_below (Kd.R_elderB (by (with_reducible repeat (first|apply zA|apply zN|apply zD));exact HO_478000.out) gb481 (Nat.le_of_eq hg.symm)) hb);have n3_:=Aside0.mk (blk_below (g:=gb467) (o:=.cells #[.slice Ao21 x468000_1.length co21,.int .u64 x468001_1,.int .u64 x468002_1,.int .u64 x468003_1] 57 (0,0)) (by (with_reducible repeat (first|refine bN ?_ _|refine bD ?_|refine bA ?_ _));exact BK467.out) hb);have n4_:=Aside0.mk (blk_below (g:=gb469) (o:=.cells #[.slice A468_0 ((rd_T54 y461 x25_1).f0).length c468_0,.int .u64 ((rd_T54 y461 x25_1).f1),.int .u64 ((rd_T54 y461 x25_1).f2),.int .u64 ((rd_T54 y461 x25_1).f3)] 54 (0,0)) (by (with_reducible repeat (first|refine bN ?_ _|refine bD ?_|refine bA ?_ _));exact BK469.out) hb);have n5_:=Aside0.mk (blk_below (g:=gb477) (o:=.cells #[.slice (some ad480) t470.length co24,.int .u64 t473,.int .u64 t474,.int .u64 t475] 57 (0,0)) (by (with_reducible repeat (first|refine bN ?_ _|refine bD ?_|refine bA ?_ _));exact BK477.out) hb);have n6_:=Aside0.mk (below_step (by repeat (first|(with_reducible first|exact HB.out|apply below_alloc|apply pw_below_drewN|apply below_drew1|refine below_set ?_ GE467.out|refine below_set ?_ GE469.out|refine below_set ?_ GE477.out)|exact HB.out)) hb);have n7_:=Aside0.mk (hbox);have n8_:=Aside0.mk ((by rw [hg];exact (below_size (by repeat (first|(with_reducible first|exact HB.out|apply below_alloc|apply pw_below_drewN|apply below_drew1|refine below_set ?_ GE467.out|refine below_set ?_ GE469.out|refine below_set ?_ GE477.out)|exact HB.out))) : w.heap.size ≤ gb481));have n9_:=Aside0.mk ((by rw [hg];exact (below_size (by repeat (first|(with_reducible first|exact HB.out|apply below_alloc|apply pw_below_drewN|apply below_drew1|refine below_set ?_ GE467.out|refine below_set ?_ GE469.out|refine below_set ?_ GE477.out)|exact HB.out))) : w.heap.size ≤ gb481));have n10_:=Aside0.mk ((by rw [hg];exact Nat.ne_of_lt (blk_lt (g:=gb467) (o:=.cells #[.slice Ao21 x468000_1.length co21,.int .u64 x468001_1,.int .u64 x468002_1,.int .u64 x468003_1] 57 (0,0)) (by (with_reducible repeat (first|refine bN ?_ _|refine bD ?_|refine bA ?_ _));exact BK467.out)) : gb467 ≠ gb481));have n11_:=Aside0.mk ((by rw [hg];exact Nat.ne_of_gt (blk_lt (g:=gb467) (o:=.cells #[.slice Ao21 x468000_1.length co21,.int .u64 x468001_1,.int .u64 x468002_1,.int .u64 x468003_1] 57 (0,0)) (by (with_reducible repeat (first|refine bN ?_ _|refine bD ?_|refine bA ?_ _));exact BK467.out)) : gb481 ≠ gb467));have n12_:=Aside0.mk ((by rw [hg];exact Nat.ne_of_lt (blk_lt (g:=gb469) (o:=.cells #[.slice A468_0 ((rd_T54 y461 x25_1).f0).length c468_0,.int .u64 ((rd_T54 y461 x25_1).f1),.int .u64 ((rd_T54 y461 x25_1).f2),.int .u64 ((rd_T54 y461 x25_1).f3)] 54 (0,0)) (by (with_reducible repeat (first|refine bN ?_ _|refine bD ?_|refine bA ?_ _));exact BK469.out)) : gb469 ≠ gb481));have n13_:=Aside0.mk ((by rw [hg];exact Nat.ne_of_gt (blk_lt (g:=gb469) (o:=.cells #[.slice A468_0 ((rd_T54 y461 x25_1).f0).length c468_0,.int .u64 ((rd_T54 y461 x25_1).f1),.int .u64 ((rd_T54 y461 x25_1).f2),.int .u64 ((rd_T54 y461 x25_1).f3)] 54 (0,0)) (by (with_reducible repeat (first|refine bN ?_ _|refine bD ?_|refine bA ?_ _));exact BK469.out)) : gb481 ≠ gb469));have n14_:=Aside0.mk ((by rw [hg];exact Nat.ne_of_lt (blk_lt (g:=gb477) (o:=.cells #[.slice (some ad480) t470.length co24,.int .u64 t473,.int .u64 t474,.int .u64 t475] 57 (0,0)) (by (with_reducible repeat (first|refine bN ?_ _|refine bD ?_|refine bA ?_ _));exact BK477.out)) : gb477 ≠ gb481));have n15_:=Aside0.mk ((by rw [hg];exact Nat.ne_of_gt (blk_lt (g:=gb477) (o:=.cells #[.slice (some ad480) t470.length co24,.int .u64 t473,.int .u64 t474,.int .u64 t475] 57 (0,0)) (by (with_reducible repeat (first|refine bN ?_ _|refine bD ?_|refine bA ?_ _));exact BK477.out)) : gb481 ≠ gb477));clear HO_83;clear HO_468000;clear HO_478000;clear BK467;clear BK469;clear BK477;clear HB;have HO_83:=n0_;have HO_468000:=n1_;have HO_478000:=n2_;have BK467:=n3_;have BK469:=n4_;have BK477:=n5_;have HB:=n6_;have BK481:=n7_;have GW481:=n8_;have GE481:=n9_;have NB467_481:=n10_;have NB481_467:=n11_;have NB469_481:=n12_;have NB481_469:=n13_;have NB477_481:=n14_;have NB481_477:=n15_;clear n0_ n1_ n2_ n3_ n4_ n5_ n6_ n7_ n8_ n9_ n10_ n11_ n12_ n13_ n14_ n15_;clear hb hbox hg;have hnb76:=NB481_467.out;have hnc76:=NB467_481.out;have hnb77:=NB481_469.out;have hnc77:=NB469_481.out;have hnb78:=NB481_477.out;have hnc78:=NB477_481.out;have hcz79_0 : w75.cell? ⟨gb481,0,none⟩ = some (.int .u64 0):=(blk_cell BK481.out 0).trans rfl;have hcz79_1 : w75.cell? ⟨gb481,1,none⟩ = some (.int .u64 0):=(blk_cell BK481.out 1).trans rfl;have hcz79_2 : w75.cell? ⟨gb481,2,none⟩ = some (.string (⟨#[]⟩ : BA)):=(blk_cell BK481.out 2).trans rfl;have hcz79_3 : w75.cell? ⟨gb481,3,none⟩ = some (.string (⟨#[]⟩ : BA)):=(blk_cell BK481.out 3).trans rfl;have hfz79_0:=blk_frozen BK481.out 0;have hfz79_1:=blk_frozen BK481.out 1;have hfz79_2:=blk_frozen BK481.out 2;have hfz79_3:=blk_frozen BK481.out 3;have hnb80:=NB467_469.out;have hnc80:=NB469_467.out;have hnb81:=NB467_477.out;have hnc81:=NB477_467.out;have hcz82_0 : w75.cell? ⟨gb467,0,none⟩ = some (.slice Ao21 x468000_1.length co21):=(blk_cell BK467.out 0).trans rfl;have hcz82_1 : w75.cell? ⟨gb467,1,none⟩ = some (.int .u64 x468001_1):=(blk_cell BK467.out 1).trans rfl;have hcz82_2 : w75.cell? ⟨gb467,2,none⟩ = some (.int .u64 x468002_1):=(blk_cell BK467.out 2).trans rfl;have hcz82_3 : w75.cell? ⟨gb467,3,none⟩ = some (.int .u64 x468003_1):=(blk_cell BK467.out 3).trans rfl;have hfz82_0:=blk_frozen BK467.out 0;have hfz82_1:=blk_frozen BK467.out 1;have hfz82_2:=blk_frozen BK467.out 2;have hfz82_3:=blk_frozen BK467.out 3;have p482 : 0 ≤ (x85_3 : Int):=of_decide_eq_true (by first|(with_reducible assumption)|assumption);have q482 : x85_3 < (x468000_1.length : Int):=of_decide_eq_true (by first|(with_reducible assumption)|assumption);obtain ⟨ad482,e482,hx482_0,hx482_1,hx482_2,hx482_3⟩:=at_T62 (Kd.R_reads' HO_468000.out).2.2 x85_3 p482 q482;cases e482;have hn482_0 : ad482.block ≠ gb481:=Kd.own_blk (fun e_ => (HO_468000.out.1 _ e_.symm).2 rfl);have hn482_1 : ad482.block ≠ gb481:=Kd.own_blk (fun e_ => (HO_468000.out.1 _ e_.symm).2 rfl);have hn482_2 : ad482.block ≠ gb481:=Kd.own_blk (fun e_ => (HO_468000.out.1 _ e_.symm).2 rfl);have hn482_3 : ad482.block ≠ gb481:=Kd.own_blk (fun e_ => (HO_468000.out.1 _ e_.symm).2 rfl);replace hx482_0:=(cell_far (p:=⟨gb481,0,none⟩) (by first|(rw [add_block];exact hn482_0)|(show (Addr.add _ _).block ≠ _;rw [add_block];exact hn482_0)|exact hn482_0) (.int .u64 ((rd_T62 t470 x85_3).f0))).trans hx482_0;replace hx482_1:=(cell_far (p:=⟨gb481,0,none⟩) (by first|(rw [add_block];exact hn482_0)|(show (Addr.add _ _).block ≠ _;rw [add_block];exact hn482_0)|exact hn482_0) (.int .u64 ((rd_T62 t470 x85_3).f0))).trans hx482_1;replace hx482_2:=(cell_far (p:=⟨gb481,0,none⟩) (by first|(rw [add_block];exact hn482_0)|(show (Addr.add _ _).block ≠ _;rw [add_block];exact hn482_0)|exact hn482_0) (.int .u64 ((rd_T62 t470 x85_3).f0))).trans hx482_2;replace hx482_3:=(cell_far (p:=⟨gb481,0,none⟩) (by first|(rw [add_block];exact hn482_0)|(show (Addr.add _ _).block ≠ _;rw [add_block];exact hn482_0)|exact hn482_0) (.int .u64 ((rd_T62 t470 x85_3).f0))).trans hx482_3;replace hx482_0:=(cell_far (p:=⟨gb481,1,none⟩) (by first|(rw [add_block];exact hn482_1)|(show (Addr.add _ _).block ≠ _;rw [add_block];exact hn482_1)|exact hn482_1) (.int .u64 ((rd_T62 t470 x85_3).f1))).trans hx482_0;replace hx482_1:=(cell_far (p:=⟨gb481,1,none⟩) (by first|(rw [add_block];exact hn482_1)|(show (Addr.add _ _).block ≠ _;rw [add_block];exact hn482_1)|exact hn482_1) (.int .u64 ((rd_T62 t470 x85_3).f1))).trans hx482_1;replace hx482_2:=(cell_far (p:=⟨gb481,1,none⟩) (by first|(rw [add_block];exact hn482_1)|(show (Addr.add _ _).block ≠ _;rw [add_block];exact hn482_1)|exact hn482_1) (.int .u64 ((rd_T62 t470 x85_3).f1))).trans hx482_2;replace hx482_3:=(cell_far (p:=⟨gb481,1,none⟩) (by first|(rw [add_block];exact hn482_1)|(show (Addr.add _ _).block ≠ _;rw [add_block];exact hn482_1)|exact hn482_1) (.int .u64 ((rd_T62 t470 x85_3).f1))).trans hx482_3;replace hx482_0:=(cell_far (p:=⟨gb481,2,none⟩) (by first|(rw [add_block];exact hn482_2)|(show (Addr.add _ _).block ≠ _;rw [add_block];exact hn482_2)|exact hn482_2) (.string ((rd_T62 t470 x85_3).f2))).trans hx482_0;replace hx482_1:=(cell_far (p:=⟨gb481,2,none⟩) (by first|(rw [add_block];exact hn482_2)|(show (Addr.add _ _).block ≠ _;rw [add_block];exact hn482_2)|exact hn482_2) (.string ((rd_T62 t470 x85_3).f2))).trans hx482_1;replace hx482_2:=(cell_far (p:=⟨gb481,2,none⟩) (by first|(rw [add_block];exact hn482_2)|(show (Addr.add _ _).block ≠ _;rw [add_block];exact hn482_2)|exact hn482_2) (.string ((rd_T62 t470 x85_3).f2))).trans hx482_2;replace hx482_3:=(cell_far (p:=⟨gb481,2,none⟩) (by first|(rw [add_block];exact hn482_2)|(show (Addr.add _ _).block ≠ _;rw [add_block];exact hn482_2)|exact hn482_2) (.string ((rd_T62 t470 x85_3).f2))).trans hx482_3;replace hx482_0:=(cell_far (p:=⟨gb481,3,none⟩) (by first|(rw [add_block];exact hn482_3)|(show (Addr.add _ _).block ≠ _;rw [add_block];exact hn482_3)|exact hn482_3) (.string ((rd_T62 t470 x85_3).f3))).trans hx482_0;replace hx482_1:=(cell_far (p:=⟨gb481,3,none⟩) (by first|(rw [add_block];exact hn482_3)|(show (Addr.add _ _).block ≠ _;rw [add_block];exact hn482_3)|exact hn482_3) (.string ((rd_T62 t470 x85_3).f3))).trans hx482_1;replace hx482_2:=(cell_far (p:=⟨gb481,3,none⟩) (by first|(rw [add_block];exact hn482_3)|(show (Addr.add _ _).block ≠ _;rw [add_block];exact hn482_3)|exact hn482_3) (.string ((rd_T62 t470 x85_3).f3))).trans hx482_2;replace hx482_3:=(cell_far (p:=⟨gb481,3,none⟩) (by first|(rw [add_block];exact hn482_3)|(show (Addr.add _ _).block ≠ _;rw [add_block];exact hn482_3)|exact hn482_3) (.string ((rd_T62 t470 x85_3).f3))).trans hx482_3;(try have hy482_0:=fun (n_ : Nat) => (show ((((((w75.drewN n_).setCell ⟨gb481,0,none⟩ (.int .u64 ((rd_T62 t470 x85_3).f0))).setCell ⟨gb481,1,none⟩ (.int .u64 ((rd_T62 t470 x85_3).f1))).setCell ⟨gb481,2,none⟩ (.string ((rd_T62 t470 x85_3).f2))).setCell ⟨gb481,3,none⟩ (.string ((rd_T62 t470 x85_3).f3)))).cell? _ = some _ from hx482_0));(try have hy482_1:=fun (n_ : Nat) => (show ((((((w75.drewN n_).setCell ⟨gb481,0,none⟩ (.int .u64 ((rd_T62 t470 x85_3).f0))).setCell ⟨gb481,1,none⟩ (.int .u64 ((rd_T62 t470 x85_3).f1))).setCell ⟨gb481,2,none⟩ (.string ((rd_T62 t470 x85_3).f2))).setCell ⟨gb481,3,none⟩ (.string ((rd_T62 t470 x85_3).f3)))).cell? _ = some _ from hx482_1));(try have hy482_2:=fun (n_ : Nat) => (show ((((((w75.drewN n_).setCell ⟨gb481,0,none⟩ (.int .u64 ((rd_T62 t470 x85_3).f0))).setCell ⟨gb481,1,none⟩ (.int .u64 ((rd_T62 t470 x85_3).f1))).setCell ⟨gb481,2,none⟩ (.string ((rd_T62 t470 x85_3).f2))).setCell ⟨gb481,3,none⟩ (.string ((rd_T62 t470 x85_3).f3)))).cell? _ = some _ from hx482_2));(try have hy482_3:=fun (n_ : Nat) => (show ((((((w75.drewN n_).setCell ⟨gb481,0,none⟩ (.int .u64 ((rd_T62 t470 x85_3).f0))).setCell ⟨gb481,1,none⟩ (.int .u64 ((rd_T62 t470 x85_3).f1))).setCell ⟨gb481,2,none⟩ (.string ((rd_T62 t470 x85_3).f2))).setCell ⟨gb481,3,none⟩ (.string ((rd_T62 t470 x85_3).f3)))).cell? _ = some _ from hx482_3));clear hn482_0;clear hn482_1;clear hn482_2;clear hn482_3;replace p482:=eq_true p482;replace q482:=eq_true q482;have hnb83:=NB477_469.out;have hnc83:=NB469_477.out;have hcz84_0 : w75.cell? ⟨gb477,0,none⟩ = some (.slice (some ad480) t470.length co24):=(blk_cell BK477.out 0).trans rfl;have hcz84_1 : w75.cell? ⟨gb477,1,none⟩ = some (.int .u64 t473):=(blk_cell BK477.out 1).trans rfl;have hcz84_2 : w75.cell? ⟨gb477,2,none⟩ = some (.int .u64 t474):=(blk_cell BK477.out 2).trans rfl;have hcz84_3 : w75.cell? ⟨gb477,3,none⟩ = some (.int .u64 t475):=(blk_cell BK477.out 3).trans rfl;have hfz84_0:=blk_frozen BK477.out 0;have hfz84_1:=blk_frozen BK477.out 1;have hfz84_2:=blk_frozen BK477.out 2;have hfz84_3:=blk_frozen BK477.out 3;have p483 : 0 ≤ ((ji71) : Int):=of_decide_eq_true (by first|(with_reducible assumption)|assumption);have q483 : (ji71) < (t470.length : Int):=of_decide_eq_true (by first|(with_reducible assumption)|assumption);obtain ⟨ad483,e483,hx483_0,hx483_1,hx483_2,hx483_3⟩:=at_T62 (Kd.R_reads' HO_478000.out).2.2 (ji71) p483 q483;obtain rfl : ad480 = ad483:=(by injection e483);have hn483_0 : ad480.block ≠ gb481:=Kd.own_blk (fun e_ => (HO_478000.out.1 _ e_.symm).2 rfl);have hn483_1 : ad480.block ≠ gb481:=Kd.own_blk (fun e_ => (HO_478000.out.1 _ e_.symm).2 rfl);have hn483_2 : ad480.block ≠ gb481:=Kd.own_blk (fun e_ => (HO_478000.out.1 _ e_.symm).2 rfl);have hn483_3 : ad480.block ≠ gb481:=Kd.own_blk (fun e_ => (HO_478000.out.1 _ e_.symm).2 rfl);replace hx483_0:=(cell_far (p:=⟨gb481,0,none⟩) (by first|(rw [add_block];exact hn483_0)|(show (Addr.add _ _).block ≠ _;rw [add_block];exact hn483_0)|exact hn483_0) (.int .u64 ((rd_T62 t470 x85_3).f0))).trans hx483_0;replace hx483_1:=(cell_far (p:=⟨gb481,0,none⟩) (by first|(rw [add_block];exact hn483_0)|(show (Addr.add _ _).block ≠ _;rw [add_block];exact hn483_0)|exact hn483_0) (.int .u64 ((rd_T62 t470 x85_3).f0))).trans hx483_1;replace hx483_2:=(cell_far (p:=⟨gb481,0,none⟩) (by first|(rw [add_block];exact hn483_0)|(show (Addr.add _ _).block ≠ _;rw [add_block];exact hn483_0)|exact hn483_0) (.int .u64 ((rd_T62 t470 x85_3).f0))).trans hx483_2;replace hx483_3:=(cell_far (p:=⟨gb481,0,none⟩) (by first|(rw [add_block];exact hn483_0)|(show (Addr.add _ _).block ≠ _;rw [add_block];exact hn483_0)|exact hn483_0) (.int .u64 ((rd_T62 t470 x85_3).f0))).trans hx483_3;replace hx483_0:=(cell_far (p:=⟨gb481,1,none⟩) (by first|(rw [add_block];exact hn483_1)|(show (Addr.add _ _).block ≠ _;rw [add_block];exact hn483_1)|exact hn483_1) (.int .u64 ((rd_T62 t470 x85_3).f1))).trans hx483_0;replace hx483_1:=(cell_far (p:=⟨gb481,1,none⟩) (by first|(rw [add_block];exact hn483_1)|(show (Addr.add _ _).block ≠ _;rw [add_block];exact hn483_1)|exact hn483_1) (.int .u64 ((rd_T62 t470 x85_3).f1))).trans hx483_1;replace hx483_2:=(cell_far (p:=⟨gb481,1,none⟩) (by first|(rw [add_block];exact hn483_1)|(show (Addr.add _ _).block ≠ _;rw [add_block];exact hn483_1)|exact hn483_1) (.int .u64 ((rd_T62 t470 x85_3).f1))).trans hx483_2;replace hx483_3:=(cell_far (p:=⟨gb481,1,none⟩) (by first|(rw [add_block];exact hn483_1)|(show (Addr.add _ _).block ≠ _;rw [add_block];exact hn483_1)|exact hn483_1) (.int .u64 ((rd_T62 t470 x85_3).f1))).trans hx483_3;replace hx483_0:=(cell_far (p:=⟨gb481,2,none⟩) (by first|(rw [add_block];exact hn483_2)|(show (Addr.add _ _).block ≠ _;rw [add_block];exact hn483_2)|exact hn483_2) (.string ((rd_T62 t470 x85_3).f2))).trans hx483_0;replace hx483_1:=(cell_far (p:=⟨gb481,2,none⟩) (by first|(rw [add_block];exact hn483_2)|(show (Addr.add _ _).block ≠ _;rw [add_block];exact hn483_2)|exact hn483_2) (.string ((rd_T62 t470 x85_3).f2))).trans hx483_1;replace hx483_2:=(cell_far (p:=⟨gb481,2,none⟩) (by first|(rw [add_block];exact hn483_2)|(show (Addr.add _ _).block ≠ _;rw [add_block];exact hn483_2)|exact hn483_2) (.string ((rd_T62 t470 x85_3).f2))).trans hx483_2;replace hx483_3:=(cell_far (p:=⟨gb481,2,none⟩) (by first|(rw [add_block];exact hn483_2)|(show (Addr.add _ _).block ≠ _;rw [add_block];exact hn483_2)|exact hn483_2) (.string ((rd_T62 t470 x85_3).f2))).trans hx483_3;replace hx483_0:=(cell_far (p:=⟨gb481,3,none⟩) (by first|(rw [add_block];exact hn483_3)|(show (Addr.add _ _).block ≠ _;rw [add_block];exact hn483_3)|exact hn483_3) (.string ((rd_T62 t470 x85_3).f3))).trans hx483_0;replace hx483_1:=(cell_far (p:=⟨gb481,3,none⟩) (by first|(rw [add_block];exact hn483_3)|(show (Addr.add _ _).block ≠ _;rw [add_block];exact hn483_3)|exact hn483_3) (.string ((rd_T62 t470 x85_3).f3))).trans hx483_1;replace hx483_2:=(cell_far (p:=⟨gb481,3,none⟩) (by first|(rw [add_block];exact hn483_3)|(show (Addr.add _ _).block ≠ _;rw [add_block];exact hn483_3)|exact hn483_3) (.string ((rd_T62 t470 x85_3).f3))).trans hx483_2;replace hx483_3:=(cell_far (p:=⟨gb481,3,none⟩) (by first|(rw [add_block];exact hn483_3)|(show (Addr.add _ _).block ≠ _;rw [add_block];exact hn483_3)|exact hn483_3) (.string ((rd_T62 t470 x85_3).f3))).trans hx483_3;(try have hy483_0:=fun (n_ : Nat) => (show ((((((w75.drewN n_).setCell ⟨gb481,0,none⟩ (.int .u64 ((rd_T62 t470 x85_3).f0))).setCell ⟨gb481,1,none⟩ (.int .u64 ((rd_T62 t470 x85_3).f1))).setCell ⟨gb481,2,none⟩ (.string ((rd_T62 t470 x85_3).f2))).setCell ⟨gb481,3,none⟩ (.string ((rd_T62 t470 x85_3).f3)))).cell? _ = some _ from hx483_0));(try have hy483_1:=fun (n_ : Nat) => (show ((((((w75.drewN n_).setCell ⟨gb481,0,none⟩ (.int .u64 ((rd_T62 t470 x85_3).f0))).setCell ⟨gb481,1,none⟩ (.int .u64 ((rd_T62 t470 x85_3).f1))).setCell ⟨gb481,2,none⟩ (.string ((rd_T62 t470 x85_3).f2))).setCell ⟨gb481,3,none⟩ (.string ((rd_T62 t470 x85_3).f3)))).cell? _ = some _ from hx483_1));(try have hy483_2:=fun (n_ : Nat) => (show ((((((w75.drewN n_).setCell ⟨gb481,0,none⟩ (.int .u64 ((rd_T62 t470 x85_3).f0))).setCell ⟨gb481,1,none⟩ (.int .u64 ((rd_T62 t470 x85_3).f1))).setCell ⟨gb481,2,none⟩ (.string ((rd_T62 t470 x85_3).f2))).setCell ⟨gb481,3,none⟩ (.string ((rd_T62 t470 x85_3).f3)))).cell? _ = some _ from hx483_2));(try have hy483_3:=fun (n_ : Nat) => (show ((((((w75.drewN n_).setCell ⟨gb481,0,none⟩ (.int .u64 ((rd_T62 t470 x85_3).f0))).setCell ⟨gb481,1,none⟩ (.int .u64 ((rd_T62 t470 x85_3).f1))).setCell ⟨gb481,2,none⟩ (.string ((rd_T62 t470 x85_3).f2))).setCell ⟨gb481,3,none⟩ (.string ((rd_T62 t470 x85_3).f3)))).cell? _ = some _ from hx483_3));clear hn483_0;clear hn483_1;clear hn483_2;clear hn483_3;replace p483:=eq_true p483;replace q483:=eq_true q483))
              repeat (go_quiet (fail);try go_wp2_with (first|((with_reducible refine gate_dst (N:=9) rfl ?_);(try (refine gate_guard (by rfl) ?_;dsimp only));refine box_event ?hg (N:=9) ?hd (cs:=#[.int .u64 0,.int .u64 0,.string (⟨#[]⟩ : BA),.string (⟨#[]⟩ : BA)]) (t:=62) ?hr ?_;(case hd => rfl);(case hg => rfl);(case hr => first|(go_simp;done)|(go_simp;rfl));intro gb481 hg w75 hbox hb;have n0_:=Aside0.mk (Kd.R_below (Kd.R_elderB (by (with_reducible repeat (first|apply zA|apply zN|apply zD));exact HO_83.out) gb481 (Nat.le_of_eq hg.symm)) hb);have n1_:=Aside0.mk (Kd.R_below (Kd.R_elderB (by (with_reducible repeat (first|apply zA|apply zN|apply zD));exact HO_468000.out) gb481 (Nat.le_of_eq hg.symm)) hb);have n2_:=Aside0.mk (Kd.R_below (Kd.R_elderB (by (with_reducible repeat (first|apply zA|apply zN|apply zD));exact HO_478000.out) gb481 (Nat.le_of_eq hg.symm)) hb);have n3_:=Aside0.mk (blk_below (g:=gb467) (o:=.cells #[.slice Ao21 x468000_1.length co21,.int .u64 x468001_1,.int .u64 x468002_1,.int .u64 x468003_1] 57 (0,0)) (by (with_reducible repeat (first|refine bN ?_ _|refine bD ?_|refine bA ?_ _));exact BK467.out) hb);have n4_:=Aside0.mk (blk_below (g:=gb469) (o:=.cells #[.slice A468_0 ((rd_T54 y461 x25_1).f0).length c468_0,.int .u64 ((rd_T54 y461 x25_1).f1),.int .u64 ((rd_T54 y461 x25_1).f2),.int .u64 ((rd_T54 y461 x25_1).f3)] 54 (0,0)) (by (with_reducible repeat (first|refine bN ?_ _|refine bD ?_|refine bA ?_ _));exact BK469.out) hb);have n5_:=Aside0.mk (blk_below (g:=gb477) (o:=.cells #[.slice (some ad480) t470.length co24,.int .u64 t473,.int .u64 t474,.int .u64 t475] 57 (0,0)) (by (with_reducible repeat (first|refine bN ?_ _|refine bD ?_|refine bA ?_ _));exact BK477.out) hb);have n6_:=Aside0.mk (below_step (by repeat (first|(with_reducible first|exact HB.out|apply below_alloc|apply pw_below_drewN|apply below_drew1|refine below_set ?_ GE467.out|refine below_set ?_ GE469.out|refine below_set ?_ GE477.out)|exact HB.out)) hb);have n7_:=Aside0.mk (hbox);have n8_:=Aside0.mk ((by rw [hg];exact (below_size (by repeat (first|(with_reducible first|exact HB.out|apply below_alloc|apply pw_below_drewN|apply below_drew1|refine below_set ?_ GE467.out|refine below_set ?_ GE469.out|refine below_set ?_ GE477.out)|exact HB.out))) : w.heap.size ≤ gb481));have n9_:=Aside0.mk ((by rw [hg];exact (below_size (by repeat (first|(with_reducible first|exact HB.out|apply below_alloc|apply pw_below_drewN|apply below_drew1|refine below_set ?_ GE467.out|refine below_set ?_ GE469.out|refine below_set ?_ GE477.out)|exact HB.out))) : w.heap.size ≤ gb481));have n10_:=Aside0.mk ((by rw [hg];exact Nat.ne_of_lt (blk_lt (g:=gb467) (o:=.cells #[.slice Ao21 x468000_1.length co21,.int .u64 x468001_1,.int .u64 x468002_1,.int .u64 x468003_1] 57 (0,0)) (by (with_reducible repeat (first|refine bN ?_ _|refine bD ?_|refine bA ?_ _));exact BK467.out)) : gb467 ≠ gb481));have n11_:=Aside0.mk ((by rw [hg];exact Nat.ne_of_gt (blk_lt (g:=gb467) (o:=.cells #[.slice Ao21 x468000_1.length co21,.int .u64 x468001_1,.int .u64 x468002_1,.int .u64 x468003_1] 57 (0,0)) (by (with_reducible repeat (first|refine bN ?_ _|refine bD ?_|refine bA ?_ _));exact BK467.out)) : gb481 ≠ gb467));have n12_:=Aside0.mk ((by rw [hg];exact Nat.ne_of_lt (blk_lt (g:=gb469) (o:=.cells #[.slice A468_0 ((rd_T54 y461 x25_1).f0).length c468_0,.int .u64 ((rd_T54 y461 x25_1).f1),.int .u64 ((rd_T54 y461 x25_1).f2),.int .u64 ((rd_T54 y461 x25_1).f3)] 54 (0,0)) (by (with_reducible repeat (first|refine bN ?_ _|refine bD ?_|refine bA ?_ _));exact BK469.out)) : gb469 ≠ gb481));have n13_:=Aside0.mk ((by rw [hg];exact Nat.ne_of_gt (blk_lt (g:=gb469) (o:=.cells #[.slice A468_0 ((rd_T54 y461 x25_1).f0).length c468_0,.int .u64 ((rd_T54 y461 x25_1).f1),.int .u64 ((rd_T54 y461 x25_1).f2),.int .u64 ((rd_T54 y461 x25_1).f3)] 54 (0,0)) (by (with_reducible repeat (first|refine bN ?_ _|refine bD ?_|refine bA ?_ _));exact BK469.out)) : gb481 ≠ gb469));have n14_:=Aside0.mk ((by rw [hg];exact Nat.ne_of_lt (blk_lt (g:=gb477) (o:=.cells #[.slice (some ad480) t470.length co24,.int .u64 t473,.int .u64 t474,.int .u64 t475] 57 (0,0)) (by (with_reducible repeat (first|refine bN ?_ _|refine bD ?_|refine bA ?_ _));exact BK477.out)) : gb477 ≠ gb481));have n15_:=Aside0.mk ((by rw [hg];exact Nat.ne_of_gt (blk_lt (g:=gb477) (o:=.cells #[.slice (some ad480) t470.length co24,.int .u64 t473,.int .u64 t474,.int .u64 t475] 57 (0,0)) (by (with_reducible repeat (first|refine bN ?_ _|refine bD ?_|refine bA ?_ _));exact BK477.out)) : gb481 ≠ gb477));clear HO_83;clear HO_468000;clear HO_478000;clear BK467;clear BK469;clear BK477;clear HB;have HO_83:=n0_;have HO_468000:=n1_;have HO_478000:=n2_;have BK467:=n3_;have BK469:=n4_;have BK477:=n5_;have HB:=n6_;have BK481:=n7_;have GW481:=n8_;have GE481:=n9_;have NB467_481:=n10_;have NB481_467:=n11_;have NB469_481:=n12_;have NB481_469:=n13_;have NB477_481:=n14_;have NB481_477:=n15_;clear n0_ n1_ n2_ n3_ n4_ n5_ n6_ n7_ n8_ n9_ n10_ n11_ n12_ n13_ n14_ n15_;clear hb hbox hg;have hnb76:=NB481_467.out;have hnc76:=NB467_481.out;have hnb77:=NB481_469.out;have hnc77:=NB469_481.out;have hnb78:=NB481_477.out;have hnc78:=NB477_481.out;have hcz79_0 : w75.cell? ⟨gb481,0,none⟩ = some (.int .u64 0):=(blk_cell BK481.out 0).trans rfl;have hcz79_1 : w75.cell? ⟨gb481,1,none⟩ = some (.int .u64 0):=(blk_cell BK481.out 1).trans rfl;have hcz79_2 : w75.cell? ⟨gb481,2,none⟩ = some (.string (⟨#[]⟩ : BA)):=(blk_cell BK481.out 2).trans rfl;have hcz79_3 : w75.cell? ⟨gb481,3,none⟩ = some (.string (⟨#[]⟩ : BA)):=(blk_cell BK481.out 3).trans rfl;have hfz79_0:=blk_frozen BK481.out 0;have hfz79_1:=blk_frozen BK481.out 1;have hfz79_2:=blk_frozen BK481.out 2;have hfz79_3:=blk_frozen BK481.out 3;have hnb80:=NB467_469.out;have hnc80:=NB469_467.out;have hnb81:=NB467_477.out;have hnc81:=NB477_467.out;have hcz82_0 : w75.cell? ⟨gb467,0,none⟩ = some (.slice Ao21 x468000_1.length co21):=(blk_cell BK467.out 0).trans rfl;have hcz82_1 : w75.cell? ⟨gb467,1,none⟩ = some (.int .u64 x468001_1):=(blk_cell BK467.out 1).trans rfl;have hcz82_2 : w75.cell? ⟨gb467,2,none⟩ = some (.int .u64 x468002_1):=(blk_cell BK467.out 2).trans rfl;have hcz82_3 : w75.cell? ⟨gb467,3,none⟩ = some (.int .u64 x468003_1):=(blk_cell BK467.out 3).trans rfl;have hfz82_0:=blk_frozen BK467.out 0;have hfz82_1:=blk_frozen BK467.out 1;have hfz82_2:=blk_frozen BK467.out 2;have hfz82_3:=blk_frozen BK467.out 3;have p482 : 0 ≤ (x85_3 : Int):=of_decide_eq_true (by first|(with_reducible assumption)|assumption);have q482 : x85_3 < (x468000_1.length : Int):=of_decide_eq_true (by first|(with_reducible assumption)|assumption);obtain ⟨ad482,e482,hx482_0,hx482_1,hx482_2,hx482_3⟩:=at_T62 (Kd.R_reads' HO_468000.out).2.2 x85_3 p482 q482;cases e482;have hn482_0 : ad482.block ≠ gb481:=Kd.own_blk (fun e_ => (HO_468000.out.1 _ e_.symm).2 rfl);have hn482_1 : ad482.block ≠ gb481:=Kd.own_blk (fun e_ => (HO_468000.out.1 _ e_.symm).2 rfl);have hn482_2 : ad482.block ≠ gb481:=Kd.own_blk (fun e_ => (HO_468000.out.1 _ e_.symm).2 rfl);have hn482_3 : ad482.block ≠ gb481:=Kd.own_blk (fun e_ => (HO_468000.out.1 _ e_.symm).2 rfl);replace hx482_0:=(cell_far (p:=⟨gb481,0,none⟩) (by first|(rw [add_block];exact hn482_0)|(show (Addr.add _ _).block ≠ _;rw [add_block];exact hn482_0)|exact hn482_0) (.int .u64 ((rd_T62 t470 x85_3).f0))).trans hx482_0;replace hx482_1:=(cell_far (p:=⟨gb481,0,none⟩) (by first|(rw [add_block];exact hn482_0)|(show (Addr.add _ _).block ≠ _;rw [add_block];exact hn482_0)|exact hn482_0) (.int .u64 ((rd_T62 t470 x85_3).f0))).trans hx482_1;replace hx482_2:=(cell_far (p:=⟨gb481,0,none⟩) (by first|(rw [add_block];exact hn482_0)|(show (Addr.add _ _).block ≠ _;rw [add_block];exact hn482_0)|exact hn482_0) (.int .u64 ((rd_T62 t470 x85_3).f0))).trans hx482_2;replace hx482_3:=(cell_far (p:=⟨gb481,0,none⟩) (by first|(rw [add_block];exact hn482_0)|(show (Addr.add _ _).block ≠ _;rw [add_block];exact hn482_0)|exact hn482_0) (.int .u64 ((rd_T62 t470 x85_3).f0))).trans hx482_3;replace hx482_0:=(cell_far (p:=⟨gb481,1,none⟩) (by first|(rw [add_block];exact hn482_1)|(show (Addr.add _ _).block ≠ _;rw [add_block];exact hn482_1)|exact hn482_1) (.int .u64 ((rd_T62 t470 x85_3).f1))).trans hx482_0;replace hx482_1:=(cell_far (p:=⟨gb481,1,none⟩) (by first|(rw [add_block];exact hn482_1)|(show (Addr.add _ _).block ≠ _;rw [add_block];exact hn482_1)|exact hn482_1) (.int .u64 ((rd_T62 t470 x85_3).f1))).trans hx482_1;replace hx482_2:=(cell_far (p:=⟨gb481,1,none⟩) (by first|(rw [add_block];exact hn482_1)|(show (Addr.add _ _).block ≠ _;rw [add_block];exact hn482_1)|exact hn482_1) (.int .u64 ((rd_T62 t470 x85_3).f1))).trans hx482_2;replace hx482_3:=(cell_far (p:=⟨gb481,1,none⟩) (by first|(rw [add_block];exact hn482_1)|(show (Addr.add _ _).block ≠ _;rw [add_block];exact hn482_1)|exact hn482_1) (.int .u64 ((rd_T62 t470 x85_3).f1))).trans hx482_3;replace hx482_0:=(cell_far (p:=⟨gb481,2,none⟩) (by first|(rw [add_block];exact hn482_2)|(show (Addr.add _ _).block ≠ _;rw [add_block];exact hn482_2)|exact hn482_2) (.string ((rd_T62 t470 x85_3).f2))).trans hx482_0;replace hx482_1:=(cell_far (p:=⟨gb481,2,none⟩) (by first|(rw [add_block];exact hn482_2)|(show (Addr.add _ _).block ≠ _;rw [add_block];exact hn482_2)|exact hn482_2) (.string ((rd_T62 t470 x85_3).f2))).trans hx482_1;replace hx482_2:=(cell_far (p:=⟨gb481,2,none⟩) (by first|(rw [add_block];exact hn482_2)|(show (Addr.add _ _).block ≠ _;rw [add_block];exact hn482_2)|exact hn482_2) (.string ((rd_T62 t470 x85_3).f2))).trans hx482_2;replace hx482_3:=(cell_far (p:=⟨gb481,2,none⟩) (by first|(rw [add_block];exact hn482_2)|(show (Addr.add _ _).block ≠ _;rw [add_block];exact hn482_2)|exact hn482_2) (.string ((rd_T62 t470 x85_3).f2))).trans hx482_3;replace hx482_0:=(cell_far (p:=⟨gb481,3,none⟩) (by first|(rw [add_block];exact hn482_3)|(show (Addr.add _ _).block ≠ _;rw [add_block];exact hn482_3)|exact hn482_3) (.string ((rd_T62 t470 x85_3).f3))).trans hx482_0;replace hx482_1:=(cell_far (p:=⟨gb481,3,none⟩) (by first|(rw [add_block];exact hn482_3)|(show (Addr.add _ _).block ≠ _;rw [add_block];exact hn482_3)|exact hn482_3) (.string ((rd_T62 t470 x85_3).f3))).trans hx482_1;replace hx482_2:=(cell_far (p:=⟨gb481,3,none⟩) (by first|(rw [add_block];exact hn482_3)|(show (Addr.add _ _).block ≠ _;rw [add_block];exact hn482_3)|exact hn482_3) (.string ((rd_T62 t470 x85_3).f3))).trans hx482_2;replace hx482_3:=(cell_far (p:=⟨gb481,3,none⟩) (by first|(rw [add_block];exact hn482_3)|(show (Addr.add _ _).block ≠ _;rw [add_block];exact hn482_3)|exact hn482_3) (.string ((rd_T62 t470 x85_3).f3))).trans hx482_3;(try have hy482_0:=fun (n_ : Nat) => (show ((((((w75.drewN n_).setCell ⟨gb481,0,none⟩ (.int .u64 ((rd_T62 t470 x85_3).f0))).setCell ⟨gb481,1,none⟩ (.int .u64 ((rd_T62 t470 x85_3).f1))).setCell ⟨gb481,2,none⟩ (.string ((rd_T62 t470 x85_3).f2))).setCell ⟨gb481,3,none⟩ (.string ((rd_T62 t470 x85_3).f3)))).cell? _ = some _ from hx482_0));(try have hy482_1:=fun (n_ : Nat) => (show ((((((w75.drewN n_).setCell ⟨gb481,0,none⟩ (.int .u64 ((rd_T62 t470 x85_3).f0))).setCell ⟨gb481,1,none⟩ (.int .u64 ((rd_T62 t470 x85_3).f1))).setCell ⟨gb481,2,none⟩ (.string ((rd_T62 t470 x85_3).f2))).setCell ⟨gb481,3,none⟩ (.string ((rd_T62 t470 x85_3).f3)))).cell? _ = some _ from hx482_1));(try have hy482_2:=fun (n_ : Nat) => (show ((((((w75.drewN n_).setCell ⟨gb481,0,none⟩ (.int .u64 ((rd_T62 t470 x85_3).f0))).setCell ⟨gb481,1,none⟩ (.int .u64 ((rd_T62 t470 x85_3).f1))).setCell ⟨gb481,2,none⟩ (.string ((rd_T62 t470 x85_3).f2))).setCell ⟨gb481,3,none⟩ (.string ((rd_T62 t470 x85_3).f3)))).cell? _ = some _ from hx482_2));(try have hy482_3:=fun (n_ : Nat) => (show ((((((w75.drewN n_).setCell ⟨gb481,0,none⟩ (.int .u64 ((rd_T62 t470 x85_3).f0))).setCell ⟨gb481,1,none⟩ (.int .u64 ((rd_T62 t470 x85_3).f1))).setCell ⟨gb481,2,none⟩ (.string ((rd_T62 t470 x85_3).f2))).setCell ⟨gb481,3,none⟩ (.string ((rd_T62 t470 x85_3).f3)))).cell? _ = some _ from hx482_3));clear hn482_0;clear hn482_1;clear hn482_2;clear hn482_3;replace p482:=eq_true p482;replace q482:=eq_true q482;have hnb83:=NB477_469.out;have hnc83:=NB469_477.out;have hcz84_0 : w75.cell? ⟨gb477,0,none⟩ = some (.slice (some ad480) t470.length co24):=(blk_cell BK477.out 0).trans rfl;have hcz84_1 : w75.cell? ⟨gb477,1,none⟩ = some (.int .u64 t473):=(blk_cell BK477.out 1).trans rfl;have hcz84_2 : w75.cell? ⟨gb477,2,none⟩ = some (.int .u64 t474):=(blk_cell BK477.out 2).trans rfl;have hcz84_3 : w75.cell? ⟨gb477,3,none⟩ = some (.int .u64 t475):=(blk_cell BK477.out 3).trans rfl;have hfz84_0:=blk_frozen BK477.out 0;have hfz84_1:=blk_frozen BK477.out 1;have hfz84_2:=blk_frozen BK477.out 2;have hfz84_3:=blk_frozen BK477.out 3;have p483 : 0 ≤ ((ji71) : Int):=of_decide_eq_true (by first|(with_reducible assumption)|assumption);have q483 : (ji71) < (t470.length : Int):=of_decide_eq_true (by first|(with_reducible assumption)|assumption);obtain ⟨ad483,e483,hx483_0,hx483_1,hx483_2,hx483_3⟩:=at_T62 (Kd.R_reads' HO_478000.out).2.2 (ji71) p483 q483;obtain rfl : ad480 = ad483:=(by injection e483);have hn483_0 : ad480.block ≠ gb481:=Kd.own_blk (fun e_ => (HO_478000.out.1 _ e_.symm).2 rfl);have hn483_1 : ad480.block ≠ gb481:=Kd.own_blk (fun e_ => (HO_478000.out.1 _ e_.symm).2 rfl);have hn483_2 : ad480.block ≠ gb481:=Kd.own_blk (fun e_ => (HO_478000.out.1 _ e_.symm).2 rfl);have hn483_3 : ad480.block ≠ gb481:=Kd.own_blk (fun e_ => (HO_478000.out.1 _ e_.symm).2 rfl);replace hx483_0:=(cell_far (p:=⟨gb481,0,none⟩) (by first|(rw [add_block];exact hn483_0)|(show (Addr.add _ _).block ≠ _;rw [add_block];exact hn483_0)|exact hn483_0) (.int .u64 ((rd_T62 t470 x85_3).f0))).trans hx483_0;replace hx483_1:=(cell_far (p:=⟨gb481,0,none⟩) (by first|(rw [add_block];exact hn483_0)|(show (Addr.add _ _).block ≠ _;rw [add_block];exact hn483_0)|exact hn483_0) (.int .u64 ((rd_T62 t470 x85_3).f0))).trans hx483_1;replace hx483_2:=(cell_far (p:=⟨gb481,0,none⟩) (by first|(rw [add_block];exact hn483_0)|(show (Addr.add _ _).block ≠ _;rw [add_block];exact hn483_0)|exact hn483_0) (.int .u64 ((rd_T62 t470 x85_3).f0))).trans hx483_2;replace hx483_3:=(cell_far (p:=⟨gb481,0,none⟩) (by first|(rw [add_block];exact hn483_0)|(show (Addr.add _ _).block ≠ _;rw [add_block];exact hn483_0)|exact hn483_0) (.int .u64 ((rd_T62 t470 x85_3).f0))).trans hx483_3;replace hx483_0:=(cell_far (p:=⟨gb481,1,none⟩) (by first|(rw [add_block];exact hn483_1)|(show (Addr.add _ _).block ≠ _;rw [add_block];exact hn483_1)|exact hn483_1) (.int .u64 ((rd_T62 t470 x85_3).f1))).trans hx483_0;replace hx483_1:=(cell_far (p:=⟨gb481,1,none⟩) (by first|(rw [add_block];exact hn483_1)|(show (Addr.add _ _).block ≠ _;rw [add_block];exact hn483_1)|exact hn483_1) (.int .u64 ((rd_T62 t470 x85_3).f1))).trans hx483_1;replace hx483_2:=(cell_far (p:=⟨gb481,1,none⟩) (by first|(rw [add_block];exact hn483_1)|(show (Addr.add _ _).block ≠ _;rw [add_block];exact hn483_1)|exact hn483_1) (.int .u64 ((rd_T62 t470 x85_3).f1))).trans hx483_2;replace hx483_3:=(cell_far (p:=⟨gb481,1,none⟩) (by first|(rw [add_block];exact hn483_1)|(show (Addr.add _ _).block ≠ _;rw [add_block];exact hn483_1)|exact hn483_1) (.int .u64 ((rd_T62 t470 x85_3).f1))).trans hx483_3;replace hx483_0:=(cell_far (p:=⟨gb481,2,none⟩) (by first|(rw [add_block];exact hn483_2)|(show (Addr.add _ _).block ≠ _;rw [add_block];exact hn483_2)|exact hn483_2) (.string ((rd_T62 t470 x85_3).f2))).trans hx483_0;replace hx483_1:=(cell_far (p:=⟨gb481,2,none⟩) (by first|(rw [add_block];exact hn483_2)|(show (Addr.add _ _).block ≠ _;rw [add_block];exact hn483_2)|exact hn483_2) (.string ((rd_T62 t470 x85_3).f2))).trans hx483_1;replace hx483_2:=(cell_far (p:=⟨gb481,2,none⟩) (by first|(rw [add_block];exact hn483_2)|(show (Addr.add _ _).block ≠ _;rw [add_block];exact hn483_2)|exact hn483_2) (.string ((rd_T62 t470 x85_3).f2))).trans hx483_2;replace hx483_3:=(cell_far (p:=⟨gb481,2,none⟩) (by first|(rw [add_block];exact hn483_2)|(show (Addr.add _ _).block ≠ _;rw [add_block];exact hn483_2)|exact hn483_2) (.string ((rd_T62 t470 x85_3).f2))).trans hx483_3;replace hx483_0:=(cell_far (p:=⟨gb481,3,none⟩) (by first|(rw [add_block];exact hn483_3)|(show (Addr.add _ _).block ≠ _;rw [add_block];exact hn483_3)|exact hn483_3) (.string ((rd_T62 t470 x85_3).f3))).trans hx483_0;replace hx483_1:=(cell_far (p:=⟨gb481,3,none⟩) (by first|(rw [add_block];exact hn483_3)|(show (Addr.add _ _).block ≠ _;rw [add_block];exact hn483_3)|exact hn483_3) (.string ((rd_T62 t470 x85_3).f3))).trans hx483_1;replace hx483_2:=(cell_far (p:=⟨gb481,3,none⟩) (by first|(rw [add_block];exact hn483_3)|(show (Addr.add _ _).block ≠ _;rw [add_block];exact hn483_3)|exact hn483_3) (.string ((rd_T62 t470 x85_3).f3))).trans hx483_2;replace hx483_3:=(cell_far (p:=⟨gb481,3,none⟩) (by first|(rw [add_block];exact hn483_3)|(show (Addr.add _ _).block ≠ _;rw [add_block];exact hn483_3)|exact hn483_3) (.string ((rd_T62 t470 x85_3).f3))).trans hx483_3;(try have hy483_0:=fun (n_ : Nat) => (show ((((((w75.drewN n_).setCell ⟨gb481,0,none⟩ (.int .u64 ((rd_T62 t470 x85_3).f0))).setCell ⟨gb481,1,none⟩ (.int .u64 ((rd_T62 t470 x85_3).f1))).setCell ⟨gb481,2,none⟩ (.string ((rd_T62 t470 x85_3).f2))).setCell ⟨gb481,3,none⟩ (.string ((rd_T62 t470 x85_3).f3)))).cell? _ = some _ from hx483_0));(try have hy483_1:=fun (n_ : Nat) => (show ((((((w75.drewN n_).setCell ⟨gb481,0,none⟩ (.int .u64 ((rd_T62 t470 x85_3).f0))).setCell ⟨gb481,1,none⟩ (.int .u64 ((rd_T62 t470 x85_3).f1))).setCell ⟨gb481,2,none⟩ (.string ((rd_T62 t470 x85_3).f2))).setCell ⟨gb481,3,none⟩ (.string ((rd_T62 t470 x85_3).f3)))).cell? _ = some _ from hx483_1));(try have hy483_2:=fun (n_ : Nat) => (show ((((((w75.drewN n_).setCell ⟨gb481,0,none⟩ (.int .u64 ((rd_T62 t470 x85_3).f0))).setCell ⟨gb481,1,none⟩ (.int .u64 ((rd_T62 t470 x85_3).f1))).setCell ⟨gb481,2,none⟩ (.string ((rd_T62 t470 x85_3).f2))).setCell ⟨gb481,3,none⟩ (.string ((rd_T62 t470 x85_3).f3)))).cell? _ = some _ from hx483_2));(try have hy483_3:=fun (n_ : Nat) => (show ((((((w75.drewN n_).setCell ⟨gb481,0,none⟩ (.int .u64 ((rd_T62 t470 x85_3).f0))).setCell ⟨gb481,1,none⟩ (.int .u64 ((rd_T62 t470 x85_3).f1))).setCell ⟨gb481,2,none⟩ (.string ((rd_T62 t470 x85_3).f2))).setCell ⟨gb481,3,none⟩ (.string ((rd_T62 t470 x85_3).f3)))).cell? _ = some _ from hx483_3));clear hn483_0;clear hn483_1;clear hn483_2;clear hn483_3;replace p483:=eq_true p483;replace q483:=eq_true q483)))
              go_roundg k3
              case measure => have:=HK1.out;have:=HJ15.out;have:=HK3.out;omega
              case rel => exact ⟨(wrap64 (x85_3 + 1)),(by first|rfl|(simp;done)|(simp [*];done)),H',⟨by have:=HK1.out;have:=HJ15.out;have:=HK3.out;omega⟩,⟨by (with_reducible repeat (first|apply zA|apply zN|apply zD));exact Kd.R_mono (Kd.R_far (p:=⟨gb481,3,none⟩) (Kd.R_far (p:=⟨gb481,2,none⟩) (Kd.R_far (p:=⟨gb481,1,none⟩) (Kd.R_far (p:=⟨gb481,0,none⟩) (Kd.R_mono HO_83.out (fun k_ hk => (⟨hk,hk.2⟩ : _ ∧ k_ ≠ gb481))) (fun _ hk => hk.2) (.int .u64 ((rd_T62 t470 x85_3).f0))) (fun _ hk => hk.2) (.int .u64 ((rd_T62 t470 x85_3).f1))) (fun _ hk => hk.2) (.string ((rd_T62 t470 x85_3).f2))) (fun _ hk => hk.2) (.string ((rd_T62 t470 x85_3).f3))) (fun _ hk => hk.1.1)⟩,⟨by (with_reducible repeat (first|apply zA|apply zN|apply zD));exact Kd.R_mono (Kd.R_far (p:=⟨gb481,3,none⟩) (Kd.R_far (p:=⟨gb481,2,none⟩) (Kd.R_far (p:=⟨gb481,1,none⟩) (Kd.R_far (p:=⟨gb481,0,none⟩) (Kd.R_mono HO_468000.out (fun k_ hk => (⟨hk,hk.2⟩ : _ ∧ k_ ≠ gb481))) (fun _ hk => hk.2) (.int .u64 ((rd_T62 t470 x85_3).f0))) (fun _ hk => hk.2) (.int .u64 ((rd_T62 t470 x85_3).f1))) (fun _ hk => hk.2) (.string ((rd_T62 t470 x85_3).f2))) (fun _ hk => hk.2) (.string ((rd_T62 t470 x85_3).f3))) (fun _ hk => ⟨hk.1.1.1,hk.1.1.2⟩)⟩,⟨by (with_reducible repeat (first|apply zA|apply zN|apply zD));exact Kd.R_mono (Kd.R_far (p:=⟨gb481,3,none⟩) (Kd.R_far (p:=⟨gb481,2,none⟩) (Kd.R_far (p:=⟨gb481,1,none⟩) (Kd.R_far (p:=⟨gb481,0,none⟩) (Kd.R_mono HO_478000.out (fun k_ hk => (⟨hk,hk.2⟩ : _ ∧ k_ ≠ gb481))) (fun _ hk => hk.2) (.int .u64 ((rd_T62 t470 x85_3).f0))) (fun _ hk => hk.2) (.int .u64 ((rd_T62 t470 x85_3).f1))) (fun _ hk => hk.2) (.string ((rd_T62 t470 x85_3).f2))) (fun _ hk => hk.2) (.string ((rd_T62 t470 x85_3).f3))) (fun _ hk => hk.1.1)⟩,⟨by (with_reducible repeat (first|refine bN ?_ _|refine bD ?_|refine bA ?_ _));refine blk_far ?_ NB467_481.out _;(with_reducible repeat (first|refine bN ?_ _|refine bD ?_|refine bA ?_ _));refine blk_far ?_ NB467_481.out _;(with_reducible repeat (first|refine bN ?_ _|refine bD ?_|refine bA ?_ _));refine blk_far ?_ NB467_481.out _;(with_reducible repeat (first|refine bN ?_ _|refine bD ?_|refine bA ?_ _));refine blk_far ?_ NB467_481.out _;(with_reducible repeat (first|refine bN ?_ _|refine bD ?_|refine bA ?_ _));exact BK467.out⟩,⟨by (with_reducible repeat (first|refine bN ?_ _|refine bD ?_|refine bA ?_ _));refine blk_far ?_ NB469_481.out _;(with_reducible repeat (first|refine bN ?_ _|refine bD ?_|refine bA ?_ _));refine blk_far ?_ NB469_481.out _;(with_reducible repeat (first|refine bN ?_ _|refine bD ?_|refine bA ?_ _));refine blk_far ?_ NB469_481.out _;(with_reducible repeat (first|refine bN ?_ _|refine bD ?_|refine bA ?_ _));refine blk_far ?_ NB469_481.out _;(with_reducible repeat (first|refine bN ?_ _|refine bD ?_|refine bA ?_ _));exact BK469.out⟩,⟨by (with_reducible repeat (first|refine bN ?_ _|refine bD ?_|refine bA ?_ _));refine blk_far ?_ NB477_481.out _;(with_reducible repeat (first|refine bN ?_ _|refine bD ?_|refine bA ?_ _));refine blk_far ?_ NB477_481.out _;(with_reducible repeat (first|refine bN ?_ _|refine bD ?_|refine bA ?_ _));refine blk_far ?_ NB477_481.out _;(with_reducible repeat (first|refine bN ?_ _|refine bD ?_|refine bA ?_ _));refine blk_far ?_ NB477_481.out _;(with_reducible repeat (first|refine bN ?_ _|refine bD ?_|refine bA ?_ _));exact BK477.out⟩,⟨by repeat (first|(with_reducible first|exact HB.out|apply below_alloc|apply pw_below_drewN|apply below_drew1|refine below_set ?_ GE467.out|refine below_set ?_ GE469.out|refine below_set ?_ GE477.out|refine below_set ?_ GE481.out)|exact HB.out)⟩⟩
            ·rw [if_neg c70] at H
             have c70b0 : decide (0 < x85_3) = false:=decide_eq_false c70
             clear c70
             have H':=Aside0.mk H
             clear H
             have p480 : 0 ≤ (x85_3 : Int):=of_decide_eq_true (by first|(with_reducible assumption)|assumption)
             have q480 : x85_3 < (t470.length : Int):=of_decide_eq_true (by first|(with_reducible assumption)|assumption)
             obtain ⟨ad480,e480,hx480_0,hx480_1,hx480_2,hx480_3⟩:=at_T62 (Kd.R_reads' HO_83.out).2.2 x85_3 p480 q480
             cases e480
             replace p480:=eq_true p480
             replace q480:=eq_true q480
             go_wp2_with (first|((with_reducible refine gate_dst (N:=9) rfl ?_);(try (refine gate_guard (by rfl) ?_;dsimp only));refine box_event ?hg (N:=9) ?hd (cs:=#[.int .u64 0,.int .u64 0,.string (⟨#[]⟩ : BA),.string (⟨#[]⟩ : BA)]) (t:=62) ?hr ?_;(case hd => rfl);(case hg => rfl);(case hr => first|(go_simp;done)|(go_simp;rfl));intro gb481 hg w85 hbox hb;have n0_:=Aside0.mk (Kd.R_below (Kd.R_elderB (by (with_reducible repeat (first|apply zA|apply zN|apply zD));exact HO_83.out) gb481 (Nat.le_of_eq hg.symm)) hb);have n1_:=Aside0.mk (Kd.R_below (Kd.R_elderB (by (with_reducible repeat (first|apply zA|apply zN|apply zD));exact HO_468000.out) gb481 (Nat.le_of_eq hg.symm)) hb);have n2_:=Aside0.mk (Kd.R_below (Kd.R_elderB (by (with_reducible repeat (first|apply zA|apply zN|apply zD));exact HO_478000.out) gb481 (Nat.le_of_eq hg.symm)) hb);have n3_:=Aside0.mk (blk_below (g:=gb467) (o:=.cells #[.slice Ao21 x468000_1.length co21,.int .u64 x468001_1,.int .u64 x468002_1,.int .u64 x468003_1] 57 (0,0)) (by (with_reducible repeat (first|refine bN ?_ _|refine bD ?_|refine bA ?_ _));exact BK467.out) hb);have n4_:=Aside0.mk (blk_below (g:=gb469) (o:=.cells #[.slice A468_0 ((rd_T54 y461 x25_1).f0).length c468_0,.int .u64 ((rd_T54 y461 x25_1).f1),.int .u64 ((rd_T54 y461 x25_1).f2),.int .u64 ((rd_T54 y461 x25_1).f3)] 54 (0,0)) (by (with_reducible repeat (first|refine bN ?_ _|refine bD ?_|refine bA ?_ _));exact BK469.out) hb);have n5_:=Aside0.mk (blk_below (g:=gb477) (o:=.cells #[.slice (some ad480) t470.length co24,.int .u64 t473,.int .u64 t474,.int .u64 t475] 57 (0,0)) (by (with_reducible repeat (first|refine bN ?_ _|refine bD ?_|refine bA ?_ _));exact BK477.out) hb);have n6_:=Aside0.mk (below_step (by repeat (first|(with_reducible first|exact HB.out|apply below_alloc|apply pw_below_drewN|apply below_drew1|refine below_set ?_ GE467.out|refine below_set ?_ GE469.out|refine below_set ?_ GE477.out)|exact HB.out)) hb);have n7_:=Aside0.mk (hbox);have n8_:=Aside0.mk ((by rw [hg];exact (below_size (by repeat (first|(with_reducible first|exact HB.out|apply below_alloc|apply pw_below_drewN|apply below_drew1|refine below_set ?_ GE467.out|refine below_set ?_ GE469.out|refine below_set ?_ GE477.out)|exact HB.out))) : w.heap.size ≤ gb481));have n9_:=Aside0.mk ((by rw [hg];exact (below_size (by repeat (first|(with_reducible first|exact HB.out|apply below_alloc|apply pw_below_drewN|apply below_drew1|refine below_set ?_ GE467.out|refine below_set ?_ GE469.out|refine below_set ?_ GE477.out)|exact HB.out))) : w.heap.size ≤ gb481));have n10_:=Aside0.mk ((by rw [hg];exact Nat.ne_of_lt (blk_lt (g:=gb467) (o:=.cells #[.slice Ao21 x468000_1.length co21,.int .u64 x468001_1,.int .u64 x468002_1,.int .u64 x468003_1] 57 (0,0)) (by (with_reducible repeat (first|refine bN ?_ _|refine bD ?_|refine bA ?_ _));exact BK467.out)) : gb467 ≠ gb481));have n11_:=Aside0.mk ((by rw [hg];exact Nat.ne_of_gt (blk_lt (g:=gb467) (o:=.cells #[.slice Ao21 x468000_1.length co21,.int .u64 x468001_1,.int .u64 x468002_1,.int .u64 x468003_1] 57 (0,0)) (by (with_reducible repeat (first|refine bN ?_ _|refine bD ?_|refine bA ?_ _));exact BK467.out)) : gb481 ≠ gb467));have n12_:=Aside0.mk ((by rw [hg];exact Nat.ne_of_lt (blk_lt (g:=gb469) (o:=.cells #[.slice A468_0 ((rd_T54 y461 x25_1).f0).length c468_0,.int .u64 ((rd_T54 y461 x25_1).f1),.int .u64 ((rd_T54 y461 x25_1).f2),.int .u64 ((rd_T54 y461 x25_1).f3)] 54 (0,0)) (by (with_reducible repeat (first|refine bN ?_ _|refine bD ?_|refine bA ?_ _));exact BK469.out)) : gb469 ≠ gb481));have n13_:=Aside0.mk ((by rw [hg];exact Nat.ne_of_gt (blk_lt (g:=gb469) (o:=.cells #[.slice A468_0 ((rd_T54 y461 x25_1).f0).length c468_0,.int .u64 ((rd_T54 y461 x25_1).f1),.int .u64 ((rd_T54 y461 x25_1).f2),.int .u64 ((rd_T54 y461 x25_1).f3)] 54 (0,0)) (by (with_reducible repeat (first|refine bN ?_ _|refine bD ?_|refine bA ?_ _));exact BK469.out)) : gb481 ≠ gb469));have n14_:=Aside0.mk ((by rw [hg];exact Nat.ne_of_lt (blk_lt (g:=gb477) (o:=.cells #[.slice (some ad480) t470.length co24,.int .u64 t473,.int .u64 t474,.int .u64 t475] 57 (0,0)) (by (with_reducible repeat (first|refine bN ?_ _|refine bD ?_|refine bA ?_ _));exact BK477.out)) : gb477 ≠ gb481));have n15_:=Aside0.mk ((by rw [hg];exact Nat.ne_of_gt (blk_lt (g:=gb477) (o:=.cells #[.slice (some ad480) t470.length co24,.int .u64 t473,.int .u64 t474,.int .u64 t475] 57 (0,0)) (by (with_reducible repeat (first|refine bN ?_ _|refine bD ?_|refine bA ?_ _));exact BK477.out)) : gb481 ≠ gb477));clear HO_83;clear HO_468000;clear HO_478000;clear BK467;clear BK469;clear BK477;clear HB;have HO_83:=n0_;have HO_468000:=n1_;have HO_478000:=n2_;have BK467:=n3_;have BK469:=n4_;have BK477:=n5_;have HB:=n6_;have BK481:=n7_;have GW481:=n8_;have GE481:=n9_;have NB467_481:=n10_;have NB481_467:=n11_;have NB469_481:=n12_;have NB481_469:=n13_;have NB477_481:=n14_;have NB481_477:=n15_;clear n0_ n1_ n2_ n3_ n4_ n5_ n6_ n7_ n8_ n9_ n10_ n11_ n12_ n13_ n14_ n15_;clear hb hbox hg;have hnb86:=NB481_467.out;have hnc86:=NB467_481.out;have hnb87:=NB481_469.out;have hnc87:=NB469_481.out;have hnb88:=NB481_477.out;have hnc88:=NB477_481.out;have hcz89_0 : w85.cell? ⟨gb481,0,none⟩ = some (.int .u64 0):=(blk_cell BK481.out 0).trans rfl;have hcz89_1 : w85.cell? ⟨gb481,1,none⟩ = some (.int .u64 0):=(blk_cell BK481.out 1).trans rfl;have hcz89_2 : w85.cell? ⟨gb481,2,none⟩ = some (.string (⟨#[]⟩ : BA)):=(blk_cell BK481.out 2).trans rfl;have hcz89_3 : w85.cell? ⟨gb481,3,none⟩ = some (.string (⟨#[]⟩ : BA)):=(blk_cell BK481.out 3).trans rfl;have hfz89_0:=blk_frozen BK481.out 0;have hfz89_1:=blk_frozen BK481.out 1;have hfz89_2:=blk_frozen BK481.out 2;have hfz89_3:=blk_frozen BK481.out 3;have hnb90:=NB467_469.out;have hnc90:=NB469_467.out;have hnb91:=NB467_477.out;have hnc91:=NB477_467.out;have hcz92_0 : w85.cell? ⟨gb467,0,none⟩ = some (.slice Ao21 x468000_1.length co21):=(blk_cell BK467.out 0).trans rfl;have hcz92_1 : w85.cell? ⟨gb467,1,none⟩ = some (.int .u64 x468001_1):=(blk_cell BK467.out 1).trans rfl;have hcz92_2 : w85.cell? ⟨gb467,2,none⟩ = some (.int .u64 x468002_1):=(blk_cell BK467.out 2).trans rfl;have hcz92_3 : w85.cell? ⟨gb467,3,none⟩ = some (.int .u64 x468003_1):=(blk_cell BK467.out 3).trans rfl;have hfz92_0:=blk_frozen BK467.out 0;have hfz92_1:=blk_frozen BK467.out 1;have hfz92_2:=blk_frozen BK467.out 2;have hfz92_3:=blk_frozen BK467.out 3;have p482 : 0 ≤ (x85_3 : Int):=of_decide_eq_true (by first|(with_reducible assumption)|assumption);have q482 : x85_3 < (x468000_1.length : Int):=of_decide_eq_true (by first|(with_reducible assumption)|assumption);obtain ⟨ad482,e482,hx482_0,hx482_1,hx482_2,hx482_3⟩:=at_T62 (Kd.R_reads' HO_468000.out).2.2 x85_3 p482 q482;cases e482;have hn482_0 : ad482.block ≠ gb481:=Kd.own_blk (fun e_ => (HO_468000.out.1 _ e_.symm).2 rfl);have hn482_1 : ad482.block ≠ gb481:=Kd.own_blk (fun e_ => (HO_468000.out.1 _ e_.symm).2 rfl);have hn482_2 : ad482.block ≠ gb481:=Kd.own_blk (fun e_ => (HO_468000.out.1 _ e_.symm).2 rfl);have hn482_3 : ad482.block ≠ gb481:=Kd.own_blk (fun e_ => (HO_468000.out.1 _ e_.symm).2 rfl);replace hx482_0:=(cell_far (p:=⟨gb481,0,none⟩) (by first|(rw [add_block];exact hn482_0)|(show (Addr.add _ _).block ≠ _;rw [add_block];exact hn482_0)|exact hn482_0) (.int .u64 ((rd_T62 t470 x85_3).f0))).trans hx482_0;replace hx482_1:=(cell_far (p:=⟨gb481,0,none⟩) (by first|(rw [add_block];exact hn482_0)|(show (Addr.add _ _).block ≠ _;rw [add_block];exact hn482_0)|exact hn482_0) (.int .u64 ((rd_T62 t470 x85_3).f0))).trans hx482_1;replace hx482_2:=(cell_far (p:=⟨gb481,0,none⟩) (by first|(rw [add_block];exact hn482_0)|(show (Addr.add _ _).block ≠ _;rw [add_block];exact hn482_0)|exact hn482_0) (.int .u64 ((rd_T62 t470 x85_3).f0))).trans hx482_2;replace hx482_3:=(cell_far (p:=⟨gb481,0,none⟩) (by first|(rw [add_block];exact hn482_0)|(show (Addr.add _ _).block ≠ _;rw [add_block];exact hn482_0)|exact hn482_0) (.int .u64 ((rd_T62 t470 x85_3).f0))).trans hx482_3;replace hx482_0:=(cell_far (p:=⟨gb481,1,none⟩) (by first|(rw [add_block];exact hn482_1)|(show (Addr.add _ _).block ≠ _;rw [add_block];exact hn482_1)|exact hn482_1) (.int .u64 ((rd_T62 t470 x85_3).f1))).trans hx482_0;replace hx482_1:=(cell_far (p:=⟨gb481,1,none⟩) (by first|(rw [add_block];exact hn482_1)|(show (Addr.add _ _).block ≠ _;rw [add_block];exact hn482_1)|exact hn482_1) (.int .u64 ((rd_T62 t470 x85_3).f1))).trans hx482_1;replace hx482_2:=(cell_far (p:=⟨gb481,1,none⟩) (by first|(rw [add_block];exact hn482_1)|(show (Addr.add _ _).block ≠ _;rw [add_block];exact hn482_1)|exact hn482_1) (.int .u64 ((rd_T62 t470 x85_3).f1))).trans hx482_2;replace hx482_3:=(cell_far (p:=⟨gb481,1,none⟩) (by first|(rw [add_block];exact hn482_1)|(show (Addr.add _ _).block ≠ _;rw [add_block];exact hn482_1)|exact hn482_1) (.int .u64 ((rd_T62 t470 x85_3).f1))).trans hx482_3;replace hx482_0:=(cell_far (p:=⟨gb481,2,none⟩) (by first|(rw [add_block];exact hn482_2)|(show (Addr.add _ _).block ≠ _;rw [add_block];exact hn482_2)|exact hn482_2) (.string ((rd_T62 t470 x85_3).f2))).trans hx482_0;replace hx482_1:=(cell_far (p:=⟨gb481,2,none⟩) (by first|(rw [add_block];exact hn482_2)|(show (Addr.add _ _).block ≠ _;rw [add_block];exact hn482_2)|exact hn482_2) (.string ((rd_T62 t470 x85_3).f2))).trans hx482_1;replace hx482_2:=(cell_far (p:=⟨gb481,2,none⟩) (by first|(rw [add_block];exact hn482_2)|(show (Addr.add _ _).block ≠ _;rw [add_block];exact hn482_2)|exact hn482_2) (.string ((rd_T62 t470 x85_3).f2))).trans hx482_2;replace hx482_3:=(cell_far (p:=⟨gb481,2,none⟩) (by first|(rw [add_block];exact hn482_2)|(show (Addr.add _ _).block ≠ _;rw [add_block];exact hn482_2)|exact hn482_2) (.string ((rd_T62 t470 x85_3).f2))).trans hx482_3;replace hx482_0:=(cell_far (p:=⟨gb481,3,none⟩) (by first|(rw [add_block];exact hn482_3)|(show (Addr.add _ _).block ≠ _;rw [add_block];exact hn482_3)|exact hn482_3) (.string ((rd_T62 t470 x85_3).f3))).trans hx482_0;replace hx482_1:=(cell_far (p:=⟨gb481,3,none⟩) (by first|(rw [add_block];exact hn482_3)|(show (Addr.add _ _).block ≠ _;rw [add_block];exact hn482_3)|exact hn482_3) (.string ((rd_T62 t470 x85_3).f3))).trans hx482_1;replace hx482_2:=(cell_far (p:=⟨gb481,3,none⟩) (by first|(rw [add_block];exact hn482_3)|(show (Addr.add _ _).block ≠ _;rw [add_block];exact hn482_3)|exact hn482_3) (.string ((rd_T62 t470 x85_3).f3))).trans hx482_2;replace hx482_3:=(cell_far (p:=⟨gb481,3,none⟩) (by first|(rw [add_block];exact hn482_3)|(show (Addr.add _ _).block ≠ _;rw [add_block];exact hn482_3)|exact hn482_3) (.string ((rd_T62 t470 x85_3).f3))).trans hx482_3;(try have hy482_0:=fun (n_ : Nat) => (show ((((((w85.drewN n_).setCell ⟨gb481,0,none⟩ (.int .u64 ((rd_T62 t470 x85_3).f0))).setCell ⟨gb481,1,none⟩ (.int .u64 ((rd_T62 t470 x85_3).f1))).setCell ⟨gb481,2,none⟩ (.string ((rd_T62 t470 x85_3).f2))).setCell ⟨gb481,3,none⟩ (.string ((rd_T62 t470 x85_3).f3)))).cell? _ = some _ from hx482_0));(try have hy482_1:=fun (n_ : Nat) => (show ((((((w85.drewN n_).setCell ⟨gb481,0,none⟩ (.int .u64 ((rd_T62 t470 x85_3).f0))).setCell ⟨gb481,1,none⟩ (.int .u64 ((rd_T62 t470 x85_3).f1))).setCell ⟨gb481,2,none⟩ (.string ((rd_T62 t470 x85_3).f2))).setCell ⟨gb481,3,none⟩ (.string ((rd_T62 t470 x85_3).f3)))).cell? _ = some _ from hx482_1));(try have hy482_2:=fun (n_ : Nat) => (show ((((((w85.drewN n_).setCell ⟨gb481,0,none⟩ (.int .u64 ((rd_T62 t470 x85_3).f0))).setCell ⟨gb481,1,none⟩ (.int .u64 ((rd_T62 t470 x85_3).f1))).setCell ⟨gb481,2,none⟩ (.string ((rd_T62 t470 x85_3).f2))).setCell ⟨gb481,3,none⟩ (.string ((rd_T62 t470 x85_3).f3)))).cell? _ = some _ from hx482_2));(try have hy482_3:=fun (n_ : Nat) => (show ((((((w85.drewN n_).setCell ⟨gb481,0,none⟩ (.int .u64 ((rd_T62 t470 x85_3).f0))).setCell ⟨gb481,1,none⟩ (.int .u64 ((rd_T62 t470 x85_3).f1))).setCell ⟨gb481,2,none⟩ (.string ((rd_T62 t470 x85_3).f2))).setCell ⟨gb481,3,none⟩ (.string ((rd_T62 t470 x85_3).f3)))).cell? _ = some _ from hx482_3));clear hn482_0;clear hn482_1;clear hn482_2;clear hn482_3;replace p482:=eq_true p482;replace q482:=eq_true q482))
             repeat (go_quiet (fail);try go_wp2_with (first|((with_reducible refine gate_dst (N:=9) rfl ?_);(try (refine gate_guard (by rfl) ?_;dsimp only));refine box_event ?hg (N:=9) ?hd (cs:=#[.int .u64 0,.int .u64 0,.string (⟨#[]⟩ : BA),.string (⟨#[]⟩ : BA)]) (t:=62) ?hr ?_;(case hd => rfl);(case hg => rfl);(case hr => first|(go_simp;done)|(go_simp;rfl));intro gb481 hg w85 hbox hb;have n0_:=Aside0.mk (Kd.R_below (Kd.R_elderB (by (with_reducible repeat (first|apply zA|apply zN|apply zD));exact HO_83.out) gb481 (Nat.le_of_eq hg.symm)) hb);have n1_:=Aside0.mk (Kd.R_below (Kd.R_elderB (by (with_reducible repeat (first|apply zA|apply zN|apply zD));exact HO_468000.out) gb481 (Nat.le_of_eq hg.symm)) hb);have n2_:=Aside0.mk (Kd.R_below (Kd.R_elderB (by (with_reducible repeat (first|apply zA|apply zN|apply zD));exact HO_478000.out) gb481 (Nat.le_of_eq hg.symm)) hb);have n3_:=Aside0.mk (blk_below (g:=gb467) (o:=.cells #[.slice Ao21 x468000_1.length co21,.int .u64 x468001_1,.int .u64 x468002_1,.int .u64 x468003_1] 57 (0,0)) (by (with_reducible repeat (first|refine bN ?_ _|refine bD ?_|refine bA ?_ _));exact BK467.out) hb);have n4_:=Aside0.mk (blk_below (g:=gb469) (o:=.cells #[.slice A468_0 ((rd_T54 y461 x25_1).f0).length c468_0,.int .u64 ((rd_T54 y461 x25_1).f1),.int .u64 ((rd_T54 y461 x25_1).f2),.int .u64 ((rd_T54 y461 x25_1).f3)] 54 (0,0)) (by (with_reducible repeat (first|refine bN ?_ _|refine bD ?_|refine bA ?_ _));exact BK469.out) hb);have n5_:=Aside0.mk (blk_below (g:=gb477) (o:=.cells #[.slice (some ad480) t470.length co24,.int .u64 t473,.int .u64 t474,.int .u64 t475] 57 (0,0)) (by (with_reducible repeat (first|refine bN ?_ _|refine bD ?_|refine bA ?_ _));exact BK477.out) hb);have n6_:=Aside0.mk (below_step (by repeat (first|(with_reducible first|exact HB.out|apply below_alloc|apply pw_below_drewN|apply below_drew1|refine below_set ?_ GE467.out|refine below_set ?_ GE469.out|refine below_set ?_ GE477.out)|exact HB.out)) hb);have n7_:=Aside0.mk (hbox);have n8_:=Aside0.mk ((by rw [hg];exact (below_size (by repeat (first|(with_reducible first|exact HB.out|apply below_alloc|apply pw_below_drewN|apply below_drew1|refine below_set ?_ GE467.out|refine below_set ?_ GE469.out|refine below_set ?_ GE477.out)|exact HB.out))) : w.heap.size ≤ gb481));have n9_:=Aside0.mk ((by rw [hg];exact (below_size (by repeat (first|(with_reducible first|exact HB.out|apply below_alloc|apply pw_below_drewN|apply below_drew1|refine below_set ?_ GE467.out|refine below_set ?_ GE469.out|refine below_set ?_ GE477.out)|exact HB.out))) : w.heap.size ≤ gb481));have n10_:=Aside0.mk ((by rw [hg];exact Nat.ne_of_lt (blk_lt (g:=gb467) (o:=.cells #[.slice Ao21 x468000_1.length co21,.int .u64 x468001_1,.int .u64 x468002_1,.int .u64 x468003_1] 57 (0,0)) (by (with_reducible repeat (first|refine bN ?_ _|refine bD ?_|refine bA ?_ _));exact BK467.out)) : gb467 ≠ gb481));have n11_:=Aside0.mk ((by rw [hg];exact Nat.ne_of_gt (blk_lt (g:=gb467) (o:=.cells #[.slice Ao21 x468000_1.length co21,.int .u64 x468001_1,.int .u64 x468002_1,.int .u64 x468003_1] 57 (0,0)) (by (with_reducible repeat (first|refine bN ?_ _|refine bD ?_|refine bA ?_ _));exact BK467.out)) : gb481 ≠ gb467));have n12_:=Aside0.mk ((by rw [hg];exact Nat.ne_of_lt (blk_lt (g:=gb469) (o:=.cells #[.slice A468_0 ((rd_T54 y461 x25_1).f0).length c468_0,.int .u64 ((rd_T54 y461 x25_1).f1),.int .u64 ((rd_T54 y461 x25_1).f2),.int .u64 ((rd_T54 y461 x25_1).f3)] 54 (0,0)) (by (with_reducible repeat (first|refine bN ?_ _|refine bD ?_|refine bA ?_ _));exact BK469.out)) : gb469 ≠ gb481));have n13_:=Aside0.mk ((by rw [hg];exact Nat.ne_of_gt (blk_lt (g:=gb469) (o:=.cells #[.slice A468_0 ((rd_T54 y461 x25_1).f0).length c468_0,.int .u64 ((rd_T54 y461 x25_1).f1),.int .u64 ((rd_T54 y461 x25_1).f2),.int .u64 ((rd_T54 y461 x25_1).f3)] 54 (0,0)) (by (with_reducible repeat (first|refine bN ?_ _|refine bD ?_|refine bA ?_ _));exact BK469.out)) : gb481 ≠ gb469));have n14_:=Aside0.mk ((by rw [hg];exact Nat.ne_of_lt (blk_lt (g:=gb477) (o:=.cells #[.slice (some ad480) t470.length co24,.int .u64 t473,.int .u64 t474,.int .u64 t475] 57 (0,0)) (by (with_reducible repeat (first|refine bN ?_ _|refine bD ?_|refine bA ?_ _));exact BK477.out)) : gb477 ≠ gb481));have n15_:=Aside0.mk ((by rw [hg];exact Nat.ne_of_gt (blk_lt (g:=gb477) (o:=.cells #[.slice (some ad480) t470.length co24,.int .u64 t473,.int .u64 t474,.int .u64 t475] 57 (0,0)) (by (with_reducible repeat (first|refine bN ?_ _|refine bD ?_|refine bA ?_ _));exact BK477.out)) : gb481 ≠ gb477));clear HO_83;clear HO_468000;clear HO_478000;clear BK467;clear BK469;clear BK477;clear HB;have HO_83:=n0_;have HO_468000:=n1_;have HO_478000:=n2_;have BK467:=n3_;have BK469:=n4_;have BK477:=n5_;have HB:=n6_;have BK481:=n7_;have GW481:=n8_;have GE481:=n9_;have NB467_481:=n10_;have NB481_467:=n11_;have NB469_481:=n12_;have NB481_469:=n13_;have NB477_481:=n14_;have NB481_477:=n15_;clear n0_ n1_ n2_ n3_ n4_ n5_ n6_ n7_ n8_ n9_ n10_ n11_ n12_ n13_ n14_ n15_;clear hb hbox hg;have hnb86:=NB481_467.out;have hnc86:=NB467_481.out;have hnb87:=NB481_469.out;have hnc87:=NB469_481.out;have hnb88:=NB481_477.out;have hnc88:=NB477_481.out;have hcz89_0 : w85.cell? ⟨gb481,0,none⟩ = some (.int .u64 0):=(blk_cell BK481.out 0).trans rfl;have hcz89_1 : w85.cell? ⟨gb481,1,none⟩ = some (.int .u64 0):=(blk_cell BK481.out 1).trans rfl;have hcz89_2 : w85.cell? ⟨gb481,2,none⟩ = some (.string (⟨#[]⟩ : BA)):=(blk_cell BK481.out 2).trans rfl;have hcz89_3 : w85.cell? ⟨gb481,3,none⟩ = some (.string (⟨#[]⟩ : BA)):=(blk_cell BK481.out 3).trans rfl;have hfz89_0:=blk_frozen BK481.out 0;have hfz89_1:=blk_frozen BK481.out 1;have hfz89_2:=blk_frozen BK481.out 2;have hfz89_3:=blk_frozen BK481.out 3;have hnb90:=NB467_469.out;have hnc90:=NB469_467.out;have hnb91:=NB467_477.out;have hnc91:=NB477_467.out;have hcz92_0 : w85.cell? ⟨gb467,0,none⟩ = some (.slice Ao21 x468000_1.length co21):=(blk_cell BK467.out 0).trans rfl;have hcz92_1 : w85.cell? ⟨gb467,1,none⟩ = some (.int .u64 x468001_1):=(blk_cell BK467.out 1).trans rfl;have hcz92_2 : w85.cell? ⟨gb467,2,none⟩ = some (.int .u64 x468002_1):=(blk_cell BK467.out 2).trans rfl;have hcz92_3 : w85.cell? ⟨gb467,3,none⟩ = some (.int .u64 x468003_1):=(blk_cell BK467.out 3).trans rfl;have hfz92_0:=blk_frozen BK467.out 0;have hfz92_1:=blk_frozen BK467.out 1;have hfz92_2:=blk_frozen BK467.out 2;have hfz92_3:=blk_frozen BK467.out 3;have p482 : 0 ≤ (x85_3 : Int):=of_decide_eq_true (by first|(with_reducible assumption)|assumption);have q482 : x85_3 < (x468000_1.length : Int):=of_decide_eq_true (by first|(with_reducible assumption)|assumption);obtain ⟨ad482,e482,hx482_0,hx482_1,hx482_2,hx482_3⟩:=at_T62 (Kd.R_reads' HO_468000.out).2.2 x85_3 p482 q482;cases e482;have hn482_0 : ad482.block ≠ gb481:=Kd.own_blk (fun e_ => (HO_468000.out.1 _ e_.symm).2 rfl);have hn482_1 : ad482.block ≠ gb481:=Kd.own_blk (fun e_ => (HO_468000.out.1 _ e_.symm).2 rfl);have hn482_2 : ad482.block ≠ gb481:=Kd.own_blk (fun e_ => (HO_468000.out.1 _ e_.symm).2 rfl);have hn482_3 : ad482.block ≠ gb481:=Kd.own_blk (fun e_ => (HO_468000.out.1 _ e_.symm).2 rfl);replace hx482_0:=(cell_far (p:=⟨gb481,0,none⟩) (by first|(rw [add_block];exact hn482_0)|(show (Addr.add _ _).block ≠ _;rw [add_block];exact hn482_0)|exact hn482_0) (.int .u64 ((rd_T62 t470 x85_3).f0))).trans hx482_0;replace hx482_1:=(cell_far (p:=⟨gb481,0,none⟩) (by first|(rw [add_block];exact hn482_0)|(show (Addr.add _ _).block ≠ _;rw [add_block];exact hn482_0)|exact hn482_0) (.int .u64 ((rd_T62 t470 x85_3).f0))).trans hx482_1;replace hx482_2:=(cell_far (p:=⟨gb481,0,none⟩) (by first|(rw [add_block];exact hn482_0)|(show (Addr.add _ _).block ≠ _;rw [add_block];exact hn482_0)|exact hn482_0) (.int .u64 ((rd_T62 t470 x85_3).f0))).trans hx482_2;replace hx482_3:=(cell_far (p:=⟨gb481,0,none⟩) (by first|(rw [add_block];exact hn482_0)|(show (Addr.add _ _).block ≠ _;rw [add_block];exact hn482_0)|exact hn482_0) (.int .u64 ((rd_T62 t470 x85_3).f0))).trans hx482_3;replace hx482_0:=(cell_far (p:=⟨gb481,1,none⟩) (by first|(rw [add_block];exact hn482_1)|(show (Addr.add _ _).block ≠ _;rw [add_block];exact hn482_1)|exact hn482_1) (.int .u64 ((rd_T62 t470 x85_3).f1))).trans hx482_0;replace hx482_1:=(cell_far (p:=⟨gb481,1,none⟩) (by first|(rw [add_block];exact hn482_1)|(show (Addr.add _ _).block ≠ _;rw [add_block];exact hn482_1)|exact hn482_1) (.int .u64 ((rd_T62 t470 x85_3).f1))).trans hx482_1;replace hx482_2:=(cell_far (p:=⟨gb481,1,none⟩) (by first|(rw [add_block];exact hn482_1)|(show (Addr.add _ _).block ≠ _;rw [add_block];exact hn482_1)|exact hn482_1) (.int .u64 ((rd_T62 t470 x85_3).f1))).trans hx482_2;replace hx482_3:=(cell_far (p:=⟨gb481,1,none⟩) (by first|(rw [add_block];exact hn482_1)|(show (Addr.add _ _).block ≠ _;rw [add_block];exact hn482_1)|exact hn482_1) (.int .u64 ((rd_T62 t470 x85_3).f1))).trans hx482_3;replace hx482_0:=(cell_far (p:=⟨gb481,2,none⟩) (by first|(rw [add_block];exact hn482_2)|(show (Addr.add _ _).block ≠ _;rw [add_block];exact hn482_2)|exact hn482_2) (.string ((rd_T62 t470 x85_3).f2))).trans hx482_0;replace hx482_1:=(cell_far (p:=⟨gb481,2,none⟩) (by first|(rw [add_block];exact hn482_2)|(show (Addr.add _ _).block ≠ _;rw [add_block];exact hn482_2)|exact hn482_2) (.string ((rd_T62 t470 x85_3).f2))).trans hx482_1;replace hx482_2:=(cell_far (p:=⟨gb481,2,none⟩) (by first|(rw [add_block];exact hn482_2)|(show (Addr.add _ _).block ≠ _;rw [add_block];exact hn482_2)|exact hn482_2) (.string ((rd_T62 t470 x85_3).f2))).trans hx482_2;replace hx482_3:=(cell_far (p:=⟨gb481,2,none⟩) (by first|(rw [add_block];exact hn482_2)|(show (Addr.add _ _).block ≠ _;rw [add_block];exact hn482_2)|exact hn482_2) (.string ((rd_T62 t470 x85_3).f2))).trans hx482_3;replace hx482_0:=(cell_far (p:=⟨gb481,3,none⟩) (by first|(rw [add_block];exact hn482_3)|(show (Addr.add _ _).block ≠ _;rw [add_block];exact hn482_3)|exact hn482_3) (.string ((rd_T62 t470 x85_3).f3))).trans hx482_0;replace hx482_1:=(cell_far (p:=⟨gb481,3,none⟩) (by first|(rw [add_block];exact hn482_3)|(show (Addr.add _ _).block ≠ _;rw [add_block];exact hn482_3)|exact hn482_3) (.string ((rd_T62 t470 x85_3).f3))).trans hx482_1;replace hx482_2:=(cell_far (p:=⟨gb481,3,none⟩) (by first|(rw [add_block];exact hn482_3)|(show (Addr.add _ _).block ≠ _;rw [add_block];exact hn482_3)|exact hn482_3) (.string ((rd_T62 t470 x85_3).f3))).trans hx482_2;replace hx482_3:=(cell_far (p:=⟨gb481,3,none⟩) (by first|(rw [add_block];exact hn482_3)|(show (Addr.add _ _).block ≠ _;rw [add_block];exact hn482_3)|exact hn482_3) (.string ((rd_T62 t470 x85_3).f3))).trans hx482_3;(try have hy482_0:=fun (n_ : Nat) => (show ((((((w85.drewN n_).setCell ⟨gb481,0,none⟩ (.int .u64 ((rd_T62 t470 x85_3).f0))).setCell ⟨gb481,1,none⟩ (.int .u64 ((rd_T62 t470 x85_3).f1))).setCell ⟨gb481,2,none⟩ (.string ((rd_T62 t470 x85_3).f2))).setCell ⟨gb481,3,none⟩ (.string ((rd_T62 t470 x85_3).f3)))).cell? _ = some _ from hx482_0));(try have hy482_1:=fun (n_ : Nat) => (show ((((((w85.drewN n_).setCell ⟨gb481,0,none⟩ (.int .u64 ((rd_T62 t470 x85_3).f0))).setCell ⟨gb481,1,none⟩ (.int .u64 ((rd_T62 t470 x85_3).f1))).setCell ⟨gb481,2,none⟩ (.string ((rd_T62 t470 x85_3).f2))).setCell ⟨gb481,3,none⟩ (.string ((rd_T62 t470 x85_3).f3)))).cell? _ = some _ from hx482_1));(try have hy482_2:=fun (n_ : Nat) => (show ((((((w85.drewN n_).setCell ⟨gb481,0,none⟩ (.int .u64 ((rd_T62 t470 x85_3).f0))).setCell ⟨gb481,1,none⟩ (.int .u64 ((rd_T62 t470 x85_3).f1))).setCell ⟨gb481,2,none⟩ (.string ((rd_T62 t470 x85_3).f2))).setCell ⟨gb481,3,none⟩ (.string ((rd_T62 t470 x85_3).f3)))).cell? _ = some _ from hx482_2));(try have hy482_3:=fun (n_ : Nat) => (show ((((((w85.drewN n_).setCell ⟨gb481,0,none⟩ (.int .u64 ((rd_T62 t470 x85_3).f0))).setCell ⟨gb481,1,none⟩ (.int .u64 ((rd_T62 t470 x85_3).f1))).setCell ⟨gb481,2,none⟩ (.string ((rd_T62 t470 x85_3).f2))).setCell ⟨gb481,3,none⟩ (.string ((rd_T62 t470 x85_3).f3)))).cell? _ = some _ from hx482_3));clear hn482_0;clear hn482_1;clear hn482_2;clear hn482_3;replace p482:=eq_true p482;replace q482:=eq_true q482)))
             go_roundg k3
             case measure => have:=HK1.out;have:=HJ15.out;have:=HK3.out;omega
             case rel => exact ⟨(wrap64 (x85_3 + 1)),(by first|rfl|(simp;done)|(simp [*];done)),H',⟨by have:=HK1.out;have:=HJ15.out;have:=HK3.out;omega⟩,⟨by (with_reducible repeat (first|apply zA|apply zN|apply zD));exact Kd.R_mono (Kd.R_far (p:=⟨gb481,3,none⟩) (Kd.R_far (p:=⟨gb481,2,none⟩) (Kd.R_far (p:=⟨gb481,1,none⟩) (Kd.R_far (p:=⟨gb481,0,none⟩) (Kd.R_mono HO_83.out (fun k_ hk => (⟨hk,hk.2⟩ : _ ∧ k_ ≠ gb481))) (fun _ hk => hk.2) (.int .u64 ((rd_T62 t470 x85_3).f0))) (fun _ hk => hk.2) (.int .u64 ((rd_T62 t470 x85_3).f1))) (fun _ hk => hk.2) (.string ((rd_T62 t470 x85_3).f2))) (fun _ hk => hk.2) (.string ((rd_T62 t470 x85_3).f3))) (fun _ hk => hk.1.1)⟩,⟨by (with_reducible repeat (first|apply zA|apply zN|apply zD));exact Kd.R_mono (Kd.R_far (p:=⟨gb481,3,none⟩) (Kd.R_far (p:=⟨gb481,2,none⟩) (Kd.R_far (p:=⟨gb481,1,none⟩) (Kd.R_far (p:=⟨gb481,0,none⟩) (Kd.R_mono HO_468000.out (fun k_ hk => (⟨hk,hk.2⟩ : _ ∧ k_ ≠ gb481))) (fun _ hk => hk.2) (.int .u64 ((rd_T62 t470 x85_3).f0))) (fun _ hk => hk.2) (.int .u64 ((rd_T62 t470 x85_3).f1))) (fun _ hk => hk.2) (.string ((rd_T62 t470 x85_3).f2))) (fun _ hk => hk.2) (.string ((rd_T62 t470 x85_3).f3))) (fun _ hk => ⟨hk.1.1.1,hk.1.1.2⟩)⟩,⟨by (with_reducible repeat (first|apply zA|apply zN|apply zD));exact Kd.R_mono (Kd.R_far (p:=⟨gb481,3,none⟩) (Kd.R_far (p:=⟨gb481,2,none⟩) (Kd.R_far (p:=⟨gb481,1,none⟩) (Kd.R_far (p:=⟨gb481,0,none⟩) (Kd.R_mono HO_478000.out (fun k_ hk => (⟨hk,hk.2⟩ : _ ∧ k_ ≠ gb481))) (fun _ hk => hk.2) (.int .u64 ((rd_T62 t470 x85_3).f0))) (fun _ hk => hk.2) (.int .u64 ((rd_T62 t470 x85_3).f1))) (fun _ hk => hk.2) (.string ((rd_T62 t470 x85_3).f2))) (fun _ hk => hk.2) (.string ((rd_T62 t470 x85_3).f3))) (fun _ hk => hk.1.1)⟩,⟨by (with_reducible repeat (first|refine bN ?_ _|refine bD ?_|refine bA ?_ _));refine blk_far ?_ NB467_481.out _;(with_reducible repeat (first|refine bN ?_ _|refine bD ?_|refine bA ?_ _));refine blk_far ?_ NB467_481.out _;(with_reducible repeat (first|refine bN ?_ _|refine bD ?_|refine bA ?_ _));refine blk_far ?_ NB467_481.out _;(with_reducible repeat (first|refine bN ?_ _|refine bD ?_|refine bA ?_ _));refine blk_far ?_ NB467_481.out _;(with_reducible repeat (first|refine bN ?_ _|refine bD ?_|refine bA ?_ _));exact BK467.out⟩,⟨by (with_reducible repeat (first|refine bN ?_ _|refine bD ?_|refine bA ?_ _));refine blk_far ?_ NB469_481.out _;(with_reducible repeat (first|refine bN ?_ _|refine bD ?_|refine bA ?_ _));refine blk_far ?_ NB469_481.out _;(with_reducible repeat (first|refine bN ?_ _|refine bD ?_|refine bA ?_ _));refine blk_far ?_ NB469_481.out _;(with_reducible repeat (first|refine bN ?_ _|refine bD ?_|refine bA ?_ _));refine blk_far ?_ NB469_481.out _;(with_reducible repeat (first|refine bN ?_ _|refine bD ?_|refine bA ?_ _));exact BK469.out⟩,⟨by (with_reducible repeat (first|refine bN ?_ _|refine bD ?_|refine bA ?_ _));refine blk_far ?_ NB477_481.out _;(with_reducible repeat (first|refine bN ?_ _|refine bD ?_|refine bA ?_ _));refine blk_far ?_ NB477_481.out _;(with_reducible repeat (first|refine bN ?_ _|refine bD ?_|refine bA ?_ _));refine blk_far ?_ NB477_481.out _;(with_reducible repeat (first|refine bN ?_ _|refine bD ?_|refine bA ?_ _));refine blk_far ?_ NB477_481.out _;(with_reducible repeat (first|refine bN ?_ _|refine bD ?_|refine bA ?_ _));exact BK477.out⟩,⟨by repeat (first|(with_reducible first|exact HB.out|apply below_alloc|apply pw_below_drewN|apply below_drew1|refine below_set ?_ GE467.out|refine below_set ?_ GE469.out|refine below_set ?_ GE477.out|refine below_set ?_ GE481.out)|exact HB.out)⟩⟩
          ·rw [if_neg c68] at H
           have c68b0 : decide (x85_3 < (x468000_1.length : Int)) = false:=decide_eq_false c68
           clear c68
           by_cases c93 : x85_3 > 0
           ·rw [if_pos c93] at H
            have c93b0 : decide (0 < x85_3) = true:=decide_eq_true c93
            clear c93
            obtain ⟨ji94,hji94⟩ : ∃ j_ : Int,(wrap64 (x85_3 - 1)) = j_:=⟨_,rfl⟩
            replace H : (if 0 ≤ (ji94) then (if (ji94) < (t470.length : Int) then (if ((rd_T62 t470 (ji94)).f0) ≥ ((rd_T62 t470 x85_3).f0) then (none) else (ratlinelaw09_EditGrows.l1 k3 y461 (y461.length : Int) x25_1 t470 (t470.length : Int) (wrap64 (x85_3 + 1)) x468000_1 x468001_1 x468002_1 x468003_1 t470 t473 t474 t475)) else (none)) else (none)) = some r:=by first|(rw [hji94] at H;exact H)|(simp only [hji94] at H ⊢;exact H)
            have hji94w : (IntKind.i64.wrap (x85_3 - 1)) = ji94:=(i64_w _).trans hji94
            by_cases c95 : 0 ≤ (ji94)
            rotate_left
            ·rw [if_neg c95] at H
             exact absurd H (by simp)
            rw [if_pos c95] at H
            have c95b0 : decide (0 ≤ (ji94)) = true:=decide_eq_true c95
            clear c95
            by_cases c96 : (ji94) < (t470.length : Int)
            rotate_left
            ·rw [if_neg c96] at H
             exact absurd H (by simp)
            rw [if_pos c96] at H
            have c96b0 : decide ((ji94) < (t470.length : Int)) = true:=decide_eq_true c96
            clear c96
            by_cases c97 : ((rd_T62 t470 (ji94)).f0) ≥ ((rd_T62 t470 x85_3).f0)
            ·rw [if_pos c97] at H
             exact absurd H (by simp)
            ·rw [if_neg c97] at H
             have c97b0 : decide (((rd_T62 t470 x85_3).f0) ≤ ((rd_T62 t470 (ji94)).f0)) = false:=decide_eq_false c97
             clear c97
             have H':=Aside0.mk H
             clear H
             have p480 : 0 ≤ (x85_3 : Int):=of_decide_eq_true (by first|(with_reducible assumption)|assumption)
             have q480 : x85_3 < (t470.length : Int):=of_decide_eq_true (by first|(with_reducible assumption)|assumption)
             obtain ⟨ad480,e480,hx480_0,hx480_1,hx480_2,hx480_3⟩:=at_T62 (Kd.R_reads' HO_83.out).2.2 x85_3 p480 q480
             cases e480
             replace p480:=eq_true p480
             replace q480:=eq_true q480
             go_wp2_with (first|((with_reducible refine gate_dst (N:=9) rfl ?_);(try (refine gate_guard (by rfl) ?_;dsimp only));refine box_event ?hg (N:=9) ?hd (cs:=#[.int .u64 0,.int .u64 0,.string (⟨#[]⟩ : BA),.string (⟨#[]⟩ : BA)]) (t:=62) ?hr ?_;(case hd => rfl);(case hg => rfl);(case hr => first|(go_simp;done)|(go_simp;rfl));intro gb481 hg w98 hbox hb;have n0_:=Aside0.mk (Kd.R_below (Kd.R_elderB (by (with_reducible repeat (first|apply zA|apply zN|apply zD));exact HO_83.out) gb481 (Nat.le_of_eq hg.symm)) hb);have n1_:=Aside0.mk (Kd.R_below (Kd.R_elderB (by (with_reducible repeat (first|apply zA|apply zN|apply zD));exact HO_468000.out) gb481 (Nat.le_of_eq hg.symm)) hb);have n2_:=Aside0.mk (Kd.R_below (Kd.R_elderB (by (with_reducible repeat (first|apply zA|apply zN|apply zD));exact HO_478000.out) gb481 (Nat.le_of_eq hg.symm)) hb);have n3_:=Aside0.mk (blk_below (g:=gb467) (o:=.cells #[.slice Ao21 x468000_1.length co21,.int .u64 x468001_1,.int .u64 x468002_1,.int .u64 x468003_1] 57 (0,0)) (by (with_reducible repeat (first|refine bN ?_ _|refine bD ?_|refine bA ?_ _));exact BK467.out) hb);have n4_:=Aside0.mk (blk_below (g:=gb469) (o:=.cells #[.slice A468_0 ((rd_T54 y461 x25_1).f0).length c468_0,.int .u64 ((rd_T54 y461 x25_1).f1),.int .u64 ((rd_T54 y461 x25_1).f2),.int .u64 ((rd_T54 y461 x25_1).f3)] 54 (0,0)) (by (with_reducible repeat (first|refine bN ?_ _|refine bD ?_|refine bA ?_ _));exact BK469.out) hb);have n5_:=Aside0.mk (blk_below (g:=gb477) (o:=.cells #[.slice (some ad480) t470.length co24,.int .u64 t473,.int .u64 t474,.int .u64 t475] 57 (0,0)) (by (with_reducible repeat (first|refine bN ?_ _|refine bD ?_|refine bA ?_ _));exact BK477.out) hb);have n6_:=Aside0.mk (below_step (by repeat (first|(with_reducible first|exact HB.out|apply below_alloc|apply pw_below_drewN|apply below_drew1|refine below_set ?_ GE467.out|refine below_set ?_ GE469.out|refine below_set ?_ GE477.out)|exact HB.out)) hb);have n7_:=Aside0.mk (hbox);have n8_:=Aside0.mk ((by rw [hg];exact (below_size (by repeat (first|(with_reducible first|exact HB.out|apply below_alloc|apply pw_below_drewN|apply below_drew1|refine below_set ?_ GE467.out|refine below_set ?_ GE469.out|refine below_set ?_ GE477.out)|exact HB.out))) : w.heap.size ≤ gb481));have n9_:=Aside0.mk ((by rw [hg];exact (below_size (by repeat (first|(with_reducible first|exact HB.out|apply below_alloc|apply pw_below_drewN|apply below_drew1|refine below_set ?_ GE467.out|refine below_set ?_ GE469.out|refine below_set ?_ GE477.out)|exact HB.out))) : w.heap.size ≤ gb481));have n10_:=Aside0.mk ((by rw [hg];exact Nat.ne_of_lt (blk_lt (g:=gb467) (o:=.cells #[.slice Ao21 x468000_1.length co21,.int .u64 x468001_1,.int .u64 x468002_1,.int .u64 x468003_1] 57 (0,0)) (by (with_reducible repeat (first|refine bN ?_ _|refine bD ?_|refine bA ?_ _));exact BK467.out)) : gb467 ≠ gb481));have n11_:=Aside0.mk ((by rw [hg];exact Nat.ne_of_gt (blk_lt (g:=gb467) (o:=.cells #[.slice Ao21 x468000_1.length co21,.int .u64 x468001_1,.int .u64 x468002_1,.int .u64 x468003_1] 57 (0,0)) (by (with_reducible repeat (first|refine bN ?_ _|refine bD ?_|refine bA ?_ _));exact BK467.out)) : gb481 ≠ gb467));have n12_:=Aside0.mk ((by rw [hg];exact Nat.ne_of_lt (blk_lt (g:=gb469) (o:=.cells #[.slice A468_0 ((rd_T54 y461 x25_1).f0).length c468_0,.int .u64 ((rd_T54 y461 x25_1).f1),.int .u64 ((rd_T54 y461 x25_1).f2),.int .u64 ((rd_T54 y461 x25_1).f3)] 54 (0,0)) (by (with_reducible repeat (first|refine bN ?_ _|refine bD ?_|refine bA ?_ _));exact BK469.out)) : gb469 ≠ gb481));have n13_:=Aside0.mk ((by rw [hg];exact Nat.ne_of_gt (blk_lt (g:=gb469) (o:=.cells #[.slice A468_0 ((rd_T54 y461 x25_1).f0).length c468_0,.int .u64 ((rd_T54 y461 x25_1).f1),.int .u64 ((rd_T54 y461 x25_1).f2),.int .u64 ((rd_T54 y461 x25_1).f3)] 54 (0,0)) (by (with_reducible repeat (first|refine bN ?_ _|refine bD ?_|refine bA ?_ _));exact BK469.out)) : gb481 ≠ gb469));have n14_:=Aside0.mk ((by rw [hg];exact Nat.ne_of_lt (blk_lt (g:=gb477) (o:=.cells #[.slice (some ad480) t470.length co24,.int .u64 t473,.int .u64 t474,.int .u64 t475] 57 (0,0)) (by (with_reducible repeat (first|refine bN ?_ _|refine bD ?_|refine bA ?_ _));exact BK477.out)) : gb477 ≠ gb481));have n15_:=Aside0.mk ((by rw [hg];exact Nat.ne_of_gt (blk_lt (g:=gb477) (o:=.cells #[.slice (some ad480) t470.length co24,.int .u64 t473,.int .u64 t474,.int .u64 t475] 57 (0,0)) (by (with_reducible repeat (first|refine bN ?_ _|refine bD ?_|refine bA ?_ _));exact BK477.out)) : gb481 ≠ gb477));clear HO_83;clear HO_468000;clear HO_478000;clear BK467;clear BK469;clear BK477;clear HB;have HO_83:=n0_;have HO_468000:=n1_;have HO_478000:=n2_;have BK467:=n3_;have BK469:=n4_;have BK477:=n5_;have HB:=n6_;have BK481:=n7_;have GW481:=n8_;have GE481:=n9_;have NB467_481:=n10_;have NB481_467:=n11_;have NB469_481:=n12_;have NB481_469:=n13_;have NB477_481:=n14_;have NB481_477:=n15_;clear n0_ n1_ n2_ n3_ n4_ n5_ n6_ n7_ n8_ n9_ n10_ n11_ n12_ n13_ n14_ n15_;clear hb hbox hg;have hnb99:=NB481_467.out;have hnc99:=NB467_481.out;have hnb100:=NB481_469.out;have hnc100:=NB469_481.out;have hnb101:=NB481_477.out;have hnc101:=NB477_481.out;have hcz102_0 : w98.cell? ⟨gb481,0,none⟩ = some (.int .u64 0):=(blk_cell BK481.out 0).trans rfl;have hcz102_1 : w98.cell? ⟨gb481,1,none⟩ = some (.int .u64 0):=(blk_cell BK481.out 1).trans rfl;have hcz102_2 : w98.cell? ⟨gb481,2,none⟩ = some (.string (⟨#[]⟩ : BA)):=(blk_cell BK481.out 2).trans rfl;have hcz102_3 : w98.cell? ⟨gb481,3,none⟩ = some (.string (⟨#[]⟩ : BA)):=(blk_cell BK481.out 3).trans rfl;have hfz102_0:=blk_frozen BK481.out 0;have hfz102_1:=blk_frozen BK481.out 1;have hfz102_2:=blk_frozen BK481.out 2;have hfz102_3:=blk_frozen BK481.out 3;have hnb103:=NB467_469.out;have hnc103:=NB469_467.out;have hnb104:=NB467_477.out;have hnc104:=NB477_467.out;have hcz105_0 : w98.cell? ⟨gb467,0,none⟩ = some (.slice Ao21 x468000_1.length co21):=(blk_cell BK467.out 0).trans rfl;have hcz105_1 : w98.cell? ⟨gb467,1,none⟩ = some (.int .u64 x468001_1):=(blk_cell BK467.out 1).trans rfl;have hcz105_2 : w98.cell? ⟨gb467,2,none⟩ = some (.int .u64 x468002_1):=(blk_cell BK467.out 2).trans rfl;have hcz105_3 : w98.cell? ⟨gb467,3,none⟩ = some (.int .u64 x468003_1):=(blk_cell BK467.out 3).trans rfl;have hfz105_0:=blk_frozen BK467.out 0;have hfz105_1:=blk_frozen BK467.out 1;have hfz105_2:=blk_frozen BK467.out 2;have hfz105_3:=blk_frozen BK467.out 3;have hnb106:=NB477_469.out;have hnc106:=NB469_477.out;have hcz107_0 : w98.cell? ⟨gb477,0,none⟩ = some (.slice (some ad480) t470.length co24):=(blk_cell BK477.out 0).trans rfl;have hcz107_1 : w98.cell? ⟨gb477,1,none⟩ = some (.int .u64 t473):=(blk_cell BK477.out 1).trans rfl;have hcz107_2 : w98.cell? ⟨gb477,2,none⟩ = some (.int .u64 t474):=(blk_cell BK477.out 2).trans rfl;have hcz107_3 : w98.cell? ⟨gb477,3,none⟩ = some (.int .u64 t475):=(blk_cell BK477.out 3).trans rfl;have hfz107_0:=blk_frozen BK477.out 0;have hfz107_1:=blk_frozen BK477.out 1;have hfz107_2:=blk_frozen BK477.out 2;have hfz107_3:=blk_frozen BK477.out 3;have p484 : 0 ≤ ((ji94) : Int):=of_decide_eq_true (by first|(with_reducible assumption)|assumption);have q484 : (ji94) < (t470.length : Int):=of_decide_eq_true (by first|(with_reducible assumption)|assumption);obtain ⟨ad484,e484,hx484_0,hx484_1,hx484_2,hx484_3⟩:=at_T62 (Kd.R_reads' HO_478000.out).2.2 (ji94) p484 q484;obtain rfl : ad480 = ad484:=(by injection e484);have hn484_0 : ad480.block ≠ gb481:=Kd.own_blk (fun e_ => (HO_478000.out.1 _ e_.symm).2 rfl);have hn484_1 : ad480.block ≠ gb481:=Kd.own_blk (fun e_ => (HO_478000.out.1 _ e_.symm).2 rfl);have hn484_2 : ad480.block ≠ gb481:=Kd.own_blk (fun e_ => (HO_478000.out.1 _ e_.symm).2 rfl);have hn484_3 : ad480.block ≠ gb481:=Kd.own_blk (fun e_ => (HO_478000.out.1 _ e_.symm).2 rfl);replace hx484_0:=(cell_far (p:=⟨gb481,0,none⟩) (by first|(rw [add_block];exact hn484_0)|(show (Addr.add _ _).block ≠ _;rw [add_block];exact hn484_0)|exact hn484_0) (.int .u64 ((rd_T62 t470 x85_3).f0))).trans hx484_0;replace hx484_1:=(cell_far (p:=⟨gb481,0,none⟩) (by first|(rw [add_block];exact hn484_0)|(show (Addr.add _ _).block ≠ _;rw [add_block];exact hn484_0)|exact hn484_0) (.int .u64 ((rd_T62 t470 x85_3).f0))).trans hx484_1;replace hx484_2:=(cell_far (p:=⟨gb481,0,none⟩) (by first|(rw [add_block];exact hn484_0)|(show (Addr.add _ _).block ≠ _;rw [add_block];exact hn484_0)|exact hn484_0) (.int .u64 ((rd_T62 t470 x85_3).f0))).trans hx484_2;replace hx484_3:=(cell_far (p:=⟨gb481,0,none⟩) (by first|(rw [add_block];exact hn484_0)|(show (Addr.add _ _).block ≠ _;rw [add_block];exact hn484_0)|exact hn484_0) (.int .u64 ((rd_T62 t470 x85_3).f0))).trans hx484_3;replace hx484_0:=(cell_far (p:=⟨gb481,1,none⟩) (by first|(rw [add_block];exact hn484_1)|(show (Addr.add _ _).block ≠ _;rw [add_block];exact hn484_1)|exact hn484_1) (.int .u64 ((rd_T62 t470 x85_3).f1))).trans hx484_0;replace hx484_1:=(cell_far (p:=⟨gb481,1,none⟩) (by first|(rw [add_block];exact hn484_1)|(show (Addr.add _ _).block ≠ _;rw [add_block];exact hn484_1)|exact hn484_1) (.int .u64 ((rd_T62 t470 x85_3).f1))).trans hx484_1;replace hx484_2:=(cell_far (p:=⟨gb481,1,none⟩) (by first|(rw [add_block];exact hn484_1)|(show (Addr.add _ _).block ≠ _;rw [add_block];exact hn484_1)|exact hn484_1) (.int .u64 ((rd_T62 t470 x85_3).f1))).trans hx484_2;replace hx484_3:=(cell_far (p:=⟨gb481,1,none⟩) (by first|(rw [add_block];exact hn484_1)|(show (Addr.add _ _).block ≠ _;rw [add_block];exact hn484_1)|exact hn484_1) (.int .u64 ((rd_T62 t470 x85_3).f1))).trans hx484_3;replace hx484_0:=(cell_far (p:=⟨gb481,2,none⟩) (by first|(rw [add_block];exact hn484_2)|(show (Addr.add _ _).block ≠ _;rw [add_block];exact hn484_2)|exact hn484_2) (.string ((rd_T62 t470 x85_3).f2))).trans hx484_0;replace hx484_1:=(cell_far (p:=⟨gb481,2,none⟩) (by first|(rw [add_block];exact hn484_2)|(show (Addr.add _ _).block ≠ _;rw [add_block];exact hn484_2)|exact hn484_2) (.string ((rd_T62 t470 x85_3).f2))).trans hx484_1;replace hx484_2:=(cell_far (p:=⟨gb481,2,none⟩) (by first|(rw [add_block];exact hn484_2)|(show (Addr.add _ _).block ≠ _;rw [add_block];exact hn484_2)|exact hn484_2) (.string ((rd_T62 t470 x85_3).f2))).trans hx484_2;replace hx484_3:=(cell_far (p:=⟨gb481,2,none⟩) (by first|(rw [add_block];exact hn484_2)|(show (Addr.add _ _).block ≠ _;rw [add_block];exact hn484_2)|exact hn484_2) (.string ((rd_T62 t470 x85_3).f2))).trans hx484_3;replace hx484_0:=(cell_far (p:=⟨gb481,3,none⟩) (by first|(rw [add_block];exact hn484_3)|(show (Addr.add _ _).block ≠ _;rw [add_block];exact hn484_3)|exact hn484_3) (.string ((rd_T62 t470 x85_3).f3))).trans hx484_0;replace hx484_1:=(cell_far (p:=⟨gb481,3,none⟩) (by first|(rw [add_block];exact hn484_3)|(show (Addr.add _ _).block ≠ _;rw [add_block];exact hn484_3)|exact hn484_3) (.string ((rd_T62 t470 x85_3).f3))).trans hx484_1;replace hx484_2:=(cell_far (p:=⟨gb481,3,none⟩) (by first|(rw [add_block];exact hn484_3)|(show (Addr.add _ _).block ≠ _;rw [add_block];exact hn484_3)|exact hn484_3) (.string ((rd_T62 t470 x85_3).f3))).trans hx484_2;replace hx484_3:=(cell_far (p:=⟨gb481,3,none⟩) (by first|(rw [add_block];exact hn484_3)|(show (Addr.add _ _).block ≠ _;rw [add_block];exact hn484_3)|exact hn484_3) (.string ((rd_T62 t470 x85_3).f3))).trans hx484_3;(try have hy484_0:=fun (n_ : Nat) => (show ((((((w98.drewN n_).setCell ⟨gb481,0,none⟩ (.int .u64 ((rd_T62 t470 x85_3).f0))).setCell ⟨gb481,1,none⟩ (.int .u64 ((rd_T62 t470 x85_3).f1))).setCell ⟨gb481,2,none⟩ (.string ((rd_T62 t470 x85_3).f2))).setCell ⟨gb481,3,none⟩ (.string ((rd_T62 t470 x85_3).f3)))).cell? _ = some _ from hx484_0));(try have hy484_1:=fun (n_ : Nat) => (show ((((((w98.drewN n_).setCell ⟨gb481,0,none⟩ (.int .u64 ((rd_T62 t470 x85_3).f0))).setCell ⟨gb481,1,none⟩ (.int .u64 ((rd_T62 t470 x85_3).f1))).setCell ⟨gb481,2,none⟩ (.string ((rd_T62 t470 x85_3).f2))).setCell ⟨gb481,3,none⟩ (.string ((rd_T62 t470 x85_3).f3)))).cell? _ = some _ from hx484_1));(try have hy484_2:=fun (n_ : Nat) => (show ((((((w98.drewN n_).setCell ⟨gb481,0,none⟩ (.int .u64 ((rd_T62 t470 x85_3).f0))).setCell ⟨gb481,1,none⟩ (.int .u64 ((rd_T62 t470 x85_3).f1))).setCell ⟨gb481,2,none⟩ (.string ((rd_T62 t470 x85_3).f2))).setCell ⟨gb481,3,none⟩ (.string ((rd_T62 t470 x85_3).f3)))).cell? _ = some _ from hx484_2));(try have hy484_3:=fun (n_ : Nat) => (show ((((((w98.drewN n_).setCell ⟨gb481,0,none⟩ (.int .u64 ((rd_T62 t470 x85_3).f0))).setCell ⟨gb481,1,none⟩ (.int .u64 ((rd_T62 t470 x85_3).f1))).setCell ⟨gb481,2,none⟩ (.string ((rd_T62 t470 x85_3).f2))).setCell ⟨gb481,3,none⟩ (.string ((rd_T62 t470 x85_3).f3)))).cell? _ = some _ from hx484_3));clear hn484_0;clear hn484_1;clear hn484_2;clear hn484_3;replace p484:=eq_true p484;replace q484:=eq_true q484))
             repeat (go_quiet (fail);try go_wp2_with (first|((with_reducible refine gate_dst (N:=9) rfl ?_);(try (refine gate_guard (by rfl) ?_;dsimp only));refine box_event ?hg (N:=9) ?hd (cs:=#[.int .u64 0,.int .u64 0,.string (⟨#[]⟩ : BA),.string (⟨#[]⟩ : BA)]) (t:=62) ?hr ?_;(case hd => rfl);(case hg => rfl);(case hr => first|(go_simp;done)|(go_simp;rfl));intro gb481 hg w98 hbox hb;have n0_:=Aside0.mk (Kd.R_below (Kd.R_elderB (by (with_reducible repeat (first|apply zA|apply zN|apply zD));exact HO_83.out) gb481 (Nat.le_of_eq hg.symm)) hb);have n1_:=Aside0.mk (Kd.R_below (Kd.R_elderB (by (with_reducible repeat (first|apply zA|apply zN|apply zD));exact HO_468000.out) gb481 (Nat.le_of_eq hg.symm)) hb);have n2_:=Aside0.mk (Kd.R_below (Kd.R_elderB (by (with_reducible repeat (first|apply zA|apply zN|apply zD));exact HO_478000.out) gb481 (Nat.le_of_eq hg.symm)) hb);have n3_:=Aside0.mk (blk_below (g:=gb467) (o:=.cells #[.slice Ao21 x468000_1.length co21,.int .u64 x468001_1,.int .u64 x468002_1,.int .u64 x468003_1] 57 (0,0)) (by (with_reducible repeat (first|refine bN ?_ _|refine bD ?_|refine bA ?_ _));exact BK467.out) hb);have n4_:=Aside0.mk (blk_below (g:=gb469) (o:=.cells #[.slice A468_0 ((rd_T54 y461 x25_1).f0).length c468_0,.int .u64 ((rd_T54 y461 x25_1).f1),.int .u64 ((rd_T54 y461 x25_1).f2),.int .u64 ((rd_T54 y461 x25_1).f3)] 54 (0,0)) (by (with_reducible repeat (first|refine bN ?_ _|refine bD ?_|refine bA ?_ _));exact BK469.out) hb);have n5_:=Aside0.mk (blk_below (g:=gb477) (o:=.cells #[.slice (some ad480) t470.length co24,.int .u64 t473,.int .u64 t474,.int .u64 t475] 57 (0,0)) (by (with_reducible repeat (first|refine bN ?_ _|refine bD ?_|refine bA ?_ _));exact BK477.out) hb);have n6_:=Aside0.mk (below_step (by repeat (first|(with_reducible first|exact HB.out|apply below_alloc|apply pw_below_drewN|apply below_drew1|refine below_set ?_ GE467.out|refine below_set ?_ GE469.out|refine below_set ?_ GE477.out)|exact HB.out)) hb);have n7_:=Aside0.mk (hbox);have n8_:=Aside0.mk ((by rw [hg];exact (below_size (by repeat (first|(with_reducible first|exact HB.out|apply below_alloc|apply pw_below_drewN|apply below_drew1|refine below_set ?_ GE467.out|refine below_set ?_ GE469.out|refine below_set ?_ GE477.out)|exact HB.out))) : w.heap.size ≤ gb481));have n9_:=Aside0.mk ((by rw [hg];exact (below_size (by repeat (first|(with_reducible first|exact HB.out|apply below_alloc|apply pw_below_drewN|apply below_drew1|refine below_set ?_ GE467.out|refine below_set ?_ GE469.out|refine below_set ?_ GE477.out)|exact HB.out))) : w.heap.size ≤ gb481));have n10_:=Aside0.mk ((by rw [hg];exact Nat.ne_of_lt (blk_lt (g:=gb467) (o:=.cells #[.slice Ao21 x468000_1.length co21,.int .u64 x468001_1,.int .u64 x468002_1,.int .u64 x468003_1] 57 (0,0)) (by (with_reducible repeat (first|refine bN ?_ _|refine bD ?_|refine bA ?_ _));exact BK467.out)) : gb467 ≠ gb481));have n11_:=Aside0.mk ((by rw [hg];exact Nat.ne_of_gt (blk_lt (g:=gb467) (o:=.cells #[.slice Ao21 x468000_1.length co21,.int .u64 x468001_1,.int .u64 x468002_1,.int .u64 x468003_1] 57 (0,0)) (by (with_reducible repeat (first|refine bN ?_ _|refine bD ?_|refine bA ?_ _));exact BK467.out)) : gb481 ≠ gb467));have n12_:=Aside0.mk ((by rw [hg];exact Nat.ne_of_lt (blk_lt (g:=gb469) (o:=.cells #[.slice A468_0 ((rd_T54 y461 x25_1).f0).length c468_0,.int .u64 ((rd_T54 y461 x25_1).f1),.int .u64 ((rd_T54 y461 x25_1).f2),.int .u64 ((rd_T54 y461 x25_1).f3)] 54 (0,0)) (by (with_reducible repeat (first|refine bN ?_ _|refine bD ?_|refine bA ?_ _));exact BK469.out)) : gb469 ≠ gb481));have n13_:=Aside0.mk ((by rw [hg];exact Nat.ne_of_gt (blk_lt (g:=gb469) (o:=.cells #[.slice A468_0 ((rd_T54 y461 x25_1).f0).length c468_0,.int .u64 ((rd_T54 y461 x25_1).f1),.int .u64 ((rd_T54 y461 x25_1).f2),.int .u64 ((rd_T54 y461 x25_1).f3)] 54 (0,0)) (by (with_reducible repeat (first|refine bN ?_ _|refine bD ?_|refine bA ?_ _));exact BK469.out)) : gb481 ≠ gb469));have n14_:=Aside0.mk ((by rw [hg];exact Nat.ne_of_lt (blk_lt (g:=gb477) (o:=.cells #[.slice (some ad480) t470.length co24,.int .u64 t473,.int .u64 t474,.int .u64 t475] 57 (0,0)) (by (with_reducible repeat (first|refine bN ?_ _|refine bD ?_|refine bA ?_ _));exact BK477.out)) : gb477 ≠ gb481));have n15_:=Aside0.mk ((by rw [hg];exact Nat.ne_of_gt (blk_lt (g:=gb477) (o:=.cells #[.slice (some ad480) t470.length co24,.int .u64 t473,.int .u64 t474,.int .u64 t475] 57 (0,0)) (by (with_reducible repeat (first|refine bN ?_ _|refine bD ?_|refine bA ?_ _));exact BK477.out)) : gb481 ≠ gb477));clear HO_83;clear HO_468000;clear HO_478000;clear BK467;clear BK469;clear BK477;clear HB;have HO_83:=n0_;have HO_468000:=n1_;have HO_478000:=n2_;have BK467:=n3_;have BK469:=n4_;have BK477:=n5_;have HB:=n6_;have BK481:=n7_;have GW481:=n8_;have GE481:=n9_;have NB467_481:=n10_;have NB481_467:=n11_;have NB469_481:=n12_;have NB481_469:=n13_;have NB477_481:=n14_;have NB481_477:=n15_;clear n0_ n1_ n2_ n3_ n4_ n5_ n6_ n7_ n8_ n9_ n10_ n11_ n12_ n13_ n14_ n15_;clear hb hbox hg;have hnb99:=NB481_467.out;have hnc99:=NB467_481.out;have hnb100:=NB481_469.out;have hnc100:=NB469_481.out;have hnb101:=NB481_477.out;have hnc101:=NB477_481.out;have hcz102_0 : w98.cell? ⟨gb481,0,none⟩ = some (.int .u64 0):=(blk_cell BK481.out 0).trans rfl;have hcz102_1 : w98.cell? ⟨gb481,1,none⟩ = some (.int .u64 0):=(blk_cell BK481.out 1).trans rfl;have hcz102_2 : w98.cell? ⟨gb481,2,none⟩ = some (.string (⟨#[]⟩ : BA)):=(blk_cell BK481.out 2).trans rfl;have hcz102_3 : w98.cell? ⟨gb481,3,none⟩ = some (.string (⟨#[]⟩ : BA)):=(blk_cell BK481.out 3).trans rfl;have hfz102_0:=blk_frozen BK481.out 0;have hfz102_1:=blk_frozen BK481.out 1;have hfz102_2:=blk_frozen BK481.out 2;have hfz102_3:=blk_frozen BK481.out 3;have hnb103:=NB467_469.out;have hnc103:=NB469_467.out;have hnb104:=NB467_477.out;have hnc104:=NB477_467.out;have hcz105_0 : w98.cell? ⟨gb467,0,none⟩ = some (.slice Ao21 x468000_1.length co21):=(blk_cell BK467.out 0).trans rfl;have hcz105_1 : w98.cell? ⟨gb467,1,none⟩ = some (.int .u64 x468001_1):=(blk_cell BK467.out 1).trans rfl;have hcz105_2 : w98.cell? ⟨gb467,2,none⟩ = some (.int .u64 x468002_1):=(blk_cell BK467.out 2).trans rfl;have hcz105_3 : w98.cell? ⟨gb467,3,none⟩ = some (.int .u64 x468003_1):=(blk_cell BK467.out 3).trans rfl;have hfz105_0:=blk_frozen BK467.out 0;have hfz105_1:=blk_frozen BK467.out 1;have hfz105_2:=blk_frozen BK467.out 2;have hfz105_3:=blk_frozen BK467.out 3;have hnb106:=NB477_469.out;have hnc106:=NB469_477.out;have hcz107_0 : w98.cell? ⟨gb477,0,none⟩ = some (.slice (some ad480) t470.length co24):=(blk_cell BK477.out 0).trans rfl;have hcz107_1 : w98.cell? ⟨gb477,1,none⟩ = some (.int .u64 t473):=(blk_cell BK477.out 1).trans rfl;have hcz107_2 : w98.cell? ⟨gb477,2,none⟩ = some (.int .u64 t474):=(blk_cell BK477.out 2).trans rfl;have hcz107_3 : w98.cell? ⟨gb477,3,none⟩ = some (.int .u64 t475):=(blk_cell BK477.out 3).trans rfl;have hfz107_0:=blk_frozen BK477.out 0;have hfz107_1:=blk_frozen BK477.out 1;have hfz107_2:=blk_frozen BK477.out 2;have hfz107_3:=blk_frozen BK477.out 3;have p484 : 0 ≤ ((ji94) : Int):=of_decide_eq_true (by first|(with_reducible assumption)|assumption);have q484 : (ji94) < (t470.length : Int):=of_decide_eq_true (by first|(with_reducible assumption)|assumption);obtain ⟨ad484,e484,hx484_0,hx484_1,hx484_2,hx484_3⟩:=at_T62 (Kd.R_reads' HO_478000.out).2.2 (ji94) p484 q484;obtain rfl : ad480 = ad484:=(by injection e484);have hn484_0 : ad480.block ≠ gb481:=Kd.own_blk (fun e_ => (HO_478000.out.1 _ e_.symm).2 rfl);have hn484_1 : ad480.block ≠ gb481:=Kd.own_blk (fun e_ => (HO_478000.out.1 _ e_.symm).2 rfl);have hn484_2 : ad480.block ≠ gb481:=Kd.own_blk (fun e_ => (HO_478000.out.1 _ e_.symm).2 rfl);have hn484_3 : ad480.block ≠ gb481:=Kd.own_blk (fun e_ => (HO_478000.out.1 _ e_.symm).2 rfl);replace hx484_0:=(cell_far (p:=⟨gb481,0,none⟩) (by first|(rw [add_block];exact hn484_0)|(show (Addr.add _ _).block ≠ _;rw [add_block];exact hn484_0)|exact hn484_0) (.int .u64 ((rd_T62 t470 x85_3).f0))).trans hx484_0;replace hx484_1:=(cell_far (p:=⟨gb481,0,none⟩) (by first|(rw [add_block];exact hn484_0)|(show (Addr.add _ _).block ≠ _;rw [add_block];exact hn484_0)|exact hn484_0) (.int .u64 ((rd_T62 t470 x85_3).f0))).trans hx484_1;replace hx484_2:=(cell_far (p:=⟨gb481,0,none⟩) (by first|(rw [add_block];exact hn484_0)|(show (Addr.add _ _).block ≠ _;rw [add_block];exact hn484_0)|exact hn484_0) (.int .u64 ((rd_T62 t470 x85_3).f0))).trans hx484_2;replace hx484_3:=(cell_far (p:=⟨gb481,0,none⟩) (by first|(rw [add_block];exact hn484_0)|(show (Addr.add _ _).block ≠ _;rw [add_block];exact hn484_0)|exact hn484_0) (.int .u64 ((rd_T62 t470 x85_3).f0))).trans hx484_3;replace hx484_0:=(cell_far (p:=⟨gb481,1,none⟩) (by first|(rw [add_block];exact hn484_1)|(show (Addr.add _ _).block ≠ _;rw [add_block];exact hn484_1)|exact hn484_1) (.int .u64 ((rd_T62 t470 x85_3).f1))).trans hx484_0;replace hx484_1:=(cell_far (p:=⟨gb481,1,none⟩) (by first|(rw [add_block];exact hn484_1)|(show (Addr.add _ _).block ≠ _;rw [add_block];exact hn484_1)|exact hn484_1) (.int .u64 ((rd_T62 t470 x85_3).f1))).trans hx484_1;replace hx484_2:=(cell_far (p:=⟨gb481,1,none⟩) (by first|(rw [add_block];exact hn484_1)|(show (Addr.add _ _).block ≠ _;rw [add_block];exact hn484_1)|exact hn484_1) (.int .u64 ((rd_T62 t470 x85_3).f1))).trans hx484_2;replace hx484_3:=(cell_far (p:=⟨gb481,1,none⟩) (by first|(rw [add_block];exact hn484_1)|(show (Addr.add _ _).block ≠ _;rw [add_block];exact hn484_1)|exact hn484_1) (.int .u64 ((rd_T62 t470 x85_3).f1))).trans hx484_3;replace hx484_0:=(cell_far (p:=⟨gb481,2,none⟩) (by first|(rw [add_block];exact hn484_2)|(show (Addr.add _ _).block ≠ _;rw [add_block];exact hn484_2)|exact hn484_2) (.string ((rd_T62 t470 x85_3).f2))).trans hx484_0;replace hx484_1:=(cell_far (p:=⟨gb481,2,none⟩) (by first|(rw [add_block];exact hn484_2)|(show (Addr.add _ _).block ≠ _;rw [add_block];exact hn484_2)|exact hn484_2) (.string ((rd_T62 t470 x85_3).f2))).trans hx484_1;replace hx484_2:=(cell_far (p:=⟨gb481,2,none⟩) (by first|(rw [add_block];exact hn484_2)|(show (Addr.add _ _).block ≠ _;rw [add_block];exact hn484_2)|exact hn484_2) (.string ((rd_T62 t470 x85_3).f2))).trans hx484_2;replace hx484_3:=(cell_far (p:=⟨gb481,2,none⟩) (by first|(rw [add_block];exact hn484_2)|(show (Addr.add _ _).block ≠ _;rw [add_block];exact hn484_2)|exact hn484_2) (.string ((rd_T62 t470 x85_3).f2))).trans hx484_3;replace hx484_0:=(cell_far (p:=⟨gb481,3,none⟩) (by first|(rw [add_block];exact hn484_3)|(show (Addr.add _ _).block ≠ _;rw [add_block];exact hn484_3)|exact hn484_3) (.string ((rd_T62 t470 x85_3).f3))).trans hx484_0;replace hx484_1:=(cell_far (p:=⟨gb481,3,none⟩) (by first|(rw [add_block];exact hn484_3)|(show (Addr.add _ _).block ≠ _;rw [add_block];exact hn484_3)|exact hn484_3) (.string ((rd_T62 t470 x85_3).f3))).trans hx484_1;replace hx484_2:=(cell_far (p:=⟨gb481,3,none⟩) (by first|(rw [add_block];exact hn484_3)|(show (Addr.add _ _).block ≠ _;rw [add_block];exact hn484_3)|exact hn484_3) (.string ((rd_T62 t470 x85_3).f3))).trans hx484_2;replace hx484_3:=(cell_far (p:=⟨gb481,3,none⟩) (by first|(rw [add_block];exact hn484_3)|(show (Addr.add _ _).block ≠ _;rw [add_block];exact hn484_3)|exact hn484_3) (.string ((rd_T62 t470 x85_3).f3))).trans hx484_3;(try have hy484_0:=fun (n_ : Nat) => (show ((((((w98.drewN n_).setCell ⟨gb481,0,none⟩ (.int .u64 ((rd_T62 t470 x85_3).f0))).setCell ⟨gb481,1,none⟩ (.int .u64 ((rd_T62 t470 x85_3).f1))).setCell ⟨gb481,2,none⟩ (.string ((rd_T62 t470 x85_3).f2))).setCell ⟨gb481,3,none⟩ (.string ((rd_T62 t470 x85_3).f3)))).cell? _ = some _ from hx484_0));(try have hy484_1:=fun (n_ : Nat) => (show ((((((w98.drewN n_).setCell ⟨gb481,0,none⟩ (.int .u64 ((rd_T62 t470 x85_3).f0))).setCell ⟨gb481,1,none⟩ (.int .u64 ((rd_T62 t470 x85_3).f1))).setCell ⟨gb481,2,none⟩ (.string ((rd_T62 t470 x85_3).f2))).setCell ⟨gb481,3,none⟩ (.string ((rd_T62 t470 x85_3).f3)))).cell? _ = some _ from hx484_1));(try have hy484_2:=fun (n_ : Nat) => (show ((((((w98.drewN n_).setCell ⟨gb481,0,none⟩ (.int .u64 ((rd_T62 t470 x85_3).f0))).setCell ⟨gb481,1,none⟩ (.int .u64 ((rd_T62 t470 x85_3).f1))).setCell ⟨gb481,2,none⟩ (.string ((rd_T62 t470 x85_3).f2))).setCell ⟨gb481,3,none⟩ (.string ((rd_T62 t470 x85_3).f3)))).cell? _ = some _ from hx484_2));(try have hy484_3:=fun (n_ : Nat) => (show ((((((w98.drewN n_).setCell ⟨gb481,0,none⟩ (.int .u64 ((rd_T62 t470 x85_3).f0))).setCell ⟨gb481,1,none⟩ (.int .u64 ((rd_T62 t470 x85_3).f1))).setCell ⟨gb481,2,none⟩ (.string ((rd_T62 t470 x85_3).f2))).setCell ⟨gb481,3,none⟩ (.string ((rd_T62 t470 x85_3).f3)))).cell? _ = some _ from hx484_3));clear hn484_0;clear hn484_1;clear hn484_2;clear hn484_3;replace p484:=eq_true p484;replace q484:=eq_true q484)))
             go_roundg k3
             case measure => have:=HK1.out;have:=HJ15.out;have:=HK3.out;omega
             case rel => exact ⟨(wrap64 (x85_3 + 1)),(by first|rfl|(simp;done)|(simp [*];done)),H',⟨by have:=HK1.out;have:=HJ15.out;have:=HK3.out;omega⟩,⟨by (with_reducible repeat (first|apply zA|apply zN|apply zD));exact Kd.R_mono (Kd.R_far (p:=⟨gb481,3,none⟩) (Kd.R_far (p:=⟨gb481,2,none⟩) (Kd.R_far (p:=⟨gb481,1,none⟩) (Kd.R_far (p:=⟨gb481,0,none⟩) (Kd.R_mono HO_83.out (fun k_ hk => (⟨hk,hk.2⟩ : _ ∧ k_ ≠ gb481))) (fun _ hk => hk.2) (.int .u64 ((rd_T62 t470 x85_3).f0))) (fun _ hk => hk.2) (.int .u64 ((rd_T62 t470 x85_3).f1))) (fun _ hk => hk.2) (.string ((rd_T62 t470 x85_3).f2))) (fun _ hk => hk.2) (.string ((rd_T62 t470 x85_3).f3))) (fun _ hk => hk.1.1)⟩,⟨by (with_reducible repeat (first|apply zA|apply zN|apply zD));exact Kd.R_mono (Kd.R_far (p:=⟨gb481,3,none⟩) (Kd.R_far (p:=⟨gb481,2,none⟩) (Kd.R_far (p:=⟨gb481,1,none⟩) (Kd.R_far (p:=⟨gb481,0,none⟩) (Kd.R_mono HO_468000.out (fun k_ hk => (⟨hk,hk.2⟩ : _ ∧ k_ ≠ gb481))) (fun _ hk => hk.2) (.int .u64 ((rd_T62 t470 x85_3).f0))) (fun _ hk => hk.2) (.int .u64 ((rd_T62 t470 x85_3).f1))) (fun _ hk => hk.2) (.string ((rd_T62 t470 x85_3).f2))) (fun _ hk => hk.2) (.string ((rd_T62 t470 x85_3).f3))) (fun _ hk => ⟨hk.1.1.1,hk.1.1.2⟩)⟩,⟨by (with_reducible repeat (first|apply zA|apply zN|apply zD));exact Kd.R_mono (Kd.R_far (p:=⟨gb481,3,none⟩) (Kd.R_far (p:=⟨gb481,2,none⟩) (Kd.R_far (p:=⟨gb481,1,none⟩) (Kd.R_far (p:=⟨gb481,0,none⟩) (Kd.R_mono HO_478000.out (fun k_ hk => (⟨hk,hk.2⟩ : _ ∧ k_ ≠ gb481))) (fun _ hk => hk.2) (.int .u64 ((rd_T62 t470 x85_3).f0))) (fun _ hk => hk.2) (.int .u64 ((rd_T62 t470 x85_3).f1))) (fun _ hk => hk.2) (.string ((rd_T62 t470 x85_3).f2))) (fun _ hk => hk.2) (.string ((rd_T62 t470 x85_3).f3))) (fun _ hk => hk.1.1)⟩,⟨by (with_reducible repeat (first|refine bN ?_ _|refine bD ?_|refine bA ?_ _));refine blk_far ?_ NB467_481.out _;(with_reducible repeat (first|refine bN ?_ _|refine bD ?_|refine bA ?_ _));refine blk_far ?_ NB467_481.out _;(with_reducible repeat (first|refine bN ?_ _|refine bD ?_|refine bA ?_ _));refine blk_far ?_ NB467_481.out _;(with_reducible repeat (first|refine bN ?_ _|refine bD ?_|refine bA ?_ _));refine blk_far ?_ NB467_481.out _;(with_reducible repeat (first|refine bN ?_ _|refine bD ?_|refine bA ?_ _));exact BK467.out⟩,⟨by (with_reducible repeat (first|refine bN ?_ _|refine bD ?_|refine bA ?_ _));refine blk_far ?_ NB469_481.out _;(with_reducible repeat (first|refine bN ?_ _|refine bD ?_|refine bA ?_ _));refine blk_far ?_ NB469_481.out _;(with_reducible repeat (first|refine bN ?_ _|refine bD ?_|refine bA ?_ _));refine blk_far ?_ NB469_481.out _;(with_reducible repeat (first|refine bN ?_ _|refine bD ?_|refine bA ?_ _));refine blk_far ?_ NB469_481.out _;(with_reducible repeat (first|refine bN ?_ _|refine bD ?_|refine bA ?_ _));exact BK469.out⟩,⟨by (with_reducible repeat (first|refine bN ?_ _|refine bD ?_|refine bA ?_ _));refine blk_far ?_ NB477_481.out _;(with_reducible repeat (first|refine bN ?_ _|refine bD ?_|refine bA ?_ _));refine blk_far ?_ NB477_481.out _;(with_reducible repeat (first|refine bN ?_ _|refine bD ?_|refine bA ?_ _));refine blk_far ?_ NB477_481.out _;(with_reducible repeat (first|refine bN ?_ _|refine bD ?_|refine bA ?_ _));refine blk_far ?_ NB477_481.out _;(with_reducible repeat (first|refine bN ?_ _|refine bD ?_|refine bA ?_ _));exact BK477.out⟩,⟨by repeat (first|(with_reducible first|exact HB.out|apply below_alloc|apply pw_below_drewN|apply below_drew1|refine below_set ?_ GE467.out|refine below_set ?_ GE469.out|refine below_set ?_ GE477.out|refine below_set ?_ GE481.out)|exact HB.out)⟩⟩
           ·rw [if_neg c93] at H
            have c93b0 : decide (0 < x85_3) = false:=decide_eq_false c93
            clear c93
            have H':=Aside0.mk H
            clear H
            have p480 : 0 ≤ (x85_3 : Int):=of_decide_eq_true (by first|(with_reducible assumption)|assumption)
            have q480 : x85_3 < (t470.length : Int):=of_decide_eq_true (by first|(with_reducible assumption)|assumption)
            obtain ⟨ad480,e480,hx480_0,hx480_1,hx480_2,hx480_3⟩:=at_T62 (Kd.R_reads' HO_83.out).2.2 x85_3 p480 q480
            cases e480
            replace p480:=eq_true p480
            replace q480:=eq_true q480
            go_wp2_with (first|((with_reducible refine gate_dst (N:=9) rfl ?_);(try (refine gate_guard (by rfl) ?_;dsimp only));refine box_event ?hg (N:=9) ?hd (cs:=#[.int .u64 0,.int .u64 0,.string (⟨#[]⟩ : BA),.string (⟨#[]⟩ : BA)]) (t:=62) ?hr ?_;(case hd => rfl);(case hg => rfl);(case hr => first|(go_simp;done)|(go_simp;rfl));intro gb481 hg w108 hbox hb;have n0_:=Aside0.mk (Kd.R_below (Kd.R_elderB (by (with_reducible repeat (first|apply zA|apply zN|apply zD));exact HO_83.out) gb481 (Nat.le_of_eq hg.symm)) hb);have n1_:=Aside0.mk (Kd.R_below (Kd.R_elderB (by (with_reducible repeat (first|apply zA|apply zN|apply zD));exact HO_468000.out) gb481 (Nat.le_of_eq hg.symm)) hb);have n2_:=Aside0.mk (Kd.R_below (Kd.R_elderB (by (with_reducible repeat (first|apply zA|apply zN|apply zD));exact HO_478000.out) gb481 (Nat.le_of_eq hg.symm)) hb);have n3_:=Aside0.mk (blk_below (g:=gb467) (o:=.cells #[.slice Ao21 x468000_1.length co21,.int .u64 x468001_1,.int .u64 x468002_1,.int .u64 x468003_1] 57 (0,0)) (by (with_reducible repeat (first|refine bN ?_ _|refine bD ?_|refine bA ?_ _));exact BK467.out) hb);have n4_:=Aside0.mk (blk_below (g:=gb469) (o:=.cells #[.slice A468_0 ((rd_T54 y461 x25_1).f0).length c468_0,.int .u64 ((rd_T54 y461 x25_1).f1),.int .u64 ((rd_T54 y461 x25_1).f2),.int .u64 ((rd_T54 y461 x25_1).f3)] 54 (0,0)) (by (with_reducible repeat (first|refine bN ?_ _|refine bD ?_|refine bA ?_ _));exact BK469.out) hb);have n5_:=Aside0.mk (blk_below (g:=gb477) (o:=.cells #[.slice (some ad480) t470.length co24,.int .u64 t473,.int .u64 t474,.int .u64 t475] 57 (0,0)) (by (with_reducible repeat (first|refine bN ?_ _|refine bD ?_|refine bA ?_ _));exact BK477.out) hb);have n6_:=Aside0.mk (below_step (by repeat (first|(with_reducible first|exact HB.out|apply below_alloc|apply pw_below_drewN|apply below_drew1|refine below_set ?_ GE467.out|refine below_set ?_ GE469.out|refine below_set ?_ GE477.out)|exact HB.out)) hb);have n7_:=Aside0.mk (hbox);have n8_:=Aside0.mk ((by rw [hg];exact (below_size (by repeat (first|(with_reducible first|exact HB.out|apply below_alloc|apply pw_below_drewN|apply below_drew1|refine below_set ?_ GE467.out|refine below_set ?_ GE469.out|refine below_set ?_ GE477.out)|exact HB.out))) : w.heap.size ≤ gb481));have n9_:=Aside0.mk ((by rw [hg];exact (below_size (by repeat (first|(with_reducible first|exact HB.out|apply below_alloc|apply pw_below_drewN|apply below_drew1|refine below_set ?_ GE467.out|refine below_set ?_ GE469.out|refine below_set ?_ GE477.out)|exact HB.out))) : w.heap.size ≤ gb481));have n10_:=Aside0.mk ((by rw [hg];exact Nat.ne_of_lt (blk_lt (g:=gb467) (o:=.cells #[.slice Ao21 x468000_1.length co21,.int .u64 x468001_1,.int .u64 x468002_1,.int .u64 x468003_1] 57 (0,0)) (by (with_reducible repeat (first|refine bN ?_ _|refine bD ?_|refine bA ?_ _));exact BK467.out)) : gb467 ≠ gb481));have n11_:=Aside0.mk ((by rw [hg];exact Nat.ne_of_gt (blk_lt (g:=gb467) (o:=.cells #[.slice Ao21 x468000_1.length co21,.int .u64 x468001_1,.int .u64 x468002_1,.int .u64 x468003_1] 57 (0,0)) (by (with_reducible repeat (first|refine bN ?_ _|refine bD ?_|refine bA ?_ _));exact BK467.out)) : gb481 ≠ gb467));have n12_:=Aside0.mk ((by rw [hg];exact Nat.ne_of_lt (blk_lt (g:=gb469) (o:=.cells #[.slice A468_0 ((rd_T54 y461 x25_1).f0).length c468_0,.int .u64 ((rd_T54 y461 x25_1).f1),.int .u64 ((rd_T54 y461 x25_1).f2),.int .u64 ((rd_T54 y461 x25_1).f3)] 54 (0,0)) (by (with_reducible repeat (first|refine bN ?_ _|refine bD ?_|refine bA ?_ _));exact BK469.out)) : gb469 ≠ gb481));have n13_:=Aside0.mk ((by rw [hg];exact Nat.ne_of_gt (blk_lt (g:=gb469) (o:=.cells #[.slice A468_0 ((rd_T54 y461 x25_1).f0).length c468_0,.int .u64 ((rd_T54 y461 x25_1).f1),.int .u64 ((rd_T54 y461 x25_1).f2),.int .u64 ((rd_T54 y461 x25_1).f3)] 54 (0,0)) (by (with_reducible repeat (first|refine bN ?_ _|refine bD ?_|refine bA ?_ _));exact BK469.out)) : gb481 ≠ gb469));have n14_:=Aside0.mk ((by rw [hg];exact Nat.ne_of_lt (blk_lt (g:=gb477) (o:=.cells #[.slice (some ad480) t470.length co24,.int .u64 t473,.int .u64 t474,.int .u64 t475] 57 (0,0)) (by (with_reducible repeat (first|refine bN ?_ _|refine bD ?_|refine bA ?_ _));exact BK477.out)) : gb477 ≠ gb481));have n15_:=Aside0.mk ((by rw [hg];exact Nat.ne_of_gt (blk_lt (g:=gb477) (o:=.cells #[.slice (some ad480) t470.length co24,.int .u64 t473,.int .u64 t474,.int .u64 t475] 57 (0,0)) (by (with_reducible repeat (first|refine bN ?_ _|refine bD ?_|refine bA ?_ _));exact BK477.out)) : gb481 ≠ gb477));clear HO_83;clear HO_468000;clear HO_478000;clear BK467;clear BK469;clear BK477;clear HB;have HO_83:=n0_;have HO_468000:=n1_;have HO_478000:=n2_;have BK467:=n3_;have BK469:=n4_;have BK477:=n5_;have HB:=n6_;have BK481:=n7_;have GW481:=n8_;have GE481:=n9_;have NB467_481:=n10_;have NB481_467:=n11_;have NB469_481:=n12_;have NB481_469:=n13_;have NB477_481:=n14_;have NB481_477:=n15_;clear n0_ n1_ n2_ n3_ n4_ n5_ n6_ n7_ n8_ n9_ n10_ n11_ n12_ n13_ n14_ n15_;clear hb hbox hg;have hnb109:=NB481_467.out;have hnc109:=NB467_481.out;have hnb110:=NB481_469.out;have hnc110:=NB469_481.out;have hnb111:=NB481_477.out;have hnc111:=NB477_481.out;have hcz112_0 : w108.cell? ⟨gb481,0,none⟩ = some (.int .u64 0):=(blk_cell BK481.out 0).trans rfl;have hcz112_1 : w108.cell? ⟨gb481,1,none⟩ = some (.int .u64 0):=(blk_cell BK481.out 1).trans rfl;have hcz112_2 : w108.cell? ⟨gb481,2,none⟩ = some (.string (⟨#[]⟩ : BA)):=(blk_cell BK481.out 2).trans rfl;have hcz112_3 : w108.cell? ⟨gb481,3,none⟩ = some (.string (⟨#[]⟩ : BA)):=(blk_cell BK481.out 3).trans rfl;have hfz112_0:=blk_frozen BK481.out 0;have hfz112_1:=blk_frozen BK481.out 1;have hfz112_2:=blk_frozen BK481.out 2;have hfz112_3:=blk_frozen BK481.out 3;have hnb113:=NB467_469.out;have hnc113:=NB469_467.out;have hnb114:=NB467_477.out;have hnc114:=NB477_467.out;have hcz115_0 : w108.cell? ⟨gb467,0,none⟩ = some (.slice Ao21 x468000_1.length co21):=(blk_cell BK467.out 0).trans rfl;have hcz115_1 : w108.cell? ⟨gb467,1,none⟩ = some (.int .u64 x468001_1):=(blk_cell BK467.out 1).trans rfl;have hcz115_2 : w108.cell? ⟨gb467,2,none⟩ = some (.int .u64 x468002_1):=(blk_cell BK467.out 2).trans rfl;have hcz115_3 : w108.cell? ⟨gb467,3,none⟩ = some (.int .u64 x468003_1):=(blk_cell BK467.out 3).trans rfl;have hfz115_0:=blk_frozen BK467.out 0;have hfz115_1:=blk_frozen BK467.out 1;have hfz115_2:=blk_frozen BK467.out 2;have hfz115_3:=blk_frozen BK467.out 3))
            repeat (go_quiet (fail);try go_wp2_with (first|((with_reducible refine gate_dst (N:=9) rfl ?_);(try (refine gate_guard (by rfl) ?_;dsimp only));refine box_event ?hg (N:=9) ?hd (cs:=#[.int .u64 0,.int .u64 0,.string (⟨#[]⟩ : BA),.string (⟨#[]⟩ : BA)]) (t:=62) ?hr ?_;(case hd => rfl);(case hg => rfl);(case hr => first|(go_simp;done)|(go_simp;rfl));intro gb481 hg w108 hbox hb;have n0_:=Aside0.mk (Kd.R_below (Kd.R_elderB (by (with_reducible repeat (first|apply zA|apply zN|apply zD));exact HO_83.out) gb481 (Nat.le_of_eq hg.symm)) hb);have n1_:=Aside0.mk (Kd.R_below (Kd.R_elderB (by (with_reducible repeat (first|apply zA|apply zN|apply zD));exact HO_468000.out) gb481 (Nat.le_of_eq hg.symm)) hb);have n2_:=Aside0.mk (Kd.R_below (Kd.R_elderB (by (with_reducible repeat (first|apply zA|apply zN|apply zD));exact HO_478000.out) gb481 (Nat.le_of_eq hg.symm)) hb);have n3_:=Aside0.mk (blk_below (g:=gb467) (o:=.cells #[.slice Ao21 x468000_1.length co21,.int .u64 x468001_1,.int .u64 x468002_1,.int .u64 x468003_1] 57 (0,0)) (by (with_reducible repeat (first|refine bN ?_ _|refine bD ?_|refine bA ?_ _));exact BK467.out) hb);have n4_:=Aside0.mk (blk_below (g:=gb469) (o:=.cells #[.slice A468_0 ((rd_T54 y461 x25_1).f0).length c468_0,.int .u64 ((rd_T54 y461 x25_1).f1),.int .u64 ((rd_T54 y461 x25_1).f2),.int .u64 ((rd_T54 y461 x25_1).f3)] 54 (0,0)) (by (with_reducible repeat (first|refine bN ?_ _|refine bD ?_|refine bA ?_ _));exact BK469.out) hb);have n5_:=Aside0.mk (blk_below (g:=gb477) (o:=.cells #[.slice (some ad480) t470.length co24,.int .u64 t473,.int .u64 t474,.int .u64 t475] 57 (0,0)) (by (with_reducible repeat (first|refine bN ?_ _|refine bD ?_|refine bA ?_ _));exact BK477.out) hb);have n6_:=Aside0.mk (below_step (by repeat (first|(with_reducible first|exact HB.out|apply below_alloc|apply pw_below_drewN|apply below_drew1|refine below_set ?_ GE467.out|refine below_set ?_ GE469.out|refine below_set ?_ GE477.out)|exact HB.out)) hb);have n7_:=Aside0.mk (hbox);have n8_:=Aside0.mk ((by rw [hg];exact (below_size (by repeat (first|(with_reducible first|exact HB.out|apply below_alloc|apply pw_below_drewN|apply below_drew1|refine below_set ?_ GE467.out|refine below_set ?_ GE469.out|refine below_set ?_ GE477.out)|exact HB.out))) : w.heap.size ≤ gb481));have n9_:=Aside0.mk ((by rw [hg];exact (below_size (by repeat (first|(with_reducible first|exact HB.out|apply below_alloc|apply pw_below_drewN|apply below_drew1|refine below_set ?_ GE467.out|refine below_set ?_ GE469.out|refine below_set ?_ GE477.out)|exact HB.out))) : w.heap.size ≤ gb481));have n10_:=Aside0.mk ((by rw [hg];exact Nat.ne_of_lt (blk_lt (g:=gb467) (o:=.cells #[.slice Ao21 x468000_1.length co21,.int .u64 x468001_1,.int .u64 x468002_1,.int .u64 x468003_1] 57 (0,0)) (by (with_reducible repeat (first|refine bN ?_ _|refine bD ?_|refine bA ?_ _));exact BK467.out)) : gb467 ≠ gb481));have n11_:=Aside0.mk ((by rw [hg];exact Nat.ne_of_gt (blk_lt (g:=gb467) (o:=.cells #[.slice Ao21 x468000_1.length co21,.int .u64 x468001_1,.int .u64 x468002_1,.int .u64 x468003_1] 57 (0,0)) (by (with_reducible repeat (first|refine bN ?_ _|refine bD ?_|refine bA ?_ _));exact BK467.out)) : gb481 ≠ gb467));have n12_:=Aside0.mk ((by rw [hg];exact Nat.ne_of_lt (blk_lt (g:=gb469) (o:=.cells #[.slice A468_0 ((rd_T54 y461 x25_1).f0).length c468_0,.int .u64 ((rd_T54 y461 x25_1).f1),.int .u64 ((rd_T54 y461 x25_1).f2),.int .u64 ((rd_T54 y461 x25_1).f3)] 54 (0,0)) (by (with_reducible repeat (first|refine bN ?_ _|refine bD ?_|refine bA ?_ _));exact BK469.out)) : gb469 ≠ gb481));have n13_:=Aside0.mk ((by rw [hg];exact Nat.ne_of_gt (blk_lt (g:=gb469) (o:=.cells #[.slice A468_0 ((rd_T54 y461 x25_1).f0).length c468_0,.int .u64 ((rd_T54 y461 x25_1).f1),.int .u64 ((rd_T54 y461 x25_1).f2),.int .u64 ((rd_T54 y461 x25_1).f3)] 54 (0,0)) (by (with_reducible repeat (first|refine bN ?_ _|refine bD ?_|refine bA ?_ _));exact BK469.out)) : gb481 ≠ gb469));have n14_:=Aside0.mk ((by rw [hg];exact Nat.ne_of_lt (blk_lt (g:=gb477) (o:=.cells #[.slice (some ad480) t470.length co24,.int .u64 t473,.int .u64 t474,.int .u64 t475] 57 (0,0)) (by (with_reducible repeat (first|refine bN ?_ _|refine bD ?_|refine bA ?_ _));exact BK477.out)) : gb477 ≠ gb481));have n15_:=Aside0.mk ((by rw [hg];exact Nat.ne_of_gt (blk_lt (g:=gb477) (o:=.cells #[.slice (some ad480) t470.length co24,.int .u64 t473,.int .u64 t474,.int .u64 t475] 57 (0,0)) (by (with_reducible repeat (first|refine bN ?_ _|refine bD ?_|refine bA ?_ _));exact BK477.out)) : gb481 ≠ gb477));clear HO_83;clear HO_468000;clear HO_478000;clear BK467;clear BK469;clear BK477;clear HB;have HO_83:=n0_;have HO_468000:=n1_;have HO_478000:=n2_;have BK467:=n3_;have BK469:=n4_;have BK477:=n5_;have HB:=n6_;have BK481:=n7_;have GW481:=n8_;have GE481:=n9_;have NB467_481:=n10_;have NB481_467:=n11_;have NB469_481:=n12_;have NB481_469:=n13_;have NB477_481:=n14_;have NB481_477:=n15_;clear n0_ n1_ n2_ n3_ n4_ n5_ n6_ n7_ n8_ n9_ n10_ n11_ n12_ n13_ n14_ n15_;clear hb hbox hg;have hnb109:=NB481_467.out;have hnc109:=NB467_481.out;have hnb110:=NB481_469.out;have hnc110:=NB469_481.out;have hnb111:=NB481_477.out;have hnc111:=NB477_481.out;have hcz112_0 : w108.cell? ⟨gb481,0,none⟩ = some (.int .u64 0):=(blk_cell BK481.out 0).trans rfl;have hcz112_1 : w108.cell? ⟨gb481,1,none⟩ = some (.int .u64 0):=(blk_cell BK481.out 1).trans rfl;have hcz112_2 : w108.cell? ⟨gb481,2,none⟩ = some (.string (⟨#[]⟩ : BA)):=(blk_cell BK481.out 2).trans rfl;have hcz112_3 : w108.cell? ⟨gb481,3,none⟩ = some (.string (⟨#[]⟩ : BA)):=(blk_cell BK481.out 3).trans rfl;have hfz112_0:=blk_frozen BK481.out 0;have hfz112_1:=blk_frozen BK481.out 1;have hfz112_2:=blk_frozen BK481.out 2;have hfz112_3:=blk_frozen BK481.out 3;have hnb113:=NB467_469.out;have hnc113:=NB469_467.out;have hnb114:=NB467_477.out;have hnc114:=NB477_467.out;have hcz115_0 : w108.cell? ⟨gb467,0,none⟩ = some (.slice Ao21 x468000_1.length co21):=(blk_cell BK467.out 0).trans rfl;have hcz115_1 : w108.cell? ⟨gb467,1,none⟩ = some (.int .u64 x468001_1):=(blk_cell BK467.out 1).trans rfl;have hcz115_2 : w108.cell? ⟨gb467,2,none⟩ = some (.int .u64 x468002_1):=(blk_cell BK467.out 2).trans rfl;have hcz115_3 : w108.cell? ⟨gb467,3,none⟩ = some (.int .u64 x468003_1):=(blk_cell BK467.out 3).trans rfl;have hfz115_0:=blk_frozen BK467.out 0;have hfz115_1:=blk_frozen BK467.out 1;have hfz115_2:=blk_frozen BK467.out 2;have hfz115_3:=blk_frozen BK467.out 3)))
            go_roundg k3
            case measure => have:=HK1.out;have:=HJ15.out;have:=HK3.out;omega
            case rel => exact ⟨(wrap64 (x85_3 + 1)),(by first|rfl|(simp;done)|(simp [*];done)),H',⟨by have:=HK1.out;have:=HJ15.out;have:=HK3.out;omega⟩,⟨by (with_reducible repeat (first|apply zA|apply zN|apply zD));exact Kd.R_mono (Kd.R_far (p:=⟨gb481,3,none⟩) (Kd.R_far (p:=⟨gb481,2,none⟩) (Kd.R_far (p:=⟨gb481,1,none⟩) (Kd.R_far (p:=⟨gb481,0,none⟩) (Kd.R_mono HO_83.out (fun k_ hk => (⟨hk,hk.2⟩ : _ ∧ k_ ≠ gb481))) (fun _ hk => hk.2) (.int .u64 ((rd_T62 t470 x85_3).f0))) (fun _ hk => hk.2) (.int .u64 ((rd_T62 t470 x85_3).f1))) (fun _ hk => hk.2) (.string ((rd_T62 t470 x85_3).f2))) (fun _ hk => hk.2) (.string ((rd_T62 t470 x85_3).f3))) (fun _ hk => hk.1.1)⟩,⟨by (with_reducible repeat (first|apply zA|apply zN|apply zD));exact Kd.R_mono (Kd.R_far (p:=⟨gb481,3,none⟩) (Kd.R_far (p:=⟨gb481,2,none⟩) (Kd.R_far (p:=⟨gb481,1,none⟩) (Kd.R_far (p:=⟨gb481,0,none⟩) (Kd.R_mono HO_468000.out (fun k_ hk => (⟨hk,hk.2⟩ : _ ∧ k_ ≠ gb481))) (fun _ hk => hk.2) (.int .u64 ((rd_T62 t470 x85_3).f0))) (fun _ hk => hk.2) (.int .u64 ((rd_T62 t470 x85_3).f1))) (fun _ hk => hk.2) (.string ((rd_T62 t470 x85_3).f2))) (fun _ hk => hk.2) (.string ((rd_T62 t470 x85_3).f3))) (fun _ hk => ⟨hk.1.1.1,hk.1.1.2⟩)⟩,⟨by (with_reducible repeat (first|apply zA|apply zN|apply zD));exact Kd.R_mono (Kd.R_far (p:=⟨gb481,3,none⟩) (Kd.R_far (p:=⟨gb481,2,none⟩) (Kd.R_far (p:=⟨gb481,1,none⟩) (Kd.R_far (p:=⟨gb481,0,none⟩) (Kd.R_mono HO_478000.out (fun k_ hk => (⟨hk,hk.2⟩ : _ ∧ k_ ≠ gb481))) (fun _ hk => hk.2) (.int .u64 ((rd_T62 t470 x85_3).f0))) (fun _ hk => hk.2) (.int .u64 ((rd_T62 t470 x85_3).f1))) (fun _ hk => hk.2) (.string ((rd_T62 t470 x85_3).f2))) (fun _ hk => hk.2) (.string ((rd_T62 t470 x85_3).f3))) (fun _ hk => hk.1.1)⟩,⟨by (with_reducible repeat (first|refine bN ?_ _|refine bD ?_|refine bA ?_ _));refine blk_far ?_ NB467_481.out _;(with_reducible repeat (first|refine bN ?_ _|refine bD ?_|refine bA ?_ _));refine blk_far ?_ NB467_481.out _;(with_reducible repeat (first|refine bN ?_ _|refine bD ?_|refine bA ?_ _));refine blk_far ?_ NB467_481.out _;(with_reducible repeat (first|refine bN ?_ _|refine bD ?_|refine bA ?_ _));refine blk_far ?_ NB467_481.out _;(with_reducible repeat (first|refine bN ?_ _|refine bD ?_|refine bA ?_ _));exact BK467.out⟩,⟨by (with_reducible repeat (first|refine bN ?_ _|refine bD ?_|refine bA ?_ _));refine blk_far ?_ NB469_481.out _;(with_reducible repeat (first|refine bN ?_ _|refine bD ?_|refine bA ?_ _));refine blk_far ?_ NB469_481.out _;(with_reducible repeat (first|refine bN ?_ _|refine bD ?_|refine bA ?_ _));refine blk_far ?_ NB469_481.out _;(with_reducible repeat (first|refine bN ?_ _|refine bD ?_|refine bA ?_ _));refine blk_far ?_ NB469_481.out _;(with_reducible repeat (first|refine bN ?_ _|refine bD ?_|refine bA ?_ _));exact BK469.out⟩,⟨by (with_reducible repeat (first|refine bN ?_ _|refine bD ?_|refine bA ?_ _));refine blk_far ?_ NB477_481.out _;(with_reducible repeat (first|refine bN ?_ _|refine bD ?_|refine bA ?_ _));refine blk_far ?_ NB477_481.out _;(with_reducible repeat (first|refine bN ?_ _|refine bD ?_|refine bA ?_ _));refine blk_far ?_ NB477_481.out _;(with_reducible repeat (first|refine bN ?_ _|refine bD ?_|refine bA ?_ _));refine blk_far ?_ NB477_481.out _;(with_reducible repeat (first|refine bN ?_ _|refine bD ?_|refine bA ?_ _));exact BK477.out⟩,⟨by repeat (first|(with_reducible first|exact HB.out|apply below_alloc|apply pw_below_drewN|apply below_drew1|refine below_set ?_ GE467.out|refine below_set ?_ GE469.out|refine below_set ?_ GE477.out|refine below_set ?_ GE481.out)|exact HB.out)⟩⟩
         ·rw [if_neg c65] at H
          have c65b0 : decide (x85_3 < (t470.length : Int)) = false:=decide_eq_false c65
          clear c65
          have H':=Aside0.mk H
          clear H
          have hnb116:=NB477_467.out
          have hnc116:=NB467_477.out
          have hnb117:=NB477_469.out
          have hnc117:=NB469_477.out
          have hcz118_0 : wr.cell? ⟨gb477,0,none⟩ = some (.slice Ao24 t470.length co24):=(blk_cell BK477.out 0).trans rfl
          have hcz118_1 : wr.cell? ⟨gb477,1,none⟩ = some (.int .u64 t473):=(blk_cell BK477.out 1).trans rfl
          have hcz118_2 : wr.cell? ⟨gb477,2,none⟩ = some (.int .u64 t474):=(blk_cell BK477.out 2).trans rfl
          have hcz118_3 : wr.cell? ⟨gb477,3,none⟩ = some (.int .u64 t475):=(blk_cell BK477.out 3).trans rfl
          have hfz118_0:=blk_frozen BK477.out 0
          have hfz118_1:=blk_frozen BK477.out 1
          have hfz118_2:=blk_frozen BK477.out 2
          have hfz118_3:=blk_frozen BK477.out 3
          have hnb119:=NB467_469.out
          have hnc119:=NB469_467.out
          have hcz120_0 : wr.cell? ⟨gb467,0,none⟩ = some (.slice Ao21 x468000_1.length co21):=(blk_cell BK467.out 0).trans rfl
          have hcz120_1 : wr.cell? ⟨gb467,1,none⟩ = some (.int .u64 x468001_1):=(blk_cell BK467.out 1).trans rfl
          have hcz120_2 : wr.cell? ⟨gb467,2,none⟩ = some (.int .u64 x468002_1):=(blk_cell BK467.out 2).trans rfl
          have hcz120_3 : wr.cell? ⟨gb467,3,none⟩ = some (.int .u64 x468003_1):=(blk_cell BK467.out 3).trans rfl
          have hfz120_0:=blk_frozen BK467.out 0
          have hfz120_1:=blk_frozen BK467.out 1
          have hfz120_2:=blk_frozen BK467.out 2
          have hfz120_3:=blk_frozen BK467.out 3
          go_wp2
          repeat (go_quiet (fail);try go_wp2)
          go_roundg k3
          case measure => have:=HK1.out;have:=HJ15.out;have:=HK3.out;omega
          case rel => exact ⟨(wrap64 (x25_1 + 1)),(t470),(t473),(t474),(t475),(.slice Ao24 t470.length co24),(by first|rfl|(simp;done)|(simp [*];done)),H',⟨by have:=HK1.out;have:=HJ15.out;have:=HK3.out;omega⟩,⟨by (with_reducible repeat (first|apply zA|apply zN|apply zD));exact Kd.R_mono (Kd.R_far (p:=⟨gb467,3,none⟩) (Kd.R_far (p:=⟨gb467,2,none⟩) (Kd.R_far (p:=⟨gb467,1,none⟩) (Kd.R_far (p:=⟨gb467,0,none⟩) (Kd.R_types HO_478000.out BK467.out (by decide)) (fun _ hk => hk.2) (.slice Ao24 t470.length co24)) (fun _ hk => hk.2) (.int .u64 t473)) (fun _ hk => hk.2) (.int .u64 t474)) (fun _ hk => hk.2) (.int .u64 t475)) (fun _ hk => trivial)⟩,⟨by (with_reducible repeat (first|refine bN ?_ _|refine bD ?_|refine bA ?_ _));refine blk_put (cs:=#[.slice Ao24 t470.length co24,.int .u64 t473,.int .u64 t474,.int .u64 x468003_1]) ?_ 3 _ rfl;(with_reducible repeat (first|refine bN ?_ _|refine bD ?_|refine bA ?_ _));refine blk_put (cs:=#[.slice Ao24 t470.length co24,.int .u64 t473,.int .u64 x468002_1,.int .u64 x468003_1]) ?_ 2 _ rfl;(with_reducible repeat (first|refine bN ?_ _|refine bD ?_|refine bA ?_ _));refine blk_put (cs:=#[.slice Ao24 t470.length co24,.int .u64 x468001_1,.int .u64 x468002_1,.int .u64 x468003_1]) ?_ 1 _ rfl;(with_reducible repeat (first|refine bN ?_ _|refine bD ?_|refine bA ?_ _));refine blk_put (cs:=#[.slice Ao21 x468000_1.length co21,.int .u64 x468001_1,.int .u64 x468002_1,.int .u64 x468003_1]) ?_ 0 _ rfl;(with_reducible repeat (first|refine bN ?_ _|refine bD ?_|refine bA ?_ _));exact BK467.out⟩,⟨by repeat (first|(with_reducible first|exact HB.out|apply below_alloc|apply pw_below_drewN|apply below_drew1|refine below_set ?_ GE467.out|refine below_set ?_ GE469.out|refine below_set ?_ GE477.out)|exact HB.out)⟩⟩
   ·rw [if_neg c11] at H
    have c11b0 : decide (x25_1 < (y461.length : Int)) = false:=decide_eq_false c11
    clear c11
    replace H:=Option.bind_eq_some_iff.mp H
    obtain ⟨⟨t485,t488,t489,t490⟩,A1370,H⟩:=H
    replace H : (if (x468000_1.length : Int) > 64 then (ratlinelaw09_EditGrows.j3 k1 true x468000_1 x468001_1 x468002_1 x468003_1 t485 t488 t489 t490) else ((edit_Same.f k1 t485 t488 t489 t490 ([] : List (S62)) 0 0 0).bind fun t492 => (ratlinelaw09_EditGrows.j3 k1 t492 x468000_1 x468001_1 x468002_1 x468003_1 t485 t488 t489 t490))) = some r:=H
    have A137:=Aside0.mk A1370
    clear A1370
    have HC138:=Aside0.mk H
    clear H
    have hcz139_0 : wr.cell? ⟨gb467,0,none⟩ = some (u468000):=(blk_cell BK467.out 0).trans rfl
    have hcz139_1 : wr.cell? ⟨gb467,1,none⟩ = some (.int .u64 x468001_1):=(blk_cell BK467.out 1).trans rfl
    have hcz139_2 : wr.cell? ⟨gb467,2,none⟩ = some (.int .u64 x468002_1):=(blk_cell BK467.out 2).trans rfl
    have hcz139_3 : wr.cell? ⟨gb467,3,none⟩ = some (.int .u64 x468003_1):=(blk_cell BK467.out 3).trans rfl
    have hfz139_0:=blk_frozen BK467.out 0
    have hfz139_1:=blk_frozen BK467.out 1
    have hfz139_2:=blk_frozen BK467.out 2
    have hfz139_3:=blk_frozen BK467.out 3
    obtain ⟨Ao140,co140,eo140⟩:=Kd.R_slice HO_468000.out
    subst eo140
    go_upto_region 23 with (first|(go_at_call 35;(with_reducible refine (edit_Whole.calls _ _ x468000_1 x468001_1 x468002_1 x468003_1 t485 t488 t489 t490 _ ?side1 ?side2 A137.out).mono ?_);(case side1 => repeat (first|exact (Kd.R_reads' HO_468000.out).2.2|(with_reducible refine Kd.C_alloc ?_ _)|(with_reducible refine Kd.C_drewN ?_ _)|(with_reducible refine Kd.C_drew ?_)));(case side2 => exact (Kd.R_reads' HO_468000.out).2.1);rintro e w141 ⟨v486,rfl,ho0,hb⟩;have n0_:=Aside0.mk (Kd.R_elder' (by (with_reducible repeat (first|apply zA|apply zN|apply zD));exact HO_468000.out) (Kd.R_base ho0) hb);have n1_:=Aside0.mk (Kd.R_lower (Kd.R_new' ho0 (Kd.R_lt (by (with_reducible repeat (first|apply zA|apply zN|apply zD));exact HO_468000.out))) (below_size (by repeat (first|(with_reducible first|exact HB.out|apply below_alloc|apply pw_below_drewN|apply below_drew1|refine below_set ?_ GE467.out)|exact HB.out))));have n2_:=Aside0.mk (blk_below (g:=gb467) (o:=.cells #[.slice Ao140 x468000_1.length co140,.int .u64 x468001_1,.int .u64 x468002_1,.int .u64 x468003_1] 57 (0,0)) (by (with_reducible repeat (first|refine bN ?_ _|refine bD ?_|refine bA ?_ _));exact BK467.out) hb);have n3_:=Aside0.mk (below_step (by repeat (first|(with_reducible first|exact HB.out|apply below_alloc|apply pw_below_drewN|apply below_drew1|refine below_set ?_ GE467.out)|exact HB.out)) hb);clear HO_468000;clear BK467;clear HB;have HO_468000:=n0_;have HO487:=n1_;have BK467:=n2_;have HB:=n3_;clear n0_ n1_ n2_ n3_;(try clear hb);(try clear hb2);(try clear hk);(try clear hi);(try clear ho0))|((with_reducible refine gate_dst (N:=10) rfl ?_);(try (refine gate_guard (by rfl) ?_;dsimp only));refine box_event ?hg (N:=10) ?hd (cs:=#[.slice none 0 0,.int .u64 0,.int .u64 0,.int .u64 0]) (t:=54) ?hr ?_;(case hd => rfl);(case hg => rfl);(case hr => first|(go_simp;done)|(go_simp;rfl));intro gb491 hg w142 hbox hb;have n0_:=Aside0.mk (Kd.R_below (by (with_reducible repeat (first|apply zA|apply zN|apply zD));exact HO_468000.out) hb);have n1_:=Aside0.mk (Kd.R_below (by (with_reducible repeat (first|apply zA|apply zN|apply zD));exact HO487.out) hb);have n2_:=Aside0.mk (blk_below (g:=gb467) (o:=.cells #[.slice Ao140 x468000_1.length co140,.int .u64 x468001_1,.int .u64 x468002_1,.int .u64 x468003_1] 57 (0,0)) (by (with_reducible repeat (first|refine bN ?_ _|refine bD ?_|refine bA ?_ _));exact BK467.out) hb);have n3_:=Aside0.mk (below_step (by repeat (first|(with_reducible first|exact HB.out|apply below_alloc|apply pw_below_drewN|apply below_drew1|refine below_set ?_ GE467.out)|exact HB.out)) hb);have n4_:=Aside0.mk (hbox);have n5_:=Aside0.mk ((by rw [hg];exact (below_size (by repeat (first|(with_reducible first|exact HB.out|apply below_alloc|apply pw_below_drewN|apply below_drew1|refine below_set ?_ GE467.out)|exact HB.out))) : w.heap.size ≤ gb491));have n6_:=Aside0.mk ((by rw [hg];exact (below_size (by repeat (first|(with_reducible first|exact HB.out|apply below_alloc|apply pw_below_drewN|apply below_drew1|refine below_set ?_ GE467.out)|exact HB.out))) : w.heap.size ≤ gb491));have n7_:=Aside0.mk ((by rw [hg];exact Nat.ne_of_lt (blk_lt (g:=gb467) (o:=.cells #[.slice Ao140 x468000_1.length co140,.int .u64 x468001_1,.int .u64 x468002_1,.int .u64 x468003_1] 57 (0,0)) (by (with_reducible repeat (first|refine bN ?_ _|refine bD ?_|refine bA ?_ _));exact BK467.out)) : gb467 ≠ gb491));have n8_:=Aside0.mk ((by rw [hg];exact Nat.ne_of_gt (blk_lt (g:=gb467) (o:=.cells #[.slice Ao140 x468000_1.length co140,.int .u64 x468001_1,.int .u64 x468002_1,.int .u64 x468003_1] 57 (0,0)) (by (with_reducible repeat (first|refine bN ?_ _|refine bD ?_|refine bA ?_ _));exact BK467.out)) : gb491 ≠ gb467));clear HO_468000;clear HO487;clear BK467;clear HB;have HO_468000:=n0_;have HO487:=n1_;have BK467:=n2_;have HB:=n3_;have BK491:=n4_;have GW491:=n5_;have GE491:=n6_;have NB467_491:=n7_;have NB491_467:=n8_;clear n0_ n1_ n2_ n3_ n4_ n5_ n6_ n7_ n8_;clear hb hbox hg;obtain ⟨Ao143,co143,eo143⟩:=Kd.R_slice HO487.out;subst eo143;have hnb144:=NB491_467.out;have hnc144:=NB467_491.out;have hcz145_0 : w142.cell? ⟨gb491,0,none⟩ = some (.slice none 0 0):=(blk_cell BK491.out 0).trans rfl;have hcz145_1 : w142.cell? ⟨gb491,1,none⟩ = some (.int .u64 0):=(blk_cell BK491.out 1).trans rfl;have hcz145_2 : w142.cell? ⟨gb491,2,none⟩ = some (.int .u64 0):=(blk_cell BK491.out 2).trans rfl;have hcz145_3 : w142.cell? ⟨gb491,3,none⟩ = some (.int .u64 0):=(blk_cell BK491.out 3).trans rfl;have hfz145_0:=blk_frozen BK491.out 0;have hfz145_1:=blk_frozen BK491.out 1;have hfz145_2:=blk_frozen BK491.out 2;have hfz145_3:=blk_frozen BK491.out 3))
    repeat (go_quiet (fail);try go_wp2)
    (try simp only [Act.put,sA,sZ,sS])
    go_cut [133] (fun v133 wc => ∃ (kq : Nat) (x133_137 : Bool),v133 = .bool x133_137 ∧ Aside0 (ratlinelaw09_EditGrows.j3 kq x133_137 x468000_1 x468001_1 x468002_1 x468003_1 t485 t488 t489 t490 = some r) ∧ Aside0 (kq ≤ k1) ∧ Aside0 (Kd.R k62 62 wc w.heap.size (fun k_ => nO k_ ((.slice Ao143 t485.length co143))) (.slice Ao140 x468000_1.length co140) x468000_1) ∧ Aside0 (Kd.R k62 62 wc w.heap.size (fun k_ => nO k_ ((.slice Ao140 x468000_1.length co140))) (.slice Ao143 t485.length co143) t485) ∧ Aside0 (wc.heap[gb467]? = some (.cells #[(.slice Ao140 x468000_1.length co140),.int .u64 x468001_1,.int .u64 x468002_1,.int .u64 x468003_1] 57 (0,0))) ∧ Aside0 (wc.heap[gb491]? = some (.cells #[(.slice Ao143 t485.length co143),.int .u64 t488,.int .u64 t489,.int .u64 t490] 54 (0,0))) ∧ Aside0 (Below w.heap.size w wc))
    case first =>
     have H:=HC138.out
     clear HC138
     by_cases c146 : (x468000_1.length : Int) > 64
     ·rw [if_pos c146] at H
      have c146b0 : decide (64 < (x468000_1.length : Int)) = true:=decide_eq_true c146
      have c146b1 : decide (64 < x468000_1.length) = true:=decide_eq_true (by omega)
      clear c146
      (first|rw [c146b0]|(simp only [i64_w,i32_w];rw [c146b0])|skip)
      have H':=Aside0.mk H
      clear H
      have hnb147:=NB467_491.out
      have hnc147:=NB491_467.out
      have hcz148_0 : w142.cell? ⟨gb467,0,none⟩ = some (.slice Ao140 x468000_1.length co140):=(blk_cell BK467.out 0).trans rfl
      have hcz148_1 : w142.cell? ⟨gb467,1,none⟩ = some (.int .u64 x468001_1):=(blk_cell BK467.out 1).trans rfl
      have hcz148_2 : w142.cell? ⟨gb467,2,none⟩ = some (.int .u64 x468002_1):=(blk_cell BK467.out 2).trans rfl
      have hcz148_3 : w142.cell? ⟨gb467,3,none⟩ = some (.int .u64 x468003_1):=(blk_cell BK467.out 3).trans rfl
      have hfz148_0:=blk_frozen BK467.out 0
      have hfz148_1:=blk_frozen BK467.out 1
      have hfz148_2:=blk_frozen BK467.out 2
      have hfz148_3:=blk_frozen BK467.out 3
      go_wp2
      repeat (go_quiet (fail);try go_wp2)
      go_meet
      case rel => exact ⟨_,(true),(by first|rfl|(simp;done)|(simp [*];done)),H',⟨by have:=HK1.out;first|omega|exact Nat.le_refl _⟩,⟨by (with_reducible repeat (first|apply zA|apply zN|apply zD));exact Kd.R_mono (Kd.R_far (p:=⟨gb491,3,none⟩) (Kd.R_far (p:=⟨gb491,2,none⟩) (Kd.R_far (p:=⟨gb491,1,none⟩) (Kd.R_far (p:=⟨gb491,0,none⟩) (Kd.R_types HO_468000.out BK491.out (by decide)) (fun _ hk => hk.2) (.slice Ao143 t485.length co143)) (fun _ hk => hk.2) (.int .u64 t488)) (fun _ hk => hk.2) (.int .u64 t489)) (fun _ hk => hk.2) (.int .u64 t490)) (fun _ hk => hk.1.2)⟩,⟨by (with_reducible repeat (first|apply zA|apply zN|apply zD));exact Kd.R_mono (Kd.R_far (p:=⟨gb491,3,none⟩) (Kd.R_far (p:=⟨gb491,2,none⟩) (Kd.R_far (p:=⟨gb491,1,none⟩) (Kd.R_far (p:=⟨gb491,0,none⟩) (Kd.R_types HO487.out BK491.out (by decide)) (fun _ hk => hk.2) (.slice Ao143 t485.length co143)) (fun _ hk => hk.2) (.int .u64 t488)) (fun _ hk => hk.2) (.int .u64 t489)) (fun _ hk => hk.2) (.int .u64 t490)) (fun _ hk => hk.1.2)⟩,⟨by (with_reducible repeat (first|refine bN ?_ _|refine bD ?_|refine bA ?_ _));refine blk_far ?_ NB467_491.out _;(with_reducible repeat (first|refine bN ?_ _|refine bD ?_|refine bA ?_ _));refine blk_far ?_ NB467_491.out _;(with_reducible repeat (first|refine bN ?_ _|refine bD ?_|refine bA ?_ _));refine blk_far ?_ NB467_491.out _;(with_reducible repeat (first|refine bN ?_ _|refine bD ?_|refine bA ?_ _));refine blk_far ?_ NB467_491.out _;(with_reducible repeat (first|refine bN ?_ _|refine bD ?_|refine bA ?_ _));exact BK467.out⟩,⟨by (with_reducible repeat (first|refine bN ?_ _|refine bD ?_|refine bA ?_ _));refine blk_put (cs:=#[.slice Ao143 t485.length co143,.int .u64 t488,.int .u64 t489,.int .u64 0]) ?_ 3 _ rfl;(with_reducible repeat (first|refine bN ?_ _|refine bD ?_|refine bA ?_ _));refine blk_put (cs:=#[.slice Ao143 t485.length co143,.int .u64 t488,.int .u64 0,.int .u64 0]) ?_ 2 _ rfl;(with_reducible repeat (first|refine bN ?_ _|refine bD ?_|refine bA ?_ _));refine blk_put (cs:=#[.slice Ao143 t485.length co143,.int .u64 0,.int .u64 0,.int .u64 0]) ?_ 1 _ rfl;(with_reducible repeat (first|refine bN ?_ _|refine bD ?_|refine bA ?_ _));refine blk_put (cs:=#[.slice none 0 0,.int .u64 0,.int .u64 0,.int .u64 0]) ?_ 0 _ rfl;(with_reducible repeat (first|refine bN ?_ _|refine bD ?_|refine bA ?_ _));exact BK491.out⟩,⟨by repeat (first|(with_reducible first|exact HB.out|apply below_alloc|apply pw_below_drewN|apply below_drew1|refine below_set ?_ GE467.out|refine below_set ?_ GE491.out)|exact HB.out)⟩⟩
     ·rw [if_neg c146] at H
      have c146b0 : decide (64 < (x468000_1.length : Int)) = false:=decide_eq_false c146
      have c146b1 : decide (64 < x468000_1.length) = false:=decide_eq_false (by omega)
      clear c146
      (first|rw [c146b0]|(simp only [i64_w,i32_w];rw [c146b0])|skip)
      replace H:=Option.bind_eq_some_iff.mp H
      obtain ⟨t492,A1490,H⟩:=H
      replace H : (ratlinelaw09_EditGrows.j3 k1 t492 x468000_1 x468001_1 x468002_1 x468003_1 t485 t488 t489 t490) = some r:=H
      have A149:=Aside0.mk A1490
      clear A1490
      have H':=Aside0.mk H
      clear H
      have hnb150:=NB467_491.out
      have hnc150:=NB491_467.out
      have hcz151_0 : w142.cell? ⟨gb467,0,none⟩ = some (.slice Ao140 x468000_1.length co140):=(blk_cell BK467.out 0).trans rfl
      have hcz151_1 : w142.cell? ⟨gb467,1,none⟩ = some (.int .u64 x468001_1):=(blk_cell BK467.out 1).trans rfl
      have hcz151_2 : w142.cell? ⟨gb467,2,none⟩ = some (.int .u64 x468002_1):=(blk_cell BK467.out 2).trans rfl
      have hcz151_3 : w142.cell? ⟨gb467,3,none⟩ = some (.int .u64 x468003_1):=(blk_cell BK467.out 3).trans rfl
      have hfz151_0:=blk_frozen BK467.out 0
      have hfz151_1:=blk_frozen BK467.out 1
      have hfz151_2:=blk_frozen BK467.out 2
      have hfz151_3:=blk_frozen BK467.out 3
      have hcz152_0 : w142.cell? ⟨gb491,0,none⟩ = some (.slice none 0 0):=(blk_cell BK491.out 0).trans rfl
      have hcz152_1 : w142.cell? ⟨gb491,1,none⟩ = some (.int .u64 0):=(blk_cell BK491.out 1).trans rfl
      have hcz152_2 : w142.cell? ⟨gb491,2,none⟩ = some (.int .u64 0):=(blk_cell BK491.out 2).trans rfl
      have hcz152_3 : w142.cell? ⟨gb491,3,none⟩ = some (.int .u64 0):=(blk_cell BK491.out 3).trans rfl
      have hfz152_0:=blk_frozen BK491.out 0
      have hfz152_1:=blk_frozen BK491.out 1
      have hfz152_2:=blk_frozen BK491.out 2
      have hfz152_3:=blk_frozen BK491.out 3
      go_wp2_with (first|(go_at_call 36;(refine calls_of_args (args':=#[.agg #[.slice Ao143 t485.length co143,.int .u64 t488,.int .u64 t489,.int .u64 t490],.agg #[.slice none (([] : List (S62))).length 0,.int .u64 0,.int .u64 0,.int .u64 0]]) (by rfl) ?_;with_reducible refine (edit_Same.calls k1 _ _ t485 t488 t489 t490 _ _ ([] : List (S62)) 0 0 0 t492 _ ?side1 ?side2 ?side3 ?side4 A149.out).mono ?_);(case side1 => refine (Kd.R_reads' (e:=62) (base:=w.heap.size) (ok:=fun k_ => (True ∧ nB k_ Ao140 x468000_1.length co140)) (n:=t485.length) (c:=co143) ?_).2.2;exact (by (with_reducible repeat (first|apply zA|apply zN|apply zD));exact (Kd.R_mono (Kd.R_far (p:=⟨gb491,3,none⟩) (Kd.R_far (p:=⟨gb491,2,none⟩) (Kd.R_far (p:=⟨gb491,1,none⟩) (Kd.R_far (p:=⟨gb491,0,none⟩) (Kd.R_types HO487.out BK491.out (by decide)) (fun _ hk => hk.2) (.slice Ao143 t485.length co143)) (fun _ hk => hk.2) (.int .u64 t488)) (fun _ hk => hk.2) (.int .u64 t489)) (fun _ hk => hk.2) (.int .u64 t490)) (fun _ h_ => h_.1))));(case side2 => exact (Kd.R_reads' HO487.out).2.1);(case side3 => exact Kd.C_nil _ _);(case side4 => exact Nat.le_refl _);rintro e w153 ⟨rfl,hb⟩;have n0_:=Aside0.mk (Kd.R_below (by (with_reducible repeat (first|apply zA|apply zN|apply zD));exact (Kd.R_mono (Kd.R_far (p:=⟨gb491,3,none⟩) (Kd.R_far (p:=⟨gb491,2,none⟩) (Kd.R_far (p:=⟨gb491,1,none⟩) (Kd.R_far (p:=⟨gb491,0,none⟩) (Kd.R_types HO_468000.out BK491.out (by decide)) (fun _ hk => hk.2) (.slice Ao143 t485.length co143)) (fun _ hk => hk.2) (.int .u64 t488)) (fun _ hk => hk.2) (.int .u64 t489)) (fun _ hk => hk.2) (.int .u64 t490)) (fun _ h_ => h_.1))) hb);have n1_:=Aside0.mk (Kd.R_below (by (with_reducible repeat (first|apply zA|apply zN|apply zD));exact (Kd.R_mono (Kd.R_far (p:=⟨gb491,3,none⟩) (Kd.R_far (p:=⟨gb491,2,none⟩) (Kd.R_far (p:=⟨gb491,1,none⟩) (Kd.R_far (p:=⟨gb491,0,none⟩) (Kd.R_types HO487.out BK491.out (by decide)) (fun _ hk => hk.2) (.slice Ao143 t485.length co143)) (fun _ hk => hk.2) (.int .u64 t488)) (fun _ hk => hk.2) (.int .u64 t489)) (fun _ hk => hk.2) (.int .u64 t490)) (fun _ h_ => h_.1))) hb);have n2_:=Aside0.mk (blk_below (g:=gb467) (o:=.cells #[.slice Ao140 x468000_1.length co140,.int .u64 x468001_1,.int .u64 x468002_1,.int .u64 x468003_1] 57 (0,0)) (by (with_reducible repeat (first|refine bN ?_ _|refine bD ?_|refine bA ?_ _));refine blk_far ?_ NB467_491.out _;(with_reducible repeat (first|refine bN ?_ _|refine bD ?_|refine bA ?_ _));refine blk_far ?_ NB467_491.out _;(with_reducible repeat (first|refine bN ?_ _|refine bD ?_|refine bA ?_ _));refine blk_far ?_ NB467_491.out _;(with_reducible repeat (first|refine bN ?_ _|refine bD ?_|refine bA ?_ _));refine blk_far ?_ NB467_491.out _;(with_reducible repeat (first|refine bN ?_ _|refine bD ?_|refine bA ?_ _));exact BK467.out) hb);have n3_:=Aside0.mk (blk_below (g:=gb491) (o:=.cells #[.slice Ao143 t485.length co143,.int .u64 t488,.int .u64 t489,.int .u64 t490] 54 (0,0)) (by (with_reducible repeat (first|refine bN ?_ _|refine bD ?_|refine bA ?_ _));refine blk_put (cs:=#[.slice Ao143 t485.length co143,.int .u64 t488,.int .u64 t489,.int .u64 0]) ?_ 3 _ rfl;(with_reducible repeat (first|refine bN ?_ _|refine bD ?_|refine bA ?_ _));refine blk_put (cs:=#[.slice Ao143 t485.length co143,.int .u64 t488,.int .u64 0,.int .u64 0]) ?_ 2 _ rfl;(with_reducible repeat (first|refine bN ?_ _|refine bD ?_|refine bA ?_ _));refine blk_put (cs:=#[.slice Ao143 t485.length co143,.int .u64 0,.int .u64 0,.int .u64 0]) ?_ 1 _ rfl;(with_reducible repeat (first|refine bN ?_ _|refine bD ?_|refine bA ?_ _));refine blk_put (cs:=#[.slice none 0 0,.int .u64 0,.int .u64 0,.int .u64 0]) ?_ 0 _ rfl;(with_reducible repeat (first|refine bN ?_ _|refine bD ?_|refine bA ?_ _));exact BK491.out) hb);have n4_:=Aside0.mk (below_step (by repeat (first|(with_reducible first|exact HB.out|apply below_alloc|apply pw_below_drewN|apply below_drew1|refine below_set ?_ GE467.out|refine below_set ?_ GE491.out)|exact HB.out)) hb);clear HO_468000;clear HO487;clear BK467;clear BK491;clear HB;have HO_468000:=n0_;have HO487:=n1_;have BK467:=n2_;have BK491:=n3_;have HB:=n4_;clear n0_ n1_ n2_ n3_ n4_;(try clear hb);(try clear hb2);(try clear hk);(try clear hi)))
      repeat (go_quiet (fail);try go_wp2)
      go_meet
      case rel => exact ⟨_,(t492),(by first|rfl|(simp;done)|(simp [*];done)),H',⟨by have:=HK1.out;first|omega|exact Nat.le_refl _⟩,⟨by (with_reducible repeat (first|apply zA|apply zN|apply zD));exact Kd.R_mono HO_468000.out (fun _ hk => hk.2)⟩,⟨by (with_reducible repeat (first|apply zA|apply zN|apply zD));exact Kd.R_mono HO487.out (fun _ hk => hk.2)⟩,⟨by (with_reducible repeat (first|refine bN ?_ _|refine bD ?_|refine bA ?_ _));exact BK467.out⟩,⟨by (with_reducible repeat (first|refine bN ?_ _|refine bD ?_|refine bA ?_ _));exact BK491.out⟩,⟨by repeat (first|(with_reducible first|exact HB.out|apply below_alloc|apply pw_below_drewN|apply below_drew1|refine below_set ?_ GE467.out|refine below_set ?_ GE491.out)|exact HB.out)⟩⟩
    case rest =>
     clear HC138
     try clear c1
     try clear c2
     try clear p2
     try clear c3
     try clear c3b0
     try clear c3b1
     try clear c4
     try clear c4b0
     try clear c4b1
     try clear p4
     try clear q4
     try clear hx4
     try clear c5
     try clear c6
     try clear p6
     try clear c7
     try clear q7
     try clear c8
     try clear c9
     try clear c10
     try clear c11
     try clear c11b0
     try clear c12
     try clear c12b0
     try clear c13
     try clear c13b0
     try clear c14
     try clear c15
     try clear c15b0
     try clear c15b1
     try clear c18
     try clear c25
     try clear c26
     try clear c28
     try clear c28b0
     try clear c29
     try clear c30
     try clear c32
     try clear c34
     try clear c34b0
     try clear c35
     try clear c36
     try clear c38
     try clear c40
     try clear c40b0
     try clear c41
     try clear c42
     try clear c44
     try clear c46
     try clear c46b0
     try clear c46b1
     try clear p46
     try clear q46
     try clear hx46
     try clear c48
     try clear p48
     try clear q48
     try clear hx48
     try clear c49
     try clear c51
     try clear c55
     try clear c56
     try clear c58
     try clear c61
     try clear c62
     try clear c63
     try clear p64
     try clear c65
     try clear c65b0
     try clear c66
     try clear c66b0
     try clear c67
     try clear c67b0
     try clear c68
     try clear c68b0
     try clear c69
     try clear c69b0
     try clear c70
     try clear c70b0
     try clear c72
     try clear c72b0
     try clear c73
     try clear c73b0
     try clear c74
     try clear c74b0
     try clear c76
     try clear c77
     try clear c78
     try clear c80
     try clear c81
     try clear c83
     try clear c86
     try clear c87
     try clear c88
     try clear c90
     try clear c91
     try clear c93
     try clear c93b0
     try clear c95
     try clear c95b0
     try clear c96
     try clear c96b0
     try clear c97
     try clear c97b0
     try clear c99
     try clear c100
     try clear c101
     try clear c103
     try clear c104
     try clear c106
     try clear c109
     try clear c110
     try clear c111
     try clear c113
     try clear c114
     try clear c116
     try clear c117
     try clear c119
     try clear c121
     try clear c121b0
     try clear c121b1
     try clear c123
     try clear c125
     try clear c132
     try clear c133
     try clear c144
     try clear c146
     try clear c146b0
     try clear c146b1
     try clear c147
     try clear c150
     try clear hcz102_0
     try clear hcz102_1
     try clear hcz102_2
     try clear hcz102_3
     try clear hcz105_0
     try clear hcz105_1
     try clear hcz105_2
     try clear hcz105_3
     try clear hcz107_0
     try clear hcz107_1
     try clear hcz107_2
     try clear hcz107_3
     try clear hcz10_0
     try clear hcz10_1
     try clear hcz10_2
     try clear hcz10_3
     try clear hcz112_0
     try clear hcz112_1
     try clear hcz112_2
     try clear hcz112_3
     try clear hcz115_0
     try clear hcz115_1
     try clear hcz115_2
     try clear hcz115_3
     try clear hcz118_0
     try clear hcz118_1
     try clear hcz118_2
     try clear hcz118_3
     try clear hcz120_0
     try clear hcz120_1
     try clear hcz120_2
     try clear hcz120_3
     try clear hcz126_0
     try clear hcz126_1
     try clear hcz126_2
     try clear hcz126_3
     try clear hcz127_0
     try clear hcz127_1
     try clear hcz127_2
     try clear hcz127_3
     try clear hcz134_0
     try clear hcz134_1
     try clear hcz134_2
     try clear hcz134_3
     try clear hcz135_0
     try clear hcz135_1
     try clear hcz135_2
     try clear hcz135_3
     try clear hcz139_0
     try clear hcz139_1
     try clear hcz139_2
     try clear hcz139_3
     try clear hcz145_0
     try clear hcz145_1
     try clear hcz145_2
     try clear hcz145_3
     try clear hcz148_0
     try clear hcz148_1
     try clear hcz148_2
     try clear hcz148_3
     try clear hcz151_0
     try clear hcz151_1
     try clear hcz151_2
     try clear hcz151_3
     try clear hcz152_0
     try clear hcz152_1
     try clear hcz152_2
     try clear hcz152_3
     try clear hcz19_0
     try clear hcz19_1
     try clear hcz19_2
     try clear hcz19_3
     try clear hcz20_0
     try clear hcz20_1
     try clear hcz20_2
     try clear hcz20_3
     try clear hcz27_0
     try clear hcz27_1
     try clear hcz27_2
     try clear hcz27_3
     try clear hcz31_0
     try clear hcz31_1
     try clear hcz31_2
     try clear hcz31_3
     try clear hcz33_0
     try clear hcz33_1
     try clear hcz33_2
     try clear hcz33_3
     try clear hcz37_0
     try clear hcz37_1
     try clear hcz37_2
     try clear hcz37_3
     try clear hcz39_0
     try clear hcz39_1
     try clear hcz39_2
     try clear hcz39_3
     try clear hcz43_0
     try clear hcz43_1
     try clear hcz43_2
     try clear hcz43_3
     try clear hcz45_0
     try clear hcz45_1
     try clear hcz45_2
     try clear hcz45_3
     try clear hcz50_0
     try clear hcz50_1
     try clear hcz50_2
     try clear hcz50_3
     try clear hcz52_0
     try clear hcz52_1
     try clear hcz52_2
     try clear hcz52_3
     try clear hcz53_0
     try clear hcz53_1
     try clear hcz53_2
     try clear hcz53_3
     try clear hcz57_0
     try clear hcz57_1
     try clear hcz57_2
     try clear hcz57_3
     try clear hcz59_0
     try clear hcz59_1
     try clear hcz59_2
     try clear hcz59_3
     try clear hcz60_0
     try clear hcz60_1
     try clear hcz60_2
     try clear hcz60_3
     try clear hcz64_0
     try clear hcz64_1
     try clear hcz64_2
     try clear hcz64_3
     try clear hcz79_0
     try clear hcz79_1
     try clear hcz79_2
     try clear hcz79_3
     try clear hcz82_0
     try clear hcz82_1
     try clear hcz82_2
     try clear hcz82_3
     try clear hcz84_0
     try clear hcz84_1
     try clear hcz84_2
     try clear hcz84_3
     try clear hcz89_0
     try clear hcz89_1
     try clear hcz89_2
     try clear hcz89_3
     try clear hcz92_0
     try clear hcz92_1
     try clear hcz92_2
     try clear hcz92_3
     try clear hfz102_0
     try clear hfz102_1
     try clear hfz102_2
     try clear hfz102_3
     try clear hfz105_0
     try clear hfz105_1
     try clear hfz105_2
     try clear hfz105_3
     try clear hfz107_0
     try clear hfz107_1
     try clear hfz107_2
     try clear hfz107_3
     try clear hfz10_0
     try clear hfz10_1
     try clear hfz10_2
     try clear hfz10_3
     try clear hfz112_0
     try clear hfz112_1
     try clear hfz112_2
     try clear hfz112_3
     try clear hfz115_0
     try clear hfz115_1
     try clear hfz115_2
     try clear hfz115_3
     try clear hfz118_0
     try clear hfz118_1
     try clear hfz118_2
     try clear hfz118_3
     try clear hfz120_0
     try clear hfz120_1
     try clear hfz120_2
     try clear hfz120_3
     try clear hfz126_0
     try clear hfz126_1
     try clear hfz126_2
     try clear hfz126_3
     try clear hfz127_0
     try clear hfz127_1
     try clear hfz127_2
     try clear hfz127_3
     try clear hfz134_0
     try clear hfz134_1
     try clear hfz134_2
     try clear hfz134_3
     try clear hfz135_0
     try clear hfz135_1
     try clear hfz135_2
     try clear hfz135_3
     try clear hfz139_0
     try clear hfz139_1
     try clear hfz139_2
     try clear hfz139_3
     try clear hfz145_0
     try clear hfz145_1
     try clear hfz145_2
     try clear hfz145_3
     try clear hfz148_0
     try clear hfz148_1
     try clear hfz148_2
     try clear hfz148_3
     try clear hfz151_0
     try clear hfz151_1
     try clear hfz151_2
     try clear hfz151_3
     try clear hfz152_0
     try clear hfz152_1
     try clear hfz152_2
     try clear hfz152_3
     try clear hfz19_0
     try clear hfz19_1
     try clear hfz19_2
     try clear hfz19_3
     try clear hfz20_0
     try clear hfz20_1
     try clear hfz20_2
     try clear hfz20_3
     try clear hfz27_0
     try clear hfz27_1
     try clear hfz27_2
     try clear hfz27_3
     try clear hfz31_0
     try clear hfz31_1
     try clear hfz31_2
     try clear hfz31_3
     try clear hfz33_0
     try clear hfz33_1
     try clear hfz33_2
     try clear hfz33_3
     try clear hfz37_0
     try clear hfz37_1
     try clear hfz37_2
     try clear hfz37_3
     try clear hfz39_0
     try clear hfz39_1
     try clear hfz39_2
     try clear hfz39_3
     try clear hfz43_0
     try clear hfz43_1
     try clear hfz43_2
     try clear hfz43_3
     try clear hfz45_0
     try clear hfz45_1
     try clear hfz45_2
     try clear hfz45_3
     try clear hfz50_0
     try clear hfz50_1
     try clear hfz50_2
     try clear hfz50_3
     try clear hfz52_0
     try clear hfz52_1
     try clear hfz52_2
     try clear hfz52_3
     try clear hfz53_0
     try clear hfz53_1
     try clear hfz53_2
     try clear hfz53_3
     try clear hfz57_0
     try clear hfz57_1
     try clear hfz57_2
     try clear hfz57_3
     try clear hfz59_0
     try clear hfz59_1
     try clear hfz59_2
     try clear hfz59_3
     try clear hfz60_0
     try clear hfz60_1
     try clear hfz60_2
     try clear hfz60_3
     try clear hfz64_0
     try clear hfz64_1
     try clear hfz64_2
     try clear hfz64_3
     try clear hfz79_0
     try clear hfz79_1
     try clear hfz79_2
     try clear hfz79_3
     try clear hfz82_0
     try clear hfz82_1
     try clear hfz82_2
     try clear hfz82_3
     try clear hfz84_0
     try clear hfz84_1
     try clear hfz84_2
     try clear hfz84_3
     try clear hfz89_0
     try clear hfz89_1
     try clear hfz89_2
     try clear hfz89_3
     try clear hfz92_0
     try clear hfz92_1
     try clear hfz92_2
     try clear hfz92_3
     try clear hx468_0
     try clear hx468_1
     try clear hx468_2
     try clear hx468_3
     try clear hx480_0
     try clear hx480_1
     try clear hx480_2
     try clear hx480_3
     try clear hx482_0
     try clear hx482_1
     try clear hx482_2
     try clear hx482_3
     try clear hx483_0
     try clear hx483_1
     try clear hx483_2
     try clear hx483_3
     try clear hx484_0
     try clear hx484_1
     try clear hx484_2
     try clear hx484_3
     try clear p2
     try clear p4
     try clear p46
     try clear p468
     try clear p480
     try clear p482
     try clear p483
     try clear p484
     try clear p6
     try clear p64
     try clear q4
     try clear q46
     try clear q468
     try clear q480
     try clear q482
     try clear q483
     try clear q484
     try clear q7
     obtain ⟨kq,x133_137,rfl,HA,HJ137,HO_468000,HO_492000,BK467,BK491,HB⟩:=hcut
     cases kq with
     | zero => exact absurd HA.out (by simp [ratlinelaw09_EditGrows.j3])
     | succ kj137 =>
      have H:=HA.out
      clear HA
      simp only [ratlinelaw09_EditGrows.j3] at H
      by_cases c154 : x133_137 = true
      ·subst c154
       have H1 : ((ratlinelaw09_awake.f).bind fun t493 => (some t493)) = some r:=by rw [if_pos rfl] at H;exact H
       clear H
       have H:=H1
       clear H1
       replace H:=Option.bind_eq_some_iff.mp H
       obtain ⟨t493,A1550,H⟩:=H
       replace H : (some t493) = some r:=H
       have A155:=Aside0.mk A1550
       clear A1550
       obtain rfl:=Option.some.inj H
       go_wp2_with (first|(go_at_call 31;(with_reducible refine (ratlinelaw09_awake.calls  t493 _ A155.out).mono ?_);rintro e w156 ⟨rfl,hb⟩;have n0_:=Aside0.mk (Kd.R_below (by (with_reducible repeat (first|apply zA|apply zN|apply zD));exact HO_468000.out) hb);have n1_:=Aside0.mk (Kd.R_below (by (with_reducible repeat (first|apply zA|apply zN|apply zD));exact HO_492000.out) hb);have n2_:=Aside0.mk (blk_below (g:=gb467) (o:=.cells #[.slice Ao140 x468000_1.length co140,.int .u64 x468001_1,.int .u64 x468002_1,.int .u64 x468003_1] 57 (0,0)) (by (with_reducible repeat (first|refine bN ?_ _|refine bD ?_|refine bA ?_ _));exact BK467.out) hb);have n3_:=Aside0.mk (blk_below (g:=gb491) (o:=.cells #[.slice Ao143 t485.length co143,.int .u64 t488,.int .u64 t489,.int .u64 t490] 54 (0,0)) (by (with_reducible repeat (first|refine bN ?_ _|refine bD ?_|refine bA ?_ _));exact BK491.out) hb);have n4_:=Aside0.mk (below_step (by repeat (first|(with_reducible first|exact HB.out|apply below_alloc|apply pw_below_drewN|apply below_drew1|refine below_set ?_ GE467.out|refine below_set ?_ GE491.out)|exact HB.out)) hb);clear HO_468000;clear HO_492000;clear BK467;clear BK491;clear HB;have HO_468000:=n0_;have HO_492000:=n1_;have BK467:=n2_;have BK491:=n3_;have HB:=n4_;clear n0_ n1_ n2_ n3_ n4_;(try clear hb);(try clear hb2);(try clear hk);(try clear hi);(try apply_assumption)))
       repeat (go_quiet (fail);try go_wp2)
       go_ret
       exact ⟨by first|rfl|(simp [errW_none,errW_some] <;> rfl)|(simp only [← hji2];first|rfl|(simp [errW_none,errW_some] <;> rfl))|(simp [*,errW_none,errW_some] <;> rfl),by repeat (first|(with_reducible first|exact HB.out|apply below_alloc|apply pw_below_drewN|apply below_drew1|refine below_set ?_ GE467.out|refine below_set ?_ GE491.out)|exact HB.out)⟩
      ·replace c154:=Bool.eq_false_iff.mpr c154
       subst c154
       have H1 : ((edit_Apply.f ([] : List (S62)) 0 0 0 t485 t488 t489 t490).bind fun bt494 => (if bt494.2.2.2.2 = 0 then ((ratlinelaw09_Versions.f kj137 bt494.1 bt494.2.1 bt494.2.2.1 bt494.2.2.2.1 x468000_1 x468001_1 x468002_1 x468003_1).bind fun t502 => (if t502 = true then ((ratlinelaw09_awake.f).bind fun t503 => (some t503)) else (none))) else (none))) = some r:=by rw [if_neg (show ¬ (false = true) by decide)] at H;exact H
       clear H
       have H:=H1
       clear H1
       replace H:=Option.bind_eq_some_iff.mp H
       obtain ⟨⟨t494,t497,t498,t499,t500⟩,A1570,H⟩:=H
       replace H : (if t500 = 0 then ((ratlinelaw09_Versions.f kj137 t494 t497 t498 t499 x468000_1 x468001_1 x468002_1 x468003_1).bind fun t502 => (if t502 = true then ((ratlinelaw09_awake.f).bind fun t503 => (some t503)) else (none))) else (none)) = some r:=H
       have A157:=Aside0.mk A1570
       clear A1570
       by_cases c158 : t500 = 0
       rotate_left
       ·rw [if_neg c158] at H
        exact absurd H (by simp)
       rw [if_pos c158] at H
       have c158b0 : (t500 == 0) = true:=beq_iff_eq.mpr c158
       have c158b1 : (t500 != 0) = false:=bne_eq_false_iff_eq.mpr c158
       clear c158
       replace H:=Option.bind_eq_some_iff.mp H
       obtain ⟨t502,A1590,H⟩:=H
       replace H : (if t502 = true then ((ratlinelaw09_awake.f).bind fun t503 => (some t503)) else (none)) = some r:=H
       have A159:=Aside0.mk A1590
       clear A1590
       by_cases c160 : t502 = true
       ·subst c160
        have H1 : ((ratlinelaw09_awake.f).bind fun t503 => (some t503)) = some r:=by rw [if_pos rfl] at H;exact H
        clear H
        have H:=H1
        clear H1
        replace H:=Option.bind_eq_some_iff.mp H
        obtain ⟨t503,A1610,H⟩:=H
        replace H : (some t503) = some r:=H
        have A161:=Aside0.mk A1610
        clear A1610
        obtain rfl:=Option.some.inj H
        have hnb162:=NB491_467.out
        have hnc162:=NB467_491.out
        have hcz163_0 : wc.cell? ⟨gb491,0,none⟩ = some (.slice Ao143 t485.length co143):=(blk_cell BK491.out 0).trans rfl
        have hcz163_1 : wc.cell? ⟨gb491,1,none⟩ = some (.int .u64 t488):=(blk_cell BK491.out 1).trans rfl
        have hcz163_2 : wc.cell? ⟨gb491,2,none⟩ = some (.int .u64 t489):=(blk_cell BK491.out 2).trans rfl
        have hcz163_3 : wc.cell? ⟨gb491,3,none⟩ = some (.int .u64 t490):=(blk_cell BK491.out 3).trans rfl
        have hfz163_0:=blk_frozen BK491.out 0
        have hfz163_1:=blk_frozen BK491.out 1
        have hfz163_2:=blk_frozen BK491.out 2
        have hfz163_3:=blk_frozen BK491.out 3
        go_wp2_with (first|(go_at_call 32;(refine calls_of_args (args':=#[.agg #[.slice none (([] : List (S62))).length 0,.int .u64 0,.int .u64 0,.int .u64 0],.agg #[.slice Ao143 t485.length co143,.int .u64 t488,.int .u64 t489,.int .u64 t490]]) (by rfl) ?_;with_reducible refine (edit_Apply.calls _ _ ([] : List (S62)) 0 0 0 _ _ t485 t488 t489 t490 t494 t497 t498 t499 t500 _ ?side1 ?side2 ?side3 ?side4 A157.out).mono ?_);(case side1 => exact Kd.C_nil _ _);(case side2 => exact Nat.le_refl _);(case side3 => repeat (first|exact (Kd.R_reads' HO_492000.out).2.2|(with_reducible refine Kd.C_alloc ?_ _)|(with_reducible refine Kd.C_drewN ?_ _)|(with_reducible refine Kd.C_drew ?_)));(case side4 => exact (Kd.R_reads' HO_492000.out).2.1);rintro e w164 ⟨v495,rfl,ho0,hb⟩;have n0_:=Aside0.mk (Kd.R_elder' (by (with_reducible repeat (first|apply zA|apply zN|apply zD));exact HO_468000.out) (Kd.R_base ho0) hb);have n1_:=Aside0.mk (Kd.R_elder' (by (with_reducible repeat (first|apply zA|apply zN|apply zD));exact HO_492000.out) (Kd.R_base ho0) hb);have n2_:=Aside0.mk (Kd.R_lower (Kd.R_new' (Kd.R_new' ho0 (Kd.R_lt (by (with_reducible repeat (first|apply zA|apply zN|apply zD));exact HO_468000.out))) (Kd.R_lt (by (with_reducible repeat (first|apply zA|apply zN|apply zD));exact HO_492000.out))) (below_size (by repeat (first|(with_reducible first|exact HB.out|apply below_alloc|apply pw_below_drewN|apply below_drew1|refine below_set ?_ GE467.out|refine below_set ?_ GE491.out)|exact HB.out))));have n3_:=Aside0.mk (blk_below (g:=gb467) (o:=.cells #[.slice Ao140 x468000_1.length co140,.int .u64 x468001_1,.int .u64 x468002_1,.int .u64 x468003_1] 57 (0,0)) (by (with_reducible repeat (first|refine bN ?_ _|refine bD ?_|refine bA ?_ _));exact BK467.out) hb);have n4_:=Aside0.mk (blk_below (g:=gb491) (o:=.cells #[.slice Ao143 t485.length co143,.int .u64 t488,.int .u64 t489,.int .u64 t490] 54 (0,0)) (by (with_reducible repeat (first|refine bN ?_ _|refine bD ?_|refine bA ?_ _));exact BK491.out) hb);have n5_:=Aside0.mk (below_step (by repeat (first|(with_reducible first|exact HB.out|apply below_alloc|apply pw_below_drewN|apply below_drew1|refine below_set ?_ GE467.out|refine below_set ?_ GE491.out)|exact HB.out)) hb);clear HO_468000;clear HO_492000;clear BK467;clear BK491;clear HB;have HO_468000:=n0_;have HO_492000:=n1_;have HO496:=n2_;have BK467:=n3_;have BK491:=n4_;have HB:=n5_;clear n0_ n1_ n2_ n3_ n4_ n5_;(try clear hb);(try clear hb2);(try clear hk);(try clear hi);(try clear ho0))|((with_reducible refine gate_dst (N:=11) rfl ?_);(try (refine gate_guard (by rfl) ?_;dsimp only));refine box_event ?hg (N:=11) ?hd (cs:=#[.slice none 0 0,.int .u64 0,.int .u64 0,.int .u64 0]) (t:=57) ?hr ?_;(case hd => rfl);(case hg => rfl);(case hr => first|(go_simp;done)|(go_simp;rfl));intro gb501 hg w165 hbox hb;have n0_:=Aside0.mk (Kd.R_below (by (with_reducible repeat (first|apply zA|apply zN|apply zD));exact HO_468000.out) hb);have n1_:=Aside0.mk (Kd.R_below (by (with_reducible repeat (first|apply zA|apply zN|apply zD));exact HO_492000.out) hb);have n2_:=Aside0.mk (Kd.R_below (by (with_reducible repeat (first|apply zA|apply zN|apply zD));exact HO496.out) hb);have n3_:=Aside0.mk (blk_below (g:=gb467) (o:=.cells #[.slice Ao140 x468000_1.length co140,.int .u64 x468001_1,.int .u64 x468002_1,.int .u64 x468003_1] 57 (0,0)) (by (with_reducible repeat (first|refine bN ?_ _|refine bD ?_|refine bA ?_ _));exact BK467.out) hb);have n4_:=Aside0.mk (blk_below (g:=gb491) (o:=.cells #[.slice Ao143 t485.length co143,.int .u64 t488,.int .u64 t489,.int .u64 t490] 54 (0,0)) (by (with_reducible repeat (first|refine bN ?_ _|refine bD ?_|refine bA ?_ _));exact BK491.out) hb);have n5_:=Aside0.mk (below_step (by repeat (first|(with_reducible first|exact HB.out|apply below_alloc|apply pw_below_drewN|apply below_drew1|refine below_set ?_ GE467.out|refine below_set ?_ GE491.out)|exact HB.out)) hb);have n6_:=Aside0.mk (hbox);have n7_:=Aside0.mk ((by rw [hg];exact (below_size (by repeat (first|(with_reducible first|exact HB.out|apply below_alloc|apply pw_below_drewN|apply below_drew1|refine below_set ?_ GE467.out|refine below_set ?_ GE491.out)|exact HB.out))) : w.heap.size ≤ gb501));have n8_:=Aside0.mk ((by rw [hg];exact (below_size (by repeat (first|(with_reducible first|exact HB.out|apply below_alloc|apply pw_below_drewN|apply below_drew1|refine below_set ?_ GE467.out|refine below_set ?_ GE491.out)|exact HB.out))) : w.heap.size ≤ gb501));have n9_:=Aside0.mk ((by rw [hg];exact Nat.ne_of_lt (blk_lt (g:=gb467) (o:=.cells #[.slice Ao140 x468000_1.length co140,.int .u64 x468001_1,.int .u64 x468002_1,.int .u64 x468003_1] 57 (0,0)) (by (with_reducible repeat (first|refine bN ?_ _|refine bD ?_|refine bA ?_ _));exact BK467.out)) : gb467 ≠ gb501));have n10_:=Aside0.mk ((by rw [hg];exact Nat.ne_of_gt (blk_lt (g:=gb467) (o:=.cells #[.slice Ao140 x468000_1.length co140,.int .u64 x468001_1,.int .u64 x468002_1,.int .u64 x468003_1] 57 (0,0)) (by (with_reducible repeat (first|refine bN ?_ _|refine bD ?_|refine bA ?_ _));exact BK467.out)) : gb501 ≠ gb467));have n11_:=Aside0.mk ((by rw [hg];exact Nat.ne_of_lt (blk_lt (g:=gb491) (o:=.cells #[.slice Ao143 t485.length co143,.int .u64 t488,.int .u64 t489,.int .u64 t490] 54 (0,0)) (by (with_reducible repeat (first|refine bN ?_ _|refine bD ?_|refine bA ?_ _));exact BK491.out)) : gb491 ≠ gb501));have n12_:=Aside0.mk ((by rw [hg];exact Nat.ne_of_gt (blk_lt (g:=gb491) (o:=.cells #[.slice Ao143 t485.length co143,.int .u64 t488,.int .u64 t489,.int .u64 t490] 54 (0,0)) (by (with_reducible repeat (first|refine bN ?_ _|refine bD ?_|refine bA ?_ _));exact BK491.out)) : gb501 ≠ gb491));clear HO_468000;clear HO_492000;clear HO496;clear BK467;clear BK491;clear HB;have HO_468000:=n0_;have HO_492000:=n1_;have HO496:=n2_;have BK467:=n3_;have BK491:=n4_;have HB:=n5_;have BK501:=n6_;have GW501:=n7_;have GE501:=n8_;have NB467_501:=n9_;have NB501_467:=n10_;have NB491_501:=n11_;have NB501_491:=n12_;clear n0_ n1_ n2_ n3_ n4_ n5_ n6_ n7_ n8_ n9_ n10_ n11_ n12_;clear hb hbox hg;obtain ⟨Ao166,co166,eo166⟩:=Kd.R_slice HO496.out;subst eo166;have hnb167:=NB501_467.out;have hnc167:=NB467_501.out;have hnb168:=NB501_491.out;have hnc168:=NB491_501.out;have hcz169_0 : w165.cell? ⟨gb501,0,none⟩ = some (.slice none 0 0):=(blk_cell BK501.out 0).trans rfl;have hcz169_1 : w165.cell? ⟨gb501,1,none⟩ = some (.int .u64 0):=(blk_cell BK501.out 1).trans rfl;have hcz169_2 : w165.cell? ⟨gb501,2,none⟩ = some (.int .u64 0):=(blk_cell BK501.out 2).trans rfl;have hcz169_3 : w165.cell? ⟨gb501,3,none⟩ = some (.int .u64 0):=(blk_cell BK501.out 3).trans rfl;have hfz169_0:=blk_frozen BK501.out 0;have hfz169_1:=blk_frozen BK501.out 1;have hfz169_2:=blk_frozen BK501.out 2;have hfz169_3:=blk_frozen BK501.out 3;have hcz170_0 : w165.cell? ⟨gb467,0,none⟩ = some (.slice Ao140 x468000_1.length co140):=(blk_cell BK467.out 0).trans rfl;have hcz170_1 : w165.cell? ⟨gb467,1,none⟩ = some (.int .u64 x468001_1):=(blk_cell BK467.out 1).trans rfl;have hcz170_2 : w165.cell? ⟨gb467,2,none⟩ = some (.int .u64 x468002_1):=(blk_cell BK467.out 2).trans rfl;have hcz170_3 : w165.cell? ⟨gb467,3,none⟩ = some (.int .u64 x468003_1):=(blk_cell BK467.out 3).trans rfl;have hfz170_0:=blk_frozen BK467.out 0;have hfz170_1:=blk_frozen BK467.out 1;have hfz170_2:=blk_frozen BK467.out 2;have hfz170_3:=blk_frozen BK467.out 3)|(go_at_call 44;(with_reducible refine (ratlinelaw09_Versions.calls kj137 _ _ t494 t497 t498 t499 _ _ x468000_1 x468001_1 x468002_1 x468003_1 true _ ?side1 ?side2 ?side3 ?side4 A159.out).mono ?_);(case side1 => refine (Kd.R_reads' (e:=62) (base:=w.heap.size) (ok:=fun k_ => ((True ∧ nB k_ Ao140 x468000_1.length co140) ∧ nB k_ Ao143 t485.length co143)) (n:=t494.length) (c:=co166) ?_).2.2;exact (by (with_reducible repeat (first|apply zA|apply zN|apply zD));exact (Kd.R_mono (Kd.R_far (p:=⟨gb501,3,none⟩) (Kd.R_far (p:=⟨gb501,2,none⟩) (Kd.R_far (p:=⟨gb501,1,none⟩) (Kd.R_far (p:=⟨gb501,0,none⟩) (Kd.R_types HO496.out BK501.out (by decide)) (fun _ hk => hk.2) (.slice Ao166 t494.length co166)) (fun _ hk => hk.2) (.int .u64 t497)) (fun _ hk => hk.2) (.int .u64 t498)) (fun _ hk => hk.2) (.int .u64 t499)) (fun _ h_ => h_.1))));(case side2 => exact (Kd.R_reads' HO496.out).2.1);(case side3 => refine (Kd.R_reads' (e:=62) (base:=w.heap.size) (ok:=fun k_ => (nB k_ Ao143 t485.length co143 ∧ nB k_ Ao166 t494.length co166)) (n:=x468000_1.length) (c:=co140) ?_).2.2;exact (by (with_reducible repeat (first|apply zA|apply zN|apply zD));exact (Kd.R_mono (Kd.R_far (p:=⟨gb501,3,none⟩) (Kd.R_far (p:=⟨gb501,2,none⟩) (Kd.R_far (p:=⟨gb501,1,none⟩) (Kd.R_far (p:=⟨gb501,0,none⟩) (Kd.R_types HO_468000.out BK501.out (by decide)) (fun _ hk => hk.2) (.slice Ao166 t494.length co166)) (fun _ hk => hk.2) (.int .u64 t497)) (fun _ hk => hk.2) (.int .u64 t498)) (fun _ hk => hk.2) (.int .u64 t499)) (fun _ h_ => h_.1))));(case side4 => exact (Kd.R_reads' HO_468000.out).2.1);rintro e w171 ⟨rfl,hb⟩;have n0_:=Aside0.mk (Kd.R_below (by (with_reducible repeat (first|apply zA|apply zN|apply zD));exact (Kd.R_mono (Kd.R_far (p:=⟨gb501,3,none⟩) (Kd.R_far (p:=⟨gb501,2,none⟩) (Kd.R_far (p:=⟨gb501,1,none⟩) (Kd.R_far (p:=⟨gb501,0,none⟩) (Kd.R_types HO_468000.out BK501.out (by decide)) (fun _ hk => hk.2) (.slice Ao166 t494.length co166)) (fun _ hk => hk.2) (.int .u64 t497)) (fun _ hk => hk.2) (.int .u64 t498)) (fun _ hk => hk.2) (.int .u64 t499)) (fun _ h_ => h_.1))) hb);have n1_:=Aside0.mk (Kd.R_below (by (with_reducible repeat (first|apply zA|apply zN|apply zD));exact (Kd.R_mono (Kd.R_far (p:=⟨gb501,3,none⟩) (Kd.R_far (p:=⟨gb501,2,none⟩) (Kd.R_far (p:=⟨gb501,1,none⟩) (Kd.R_far (p:=⟨gb501,0,none⟩) (Kd.R_types HO_492000.out BK501.out (by decide)) (fun _ hk => hk.2) (.slice Ao166 t494.length co166)) (fun _ hk => hk.2) (.int .u64 t497)) (fun _ hk => hk.2) (.int .u64 t498)) (fun _ hk => hk.2) (.int .u64 t499)) (fun _ h_ => h_.1))) hb);have n2_:=Aside0.mk (Kd.R_below (by (with_reducible repeat (first|apply zA|apply zN|apply zD));exact (Kd.R_mono (Kd.R_far (p:=⟨gb501,3,none⟩) (Kd.R_far (p:=⟨gb501,2,none⟩) (Kd.R_far (p:=⟨gb501,1,none⟩) (Kd.R_far (p:=⟨gb501,0,none⟩) (Kd.R_types HO496.out BK501.out (by decide)) (fun _ hk => hk.2) (.slice Ao166 t494.length co166)) (fun _ hk => hk.2) (.int .u64 t497)) (fun _ hk => hk.2) (.int .u64 t498)) (fun _ hk => hk.2) (.int .u64 t499)) (fun _ h_ => h_.1))) hb);have n3_:=Aside0.mk (blk_below (g:=gb467) (o:=.cells #[.slice Ao140 x468000_1.length co140,.int .u64 x468001_1,.int .u64 x468002_1,.int .u64 x468003_1] 57 (0,0)) (by (with_reducible repeat (first|refine bN ?_ _|refine bD ?_|refine bA ?_ _));refine blk_far ?_ NB467_501.out _;(with_reducible repeat (first|refine bN ?_ _|refine bD ?_|refine bA ?_ _));refine blk_far ?_ NB467_501.out _;(with_reducible repeat (first|refine bN ?_ _|refine bD ?_|refine bA ?_ _));refine blk_far ?_ NB467_501.out _;(with_reducible repeat (first|refine bN ?_ _|refine bD ?_|refine bA ?_ _));refine blk_far ?_ NB467_501.out _;(with_reducible repeat (first|refine bN ?_ _|refine bD ?_|refine bA ?_ _));exact BK467.out) hb);have n4_:=Aside0.mk (blk_below (g:=gb491) (o:=.cells #[.slice Ao143 t485.length co143,.int .u64 t488,.int .u64 t489,.int .u64 t490] 54 (0,0)) (by (with_reducible repeat (first|refine bN ?_ _|refine bD ?_|refine bA ?_ _));refine blk_far ?_ NB491_501.out _;(with_reducible repeat (first|refine bN ?_ _|refine bD ?_|refine bA ?_ _));refine blk_far ?_ NB491_501.out _;(with_reducible repeat (first|refine bN ?_ _|refine bD ?_|refine bA ?_ _));refine blk_far ?_ NB491_501.out _;(with_reducible repeat (first|refine bN ?_ _|refine bD ?_|refine bA ?_ _));refine blk_far ?_ NB491_501.out _;(with_reducible repeat (first|refine bN ?_ _|refine bD ?_|refine bA ?_ _));exact BK491.out) hb);have n5_:=Aside0.mk (blk_below (g:=gb501) (o:=.cells #[.slice Ao166 t494.length co166,.int .u64 t497,.int .u64 t498,.int .u64 t499] 57 (0,0)) (by (with_reducible repeat (first|refine bN ?_ _|refine bD ?_|refine bA ?_ _));refine blk_put (cs:=#[.slice Ao166 t494.length co166,.int .u64 t497,.int .u64 t498,.int .u64 0]) ?_ 3 _ rfl;(with_reducible repeat (first|refine bN ?_ _|refine bD ?_|refine bA ?_ _));refine blk_put (cs:=#[.slice Ao166 t494.length co166,.int .u64 t497,.int .u64 0,.int .u64 0]) ?_ 2 _ rfl;(with_reducible repeat (first|refine bN ?_ _|refine bD ?_|refine bA ?_ _));refine blk_put (cs:=#[.slice Ao166 t494.length co166,.int .u64 0,.int .u64 0,.int .u64 0]) ?_ 1 _ rfl;(with_reducible repeat (first|refine bN ?_ _|refine bD ?_|refine bA ?_ _));refine blk_put (cs:=#[.slice none 0 0,.int .u64 0,.int .u64 0,.int .u64 0]) ?_ 0 _ rfl;(with_reducible repeat (first|refine bN ?_ _|refine bD ?_|refine bA ?_ _));exact BK501.out) hb);have n6_:=Aside0.mk (below_step (by repeat (first|(with_reducible first|exact HB.out|apply below_alloc|apply pw_below_drewN|apply below_drew1|refine below_set ?_ GE467.out|refine below_set ?_ GE491.out|refine below_set ?_ GE501.out)|exact HB.out)) hb);clear HO_468000;clear HO_492000;clear HO496;clear BK467;clear BK491;clear BK501;clear HB;have HO_468000:=n0_;have HO_492000:=n1_;have HO496:=n2_;have BK467:=n3_;have BK491:=n4_;have BK501:=n5_;have HB:=n6_;clear n0_ n1_ n2_ n3_ n4_ n5_ n6_;(try clear hb);(try clear hb2);(try clear hk);(try clear hi))|(go_at_call 31;(with_reducible refine (ratlinelaw09_awake.calls  t503 _ A161.out).mono ?_);rintro e w172 ⟨rfl,hb⟩;have n0_:=Aside0.mk (Kd.R_below (by (with_reducible repeat (first|apply zA|apply zN|apply zD));exact HO_468000.out) hb);have n1_:=Aside0.mk (Kd.R_below (by (with_reducible repeat (first|apply zA|apply zN|apply zD));exact HO_492000.out) hb);have n2_:=Aside0.mk (Kd.R_below (by (with_reducible repeat (first|apply zA|apply zN|apply zD));exact HO496.out) hb);have n3_:=Aside0.mk (blk_below (g:=gb467) (o:=.cells #[.slice Ao140 x468000_1.length co140,.int .u64 x468001_1,.int .u64 x468002_1,.int .u64 x468003_1] 57 (0,0)) (by (with_reducible repeat (first|refine bN ?_ _|refine bD ?_|refine bA ?_ _));exact BK467.out) hb);have n4_:=Aside0.mk (blk_below (g:=gb491) (o:=.cells #[.slice Ao143 t485.length co143,.int .u64 t488,.int .u64 t489,.int .u64 t490] 54 (0,0)) (by (with_reducible repeat (first|refine bN ?_ _|refine bD ?_|refine bA ?_ _));exact BK491.out) hb);have n5_:=Aside0.mk (blk_below (g:=gb501) (o:=.cells #[.slice Ao166 t494.length co166,.int .u64 t497,.int .u64 t498,.int .u64 t499] 57 (0,0)) (by (with_reducible repeat (first|refine bN ?_ _|refine bD ?_|refine bA ?_ _));exact BK501.out) hb);have n6_:=Aside0.mk (below_step (by repeat (first|(with_reducible first|exact HB.out|apply below_alloc|apply pw_below_drewN|apply below_drew1|refine below_set ?_ GE467.out|refine below_set ?_ GE491.out|refine below_set ?_ GE501.out)|exact HB.out)) hb);clear HO_468000;clear HO_492000;clear HO496;clear BK467;clear BK491;clear BK501;clear HB;have HO_468000:=n0_;have HO_492000:=n1_;have HO496:=n2_;have BK467:=n3_;have BK491:=n4_;have BK501:=n5_;have HB:=n6_;clear n0_ n1_ n2_ n3_ n4_ n5_ n6_;(try clear hb);(try clear hb2);(try clear hk);(try clear hi)))
        repeat (go_quiet (fail);try go_wp2)
        go_ret
        exact ⟨by first|rfl|(simp [errW_none,errW_some] <;> rfl)|(simp only [← hji2];first|rfl|(simp [errW_none,errW_some] <;> rfl))|(simp [*,errW_none,errW_some] <;> rfl),by repeat (first|(with_reducible first|exact HB.out|apply below_alloc|apply pw_below_drewN|apply below_drew1|refine below_set ?_ GE467.out|refine below_set ?_ GE491.out|refine below_set ?_ GE501.out)|exact HB.out)⟩
       ·replace c160:=Bool.eq_false_iff.mpr c160
        subst c160
        have H1 : (none) = some r:=by rw [if_neg (show ¬ (false = true) by decide)] at H;exact H
        clear H
        have H:=H1
        clear H1
        exact absurd H (by simp)
end Go.Proofs.Ytlaihdipagejfaa.P

end

section
set_option linter.unusedVariables false
set_option linter.unusedSimpArgs false
namespace Go.Proofs.YtlaihdipagejfaaL
open Go Go.RowKit Go.Proofs.YtlaihdipagejfaaG Go.Proofs.Ytlaihdipagejfaa.P Go.Proofs.YtlaihdipagejfaaW.PrintWords Go.Proofs.YtlaihdipagejfaaW.PrintMore

abbrev EdS := S54
theorem lit_u64 {x : Int} (h : (Lit.int .u64 x).wf = true) : U64 x := by
  simp [Lit.wf, IntKind.min, IntKind.max, IntKind.bits, IntKind.signed] at h
  exact ⟨by omega, by omega⟩
def shortB (m : MetaS) : Bool := decide (m.f2.size ≤ 70) && decide (m.f3.size ≤ 70)
def fewE (e : EdS) : Bool := e.f0.all shortB && decide (e.f0.length ≤ 70)
theorem few_l1 (L : List EdS) (x9 : Int) (l : List MetaS) (a b c : Int) (hl : l.length ≤ 9223372036854775807) (r : Bool) (hc : Ev (fun k => ratlinelaw09_Few.l0 k L (L.length : Int) (wrap64 (x9 + 1))) r) :
    ∀ (n i : Nat), i + n = l.length → Ev (fun k => ratlinelaw09_Few.l1 k L (L.length : Int) x9 l (l.length : Int) i l a b c) ((l.drop i).all shortB && decide (l.length ≤ 70) && r) := by
  intro n
  induction n with
  | zero =>
    intro i hi
    rw [List.drop_eq_nil_of_le (by omega), List.all_nil, Bool.true_and]
    by_cases h : l.length ≤ 70
    · rw [decide_eq_true h, Bool.true_and]
      exact ev_step (fun k => by rw [ratlinelaw09_Few.l1, if_neg (by omega), if_neg (by omega)]) hc
    · rw [decide_eq_false h, Bool.false_and]
      exact ev_of 1 (fun k => by rw [ratlinelaw09_Few.l1, if_neg (by omega), if_pos (by omega)])
  | succ n ih =>
    intro i hi
    have hlt : i < l.length := by omega
    have hr : rd_T62 l (i : Int) = l[i] := getD_at hlt
    have hn := ih (i + 1) (by omega)
    rw [List.drop_eq_getElem_cons hlt, List.all_cons]
    by_cases h2 : (l[i]).f2.size ≤ 70
    · by_cases h3 : (l[i]).f3.size ≤ 70
      · rw [show shortB l[i] = true by unfold shortB; rw [decide_eq_true h2, decide_eq_true h3]; rfl, Bool.true_and]
        exact ev_step (fun k => by rw [ratlinelaw09_Few.l1, if_pos (by omega), if_pos (by omega), if_pos (by omega), hr, if_neg (by omega), if_neg (by omega), up1' (by omega)]) hn
      · rw [show shortB l[i] = false by unfold shortB; rw [decide_eq_true h2, decide_eq_false h3]; rfl, Bool.false_and, Bool.false_and, Bool.false_and]
        exact ev_of 1 (fun k => by rw [ratlinelaw09_Few.l1, if_pos (by omega), if_pos (by omega), if_pos (by omega), hr, if_neg (by omega), if_pos (by omega)])
    · rw [show shortB l[i] = false by unfold shortB; rw [decide_eq_false h2]; rfl, Bool.false_and, Bool.false_and, Bool.false_and]
      exact ev_of 1 (fun k => by rw [ratlinelaw09_Few.l1, if_pos (by omega), if_pos (by omega), if_pos (by omega), hr, if_pos (by omega)])
theorem few_l0 (L : List EdS) (hL : L.length ≤ 1000) (hl : ∀ e ∈ L, e.f0.length ≤ 9223372036854775807) :
    ∀ (n i : Nat), i + n = L.length → Ev (fun k => ratlinelaw09_Few.l0 k L (L.length : Int) i) ((L.drop i).all fewE) := by
  intro n
  induction n with
  | zero =>
    intro i hi
    rw [List.drop_eq_nil_of_le (by omega), List.all_nil]
    exact ev_of 1 (fun k => by rw [ratlinelaw09_Few.l0, if_neg (by omega)])
  | succ n ih =>
    intro i hi
    have hlt : i < L.length := by omega
    have hr : rd_T54 L (i : Int) = L[i] := getD_at hlt
    have hn := ih (i + 1) (by omega)
    rw [List.drop_eq_getElem_cons hlt, List.all_cons]
    have h1 := few_l1 L (i : Int) (L[i]).f0 (L[i]).f1 (L[i]).f2 (L[i]).f3 (hl _ (List.getElem_mem hlt)) _ (by rw [up1 (by omega)]; exact hn) (L[i]).f0.length 0 (by omega)
    rw [List.drop_zero] at h1
    exact ev_step (fun k => by rw [ratlinelaw09_Few.l0, if_pos (by omega), if_pos (by omega), if_pos (by omega), hr]; rfl) h1
theorem few_ev (L : List EdS) (hL : L.length ≤ 1000) (hl : ∀ e ∈ L, e.f0.length ≤ 9223372036854775807) : Ev (fun k => ratlinelaw09_Few.f k L) (L.all fewE) := by
  have := few_l0 L hL hl L.length 0 (by omega)
  rw [List.drop_zero] at this
  exact this
/-- What comes in. -/
def WfI (e : EdS) : Prop := (e.f0.length ≤ maxLen ∧ ∀ m ∈ e.f0, (Lit.int .u64 m.f0).wf = true ∧ (Lit.int .u64 m.f1).wf = true ∧ m.f2.size ≤ maxLen ∧ m.f3.size ≤ maxLen) ∧ (Lit.int .u64 e.f1).wf = true ∧ (Lit.int .u64 e.f2).wf = true ∧ (Lit.int .u64 e.f3).wf = true
theorem WfI.e {e : EdS} (h : WfI e) : WfE e.f0 e.f1 e.f2 e.f3 := ⟨fun m hm => ⟨lit_u64 (h.1.2 m hm).1, lit_u64 (h.1.2 m hm).2.1⟩, lit_u64 h.2.1, lit_u64 h.2.2.1, lit_u64 h.2.2.2⟩
theorem WfI.len {e : EdS} (h : WfI e) : e.f0.length ≤ 9223372036854775807 := h.1.1
end Go.Proofs.YtlaihdipagejfaaL

end
