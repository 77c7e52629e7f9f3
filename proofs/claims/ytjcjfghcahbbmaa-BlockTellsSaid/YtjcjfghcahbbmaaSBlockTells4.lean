/- Proved here: what the row of BlockTells needs, part 4. Conditions: those of each theorem. Written for this claim by programs; what the claim does not use is left out. -/
import Derived.Test.YtjcjfghcahbbmaaSBlockTells3
section
namespace Go.Proofs.Ytjcjfghcahbbmaa.P
open Go.RowKit Go.Proofs.YtjcjfghcahbbmaaG Go.Proofs.YtjcjfghcahbbmaaW.PrintWords Go.Proofs.YtjcjfghcahbbmaaW.PrintLast Go.Proofs.YtjcjfghcahbbmaaW.PrintMore
attribute [local go_sem] str_gtr str_geq str_leq max2_int min2_int max_two min_two max_three min_three max_four min_four   -- for this text's walks alone
set_option linter.unusedVariables false
set_option linter.unusedSimpArgs false

def ratlineref07_right.l0 : Nat → List (S59) → Int → Option (Bool)
 | 0,_,_=>none
 | k + 1,x0,x3=>if x3 < (x0.length : Int) then (if 0 ≤ x3 then ((ratlineref03_Entry.f ((rd_T59 x0 x3).f0.f0) ((rd_T59 x0 x3).f0.f1) ((rd_T59 x0 x3).f0.f2) ((rd_T59 x0 x3).f1)).bind fun t296=>(if t296 = true then (ratlineref07_right.l0 k x0 (wrap64 (x3 + 1))) else (some false))) else (none)) else (if (x0.length : Int) ≥ 1 then (if (x0.length : Int) ≤ 64 then ((ratlineref03_Rising.f k x0).bind fun t297=>(some t297)) else (some false)) else (some false))
def ratlineref07_right.f (k : Nat) (l0 : List (S59)) : Option (Bool):=ratlineref07_right.l0 k l0 0
set_option maxHeartbeats 8000000 in
set_option maxRecDepth 100000 in
theorem ratlineref07_right.calls (k : Nat) (A0 : Option Addr) (c0 : Nat) (l0 : List (S59)) (r : Bool) (w : World) (hr0 : Kd.C k59 w A0 l0.length l0) (hc0 : l0.length ≤ c0) (h : ratlineref07_right.f k l0 = some r) :
  Calls Try.prog 52 #[.slice A0 l0.length c0] w fun e w'=>e = .returned (.bool r) ∧ Below w.heap.size w w':=by
 have hu59:=Try.underlying59
 have HR0:=Aside0.mk hr0
 have HC0:=Aside0.mk hc0
 clear hr0 hc0
 have HB:=Aside0.mk (Below.refl w.heap.size w)
 have H : (ratlineref07_right.l0 k l0 0) = some r:=h
 clear h
 have H':=Aside0.mk H
 clear H
 go_enter Try.func52,Try.ntmps52
 go_wp2
 go_loopg [3] k (fun kq v3 w'=>∃ (x3_1 : Int),v3 = .int .i64 x3_1 ∧ Aside0 (ratlineref07_right.l0 kq l0 x3_1 = some r) ∧ Aside0 (kq ≤ k) ∧ Aside0 (Below w.heap.size w w'))
 case atStart=>exact ⟨(0),(by first|rfl|(simp;done)|(simp [*];done)),H',⟨Nat.le_refl _⟩,⟨by repeat (first|(with_reducible first|exact HB.out|apply below_alloc|apply pw_below_drewN|apply below_drew1)|exact HB.out)⟩⟩
 case round =>
  clear H'
  obtain ⟨x3_1,rfl,HA,HK1,HB⟩:=hrel
  cases gk with
  | zero=>exact absurd HA.out (by simp [ratlineref07_right.l0])
  | succ k1 =>
   have H:=HA.out
   clear HA
   simp only [ratlineref07_right.l0] at H
   by_cases c2 : x3_1 < (l0.length : Int)
   ·rw [if_pos c2] at H
    have c2b0 : decide (x3_1 < (l0.length : Int)) = true:=decide_eq_true c2
    clear c2
    by_cases c3 : 0 ≤ x3_1
    ·rw [if_pos c3] at H
     have c3b0 : decide (0 ≤ x3_1) = true:=decide_eq_true c3
     clear c3
     replace H:=Option.bind_eq_some_iff.mp H
     obtain ⟨t296,A40,H⟩:=H
     replace H : (if t296 = true then (ratlineref07_right.l0 k1 l0 (wrap64 (x3_1 + 1))) else (some false)) = some r:=H
     have A4:=Aside0.mk A40
     clear A40
     by_cases c5 : t296 = true
     ·subst c5
      have H1 : (ratlineref07_right.l0 k1 l0 (wrap64 (x3_1 + 1))) = some r:=by rw [if_pos rfl] at H;exact H
      clear H
      have H:=H1
      clear H1
      have H':=Aside0.mk H
      clear H
      have p295 : 0 ≤ (x3_1 : Int):=of_decide_eq_true (by first|(with_reducible assumption)|assumption)
      have q295 : x3_1 < (l0.length : Int):=of_decide_eq_true (by first|(with_reducible assumption)|assumption)
      obtain ⟨ad295,e295,hx295_0,hx295_1,hx295_2,hx295_3⟩:=at_T59 HR0.out x3_1 p295 q295
      cases e295
      replace hx295_0:=(HB.out.cell (World.block_lt_of_cell? w _ hx295_0)).trans hx295_0
      replace hx295_1:=(HB.out.cell (World.block_lt_of_cell? w _ hx295_1)).trans hx295_1
      replace hx295_2:=(HB.out.cell (World.block_lt_of_cell? w _ hx295_2)).trans hx295_2
      replace hx295_3:=(HB.out.cell (World.block_lt_of_cell? w _ hx295_3)).trans hx295_3
      replace p295:=eq_true p295
      replace q295:=eq_true q295
      go_wp2_with (first|((with_reducible refine gate_callee (f:=84) rfl ?_);refine goesL_ (some 14) rfl rfl Try.func84 (by kernel_rfl) rfl #[.agg #[.string ((rd_T59 l0 x3_1).f0.f0),.int .u64 ((rd_T59 l0 x3_1).f0.f1),.int .u8 ((rd_T59 l0 x3_1).f0.f2),.string ((rd_T59 l0 x3_1).f1)]] rfl (by (try simp only [List.map_toArray,List.map_cons,List.map_nil]);first|done|rfl|(simp only [List.length_drop,List.length_take];rfl)) ?_;(with_reducible refine (ratlineref03_Entry.calls ((rd_T59 l0 x3_1).f0.f0) ((rd_T59 l0 x3_1).f0.f1) ((rd_T59 l0 x3_1).f0.f2) ((rd_T59 l0 x3_1).f1) true _ A4.out).mono ?_);rintro e w6 ⟨rfl,hb⟩;refine ⟨_,rfl,?_⟩;have n0_:=Aside0.mk (below_step (by repeat (first|(with_reducible first|exact HB.out|apply below_alloc|apply pw_below_drewN|apply below_drew1)|exact HB.out)) hb);clear HB;have HB:=n0_;clear n0_;(try clear hb);(try clear hb2);(try clear hk);(try clear hi)))
      go_roundg k1
      case measure=>have:=HK1.out;omega
      case rel=>exact ⟨(wrap64 (x3_1 + 1)),(by first|rfl|(simp;done)|(simp [*];done)),H',⟨by have:=HK1.out;omega⟩,⟨by repeat (first|(with_reducible first|exact HB.out|apply below_alloc|apply pw_below_drewN|apply below_drew1)|exact HB.out)⟩⟩
     ·replace c5:=Bool.eq_false_iff.mpr c5
      subst c5
      have H1 : (some false) = some r:=by rw [if_neg (show ¬ (false = true) by decide)] at H;exact H
      clear H
      have H:=H1
      clear H1
      obtain rfl:=Option.some.inj H
      have p295 : 0 ≤ (x3_1 : Int):=of_decide_eq_true (by first|(with_reducible assumption)|assumption)
      have q295 : x3_1 < (l0.length : Int):=of_decide_eq_true (by first|(with_reducible assumption)|assumption)
      obtain ⟨ad295,e295,hx295_0,hx295_1,hx295_2,hx295_3⟩:=at_T59 HR0.out x3_1 p295 q295
      cases e295
      replace hx295_0:=(HB.out.cell (World.block_lt_of_cell? w _ hx295_0)).trans hx295_0
      replace hx295_1:=(HB.out.cell (World.block_lt_of_cell? w _ hx295_1)).trans hx295_1
      replace hx295_2:=(HB.out.cell (World.block_lt_of_cell? w _ hx295_2)).trans hx295_2
      replace hx295_3:=(HB.out.cell (World.block_lt_of_cell? w _ hx295_3)).trans hx295_3
      replace p295:=eq_true p295
      replace q295:=eq_true q295
      go_wp2_with (first|((with_reducible refine gate_callee (f:=84) rfl ?_);refine goesL_ (some 14) rfl rfl Try.func84 (by kernel_rfl) rfl #[.agg #[.string ((rd_T59 l0 x3_1).f0.f0),.int .u64 ((rd_T59 l0 x3_1).f0.f1),.int .u8 ((rd_T59 l0 x3_1).f0.f2),.string ((rd_T59 l0 x3_1).f1)]] rfl (by (try simp only [List.map_toArray,List.map_cons,List.map_nil]);first|done|rfl|(simp only [List.length_drop,List.length_take];rfl)) ?_;(with_reducible refine (ratlineref03_Entry.calls ((rd_T59 l0 x3_1).f0.f0) ((rd_T59 l0 x3_1).f0.f1) ((rd_T59 l0 x3_1).f0.f2) ((rd_T59 l0 x3_1).f1) false _ A4.out).mono ?_);rintro e w7 ⟨rfl,hb⟩;refine ⟨_,rfl,?_⟩;have n0_:=Aside0.mk (below_step (by repeat (first|(with_reducible first|exact HB.out|apply below_alloc|apply pw_below_drewN|apply below_drew1)|exact HB.out)) hb);clear HB;have HB:=n0_;clear n0_;(try clear hb);(try clear hb2);(try clear hk);(try clear hi)))
      go_ret
      exact ⟨by first|rfl|(simp [errW_none,errW_some] <;> rfl)|(simp [*,errW_none,errW_some] <;> rfl),by repeat (first|(with_reducible first|exact HB.out|apply below_alloc|apply pw_below_drewN|apply below_drew1)|exact HB.out)⟩
    ·rw [if_neg c3] at H
     exact absurd H (by simp)
   ·rw [if_neg c2] at H
    have c2b0 : decide (x3_1 < (l0.length : Int)) = false:=decide_eq_false c2
    clear c2
    by_cases c8 : (l0.length : Int) ≥ 1
    ·rw [if_pos c8] at H
     have c8b0 : decide (1 ≤ (l0.length : Int)) = true:=decide_eq_true c8
     have c8b1 : decide (1 ≤ l0.length) = true:=decide_eq_true (by omega)
     clear c8
     by_cases c9 : (l0.length : Int) ≤ 64
     ·rw [if_pos c9] at H
      have c9b0 : decide ((l0.length : Int) ≤ 64) = true:=decide_eq_true c9
      have c9b1 : decide (l0.length ≤ 64) = true:=decide_eq_true (by omega)
      clear c9
      replace H:=Option.bind_eq_some_iff.mp H
      obtain ⟨t297,A100,H⟩:=H
      replace H : (some t297) = some r:=H
      have A10:=Aside0.mk A100
      clear A100
      obtain rfl:=Option.some.inj H
      go_wp2_with (first|(go_at_call 85;(with_reducible refine (ratlineref03_Rising.calls k1 _ _ l0 t297 _ ?side1 ?side2 A10.out).mono ?_);(case side1=>repeat (first|exact (Kd.C_below HR0.out HB.out)|(with_reducible refine Kd.C_alloc ?_ _)|(with_reducible refine Kd.C_drewN ?_ _)|(with_reducible refine Kd.C_drew ?_)));(case side2=>exact HC0.out);rintro e w11 ⟨rfl,hb⟩;have n0_:=Aside0.mk (below_step (by repeat (first|(with_reducible first|exact HB.out|apply below_alloc|apply pw_below_drewN|apply below_drew1)|exact HB.out)) hb);clear HB;have HB:=n0_;clear n0_;(try clear hb);(try clear hb2);(try clear hk);(try clear hi)))
      go_ret
      exact ⟨by first|rfl|(simp [errW_none,errW_some] <;> rfl)|(simp [*,errW_none,errW_some] <;> rfl),by repeat (first|(with_reducible first|exact HB.out|apply below_alloc|apply pw_below_drewN|apply below_drew1)|exact HB.out)⟩
     ·rw [if_neg c9] at H
      have c9b0 : decide ((l0.length : Int) ≤ 64) = false:=decide_eq_false c9
      have c9b1 : decide (l0.length ≤ 64) = false:=decide_eq_false (by omega)
      clear c9
      obtain rfl:=Option.some.inj H
      go_wp2
      go_ret
      exact ⟨by first|rfl|(simp [errW_none,errW_some] <;> rfl)|(simp [*,errW_none,errW_some] <;> rfl),by repeat (first|(with_reducible first|exact HB.out|apply below_alloc|apply pw_below_drewN|apply below_drew1)|exact HB.out)⟩
    ·rw [if_neg c8] at H
     have c8b0 : decide (1 ≤ (l0.length : Int)) = false:=decide_eq_false c8
     have c8b1 : decide (1 ≤ l0.length) = false:=decide_eq_false (by omega)
     clear c8
     obtain rfl:=Option.some.inj H
     go_wp2
     go_ret
     exact ⟨by first|rfl|(simp [errW_none,errW_some] <;> rfl)|(simp [*,errW_none,errW_some] <;> rfl),by repeat (first|(with_reducible first|exact HB.out|apply below_alloc|apply pw_below_drewN|apply below_drew1)|exact HB.out)⟩

end Go.Proofs.Ytjcjfghcahbbmaa.P

end

section
namespace Go.Proofs.Ytjcjfghcahbbmaa.P
open Go.RowKit Go.Proofs.YtjcjfghcahbbmaaG Go.Proofs.YtjcjfghcahbbmaaW.PrintWords Go.Proofs.YtjcjfghcahbbmaaW.PrintLast Go.Proofs.YtjcjfghcahbbmaaW.PrintMore
attribute [local go_sem] str_gtr str_geq str_leq max2_int min2_int max_two min_two max_three min_three max_four min_four   -- for this text's walks alone
set_option linter.unusedVariables false
set_option linter.unusedSimpArgs false

def ratlineref02_PutFour.l0 : Nat → Int → List Int → Int → Option (List Int)
 | 0,_,_,_=>none
 | k + 1,x1,x5,x6=>if x6 < 4 then (if x5.length < 140737488355328 then (ratlineref02_PutFour.l0 k ((Int.tdiv x1 256) % 4294967296) (x5 ++ [(Int.tmod x1 256) % 256]) (wrap64 (x6 + 1))) else (none)) else (some x5)
def ratlineref02_PutFour.f (k : Nat) (l0 : List Int) (a1 : Int) : Option (List Int):=if ([] : List Int).length + l0.length < 140737488355328 then (ratlineref02_PutFour.l0 k a1 (([] : List Int) ++ l0) 0) else (none)
set_option maxHeartbeats 8000000 in
set_option maxRecDepth 100000 in
theorem ratlineref02_PutFour.calls (k : Nat) (A0 : Option Addr) (c0 : Nat) (l0 : List Int) (a1 : Int) (r : List Int) (w : World) (hr0 : Kd.C (Kd.int .u8) w A0 l0.length l0) (hc0 : l0.length ≤ c0) (h : ratlineref02_PutFour.f k l0 a1 = some r) :
  Calls Try.prog 53 #[.slice A0 l0.length c0,.int .u32 a1] w fun e w'=>∃ v0_ : Value,e = .returned (v0_) ∧ Kd.R (Kd.int .u8) 5 w' w.heap.size (fun _=>True) v0_ r ∧ Below w.heap.size w w':=by
 have HR0:=Aside0.mk hr0
 have HC0:=Aside0.mk hc0
 clear hr0 hc0
 have HB:=Aside0.mk (Below.refl w.heap.size w)
 have H : (if ([] : List Int).length + l0.length < 140737488355328 then (ratlineref02_PutFour.l0 k a1 (([] : List Int) ++ l0) 0) else (none)) = some r:=h
 clear h
 by_cases c3 : ([] : List Int).length + l0.length < 140737488355328
 ·rw [if_pos c3] at H
  have LMc3:=Aside0.mk c3
  clear c3
  obtain ⟨y298,hy298⟩ : ∃ y_ : List Int,y_ = (([] : List Int) ++ l0):=⟨_,rfl⟩
  replace H : (ratlineref02_PutFour.l0 k a1 y298 0) = some r:=by first|(rw [hy298];with_reducible exact H)|(have H2_:=(Option.bind_some _ _).symm.trans H;rw [hy298];with_reducible exact H2_)|(have H2_:=(Option.bind_some _ _).symm.trans H;with_reducible exact H2_)|with_reducible exact H|(rw [hy298];exact H)|exact H
  have Ny298:=Aside0.mk hy298
  clear hy298
  have H':=Aside0.mk H
  clear H
  go_enter Try.func53,Try.ntmps53
  go_wp2_with (first|((with_reducible refine gate_builtin (b:=.append) (xs:=#[.tmp 7,.tmp 8]) rfl ?_);at_builtin;refine Kd.R_append_rows (Kd.int .u8) (w0:=w) w.heap.size rfl (.tmp 7) (.tmp 8) 26 5 (.int .u8 0) 1 rfl Try.underlying26 info5 rfl (by decide) (by omega) (.slice none 0 0) ([] : List Int) l0 _ _ _ (fun _=>True) (fun _=>False) rfl rfl ?aO ?aR (fun _ _ h=>h) (fun _ h=>h.elim) ?aF ?aB ?aS ?aL ?_;(case aR=>repeat (first|exact HR0.out|(with_reducible refine Kd.C_alloc ?_ _)|(with_reducible refine Kd.C_drewN ?_ _)|(with_reducible refine Kd.C_drew ?_)));(case aB=>exact (by repeat (first|(with_reducible first|exact HB.out|apply below_alloc|apply pw_below_drewN|apply below_drew1)|exact HB.out)));(case aF=>exact (fun _ _=>trivial));(case aO=>exact ((Kd.R_nil _ _ _ _ (fun _=>True))));(case aS=>exact (below_size (by repeat (first|(with_reducible first|exact HB.out|apply below_alloc|apply pw_below_drewN|apply below_drew1)|exact HB.out))));(case aL=>have:=LMc3.out;omega);intro v299 w4 ho hb hg hat;rw [← Ny298.out] at ho;have n0_:=Aside0.mk (hb);have n1_:=Aside0.mk (ho);clear HB;have HB:=n0_;have HO300:=n1_;clear n0_ n1_;clear ho hb hg hat))
  go_loopg [1,5,6] k (fun kq v1 v5 v6 w'=>∃ (x1_1 : Int) (x5_1 : List Int) (x6_1 : Int),v1 = .int .u32 x1_1 ∧ v6 = .int .i64 x6_1 ∧ Aside0 (ratlineref02_PutFour.l0 kq x1_1 x5_1 x6_1 = some r) ∧ Aside0 (kq ≤ k) ∧ Aside0 (Kd.R (Kd.int .u8) 5 w' w.heap.size (fun _=>True) v5 x5_1) ∧ Aside0 (Below w.heap.size w w'))
  case atStart=>exact ⟨(a1),(y298),(0),(by first|rfl|(simp;done)|(simp [*];done)),(by first|rfl|(simp;done)|(simp [*];done)),H',⟨Nat.le_refl _⟩,⟨by (with_reducible repeat (first|apply Kd.R_alloc|apply Kd.R_drewN|apply Kd.R_drew));exact HO300.out⟩,⟨by repeat (first|(with_reducible first|exact HB.out|apply below_alloc|apply pw_below_drewN|apply below_drew1)|exact HB.out)⟩⟩
  case round =>
   clear H'
   try clear p2
   try clear c3
   obtain ⟨x1_1,x5_1,x6_1,rfl,rfl,HA,HK1,HO_5,HB⟩:=hrel
   cases gk with
   | zero=>exact absurd HA.out (by simp [ratlineref02_PutFour.l0])
   | succ k1 =>
    have H:=HA.out
    clear HA
    simp only [ratlineref02_PutFour.l0] at H
    by_cases c5 : x6_1 < 4
    ·rw [if_pos c5] at H
     have c5b0 : decide (x6_1 < 4) = true:=decide_eq_true c5
     clear c5
     by_cases c6 : x5_1.length < 140737488355328
     ·rw [if_pos c6] at H
      have LMc6:=Aside0.mk c6
      clear c6
      obtain ⟨y301,hy301⟩ : ∃ y_ : List Int,y_ = (x5_1 ++ [(Int.tmod x1_1 256) % 256]):=⟨_,rfl⟩
      replace H : (ratlineref02_PutFour.l0 k1 ((Int.tdiv x1_1 256) % 4294967296) y301 (wrap64 (x6_1 + 1))) = some r:=by first|(rw [hy301];with_reducible exact H)|(have H2_:=(Option.bind_some _ _).symm.trans H;rw [hy301];with_reducible exact H2_)|(have H2_:=(Option.bind_some _ _).symm.trans H;with_reducible exact H2_)|with_reducible exact H|(rw [hy301];exact H)|exact H
      have Ny301:=Aside0.mk hy301
      clear hy301
      have H':=Aside0.mk H
      clear H
      go_wp2_with (first|((with_reducible refine gate_builtin (b:=.append) (xs:=#[.tmp 14,.tmp 18]) rfl ?_);at_builtin;refine Kd.R_append (Kd.int .u8) (w0:=w) w.heap.size rfl (.tmp 14) (.tmp 18) 26 5 (.int .u8 0) 1 rfl Try.underlying26 info5 rfl (by decide) (by omega) u5 x5_1 ((Int.tmod x1_1 256) % 256) [.int .u8 ((Int.tmod x1_1 256) % 256)] (fun _=>True) (fun _=>False) rfl rfl ?aP (fun _ hk=>hk.elim) ?aF ?aO ?aB ?aS ?aL ?_;(case aP=>exact rfl);(case aB=>exact (by repeat (first|(with_reducible first|exact HB.out|apply below_alloc|apply pw_below_drewN|apply below_drew1)|exact HB.out)));(case aF=>exact (fun _ _=>trivial));(case aO=>exact (by (with_reducible repeat (first|apply Kd.R_alloc|apply Kd.R_drewN|apply Kd.R_drew));exact HO_5.out));(case aS=>exact (below_size (by repeat (first|(with_reducible first|exact HB.out|apply below_alloc|apply pw_below_drewN|apply below_drew1)|exact HB.out))));(case aL=>have:=LMc6.out;omega);intro v302 w7 ho hb hg hat;rw [← Ny301.out] at ho;have n0_:=Aside0.mk (hb);have n1_:=Aside0.mk (ho);clear HB;clear HO_5;have HB:=n0_;have HO303:=n1_;clear n0_ n1_;clear ho hb hg hat))
      go_roundg k1
      case measure=>have:=HK1.out;omega
      case rel=>exact ⟨((Int.tdiv x1_1 256) % 4294967296),(y301),(wrap64 (x6_1 + 1)),(by first|rfl|(simp;done)|(simp [*];done)),(by first|rfl|(simp;done)|(simp [*];done)),H',⟨by have:=HK1.out;omega⟩,⟨by (with_reducible repeat (first|apply Kd.R_alloc|apply Kd.R_drewN|apply Kd.R_drew));exact HO303.out⟩,⟨by repeat (first|(with_reducible first|exact HB.out|apply below_alloc|apply pw_below_drewN|apply below_drew1)|exact HB.out)⟩⟩
     ·rw [if_neg c6] at H
      exact absurd H (by simp)
    ·rw [if_neg c5] at H
     have c5b0 : decide (x6_1 < 4) = false:=decide_eq_false c5
     clear c5
     obtain rfl:=Option.some.inj H
     go_wp2
     go_ret
     exact ⟨_,by first|rfl|(simp [errW_none,errW_some] <;> rfl)|(simp [*,errW_none,errW_some] <;> rfl),by (with_reducible repeat (first|apply Kd.R_alloc|apply Kd.R_drewN|apply Kd.R_drew));exact HO_5.out,by repeat (first|(with_reducible first|exact HB.out|apply below_alloc|apply pw_below_drewN|apply below_drew1)|exact HB.out)⟩
 ·rw [if_neg c3] at H
  exact absurd H (by simp)

end Go.Proofs.Ytjcjfghcahbbmaa.P

end

section
namespace Go.Proofs.Ytjcjfghcahbbmaa.P
open Go.RowKit Go.Proofs.YtjcjfghcahbbmaaG Go.Proofs.YtjcjfghcahbbmaaW.PrintWords Go.Proofs.YtjcjfghcahbbmaaW.PrintLast Go.Proofs.YtjcjfghcahbbmaaW.PrintMore
attribute [local go_sem] str_gtr str_geq str_leq max2_int min2_int max_two min_two max_three min_three max_four min_four   -- for this text's walks alone
set_option linter.unusedVariables false
set_option linter.unusedSimpArgs false

def ratlineref07_shared.l0 : Nat → ByteArray → ByteArray → Int → Option (Int)
 | 0,_,_,_=>none
 | k + 1,x5,x6,x7=>if x7 < (x5.size : Int) then (if x7 < (x6.size : Int) then (if 0 ≤ x7 then (if (bt x5 x7) = (bt x6 x7) then (ratlineref07_shared.l0 k x5 x6 (wrap64 (x7 + 1))) else (some x7)) else (none)) else (some x7)) else (some x7)
def ratlineref07_shared.f (k : Nat) (l0 : List (S59)) (a1 : Int) : Option (Int):=if (Int.tmod a1 4) = 0 then (some 0) else (if 0 ≤ (wrap64 (a1 - 1)) then (if (wrap64 (a1 - 1)) < (l0.length : Int) then (if 0 ≤ a1 then (if a1 < (l0.length : Int) then (ratlineref07_shared.l0 k ((rd_T59 l0 (wrap64 (a1 - 1))).f0.f0) ((rd_T59 l0 a1).f0.f0) 0) else (none)) else (none)) else (none)) else (none))
set_option maxHeartbeats 8000000 in
set_option maxRecDepth 100000 in
theorem ratlineref07_shared.calls (k : Nat) (A0 : Option Addr) (c0 : Nat) (l0 : List (S59)) (a1 : Int) (r : Int) (w : World) (hr0 : Kd.C k59 w A0 l0.length l0) (hc0 : l0.length ≤ c0) (h : ratlineref07_shared.f k l0 a1 = some r) :
  Calls Try.prog 54 #[.slice A0 l0.length c0,.int .i64 a1] w fun e w'=>e = .returned (.int .i64 r) ∧ Drawn0 w w':=by
 have HR0:=Aside0.mk hr0
 have HC0:=Aside0.mk hc0
 clear hr0 hc0
 have H : (if (Int.tmod a1 4) = 0 then (some 0) else (if 0 ≤ (wrap64 (a1 - 1)) then (if (wrap64 (a1 - 1)) < (l0.length : Int) then (if 0 ≤ a1 then (if a1 < (l0.length : Int) then (ratlineref07_shared.l0 k ((rd_T59 l0 (wrap64 (a1 - 1))).f0.f0) ((rd_T59 l0 a1).f0.f0) 0) else (none)) else (none)) else (none)) else (none))) = some r:=h
 clear h
 by_cases c3 : (Int.tmod a1 4) = 0
 ·rw [if_pos c3] at H
  have c3b0 : ((Int.tmod a1 4) == 0) = true:=beq_iff_eq.mpr c3
  have c3b1 : ((Int.tmod a1 4) != 0) = false:=bne_eq_false_iff_eq.mpr c3
  clear c3
  obtain rfl:=Option.some.inj H
  go_enter Try.func54,Try.ntmps54
  go_wp2
  repeat (go_quiet (fail);try go_wp2)
  go_ret
  exact ⟨by first|rfl|(simp;done)|(simp [*];done),by repeat (first|exact Drawn0.refl _|apply Drawn0.step)⟩
 ·rw [if_neg c3] at H
  have c3b0 : ((Int.tmod a1 4) == 0) = false:=beq_eq_false_iff_ne.mpr c3
  have c3b1 : ((Int.tmod a1 4) != 0) = true:=bne_iff_ne.mpr c3
  obtain ⟨ji4,hji4⟩ : ∃ j_ : Int,(wrap64 (a1 - 1)) = j_:=⟨_,rfl⟩
  replace H : (if 0 ≤ (ji4) then (if (ji4) < (l0.length : Int) then (if 0 ≤ a1 then (if a1 < (l0.length : Int) then (ratlineref07_shared.l0 k ((rd_T59 l0 (ji4)).f0.f0) ((rd_T59 l0 a1).f0.f0) 0) else (none)) else (none)) else (none)) else (none)) = some r:=by first|(rw [hji4] at H;exact H)|(simp only [hji4] at H ⊢;exact H)
  have hji4w : (IntKind.i64.wrap (a1 - 1)) = ji4:=(i64_w _).trans hji4
  by_cases c5 : 0 ≤ (ji4)
  ·rw [if_pos c5] at H
   have c5b0 : decide (0 ≤ (ji4)) = true:=decide_eq_true c5
   clear c5
   by_cases c6 : (ji4) < (l0.length : Int)
   ·rw [if_pos c6] at H
    have c6b0 : decide ((ji4) < (l0.length : Int)) = true:=decide_eq_true c6
    clear c6
    by_cases c7 : 0 ≤ a1
    ·rw [if_pos c7] at H
     have c7b0 : decide (0 ≤ a1) = true:=decide_eq_true c7
     clear c7
     by_cases c8 : a1 < (l0.length : Int)
     ·rw [if_pos c8] at H
      have c8b0 : decide (a1 < (l0.length : Int)) = true:=decide_eq_true c8
      clear c8
      have H':=Aside0.mk H
      clear H
      have p304 : 0 ≤ ((ji4) : Int):=of_decide_eq_true (by first|(with_reducible assumption)|assumption)
      have q304 : (ji4) < (l0.length : Int):=of_decide_eq_true (by first|(with_reducible assumption)|assumption)
      obtain ⟨ad304,e304,hx304_0,hx304_1,hx304_2,hx304_3⟩:=at_T59 HR0.out (ji4) p304 q304
      cases e304
      replace p304:=eq_true p304
      replace q304:=eq_true q304
      have p305 : 0 ≤ (a1 : Int):=of_decide_eq_true (by first|(with_reducible assumption)|assumption)
      have q305 : a1 < (l0.length : Int):=of_decide_eq_true (by first|(with_reducible assumption)|assumption)
      obtain ⟨ad305,e305,hx305_0,hx305_1,hx305_2,hx305_3⟩:=at_T59 HR0.out a1 p305 q305
      obtain rfl : ad304 = ad305:=(by injection e305)
      replace p305:=eq_true p305
      replace q305:=eq_true q305
      go_enter Try.func54,Try.ntmps54
      go_wp2
      repeat (go_quiet (fail);try go_wp2)
      go_loopg [7] k (fun kq v7 w'=>∃ (x7_1 : Int),v7 = .int .i64 x7_1 ∧ Aside0 (ratlineref07_shared.l0 kq ((rd_T59 l0 (ji4)).f0.f0) ((rd_T59 l0 a1).f0.f0) x7_1 = some r) ∧ Aside0 (kq ≤ k) ∧ Drawn0 w w')
      case atStart=>exact ⟨(0),(by first|rfl|(simp;done)|(simp [*];done)),H',⟨Nat.le_refl _⟩,by repeat (first|exact Drawn0.refl _|apply Drawn0.step)⟩
      case round =>
       clear H'
       try clear p2
       try clear c3
       try clear c3b0
       try clear c3b1
       try clear p3
       try clear q3
       try clear hx3
       try clear c5
       try clear c5b0
       try clear c6
       try clear c6b0
       try clear p6
       try clear c7
       try clear c7b0
       try clear c8
       try clear c8b0
       try clear hx304_0
       try clear hx304_1
       try clear hx304_2
       try clear hx304_3
       try clear hx305_0
       try clear hx305_1
       try clear hx305_2
       try clear hx305_3
       try clear p304
       try clear p305
       try clear q304
       try clear q305
       obtain ⟨x7_1,rfl,HA,HK1,⟨m1,rfl⟩⟩:=hrel
       cases gk with
       | zero=>exact absurd HA.out (by simp [ratlineref07_shared.l0])
       | succ k1 =>
        have H:=HA.out
        clear HA
        simp only [ratlineref07_shared.l0] at H
        by_cases c9 : x7_1 < (((rd_T59 l0 (ji4)).f0.f0).size : Int)
        ·rw [if_pos c9] at H
         have c9b0 : decide (x7_1 < (((rd_T59 l0 (ji4)).f0.f0).size : Int)) = true:=decide_eq_true c9
         clear c9
         by_cases c10 : x7_1 < (((rd_T59 l0 a1).f0.f0).size : Int)
         ·rw [if_pos c10] at H
          have c10b0 : decide (x7_1 < (((rd_T59 l0 a1).f0.f0).size : Int)) = true:=decide_eq_true c10
          clear c10
          by_cases c11 : 0 ≤ x7_1
          ·rw [if_pos c11] at H
           have c11b0 : decide (0 ≤ x7_1) = true:=decide_eq_true c11
           clear c11
           by_cases c14 : (bt ((rd_T59 l0 (ji4)).f0.f0) x7_1) = (bt ((rd_T59 l0 a1).f0.f0) x7_1)
           ·rw [if_pos c14] at H
            have c14b0 : ((bt ((rd_T59 l0 (ji4)).f0.f0) x7_1) == (bt ((rd_T59 l0 a1).f0.f0) x7_1)) = true:=beq_iff_eq.mpr c14
            have c14b1 : ((bt ((rd_T59 l0 (ji4)).f0.f0) x7_1) != (bt ((rd_T59 l0 a1).f0.f0) x7_1)) = false:=bne_eq_false_iff_eq.mpr c14
            clear c14
            have H':=Aside0.mk H
            clear H
            have p12 : 0 ≤ (x7_1 : Int):=of_decide_eq_true (by first|(with_reducible assumption)|assumption)
            have q12 : x7_1 < (((rd_T59 l0 (ji4)).f0.f0).size : Int):=of_decide_eq_true (by first|(with_reducible assumption)|assumption)
            have hx12:=bt_at ((rd_T59 l0 (ji4)).f0.f0) x7_1
            replace p12:=eq_true p12
            replace q12:=eq_true q12
            have p13 : 0 ≤ (x7_1 : Int):=of_decide_eq_true (by first|(with_reducible assumption)|assumption)
            have q13 : x7_1 < (((rd_T59 l0 a1).f0.f0).size : Int):=of_decide_eq_true (by first|(with_reducible assumption)|assumption)
            have hx13:=bt_at ((rd_T59 l0 a1).f0.f0) x7_1
            replace p13:=eq_true p13
            replace q13:=eq_true q13
            go_wp2
            repeat (go_quiet (fail);try go_wp2)
            go_roundg k1
            case measure=>have:=HK1.out;omega
            case rel=>exact ⟨(wrap64 (x7_1 + 1)),(by first|rfl|(simp;done)|(simp [*];done)),H',⟨by have:=HK1.out;omega⟩,by repeat (first|exact Drawn0.refl _|apply Drawn0.step)⟩
           ·rw [if_neg c14] at H
            have c14b0 : ((bt ((rd_T59 l0 (ji4)).f0.f0) x7_1) == (bt ((rd_T59 l0 a1).f0.f0) x7_1)) = false:=beq_eq_false_iff_ne.mpr c14
            have c14b1 : ((bt ((rd_T59 l0 (ji4)).f0.f0) x7_1) != (bt ((rd_T59 l0 a1).f0.f0) x7_1)) = true:=bne_iff_ne.mpr c14
            obtain rfl:=Option.some.inj H
            have p12 : 0 ≤ (x7_1 : Int):=of_decide_eq_true (by first|(with_reducible assumption)|assumption)
            have q12 : x7_1 < (((rd_T59 l0 (ji4)).f0.f0).size : Int):=of_decide_eq_true (by first|(with_reducible assumption)|assumption)
            have hx12:=bt_at ((rd_T59 l0 (ji4)).f0.f0) x7_1
            replace p12:=eq_true p12
            replace q12:=eq_true q12
            have p13 : 0 ≤ (x7_1 : Int):=of_decide_eq_true (by first|(with_reducible assumption)|assumption)
            have q13 : x7_1 < (((rd_T59 l0 a1).f0.f0).size : Int):=of_decide_eq_true (by first|(with_reducible assumption)|assumption)
            have hx13:=bt_at ((rd_T59 l0 a1).f0.f0) x7_1
            replace p13:=eq_true p13
            replace q13:=eq_true q13
            go_wp2
            repeat (go_quiet (fail);try go_wp2)
            go_ret
            exact ⟨by first|rfl|(simp;done)|(simp only [← hji4] <;> (first|rfl|simp))|(simp [*];done),by repeat (first|exact Drawn0.refl _|apply Drawn0.step)⟩
          ·rw [if_neg c11] at H
           exact absurd H (by simp)
         ·rw [if_neg c10] at H
          have c10b0 : decide (x7_1 < (((rd_T59 l0 a1).f0.f0).size : Int)) = false:=decide_eq_false c10
          clear c10
          obtain rfl:=Option.some.inj H
          go_wp2
          repeat (go_quiet (fail);try go_wp2)
          go_ret
          exact ⟨by first|rfl|(simp;done)|(simp only [← hji4] <;> (first|rfl|simp))|(simp [*];done),by repeat (first|exact Drawn0.refl _|apply Drawn0.step)⟩
        ·rw [if_neg c9] at H
         have c9b0 : decide (x7_1 < (((rd_T59 l0 (ji4)).f0.f0).size : Int)) = false:=decide_eq_false c9
         clear c9
         obtain rfl:=Option.some.inj H
         go_wp2
         repeat (go_quiet (fail);try go_wp2)
         go_ret
         exact ⟨by first|rfl|(simp;done)|(simp only [← hji4] <;> (first|rfl|simp))|(simp [*];done),by repeat (first|exact Drawn0.refl _|apply Drawn0.step)⟩
     ·rw [if_neg c8] at H
      exact absurd H (by simp)
    ·rw [if_neg c7] at H
     exact absurd H (by simp)
   ·rw [if_neg c6] at H
    exact absurd H (by simp)
  ·rw [if_neg c5] at H
   exact absurd H (by simp)

end Go.Proofs.Ytjcjfghcahbbmaa.P

end

section
namespace Go.Proofs.Ytjcjfghcahbbmaa.P
open Go.RowKit Go.Proofs.YtjcjfghcahbbmaaG Go.Proofs.YtjcjfghcahbbmaaW.PrintWords Go.Proofs.YtjcjfghcahbbmaaW.PrintLast Go.Proofs.YtjcjfghcahbbmaaW.PrintMore
attribute [local go_sem] str_gtr str_geq str_leq max2_int min2_int max_two min_two max_three min_three max_four min_four   -- for this text's walks alone
set_option linter.unusedVariables false
set_option linter.unusedSimpArgs false

def ratlineref02_Put.l0 : Nat → Int → List Int → Option (List Int)
 | 0,_,_=>none
 | k + 1,x1,x5=>if x1 ≥ 128 then (if x5.length < 140737488355328 then (ratlineref02_Put.l0 k (IntKind.u64.wrap (Int.tdiv x1 128)) (x5 ++ [((Int.tmod x1 128) + 128) % 256])) else (none)) else (if x5.length < 140737488355328 then (some (x5 ++ [(x1) % 256])) else (none))
def ratlineref02_Put.f (k : Nat) (l0 : List Int) (a1 : Int) : Option (List Int):=if ([] : List Int).length + l0.length < 140737488355328 then (ratlineref02_Put.l0 k a1 (([] : List Int) ++ l0)) else (none)
set_option maxHeartbeats 8000000 in
set_option maxRecDepth 100000 in
theorem ratlineref02_Put.calls (k : Nat) (A0 : Option Addr) (c0 : Nat) (l0 : List Int) (a1 : Int) (r : List Int) (w : World) (hr0 : Kd.C (Kd.int .u8) w A0 l0.length l0) (hc0 : l0.length ≤ c0) (h : ratlineref02_Put.f k l0 a1 = some r) :
  Calls Try.prog 56 #[.slice A0 l0.length c0,.int .u64 a1] w fun e w'=>∃ v0_ : Value,e = .returned (v0_) ∧ Kd.R (Kd.int .u8) 5 w' w.heap.size (fun _=>True) v0_ r ∧ Below w.heap.size w w':=by
 have HR0:=Aside0.mk hr0
 have HC0:=Aside0.mk hc0
 clear hr0 hc0
 have HB:=Aside0.mk (Below.refl w.heap.size w)
 have H : (if ([] : List Int).length + l0.length < 140737488355328 then (ratlineref02_Put.l0 k a1 (([] : List Int) ++ l0)) else (none)) = some r:=h
 clear h
 by_cases c3 : ([] : List Int).length + l0.length < 140737488355328
 ·rw [if_pos c3] at H
  have LMc3:=Aside0.mk c3
  clear c3
  obtain ⟨y306,hy306⟩ : ∃ y_ : List Int,y_ = (([] : List Int) ++ l0):=⟨_,rfl⟩
  replace H : (ratlineref02_Put.l0 k a1 y306) = some r:=by first|(rw [hy306];with_reducible exact H)|(have H2_:=(Option.bind_some _ _).symm.trans H;rw [hy306];with_reducible exact H2_)|(have H2_:=(Option.bind_some _ _).symm.trans H;with_reducible exact H2_)|with_reducible exact H|(rw [hy306];exact H)|exact H
  have Ny306:=Aside0.mk hy306
  clear hy306
  have H':=Aside0.mk H
  clear H
  go_enter Try.func56,Try.ntmps56
  go_wp2_with (first|((with_reducible refine gate_builtin (b:=.append) (xs:=#[.tmp 6,.tmp 7]) rfl ?_);at_builtin;refine Kd.R_append_rows (Kd.int .u8) (w0:=w) w.heap.size rfl (.tmp 6) (.tmp 7) 26 5 (.int .u8 0) 1 rfl Try.underlying26 info5 rfl (by decide) (by omega) (.slice none 0 0) ([] : List Int) l0 _ _ _ (fun _=>True) (fun _=>False) rfl rfl ?aO ?aR (fun _ _ h=>h) (fun _ h=>h.elim) ?aF ?aB ?aS ?aL ?_;(case aR=>repeat (first|exact HR0.out|(with_reducible refine Kd.C_alloc ?_ _)|(with_reducible refine Kd.C_drewN ?_ _)|(with_reducible refine Kd.C_drew ?_)));(case aB=>exact (by repeat (first|(with_reducible first|exact HB.out|apply below_alloc|apply pw_below_drewN|apply below_drew1)|exact HB.out)));(case aF=>exact (fun _ _=>trivial));(case aO=>exact ((Kd.R_nil _ _ _ _ (fun _=>True))));(case aS=>exact (below_size (by repeat (first|(with_reducible first|exact HB.out|apply below_alloc|apply pw_below_drewN|apply below_drew1)|exact HB.out))));(case aL=>have:=LMc3.out;omega);intro v307 w4 ho hb hg hat;rw [← Ny306.out] at ho;have n0_:=Aside0.mk (hb);have n1_:=Aside0.mk (ho);clear HB;have HB:=n0_;have HO308:=n1_;clear n0_ n1_;clear ho hb hg hat))
  go_loopg [1,5] k (fun kq v1 v5 w'=>∃ (x1_1 : Int) (x5_1 : List Int),v1 = .int .u64 x1_1 ∧ Aside0 (ratlineref02_Put.l0 kq x1_1 x5_1 = some r) ∧ Aside0 (kq ≤ k) ∧ Aside0 (Kd.R (Kd.int .u8) 5 w' w.heap.size (fun _=>True) v5 x5_1) ∧ Aside0 (Below w.heap.size w w'))
  case atStart=>exact ⟨(a1),(y306),(by first|rfl|(simp;done)|(simp [*];done)),H',⟨Nat.le_refl _⟩,⟨by (with_reducible repeat (first|apply Kd.R_alloc|apply Kd.R_drewN|apply Kd.R_drew));exact HO308.out⟩,⟨by repeat (first|(with_reducible first|exact HB.out|apply below_alloc|apply pw_below_drewN|apply below_drew1)|exact HB.out)⟩⟩
  case round =>
   clear H'
   try clear p2
   try clear c3
   obtain ⟨x1_1,x5_1,rfl,HA,HK1,HO_5,HB⟩:=hrel
   cases gk with
   | zero=>exact absurd HA.out (by simp [ratlineref02_Put.l0])
   | succ k1 =>
    have H:=HA.out
    clear HA
    simp only [ratlineref02_Put.l0] at H
    by_cases c5 : x1_1 ≥ 128
    ·rw [if_pos c5] at H
     have c5b0 : decide (128 ≤ x1_1) = true:=decide_eq_true c5
     clear c5
     by_cases c6 : x5_1.length < 140737488355328
     ·rw [if_pos c6] at H
      have LMc6:=Aside0.mk c6
      clear c6
      obtain ⟨y309,hy309⟩ : ∃ y_ : List Int,y_ = (x5_1 ++ [((Int.tmod x1_1 128) + 128) % 256]):=⟨_,rfl⟩
      replace H : (ratlineref02_Put.l0 k1 (IntKind.u64.wrap (Int.tdiv x1_1 128)) y309) = some r:=by first|(rw [hy309];with_reducible exact H)|(have H2_:=(Option.bind_some _ _).symm.trans H;rw [hy309];with_reducible exact H2_)|(have H2_:=(Option.bind_some _ _).symm.trans H;with_reducible exact H2_)|with_reducible exact H|(rw [hy309];exact H)|exact H
      have Ny309:=Aside0.mk hy309
      clear hy309
      have H':=Aside0.mk H
      clear H
      go_wp2_with (first|((with_reducible refine gate_builtin (b:=.append) (xs:=#[.tmp 11,.tmp 16]) rfl ?_);at_builtin;refine Kd.R_append (Kd.int .u8) (w0:=w) w.heap.size rfl (.tmp 11) (.tmp 16) 26 5 (.int .u8 0) 1 rfl Try.underlying26 info5 rfl (by decide) (by omega) u5 x5_1 (((Int.tmod x1_1 128) + 128) % 256) [.int .u8 (((Int.tmod x1_1 128) + 128) % 256)] (fun _=>True) (fun _=>False) rfl rfl ?aP (fun _ hk=>hk.elim) ?aF ?aO ?aB ?aS ?aL ?_;(case aP=>exact rfl);(case aB=>exact (by repeat (first|(with_reducible first|exact HB.out|apply below_alloc|apply pw_below_drewN|apply below_drew1)|exact HB.out)));(case aF=>exact (fun _ _=>trivial));(case aO=>exact (by (with_reducible repeat (first|apply Kd.R_alloc|apply Kd.R_drewN|apply Kd.R_drew));exact HO_5.out));(case aS=>exact (below_size (by repeat (first|(with_reducible first|exact HB.out|apply below_alloc|apply pw_below_drewN|apply below_drew1)|exact HB.out))));(case aL=>have:=LMc6.out;omega);intro v310 w7 ho hb hg hat;rw [← Ny309.out] at ho;have n0_:=Aside0.mk (hb);have n1_:=Aside0.mk (ho);clear HB;clear HO_5;have HB:=n0_;have HO311:=n1_;clear n0_ n1_;clear ho hb hg hat))
      go_roundg k1
      case measure=>have:=HK1.out;omega
      case rel=>exact ⟨(IntKind.u64.wrap (Int.tdiv x1_1 128)),(y309),(by first|rfl|(simp;done)|(simp [*];done)),H',⟨by have:=HK1.out;omega⟩,⟨by (with_reducible repeat (first|apply Kd.R_alloc|apply Kd.R_drewN|apply Kd.R_drew));exact HO311.out⟩,⟨by repeat (first|(with_reducible first|exact HB.out|apply below_alloc|apply pw_below_drewN|apply below_drew1)|exact HB.out)⟩⟩
     ·rw [if_neg c6] at H
      exact absurd H (by simp)
    ·rw [if_neg c5] at H
     have c5b0 : decide (128 ≤ x1_1) = false:=decide_eq_false c5
     clear c5
     by_cases c8 : x5_1.length < 140737488355328
     ·rw [if_pos c8] at H
      have LMc8:=Aside0.mk c8
      clear c8
      obtain ⟨y312,hy312⟩ : ∃ y_ : List Int,y_ = (x5_1 ++ [(x1_1) % 256]):=⟨_,rfl⟩
      replace H : (some y312) = some r:=by first|(rw [hy312];with_reducible exact H)|(have H2_:=(Option.bind_some _ _).symm.trans H;rw [hy312];with_reducible exact H2_)|(have H2_:=(Option.bind_some _ _).symm.trans H;with_reducible exact H2_)|with_reducible exact H|(rw [hy312];exact H)|exact H
      have Ny312:=Aside0.mk hy312
      clear hy312
      obtain rfl:=Option.some.inj H
      go_wp2_with (first|((with_reducible refine gate_builtin (b:=.append) (xs:=#[.tmp 20,.tmp 23]) rfl ?_);at_builtin;refine Kd.R_append (Kd.int .u8) (w0:=w) w.heap.size rfl (.tmp 20) (.tmp 23) 26 5 (.int .u8 0) 1 rfl Try.underlying26 info5 rfl (by decide) (by omega) u5 x5_1 ((x1_1) % 256) [.int .u8 ((x1_1) % 256)] (fun _=>True) (fun _=>False) rfl rfl ?aP (fun _ hk=>hk.elim) ?aF ?aO ?aB ?aS ?aL ?_;(case aP=>exact rfl);(case aB=>exact (by repeat (first|(with_reducible first|exact HB.out|apply below_alloc|apply pw_below_drewN|apply below_drew1)|exact HB.out)));(case aF=>exact (fun _ _=>trivial));(case aO=>exact (by (with_reducible repeat (first|apply Kd.R_alloc|apply Kd.R_drewN|apply Kd.R_drew));exact HO_5.out));(case aS=>exact (below_size (by repeat (first|(with_reducible first|exact HB.out|apply below_alloc|apply pw_below_drewN|apply below_drew1)|exact HB.out))));(case aL=>have:=LMc8.out;omega);intro v313 w9 ho hb hg hat;rw [← Ny312.out] at ho;have n0_:=Aside0.mk (hb);have n1_:=Aside0.mk (ho);clear HB;clear HO_5;have HB:=n0_;have HO314:=n1_;clear n0_ n1_;clear ho hb hg hat))
      go_ret
      exact ⟨_,by first|rfl|(simp [errW_none,errW_some] <;> rfl)|(simp [*,errW_none,errW_some] <;> rfl),by (with_reducible repeat (first|apply Kd.R_alloc|apply Kd.R_drewN|apply Kd.R_drew));exact HO314.out,by repeat (first|(with_reducible first|exact HB.out|apply below_alloc|apply pw_below_drewN|apply below_drew1)|exact HB.out)⟩
     ·rw [if_neg c8] at H
      exact absurd H (by simp)
 ·rw [if_neg c3] at H
  exact absurd H (by simp)

end Go.Proofs.Ytjcjfghcahbbmaa.P

end

section
namespace Go.Proofs.Ytjcjfghcahbbmaa.P
open Go.RowKit Go.Proofs.YtjcjfghcahbbmaaG Go.Proofs.YtjcjfghcahbbmaaW.PrintWords Go.Proofs.YtjcjfghcahbbmaaW.PrintLast Go.Proofs.YtjcjfghcahbbmaaW.PrintMore
attribute [local go_sem] str_gtr str_geq str_leq max2_int min2_int max_two min_two max_three min_three max_four min_four   -- for this text's walks alone
set_option linter.unusedVariables false
set_option linter.unusedSimpArgs false

def ratlineref02_PutText.f (k : Nat) (l0 : List Int) (a1 : ByteArray) : Option (List Int):=(ratlineref02_Put.f k l0 (IntKind.u64.wrap ((a1.size : Int)))).bind fun t315=>(if t315.length + a1.size < 140737488355328 then (some (t315 ++ bytesOf a1)) else (none))
set_option maxHeartbeats 8000000 in
set_option maxRecDepth 100000 in
theorem ratlineref02_PutText.calls (k : Nat) (A0 : Option Addr) (c0 : Nat) (l0 : List Int) (a1 : ByteArray) (r : List Int) (w : World) (hr0 : Kd.C (Kd.int .u8) w A0 l0.length l0) (hc0 : l0.length ≤ c0) (h : ratlineref02_PutText.f k l0 a1 = some r) :
  Calls Try.prog 55 #[.slice A0 l0.length c0,.string a1] w fun e w'=>∃ v0_ : Value,e = .returned (v0_) ∧ Kd.R (Kd.int .u8) 5 w' w.heap.size (fun _=>True) v0_ r ∧ Below w.heap.size w w':=by
 have HR0:=Aside0.mk hr0
 have HC0:=Aside0.mk hc0
 clear hr0 hc0
 have HB:=Aside0.mk (Below.refl w.heap.size w)
 have H : ((ratlineref02_Put.f k l0 (IntKind.u64.wrap ((a1.size : Int)))).bind fun t315=>(if t315.length + a1.size < 140737488355328 then (some (t315 ++ bytesOf a1)) else (none))) = some r:=h
 clear h
 replace H:=Option.bind_eq_some_iff.mp H
 obtain ⟨t315,A30,H⟩:=H
 replace H : (if t315.length + a1.size < 140737488355328 then (some (t315 ++ bytesOf a1)) else (none)) = some r:=H
 have A3:=Aside0.mk A30
 clear A30
 by_cases c4 : t315.length + a1.size < 140737488355328
 ·rw [if_pos c4] at H
  have LMc4:=Aside0.mk c4
  clear c4
  obtain ⟨y318,hy318⟩ : ∃ y_ : List Int,y_ = (t315 ++ bytesOf a1):=⟨_,rfl⟩
  replace H : (some y318) = some r:=by first|(rw [hy318];with_reducible exact H)|(have H2_:=(Option.bind_some _ _).symm.trans H;rw [hy318];with_reducible exact H2_)|(have H2_:=(Option.bind_some _ _).symm.trans H;with_reducible exact H2_)|with_reducible exact H|(rw [hy318];exact H)|exact H
  have Ny318:=Aside0.mk hy318
  clear hy318
  obtain rfl:=Option.some.inj H
  go_enter Try.func55,Try.ntmps55
  go_wp2_with (first|((with_reducible refine gate_callee (f:=56) rfl ?_);refine goesL_ (some 9) rfl rfl Try.func56 (by kernel_rfl) rfl #[.slice A0 l0.length c0,.int .u64 (IntKind.u64.wrap ((a1.size : Int)))] rfl (by (try simp only [List.map_toArray,List.map_cons,List.map_nil]);first|done|rfl|(simp only [List.length_drop,List.length_take];rfl)) ?_;(with_reducible refine (ratlineref02_Put.calls k _ _ l0 (IntKind.u64.wrap ((a1.size : Int))) t315 _ ?side1 ?side2 A3.out).mono ?_);(case side1=>repeat (first|exact HR0.out|(with_reducible refine Kd.C_alloc ?_ _)|(with_reducible refine Kd.C_drewN ?_ _)|(with_reducible refine Kd.C_drew ?_)));(case side2=>exact HC0.out);rintro e w5 ⟨v316,rfl,ho0,hb⟩;refine ⟨_,rfl,?_⟩;have n0_:=Aside0.mk (Kd.R_lower ho0 (below_size (by repeat (first|(with_reducible first|exact HB.out|apply below_alloc|apply pw_below_drewN|apply below_drew1)|exact HB.out))));have n1_:=Aside0.mk (below_step (by repeat (first|(with_reducible first|exact HB.out|apply below_alloc|apply pw_below_drewN|apply below_drew1)|exact HB.out)) hb);clear HB;have HO317:=n0_;have HB:=n1_;clear n0_ n1_;(try clear hb);(try clear hb2);(try clear hk);(try clear hi);(try clear ho0))|(at_builtin;refine print_append_str (w0:=w) w.heap.size rfl (.tmp 9) _ 26 9 5 rfl Try.underlying26 Try.underlying9 info5 v316 t315 a1 rfl rfl ?aO ?aB ?aS ?aL ?_;(case aB=>exact (by repeat (first|(with_reducible first|exact HB.out|apply below_alloc|apply pw_below_drewN|apply below_drew1)|exact HB.out)));(case aO=>exact (Kd.own_of_R (by (with_reducible repeat (first|apply Kd.R_alloc|apply Kd.R_drewN|apply Kd.R_drew));exact HO317.out)));(case aS=>exact (below_size (by repeat (first|(with_reducible first|exact HB.out|apply below_alloc|apply pw_below_drewN|apply below_drew1)|exact HB.out))));(case aL=>have:=LMc4.out;omega);intro v319 w6 ho0 hb hg;have ho:=Kd.R_of_own (h1:=fun _=>rfl) (ok:=fun _=>True) ho0 (fun _ _=>trivial);clear ho0;have hat:=True.intro;rw [← Ny318.out] at ho;change Kd.R (Kd.int .u8) 5 w6 w.heap.size (fun _=>True) v319 y318 at ho;have n0_:=Aside0.mk (hb);have n1_:=Aside0.mk (ho);clear HB;clear HO317;have HB:=n0_;have HO320:=n1_;clear n0_ n1_;clear ho hb hg hat))
  go_ret
  exact ⟨_,by first|rfl|(simp [errW_none,errW_some] <;> rfl)|(simp [*,errW_none,errW_some] <;> rfl),by (with_reducible repeat (first|apply Kd.R_alloc|apply Kd.R_drewN|apply Kd.R_drew));exact HO320.out,by repeat (first|(with_reducible first|exact HB.out|apply below_alloc|apply pw_below_drewN|apply below_drew1)|exact HB.out)⟩
 ·rw [if_neg c4] at H
  exact absurd H (by simp)

end Go.Proofs.Ytjcjfghcahbbmaa.P

end

section
namespace Go.Proofs.Ytjcjfghcahbbmaa.P
open Go.RowKit Go.Proofs.YtjcjfghcahbbmaaG Go.Proofs.YtjcjfghcahbbmaaW.PrintWords Go.Proofs.YtjcjfghcahbbmaaW.PrintLast Go.Proofs.YtjcjfghcahbbmaaW.PrintMore
attribute [local go_sem] str_gtr str_geq str_leq max2_int min2_int max_two min_two max_three min_three max_four min_four   -- for this text's walks alone
set_option linter.unusedVariables false
set_option linter.unusedSimpArgs false

mutual
def ratlineref07_Build.l0 : Nat → List (S59) → List Int → List Int → Int → Int → Option (List Int × Int)
 | 0,_,_,_,_,_=>none
 | k + 1,x0,x4,x5,x6,x7=>if x7 < (x0.length : Int) then (if (Int.tmod x7 4) = 0 then ((ratlineref02_PutFour.f k x5 (((x4.length : Int)) % 4294967296)).bind fun t328=>(ratlineref07_Build.j1 k x0 x4 t328 ((x6 + 1) % 4294967296) x7)) else (ratlineref07_Build.j1 k x0 x4 x5 x6 x7)) else (if x4.length + x5.length < 140737488355328 then ((ratlineref02_PutFour.f k (x4 ++ x5) x6).bind fun t325=>(some (t325,0))) else (none))
def ratlineref07_Build.j1 : Nat → List (S59) → List Int → List Int → Int → Int → Option (List Int × Int)
 | 0,_,_,_,_,_=>none
 | k + 1,x0,x4,x5,x6,x7=>if 0 ≤ x7 then (if x7 < (x0.length : Int) then ((ratlineref07_shared.f k x0 x7).bind fun t333=>((ratlineref02_Put.f k x4 (IntKind.u64.wrap (t333))).bind fun t334=>(if 0 ≤ t333 then (if t333 ≤ (((rd_T59 x0 x7).f0.f0).size : Int) then ((ratlineref02_PutText.f k t334 (((rd_T59 x0 x7).f0.f0).extract (t333 : Int).toNat ((rd_T59 x0 x7).f0.f0).size)).bind fun t337=>((ratlineref02_Put.f k t337 (IntKind.u64.wrap ((IntKind.u64.wrap (((rd_T59 x0 x7).f0.f1) * 2)) + (IntKind.u64.wrap ((rd_T59 x0 x7).f0.f2))))).bind fun t340=>(if ((rd_T59 x0 x7).f0.f2) = 1 then ((ratlineref02_PutText.f k t340 ((rd_T59 x0 x7).f1)).bind fun t343=>(ratlineref07_Build.l0 k x0 t343 x5 x6 (wrap64 (x7 + 1)))) else (ratlineref07_Build.l0 k x0 t340 x5 x6 (wrap64 (x7 + 1)))))) else (none)) else (none)))) else (none)) else (none)
end
def ratlineref07_Build.f (k : Nat) (l0 : List (S59)) : Option (List Int × Int):=(ratlineref07_right.f k l0).bind fun t321=>(if t321 = true then (ratlineref07_Build.l0 k l0 ([] : List Int) ([] : List Int) 0 0) else (some (([] : List Int),70)))
def ratlineref07_Build.T13 : Bool × List (List Nat × List Nat):=(true,[([],[]),([],[]),([1],[1]),([0,2],[0,2]),([],[]),([4],[4]),([5],[5]),([],[]),([6,7],[6,7]),([3,8,3],[3,8]),([9,9,0,1,2,3,4,5,6,7,8,9],[0,9])])
def ratlineref07_Build.B13 : List Nat:=[0,0,2,7,0,16,48,0,240,511,1023]
theorem ratlineref07_Build.tab13 : rtab .any (opsOf Try.f23 13) = ratlineref07_Build.T13:=by kernel_rfl
theorem ratlineref07_Build.bits13 : waitsOk ratlineref07_Build.T13.2 ratlineref07_Build.B13 = true:=by kernel_rfl
set_option maxHeartbeats 8000000 in
set_option maxRecDepth 100000 in
theorem ratlineref07_Build.calls (k : Nat) (A0 : Option Addr) (c0 : Nat) (l0 : List (S59)) (r1 : List Int) (r2 : Int) (w : World) (hr0 : Kd.C k59 w A0 l0.length l0) (hc0 : l0.length ≤ c0) (h : ratlineref07_Build.f k l0 = some (r1,r2)) :
  Calls Try.prog 23 #[.slice A0 l0.length c0] w fun e w'=>∃ v0_ : Value,e = .returned (.tuple #[v0_,.int .i64 r2]) ∧ Kd.R (Kd.int .u8) 5 w' w.heap.size (fun _=>True) v0_ r1 ∧ Below w.heap.size w w':=by
 have hu59:=Try.underlying59
 have HR0:=Aside0.mk hr0
 have HC0:=Aside0.mk hc0
 clear hr0 hc0
 have HB:=Aside0.mk (Below.refl w.heap.size w)
 have H : ((ratlineref07_right.f k l0).bind fun t321=>(if t321 = true then (ratlineref07_Build.l0 k l0 ([] : List Int) ([] : List Int) 0 0) else (some (([] : List Int),70)))) = some (r1,r2):=h
 clear h
 replace H:=Option.bind_eq_some_iff.mp H
 obtain ⟨t321,A20,H⟩:=H
 replace H : (if t321 = true then (ratlineref07_Build.l0 k l0 ([] : List Int) ([] : List Int) 0 0) else (some (([] : List Int),70))) = some (r1,r2):=H
 have A2:=Aside0.mk A20
 clear A20
 by_cases c3 : t321 = true
 ·subst c3
  have H1 : (ratlineref07_Build.l0 k l0 ([] : List Int) ([] : List Int) 0 0) = some (r1,r2):=by rw [if_pos rfl] at H;exact H
  clear H
  have H:=H1
  clear H1
  have H':=Aside0.mk H
  clear H
  go_enter Try.func23,Try.ntmps23
  go_wp2_with (first|((with_reducible refine gate_callee (f:=52) rfl ?_);refine goesL_ (some 11) rfl rfl Try.func52 (by kernel_rfl) rfl #[.slice A0 l0.length c0] rfl (by (try simp only [List.map_toArray,List.map_cons,List.map_nil]);first|done|rfl|(simp only [List.length_drop,List.length_take];rfl)) ?_;(with_reducible refine (ratlineref07_right.calls k _ _ l0 true _ ?side1 ?side2 A2.out).mono ?_);(case side1=>repeat (first|exact HR0.out|(with_reducible refine Kd.C_alloc ?_ _)|(with_reducible refine Kd.C_drewN ?_ _)|(with_reducible refine Kd.C_drew ?_)));(case side2=>exact HC0.out);rintro e w4 ⟨rfl,hb⟩;refine ⟨_,rfl,?_⟩;have n0_:=Aside0.mk (below_step (by repeat (first|(with_reducible first|exact HB.out|apply below_alloc|apply pw_below_drewN|apply below_drew1)|exact HB.out)) hb);clear HB;have HB:=n0_;clear n0_;(try clear hb);(try clear hb2);(try clear hk);(try clear hi)))
  go_loopg [4,5,6,7] k (fun kq v4 v5 v6 v7 w'=>∃ (x4_1 : List Int) (x5_1 : List Int) (x6_1 : Int) (x7_1 : Int),v6 = .int .u32 x6_1 ∧ v7 = .int .i64 x7_1 ∧ Aside0 (ratlineref07_Build.l0 kq l0 x4_1 x5_1 x6_1 x7_1 = some (r1,r2)) ∧ Aside0 (kq ≤ k) ∧ Aside0 (Kd.R (Kd.int .u8) 5 w' w.heap.size (fun k_=>some k_ ≠ (v5 : Value).ownBlock) v4 x4_1) ∧ Aside0 (Kd.R (Kd.int .u8) 5 w' w.heap.size (fun k_=>some k_ ≠ (v4 : Value).ownBlock) v5 x5_1) ∧ Aside0 (Below w.heap.size w w'))
  case atStart=>exact ⟨(([] : List Int)),(([] : List Int)),(0),(0),(by first|rfl|(simp;done)|(simp [*];done)),(by first|rfl|(simp;done)|(simp [*];done)),H',⟨Nat.le_refl _⟩,⟨by first|exact Kd.R_nil _ _ _ _ _|exact Kd.N_nil _ _ _ _ _|exact Kd.V_nil _ _ _ _ _|exact Kd.Q_nil _ _ _ _ _|exact Kd.S_nil _ _ _ _ _⟩,⟨by first|exact Kd.R_nil _ _ _ _ _|exact Kd.N_nil _ _ _ _ _|exact Kd.V_nil _ _ _ _ _|exact Kd.Q_nil _ _ _ _ _|exact Kd.S_nil _ _ _ _ _⟩,⟨by repeat (first|(with_reducible first|exact HB.out|apply below_alloc|apply pw_below_drewN|apply below_drew1)|exact HB.out)⟩⟩
  case round =>
   clear H'
   try clear c2
   try clear p2
   try clear c3
   obtain ⟨x4_1,x5_1,x6_1,x7_1,rfl,rfl,HA,HK1,HO_4,HO_5,HB⟩:=hrel
   cases gk with
   | zero=>exact absurd HA.out (by simp [ratlineref07_Build.l0])
   | succ k1 =>
    have H:=HA.out
    clear HA
    simp only [ratlineref07_Build.l0] at H
    by_cases c5 : x7_1 < (l0.length : Int)
    ·rw [if_pos c5] at H
     have c5b0 : decide (x7_1 < (l0.length : Int)) = true:=decide_eq_true c5
     clear c5
     have HC6:=Aside0.mk H
     clear H
     go_upto_if 21 with (fail)
     go_cut [5,6] (fun v5 v6 wc=>∃ (kq : Nat) (x5_5 : List Int) (x6_5 : Int),v6 = .int .u32 x6_5 ∧ Aside0 (ratlineref07_Build.j1 kq l0 x4_1 x5_5 x6_5 x7_1 = some (r1,r2)) ∧ Aside0 (kq ≤ k1) ∧ Aside0 (Kd.R (Kd.int .u8) 5 wc w.heap.size (fun k_=>some k_ ≠ (v5 : Value).ownBlock) u4 x4_1) ∧ Aside0 (Kd.R (Kd.int .u8) 5 wc w.heap.size (fun k_=>some k_ ≠ (u4 : Value).ownBlock) v5 x5_5) ∧ Aside0 (Below w.heap.size w wc))
     case first =>
      have H:=HC6.out
      clear HC6
      by_cases c7 : (Int.tmod x7_1 4) = 0
      ·rw [if_pos c7] at H
       have c7b0 : ((Int.tmod x7_1 4) == 0) = true:=beq_iff_eq.mpr c7
       have c7b1 : ((Int.tmod x7_1 4) != 0) = false:=bne_eq_false_iff_eq.mpr c7
       clear c7
       (first|rw [c7b0]|(simp only [i64_w,i32_w];rw [c7b0])|skip)
       replace H:=Option.bind_eq_some_iff.mp H
       obtain ⟨t328,A80,H⟩:=H
       replace H : (ratlineref07_Build.j1 k1 l0 x4_1 t328 ((x6_1 + 1) % 4294967296) x7_1) = some (r1,r2):=H
       have A8:=Aside0.mk A80
       clear A80
       have H':=Aside0.mk H
       clear H
       obtain ⟨Ao9,co9,eo9⟩:=Kd.R_slice HO_4.out
       subst eo9
       obtain ⟨Ao10,co10,eo10⟩:=Kd.R_slice HO_5.out
       subst eo10
       go_wp2_with (first|((with_reducible refine gate_callee (f:=53) rfl ?_);refine goesL_ (some 26) rfl rfl Try.func53 (by kernel_rfl) rfl #[.slice Ao10 x5_1.length co10,.int .u32 (((x4_1.length : Int)) % 4294967296)] rfl (by (try simp only [List.map_toArray,List.map_cons,List.map_nil]);first|done|rfl|(simp only [List.length_drop,List.length_take];rfl)) ?_;(with_reducible refine (ratlineref02_PutFour.calls k1 _ _ x5_1 (((x4_1.length : Int)) % 4294967296) t328 _ ?side1 ?side2 A8.out).mono ?_);(case side1=>repeat (first|exact (Kd.R_reads' HO_5.out).2.2|(with_reducible refine Kd.C_alloc ?_ _)|(with_reducible refine Kd.C_drewN ?_ _)|(with_reducible refine Kd.C_drew ?_)));(case side2=>exact (Kd.R_reads' HO_5.out).2.1);rintro e w11 ⟨v329,rfl,ho0,hb⟩;refine ⟨_,rfl,?_⟩;have n0_:=Aside0.mk (Kd.R_elder' (by (with_reducible repeat (first|apply Kd.R_alloc|apply Kd.R_drewN|apply Kd.R_drew));exact HO_4.out) (Kd.R_base ho0) hb);have n1_:=Aside0.mk (Kd.R_elder' (by (with_reducible repeat (first|apply Kd.R_alloc|apply Kd.R_drewN|apply Kd.R_drew));exact HO_5.out) (Kd.R_base ho0) hb);have n2_:=Aside0.mk (Kd.R_lower (Kd.R_new' (Kd.R_new' ho0 (Kd.R_lt (by (with_reducible repeat (first|apply Kd.R_alloc|apply Kd.R_drewN|apply Kd.R_drew));exact HO_4.out))) (Kd.R_lt (by (with_reducible repeat (first|apply Kd.R_alloc|apply Kd.R_drewN|apply Kd.R_drew));exact HO_5.out))) (below_size (by repeat (first|(with_reducible first|exact HB.out|apply below_alloc|apply pw_below_drewN|apply below_drew1)|exact HB.out))));have n3_:=Aside0.mk (below_step (by repeat (first|(with_reducible first|exact HB.out|apply below_alloc|apply pw_below_drewN|apply below_drew1)|exact HB.out)) hb);clear HO_4;clear HO_5;clear HB;have HO_4:=n0_;have HO_5:=n1_;have HO330:=n2_;have HB:=n3_;clear n0_ n1_ n2_ n3_;(try clear hb);(try clear hb2);(try clear hk);(try clear hi);(try clear ho0)))
       go_meet
       case rel=>exact ⟨_,(t328),((x6_1 + 1) % 4294967296),(by first|rfl|(simp;done)|(simp [*];done)),H',⟨by have:=HK1.out;first|omega|exact Nat.le_refl _⟩,⟨by (with_reducible repeat (first|apply Kd.R_alloc|apply Kd.R_drewN|apply Kd.R_drew));exact Kd.R_mono HO_4.out (fun _ hk=>hk.2)⟩,⟨by (with_reducible repeat (first|apply Kd.R_alloc|apply Kd.R_drewN|apply Kd.R_drew));exact Kd.R_mono HO330.out (fun _ hk=>hk.1.2)⟩,⟨by repeat (first|(with_reducible first|exact HB.out|apply below_alloc|apply pw_below_drewN|apply below_drew1)|exact HB.out)⟩⟩
      ·rw [if_neg c7] at H
       have c7b0 : ((Int.tmod x7_1 4) == 0) = false:=beq_eq_false_iff_ne.mpr c7
       have c7b1 : ((Int.tmod x7_1 4) != 0) = true:=bne_iff_ne.mpr c7
       (first|rw [c7b0]|(simp only [i64_w,i32_w];rw [c7b0])|skip)
       have H':=Aside0.mk H
       clear H
       go_wp2
       go_meet
       case rel=>exact ⟨_,(x5_1),(x6_1),(by first|rfl|(simp;done)|(simp [*];done)),H',⟨by have:=HK1.out;first|omega|exact Nat.le_refl _⟩,⟨by (with_reducible repeat (first|apply Kd.R_alloc|apply Kd.R_drewN|apply Kd.R_drew));exact HO_4.out⟩,⟨by (with_reducible repeat (first|apply Kd.R_alloc|apply Kd.R_drewN|apply Kd.R_drew));exact HO_5.out⟩,⟨by repeat (first|(with_reducible first|exact HB.out|apply below_alloc|apply pw_below_drewN|apply below_drew1)|exact HB.out)⟩⟩
     case rest =>
      clear HC6
      try clear c2
      try clear p2
      try clear c3
      try clear c5
      try clear c5b0
      try clear c7
      try clear c7b0
      try clear c7b1
      try clear p2
      obtain ⟨kq,x5_5,x6_5,rfl,HA,HJ5,HO_4,HO_5,HB⟩:=hcut
      cases kq with
      | zero=>exact absurd HA.out (by simp [ratlineref07_Build.j1])
      | succ kj5 =>
       have H:=HA.out
       clear HA
       simp only [ratlineref07_Build.j1] at H
       by_cases c12 : 0 ≤ x7_1
       ·rw [if_pos c12] at H
        have c12b0 : decide (0 ≤ x7_1) = true:=decide_eq_true c12
        clear c12
        by_cases c13 : x7_1 < (l0.length : Int)
        ·rw [if_pos c13] at H
         have c13b0 : decide (x7_1 < (l0.length : Int)) = true:=decide_eq_true c13
         clear c13
         replace H:=Option.bind_eq_some_iff.mp H
         obtain ⟨t333,A140,H⟩:=H
         replace H : ((ratlineref02_Put.f kj5 x4_1 (IntKind.u64.wrap (t333))).bind fun t334=>(if 0 ≤ t333 then (if t333 ≤ (((rd_T59 l0 x7_1).f0.f0).size : Int) then ((ratlineref02_PutText.f kj5 t334 (((rd_T59 l0 x7_1).f0.f0).extract (t333 : Int).toNat ((rd_T59 l0 x7_1).f0.f0).size)).bind fun t337=>((ratlineref02_Put.f kj5 t337 (IntKind.u64.wrap ((IntKind.u64.wrap (((rd_T59 l0 x7_1).f0.f1) * 2)) + (IntKind.u64.wrap ((rd_T59 l0 x7_1).f0.f2))))).bind fun t340=>(if ((rd_T59 l0 x7_1).f0.f2) = 1 then ((ratlineref02_PutText.f kj5 t340 ((rd_T59 l0 x7_1).f1)).bind fun t343=>(ratlineref07_Build.l0 kj5 l0 t343 x5_5 x6_5 (wrap64 (x7_1 + 1)))) else (ratlineref07_Build.l0 kj5 l0 t340 x5_5 x6_5 (wrap64 (x7_1 + 1)))))) else (none)) else (none))) = some (r1,r2):=H
         have A14:=Aside0.mk A140
         clear A140
         replace H:=Option.bind_eq_some_iff.mp H
         obtain ⟨t334,A150,H⟩:=H
         replace H : (if 0 ≤ t333 then (if t333 ≤ (((rd_T59 l0 x7_1).f0.f0).size : Int) then ((ratlineref02_PutText.f kj5 t334 (((rd_T59 l0 x7_1).f0.f0).extract (t333 : Int).toNat ((rd_T59 l0 x7_1).f0.f0).size)).bind fun t337=>((ratlineref02_Put.f kj5 t337 (IntKind.u64.wrap ((IntKind.u64.wrap (((rd_T59 l0 x7_1).f0.f1) * 2)) + (IntKind.u64.wrap ((rd_T59 l0 x7_1).f0.f2))))).bind fun t340=>(if ((rd_T59 l0 x7_1).f0.f2) = 1 then ((ratlineref02_PutText.f kj5 t340 ((rd_T59 l0 x7_1).f1)).bind fun t343=>(ratlineref07_Build.l0 kj5 l0 t343 x5_5 x6_5 (wrap64 (x7_1 + 1)))) else (ratlineref07_Build.l0 kj5 l0 t340 x5_5 x6_5 (wrap64 (x7_1 + 1)))))) else (none)) else (none)) = some (r1,r2):=H
         have A15:=Aside0.mk A150
         clear A150
         by_cases c16 : 0 ≤ t333
         ·rw [if_pos c16] at H
          have c16b0:=eq_true c16
          have c16b1 : decide (0 ≤ t333) = true:=decide_eq_true c16
          clear c16
          by_cases c17 : t333 ≤ (((rd_T59 l0 x7_1).f0.f0).size : Int)
          ·rw [if_pos c17] at H
           have c17b0:=eq_true c17
           have c17b1 : decide (t333 ≤ (((rd_T59 l0 x7_1).f0.f0).size : Int)) = true:=decide_eq_true c17
           clear c17
           replace H:=Option.bind_eq_some_iff.mp H
           obtain ⟨t337,A180,H⟩:=H
           replace H : ((ratlineref02_Put.f kj5 t337 (IntKind.u64.wrap ((IntKind.u64.wrap (((rd_T59 l0 x7_1).f0.f1) * 2)) + (IntKind.u64.wrap ((rd_T59 l0 x7_1).f0.f2))))).bind fun t340=>(if ((rd_T59 l0 x7_1).f0.f2) = 1 then ((ratlineref02_PutText.f kj5 t340 ((rd_T59 l0 x7_1).f1)).bind fun t343=>(ratlineref07_Build.l0 kj5 l0 t343 x5_5 x6_5 (wrap64 (x7_1 + 1)))) else (ratlineref07_Build.l0 kj5 l0 t340 x5_5 x6_5 (wrap64 (x7_1 + 1))))) = some (r1,r2):=H
           have A18:=Aside0.mk A180
           clear A180
           replace H:=Option.bind_eq_some_iff.mp H
           obtain ⟨t340,A190,H⟩:=H
           replace H : (if ((rd_T59 l0 x7_1).f0.f2) = 1 then ((ratlineref02_PutText.f kj5 t340 ((rd_T59 l0 x7_1).f1)).bind fun t343=>(ratlineref07_Build.l0 kj5 l0 t343 x5_5 x6_5 (wrap64 (x7_1 + 1)))) else (ratlineref07_Build.l0 kj5 l0 t340 x5_5 x6_5 (wrap64 (x7_1 + 1)))) = some (r1,r2):=H
           have A19:=Aside0.mk A190
           clear A190
           by_cases c20 : ((rd_T59 l0 x7_1).f0.f2) = 1
           ·rw [if_pos c20] at H
            have c20b0 : (((rd_T59 l0 x7_1).f0.f2) == 1) = true:=beq_iff_eq.mpr c20
            have c20b1 : (((rd_T59 l0 x7_1).f0.f2) != 1) = false:=bne_eq_false_iff_eq.mpr c20
            clear c20
            replace H:=Option.bind_eq_some_iff.mp H
            obtain ⟨t343,A210,H⟩:=H
            replace H : (ratlineref07_Build.l0 kj5 l0 t343 x5_5 x6_5 (wrap64 (x7_1 + 1))) = some (r1,r2):=H
            have A21:=Aside0.mk A210
            clear A210
            have H':=Aside0.mk H
            clear H
            have p331 : 0 ≤ (x7_1 : Int):=of_decide_eq_true (by first|(with_reducible assumption)|assumption)
            have q331 : x7_1 < (l0.length : Int):=of_decide_eq_true (by first|(with_reducible assumption)|assumption)
            obtain ⟨ad331,e331,hx331_0,hx331_1,hx331_2,hx331_3⟩:=at_T59 HR0.out x7_1 p331 q331
            cases e331
            replace hx331_0:=(HB.out.cell (World.block_lt_of_cell? w _ hx331_0)).trans hx331_0
            replace hx331_1:=(HB.out.cell (World.block_lt_of_cell? w _ hx331_1)).trans hx331_1
            replace hx331_2:=(HB.out.cell (World.block_lt_of_cell? w _ hx331_2)).trans hx331_2
            replace hx331_3:=(HB.out.cell (World.block_lt_of_cell? w _ hx331_3)).trans hx331_3
            replace p331:=eq_true p331
            replace q331:=eq_true q331
            try go_wp2_with (first|((with_reducible refine gate_dst (N:=8) rfl ?_);refine box_event ?hg (N:=8) ?hd (cs:=#[.string (⟨#[]⟩ : ByteArray),.int .u64 0,.int .u8 0,.string (⟨#[]⟩ : ByteArray)]) (t:=59) ?hr ?_;(case hd=>rfl);(case hg=>rfl);(case hr=>first|(go_simp;done)|(go_simp;rfl));intro gb332 hg w22 hbox hb;have n0_:=Aside0.mk (Kd.R_below (by (with_reducible repeat (first|apply Kd.R_alloc|apply Kd.R_drewN|apply Kd.R_drew));exact HO_4.out) hb);have n1_:=Aside0.mk (Kd.R_below (by (with_reducible repeat (first|apply Kd.R_alloc|apply Kd.R_drewN|apply Kd.R_drew));exact HO_5.out) hb);have n2_:=Aside0.mk (below_step (by repeat (first|(with_reducible first|exact HB.out|apply below_alloc|apply pw_below_drewN|apply below_drew1)|exact HB.out)) hb);have n3_:=Aside0.mk (hbox);have n4_:=Aside0.mk ((by rw [hg];exact (below_size (by repeat (first|(with_reducible first|exact HB.out|apply below_alloc|apply pw_below_drewN|apply below_drew1)|exact HB.out))) : w.heap.size ≤ gb332));have n5_:=Aside0.mk ((by rw [hg];exact (below_size (by repeat (first|(with_reducible first|exact HB.out|apply below_alloc|apply pw_below_drewN|apply below_drew1)|exact HB.out))) : w.heap.size ≤ gb332));clear HO_4;clear HO_5;clear HB;have HO_4:=n0_;have HO_5:=n1_;have HB:=n2_;have BK332:=n3_;have GW332:=n4_;have GE332:=n5_;clear n0_ n1_ n2_ n3_ n4_ n5_;clear hb hbox hg;have hcz23_0 : w22.cell? ⟨gb332,0,none⟩ = some (.string (⟨#[]⟩ : ByteArray)):=(blk_cell BK332.out 0).trans rfl;have hcz23_1 : w22.cell? ⟨gb332,1,none⟩ = some (.int .u64 0):=(blk_cell BK332.out 1).trans rfl;have hcz23_2 : w22.cell? ⟨gb332,2,none⟩ = some (.int .u8 0):=(blk_cell BK332.out 2).trans rfl;have hcz23_3 : w22.cell? ⟨gb332,3,none⟩ = some (.string (⟨#[]⟩ : ByteArray)):=(blk_cell BK332.out 3).trans rfl;have hfz23_0:=blk_frozen BK332.out 0;have hfz23_1:=blk_frozen BK332.out 1;have hfz23_2:=blk_frozen BK332.out 2;have hfz23_3:=blk_frozen BK332.out 3)|((with_reducible refine gate_callee (f:=54) rfl ?_);refine goesL_ (some 35) rfl rfl Try.func54 (by kernel_rfl) rfl #[.slice (some ad331) l0.length c0,.int .i64 x7_1] rfl (by (try simp only [List.map_toArray,List.map_cons,List.map_nil]);first|done|rfl|(simp only [List.length_drop,List.length_take];rfl)) ?_;(with_reducible refine (ratlineref07_shared.calls kj5 _ _ l0 x7_1 t333 _ ?side1 ?side2 A14.out).mono ?_);(case side1=>exact Kd.C_below HR0.out (by repeat (first|(with_reducible first|exact HB.out|apply below_alloc|apply pw_below_drewN|apply below_drew1|refine below_set ?_ GE332.out)|exact HB.out)));(case side2=>exact HC0.out);rintro e w' ⟨rfl,⟨nd,rfl⟩⟩;refine ⟨_,rfl,?_⟩))
            have n0_ : Aside0 (Kd.R (Kd.int .u8) 5 ((((w22.setCell ⟨gb332,0,none⟩ (.string ((rd_T59 l0 x7_1).f0.f0))).setCell ⟨gb332,1,none⟩ (.int .u64 ((rd_T59 l0 x7_1).f0.f1))).setCell ⟨gb332,2,none⟩ (.int .u8 ((rd_T59 l0 x7_1).f0.f2))).setCell ⟨gb332,3,none⟩ (.string ((rd_T59 l0 x7_1).f1))) w.heap.size (fun k_=>some k_ ≠ (u5 : Value).ownBlock) u4 x4_1):=⟨by (with_reducible repeat (first|apply Kd.R_alloc|apply Kd.R_drewN|apply Kd.R_drew));exact Kd.R_mono (Kd.R_far (p:=⟨gb332,3,none⟩) (Kd.R_far (p:=⟨gb332,2,none⟩) (Kd.R_far (p:=⟨gb332,1,none⟩) (Kd.R_far (p:=⟨gb332,0,none⟩) (Kd.R_types HO_4.out BK332.out (by decide)) (fun _ hk=>hk.2) (.string ((rd_T59 l0 x7_1).f0.f0))) (fun _ hk=>hk.2) (.int .u64 ((rd_T59 l0 x7_1).f0.f1))) (fun _ hk=>hk.2) (.int .u8 ((rd_T59 l0 x7_1).f0.f2))) (fun _ hk=>hk.2) (.string ((rd_T59 l0 x7_1).f1))) (fun _ hk=>hk.1)⟩
            have n1_ : Aside0 (Kd.R (Kd.int .u8) 5 ((((w22.setCell ⟨gb332,0,none⟩ (.string ((rd_T59 l0 x7_1).f0.f0))).setCell ⟨gb332,1,none⟩ (.int .u64 ((rd_T59 l0 x7_1).f0.f1))).setCell ⟨gb332,2,none⟩ (.int .u8 ((rd_T59 l0 x7_1).f0.f2))).setCell ⟨gb332,3,none⟩ (.string ((rd_T59 l0 x7_1).f1))) w.heap.size (fun k_=>some k_ ≠ (u4 : Value).ownBlock) u5 x5_5):=⟨by (with_reducible repeat (first|apply Kd.R_alloc|apply Kd.R_drewN|apply Kd.R_drew));exact Kd.R_mono (Kd.R_far (p:=⟨gb332,3,none⟩) (Kd.R_far (p:=⟨gb332,2,none⟩) (Kd.R_far (p:=⟨gb332,1,none⟩) (Kd.R_far (p:=⟨gb332,0,none⟩) (Kd.R_types HO_5.out BK332.out (by decide)) (fun _ hk=>hk.2) (.string ((rd_T59 l0 x7_1).f0.f0))) (fun _ hk=>hk.2) (.int .u64 ((rd_T59 l0 x7_1).f0.f1))) (fun _ hk=>hk.2) (.int .u8 ((rd_T59 l0 x7_1).f0.f2))) (fun _ hk=>hk.2) (.string ((rd_T59 l0 x7_1).f1))) (fun _ hk=>hk.1)⟩
            have n2_ : Aside0 (((((w22.setCell ⟨gb332,0,none⟩ (.string ((rd_T59 l0 x7_1).f0.f0))).setCell ⟨gb332,1,none⟩ (.int .u64 ((rd_T59 l0 x7_1).f0.f1))).setCell ⟨gb332,2,none⟩ (.int .u8 ((rd_T59 l0 x7_1).f0.f2))).setCell ⟨gb332,3,none⟩ (.string ((rd_T59 l0 x7_1).f1))).heap[gb332]? = some (.cells #[.string ((rd_T59 l0 x7_1).f0.f0),.int .u64 ((rd_T59 l0 x7_1).f0.f1),.int .u8 ((rd_T59 l0 x7_1).f0.f2),.string ((rd_T59 l0 x7_1).f1)] 59 (0,0))):=⟨by (with_reducible repeat (first|refine blk_drewN ?_ _|refine blk_drew ?_|refine blk_alloc ?_ _));refine blk_put (cs:=#[.string ((rd_T59 l0 x7_1).f0.f0),.int .u64 ((rd_T59 l0 x7_1).f0.f1),.int .u8 ((rd_T59 l0 x7_1).f0.f2),.string (⟨#[]⟩ : ByteArray)]) ?_ 3 _ rfl;(with_reducible repeat (first|refine blk_drewN ?_ _|refine blk_drew ?_|refine blk_alloc ?_ _));refine blk_put (cs:=#[.string ((rd_T59 l0 x7_1).f0.f0),.int .u64 ((rd_T59 l0 x7_1).f0.f1),.int .u8 0,.string (⟨#[]⟩ : ByteArray)]) ?_ 2 _ rfl;(with_reducible repeat (first|refine blk_drewN ?_ _|refine blk_drew ?_|refine blk_alloc ?_ _));refine blk_put (cs:=#[.string ((rd_T59 l0 x7_1).f0.f0),.int .u64 0,.int .u8 0,.string (⟨#[]⟩ : ByteArray)]) ?_ 1 _ rfl;(with_reducible repeat (first|refine blk_drewN ?_ _|refine blk_drew ?_|refine blk_alloc ?_ _));refine blk_put (cs:=#[.string (⟨#[]⟩ : ByteArray),.int .u64 0,.int .u8 0,.string (⟨#[]⟩ : ByteArray)]) ?_ 0 _ rfl;(with_reducible repeat (first|refine blk_drewN ?_ _|refine blk_drew ?_|refine blk_alloc ?_ _));exact BK332.out⟩
            have n3_ : Aside0 (Below w.heap.size w ((((w22.setCell ⟨gb332,0,none⟩ (.string ((rd_T59 l0 x7_1).f0.f0))).setCell ⟨gb332,1,none⟩ (.int .u64 ((rd_T59 l0 x7_1).f0.f1))).setCell ⟨gb332,2,none⟩ (.int .u8 ((rd_T59 l0 x7_1).f0.f2))).setCell ⟨gb332,3,none⟩ (.string ((rd_T59 l0 x7_1).f1)))):=⟨by repeat (first|(with_reducible first|exact HB.out|apply below_alloc|apply pw_below_drewN|apply below_drew1|refine below_set ?_ GE332.out)|exact HB.out)⟩
            (try clear HO_4)
            (try clear HO_5)
            (try clear BK332)
            (try clear HB)
            generalize ((((w22.setCell ⟨gb332,0,none⟩ (.string ((rd_T59 l0 x7_1).f0.f0))).setCell ⟨gb332,1,none⟩ (.int .u64 ((rd_T59 l0 x7_1).f0.f1))).setCell ⟨gb332,2,none⟩ (.int .u8 ((rd_T59 l0 x7_1).f0.f2))).setCell ⟨gb332,3,none⟩ (.string ((rd_T59 l0 x7_1).f1))) = w24 at n0_ n1_ n2_ n3_ ⊢
            have HO_4:=n0_
            have HO_5:=n1_
            have BK332:=n2_
            have HB:=n3_
            clear n0_ n1_ n2_ n3_
            (try (rw [drewN_self w24];generalize hq_ : World.drewN w24 _ = w24;have n0_ : Aside0 (Kd.R (Kd.int .u8) 5 w24 w.heap.size (fun k_=>some k_ ≠ (u5 : Value).ownBlock) u4 x4_1):=⟨by rw [← hq_];exact (by (with_reducible repeat (first|apply Kd.R_alloc|apply Kd.R_drewN|apply Kd.R_drew));exact HO_4.out)⟩;have n1_ : Aside0 (Kd.R (Kd.int .u8) 5 w24 w.heap.size (fun k_=>some k_ ≠ (u4 : Value).ownBlock) u5 x5_5):=⟨by rw [← hq_];exact (by (with_reducible repeat (first|apply Kd.R_alloc|apply Kd.R_drewN|apply Kd.R_drew));exact HO_5.out)⟩;have n2_ : Aside0 (w24.heap[gb332]? = some (.cells #[.string ((rd_T59 l0 x7_1).f0.f0),.int .u64 ((rd_T59 l0 x7_1).f0.f1),.int .u8 ((rd_T59 l0 x7_1).f0.f2),.string ((rd_T59 l0 x7_1).f1)] 59 (0,0))):=⟨by rw [← hq_];exact (by (with_reducible repeat (first|refine blk_drewN ?_ _|refine blk_drew ?_|refine blk_alloc ?_ _));exact BK332.out)⟩;have n3_ : Aside0 (Below w.heap.size w w24):=⟨by rw [← hq_];exact (by repeat (first|(with_reducible first|exact HB.out|apply below_alloc|apply pw_below_drewN|apply below_drew1|refine below_set ?_ GE332.out)|exact HB.out))⟩;clear HO_4 HO_5 BK332 HB hq_;have HO_4:=n0_;have HO_5:=n1_;have BK332:=n2_;have HB:=n3_;clear n0_ n1_ n2_ n3_))
            have n0_:=Aside0.mk (Kd.R_drew HO_4.out)
            have n1_:=Aside0.mk (Kd.R_drew HO_5.out)
            have n2_:=Aside0.mk (blk_drew BK332.out)
            have n3_:=Aside0.mk (below_drew1 HB.out)
            clear HO_4
            clear HO_5
            clear BK332
            clear HB
            have HO_4:=n0_
            have HO_5:=n1_
            have BK332:=n2_
            have HB:=n3_
            clear n0_ n1_ n2_ n3_
            obtain ⟨Ao26,co26,eo26⟩:=Kd.R_slice HO_4.out
            (first|subst eo26|(injection eo26 with f1_ f2_ f3_;have f4_:=f1_.symm;have f5_:=f3_.symm;clear f1_ f2_ f3_;subst f4_;subst f5_))
            refine start_ (n:=11) (S:=fun w'=>w'.cell? ⟨gb332,0,none⟩ = some (.string ((rd_T59 l0 x7_1).f0.f0)) ∧ w'.cell? ⟨gb332,1,none⟩ = some (.int .u64 ((rd_T59 l0 x7_1).f0.f1)) ∧ w'.cell? ⟨gb332,2,none⟩ = some (.int .u8 ((rd_T59 l0 x7_1).f0.f2)) ∧ w'.cell? ⟨gb332,3,none⟩ = some (.string ((rd_T59 l0 x7_1).f1))) (ds:=[]) #[false,false,false,false,false,false,false,false,false,false,false] (by kernel_rfl) rfl rfl ⟨(blk_cell BK332.out 0).trans rfl,(blk_cell BK332.out 1).trans rfl,(blk_cell BK332.out 2).trans rfl,(blk_cell BK332.out 3).trans rfl⟩ (fun hHeld=>?_);refine with_tabW ratlineref07_Build.tab13 ratlineref07_Build.bits13 (fun HT_ HW_=>?_)
            generalize w24.drew = w25 at HO_4 HO_5 BK332 HB hHeld ⊢
            refine pure_ (i:=0) (N:=some 36) (v:=?_) (a':=?_) #[true,false,false,false,false,false,false,false,false,false,false] rfl rfl (any_of HT_.out (by kernel_rfl)) (fun _ _ _ h=>h) (Or.inl ⟨by rfl,?_⟩) ?_ ?_
            rotate_left
            ·intro w'
             go_simp
             with_reducible rfl
            rotate_left
            ·simp only [Act.put,List.setIfInBounds_toArray,List.set_cons_zero,List.set_cons_succ,i64_w,i32_w]
             rfl
            refine pure_ (i:=1) (N:=some 37) (v:=?_) (a':=?_) #[true,true,false,false,false,false,false,false,false,false,false] rfl rfl (any_of HT_.out (by kernel_rfl)) (fun _ _ _ h=>h) (Or.inl ⟨by rfl,?_⟩) ?_ ?_
            rotate_left
            ·intro w'
             go_simp
             with_reducible rfl
            rotate_left
            ·simp only [Act.put,List.setIfInBounds_toArray,List.set_cons_zero,List.set_cons_succ,i64_w,i32_w]
             rfl
            refine pure_ (i:=2) (N:=some 38) (v:=?_) (a':=?_) #[true,true,true,false,false,false,false,false,false,false,false] rfl rfl (any_of HT_.out (by kernel_rfl)) (fun _ _ _ h=>h) (Or.inl ⟨by rfl,?_⟩) ?_ ?_
            rotate_left
            ·intro w'
             go_simp
             with_reducible rfl
            rotate_left
            ·simp only [Act.put,List.setIfInBounds_toArray,List.set_cons_zero,List.set_cons_succ,i64_w,i32_w]
             rfl
            refine pure_ (i:=4) (N:=some 40) (v:=?_) (a':=?_) #[true,true,true,false,true,false,false,false,false,false,false] rfl rfl (any_of HT_.out (by kernel_rfl)) (fun _ _ _ h=>h) (Or.inl ⟨by rfl,?_⟩) ?_ ?_
            rotate_left
            ·intro w'
             go_simp
             with_reducible rfl
            rotate_left
            ·simp only [Act.put,List.setIfInBounds_toArray,List.set_cons_zero,List.set_cons_succ,i64_w,i32_w]
             rfl
            refine pure_ (i:=5) (N:=some 41) (v:=?_) (a':=?_) #[true,true,true,false,true,true,false,false,false,false,false] rfl rfl (any_of HT_.out (by kernel_rfl)) (fun _ _ _ h=>h) (Or.inl ⟨by rfl,?_⟩) ?_ ?_
            rotate_left
            ·intro w'
             go_simp
             with_reducible rfl
            rotate_left
            ·simp only [Act.put,List.setIfInBounds_toArray,List.set_cons_zero,List.set_cons_succ,i64_w,i32_w]
             rfl
            refine pure_ (i:=7) (N:=some 43) (v:=?_) (a':=?_) #[true,true,true,false,true,true,false,true,false,false,false] rfl rfl (any_of HT_.out (by kernel_rfl)) (fun _ _ _ h=>h) (Or.inl ⟨by rfl,?_⟩) ?_ ?_
            rotate_left
            ·intro w'
             go_simp
             with_reducible rfl
            rotate_left
            ·simp only [Act.put,List.setIfInBounds_toArray,List.set_cons_zero,List.set_cons_succ,i64_w,i32_w]
             rfl
            refine take_ (i:=6) (N:=some 42) (v:=?_) (a':=?_) #[true,true,true,false,true,true,true,true,false,false,false] rfl rfl (take_ofW HT_.out HW_.out (by kernel_rfl)) (fun _ _ _ h=>h) (Or.inl ⟨by rfl,?_⟩) hHeld ?_ ?_
            rotate_left
            ·rintro w' ⟨s0,s1,s2,s3⟩
             go_simp
             with_reducible rfl
            rotate_left
            ·simp only [Act.put,List.setIfInBounds_toArray,List.set_cons_zero,List.set_cons_succ,i64_w,i32_w]
             rfl
            refine pure_ (i:=8) (N:=some 44) (v:=?_) (a':=?_) #[true,true,true,false,true,true,true,true,true,false,false] rfl rfl (any_of HT_.out (by kernel_rfl)) (fun _ _ _ h=>h) (Or.inl ⟨by rfl,?_⟩) ?_ ?_
            rotate_left
            ·intro w'
             go_simp
             with_reducible rfl
            rotate_left
            ·simp only [Act.put,List.setIfInBounds_toArray,List.set_cons_zero,List.set_cons_succ,i64_w,i32_w]
             rfl
            refine one_ (i:=3) (N:=some 39) #[true,true,true,true,true,true,true,true,true,false,false] rfl rfl (one_of HT_.out (by kernel_rfl)) (by decide) (fun K hK=>?_)
            refine goes_ Try.func56 (by kernel_rfl) rfl #[.slice Ao26 x4_1.length co26,.int .u64 (IntKind.u64.wrap (t333))] (by rfl) rfl rfl (by (try simp only [List.map_toArray,List.map_cons,List.map_nil]);first|done|rfl|(simp only [List.length_drop,List.length_take];rfl)) ?_
            with_reducible refine (ratlineref02_Put.calls kj5 _ _ x4_1 (IntKind.u64.wrap (t333)) t334 _ ?side1 ?side2 A15.out).mono ?_
            (case side1=>repeat (first|exact (Kd.R_reads' HO_4.out).2.2|(with_reducible refine Kd.C_alloc ?_ _)|(with_reducible refine Kd.C_drewN ?_ _)|(with_reducible refine Kd.C_drew ?_)))
            (case side2=>exact (Kd.R_reads' HO_4.out).2.1)
            rintro e w27 ⟨v335,rfl,ho0,hb⟩
            refine ⟨_,rfl,?_⟩
            have n0_:=Aside0.mk (Kd.R_elder' (by (with_reducible repeat (first|apply Kd.R_alloc|apply Kd.R_drewN|apply Kd.R_drew));exact HO_4.out) (Kd.R_base ho0) hb)
            have n1_:=Aside0.mk (Kd.R_elder' (by (with_reducible repeat (first|apply Kd.R_alloc|apply Kd.R_drewN|apply Kd.R_drew));exact HO_5.out) (Kd.R_base ho0) hb)
            have n2_:=Aside0.mk (Kd.R_lower (Kd.R_new' (Kd.R_new' ho0 (Kd.R_lt (by (with_reducible repeat (first|apply Kd.R_alloc|apply Kd.R_drewN|apply Kd.R_drew));exact HO_4.out))) (Kd.R_lt (by (with_reducible repeat (first|apply Kd.R_alloc|apply Kd.R_drewN|apply Kd.R_drew));exact HO_5.out))) (below_size (by repeat (first|(with_reducible first|exact HB.out|apply below_alloc|apply pw_below_drewN|apply below_drew1|refine below_set ?_ GE332.out)|exact HB.out))))
            have n3_:=Aside0.mk (blk_below (g:=gb332) (o:=.cells #[.string ((rd_T59 l0 x7_1).f0.f0),.int .u64 ((rd_T59 l0 x7_1).f0.f1),.int .u8 ((rd_T59 l0 x7_1).f0.f2),.string ((rd_T59 l0 x7_1).f1)] 59 (0,0)) (by (with_reducible repeat (first|refine blk_drewN ?_ _|refine blk_drew ?_|refine blk_alloc ?_ _));exact BK332.out) hb)
            have n4_:=Aside0.mk (below_step (by repeat (first|(with_reducible first|exact HB.out|apply below_alloc|apply pw_below_drewN|apply below_drew1|refine below_set ?_ GE332.out)|exact HB.out)) hb)
            clear HO_4
            clear HO_5
            clear BK332
            clear HB
            have HO_4:=n0_
            have HO_5:=n1_
            have HO336:=n2_
            have BK332:=n3_
            have HB:=n4_
            clear n0_ n1_ n2_ n3_ n4_
            (try clear hb)
            (try clear hb2)
            (try clear hk)
            (try clear hi)
            (try clear ho0)
            obtain ⟨Ao28,co28,eo28⟩:=Kd.R_slice HO336.out
            (first|subst eo28|(injection eo28 with f1_ f2_ f3_;have f4_:=f1_.symm;have f5_:=f3_.symm;clear f1_ f2_ f3_;subst f4_;subst f5_))
            refine hK.out _ _ ⟨(blk_cell BK332.out 0).trans rfl,(blk_cell BK332.out 1).trans rfl,(blk_cell BK332.out 2).trans rfl,(blk_cell BK332.out 3).trans rfl⟩ (fun hHeld=>?_)
            clear hK K
            refine norm_ (a':=?_) ?_ ?_
            rotate_left
            ·show Act.put _ (some 39) _ = _
             simp only [Act.put,List.setIfInBounds_toArray,List.set_cons_zero,List.set_cons_succ,i64_w,i32_w]
             rfl
            refine one_ (i:=9) (N:=some 45) #[true,true,true,true,true,true,true,true,true,true,false] rfl rfl (one_of HT_.out (by kernel_rfl)) (by decide) (fun K hK=>?_)
            refine goes_ Try.func55 (by kernel_rfl) rfl #[.slice Ao28 t334.length co28,.string (((rd_T59 l0 x7_1).f0.f0).extract (t333 : Int).toNat ((rd_T59 l0 x7_1).f0.f0).size)] (by rfl) rfl rfl (by (try simp only [List.map_toArray,List.map_cons,List.map_nil]);first|done|rfl|(simp only [List.length_drop,List.length_take];rfl)) ?_
            with_reducible refine (ratlineref02_PutText.calls kj5 _ _ t334 (((rd_T59 l0 x7_1).f0.f0).extract (t333 : Int).toNat ((rd_T59 l0 x7_1).f0.f0).size) t337 _ ?side1 ?side2 A18.out).mono ?_
            (case side1=>repeat (first|exact (Kd.R_reads' HO336.out).2.2|(with_reducible refine Kd.C_alloc ?_ _)|(with_reducible refine Kd.C_drewN ?_ _)|(with_reducible refine Kd.C_drew ?_)))
            (case side2=>exact (Kd.R_reads' HO336.out).2.1)
            rintro e w29 ⟨v338,rfl,ho0,hb⟩
            refine ⟨_,rfl,?_⟩
            have n0_:=Aside0.mk (Kd.R_elder' (by (with_reducible repeat (first|apply Kd.R_alloc|apply Kd.R_drewN|apply Kd.R_drew));exact HO_4.out) (Kd.R_base ho0) hb)
            have n1_:=Aside0.mk (Kd.R_elder' (by (with_reducible repeat (first|apply Kd.R_alloc|apply Kd.R_drewN|apply Kd.R_drew));exact HO_5.out) (Kd.R_base ho0) hb)
            have n2_:=Aside0.mk (Kd.R_elder' (by (with_reducible repeat (first|apply Kd.R_alloc|apply Kd.R_drewN|apply Kd.R_drew));exact HO336.out) (Kd.R_base ho0) hb)
            have n3_:=Aside0.mk (Kd.R_lower (Kd.R_new' (Kd.R_new' (Kd.R_new' ho0 (Kd.R_lt (by (with_reducible repeat (first|apply Kd.R_alloc|apply Kd.R_drewN|apply Kd.R_drew));exact HO_4.out))) (Kd.R_lt (by (with_reducible repeat (first|apply Kd.R_alloc|apply Kd.R_drewN|apply Kd.R_drew));exact HO_5.out))) (Kd.R_lt (by (with_reducible repeat (first|apply Kd.R_alloc|apply Kd.R_drewN|apply Kd.R_drew));exact HO336.out))) (below_size (by repeat (first|(with_reducible first|exact HB.out|apply below_alloc|apply pw_below_drewN|apply below_drew1|refine below_set ?_ GE332.out)|exact HB.out))))
            have n4_:=Aside0.mk (blk_below (g:=gb332) (o:=.cells #[.string ((rd_T59 l0 x7_1).f0.f0),.int .u64 ((rd_T59 l0 x7_1).f0.f1),.int .u8 ((rd_T59 l0 x7_1).f0.f2),.string ((rd_T59 l0 x7_1).f1)] 59 (0,0)) (by (with_reducible repeat (first|refine blk_drewN ?_ _|refine blk_drew ?_|refine blk_alloc ?_ _));exact BK332.out) hb)
            have n5_:=Aside0.mk (below_step (by repeat (first|(with_reducible first|exact HB.out|apply below_alloc|apply pw_below_drewN|apply below_drew1|refine below_set ?_ GE332.out)|exact HB.out)) hb)
            clear HO_4
            clear HO_5
            clear HO336
            clear BK332
            clear HB
            have HO_4:=n0_
            have HO_5:=n1_
            have HO336:=n2_
            have HO339:=n3_
            have BK332:=n4_
            have HB:=n5_
            clear n0_ n1_ n2_ n3_ n4_ n5_
            (try clear hb)
            (try clear hb2)
            (try clear hk)
            (try clear hi)
            (try clear ho0)
            refine hK.out _ _ ⟨(blk_cell BK332.out 0).trans rfl,(blk_cell BK332.out 1).trans rfl,(blk_cell BK332.out 2).trans rfl,(blk_cell BK332.out 3).trans rfl⟩ (fun hHeld=>?_)
            clear hK K
            refine norm_ (a':=?_) ?_ ?_
            rotate_left
            ·show Act.put _ (some 45) _ = _
             simp only [Act.put,List.setIfInBounds_toArray,List.set_cons_zero,List.set_cons_succ,i64_w,i32_w]
             rfl
            refine pure_ (i:=10) (N:=some 4) (v:=?_) (a':=?_) #[true,true,true,true,true,true,true,true,true,true,true] rfl rfl (any_of HT_.out (by kernel_rfl)) (fun _ _ _ h=>h) (Or.inl ⟨by rfl,?_⟩) ?_ ?_
            rotate_left
            ·intro w'
             go_simp
             with_reducible rfl
            rotate_left
            ·simp only [Act.put,List.setIfInBounds_toArray,List.set_cons_zero,List.set_cons_succ,i64_w,i32_w]
             rfl
            refine done_ (done_of HT_.out (by kernel_rfl)) ?_
            have hcz30_0 : w29.cell? ⟨gb332,0,none⟩ = some (.string ((rd_T59 l0 x7_1).f0.f0)):=(blk_cell BK332.out 0).trans rfl
            have hcz30_1 : w29.cell? ⟨gb332,1,none⟩ = some (.int .u64 ((rd_T59 l0 x7_1).f0.f1)):=(blk_cell BK332.out 1).trans rfl
            have hcz30_2 : w29.cell? ⟨gb332,2,none⟩ = some (.int .u8 ((rd_T59 l0 x7_1).f0.f2)):=(blk_cell BK332.out 2).trans rfl
            have hcz30_3 : w29.cell? ⟨gb332,3,none⟩ = some (.string ((rd_T59 l0 x7_1).f1)):=(blk_cell BK332.out 3).trans rfl
            have hfz30_0:=blk_frozen BK332.out 0
            have hfz30_1:=blk_frozen BK332.out 1
            have hfz30_2:=blk_frozen BK332.out 2
            have hfz30_3:=blk_frozen BK332.out 3
            obtain ⟨Ao31,co31,eo31⟩:=Kd.R_slice HO339.out
            subst eo31
            try go_wp2_with (first|((with_reducible refine gate_callee (f:=56) rfl ?_);refine goesL_ (some 56) rfl rfl Try.func56 (by kernel_rfl) rfl #[.slice Ao31 t337.length co31,.int .u64 (IntKind.u64.wrap ((IntKind.u64.wrap (((rd_T59 l0 x7_1).f0.f1) * 2)) + (IntKind.u64.wrap ((rd_T59 l0 x7_1).f0.f2))))] rfl (by (try simp only [List.map_toArray,List.map_cons,List.map_nil]);first|done|rfl|(simp only [List.length_drop,List.length_take];rfl)) ?_;(with_reducible refine (ratlineref02_Put.calls kj5 _ _ t337 (IntKind.u64.wrap ((IntKind.u64.wrap (((rd_T59 l0 x7_1).f0.f1) * 2)) + (IntKind.u64.wrap ((rd_T59 l0 x7_1).f0.f2)))) t340 _ ?side1 ?side2 A19.out).mono ?_);(case side1=>repeat (first|exact (Kd.R_reads' HO339.out).2.2|(with_reducible refine Kd.C_alloc ?_ _)|(with_reducible refine Kd.C_drewN ?_ _)|(with_reducible refine Kd.C_drew ?_)));(case side2=>exact (Kd.R_reads' HO339.out).2.1);rintro e w32 ⟨v341,rfl,ho0,hb⟩;refine ⟨_,rfl,?_⟩;have n0_:=Aside0.mk (Kd.R_elder' (by (with_reducible repeat (first|apply Kd.R_alloc|apply Kd.R_drewN|apply Kd.R_drew));exact HO_4.out) (Kd.R_base ho0) hb);have n1_:=Aside0.mk (Kd.R_elder' (by (with_reducible repeat (first|apply Kd.R_alloc|apply Kd.R_drewN|apply Kd.R_drew));exact HO_5.out) (Kd.R_base ho0) hb);have n2_:=Aside0.mk (Kd.R_elder' (by (with_reducible repeat (first|apply Kd.R_alloc|apply Kd.R_drewN|apply Kd.R_drew));exact HO336.out) (Kd.R_base ho0) hb);have n3_:=Aside0.mk (Kd.R_elder' (by (with_reducible repeat (first|apply Kd.R_alloc|apply Kd.R_drewN|apply Kd.R_drew));exact HO339.out) (Kd.R_base ho0) hb);have n4_:=Aside0.mk (Kd.R_lower (Kd.R_new' (Kd.R_new' (Kd.R_new' (Kd.R_new' ho0 (Kd.R_lt (by (with_reducible repeat (first|apply Kd.R_alloc|apply Kd.R_drewN|apply Kd.R_drew));exact HO_4.out))) (Kd.R_lt (by (with_reducible repeat (first|apply Kd.R_alloc|apply Kd.R_drewN|apply Kd.R_drew));exact HO_5.out))) (Kd.R_lt (by (with_reducible repeat (first|apply Kd.R_alloc|apply Kd.R_drewN|apply Kd.R_drew));exact HO336.out))) (Kd.R_lt (by (with_reducible repeat (first|apply Kd.R_alloc|apply Kd.R_drewN|apply Kd.R_drew));exact HO339.out))) (below_size (by repeat (first|(with_reducible first|exact HB.out|apply below_alloc|apply pw_below_drewN|apply below_drew1|refine below_set ?_ GE332.out)|exact HB.out))));have n5_:=Aside0.mk (blk_below (g:=gb332) (o:=.cells #[.string ((rd_T59 l0 x7_1).f0.f0),.int .u64 ((rd_T59 l0 x7_1).f0.f1),.int .u8 ((rd_T59 l0 x7_1).f0.f2),.string ((rd_T59 l0 x7_1).f1)] 59 (0,0)) (by (with_reducible repeat (first|refine blk_drewN ?_ _|refine blk_drew ?_|refine blk_alloc ?_ _));exact BK332.out) hb);have n6_:=Aside0.mk (below_step (by repeat (first|(with_reducible first|exact HB.out|apply below_alloc|apply pw_below_drewN|apply below_drew1|refine below_set ?_ GE332.out)|exact HB.out)) hb);clear HO_4;clear HO_5;clear HO336;clear HO339;clear BK332;clear HB;have HO_4:=n0_;have HO_5:=n1_;have HO336:=n2_;have HO339:=n3_;have HO342:=n4_;have BK332:=n5_;have HB:=n6_;clear n0_ n1_ n2_ n3_ n4_ n5_ n6_;(try clear hb);(try clear hb2);(try clear hk);(try clear hi);(try clear ho0);have hcz33_0 : w32.cell? ⟨gb332,0,none⟩ = some (.string ((rd_T59 l0 x7_1).f0.f0)):=(blk_cell BK332.out 0).trans rfl;have hcz33_1 : w32.cell? ⟨gb332,1,none⟩ = some (.int .u64 ((rd_T59 l0 x7_1).f0.f1)):=(blk_cell BK332.out 1).trans rfl;have hcz33_2 : w32.cell? ⟨gb332,2,none⟩ = some (.int .u8 ((rd_T59 l0 x7_1).f0.f2)):=(blk_cell BK332.out 2).trans rfl;have hcz33_3 : w32.cell? ⟨gb332,3,none⟩ = some (.string ((rd_T59 l0 x7_1).f1)):=(blk_cell BK332.out 3).trans rfl;have hfz33_0:=blk_frozen BK332.out 0;have hfz33_1:=blk_frozen BK332.out 1;have hfz33_2:=blk_frozen BK332.out 2;have hfz33_3:=blk_frozen BK332.out 3;obtain ⟨Ao34,co34,eo34⟩:=Kd.R_slice HO342.out;subst eo34)|((with_reducible refine gate_callee (f:=55) rfl ?_);refine goesL_ (some 64) rfl rfl Try.func55 (by kernel_rfl) rfl #[.slice Ao34 t340.length co34,.string ((rd_T59 l0 x7_1).f1)] rfl (by (try simp only [List.map_toArray,List.map_cons,List.map_nil]);first|done|rfl|(simp only [List.length_drop,List.length_take];rfl)) ?_;(with_reducible refine (ratlineref02_PutText.calls kj5 _ _ t340 ((rd_T59 l0 x7_1).f1) t343 _ ?side1 ?side2 A21.out).mono ?_);(case side1=>repeat (first|exact (Kd.R_reads' HO342.out).2.2|(with_reducible refine Kd.C_alloc ?_ _)|(with_reducible refine Kd.C_drewN ?_ _)|(with_reducible refine Kd.C_drew ?_)));(case side2=>exact (Kd.R_reads' HO342.out).2.1);rintro e w35 ⟨v344,rfl,ho0,hb⟩;refine ⟨_,rfl,?_⟩;have n0_:=Aside0.mk (Kd.R_elder' (by (with_reducible repeat (first|apply Kd.R_alloc|apply Kd.R_drewN|apply Kd.R_drew));exact HO_4.out) (Kd.R_base ho0) hb);have n1_:=Aside0.mk (Kd.R_elder' (by (with_reducible repeat (first|apply Kd.R_alloc|apply Kd.R_drewN|apply Kd.R_drew));exact HO_5.out) (Kd.R_base ho0) hb);have n2_:=Aside0.mk (Kd.R_elder' (by (with_reducible repeat (first|apply Kd.R_alloc|apply Kd.R_drewN|apply Kd.R_drew));exact HO336.out) (Kd.R_base ho0) hb);have n3_:=Aside0.mk (Kd.R_elder' (by (with_reducible repeat (first|apply Kd.R_alloc|apply Kd.R_drewN|apply Kd.R_drew));exact HO339.out) (Kd.R_base ho0) hb);have n4_:=Aside0.mk (Kd.R_elder' (by (with_reducible repeat (first|apply Kd.R_alloc|apply Kd.R_drewN|apply Kd.R_drew));exact HO342.out) (Kd.R_base ho0) hb);have n5_:=Aside0.mk (Kd.R_lower (Kd.R_new' (Kd.R_new' (Kd.R_new' (Kd.R_new' (Kd.R_new' ho0 (Kd.R_lt (by (with_reducible repeat (first|apply Kd.R_alloc|apply Kd.R_drewN|apply Kd.R_drew));exact HO_4.out))) (Kd.R_lt (by (with_reducible repeat (first|apply Kd.R_alloc|apply Kd.R_drewN|apply Kd.R_drew));exact HO_5.out))) (Kd.R_lt (by (with_reducible repeat (first|apply Kd.R_alloc|apply Kd.R_drewN|apply Kd.R_drew));exact HO336.out))) (Kd.R_lt (by (with_reducible repeat (first|apply Kd.R_alloc|apply Kd.R_drewN|apply Kd.R_drew));exact HO339.out))) (Kd.R_lt (by (with_reducible repeat (first|apply Kd.R_alloc|apply Kd.R_drewN|apply Kd.R_drew));exact HO342.out))) (below_size (by repeat (first|(with_reducible first|exact HB.out|apply below_alloc|apply pw_below_drewN|apply below_drew1|refine below_set ?_ GE332.out)|exact HB.out))));have n6_:=Aside0.mk (blk_below (g:=gb332) (o:=.cells #[.string ((rd_T59 l0 x7_1).f0.f0),.int .u64 ((rd_T59 l0 x7_1).f0.f1),.int .u8 ((rd_T59 l0 x7_1).f0.f2),.string ((rd_T59 l0 x7_1).f1)] 59 (0,0)) (by (with_reducible repeat (first|refine blk_drewN ?_ _|refine blk_drew ?_|refine blk_alloc ?_ _));exact BK332.out) hb);have n7_:=Aside0.mk (below_step (by repeat (first|(with_reducible first|exact HB.out|apply below_alloc|apply pw_below_drewN|apply below_drew1|refine below_set ?_ GE332.out)|exact HB.out)) hb);clear HO_4;clear HO_5;clear HO336;clear HO339;clear HO342;clear BK332;clear HB;have HO_4:=n0_;have HO_5:=n1_;have HO336:=n2_;have HO339:=n3_;have HO342:=n4_;have HO345:=n5_;have BK332:=n6_;have HB:=n7_;clear n0_ n1_ n2_ n3_ n4_ n5_ n6_ n7_;(try clear hb);(try clear hb2);(try clear hk);(try clear hi);(try clear ho0)))
            go_roundg kj5
            case measure=>have:=HK1.out;have:=HJ5.out;omega
            case rel=>exact ⟨(t343),(x5_5),(x6_5),(wrap64 (x7_1 + 1)),(by first|rfl|(simp;done)|(simp [*];done)),(by first|rfl|(simp;done)|(simp [*];done)),H',⟨by have:=HK1.out;have:=HJ5.out;omega⟩,⟨by (with_reducible repeat (first|apply Kd.R_alloc|apply Kd.R_drewN|apply Kd.R_drew));exact Kd.R_mono HO345.out (fun _ hk=>hk.1.1.1.2)⟩,⟨by (with_reducible repeat (first|apply Kd.R_alloc|apply Kd.R_drewN|apply Kd.R_drew));exact Kd.R_mono HO_5.out (fun _ hk=>hk.2)⟩,⟨by repeat (first|(with_reducible first|exact HB.out|apply below_alloc|apply pw_below_drewN|apply below_drew1|refine below_set ?_ GE332.out)|exact HB.out)⟩⟩
           ·rw [if_neg c20] at H
            have c20b0 : (((rd_T59 l0 x7_1).f0.f2) == 1) = false:=beq_eq_false_iff_ne.mpr c20
            have c20b1 : (((rd_T59 l0 x7_1).f0.f2) != 1) = true:=bne_iff_ne.mpr c20
            have H':=Aside0.mk H
            clear H
            have p331 : 0 ≤ (x7_1 : Int):=of_decide_eq_true (by first|(with_reducible assumption)|assumption)
            have q331 : x7_1 < (l0.length : Int):=of_decide_eq_true (by first|(with_reducible assumption)|assumption)
            obtain ⟨ad331,e331,hx331_0,hx331_1,hx331_2,hx331_3⟩:=at_T59 HR0.out x7_1 p331 q331
            cases e331
            replace hx331_0:=(HB.out.cell (World.block_lt_of_cell? w _ hx331_0)).trans hx331_0
            replace hx331_1:=(HB.out.cell (World.block_lt_of_cell? w _ hx331_1)).trans hx331_1
            replace hx331_2:=(HB.out.cell (World.block_lt_of_cell? w _ hx331_2)).trans hx331_2
            replace hx331_3:=(HB.out.cell (World.block_lt_of_cell? w _ hx331_3)).trans hx331_3
            replace p331:=eq_true p331
            replace q331:=eq_true q331
            try go_wp2_with (first|((with_reducible refine gate_dst (N:=8) rfl ?_);refine box_event ?hg (N:=8) ?hd (cs:=#[.string (⟨#[]⟩ : ByteArray),.int .u64 0,.int .u8 0,.string (⟨#[]⟩ : ByteArray)]) (t:=59) ?hr ?_;(case hd=>rfl);(case hg=>rfl);(case hr=>first|(go_simp;done)|(go_simp;rfl));intro gb332 hg w36 hbox hb;have n0_:=Aside0.mk (Kd.R_below (by (with_reducible repeat (first|apply Kd.R_alloc|apply Kd.R_drewN|apply Kd.R_drew));exact HO_4.out) hb);have n1_:=Aside0.mk (Kd.R_below (by (with_reducible repeat (first|apply Kd.R_alloc|apply Kd.R_drewN|apply Kd.R_drew));exact HO_5.out) hb);have n2_:=Aside0.mk (below_step (by repeat (first|(with_reducible first|exact HB.out|apply below_alloc|apply pw_below_drewN|apply below_drew1)|exact HB.out)) hb);have n3_:=Aside0.mk (hbox);have n4_:=Aside0.mk ((by rw [hg];exact (below_size (by repeat (first|(with_reducible first|exact HB.out|apply below_alloc|apply pw_below_drewN|apply below_drew1)|exact HB.out))) : w.heap.size ≤ gb332));have n5_:=Aside0.mk ((by rw [hg];exact (below_size (by repeat (first|(with_reducible first|exact HB.out|apply below_alloc|apply pw_below_drewN|apply below_drew1)|exact HB.out))) : w.heap.size ≤ gb332));clear HO_4;clear HO_5;clear HB;have HO_4:=n0_;have HO_5:=n1_;have HB:=n2_;have BK332:=n3_;have GW332:=n4_;have GE332:=n5_;clear n0_ n1_ n2_ n3_ n4_ n5_;clear hb hbox hg;have hcz37_0 : w36.cell? ⟨gb332,0,none⟩ = some (.string (⟨#[]⟩ : ByteArray)):=(blk_cell BK332.out 0).trans rfl;have hcz37_1 : w36.cell? ⟨gb332,1,none⟩ = some (.int .u64 0):=(blk_cell BK332.out 1).trans rfl;have hcz37_2 : w36.cell? ⟨gb332,2,none⟩ = some (.int .u8 0):=(blk_cell BK332.out 2).trans rfl;have hcz37_3 : w36.cell? ⟨gb332,3,none⟩ = some (.string (⟨#[]⟩ : ByteArray)):=(blk_cell BK332.out 3).trans rfl;have hfz37_0:=blk_frozen BK332.out 0;have hfz37_1:=blk_frozen BK332.out 1;have hfz37_2:=blk_frozen BK332.out 2;have hfz37_3:=blk_frozen BK332.out 3)|((with_reducible refine gate_callee (f:=54) rfl ?_);refine goesL_ (some 35) rfl rfl Try.func54 (by kernel_rfl) rfl #[.slice (some ad331) l0.length c0,.int .i64 x7_1] rfl (by (try simp only [List.map_toArray,List.map_cons,List.map_nil]);first|done|rfl|(simp only [List.length_drop,List.length_take];rfl)) ?_;(with_reducible refine (ratlineref07_shared.calls kj5 _ _ l0 x7_1 t333 _ ?side1 ?side2 A14.out).mono ?_);(case side1=>exact Kd.C_below HR0.out (by repeat (first|(with_reducible first|exact HB.out|apply below_alloc|apply pw_below_drewN|apply below_drew1|refine below_set ?_ GE332.out)|exact HB.out)));(case side2=>exact HC0.out);rintro e w' ⟨rfl,⟨nd,rfl⟩⟩;refine ⟨_,rfl,?_⟩))
            have n0_ : Aside0 (Kd.R (Kd.int .u8) 5 ((((w36.setCell ⟨gb332,0,none⟩ (.string ((rd_T59 l0 x7_1).f0.f0))).setCell ⟨gb332,1,none⟩ (.int .u64 ((rd_T59 l0 x7_1).f0.f1))).setCell ⟨gb332,2,none⟩ (.int .u8 ((rd_T59 l0 x7_1).f0.f2))).setCell ⟨gb332,3,none⟩ (.string ((rd_T59 l0 x7_1).f1))) w.heap.size (fun k_=>some k_ ≠ (u5 : Value).ownBlock) u4 x4_1):=⟨by (with_reducible repeat (first|apply Kd.R_alloc|apply Kd.R_drewN|apply Kd.R_drew));exact Kd.R_mono (Kd.R_far (p:=⟨gb332,3,none⟩) (Kd.R_far (p:=⟨gb332,2,none⟩) (Kd.R_far (p:=⟨gb332,1,none⟩) (Kd.R_far (p:=⟨gb332,0,none⟩) (Kd.R_types HO_4.out BK332.out (by decide)) (fun _ hk=>hk.2) (.string ((rd_T59 l0 x7_1).f0.f0))) (fun _ hk=>hk.2) (.int .u64 ((rd_T59 l0 x7_1).f0.f1))) (fun _ hk=>hk.2) (.int .u8 ((rd_T59 l0 x7_1).f0.f2))) (fun _ hk=>hk.2) (.string ((rd_T59 l0 x7_1).f1))) (fun _ hk=>hk.1)⟩
            have n1_ : Aside0 (Kd.R (Kd.int .u8) 5 ((((w36.setCell ⟨gb332,0,none⟩ (.string ((rd_T59 l0 x7_1).f0.f0))).setCell ⟨gb332,1,none⟩ (.int .u64 ((rd_T59 l0 x7_1).f0.f1))).setCell ⟨gb332,2,none⟩ (.int .u8 ((rd_T59 l0 x7_1).f0.f2))).setCell ⟨gb332,3,none⟩ (.string ((rd_T59 l0 x7_1).f1))) w.heap.size (fun k_=>some k_ ≠ (u4 : Value).ownBlock) u5 x5_5):=⟨by (with_reducible repeat (first|apply Kd.R_alloc|apply Kd.R_drewN|apply Kd.R_drew));exact Kd.R_mono (Kd.R_far (p:=⟨gb332,3,none⟩) (Kd.R_far (p:=⟨gb332,2,none⟩) (Kd.R_far (p:=⟨gb332,1,none⟩) (Kd.R_far (p:=⟨gb332,0,none⟩) (Kd.R_types HO_5.out BK332.out (by decide)) (fun _ hk=>hk.2) (.string ((rd_T59 l0 x7_1).f0.f0))) (fun _ hk=>hk.2) (.int .u64 ((rd_T59 l0 x7_1).f0.f1))) (fun _ hk=>hk.2) (.int .u8 ((rd_T59 l0 x7_1).f0.f2))) (fun _ hk=>hk.2) (.string ((rd_T59 l0 x7_1).f1))) (fun _ hk=>hk.1)⟩
            have n2_ : Aside0 (((((w36.setCell ⟨gb332,0,none⟩ (.string ((rd_T59 l0 x7_1).f0.f0))).setCell ⟨gb332,1,none⟩ (.int .u64 ((rd_T59 l0 x7_1).f0.f1))).setCell ⟨gb332,2,none⟩ (.int .u8 ((rd_T59 l0 x7_1).f0.f2))).setCell ⟨gb332,3,none⟩ (.string ((rd_T59 l0 x7_1).f1))).heap[gb332]? = some (.cells #[.string ((rd_T59 l0 x7_1).f0.f0),.int .u64 ((rd_T59 l0 x7_1).f0.f1),.int .u8 ((rd_T59 l0 x7_1).f0.f2),.string ((rd_T59 l0 x7_1).f1)] 59 (0,0))):=⟨by (with_reducible repeat (first|refine blk_drewN ?_ _|refine blk_drew ?_|refine blk_alloc ?_ _));refine blk_put (cs:=#[.string ((rd_T59 l0 x7_1).f0.f0),.int .u64 ((rd_T59 l0 x7_1).f0.f1),.int .u8 ((rd_T59 l0 x7_1).f0.f2),.string (⟨#[]⟩ : ByteArray)]) ?_ 3 _ rfl;(with_reducible repeat (first|refine blk_drewN ?_ _|refine blk_drew ?_|refine blk_alloc ?_ _));refine blk_put (cs:=#[.string ((rd_T59 l0 x7_1).f0.f0),.int .u64 ((rd_T59 l0 x7_1).f0.f1),.int .u8 0,.string (⟨#[]⟩ : ByteArray)]) ?_ 2 _ rfl;(with_reducible repeat (first|refine blk_drewN ?_ _|refine blk_drew ?_|refine blk_alloc ?_ _));refine blk_put (cs:=#[.string ((rd_T59 l0 x7_1).f0.f0),.int .u64 0,.int .u8 0,.string (⟨#[]⟩ : ByteArray)]) ?_ 1 _ rfl;(with_reducible repeat (first|refine blk_drewN ?_ _|refine blk_drew ?_|refine blk_alloc ?_ _));refine blk_put (cs:=#[.string (⟨#[]⟩ : ByteArray),.int .u64 0,.int .u8 0,.string (⟨#[]⟩ : ByteArray)]) ?_ 0 _ rfl;(with_reducible repeat (first|refine blk_drewN ?_ _|refine blk_drew ?_|refine blk_alloc ?_ _));exact BK332.out⟩
            have n3_ : Aside0 (Below w.heap.size w ((((w36.setCell ⟨gb332,0,none⟩ (.string ((rd_T59 l0 x7_1).f0.f0))).setCell ⟨gb332,1,none⟩ (.int .u64 ((rd_T59 l0 x7_1).f0.f1))).setCell ⟨gb332,2,none⟩ (.int .u8 ((rd_T59 l0 x7_1).f0.f2))).setCell ⟨gb332,3,none⟩ (.string ((rd_T59 l0 x7_1).f1)))):=⟨by repeat (first|(with_reducible first|exact HB.out|apply below_alloc|apply pw_below_drewN|apply below_drew1|refine below_set ?_ GE332.out)|exact HB.out)⟩
            (try clear HO_4)
            (try clear HO_5)
            (try clear BK332)
            (try clear HB)
            generalize ((((w36.setCell ⟨gb332,0,none⟩ (.string ((rd_T59 l0 x7_1).f0.f0))).setCell ⟨gb332,1,none⟩ (.int .u64 ((rd_T59 l0 x7_1).f0.f1))).setCell ⟨gb332,2,none⟩ (.int .u8 ((rd_T59 l0 x7_1).f0.f2))).setCell ⟨gb332,3,none⟩ (.string ((rd_T59 l0 x7_1).f1))) = w38 at n0_ n1_ n2_ n3_ ⊢
            have HO_4:=n0_
            have HO_5:=n1_
            have BK332:=n2_
            have HB:=n3_
            clear n0_ n1_ n2_ n3_
            (try (rw [drewN_self w38];generalize hq_ : World.drewN w38 _ = w38;have n0_ : Aside0 (Kd.R (Kd.int .u8) 5 w38 w.heap.size (fun k_=>some k_ ≠ (u5 : Value).ownBlock) u4 x4_1):=⟨by rw [← hq_];exact (by (with_reducible repeat (first|apply Kd.R_alloc|apply Kd.R_drewN|apply Kd.R_drew));exact HO_4.out)⟩;have n1_ : Aside0 (Kd.R (Kd.int .u8) 5 w38 w.heap.size (fun k_=>some k_ ≠ (u4 : Value).ownBlock) u5 x5_5):=⟨by rw [← hq_];exact (by (with_reducible repeat (first|apply Kd.R_alloc|apply Kd.R_drewN|apply Kd.R_drew));exact HO_5.out)⟩;have n2_ : Aside0 (w38.heap[gb332]? = some (.cells #[.string ((rd_T59 l0 x7_1).f0.f0),.int .u64 ((rd_T59 l0 x7_1).f0.f1),.int .u8 ((rd_T59 l0 x7_1).f0.f2),.string ((rd_T59 l0 x7_1).f1)] 59 (0,0))):=⟨by rw [← hq_];exact (by (with_reducible repeat (first|refine blk_drewN ?_ _|refine blk_drew ?_|refine blk_alloc ?_ _));exact BK332.out)⟩;have n3_ : Aside0 (Below w.heap.size w w38):=⟨by rw [← hq_];exact (by repeat (first|(with_reducible first|exact HB.out|apply below_alloc|apply pw_below_drewN|apply below_drew1|refine below_set ?_ GE332.out)|exact HB.out))⟩;clear HO_4 HO_5 BK332 HB hq_;have HO_4:=n0_;have HO_5:=n1_;have BK332:=n2_;have HB:=n3_;clear n0_ n1_ n2_ n3_))
            have n0_:=Aside0.mk (Kd.R_drew HO_4.out)
            have n1_:=Aside0.mk (Kd.R_drew HO_5.out)
            have n2_:=Aside0.mk (blk_drew BK332.out)
            have n3_:=Aside0.mk (below_drew1 HB.out)
            clear HO_4
            clear HO_5
            clear BK332
            clear HB
            have HO_4:=n0_
            have HO_5:=n1_
            have BK332:=n2_
            have HB:=n3_
            clear n0_ n1_ n2_ n3_
            obtain ⟨Ao40,co40,eo40⟩:=Kd.R_slice HO_4.out
            (first|subst eo40|(injection eo40 with f1_ f2_ f3_;have f4_:=f1_.symm;have f5_:=f3_.symm;clear f1_ f2_ f3_;subst f4_;subst f5_))
            refine start_ (n:=11) (S:=fun w'=>w'.cell? ⟨gb332,0,none⟩ = some (.string ((rd_T59 l0 x7_1).f0.f0)) ∧ w'.cell? ⟨gb332,1,none⟩ = some (.int .u64 ((rd_T59 l0 x7_1).f0.f1)) ∧ w'.cell? ⟨gb332,2,none⟩ = some (.int .u8 ((rd_T59 l0 x7_1).f0.f2)) ∧ w'.cell? ⟨gb332,3,none⟩ = some (.string ((rd_T59 l0 x7_1).f1))) (ds:=[]) #[false,false,false,false,false,false,false,false,false,false,false] (by kernel_rfl) rfl rfl ⟨(blk_cell BK332.out 0).trans rfl,(blk_cell BK332.out 1).trans rfl,(blk_cell BK332.out 2).trans rfl,(blk_cell BK332.out 3).trans rfl⟩ (fun hHeld=>?_);refine with_tabW ratlineref07_Build.tab13 ratlineref07_Build.bits13 (fun HT_ HW_=>?_)
            generalize w38.drew = w39 at HO_4 HO_5 BK332 HB hHeld ⊢
            refine pure_ (i:=0) (N:=some 36) (v:=?_) (a':=?_) #[true,false,false,false,false,false,false,false,false,false,false] rfl rfl (any_of HT_.out (by kernel_rfl)) (fun _ _ _ h=>h) (Or.inl ⟨by rfl,?_⟩) ?_ ?_
            rotate_left
            ·intro w'
             go_simp
             with_reducible rfl
            rotate_left
            ·simp only [Act.put,List.setIfInBounds_toArray,List.set_cons_zero,List.set_cons_succ,i64_w,i32_w]
             rfl
            refine pure_ (i:=1) (N:=some 37) (v:=?_) (a':=?_) #[true,true,false,false,false,false,false,false,false,false,false] rfl rfl (any_of HT_.out (by kernel_rfl)) (fun _ _ _ h=>h) (Or.inl ⟨by rfl,?_⟩) ?_ ?_
            rotate_left
            ·intro w'
             go_simp
             with_reducible rfl
            rotate_left
            ·simp only [Act.put,List.setIfInBounds_toArray,List.set_cons_zero,List.set_cons_succ,i64_w,i32_w]
             rfl
            refine pure_ (i:=2) (N:=some 38) (v:=?_) (a':=?_) #[true,true,true,false,false,false,false,false,false,false,false] rfl rfl (any_of HT_.out (by kernel_rfl)) (fun _ _ _ h=>h) (Or.inl ⟨by rfl,?_⟩) ?_ ?_
            rotate_left
            ·intro w'
             go_simp
             with_reducible rfl
            rotate_left
            ·simp only [Act.put,List.setIfInBounds_toArray,List.set_cons_zero,List.set_cons_succ,i64_w,i32_w]
             rfl
            refine pure_ (i:=4) (N:=some 40) (v:=?_) (a':=?_) #[true,true,true,false,true,false,false,false,false,false,false] rfl rfl (any_of HT_.out (by kernel_rfl)) (fun _ _ _ h=>h) (Or.inl ⟨by rfl,?_⟩) ?_ ?_
            rotate_left
            ·intro w'
             go_simp
             with_reducible rfl
            rotate_left
            ·simp only [Act.put,List.setIfInBounds_toArray,List.set_cons_zero,List.set_cons_succ,i64_w,i32_w]
             rfl
            refine pure_ (i:=5) (N:=some 41) (v:=?_) (a':=?_) #[true,true,true,false,true,true,false,false,false,false,false] rfl rfl (any_of HT_.out (by kernel_rfl)) (fun _ _ _ h=>h) (Or.inl ⟨by rfl,?_⟩) ?_ ?_
            rotate_left
            ·intro w'
             go_simp
             with_reducible rfl
            rotate_left
            ·simp only [Act.put,List.setIfInBounds_toArray,List.set_cons_zero,List.set_cons_succ,i64_w,i32_w]
             rfl
            refine pure_ (i:=7) (N:=some 43) (v:=?_) (a':=?_) #[true,true,true,false,true,true,false,true,false,false,false] rfl rfl (any_of HT_.out (by kernel_rfl)) (fun _ _ _ h=>h) (Or.inl ⟨by rfl,?_⟩) ?_ ?_
            rotate_left
            ·intro w'
             go_simp
             with_reducible rfl
            rotate_left
            ·simp only [Act.put,List.setIfInBounds_toArray,List.set_cons_zero,List.set_cons_succ,i64_w,i32_w]
             rfl
            refine take_ (i:=6) (N:=some 42) (v:=?_) (a':=?_) #[true,true,true,false,true,true,true,true,false,false,false] rfl rfl (take_ofW HT_.out HW_.out (by kernel_rfl)) (fun _ _ _ h=>h) (Or.inl ⟨by rfl,?_⟩) hHeld ?_ ?_
            rotate_left
            ·rintro w' ⟨s0,s1,s2,s3⟩
             go_simp
             with_reducible rfl
            rotate_left
            ·simp only [Act.put,List.setIfInBounds_toArray,List.set_cons_zero,List.set_cons_succ,i64_w,i32_w]
             rfl
            refine pure_ (i:=8) (N:=some 44) (v:=?_) (a':=?_) #[true,true,true,false,true,true,true,true,true,false,false] rfl rfl (any_of HT_.out (by kernel_rfl)) (fun _ _ _ h=>h) (Or.inl ⟨by rfl,?_⟩) ?_ ?_
            rotate_left
            ·intro w'
             go_simp
             with_reducible rfl
            rotate_left
            ·simp only [Act.put,List.setIfInBounds_toArray,List.set_cons_zero,List.set_cons_succ,i64_w,i32_w]
             rfl
            refine one_ (i:=3) (N:=some 39) #[true,true,true,true,true,true,true,true,true,false,false] rfl rfl (one_of HT_.out (by kernel_rfl)) (by decide) (fun K hK=>?_)
            refine goes_ Try.func56 (by kernel_rfl) rfl #[.slice Ao40 x4_1.length co40,.int .u64 (IntKind.u64.wrap (t333))] (by rfl) rfl rfl (by (try simp only [List.map_toArray,List.map_cons,List.map_nil]);first|done|rfl|(simp only [List.length_drop,List.length_take];rfl)) ?_
            with_reducible refine (ratlineref02_Put.calls kj5 _ _ x4_1 (IntKind.u64.wrap (t333)) t334 _ ?side1 ?side2 A15.out).mono ?_
            (case side1=>repeat (first|exact (Kd.R_reads' HO_4.out).2.2|(with_reducible refine Kd.C_alloc ?_ _)|(with_reducible refine Kd.C_drewN ?_ _)|(with_reducible refine Kd.C_drew ?_)))
            (case side2=>exact (Kd.R_reads' HO_4.out).2.1)
            rintro e w41 ⟨v335,rfl,ho0,hb⟩
            refine ⟨_,rfl,?_⟩
            have n0_:=Aside0.mk (Kd.R_elder' (by (with_reducible repeat (first|apply Kd.R_alloc|apply Kd.R_drewN|apply Kd.R_drew));exact HO_4.out) (Kd.R_base ho0) hb)
            have n1_:=Aside0.mk (Kd.R_elder' (by (with_reducible repeat (first|apply Kd.R_alloc|apply Kd.R_drewN|apply Kd.R_drew));exact HO_5.out) (Kd.R_base ho0) hb)
            have n2_:=Aside0.mk (Kd.R_lower (Kd.R_new' (Kd.R_new' ho0 (Kd.R_lt (by (with_reducible repeat (first|apply Kd.R_alloc|apply Kd.R_drewN|apply Kd.R_drew));exact HO_4.out))) (Kd.R_lt (by (with_reducible repeat (first|apply Kd.R_alloc|apply Kd.R_drewN|apply Kd.R_drew));exact HO_5.out))) (below_size (by repeat (first|(with_reducible first|exact HB.out|apply below_alloc|apply pw_below_drewN|apply below_drew1|refine below_set ?_ GE332.out)|exact HB.out))))
            have n3_:=Aside0.mk (blk_below (g:=gb332) (o:=.cells #[.string ((rd_T59 l0 x7_1).f0.f0),.int .u64 ((rd_T59 l0 x7_1).f0.f1),.int .u8 ((rd_T59 l0 x7_1).f0.f2),.string ((rd_T59 l0 x7_1).f1)] 59 (0,0)) (by (with_reducible repeat (first|refine blk_drewN ?_ _|refine blk_drew ?_|refine blk_alloc ?_ _));exact BK332.out) hb)
            have n4_:=Aside0.mk (below_step (by repeat (first|(with_reducible first|exact HB.out|apply below_alloc|apply pw_below_drewN|apply below_drew1|refine below_set ?_ GE332.out)|exact HB.out)) hb)
            clear HO_4
            clear HO_5
            clear BK332
            clear HB
            have HO_4:=n0_
            have HO_5:=n1_
            have HO336:=n2_
            have BK332:=n3_
            have HB:=n4_
            clear n0_ n1_ n2_ n3_ n4_
            (try clear hb)
            (try clear hb2)
            (try clear hk)
            (try clear hi)
            (try clear ho0)
            obtain ⟨Ao42,co42,eo42⟩:=Kd.R_slice HO336.out
            (first|subst eo42|(injection eo42 with f1_ f2_ f3_;have f4_:=f1_.symm;have f5_:=f3_.symm;clear f1_ f2_ f3_;subst f4_;subst f5_))
            refine hK.out _ _ ⟨(blk_cell BK332.out 0).trans rfl,(blk_cell BK332.out 1).trans rfl,(blk_cell BK332.out 2).trans rfl,(blk_cell BK332.out 3).trans rfl⟩ (fun hHeld=>?_)
            clear hK K
            refine norm_ (a':=?_) ?_ ?_
            rotate_left
            ·show Act.put _ (some 39) _ = _
             simp only [Act.put,List.setIfInBounds_toArray,List.set_cons_zero,List.set_cons_succ,i64_w,i32_w]
             rfl
            refine one_ (i:=9) (N:=some 45) #[true,true,true,true,true,true,true,true,true,true,false] rfl rfl (one_of HT_.out (by kernel_rfl)) (by decide) (fun K hK=>?_)
            refine goes_ Try.func55 (by kernel_rfl) rfl #[.slice Ao42 t334.length co42,.string (((rd_T59 l0 x7_1).f0.f0).extract (t333 : Int).toNat ((rd_T59 l0 x7_1).f0.f0).size)] (by rfl) rfl rfl (by (try simp only [List.map_toArray,List.map_cons,List.map_nil]);first|done|rfl|(simp only [List.length_drop,List.length_take];rfl)) ?_
            with_reducible refine (ratlineref02_PutText.calls kj5 _ _ t334 (((rd_T59 l0 x7_1).f0.f0).extract (t333 : Int).toNat ((rd_T59 l0 x7_1).f0.f0).size) t337 _ ?side1 ?side2 A18.out).mono ?_
            (case side1=>repeat (first|exact (Kd.R_reads' HO336.out).2.2|(with_reducible refine Kd.C_alloc ?_ _)|(with_reducible refine Kd.C_drewN ?_ _)|(with_reducible refine Kd.C_drew ?_)))
            (case side2=>exact (Kd.R_reads' HO336.out).2.1)
            rintro e w43 ⟨v338,rfl,ho0,hb⟩
            refine ⟨_,rfl,?_⟩
            have n0_:=Aside0.mk (Kd.R_elder' (by (with_reducible repeat (first|apply Kd.R_alloc|apply Kd.R_drewN|apply Kd.R_drew));exact HO_4.out) (Kd.R_base ho0) hb)
            have n1_:=Aside0.mk (Kd.R_elder' (by (with_reducible repeat (first|apply Kd.R_alloc|apply Kd.R_drewN|apply Kd.R_drew));exact HO_5.out) (Kd.R_base ho0) hb)
            have n2_:=Aside0.mk (Kd.R_elder' (by (with_reducible repeat (first|apply Kd.R_alloc|apply Kd.R_drewN|apply Kd.R_drew));exact HO336.out) (Kd.R_base ho0) hb)
            have n3_:=Aside0.mk (Kd.R_lower (Kd.R_new' (Kd.R_new' (Kd.R_new' ho0 (Kd.R_lt (by (with_reducible repeat (first|apply Kd.R_alloc|apply Kd.R_drewN|apply Kd.R_drew));exact HO_4.out))) (Kd.R_lt (by (with_reducible repeat (first|apply Kd.R_alloc|apply Kd.R_drewN|apply Kd.R_drew));exact HO_5.out))) (Kd.R_lt (by (with_reducible repeat (first|apply Kd.R_alloc|apply Kd.R_drewN|apply Kd.R_drew));exact HO336.out))) (below_size (by repeat (first|(with_reducible first|exact HB.out|apply below_alloc|apply pw_below_drewN|apply below_drew1|refine below_set ?_ GE332.out)|exact HB.out))))
            have n4_:=Aside0.mk (blk_below (g:=gb332) (o:=.cells #[.string ((rd_T59 l0 x7_1).f0.f0),.int .u64 ((rd_T59 l0 x7_1).f0.f1),.int .u8 ((rd_T59 l0 x7_1).f0.f2),.string ((rd_T59 l0 x7_1).f1)] 59 (0,0)) (by (with_reducible repeat (first|refine blk_drewN ?_ _|refine blk_drew ?_|refine blk_alloc ?_ _));exact BK332.out) hb)
            have n5_:=Aside0.mk (below_step (by repeat (first|(with_reducible first|exact HB.out|apply below_alloc|apply pw_below_drewN|apply below_drew1|refine below_set ?_ GE332.out)|exact HB.out)) hb)
            clear HO_4
            clear HO_5
            clear HO336
            clear BK332
            clear HB
            have HO_4:=n0_
            have HO_5:=n1_
            have HO336:=n2_
            have HO339:=n3_
            have BK332:=n4_
            have HB:=n5_
            clear n0_ n1_ n2_ n3_ n4_ n5_
            (try clear hb)
            (try clear hb2)
            (try clear hk)
            (try clear hi)
            (try clear ho0)
            refine hK.out _ _ ⟨(blk_cell BK332.out 0).trans rfl,(blk_cell BK332.out 1).trans rfl,(blk_cell BK332.out 2).trans rfl,(blk_cell BK332.out 3).trans rfl⟩ (fun hHeld=>?_)
            clear hK K
            refine norm_ (a':=?_) ?_ ?_
            rotate_left
            ·show Act.put _ (some 45) _ = _
             simp only [Act.put,List.setIfInBounds_toArray,List.set_cons_zero,List.set_cons_succ,i64_w,i32_w]
             rfl
            refine pure_ (i:=10) (N:=some 4) (v:=?_) (a':=?_) #[true,true,true,true,true,true,true,true,true,true,true] rfl rfl (any_of HT_.out (by kernel_rfl)) (fun _ _ _ h=>h) (Or.inl ⟨by rfl,?_⟩) ?_ ?_
            rotate_left
            ·intro w'
             go_simp
             with_reducible rfl
            rotate_left
            ·simp only [Act.put,List.setIfInBounds_toArray,List.set_cons_zero,List.set_cons_succ,i64_w,i32_w]
             rfl
            refine done_ (done_of HT_.out (by kernel_rfl)) ?_
            have hcz44_0 : w43.cell? ⟨gb332,0,none⟩ = some (.string ((rd_T59 l0 x7_1).f0.f0)):=(blk_cell BK332.out 0).trans rfl
            have hcz44_1 : w43.cell? ⟨gb332,1,none⟩ = some (.int .u64 ((rd_T59 l0 x7_1).f0.f1)):=(blk_cell BK332.out 1).trans rfl
            have hcz44_2 : w43.cell? ⟨gb332,2,none⟩ = some (.int .u8 ((rd_T59 l0 x7_1).f0.f2)):=(blk_cell BK332.out 2).trans rfl
            have hcz44_3 : w43.cell? ⟨gb332,3,none⟩ = some (.string ((rd_T59 l0 x7_1).f1)):=(blk_cell BK332.out 3).trans rfl
            have hfz44_0:=blk_frozen BK332.out 0
            have hfz44_1:=blk_frozen BK332.out 1
            have hfz44_2:=blk_frozen BK332.out 2
            have hfz44_3:=blk_frozen BK332.out 3
            obtain ⟨Ao45,co45,eo45⟩:=Kd.R_slice HO339.out
            subst eo45
            try go_wp2_with (first|((with_reducible refine gate_callee (f:=56) rfl ?_);refine goesL_ (some 56) rfl rfl Try.func56 (by kernel_rfl) rfl #[.slice Ao45 t337.length co45,.int .u64 (IntKind.u64.wrap ((IntKind.u64.wrap (((rd_T59 l0 x7_1).f0.f1) * 2)) + (IntKind.u64.wrap ((rd_T59 l0 x7_1).f0.f2))))] rfl (by (try simp only [List.map_toArray,List.map_cons,List.map_nil]);first|done|rfl|(simp only [List.length_drop,List.length_take];rfl)) ?_;(with_reducible refine (ratlineref02_Put.calls kj5 _ _ t337 (IntKind.u64.wrap ((IntKind.u64.wrap (((rd_T59 l0 x7_1).f0.f1) * 2)) + (IntKind.u64.wrap ((rd_T59 l0 x7_1).f0.f2)))) t340 _ ?side1 ?side2 A19.out).mono ?_);(case side1=>repeat (first|exact (Kd.R_reads' HO339.out).2.2|(with_reducible refine Kd.C_alloc ?_ _)|(with_reducible refine Kd.C_drewN ?_ _)|(with_reducible refine Kd.C_drew ?_)));(case side2=>exact (Kd.R_reads' HO339.out).2.1);rintro e w46 ⟨v341,rfl,ho0,hb⟩;refine ⟨_,rfl,?_⟩;have n0_:=Aside0.mk (Kd.R_elder' (by (with_reducible repeat (first|apply Kd.R_alloc|apply Kd.R_drewN|apply Kd.R_drew));exact HO_4.out) (Kd.R_base ho0) hb);have n1_:=Aside0.mk (Kd.R_elder' (by (with_reducible repeat (first|apply Kd.R_alloc|apply Kd.R_drewN|apply Kd.R_drew));exact HO_5.out) (Kd.R_base ho0) hb);have n2_:=Aside0.mk (Kd.R_elder' (by (with_reducible repeat (first|apply Kd.R_alloc|apply Kd.R_drewN|apply Kd.R_drew));exact HO336.out) (Kd.R_base ho0) hb);have n3_:=Aside0.mk (Kd.R_elder' (by (with_reducible repeat (first|apply Kd.R_alloc|apply Kd.R_drewN|apply Kd.R_drew));exact HO339.out) (Kd.R_base ho0) hb);have n4_:=Aside0.mk (Kd.R_lower (Kd.R_new' (Kd.R_new' (Kd.R_new' (Kd.R_new' ho0 (Kd.R_lt (by (with_reducible repeat (first|apply Kd.R_alloc|apply Kd.R_drewN|apply Kd.R_drew));exact HO_4.out))) (Kd.R_lt (by (with_reducible repeat (first|apply Kd.R_alloc|apply Kd.R_drewN|apply Kd.R_drew));exact HO_5.out))) (Kd.R_lt (by (with_reducible repeat (first|apply Kd.R_alloc|apply Kd.R_drewN|apply Kd.R_drew));exact HO336.out))) (Kd.R_lt (by (with_reducible repeat (first|apply Kd.R_alloc|apply Kd.R_drewN|apply Kd.R_drew));exact HO339.out))) (below_size (by repeat (first|(with_reducible first|exact HB.out|apply below_alloc|apply pw_below_drewN|apply below_drew1|refine below_set ?_ GE332.out)|exact HB.out))));have n5_:=Aside0.mk (blk_below (g:=gb332) (o:=.cells #[.string ((rd_T59 l0 x7_1).f0.f0),.int .u64 ((rd_T59 l0 x7_1).f0.f1),.int .u8 ((rd_T59 l0 x7_1).f0.f2),.string ((rd_T59 l0 x7_1).f1)] 59 (0,0)) (by (with_reducible repeat (first|refine blk_drewN ?_ _|refine blk_drew ?_|refine blk_alloc ?_ _));exact BK332.out) hb);have n6_:=Aside0.mk (below_step (by repeat (first|(with_reducible first|exact HB.out|apply below_alloc|apply pw_below_drewN|apply below_drew1|refine below_set ?_ GE332.out)|exact HB.out)) hb);clear HO_4;clear HO_5;clear HO336;clear HO339;clear BK332;clear HB;have HO_4:=n0_;have HO_5:=n1_;have HO336:=n2_;have HO339:=n3_;have HO342:=n4_;have BK332:=n5_;have HB:=n6_;clear n0_ n1_ n2_ n3_ n4_ n5_ n6_;(try clear hb);(try clear hb2);(try clear hk);(try clear hi);(try clear ho0);have hcz47_0 : w46.cell? ⟨gb332,0,none⟩ = some (.string ((rd_T59 l0 x7_1).f0.f0)):=(blk_cell BK332.out 0).trans rfl;have hcz47_1 : w46.cell? ⟨gb332,1,none⟩ = some (.int .u64 ((rd_T59 l0 x7_1).f0.f1)):=(blk_cell BK332.out 1).trans rfl;have hcz47_2 : w46.cell? ⟨gb332,2,none⟩ = some (.int .u8 ((rd_T59 l0 x7_1).f0.f2)):=(blk_cell BK332.out 2).trans rfl;have hcz47_3 : w46.cell? ⟨gb332,3,none⟩ = some (.string ((rd_T59 l0 x7_1).f1)):=(blk_cell BK332.out 3).trans rfl;have hfz47_0:=blk_frozen BK332.out 0;have hfz47_1:=blk_frozen BK332.out 1;have hfz47_2:=blk_frozen BK332.out 2;have hfz47_3:=blk_frozen BK332.out 3))
            go_roundg kj5
            case measure=>have:=HK1.out;have:=HJ5.out;omega
            case rel=>exact ⟨(t340),(x5_5),(x6_5),(wrap64 (x7_1 + 1)),(by first|rfl|(simp;done)|(simp [*];done)),(by first|rfl|(simp;done)|(simp [*];done)),H',⟨by have:=HK1.out;have:=HJ5.out;omega⟩,⟨by (with_reducible repeat (first|apply Kd.R_alloc|apply Kd.R_drewN|apply Kd.R_drew));exact Kd.R_mono HO342.out (fun _ hk=>hk.1.1.2)⟩,⟨by (with_reducible repeat (first|apply Kd.R_alloc|apply Kd.R_drewN|apply Kd.R_drew));exact Kd.R_mono HO_5.out (fun _ hk=>hk.2)⟩,⟨by repeat (first|(with_reducible first|exact HB.out|apply below_alloc|apply pw_below_drewN|apply below_drew1|refine below_set ?_ GE332.out)|exact HB.out)⟩⟩
          ·rw [if_neg c17] at H
           exact absurd H (by simp)
         ·rw [if_neg c16] at H
          exact absurd H (by simp)
        ·rw [if_neg c13] at H
         exact absurd H (by simp)
       ·rw [if_neg c12] at H
        exact absurd H (by simp)
    ·rw [if_neg c5] at H
     have c5b0 : decide (x7_1 < (l0.length : Int)) = false:=decide_eq_false c5
     clear c5
     by_cases c48 : x4_1.length + x5_1.length < 140737488355328
     ·rw [if_pos c48] at H
      have LMc48:=Aside0.mk c48
      clear c48
      obtain ⟨y322,hy322⟩ : ∃ y_ : List Int,y_ = (x4_1 ++ x5_1):=⟨_,rfl⟩
      replace H : ((ratlineref02_PutFour.f k1 y322 x6_1).bind fun t325=>(some (t325,0))) = some (r1,r2):=by first|(rw [hy322];with_reducible exact H)|(have H2_:=(Option.bind_some _ _).symm.trans H;rw [hy322];with_reducible exact H2_)|(have H2_:=(Option.bind_some _ _).symm.trans H;with_reducible exact H2_)|with_reducible exact H|(rw [hy322];exact H)|exact H
      have Ny322:=Aside0.mk hy322
      clear hy322
      replace H:=Option.bind_eq_some_iff.mp H
      obtain ⟨t325,A490,H⟩:=H
      replace H : (some (t325,0)) = some (r1,r2):=H
      have A49:=Aside0.mk A490
      clear A490
      simp only [Option.some.injEq,Prod.mk.injEq] at H
      obtain ⟨rfl,rfl⟩:=H
      obtain ⟨Ao51,co51,eo51⟩:=Kd.R_slice HO_5.out
      subst eo51
      go_wp2_with (first|((with_reducible refine gate_builtin (b:=.append) (xs:=#[.tmp 65,.tmp 66]) rfl ?_);at_builtin;refine Kd.R_append_rows (Kd.int .u8) (w0:=w) w.heap.size rfl (.tmp 65) (.tmp 66) 26 5 (.int .u8 0) 1 rfl Try.underlying26 info5 rfl (by decide) (by omega) u4 x4_1 x5_1 _ _ _ (fun k_=>some k_ ≠ (.slice Ao51 x5_1.length co51 : Value).ownBlock) (fun _=>False) rfl rfl ?aO ?aR (fun _ _ h=>h) (fun _ h=>h.elim) ?aF ?aB ?aS ?aL ?_;(case aR=>repeat (first|exact (Kd.R_reads' HO_5.out).2.2|(with_reducible refine Kd.C_alloc ?_ _)|(with_reducible refine Kd.C_drewN ?_ _)|(with_reducible refine Kd.C_drew ?_)));(case aB=>exact (by repeat (first|(with_reducible first|exact HB.out|apply below_alloc|apply pw_below_drewN|apply below_drew1)|exact HB.out)));(case aF=>exact (fun k_ hk=>Kd.fresh' (Kd.R_lt (by (with_reducible repeat (first|apply Kd.R_alloc|apply Kd.R_drewN|apply Kd.R_drew));exact HO_5.out)) k_ hk));(case aO=>exact (by (with_reducible repeat (first|apply Kd.R_alloc|apply Kd.R_drewN|apply Kd.R_drew));exact HO_4.out));(case aS=>exact (below_size (by repeat (first|(with_reducible first|exact HB.out|apply below_alloc|apply pw_below_drewN|apply below_drew1)|exact HB.out))));(case aL=>have:=LMc48.out;omega);intro v323 w50 ho hb hg hat;rw [← Ny322.out] at ho;have n0_:=Aside0.mk (Kd.R_after (ok:=(fun _=>True)) (by (with_reducible repeat (first|apply Kd.R_alloc|apply Kd.R_drewN|apply Kd.R_drew));exact Kd.R_mono HO_5.out (fun _ hk=>⟨trivial,hk⟩)) hg hat);have n1_:=Aside0.mk (hb);have n2_:=Aside0.mk (ho);clear HO_5;clear HB;clear HO_4;have HO_5:=n0_;have HB:=n1_;have HO324:=n2_;clear n0_ n1_ n2_;clear ho hb hg hat;obtain ⟨Ao52,co52,eo52⟩:=Kd.R_slice HO324.out;subst eo52)|((with_reducible refine gate_callee (f:=53) rfl ?_);refine goesL_ (some 69) rfl rfl Try.func53 (by kernel_rfl) rfl #[.slice Ao52 y322.length co52,.int .u32 x6_1] rfl (by (try simp only [List.map_toArray,List.map_cons,List.map_nil]);first|done|rfl|(simp only [List.length_drop,List.length_take];rfl)) ?_;(with_reducible refine (ratlineref02_PutFour.calls k1 _ _ y322 x6_1 t325 _ ?side1 ?side2 A49.out).mono ?_);(case side1=>repeat (first|exact (Kd.R_reads' HO324.out).2.2|(with_reducible refine Kd.C_alloc ?_ _)|(with_reducible refine Kd.C_drewN ?_ _)|(with_reducible refine Kd.C_drew ?_)));(case side2=>exact (Kd.R_reads' HO324.out).2.1);rintro e w53 ⟨v326,rfl,ho0,hb⟩;refine ⟨_,rfl,?_⟩;have n0_:=Aside0.mk (Kd.R_elder' (by (with_reducible repeat (first|apply Kd.R_alloc|apply Kd.R_drewN|apply Kd.R_drew));exact HO_5.out) (Kd.R_base ho0) hb);have n1_:=Aside0.mk (Kd.R_elder' (by (with_reducible repeat (first|apply Kd.R_alloc|apply Kd.R_drewN|apply Kd.R_drew));exact HO324.out) (Kd.R_base ho0) hb);have n2_:=Aside0.mk (Kd.R_lower (Kd.R_new' (Kd.R_new' ho0 (Kd.R_lt (by (with_reducible repeat (first|apply Kd.R_alloc|apply Kd.R_drewN|apply Kd.R_drew));exact HO_5.out))) (Kd.R_lt (by (with_reducible repeat (first|apply Kd.R_alloc|apply Kd.R_drewN|apply Kd.R_drew));exact HO324.out))) (below_size (by repeat (first|(with_reducible first|exact HB.out|apply below_alloc|apply pw_below_drewN|apply below_drew1)|exact HB.out))));have n3_:=Aside0.mk (below_step (by repeat (first|(with_reducible first|exact HB.out|apply below_alloc|apply pw_below_drewN|apply below_drew1)|exact HB.out)) hb);clear HO_5;clear HO324;clear HB;have HO_5:=n0_;have HO324:=n1_;have HO327:=n2_;have HB:=n3_;clear n0_ n1_ n2_ n3_;(try clear hb);(try clear hb2);(try clear hk);(try clear hi);(try clear ho0)))
      go_ret2
      exact ⟨_,by first|rfl|(simp [errW_none,errW_some] <;> rfl)|(simp [*,errW_none,errW_some] <;> rfl),by (with_reducible repeat (first|apply Kd.R_alloc|apply Kd.R_drewN|apply Kd.R_drew));exact Kd.R_mono HO327.out (fun _ hk=>trivial),by repeat (first|(with_reducible first|exact HB.out|apply below_alloc|apply pw_below_drewN|apply below_drew1)|exact HB.out)⟩
     ·rw [if_neg c48] at H
      exact absurd H (by simp)
 ·replace c3:=Bool.eq_false_iff.mpr c3
  subst c3
  have H1 : (some (([] : List Int),70)) = some (r1,r2):=by rw [if_neg (show ¬ (false = true) by decide)] at H;exact H
  clear H
  have H:=H1
  clear H1
  simp only [Option.some.injEq,Prod.mk.injEq] at H
  obtain ⟨rfl,rfl⟩:=H
  go_enter Try.func23,Try.ntmps23
  go_wp2_with (first|((with_reducible refine gate_callee (f:=52) rfl ?_);refine goesL_ (some 11) rfl rfl Try.func52 (by kernel_rfl) rfl #[.slice A0 l0.length c0] rfl (by (try simp only [List.map_toArray,List.map_cons,List.map_nil]);first|done|rfl|(simp only [List.length_drop,List.length_take];rfl)) ?_;(with_reducible refine (ratlineref07_right.calls k _ _ l0 false _ ?side1 ?side2 A2.out).mono ?_);(case side1=>repeat (first|exact HR0.out|(with_reducible refine Kd.C_alloc ?_ _)|(with_reducible refine Kd.C_drewN ?_ _)|(with_reducible refine Kd.C_drew ?_)));(case side2=>exact HC0.out);rintro e w54 ⟨rfl,hb⟩;refine ⟨_,rfl,?_⟩;have n0_:=Aside0.mk (below_step (by repeat (first|(with_reducible first|exact HB.out|apply below_alloc|apply pw_below_drewN|apply below_drew1)|exact HB.out)) hb);clear HB;have HB:=n0_;clear n0_;(try clear hb);(try clear hb2);(try clear hk);(try clear hi)))
  go_ret2
  exact ⟨_,by first|rfl|(simp [errW_none,errW_some] <;> rfl)|(simp [*,errW_none,errW_some] <;> rfl),by first|exact Kd.R_nil _ _ _ _ _|exact Kd.N_nil _ _ _ _ _|exact Kd.V_nil _ _ _ _ _|exact Kd.Q_nil _ _ _ _ _|exact Kd.S_nil _ _ _ _ _,by repeat (first|(with_reducible first|exact HB.out|apply below_alloc|apply pw_below_drewN|apply below_drew1)|exact HB.out)⟩

end Go.Proofs.Ytjcjfghcahbbmaa.P

end

section
namespace Go.Proofs.Ytjcjfghcahbbmaa.P
open Go.RowKit Go.Proofs.YtjcjfghcahbbmaaG Go.Proofs.YtjcjfghcahbbmaaW.PrintWords Go.Proofs.YtjcjfghcahbbmaaW.PrintLast Go.Proofs.YtjcjfghcahbbmaaW.PrintMore
attribute [local go_sem] str_gtr str_geq str_leq max2_int min2_int max_two min_two max_three min_three max_four min_four   -- for this text's walks alone
set_option linter.unusedVariables false
set_option linter.unusedSimpArgs false

def ratlineref02_same.f (l0 : List Int) (l1 : List Int) : Option (Bool):=if (l0.length : Int) ≥ (l1.length : Int) then (if 0 ≤ (l1.length : Int) then (if (l1.length : Int) ≤ (l0.length : Int) then (some ((strOfNums (l0.take ((l1.length : Int) : Int).toNat)).toList == (strOfNums l1).toList)) else (none)) else (none)) else (some false)
set_option maxHeartbeats 8000000 in
set_option maxRecDepth 100000 in
theorem ratlineref02_same.calls (A0 : Option Addr) (c0 : Nat) (l0 : List Int) (A1 : Option Addr) (c1 : Nat) (l1 : List Int) (r : Bool) (w : World) (hr0 : Kd.C (Kd.int .u8) w A0 l0.length l0) (hc0 : l0.length ≤ c0) (hr1 : Kd.C (Kd.int .u8) w A1 l1.length l1) (hc1 : l1.length ≤ c1) (h : ratlineref02_same.f l0 l1 = some r) :
  Calls Try.prog 112 #[.slice A0 l0.length c0,.slice A1 l1.length c1] w fun e w'=>e = .returned (.bool r) ∧ Drawn0 w w':=by
 have HR0:=Aside0.mk hr0
 have HC0:=Aside0.mk hc0
 clear hr0 hc0
 have HR1:=Aside0.mk hr1
 have HC1:=Aside0.mk hc1
 clear hr1 hc1
 have H : (if (l0.length : Int) ≥ (l1.length : Int) then (if 0 ≤ (l1.length : Int) then (if (l1.length : Int) ≤ (l0.length : Int) then (some ((strOfNums (l0.take ((l1.length : Int) : Int).toNat)).toList == (strOfNums l1).toList)) else (none)) else (none)) else (some false)) = some r:=h
 clear h
 by_cases c3 : (l0.length : Int) ≥ (l1.length : Int)
 ·rw [if_pos c3] at H
  have c3b0 : decide ((l1.length : Int) ≤ (l0.length : Int)) = true:=decide_eq_true c3
  have c3b1 : decide (l1.length ≤ l0.length) = true:=decide_eq_true (Int.ofNat_le.mp c3)
  clear c3
  by_cases c4 : 0 ≤ (l1.length : Int)
  ·rw [if_pos c4] at H
   have c4b0:=eq_true c4
   have c4b1 : decide (0 ≤ (l1.length : Int)) = true:=decide_eq_true c4
   clear c4
   by_cases c5 : (l1.length : Int) ≤ (l0.length : Int)
   ·rw [if_pos c5] at H
    have c5b0:=eq_true c5
    have c5b1 : decide ((l1.length : Int) ≤ (l0.length : Int)) = true:=decide_eq_true c5
    clear c5
    obtain rfl:=Option.some.inj H
    obtain ⟨i06,hi06,_,hsz6,_⟩:=info_parts info5
    obtain ⟨hcut6,hA6,hC6⟩:=print_take_of (P:=Try.prog) (Value.int .u8) 0 26 5 .i64 Try.underlying26 hi06 hsz6 A0 c0 l0 (l1.length : Int) (of_decide_eq_true (by first|(with_reducible assumption)|assumption)) (of_decide_eq_true (by first|(with_reducible assumption)|assumption)) HC0.out
    have HR346:=Aside0.mk (Kd.C_of_reads (h1:=fun _=>rfl) (hA6 _ (Kd.reads_of_C HR0.out)))
    have HC346:=Aside0.mk hC6
    clear hA6 hC6 hi06 hsz6
    have hcv7:=Kd.C_string (P:=Try.prog) (A:=A0) (c:=c0) Try.underlying26 Try.underlying5 Try.underlying9 HR346.out
    have hcvd_:=fun n_=>Kd.C_string (P:=Try.prog) (A:=A0) (c:=c0) Try.underlying26 Try.underlying5 Try.underlying9 (Kd.C_below (HR346.out) (pw_below_drewN (Below.refl _ _) n_))
    (try simp only [List.length_take,Int.toNat_natCast] at hcvd_)
    have hcv8:=Kd.C_string (P:=Try.prog) (A:=A1) (c:=c1) Try.underlying26 Try.underlying5 Try.underlying9 HR1.out
    have hcvd_:=fun n_=>Kd.C_string (P:=Try.prog) (A:=A1) (c:=c1) Try.underlying26 Try.underlying5 Try.underlying9 (Kd.C_below (HR1.out) (pw_below_drewN (Below.refl _ _) n_))
    (try simp only [List.length_take,Int.toNat_natCast] at hcvd_)
    go_enter Try.func112,Try.ntmps112
    go_wp2
    repeat (go_quiet (fail);try go_wp2)
    go_ret
    exact ⟨by first|rfl|(simp;done)|(simp [*];done),by repeat (first|exact Drawn0.refl _|apply Drawn0.step)⟩
   ·rw [if_neg c5] at H
    exact absurd H (by simp)
  ·rw [if_neg c4] at H
   exact absurd H (by simp)
 ·rw [if_neg c3] at H
  have c3b0 : decide ((l1.length : Int) ≤ (l0.length : Int)) = false:=decide_eq_false c3
  have c3b1 : decide (l1.length ≤ l0.length) = false:=decide_eq_false (fun h=>c3 (Int.ofNat_le.mpr h))
  clear c3
  obtain rfl:=Option.some.inj H
  go_enter Try.func112,Try.ntmps112
  go_wp2
  repeat (go_quiet (fail);try go_wp2)
  go_ret
  exact ⟨by first|rfl|(simp;done)|(simp [*];done),by repeat (first|exact Drawn0.refl _|apply Drawn0.step)⟩

def ratlineref02_rest.f (l0 : List Int) (a1 : Int) : Option (List Int):=if 0 ≤ a1 then (if a1 ≤ (l0.length : Int) then (if ([] : List Int).length + (l0.drop (a1 : Int).toNat).length < 140737488355328 then (some (([] : List Int) ++ (l0.drop (a1 : Int).toNat))) else (none)) else (none)) else (none)
set_option maxHeartbeats 8000000 in
set_option maxRecDepth 100000 in
theorem ratlineref02_rest.calls (A0 : Option Addr) (c0 : Nat) (l0 : List Int) (a1 : Int) (r : List Int) (w : World) (hr0 : Kd.C (Kd.int .u8) w A0 l0.length l0) (hc0 : l0.length ≤ c0) (h : ratlineref02_rest.f l0 a1 = some r) :
  Calls Try.prog 113 #[.slice A0 l0.length c0,.int .i64 a1] w fun e w'=>∃ v0_ : Value,e = .returned (v0_) ∧ Kd.R (Kd.int .u8) 5 w' w.heap.size (fun _=>True) v0_ r ∧ Below w.heap.size w w':=by
 have HR0:=Aside0.mk hr0
 have HC0:=Aside0.mk hc0
 clear hr0 hc0
 have HB:=Aside0.mk (Below.refl w.heap.size w)
 have H : (if 0 ≤ a1 then (if a1 ≤ (l0.length : Int) then (if ([] : List Int).length + (l0.drop (a1 : Int).toNat).length < 140737488355328 then (some (([] : List Int) ++ (l0.drop (a1 : Int).toNat))) else (none)) else (none)) else (none)) = some r:=h
 clear h
 by_cases c3 : 0 ≤ a1
 ·rw [if_pos c3] at H
  have c3b0:=eq_true c3
  have c3b1 : decide (0 ≤ a1) = true:=decide_eq_true c3
  clear c3
  by_cases c4 : a1 ≤ (l0.length : Int)
  ·rw [if_pos c4] at H
   have c4b0:=eq_true c4
   have c4b1 : decide (a1 ≤ (l0.length : Int)) = true:=decide_eq_true c4
   clear c4
   by_cases c5 : ([] : List Int).length + (l0.drop (a1 : Int).toNat).length < 140737488355328
   ·rw [if_pos c5] at H
    have LMc5:=Aside0.mk c5
    clear c5
    obtain ⟨y348,hy348⟩ : ∃ y_ : List Int,y_ = (([] : List Int) ++ (l0.drop (a1 : Int).toNat)):=⟨_,rfl⟩
    replace H : (some y348) = some r:=by first|(rw [hy348];with_reducible exact H)|(have H2_:=(Option.bind_some _ _).symm.trans H;rw [hy348];with_reducible exact H2_)|(have H2_:=(Option.bind_some _ _).symm.trans H;with_reducible exact H2_)|with_reducible exact H|(rw [hy348];exact H)|exact H
    have Ny348:=Aside0.mk hy348
    clear hy348
    obtain rfl:=Option.some.inj H
    obtain ⟨i06,hi06,_,hsz6,_⟩:=info_parts info5
    obtain ⟨A6,hcut6,hA6,hC6⟩:=print_drop_of (P:=Try.prog) (Value.int .u8) 0 26 5 .i64 Try.underlying26 hi06 hsz6 A0 c0 l0 a1 (of_decide_eq_true (by first|(with_reducible assumption)|assumption)) (of_decide_eq_true (by first|(with_reducible assumption)|assumption)) HC0.out
    have HR347:=Aside0.mk (Kd.C_of_reads (h1:=fun _=>rfl) (hA6 _ (Kd.reads_of_C HR0.out)))
    have HC347:=Aside0.mk hC6
    clear hA6 hC6 hi06 hsz6
    go_enter Try.func113,Try.ntmps113
    go_wp2_with (first|((with_reducible refine gate_builtin (b:=.append) (xs:=#[.tmp 6,.tmp 9]) rfl ?_);at_builtin;refine Kd.R_append_rows (Kd.int .u8) (w0:=w) w.heap.size rfl (.tmp 6) (.tmp 9) 26 5 (.int .u8 0) 1 rfl Try.underlying26 info5 rfl (by decide) (by omega) (.slice none 0 0) ([] : List Int) (l0.drop (a1 : Int).toNat) _ _ _ (fun _=>True) (fun _=>False) rfl rfl ?aO ?aR (fun _ _ h=>h) (fun _ h=>h.elim) ?aF ?aB ?aS ?aL ?_;(case aR=>first|(rw [← show (l0.drop (a1 : Int).toNat).length = (l0.length - a1.toNat) from List.length_drop];repeat (first|exact HR347.out|(with_reducible refine Kd.C_alloc ?_ _)|(with_reducible refine Kd.C_drewN ?_ _)|(with_reducible refine Kd.C_drew ?_)))|(repeat (first|exact HR347.out|(with_reducible refine Kd.C_alloc ?_ _)|(with_reducible refine Kd.C_drewN ?_ _)|(with_reducible refine Kd.C_drew ?_))));(case aB=>exact (by repeat (first|(with_reducible first|exact HB.out|apply below_alloc|apply pw_below_drewN|apply below_drew1)|exact HB.out)));(case aF=>exact (fun _ _=>trivial));(case aO=>exact ((Kd.R_nil _ _ _ _ (fun _=>True))));(case aS=>exact (below_size (by repeat (first|(with_reducible first|exact HB.out|apply below_alloc|apply pw_below_drewN|apply below_drew1)|exact HB.out))));(case aL=>have:=LMc5.out;have hlx_:=(show (l0.drop (a1 : Int).toNat).length = (l0.length - a1.toNat) from List.length_drop);omega);intro v349 w7 ho hb hg hat;rw [← Ny348.out] at ho;have n0_:=Aside0.mk (hb);have n1_:=Aside0.mk (ho);clear HB;have HB:=n0_;have HO350:=n1_;clear n0_ n1_;clear ho hb hg hat))
    go_ret
    exact ⟨_,by first|rfl|(simp [errW_none,errW_some] <;> rfl)|(simp [*,errW_none,errW_some] <;> rfl),by (with_reducible repeat (first|apply Kd.R_alloc|apply Kd.R_drewN|apply Kd.R_drew));exact HO350.out,by repeat (first|(with_reducible first|exact HB.out|apply below_alloc|apply pw_below_drewN|apply below_drew1)|exact HB.out)⟩
   ·rw [if_neg c5] at H
    exact absurd H (by simp)
  ·rw [if_neg c4] at H
   exact absurd H (by simp)
 ·rw [if_neg c3] at H
  exact absurd H (by simp)

end Go.Proofs.Ytjcjfghcahbbmaa.P

end

section
namespace Go.Proofs.Ytjcjfghcahbbmaa.P
open Go.RowKit Go.Proofs.YtjcjfghcahbbmaaG Go.Proofs.YtjcjfghcahbbmaaW.PrintWords Go.Proofs.YtjcjfghcahbbmaaW.PrintLast Go.Proofs.YtjcjfghcahbbmaaW.PrintMore
attribute [local go_sem] str_gtr str_geq str_leq max2_int min2_int max_two min_two max_three min_three max_four min_four   -- for this text's walks alone
set_option linter.unusedVariables false
set_option linter.unusedSimpArgs false

mutual
def ratlineref02_Take.l0 : Nat → List Int → Int → Int → Int → Option (Int × List Int × Bool)
 | 0,_,_,_,_=>none
 | k + 1,x0,x5,x6,x7=>if x7 < (x0.length : Int) then (ratlineref02_Take.j1 k x0 x5 x6 x7 (decide (x7 < 10))) else (ratlineref02_Take.j1 k x0 x5 x6 x7 false)
def ratlineref02_Take.j1 : Nat → List Int → Int → Int → Int → Bool → Option (Int × List Int × Bool)
 | 0,_,_,_,_,_=>none
 | k + 1,x0,x5,x6,x7,x15=>if x15 = true then (if 0 ≤ x7 then (if x7 < (x0.length : Int) then (if (rd x0 x7) < 128 then ((ratlineref02_Put.f k ([] : List Int) (IntKind.u64.wrap (x5 + (IntKind.u64.wrap ((IntKind.u64.wrap (Int.tmod (rd x0 x7) 128)) * x6))))).bind fun t353=>((ratlineref02_same.f x0 t353).bind fun t356=>(if t356 = true then ((ratlineref02_Put.f k ([] : List Int) (IntKind.u64.wrap (x5 + (IntKind.u64.wrap ((IntKind.u64.wrap (Int.tmod (rd x0 x7) 128)) * x6))))).bind fun t357=>(if (t357.length : Int) = (wrap64 (x7 + 1)) then ((ratlineref02_rest.f x0 (wrap64 (x7 + 1))).bind fun t360=>(some (IntKind.u64.wrap (x5 + (IntKind.u64.wrap ((IntKind.u64.wrap (Int.tmod (rd x0 x7) 128)) * x6))),t360,true))) else (some (0,([] : List Int),false)))) else (some (0,([] : List Int),false))))) else (ratlineref02_Take.l0 k x0 (IntKind.u64.wrap (x5 + (IntKind.u64.wrap ((IntKind.u64.wrap (Int.tmod (rd x0 x7) 128)) * x6)))) (IntKind.u64.wrap (x6 * 128)) (wrap64 (x7 + 1)))) else (none)) else (none)) else (some (0,([] : List Int),false))
end
def ratlineref02_Take.f (k : Nat) (l0 : List Int) : Option (Int × List Int × Bool):=ratlineref02_Take.l0 k l0 0 1 0
set_option maxHeartbeats 8000000 in
set_option maxRecDepth 100000 in
theorem ratlineref02_Take.calls (k : Nat) (A0 : Option Addr) (c0 : Nat) (l0 : List Int) (r1 : Int) (r2 : List Int) (r3 : Bool) (w : World) (hr0 : Kd.C (Kd.int .u8) w A0 l0.length l0) (hc0 : l0.length ≤ c0) (h : ratlineref02_Take.f k l0 = some (r1,r2,r3)) :
  Calls Try.prog 88 #[.slice A0 l0.length c0] w fun e w'=>∃ v1_ : Value,e = .returned (.tuple #[.int .u64 r1,v1_,.bool r3]) ∧ Kd.R (Kd.int .u8) 5 w' w.heap.size (fun _=>True) v1_ r2 ∧ Below w.heap.size w w':=by
 have HR0:=Aside0.mk hr0
 have HC0:=Aside0.mk hc0
 clear hr0 hc0
 have HB:=Aside0.mk (Below.refl w.heap.size w)
 have H : (ratlineref02_Take.l0 k l0 0 1 0) = some (r1,r2,r3):=h
 clear h
 have H':=Aside0.mk H
 clear H
 go_enter Try.func88,Try.ntmps88
 go_wp2
 go_loopg [5,6,7] k (fun kq v5 v6 v7 w'=>∃ (x5_1 : Int) (x6_1 : Int) (x7_1 : Int),v5 = .int .u64 x5_1 ∧ v6 = .int .u64 x6_1 ∧ v7 = .int .i64 x7_1 ∧ Aside0 (ratlineref02_Take.l0 kq l0 x5_1 x6_1 x7_1 = some (r1,r2,r3)) ∧ Aside0 (kq ≤ k) ∧ Aside0 (Below w.heap.size w w'))
 case atStart=>exact ⟨(0),(1),(0),(by first|rfl|(simp;done)|(simp [*];done)),(by first|rfl|(simp;done)|(simp [*];done)),(by first|rfl|(simp;done)|(simp [*];done)),H',⟨Nat.le_refl _⟩,⟨by repeat (first|(with_reducible first|exact HB.out|apply below_alloc|apply pw_below_drewN|apply below_drew1)|exact HB.out)⟩⟩
 case round =>
  clear H'
  obtain ⟨x5_1,x6_1,x7_1,rfl,rfl,rfl,HA,HK1,HB⟩:=hrel
  cases gk with
  | zero=>exact absurd HA.out (by simp [ratlineref02_Take.l0])
  | succ k1 =>
   have H:=HA.out
   clear HA
   simp only [ratlineref02_Take.l0] at H
   have HC2:=Aside0.mk H
   clear H
   go_upto_region 4 with (fail)
   go_cut [15] (fun v15 wc=>∃ (kq : Nat) (x15_1 : Bool),v15 = .bool x15_1 ∧ Aside0 (ratlineref02_Take.j1 kq l0 x5_1 x6_1 x7_1 x15_1 = some (r1,r2,r3)) ∧ Aside0 (kq ≤ k1) ∧ Aside0 (Below w.heap.size w wc))
   case first =>
    have H:=HC2.out
    clear HC2
    by_cases c3 : x7_1 < (l0.length : Int)
    ·rw [if_pos c3] at H
     have c3b0 : decide (x7_1 < (l0.length : Int)) = true:=decide_eq_true c3
     clear c3
     (first|rw [c3b0]|(simp only [i64_w,i32_w];rw [c3b0])|skip)
     have H':=Aside0.mk H
     clear H
     go_wp2
     go_meet
     case rel=>exact ⟨_,(decide (x7_1 < 10)),(by first|rfl|(simp;done)|(simp [*];done)),H',⟨by have:=HK1.out;first|omega|exact Nat.le_refl _⟩,⟨by repeat (first|(with_reducible first|exact HB.out|apply below_alloc|apply pw_below_drewN|apply below_drew1)|exact HB.out)⟩⟩
    ·rw [if_neg c3] at H
     have c3b0 : decide (x7_1 < (l0.length : Int)) = false:=decide_eq_false c3
     clear c3
     (first|rw [c3b0]|(simp only [i64_w,i32_w];rw [c3b0])|skip)
     have H':=Aside0.mk H
     clear H
     go_wp2
     go_meet
     case rel=>exact ⟨_,(false),(by first|rfl|(simp;done)|(simp [*];done)),H',⟨by have:=HK1.out;first|omega|exact Nat.le_refl _⟩,⟨by repeat (first|(with_reducible first|exact HB.out|apply below_alloc|apply pw_below_drewN|apply below_drew1)|exact HB.out)⟩⟩
   case rest =>
    clear HC2
    try clear p2
    try clear c3
    try clear c3b0
    obtain ⟨kq,x15_1,rfl,HA,HJ1,HB⟩:=hcut
    cases kq with
    | zero=>exact absurd HA.out (by simp [ratlineref02_Take.j1])
    | succ kj1 =>
     have H:=HA.out
     clear HA
     simp only [ratlineref02_Take.j1] at H
     by_cases c4 : x15_1 = true
     ·subst c4
      have H1 : (if 0 ≤ x7_1 then (if x7_1 < (l0.length : Int) then (if (rd l0 x7_1) < 128 then ((ratlineref02_Put.f kj1 ([] : List Int) (IntKind.u64.wrap (x5_1 + (IntKind.u64.wrap ((IntKind.u64.wrap (Int.tmod (rd l0 x7_1) 128)) * x6_1))))).bind fun t353=>((ratlineref02_same.f l0 t353).bind fun t356=>(if t356 = true then ((ratlineref02_Put.f kj1 ([] : List Int) (IntKind.u64.wrap (x5_1 + (IntKind.u64.wrap ((IntKind.u64.wrap (Int.tmod (rd l0 x7_1) 128)) * x6_1))))).bind fun t357=>(if (t357.length : Int) = (wrap64 (x7_1 + 1)) then ((ratlineref02_rest.f l0 (wrap64 (x7_1 + 1))).bind fun t360=>(some (IntKind.u64.wrap (x5_1 + (IntKind.u64.wrap ((IntKind.u64.wrap (Int.tmod (rd l0 x7_1) 128)) * x6_1))),t360,true))) else (some (0,([] : List Int),false)))) else (some (0,([] : List Int),false))))) else (ratlineref02_Take.l0 kj1 l0 (IntKind.u64.wrap (x5_1 + (IntKind.u64.wrap ((IntKind.u64.wrap (Int.tmod (rd l0 x7_1) 128)) * x6_1)))) (IntKind.u64.wrap (x6_1 * 128)) (wrap64 (x7_1 + 1)))) else (none)) else (none)) = some (r1,r2,r3):=by rw [if_pos rfl] at H;exact H
      clear H
      have H:=H1
      clear H1
      by_cases c5 : 0 ≤ x7_1
      ·rw [if_pos c5] at H
       have c5b0 : decide (0 ≤ x7_1) = true:=decide_eq_true c5
       clear c5
       by_cases c6 : x7_1 < (l0.length : Int)
       ·rw [if_pos c6] at H
        have c6b0 : decide (x7_1 < (l0.length : Int)) = true:=decide_eq_true c6
        clear c6
        by_cases c7 : (rd l0 x7_1) < 128
        ·rw [if_pos c7] at H
         have c7b0 : decide ((rd l0 x7_1) < 128) = true:=decide_eq_true c7
         clear c7
         replace H:=Option.bind_eq_some_iff.mp H
         obtain ⟨t353,A80,H⟩:=H
         replace H : ((ratlineref02_same.f l0 t353).bind fun t356=>(if t356 = true then ((ratlineref02_Put.f kj1 ([] : List Int) (IntKind.u64.wrap (x5_1 + (IntKind.u64.wrap ((IntKind.u64.wrap (Int.tmod (rd l0 x7_1) 128)) * x6_1))))).bind fun t357=>(if (t357.length : Int) = (wrap64 (x7_1 + 1)) then ((ratlineref02_rest.f l0 (wrap64 (x7_1 + 1))).bind fun t360=>(some (IntKind.u64.wrap (x5_1 + (IntKind.u64.wrap ((IntKind.u64.wrap (Int.tmod (rd l0 x7_1) 128)) * x6_1))),t360,true))) else (some (0,([] : List Int),false)))) else (some (0,([] : List Int),false)))) = some (r1,r2,r3):=H
         have A8:=Aside0.mk A80
         clear A80
         replace H:=Option.bind_eq_some_iff.mp H
         obtain ⟨t356,A90,H⟩:=H
         replace H : (if t356 = true then ((ratlineref02_Put.f kj1 ([] : List Int) (IntKind.u64.wrap (x5_1 + (IntKind.u64.wrap ((IntKind.u64.wrap (Int.tmod (rd l0 x7_1) 128)) * x6_1))))).bind fun t357=>(if (t357.length : Int) = (wrap64 (x7_1 + 1)) then ((ratlineref02_rest.f l0 (wrap64 (x7_1 + 1))).bind fun t360=>(some (IntKind.u64.wrap (x5_1 + (IntKind.u64.wrap ((IntKind.u64.wrap (Int.tmod (rd l0 x7_1) 128)) * x6_1))),t360,true))) else (some (0,([] : List Int),false)))) else (some (0,([] : List Int),false))) = some (r1,r2,r3):=H
         have A9:=Aside0.mk A90
         clear A90
         by_cases c10 : t356 = true
         ·subst c10
          have H1 : ((ratlineref02_Put.f kj1 ([] : List Int) (IntKind.u64.wrap (x5_1 + (IntKind.u64.wrap ((IntKind.u64.wrap (Int.tmod (rd l0 x7_1) 128)) * x6_1))))).bind fun t357=>(if (t357.length : Int) = (wrap64 (x7_1 + 1)) then ((ratlineref02_rest.f l0 (wrap64 (x7_1 + 1))).bind fun t360=>(some (IntKind.u64.wrap (x5_1 + (IntKind.u64.wrap ((IntKind.u64.wrap (Int.tmod (rd l0 x7_1) 128)) * x6_1))),t360,true))) else (some (0,([] : List Int),false)))) = some (r1,r2,r3):=by rw [if_pos rfl] at H;exact H
          clear H
          have H:=H1
          clear H1
          replace H:=Option.bind_eq_some_iff.mp H
          obtain ⟨t357,A110,H⟩:=H
          replace H : (if (t357.length : Int) = (wrap64 (x7_1 + 1)) then ((ratlineref02_rest.f l0 (wrap64 (x7_1 + 1))).bind fun t360=>(some (IntKind.u64.wrap (x5_1 + (IntKind.u64.wrap ((IntKind.u64.wrap (Int.tmod (rd l0 x7_1) 128)) * x6_1))),t360,true))) else (some (0,([] : List Int),false))) = some (r1,r2,r3):=H
          have A11:=Aside0.mk A110
          clear A110
          by_cases c12 : (t357.length : Int) = (wrap64 (x7_1 + 1))
          ·rw [if_pos c12] at H
           have c12b0 : ((t357.length : Int) == (wrap64 (x7_1 + 1))) = true:=beq_iff_eq.mpr c12
           have c12b1 : ((t357.length : Int) != (wrap64 (x7_1 + 1))) = false:=bne_eq_false_iff_eq.mpr c12
           clear c12
           replace H:=Option.bind_eq_some_iff.mp H
           obtain ⟨t360,A130,H⟩:=H
           replace H : (some (IntKind.u64.wrap (x5_1 + (IntKind.u64.wrap ((IntKind.u64.wrap (Int.tmod (rd l0 x7_1) 128)) * x6_1))),t360,true)) = some (r1,r2,r3):=H
           have A13:=Aside0.mk A130
           clear A130
           simp only [Option.some.injEq,Prod.mk.injEq] at H
           obtain ⟨rfl,rfl,rfl⟩:=H
           have p351 : 0 ≤ (x7_1 : Int):=of_decide_eq_true (by first|(with_reducible assumption)|assumption)
           have q351 : x7_1 < (l0.length : Int):=of_decide_eq_true (by first|(with_reducible assumption)|assumption)
           obtain ⟨ad351,e351,hx351_0⟩:=Kd.at_int HR0.out x7_1 p351 q351
           cases e351
           replace hx351_0:=(HB.out.cell (World.block_lt_of_cell? w _ hx351_0)).trans hx351_0
           replace p351:=eq_true p351
           replace q351:=eq_true q351
           have p352 : 0 ≤ (x7_1 : Int):=of_decide_eq_true (by first|(with_reducible assumption)|assumption)
           have q352 : x7_1 < (l0.length : Int):=of_decide_eq_true (by first|(with_reducible assumption)|assumption)
           obtain ⟨ad352,e352,hx352_0⟩:=Kd.at_int HR0.out x7_1 p352 q352
           obtain rfl : ad351 = ad352:=(by injection e352)
           replace hx352_0:=(HB.out.cell (World.block_lt_of_cell? w _ hx352_0)).trans hx352_0
           replace p352:=eq_true p352
           replace q352:=eq_true q352
           go_wp2_with (first|((with_reducible refine gate_callee (f:=56) rfl ?_);refine goesL_ (some 37) rfl rfl Try.func56 (by kernel_rfl) rfl #[.slice none 0 0,.int .u64 (IntKind.u64.wrap (x5_1 + (IntKind.u64.wrap ((IntKind.u64.wrap (Int.tmod (rd l0 x7_1) 128)) * x6_1))))] rfl (by (try simp only [List.map_toArray,List.map_cons,List.map_nil]);first|done|rfl|(simp only [List.length_drop,List.length_take];rfl)) ?_;(refine calls_of_args (args':=#[.slice none (([] : List Int)).length 0,.int .u64 (IntKind.u64.wrap (x5_1 + (IntKind.u64.wrap ((IntKind.u64.wrap (Int.tmod (rd l0 x7_1) 128)) * x6_1))))]) (by rfl) ?_;with_reducible refine (ratlineref02_Put.calls kj1 _ _ ([] : List Int) (IntKind.u64.wrap (x5_1 + (IntKind.u64.wrap ((IntKind.u64.wrap (Int.tmod (rd l0 x7_1) 128)) * x6_1)))) t353 _ ?side1 ?side2 A8.out).mono ?_);(case side1=>exact Kd.C_nil _ _);(case side2=>exact Nat.le_refl _);rintro e w14 ⟨v354,rfl,ho0,hb⟩;refine ⟨_,rfl,?_⟩;have n0_:=Aside0.mk (Kd.R_lower ho0 (below_size (by repeat (first|(with_reducible first|exact HB.out|apply below_alloc|apply pw_below_drewN|apply below_drew1)|exact HB.out))));have n1_:=Aside0.mk (below_step (by repeat (first|(with_reducible first|exact HB.out|apply below_alloc|apply pw_below_drewN|apply below_drew1)|exact HB.out)) hb);clear HB;have HO355:=n0_;have HB:=n1_;clear n0_ n1_;(try clear hb);(try clear hb2);(try clear hk);(try clear hi);(try clear ho0);obtain ⟨Ao15,co15,eo15⟩:=Kd.R_slice HO355.out;subst eo15)|((with_reducible refine gate_callee (f:=112) rfl ?_);refine goesL_ (some 38) rfl rfl Try.func112 (by kernel_rfl) rfl #[.slice (some ad351) l0.length c0,.slice Ao15 t353.length co15] rfl (by (try simp only [List.map_toArray,List.map_cons,List.map_nil]);first|done|rfl|(simp only [List.length_drop,List.length_take];rfl)) ?_;(with_reducible refine (ratlineref02_same.calls _ _ l0 _ _ t353 true _ ?side1 ?side2 ?side3 ?side4 A9.out).mono ?_);(case side1=>repeat (first|exact (Kd.C_below HR0.out HB.out)|(with_reducible refine Kd.C_alloc ?_ _)|(with_reducible refine Kd.C_drewN ?_ _)|(with_reducible refine Kd.C_drew ?_)));(case side2=>exact HC0.out);(case side3=>repeat (first|exact (Kd.R_reads' HO355.out).2.2|(with_reducible refine Kd.C_alloc ?_ _)|(with_reducible refine Kd.C_drewN ?_ _)|(with_reducible refine Kd.C_drew ?_)));(case side4=>exact (Kd.R_reads' HO355.out).2.1);rintro e w' ⟨rfl,⟨nd,rfl⟩⟩;refine ⟨_,rfl,?_⟩)|(go_at_call 56;(refine calls_of_args (args':=#[.slice none (([] : List Int)).length 0,.int .u64 (IntKind.u64.wrap (x5_1 + (IntKind.u64.wrap ((IntKind.u64.wrap (Int.tmod (rd l0 x7_1) 128)) * x6_1))))]) (by rfl) ?_;with_reducible refine (ratlineref02_Put.calls kj1 _ _ ([] : List Int) (IntKind.u64.wrap (x5_1 + (IntKind.u64.wrap ((IntKind.u64.wrap (Int.tmod (rd l0 x7_1) 128)) * x6_1)))) t357 _ ?side1 ?side2 A11.out).mono ?_);(case side1=>exact Kd.C_nil _ _);(case side2=>exact Nat.le_refl _);rintro e w16 ⟨v358,rfl,ho0,hb⟩;have n0_:=Aside0.mk (Kd.R_elder' (by (with_reducible repeat (first|apply Kd.R_alloc|apply Kd.R_drewN|apply Kd.R_drew));exact HO355.out) (Kd.R_base ho0) hb);have n1_:=Aside0.mk (Kd.R_lower (Kd.R_new' ho0 (Kd.R_lt (by (with_reducible repeat (first|apply Kd.R_alloc|apply Kd.R_drewN|apply Kd.R_drew));exact HO355.out))) (below_size (by repeat (first|(with_reducible first|exact HB.out|apply below_alloc|apply pw_below_drewN|apply below_drew1)|exact HB.out))));have n2_:=Aside0.mk (below_step (by repeat (first|(with_reducible first|exact HB.out|apply below_alloc|apply pw_below_drewN|apply below_drew1)|exact HB.out)) hb);clear HO355;clear HB;have HO355:=n0_;have HO359:=n1_;have HB:=n2_;clear n0_ n1_ n2_;(try clear hb);(try clear hb2);(try clear hk);(try clear hi);(try clear ho0);obtain ⟨Ao17,co17,eo17⟩:=Kd.R_slice HO359.out;subst eo17)|((with_reducible refine gate_callee (f:=113) rfl ?_);refine goesL_ (some 52) rfl rfl Try.func113 (by kernel_rfl) rfl #[.slice (some ad351) l0.length c0,.int .i64 (wrap64 (x7_1 + 1))] rfl (by (try simp only [List.map_toArray,List.map_cons,List.map_nil]);first|done|rfl|(simp only [List.length_drop,List.length_take];rfl)) ?_;(with_reducible refine (ratlineref02_rest.calls _ _ l0 (wrap64 (x7_1 + 1)) t360 _ ?side1 ?side2 A13.out).mono ?_);(case side1=>repeat (first|exact (Kd.C_below HR0.out HB.out)|(with_reducible refine Kd.C_alloc ?_ _)|(with_reducible refine Kd.C_drewN ?_ _)|(with_reducible refine Kd.C_drew ?_)));(case side2=>exact HC0.out);rintro e w18 ⟨v361,rfl,ho0,hb⟩;refine ⟨_,rfl,?_⟩;have n0_:=Aside0.mk (Kd.R_elder' (by (with_reducible repeat (first|apply Kd.R_alloc|apply Kd.R_drewN|apply Kd.R_drew));exact HO355.out) (Kd.R_base ho0) hb);have n1_:=Aside0.mk (Kd.R_elder' (by (with_reducible repeat (first|apply Kd.R_alloc|apply Kd.R_drewN|apply Kd.R_drew));exact HO359.out) (Kd.R_base ho0) hb);have n2_:=Aside0.mk (Kd.R_lower (Kd.R_new' (Kd.R_new' ho0 (Kd.R_lt (by (with_reducible repeat (first|apply Kd.R_alloc|apply Kd.R_drewN|apply Kd.R_drew));exact HO355.out))) (Kd.R_lt (by (with_reducible repeat (first|apply Kd.R_alloc|apply Kd.R_drewN|apply Kd.R_drew));exact HO359.out))) (below_size (by repeat (first|(with_reducible first|exact HB.out|apply below_alloc|apply pw_below_drewN|apply below_drew1)|exact HB.out))));have n3_:=Aside0.mk (below_step (by repeat (first|(with_reducible first|exact HB.out|apply below_alloc|apply pw_below_drewN|apply below_drew1)|exact HB.out)) hb);clear HO355;clear HO359;clear HB;have HO355:=n0_;have HO359:=n1_;have HO362:=n2_;have HB:=n3_;clear n0_ n1_ n2_ n3_;(try clear hb);(try clear hb2);(try clear hk);(try clear hi);(try clear ho0)))
           go_ret3
           exact ⟨_,by first|rfl|(simp [errW_none,errW_some] <;> rfl)|(simp [*,errW_none,errW_some] <;> rfl),by (with_reducible repeat (first|apply Kd.R_alloc|apply Kd.R_drewN|apply Kd.R_drew));exact Kd.R_mono HO362.out (fun _ hk=>trivial),by repeat (first|(with_reducible first|exact HB.out|apply below_alloc|apply pw_below_drewN|apply below_drew1)|exact HB.out)⟩
          ·rw [if_neg c12] at H
           have c12b0 : ((t357.length : Int) == (wrap64 (x7_1 + 1))) = false:=beq_eq_false_iff_ne.mpr c12
           have c12b1 : ((t357.length : Int) != (wrap64 (x7_1 + 1))) = true:=bne_iff_ne.mpr c12
           simp only [Option.some.injEq,Prod.mk.injEq] at H
           obtain ⟨rfl,rfl,rfl⟩:=H
           have p351 : 0 ≤ (x7_1 : Int):=of_decide_eq_true (by first|(with_reducible assumption)|assumption)
           have q351 : x7_1 < (l0.length : Int):=of_decide_eq_true (by first|(with_reducible assumption)|assumption)
           obtain ⟨ad351,e351,hx351_0⟩:=Kd.at_int HR0.out x7_1 p351 q351
           cases e351
           replace hx351_0:=(HB.out.cell (World.block_lt_of_cell? w _ hx351_0)).trans hx351_0
           replace p351:=eq_true p351
           replace q351:=eq_true q351
           have p352 : 0 ≤ (x7_1 : Int):=of_decide_eq_true (by first|(with_reducible assumption)|assumption)
           have q352 : x7_1 < (l0.length : Int):=of_decide_eq_true (by first|(with_reducible assumption)|assumption)
           obtain ⟨ad352,e352,hx352_0⟩:=Kd.at_int HR0.out x7_1 p352 q352
           obtain rfl : ad351 = ad352:=(by injection e352)
           replace hx352_0:=(HB.out.cell (World.block_lt_of_cell? w _ hx352_0)).trans hx352_0
           replace p352:=eq_true p352
           replace q352:=eq_true q352
           go_wp2_with (first|((with_reducible refine gate_callee (f:=56) rfl ?_);refine goesL_ (some 37) rfl rfl Try.func56 (by kernel_rfl) rfl #[.slice none 0 0,.int .u64 (IntKind.u64.wrap (x5_1 + (IntKind.u64.wrap ((IntKind.u64.wrap (Int.tmod (rd l0 x7_1) 128)) * x6_1))))] rfl (by (try simp only [List.map_toArray,List.map_cons,List.map_nil]);first|done|rfl|(simp only [List.length_drop,List.length_take];rfl)) ?_;(refine calls_of_args (args':=#[.slice none (([] : List Int)).length 0,.int .u64 (IntKind.u64.wrap (x5_1 + (IntKind.u64.wrap ((IntKind.u64.wrap (Int.tmod (rd l0 x7_1) 128)) * x6_1))))]) (by rfl) ?_;with_reducible refine (ratlineref02_Put.calls kj1 _ _ ([] : List Int) (IntKind.u64.wrap (x5_1 + (IntKind.u64.wrap ((IntKind.u64.wrap (Int.tmod (rd l0 x7_1) 128)) * x6_1)))) t353 _ ?side1 ?side2 A8.out).mono ?_);(case side1=>exact Kd.C_nil _ _);(case side2=>exact Nat.le_refl _);rintro e w19 ⟨v354,rfl,ho0,hb⟩;refine ⟨_,rfl,?_⟩;have n0_:=Aside0.mk (Kd.R_lower ho0 (below_size (by repeat (first|(with_reducible first|exact HB.out|apply below_alloc|apply pw_below_drewN|apply below_drew1)|exact HB.out))));have n1_:=Aside0.mk (below_step (by repeat (first|(with_reducible first|exact HB.out|apply below_alloc|apply pw_below_drewN|apply below_drew1)|exact HB.out)) hb);clear HB;have HO355:=n0_;have HB:=n1_;clear n0_ n1_;(try clear hb);(try clear hb2);(try clear hk);(try clear hi);(try clear ho0);obtain ⟨Ao20,co20,eo20⟩:=Kd.R_slice HO355.out;subst eo20)|((with_reducible refine gate_callee (f:=112) rfl ?_);refine goesL_ (some 38) rfl rfl Try.func112 (by kernel_rfl) rfl #[.slice (some ad351) l0.length c0,.slice Ao20 t353.length co20] rfl (by (try simp only [List.map_toArray,List.map_cons,List.map_nil]);first|done|rfl|(simp only [List.length_drop,List.length_take];rfl)) ?_;(with_reducible refine (ratlineref02_same.calls _ _ l0 _ _ t353 true _ ?side1 ?side2 ?side3 ?side4 A9.out).mono ?_);(case side1=>repeat (first|exact (Kd.C_below HR0.out HB.out)|(with_reducible refine Kd.C_alloc ?_ _)|(with_reducible refine Kd.C_drewN ?_ _)|(with_reducible refine Kd.C_drew ?_)));(case side2=>exact HC0.out);(case side3=>repeat (first|exact (Kd.R_reads' HO355.out).2.2|(with_reducible refine Kd.C_alloc ?_ _)|(with_reducible refine Kd.C_drewN ?_ _)|(with_reducible refine Kd.C_drew ?_)));(case side4=>exact (Kd.R_reads' HO355.out).2.1);rintro e w' ⟨rfl,⟨nd,rfl⟩⟩;refine ⟨_,rfl,?_⟩)|(go_at_call 56;(refine calls_of_args (args':=#[.slice none (([] : List Int)).length 0,.int .u64 (IntKind.u64.wrap (x5_1 + (IntKind.u64.wrap ((IntKind.u64.wrap (Int.tmod (rd l0 x7_1) 128)) * x6_1))))]) (by rfl) ?_;with_reducible refine (ratlineref02_Put.calls kj1 _ _ ([] : List Int) (IntKind.u64.wrap (x5_1 + (IntKind.u64.wrap ((IntKind.u64.wrap (Int.tmod (rd l0 x7_1) 128)) * x6_1)))) t357 _ ?side1 ?side2 A11.out).mono ?_);(case side1=>exact Kd.C_nil _ _);(case side2=>exact Nat.le_refl _);rintro e w21 ⟨v358,rfl,ho0,hb⟩;have n0_:=Aside0.mk (Kd.R_elder' (by (with_reducible repeat (first|apply Kd.R_alloc|apply Kd.R_drewN|apply Kd.R_drew));exact HO355.out) (Kd.R_base ho0) hb);have n1_:=Aside0.mk (Kd.R_lower (Kd.R_new' ho0 (Kd.R_lt (by (with_reducible repeat (first|apply Kd.R_alloc|apply Kd.R_drewN|apply Kd.R_drew));exact HO355.out))) (below_size (by repeat (first|(with_reducible first|exact HB.out|apply below_alloc|apply pw_below_drewN|apply below_drew1)|exact HB.out))));have n2_:=Aside0.mk (below_step (by repeat (first|(with_reducible first|exact HB.out|apply below_alloc|apply pw_below_drewN|apply below_drew1)|exact HB.out)) hb);clear HO355;clear HB;have HO355:=n0_;have HO359:=n1_;have HB:=n2_;clear n0_ n1_ n2_;(try clear hb);(try clear hb2);(try clear hk);(try clear hi);(try clear ho0);obtain ⟨Ao22,co22,eo22⟩:=Kd.R_slice HO359.out;subst eo22))
           go_ret3
           exact ⟨_,by first|rfl|(simp [errW_none,errW_some] <;> rfl)|(simp [*,errW_none,errW_some] <;> rfl),by first|exact Kd.R_nil _ _ _ _ _|exact Kd.N_nil _ _ _ _ _|exact Kd.V_nil _ _ _ _ _|exact Kd.Q_nil _ _ _ _ _|exact Kd.S_nil _ _ _ _ _,by repeat (first|(with_reducible first|exact HB.out|apply below_alloc|apply pw_below_drewN|apply below_drew1)|exact HB.out)⟩
         ·replace c10:=Bool.eq_false_iff.mpr c10
          subst c10
          have H1 : (some (0,([] : List Int),false)) = some (r1,r2,r3):=by rw [if_neg (show ¬ (false = true) by decide)] at H;exact H
          clear H
          have H:=H1
          clear H1
          simp only [Option.some.injEq,Prod.mk.injEq] at H
          obtain ⟨rfl,rfl,rfl⟩:=H
          have p351 : 0 ≤ (x7_1 : Int):=of_decide_eq_true (by first|(with_reducible assumption)|assumption)
          have q351 : x7_1 < (l0.length : Int):=of_decide_eq_true (by first|(with_reducible assumption)|assumption)
          obtain ⟨ad351,e351,hx351_0⟩:=Kd.at_int HR0.out x7_1 p351 q351
          cases e351
          replace hx351_0:=(HB.out.cell (World.block_lt_of_cell? w _ hx351_0)).trans hx351_0
          replace p351:=eq_true p351
          replace q351:=eq_true q351
          have p352 : 0 ≤ (x7_1 : Int):=of_decide_eq_true (by first|(with_reducible assumption)|assumption)
          have q352 : x7_1 < (l0.length : Int):=of_decide_eq_true (by first|(with_reducible assumption)|assumption)
          obtain ⟨ad352,e352,hx352_0⟩:=Kd.at_int HR0.out x7_1 p352 q352
          obtain rfl : ad351 = ad352:=(by injection e352)
          replace hx352_0:=(HB.out.cell (World.block_lt_of_cell? w _ hx352_0)).trans hx352_0
          replace p352:=eq_true p352
          replace q352:=eq_true q352
          go_wp2_with (first|((with_reducible refine gate_callee (f:=56) rfl ?_);refine goesL_ (some 37) rfl rfl Try.func56 (by kernel_rfl) rfl #[.slice none 0 0,.int .u64 (IntKind.u64.wrap (x5_1 + (IntKind.u64.wrap ((IntKind.u64.wrap (Int.tmod (rd l0 x7_1) 128)) * x6_1))))] rfl (by (try simp only [List.map_toArray,List.map_cons,List.map_nil]);first|done|rfl|(simp only [List.length_drop,List.length_take];rfl)) ?_;(refine calls_of_args (args':=#[.slice none (([] : List Int)).length 0,.int .u64 (IntKind.u64.wrap (x5_1 + (IntKind.u64.wrap ((IntKind.u64.wrap (Int.tmod (rd l0 x7_1) 128)) * x6_1))))]) (by rfl) ?_;with_reducible refine (ratlineref02_Put.calls kj1 _ _ ([] : List Int) (IntKind.u64.wrap (x5_1 + (IntKind.u64.wrap ((IntKind.u64.wrap (Int.tmod (rd l0 x7_1) 128)) * x6_1)))) t353 _ ?side1 ?side2 A8.out).mono ?_);(case side1=>exact Kd.C_nil _ _);(case side2=>exact Nat.le_refl _);rintro e w23 ⟨v354,rfl,ho0,hb⟩;refine ⟨_,rfl,?_⟩;have n0_:=Aside0.mk (Kd.R_lower ho0 (below_size (by repeat (first|(with_reducible first|exact HB.out|apply below_alloc|apply pw_below_drewN|apply below_drew1)|exact HB.out))));have n1_:=Aside0.mk (below_step (by repeat (first|(with_reducible first|exact HB.out|apply below_alloc|apply pw_below_drewN|apply below_drew1)|exact HB.out)) hb);clear HB;have HO355:=n0_;have HB:=n1_;clear n0_ n1_;(try clear hb);(try clear hb2);(try clear hk);(try clear hi);(try clear ho0);obtain ⟨Ao24,co24,eo24⟩:=Kd.R_slice HO355.out;subst eo24)|((with_reducible refine gate_callee (f:=112) rfl ?_);refine goesL_ (some 38) rfl rfl Try.func112 (by kernel_rfl) rfl #[.slice (some ad351) l0.length c0,.slice Ao24 t353.length co24] rfl (by (try simp only [List.map_toArray,List.map_cons,List.map_nil]);first|done|rfl|(simp only [List.length_drop,List.length_take];rfl)) ?_;(with_reducible refine (ratlineref02_same.calls _ _ l0 _ _ t353 false _ ?side1 ?side2 ?side3 ?side4 A9.out).mono ?_);(case side1=>repeat (first|exact (Kd.C_below HR0.out HB.out)|(with_reducible refine Kd.C_alloc ?_ _)|(with_reducible refine Kd.C_drewN ?_ _)|(with_reducible refine Kd.C_drew ?_)));(case side2=>exact HC0.out);(case side3=>repeat (first|exact (Kd.R_reads' HO355.out).2.2|(with_reducible refine Kd.C_alloc ?_ _)|(with_reducible refine Kd.C_drewN ?_ _)|(with_reducible refine Kd.C_drew ?_)));(case side4=>exact (Kd.R_reads' HO355.out).2.1);rintro e w' ⟨rfl,⟨nd,rfl⟩⟩;refine ⟨_,rfl,?_⟩))
          go_ret3
          exact ⟨_,by first|rfl|(simp [errW_none,errW_some] <;> rfl)|(simp [*,errW_none,errW_some] <;> rfl),by first|exact Kd.R_nil _ _ _ _ _|exact Kd.N_nil _ _ _ _ _|exact Kd.V_nil _ _ _ _ _|exact Kd.Q_nil _ _ _ _ _|exact Kd.S_nil _ _ _ _ _,by repeat (first|(with_reducible first|exact HB.out|apply below_alloc|apply pw_below_drewN|apply below_drew1)|exact HB.out)⟩
        ·rw [if_neg c7] at H
         have c7b0 : decide ((rd l0 x7_1) < 128) = false:=decide_eq_false c7
         clear c7
         have H':=Aside0.mk H
         clear H
         have p351 : 0 ≤ (x7_1 : Int):=of_decide_eq_true (by first|(with_reducible assumption)|assumption)
         have q351 : x7_1 < (l0.length : Int):=of_decide_eq_true (by first|(with_reducible assumption)|assumption)
         obtain ⟨ad351,e351,hx351_0⟩:=Kd.at_int HR0.out x7_1 p351 q351
         cases e351
         replace hx351_0:=(HB.out.cell (World.block_lt_of_cell? w _ hx351_0)).trans hx351_0
         replace p351:=eq_true p351
         replace q351:=eq_true q351
         have p352 : 0 ≤ (x7_1 : Int):=of_decide_eq_true (by first|(with_reducible assumption)|assumption)
         have q352 : x7_1 < (l0.length : Int):=of_decide_eq_true (by first|(with_reducible assumption)|assumption)
         obtain ⟨ad352,e352,hx352_0⟩:=Kd.at_int HR0.out x7_1 p352 q352
         obtain rfl : ad351 = ad352:=(by injection e352)
         replace hx352_0:=(HB.out.cell (World.block_lt_of_cell? w _ hx352_0)).trans hx352_0
         replace p352:=eq_true p352
         replace q352:=eq_true q352
         go_wp2
         go_roundg kj1
         case measure=>have:=HK1.out;have:=HJ1.out;omega
         case rel=>exact ⟨(IntKind.u64.wrap (x5_1 + (IntKind.u64.wrap ((IntKind.u64.wrap (Int.tmod (rd l0 x7_1) 128)) * x6_1)))),(IntKind.u64.wrap (x6_1 * 128)),(wrap64 (x7_1 + 1)),(by first|rfl|(simp;done)|(simp [*];done)),(by first|rfl|(simp;done)|(simp [*];done)),(by first|rfl|(simp;done)|(simp [*];done)),H',⟨by have:=HK1.out;have:=HJ1.out;omega⟩,⟨by repeat (first|(with_reducible first|exact HB.out|apply below_alloc|apply pw_below_drewN|apply below_drew1)|exact HB.out)⟩⟩
       ·rw [if_neg c6] at H
        exact absurd H (by simp)
      ·rw [if_neg c5] at H
       exact absurd H (by simp)
     ·replace c4:=Bool.eq_false_iff.mpr c4
      subst c4
      have H1 : (some (0,([] : List Int),false)) = some (r1,r2,r3):=by rw [if_neg (show ¬ (false = true) by decide)] at H;exact H
      clear H
      have H:=H1
      clear H1
      simp only [Option.some.injEq,Prod.mk.injEq] at H
      obtain ⟨rfl,rfl,rfl⟩:=H
      go_wp2
      go_ret3
      exact ⟨_,by first|rfl|(simp [errW_none,errW_some] <;> rfl)|(simp [*,errW_none,errW_some] <;> rfl),by first|exact Kd.R_nil _ _ _ _ _|exact Kd.N_nil _ _ _ _ _|exact Kd.V_nil _ _ _ _ _|exact Kd.Q_nil _ _ _ _ _|exact Kd.S_nil _ _ _ _ _,by repeat (first|(with_reducible first|exact HB.out|apply below_alloc|apply pw_below_drewN|apply below_drew1)|exact HB.out)⟩

end Go.Proofs.Ytjcjfghcahbbmaa.P

end

section
namespace Go.Proofs.Ytjcjfghcahbbmaa.P
open Go.RowKit Go.Proofs.YtjcjfghcahbbmaaG Go.Proofs.YtjcjfghcahbbmaaW.PrintWords Go.Proofs.YtjcjfghcahbbmaaW.PrintLast Go.Proofs.YtjcjfghcahbbmaaW.PrintMore
attribute [local go_sem] str_gtr str_geq str_leq max2_int min2_int max_two min_two max_three min_three max_four min_four   -- for this text's walks alone
set_option linter.unusedVariables false
set_option linter.unusedSimpArgs false

def ratlineref02_TakeText.f (k : Nat) (l0 : List Int) (a1 : Int) : Option (ByteArray × List Int × Bool):=(ratlineref02_Take.f k l0).bind fun bt363=>(if bt363.2.2 = true then (if a1 < 0 then (some ((⟨#[]⟩ : ByteArray),([] : List Int),false)) else (if bt363.1 > (IntKind.u64.wrap (a1)) then (some ((⟨#[]⟩ : ByteArray),([] : List Int),false)) else (if bt363.1 > (IntKind.u64.wrap ((bt363.2.1.length : Int))) then (some ((⟨#[]⟩ : ByteArray),([] : List Int),false)) else (if 0 ≤ bt363.1 then (if bt363.1 ≤ (bt363.2.1.length : Int) then ((ratlineref02_rest.f bt363.2.1 (wrap64 (bt363.1))).bind fun t372=>(some (strOfNums (bt363.2.1.take (bt363.1 : Int).toNat),t372,true))) else (none)) else (none))))) else (some ((⟨#[]⟩ : ByteArray),([] : List Int),false)))
def ratlineref02_TakeText.T4 : Bool × List (List Nat × List Nat):=(true,[([],[]),([],[]),([0,1],[0,1]),([2],[2]),([],[]),([],[]),([5],[5]),([4,6],[4,6]),([3,7,0,1,2,3],[3]),([7,8,0,1,2,3,4,5,6,7,8],[7]),([9,0,1,2,3,4,5,6,7,8,9],[])])
def ratlineref02_TakeText.B4 : List Nat:=[0,0,3,7,0,0,32,112,255,511,1023]
theorem ratlineref02_TakeText.tab4 : rtab .any (opsOf Try.f89 4) = ratlineref02_TakeText.T4:=by kernel_rfl
theorem ratlineref02_TakeText.bits4 : waitsOk ratlineref02_TakeText.T4.2 ratlineref02_TakeText.B4 = true:=by kernel_rfl
set_option maxHeartbeats 8000000 in
set_option maxRecDepth 100000 in
theorem ratlineref02_TakeText.calls (k : Nat) (A0 : Option Addr) (c0 : Nat) (l0 : List Int) (a1 : Int) (r1 : ByteArray) (r2 : List Int) (r3 : Bool) (w : World) (hr0 : Kd.C (Kd.int .u8) w A0 l0.length l0) (hc0 : l0.length ≤ c0) (h : ratlineref02_TakeText.f k l0 a1 = some (r1,r2,r3)) :
  Calls Try.prog 89 #[.slice A0 l0.length c0,.int .i64 a1] w fun e w'=>∃ v1_ : Value,e = .returned (.tuple #[.string r1,v1_,.bool r3]) ∧ Kd.R (Kd.int .u8) 5 w' w.heap.size (fun _=>True) v1_ r2 ∧ Below w.heap.size w w':=by
 have HR0:=Aside0.mk hr0
 have HC0:=Aside0.mk hc0
 clear hr0 hc0
 have HB:=Aside0.mk (Below.refl w.heap.size w)
 have H : ((ratlineref02_Take.f k l0).bind fun bt363=>(if bt363.2.2 = true then (if a1 < 0 then (some ((⟨#[]⟩ : ByteArray),([] : List Int),false)) else (if bt363.1 > (IntKind.u64.wrap (a1)) then (some ((⟨#[]⟩ : ByteArray),([] : List Int),false)) else (if bt363.1 > (IntKind.u64.wrap ((bt363.2.1.length : Int))) then (some ((⟨#[]⟩ : ByteArray),([] : List Int),false)) else (if 0 ≤ bt363.1 then (if bt363.1 ≤ (bt363.2.1.length : Int) then ((ratlineref02_rest.f bt363.2.1 (wrap64 (bt363.1))).bind fun t372=>(some (strOfNums (bt363.2.1.take (bt363.1 : Int).toNat),t372,true))) else (none)) else (none))))) else (some ((⟨#[]⟩ : ByteArray),([] : List Int),false)))) = some (r1,r2,r3):=h
 clear h
 replace H:=Option.bind_eq_some_iff.mp H
 obtain ⟨⟨t363,t364,t365⟩,A30,H⟩:=H
 replace H : (if t365 = true then (if a1 < 0 then (some ((⟨#[]⟩ : ByteArray),([] : List Int),false)) else (if t363 > (IntKind.u64.wrap (a1)) then (some ((⟨#[]⟩ : ByteArray),([] : List Int),false)) else (if t363 > (IntKind.u64.wrap ((t364.length : Int))) then (some ((⟨#[]⟩ : ByteArray),([] : List Int),false)) else (if 0 ≤ t363 then (if t363 ≤ (t364.length : Int) then ((ratlineref02_rest.f t364 (wrap64 (t363))).bind fun t372=>(some (strOfNums (t364.take (t363 : Int).toNat),t372,true))) else (none)) else (none))))) else (some ((⟨#[]⟩ : ByteArray),([] : List Int),false))) = some (r1,r2,r3):=H
 have A3:=Aside0.mk A30
 clear A30
 by_cases c4 : t365 = true
 ·subst c4
  have H1 : (if a1 < 0 then (some ((⟨#[]⟩ : ByteArray),([] : List Int),false)) else (if t363 > (IntKind.u64.wrap (a1)) then (some ((⟨#[]⟩ : ByteArray),([] : List Int),false)) else (if t363 > (IntKind.u64.wrap ((t364.length : Int))) then (some ((⟨#[]⟩ : ByteArray),([] : List Int),false)) else (if 0 ≤ t363 then (if t363 ≤ (t364.length : Int) then ((ratlineref02_rest.f t364 (wrap64 (t363))).bind fun t372=>(some (strOfNums (t364.take (t363 : Int).toNat),t372,true))) else (none)) else (none))))) = some (r1,r2,r3):=by rw [if_pos rfl] at H;exact H
  clear H
  have H:=H1
  clear H1
  by_cases c5 : a1 < 0
  ·rw [if_pos c5] at H
   have c5b0 : decide (a1 < 0) = true:=decide_eq_true c5
   clear c5
   simp only [Option.some.injEq,Prod.mk.injEq] at H
   obtain ⟨rfl,rfl,rfl⟩:=H
   go_enter Try.func89,Try.ntmps89
   go_wp2_with (first|((with_reducible refine gate_callee (f:=88) rfl ?_);refine goesL_ (some 12) rfl rfl Try.func88 (by kernel_rfl) rfl #[.slice A0 l0.length c0] rfl (by (try simp only [List.map_toArray,List.map_cons,List.map_nil]);first|done|rfl|(simp only [List.length_drop,List.length_take];rfl)) ?_;(with_reducible refine (ratlineref02_Take.calls k _ _ l0 t363 t364 true _ ?side1 ?side2 A3.out).mono ?_);(case side1=>repeat (first|exact HR0.out|(with_reducible refine Kd.C_alloc ?_ _)|(with_reducible refine Kd.C_drewN ?_ _)|(with_reducible refine Kd.C_drew ?_)));(case side2=>exact HC0.out);rintro e w6 ⟨v366,rfl,ho0,hb⟩;refine ⟨_,rfl,?_⟩;have n0_:=Aside0.mk (Kd.R_lower ho0 (below_size (by repeat (first|(with_reducible first|exact HB.out|apply below_alloc|apply pw_below_drewN|apply below_drew1)|exact HB.out))));have n1_:=Aside0.mk (below_step (by repeat (first|(with_reducible first|exact HB.out|apply below_alloc|apply pw_below_drewN|apply below_drew1)|exact HB.out)) hb);clear HB;have HO367:=n0_;have HB:=n1_;clear n0_ n1_;(try clear hb);(try clear hb2);(try clear hk);(try clear hi);(try clear ho0)))
   go_ret3
   exact ⟨_,by first|rfl|(simp [errW_none,errW_some] <;> rfl)|(simp [*,errW_none,errW_some] <;> rfl),by first|exact Kd.R_nil _ _ _ _ _|exact Kd.N_nil _ _ _ _ _|exact Kd.V_nil _ _ _ _ _|exact Kd.Q_nil _ _ _ _ _|exact Kd.S_nil _ _ _ _ _,by repeat (first|(with_reducible first|exact HB.out|apply below_alloc|apply pw_below_drewN|apply below_drew1)|exact HB.out)⟩
  ·rw [if_neg c5] at H
   have c5b0 : decide (a1 < 0) = false:=decide_eq_false c5
   clear c5
   by_cases c7 : t363 > (IntKind.u64.wrap (a1))
   ·rw [if_pos c7] at H
    have c7b0 : decide ((IntKind.u64.wrap (a1)) < t363) = true:=decide_eq_true c7
    clear c7
    simp only [Option.some.injEq,Prod.mk.injEq] at H
    obtain ⟨rfl,rfl,rfl⟩:=H
    go_enter Try.func89,Try.ntmps89
    go_wp2_with (first|((with_reducible refine gate_callee (f:=88) rfl ?_);refine goesL_ (some 12) rfl rfl Try.func88 (by kernel_rfl) rfl #[.slice A0 l0.length c0] rfl (by (try simp only [List.map_toArray,List.map_cons,List.map_nil]);first|done|rfl|(simp only [List.length_drop,List.length_take];rfl)) ?_;(with_reducible refine (ratlineref02_Take.calls k _ _ l0 t363 t364 true _ ?side1 ?side2 A3.out).mono ?_);(case side1=>repeat (first|exact HR0.out|(with_reducible refine Kd.C_alloc ?_ _)|(with_reducible refine Kd.C_drewN ?_ _)|(with_reducible refine Kd.C_drew ?_)));(case side2=>exact HC0.out);rintro e w8 ⟨v366,rfl,ho0,hb⟩;refine ⟨_,rfl,?_⟩;have n0_:=Aside0.mk (Kd.R_lower ho0 (below_size (by repeat (first|(with_reducible first|exact HB.out|apply below_alloc|apply pw_below_drewN|apply below_drew1)|exact HB.out))));have n1_:=Aside0.mk (below_step (by repeat (first|(with_reducible first|exact HB.out|apply below_alloc|apply pw_below_drewN|apply below_drew1)|exact HB.out)) hb);clear HB;have HO367:=n0_;have HB:=n1_;clear n0_ n1_;(try clear hb);(try clear hb2);(try clear hk);(try clear hi);(try clear ho0)))
    go_ret3
    exact ⟨_,by first|rfl|(simp [errW_none,errW_some] <;> rfl)|(simp [*,errW_none,errW_some] <;> rfl),by first|exact Kd.R_nil _ _ _ _ _|exact Kd.N_nil _ _ _ _ _|exact Kd.V_nil _ _ _ _ _|exact Kd.Q_nil _ _ _ _ _|exact Kd.S_nil _ _ _ _ _,by repeat (first|(with_reducible first|exact HB.out|apply below_alloc|apply pw_below_drewN|apply below_drew1)|exact HB.out)⟩
   ·rw [if_neg c7] at H
    have c7b0 : decide ((IntKind.u64.wrap (a1)) < t363) = false:=decide_eq_false c7
    clear c7
    by_cases c9 : t363 > (IntKind.u64.wrap ((t364.length : Int)))
    ·rw [if_pos c9] at H
     have c9b0 : decide ((IntKind.u64.wrap ((t364.length : Int))) < t363) = true:=decide_eq_true c9
     clear c9
     simp only [Option.some.injEq,Prod.mk.injEq] at H
     obtain ⟨rfl,rfl,rfl⟩:=H
     go_enter Try.func89,Try.ntmps89
     go_wp2_with (first|((with_reducible refine gate_callee (f:=88) rfl ?_);refine goesL_ (some 12) rfl rfl Try.func88 (by kernel_rfl) rfl #[.slice A0 l0.length c0] rfl (by (try simp only [List.map_toArray,List.map_cons,List.map_nil]);first|done|rfl|(simp only [List.length_drop,List.length_take];rfl)) ?_;(with_reducible refine (ratlineref02_Take.calls k _ _ l0 t363 t364 true _ ?side1 ?side2 A3.out).mono ?_);(case side1=>repeat (first|exact HR0.out|(with_reducible refine Kd.C_alloc ?_ _)|(with_reducible refine Kd.C_drewN ?_ _)|(with_reducible refine Kd.C_drew ?_)));(case side2=>exact HC0.out);rintro e w10 ⟨v366,rfl,ho0,hb⟩;refine ⟨_,rfl,?_⟩;have n0_:=Aside0.mk (Kd.R_lower ho0 (below_size (by repeat (first|(with_reducible first|exact HB.out|apply below_alloc|apply pw_below_drewN|apply below_drew1)|exact HB.out))));have n1_:=Aside0.mk (below_step (by repeat (first|(with_reducible first|exact HB.out|apply below_alloc|apply pw_below_drewN|apply below_drew1)|exact HB.out)) hb);clear HB;have HO367:=n0_;have HB:=n1_;clear n0_ n1_;(try clear hb);(try clear hb2);(try clear hk);(try clear hi);(try clear ho0);obtain ⟨Ao11,co11,eo11⟩:=Kd.R_slice HO367.out;subst eo11))
     go_ret3
     exact ⟨_,by first|rfl|(simp [errW_none,errW_some] <;> rfl)|(simp [*,errW_none,errW_some] <;> rfl),by first|exact Kd.R_nil _ _ _ _ _|exact Kd.N_nil _ _ _ _ _|exact Kd.V_nil _ _ _ _ _|exact Kd.Q_nil _ _ _ _ _|exact Kd.S_nil _ _ _ _ _,by repeat (first|(with_reducible first|exact HB.out|apply below_alloc|apply pw_below_drewN|apply below_drew1)|exact HB.out)⟩
    ·rw [if_neg c9] at H
     have c9b0 : decide ((IntKind.u64.wrap ((t364.length : Int))) < t363) = false:=decide_eq_false c9
     clear c9
     by_cases c12 : 0 ≤ t363
     ·rw [if_pos c12] at H
      have c12b0:=eq_true c12
      have c12b1 : decide (0 ≤ t363) = true:=decide_eq_true c12
      clear c12
      by_cases c13 : t363 ≤ (t364.length : Int)
      ·rw [if_pos c13] at H
       have c13b0:=eq_true c13
       have c13b1 : decide (t363 ≤ (t364.length : Int)) = true:=decide_eq_true c13
       clear c13
       obtain ⟨y368,hy368⟩ : ∃ y_ : List Int,y_ = (t364.take (t363 : Int).toNat):=⟨_,rfl⟩
       replace H : ((ratlineref02_rest.f t364 (wrap64 (t363))).bind fun t372=>(some (strOfNums y368,t372,true))) = some (r1,r2,r3):=by first|(rw [hy368];with_reducible exact H)|(have H2_:=(Option.bind_some _ _).symm.trans H;rw [hy368];with_reducible exact H2_)|(have H2_:=(Option.bind_some _ _).symm.trans H;with_reducible exact H2_)|with_reducible exact H|(rw [hy368];exact H)|exact H
       have Ny368:=Aside0.mk hy368
       clear hy368
       replace H:=Option.bind_eq_some_iff.mp H
       obtain ⟨t372,A140,H⟩:=H
       replace H : (some (strOfNums y368,t372,true)) = some (r1,r2,r3):=H
       have A14:=Aside0.mk A140
       clear A140
       simp only [Option.some.injEq,Prod.mk.injEq] at H
       obtain ⟨rfl,rfl,rfl⟩:=H
       go_enter Try.func89,Try.ntmps89
       try go_wp2_with (first|((with_reducible refine gate_callee (f:=88) rfl ?_);refine goesL_ (some 12) rfl rfl Try.func88 (by kernel_rfl) rfl #[.slice A0 l0.length c0] rfl (by (try simp only [List.map_toArray,List.map_cons,List.map_nil]);first|done|rfl|(simp only [List.length_drop,List.length_take];rfl)) ?_;(with_reducible refine (ratlineref02_Take.calls k _ _ l0 t363 t364 true _ ?side1 ?side2 A3.out).mono ?_);(case side1=>repeat (first|exact HR0.out|(with_reducible refine Kd.C_alloc ?_ _)|(with_reducible refine Kd.C_drewN ?_ _)|(with_reducible refine Kd.C_drew ?_)));(case side2=>exact HC0.out);rintro e w15 ⟨v366,rfl,ho0,hb⟩;refine ⟨_,rfl,?_⟩;have n0_:=Aside0.mk (Kd.R_lower ho0 (below_size (by repeat (first|(with_reducible first|exact HB.out|apply below_alloc|apply pw_below_drewN|apply below_drew1)|exact HB.out))));have n1_:=Aside0.mk (below_step (by repeat (first|(with_reducible first|exact HB.out|apply below_alloc|apply pw_below_drewN|apply below_drew1)|exact HB.out)) hb);clear HB;have HO367:=n0_;have HB:=n1_;clear n0_ n1_;(try clear hb);(try clear hb2);(try clear hk);(try clear hi);(try clear ho0);obtain ⟨Ao16,co16,eo16⟩:=Kd.R_slice HO367.out;subst eo16))
       have n0_:=Aside0.mk (Kd.R_drew HO367.out)
       have n1_:=Aside0.mk (below_drew1 HB.out)
       clear HO367
       clear HB
       have HO367:=n0_
       have HB:=n1_
       clear n0_ n1_
       have q18 : (t363 : Int) ≤ ((t364.length : Int) : Int):=of_decide_eq_true (by first|(with_reducible assumption)|assumption)
       obtain ⟨i018,hi018,_,hsz18,_⟩:=info_parts info5
       have hroom18 : t364.length ≤ co16:=(Kd.R_reads' HO367.out).2.1
       have hC18 : Kd.C (Kd.int .u8) _ Ao16 t364.length t364:=(Kd.R_reads' HO367.out).2.2
       have hcut18:=cut_to (P:=Try.prog) 26 5 .u64 Try.underlying26 hi018 Ao16 t364.length co16 t363 (of_decide_eq_true (by first|(with_reducible assumption)|assumption)) q18 hroom18
       have hr18:=Kd.C_take (m:=(t363 : Int).toNat) hC18 (by omega)
       have hy18 : y368.length = (t363 : Int).toNat:=(by rw [Ny368.out,List.length_take];omega)
       rw [← Ny368.out] at hr18
       rw [← hy18] at hcut18
       have HR371:=Aside0.mk hr18
       have HC371:=Aside0.mk (show y368.length ≤ co16 from by omega)
       clear hr18 hC18 hroom18 hi018 hsz18
       have KY18:=Aside0.mk hy18
       clear hy18
       have KL18:=Aside0.mk (show (t363 : Int).toNat ≤ t364.length from by omega)
       replace q18:=eq_true q18
       have hcv19:=Kd.C_string (P:=Try.prog) (A:=Ao16) (c:=co16) Try.underlying26 Try.underlying5 Try.underlying9 (by repeat (first|(with_reducible exact HR371.out)|(with_reducible refine Kd.C_alloc ?_ _)|(with_reducible refine Kd.C_drewN ?_ _)|(with_reducible refine Kd.C_drew ?_)|exact HR371.out))
       obtain ⟨S_,hS0_,hS1_,hS2_⟩:=conv_stays (P:=Try.prog) (A:=Ao16) (c:=co16) Try.underlying26 Try.underlying5 Try.underlying9 (by repeat (first|(with_reducible exact HR371.out)|(with_reducible refine Kd.C_alloc ?_ _)|(with_reducible refine Kd.C_drewN ?_ _)|(with_reducible refine Kd.C_drew ?_)|exact HR371.out))
       refine start_ (n:=11) (S:=fun w'=>S_ w') (ds:=[]) #[false,false,false,false,false,false,false,false,false,false,false] (by kernel_rfl) rfl rfl ((by first|exact hS0_|exact hS1_ _ _ hS0_ (below_drew (Below.refl _ _)))) (fun hHeld=>?_);refine with_tabW ratlineref02_TakeText.tab4 ratlineref02_TakeText.bits4 (fun HT_ HW_=>?_)
       generalize w15.drew = w17 at HO367 HB HR371 hHeld ⊢
       refine pure_ (i:=0) (N:=some 35) (v:=?_) (a':=?_) #[true,false,false,false,false,false,false,false,false,false,false] rfl rfl (any_of HT_.out (by kernel_rfl)) (fun _ _ _ h=>h) (Or.inl ⟨by rfl,?_⟩) ?_ ?_
       rotate_left
       ·intro w'
        go_simp
        with_reducible rfl
       rotate_left
       ·simp only [Act.put,List.setIfInBounds_toArray,List.set_cons_zero,List.set_cons_succ,i64_w,i32_w]
        rfl
       refine pure_ (i:=1) (N:=some 36) (v:=?_) (a':=?_) #[true,true,false,false,false,false,false,false,false,false,false] rfl rfl (any_of HT_.out (by kernel_rfl)) (fun _ _ _ h=>h) (Or.inl ⟨by rfl,?_⟩) ?_ ?_
       rotate_left
       ·intro w'
        go_simp
        with_reducible rfl
       rotate_left
       ·simp only [Act.put,List.setIfInBounds_toArray,List.set_cons_zero,List.set_cons_succ,i64_w,i32_w]
        rfl
       refine pure_ (i:=2) (N:=some 37) (v:=?_) (a':=?_) #[true,true,true,false,false,false,false,false,false,false,false] rfl rfl (any_of HT_.out (by kernel_rfl)) (fun _ _ _ h=>h) (Or.inl ⟨by rfl,?_⟩) ?_ ?_
       rotate_left
       ·intro w'
        go_simp
        with_reducible rfl
       rotate_left
       ·simp only [Act.put,List.setIfInBounds_toArray,List.set_cons_zero,List.set_cons_succ,i64_w,i32_w]
        rfl
       refine pure_ (i:=4) (N:=some 39) (v:=?_) (a':=?_) #[true,true,true,false,true,false,false,false,false,false,false] rfl rfl (any_of HT_.out (by kernel_rfl)) (fun _ _ _ h=>h) (Or.inl ⟨by rfl,?_⟩) ?_ ?_
       rotate_left
       ·intro w'
        go_simp
        with_reducible rfl
       rotate_left
       ·simp only [Act.put,List.setIfInBounds_toArray,List.set_cons_zero,List.set_cons_succ,i64_w,i32_w]
        rfl
       refine pure_ (i:=5) (N:=some 40) (v:=?_) (a':=?_) #[true,true,true,false,true,true,false,false,false,false,false] rfl rfl (any_of HT_.out (by kernel_rfl)) (fun _ _ _ h=>h) (Or.inl ⟨by rfl,?_⟩) ?_ ?_
       rotate_left
       ·intro w'
        go_simp
        with_reducible rfl
       rotate_left
       ·simp only [Act.put,List.setIfInBounds_toArray,List.set_cons_zero,List.set_cons_succ,i64_w,i32_w]
        rfl
       refine pure_ (i:=6) (N:=some 41) (v:=?_) (a':=?_) #[true,true,true,false,true,true,true,false,false,false,false] rfl rfl (any_of HT_.out (by kernel_rfl)) (fun _ _ _ h=>h) (Or.inl ⟨by rfl,?_⟩) ?_ ?_
       rotate_left
       ·intro w'
        go_simp
        with_reducible rfl
       rotate_left
       ·simp only [Act.put,List.setIfInBounds_toArray,List.set_cons_zero,List.set_cons_succ,i64_w,i32_w]
        rfl
       refine take_ (i:=3) (N:=some 38) (v:=?_) (a':=?_) #[true,true,true,true,true,true,true,false,false,false,false] rfl rfl (take_ofW HT_.out HW_.out (by kernel_rfl)) (fun _ _ _ h=>h) (Or.inl ⟨by rfl,?_⟩) hHeld ?_ ?_
       rotate_left
       ·intro w' s0
        have s1_:=hS2_ _ s0
        go_simp
        with_reducible rfl
       rotate_left
       ·simp only [Act.put,List.setIfInBounds_toArray,List.set_cons_zero,List.set_cons_succ,i64_w,i32_w]
        rfl
       refine one_ (i:=7) (N:=some 42) #[true,true,true,true,true,true,true,true,false,false,false] rfl rfl (one_of HT_.out (by kernel_rfl)) (by decide) (fun K hK=>?_)
       refine goes_ Try.func113 (by kernel_rfl) rfl #[.slice Ao16 t364.length co16,.int .i64 (wrap64 (t363))] (by rfl) rfl rfl (by (try simp only [List.map_toArray,List.map_cons,List.map_nil]);first|done|rfl|(simp only [List.length_drop,List.length_take];rfl)) ?_
       with_reducible refine (ratlineref02_rest.calls _ _ t364 (wrap64 (t363)) t372 _ ?side1 ?side2 A14.out).mono ?_
       (case side1=>repeat (first|exact (Kd.R_reads' HO367.out).2.2|(with_reducible refine Kd.C_alloc ?_ _)|(with_reducible refine Kd.C_drewN ?_ _)|(with_reducible refine Kd.C_drew ?_)))
       (case side2=>exact (Kd.R_reads' HO367.out).2.1)
       rintro e w20 ⟨v373,rfl,ho0,hb⟩
       have hHn_:=hS1_ _ _ hHeld hb
       refine ⟨_,rfl,?_⟩
       have n0_:=Aside0.mk (Kd.R_elder' (by (with_reducible repeat (first|apply Kd.R_alloc|apply Kd.R_drewN|apply Kd.R_drew));exact HO367.out) (Kd.R_base ho0) hb)
       have n1_:=Aside0.mk (Kd.R_lower (Kd.R_new' ho0 (Kd.R_lt (by (with_reducible repeat (first|apply Kd.R_alloc|apply Kd.R_drewN|apply Kd.R_drew));exact HO367.out))) (below_size (by repeat (first|(with_reducible first|exact HB.out|apply below_alloc|apply pw_below_drewN|apply below_drew1)|exact HB.out))))
       have n2_:=Aside0.mk (Kd.C_below (by repeat (first|(with_reducible exact HR371.out)|(with_reducible refine Kd.C_alloc ?_ _)|(with_reducible refine Kd.C_drewN ?_ _)|(with_reducible refine Kd.C_drew ?_)|exact HR371.out)) hb)
       have n3_:=Aside0.mk (below_step (by repeat (first|(with_reducible first|exact HB.out|apply below_alloc|apply pw_below_drewN|apply below_drew1)|exact HB.out)) hb)
       clear HO367
       clear HR371
       clear HB
       have HO367:=n0_
       have HO374:=n1_
       have HR371:=n2_
       have HB:=n3_
       clear n0_ n1_ n2_ n3_
       (try clear hb)
       (try clear hb2)
       (try clear hk)
       (try clear hi)
       (try clear ho0)
       refine hK.out _ _ (hHn_) (fun hHeld=>?_)
       clear hK K
       refine norm_ (a':=?_) ?_ ?_
       rotate_left
       ·show Act.put _ (some 42) _ = _
        simp only [Act.put,List.setIfInBounds_toArray,List.set_cons_zero,List.set_cons_succ,i64_w,i32_w]
        rfl
       refine pure_ (i:=8) (N:=some 4) (v:=?_) (a':=?_) #[true,true,true,true,true,true,true,true,true,false,false] rfl rfl (any_of HT_.out (by kernel_rfl)) (fun _ _ _ h=>h) (Or.inl ⟨by rfl,?_⟩) ?_ ?_
       rotate_left
       ·intro w'
        go_simp
        with_reducible rfl
       rotate_left
       ·simp only [Act.put,List.setIfInBounds_toArray,List.set_cons_zero,List.set_cons_succ,i64_w,i32_w]
        rfl
       refine pure_ (i:=9) (N:=some 5) (v:=?_) (a':=?_) #[true,true,true,true,true,true,true,true,true,true,false] rfl rfl (any_of HT_.out (by kernel_rfl)) (fun _ _ _ h=>h) (Or.inl ⟨by rfl,?_⟩) ?_ ?_
       rotate_left
       ·intro w'
        go_simp
        with_reducible rfl
       rotate_left
       ·simp only [Act.put,List.setIfInBounds_toArray,List.set_cons_zero,List.set_cons_succ,i64_w,i32_w]
        rfl
       refine pure_ (i:=10) (N:=some 6) (v:=?_) (a':=?_) #[true,true,true,true,true,true,true,true,true,true,true] rfl rfl (any_of HT_.out (by kernel_rfl)) (fun _ _ _ h=>h) (Or.inl ⟨by rfl,?_⟩) ?_ ?_
       rotate_left
       ·intro w'
        go_simp
        with_reducible rfl
       rotate_left
       ·simp only [Act.put,List.setIfInBounds_toArray,List.set_cons_zero,List.set_cons_succ,i64_w,i32_w]
        rfl
       refine done_ (done_of HT_.out (by kernel_rfl)) ?_
       try go_wp2
       go_ret3
       exact ⟨_,by first|rfl|(simp [errW_none,errW_some] <;> rfl)|(simp [*,errW_none,errW_some] <;> rfl),by (with_reducible repeat (first|apply Kd.R_alloc|apply Kd.R_drewN|apply Kd.R_drew));exact Kd.R_mono HO374.out (fun _ hk=>trivial),by repeat (first|(with_reducible first|exact HB.out|apply below_alloc|apply pw_below_drewN|apply below_drew1)|exact HB.out)⟩
      ·rw [if_neg c13] at H
       exact absurd H (by simp)
     ·rw [if_neg c12] at H
      exact absurd H (by simp)
 ·replace c4:=Bool.eq_false_iff.mpr c4
  subst c4
  have H1 : (some ((⟨#[]⟩ : ByteArray),([] : List Int),false)) = some (r1,r2,r3):=by rw [if_neg (show ¬ (false = true) by decide)] at H;exact H
  clear H
  have H:=H1
  clear H1
  simp only [Option.some.injEq,Prod.mk.injEq] at H
  obtain ⟨rfl,rfl,rfl⟩:=H
  go_enter Try.func89,Try.ntmps89
  go_wp2_with (first|((with_reducible refine gate_callee (f:=88) rfl ?_);refine goesL_ (some 12) rfl rfl Try.func88 (by kernel_rfl) rfl #[.slice A0 l0.length c0] rfl (by (try simp only [List.map_toArray,List.map_cons,List.map_nil]);first|done|rfl|(simp only [List.length_drop,List.length_take];rfl)) ?_;(with_reducible refine (ratlineref02_Take.calls k _ _ l0 t363 t364 false _ ?side1 ?side2 A3.out).mono ?_);(case side1=>repeat (first|exact HR0.out|(with_reducible refine Kd.C_alloc ?_ _)|(with_reducible refine Kd.C_drewN ?_ _)|(with_reducible refine Kd.C_drew ?_)));(case side2=>exact HC0.out);rintro e w22 ⟨v366,rfl,ho0,hb⟩;refine ⟨_,rfl,?_⟩;have n0_:=Aside0.mk (Kd.R_lower ho0 (below_size (by repeat (first|(with_reducible first|exact HB.out|apply below_alloc|apply pw_below_drewN|apply below_drew1)|exact HB.out))));have n1_:=Aside0.mk (below_step (by repeat (first|(with_reducible first|exact HB.out|apply below_alloc|apply pw_below_drewN|apply below_drew1)|exact HB.out)) hb);clear HB;have HO367:=n0_;have HB:=n1_;clear n0_ n1_;(try clear hb);(try clear hb2);(try clear hk);(try clear hi);(try clear ho0)))
  go_ret3
  exact ⟨_,by first|rfl|(simp [errW_none,errW_some] <;> rfl)|(simp [*,errW_none,errW_some] <;> rfl),by first|exact Kd.R_nil _ _ _ _ _|exact Kd.N_nil _ _ _ _ _|exact Kd.V_nil _ _ _ _ _|exact Kd.Q_nil _ _ _ _ _|exact Kd.S_nil _ _ _ _ _,by repeat (first|(with_reducible first|exact HB.out|apply below_alloc|apply pw_below_drewN|apply below_drew1)|exact HB.out)⟩

end Go.Proofs.Ytjcjfghcahbbmaa.P

end

section
namespace Go.Proofs.Ytjcjfghcahbbmaa.P
open Go.RowKit Go.Proofs.YtjcjfghcahbbmaaG Go.Proofs.YtjcjfghcahbbmaaW.PrintWords Go.Proofs.YtjcjfghcahbbmaaW.PrintLast Go.Proofs.YtjcjfghcahbbmaaW.PrintMore
attribute [local go_sem] str_gtr str_geq str_leq max2_int min2_int max_two min_two max_three min_three max_four min_four   -- for this text's walks alone
set_option linter.unusedVariables false
set_option linter.unusedSimpArgs false

def ratlineref07_one.j0 : Nat → ByteArray → Int → List Int → Bool → Option (ByteArray × Int × Int × ByteArray × List Int × Bool)
 | 0,_,_,_,_=>none
 | k + 1,x1,x7,x8,x27=>if x27 = true then (some ((⟨#[]⟩ : ByteArray),0,0,(⟨#[]⟩ : ByteArray),([] : List Int),false)) else ((ratlineref02_TakeText.f k x8 64).bind fun bt381=>(if bt381.2.2 = true then ((ratlineref02_Take.f k bt381.2.1).bind fun bt386=>(if bt386.2.2 = true then (if 0 ≤ x7 then (if x7 ≤ (x1.size : Int) then (if (x1.extract 0 (x7 : Int).toNat).size + bt381.1.size ≤ 9223372036854775807 then (if ((Int.tmod bt386.1 2) % 256) = 1 then ((ratlineref02_TakeText.f k bt386.2.1 256).bind fun bt392=>(some ((x1.extract 0 (x7 : Int).toNat) ++ bt381.1,IntKind.u64.wrap (Int.tdiv bt386.1 2),(Int.tmod bt386.1 2) % 256,bt392.1,bt392.2.1,bt392.2.2))) else (some ((x1.extract 0 (x7 : Int).toNat) ++ bt381.1,IntKind.u64.wrap (Int.tdiv bt386.1 2),(Int.tmod bt386.1 2) % 256,(⟨#[]⟩ : ByteArray),bt386.2.1,bt386.2.2))) else (none)) else (none)) else (none)) else (some ((⟨#[]⟩ : ByteArray),0,0,(⟨#[]⟩ : ByteArray),([] : List Int),false)))) else (some ((⟨#[]⟩ : ByteArray),0,0,(⟨#[]⟩ : ByteArray),([] : List Int),false))))
def ratlineref07_one.f (k : Nat) (l0 : List Int) (a1 : ByteArray) : Option (ByteArray × Int × Int × ByteArray × List Int × Bool):=(ratlineref02_Take.f k l0).bind fun bt376=>(if bt376.2.2 = true then (ratlineref07_one.j0 k a1 bt376.1 bt376.2.1 (decide (bt376.1 > (IntKind.u64.wrap ((a1.size : Int)))))) else (ratlineref07_one.j0 k a1 bt376.1 bt376.2.1 true))
set_option maxHeartbeats 8000000 in
set_option maxRecDepth 100000 in
theorem ratlineref07_one.calls (k : Nat) (A0 : Option Addr) (c0 : Nat) (l0 : List Int) (a1 : ByteArray) (r1 : ByteArray) (r2 : Int) (r3 : Int) (r4 : ByteArray) (r5 : List Int) (r6 : Bool) (w : World) (hr0 : Kd.C (Kd.int .u8) w A0 l0.length l0) (hc0 : l0.length ≤ c0) (h : ratlineref07_one.f k l0 a1 = some (r1,r2,r3,r4,r5,r6)) :
  Calls Try.prog 60 #[.slice A0 l0.length c0,.string a1] w fun e w'=>∃ v4_ : Value,e = .returned (.tuple #[.agg #[.string r1,.int .u64 r2,.int .u8 r3,.string r4],v4_,.bool r6]) ∧ Kd.R (Kd.int .u8) 5 w' w.heap.size (fun _=>True) v4_ r5 ∧ Below w.heap.size w w':=by
 have hu59:=Try.underlying59
 have hu50:=Try.underlying50
 have HR0:=Aside0.mk hr0
 have HC0:=Aside0.mk hc0
 clear hr0 hc0
 have HB:=Aside0.mk (Below.refl w.heap.size w)
 have H : ((ratlineref02_Take.f k l0).bind fun bt376=>(if bt376.2.2 = true then (ratlineref07_one.j0 k a1 bt376.1 bt376.2.1 (decide (bt376.1 > (IntKind.u64.wrap ((a1.size : Int)))))) else (ratlineref07_one.j0 k a1 bt376.1 bt376.2.1 true))) = some (r1,r2,r3,r4,r5,r6):=h
 clear h
 replace H:=Option.bind_eq_some_iff.mp H
 obtain ⟨⟨t376,t377,t378⟩,A30,H⟩:=H
 replace H : (if t378 = true then (ratlineref07_one.j0 k a1 t376 t377 (decide (t376 > (IntKind.u64.wrap ((a1.size : Int)))))) else (ratlineref07_one.j0 k a1 t376 t377 true)) = some (r1,r2,r3,r4,r5,r6):=H
 have A3:=Aside0.mk A30
 clear A30
 have HC4:=Aside0.mk H
 clear H
 go_enter Try.func60,Try.ntmps60
 go_upto_region 2 with (first|((with_reducible refine gate_dst (N:=4) rfl ?_);(try (refine gate_guard (by rfl) ?_;dsimp only));refine box_event ?hg (N:=4) ?hd (cs:=#[.string (⟨#[]⟩ : ByteArray),.int .u64 0,.int .u8 0,.string (⟨#[]⟩ : ByteArray)]) (t:=59) ?hr ?_;(case hd=>rfl);(case hg=>rfl);(case hr=>first|(go_simp;done)|(go_simp;rfl));intro gb375 hg w5 hbox hb;have n0_:=Aside0.mk (below_step (by repeat (first|(with_reducible first|exact HB.out|apply below_alloc|apply pw_below_drewN|apply below_drew1)|exact HB.out)) hb);have n1_:=Aside0.mk (hbox);have n2_:=Aside0.mk ((by rw [hg];exact (below_size (by repeat (first|(with_reducible first|exact HB.out|apply below_alloc|apply pw_below_drewN|apply below_drew1)|exact HB.out))) : w.heap.size ≤ gb375));have n3_:=Aside0.mk ((by rw [hg];exact (below_size (by repeat (first|(with_reducible first|exact HB.out|apply below_alloc|apply pw_below_drewN|apply below_drew1)|exact HB.out))) : w.heap.size ≤ gb375));clear HB;have HB:=n0_;have BK375:=n1_;have GW375:=n2_;have GE375:=n3_;clear n0_ n1_ n2_ n3_;clear hb hbox hg)|((with_reducible refine gate_callee (f:=88) rfl ?_);refine goesL_ (some 15) rfl rfl Try.func88 (by kernel_rfl) rfl #[.slice A0 l0.length c0] rfl (by (try simp only [List.map_toArray,List.map_cons,List.map_nil]);first|done|rfl|(simp only [List.length_drop,List.length_take];rfl)) ?_;(with_reducible refine (ratlineref02_Take.calls k _ _ l0 t376 t377 t378 _ ?side1 ?side2 A3.out).mono ?_);(case side1=>repeat (first|exact (Kd.C_below HR0.out HB.out)|(with_reducible refine Kd.C_alloc ?_ _)|(with_reducible refine Kd.C_drewN ?_ _)|(with_reducible refine Kd.C_drew ?_)));(case side2=>exact HC0.out);rintro e w6 ⟨v379,rfl,ho0,hb⟩;refine ⟨_,rfl,?_⟩;have n0_:=Aside0.mk (Kd.R_lower ho0 (below_size (by repeat (first|(with_reducible first|exact HB.out|apply below_alloc|apply pw_below_drewN|apply below_drew1|refine below_set ?_ GE375.out)|exact HB.out))));have n1_:=Aside0.mk (blk_below (g:=gb375) (o:=.cells #[.string (⟨#[]⟩ : ByteArray),.int .u64 0,.int .u8 0,.string (⟨#[]⟩ : ByteArray)] 59 (0,0)) (by (with_reducible repeat (first|refine blk_drewN ?_ _|refine blk_drew ?_|refine blk_alloc ?_ _));exact BK375.out) hb);have n2_:=Aside0.mk (below_step (by repeat (first|(with_reducible first|exact HB.out|apply below_alloc|apply pw_below_drewN|apply below_drew1|refine below_set ?_ GE375.out)|exact HB.out)) hb);clear BK375;clear HB;have HO380:=n0_;have BK375:=n1_;have HB:=n2_;clear n0_ n1_ n2_;(try clear hb);(try clear hb2);(try clear hk);(try clear hi);(try clear ho0)))
 (try simp only [Act.put,List.setIfInBounds_toArray,List.set_cons_zero,List.set_cons_succ])
 go_cut [27] (fun v27 wc=>∃ (kq : Nat) (x27_3 : Bool),v27 = .bool x27_3 ∧ Aside0 (ratlineref07_one.j0 kq a1 t376 t377 x27_3 = some (r1,r2,r3,r4,r5,r6)) ∧ Aside0 (kq ≤ k) ∧ Aside0 (Kd.R (Kd.int .u8) 5 wc w.heap.size (fun _=>True) v379 t377) ∧ Aside0 (wc.heap[gb375]? = some (.cells #[.string (⟨#[]⟩ : ByteArray),.int .u64 0,.int .u8 0,.string (⟨#[]⟩ : ByteArray)] 59 (0,0))) ∧ Aside0 (Below w.heap.size w wc))
 case first =>
  have H:=HC4.out
  clear HC4
  by_cases c7 : t378 = true
  ·subst c7
   have H1 : (ratlineref07_one.j0 k a1 t376 t377 (decide (t376 > (IntKind.u64.wrap ((a1.size : Int)))))) = some (r1,r2,r3,r4,r5,r6):=by rw [if_pos rfl] at H;exact H
   clear H
   have H:=H1
   clear H1
   have H':=Aside0.mk H
   clear H
   go_wp2
   go_meet
   case rel=>exact ⟨_,(decide (t376 > (IntKind.u64.wrap ((a1.size : Int))))),(by first|rfl|(simp;done)|(simp [*];done)),H',⟨by first|omega|exact Nat.le_refl _⟩,⟨by (with_reducible repeat (first|apply Kd.R_alloc|apply Kd.R_drewN|apply Kd.R_drew));exact HO380.out⟩,⟨by (with_reducible repeat (first|refine blk_drewN ?_ _|refine blk_drew ?_|refine blk_alloc ?_ _));exact BK375.out⟩,⟨by repeat (first|(with_reducible first|exact HB.out|apply below_alloc|apply pw_below_drewN|apply below_drew1|refine below_set ?_ GE375.out)|exact HB.out)⟩⟩
  ·replace c7:=Bool.eq_false_iff.mpr c7
   subst c7
   have H1 : (ratlineref07_one.j0 k a1 t376 t377 true) = some (r1,r2,r3,r4,r5,r6):=by rw [if_neg (show ¬ (false = true) by decide)] at H;exact H
   clear H
   have H:=H1
   clear H1
   have H':=Aside0.mk H
   clear H
   go_wp2
   go_meet
   case rel=>exact ⟨_,(true),(by first|rfl|(simp;done)|(simp [*];done)),H',⟨by first|omega|exact Nat.le_refl _⟩,⟨by (with_reducible repeat (first|apply Kd.R_alloc|apply Kd.R_drewN|apply Kd.R_drew));exact HO380.out⟩,⟨by (with_reducible repeat (first|refine blk_drewN ?_ _|refine blk_drew ?_|refine blk_alloc ?_ _));exact BK375.out⟩,⟨by repeat (first|(with_reducible first|exact HB.out|apply below_alloc|apply pw_below_drewN|apply below_drew1|refine below_set ?_ GE375.out)|exact HB.out)⟩⟩
 case rest =>
  clear HC4
  try clear p2
  try clear c6
  try clear c7
  obtain ⟨kq,x27_3,rfl,HA,HJ3,HO_8,BK375,HB⟩:=hcut
  cases kq with
  | zero=>exact absurd HA.out (by simp [ratlineref07_one.j0])
  | succ kj3 =>
   have H:=HA.out
   clear HA
   simp only [ratlineref07_one.j0] at H
   by_cases c8 : x27_3 = true
   ·subst c8
    have H1 : (some ((⟨#[]⟩ : ByteArray),0,0,(⟨#[]⟩ : ByteArray),([] : List Int),false)) = some (r1,r2,r3,r4,r5,r6):=by rw [if_pos rfl] at H;exact H
    clear H
    have H:=H1
    clear H1
    simp only [Option.some.injEq,Prod.mk.injEq] at H
    obtain ⟨rfl,rfl,rfl,rfl,rfl,rfl⟩:=H
    have hcz9_0 : wc.cell? ⟨gb375,0,none⟩ = some (.string (⟨#[]⟩ : ByteArray)):=(blk_cell BK375.out 0).trans rfl
    have hcz9_1 : wc.cell? ⟨gb375,1,none⟩ = some (.int .u64 0):=(blk_cell BK375.out 1).trans rfl
    have hcz9_2 : wc.cell? ⟨gb375,2,none⟩ = some (.int .u8 0):=(blk_cell BK375.out 2).trans rfl
    have hcz9_3 : wc.cell? ⟨gb375,3,none⟩ = some (.string (⟨#[]⟩ : ByteArray)):=(blk_cell BK375.out 3).trans rfl
    have hfz9_0:=blk_frozen BK375.out 0
    have hfz9_1:=blk_frozen BK375.out 1
    have hfz9_2:=blk_frozen BK375.out 2
    have hfz9_3:=blk_frozen BK375.out 3
    go_wp2
    refine bodyPost_ret (results_ctt rfl _ _ gb375 59 #[.string (⟨#[]⟩ : ByteArray),.int .u64 0,.int .u8 0,.string (⟨#[]⟩ : ByteArray)] (0,0) _ rfl (by (with_reducible repeat (first|refine blk_drewN ?_ _|refine blk_drew ?_|refine blk_alloc ?_ _));refine blk_put (cs:=#[.string (⟨#[]⟩ : ByteArray),.int .u64 0,.int .u8 0,.string (⟨#[]⟩ : ByteArray)]) ?_ 3 _ rfl;(with_reducible repeat (first|refine blk_drewN ?_ _|refine blk_drew ?_|refine blk_alloc ?_ _));refine blk_put (cs:=#[.string (⟨#[]⟩ : ByteArray),.int .u64 0,.int .u8 0,.string (⟨#[]⟩ : ByteArray)]) ?_ 2 _ rfl;(with_reducible repeat (first|refine blk_drewN ?_ _|refine blk_drew ?_|refine blk_alloc ?_ _));refine blk_put (cs:=#[.string (⟨#[]⟩ : ByteArray),.int .u64 0,.int .u8 0,.string (⟨#[]⟩ : ByteArray)]) ?_ 1 _ rfl;(with_reducible repeat (first|refine blk_drewN ?_ _|refine blk_drew ?_|refine blk_alloc ?_ _));refine blk_put (cs:=#[.string (⟨#[]⟩ : ByteArray),.int .u64 0,.int .u8 0,.string (⟨#[]⟩ : ByteArray)]) ?_ 0 _ rfl;(with_reducible repeat (first|refine blk_drewN ?_ _|refine blk_drew ?_|refine blk_alloc ?_ _));exact BK375.out) Try.underlying59 rfl (by kernel_rfl)) rfl ?_
    exact ⟨_,by first|rfl|(simp [errW_none,errW_some] <;> rfl)|(simp [*,errW_none,errW_some] <;> rfl),by first|exact Kd.R_nil _ _ _ _ _|exact Kd.N_nil _ _ _ _ _|exact Kd.V_nil _ _ _ _ _|exact Kd.Q_nil _ _ _ _ _|exact Kd.S_nil _ _ _ _ _,by repeat (first|(with_reducible first|exact HB.out|apply below_alloc|apply pw_below_drewN|apply below_drew1|refine below_set ?_ GE375.out)|exact HB.out)⟩
   ·replace c8:=Bool.eq_false_iff.mpr c8
    subst c8
    have H1 : ((ratlineref02_TakeText.f kj3 t377 64).bind fun bt381=>(if bt381.2.2 = true then ((ratlineref02_Take.f kj3 bt381.2.1).bind fun bt386=>(if bt386.2.2 = true then (if 0 ≤ t376 then (if t376 ≤ (a1.size : Int) then (if (a1.extract 0 (t376 : Int).toNat).size + bt381.1.size ≤ 9223372036854775807 then (if ((Int.tmod bt386.1 2) % 256) = 1 then ((ratlineref02_TakeText.f kj3 bt386.2.1 256).bind fun bt392=>(some ((a1.extract 0 (t376 : Int).toNat) ++ bt381.1,IntKind.u64.wrap (Int.tdiv bt386.1 2),(Int.tmod bt386.1 2) % 256,bt392.1,bt392.2.1,bt392.2.2))) else (some ((a1.extract 0 (t376 : Int).toNat) ++ bt381.1,IntKind.u64.wrap (Int.tdiv bt386.1 2),(Int.tmod bt386.1 2) % 256,(⟨#[]⟩ : ByteArray),bt386.2.1,bt386.2.2))) else (none)) else (none)) else (none)) else (some ((⟨#[]⟩ : ByteArray),0,0,(⟨#[]⟩ : ByteArray),([] : List Int),false)))) else (some ((⟨#[]⟩ : ByteArray),0,0,(⟨#[]⟩ : ByteArray),([] : List Int),false)))) = some (r1,r2,r3,r4,r5,r6):=by rw [if_neg (show ¬ (false = true) by decide)] at H;exact H
    clear H
    have H:=H1
    clear H1
    replace H:=Option.bind_eq_some_iff.mp H
    obtain ⟨⟨t381,t382,t383⟩,A100,H⟩:=H
    replace H : (if t383 = true then ((ratlineref02_Take.f kj3 t382).bind fun bt386=>(if bt386.2.2 = true then (if 0 ≤ t376 then (if t376 ≤ (a1.size : Int) then (if (a1.extract 0 (t376 : Int).toNat).size + t381.size ≤ 9223372036854775807 then (if ((Int.tmod bt386.1 2) % 256) = 1 then ((ratlineref02_TakeText.f kj3 bt386.2.1 256).bind fun bt392=>(some ((a1.extract 0 (t376 : Int).toNat) ++ t381,IntKind.u64.wrap (Int.tdiv bt386.1 2),(Int.tmod bt386.1 2) % 256,bt392.1,bt392.2.1,bt392.2.2))) else (some ((a1.extract 0 (t376 : Int).toNat) ++ t381,IntKind.u64.wrap (Int.tdiv bt386.1 2),(Int.tmod bt386.1 2) % 256,(⟨#[]⟩ : ByteArray),bt386.2.1,bt386.2.2))) else (none)) else (none)) else (none)) else (some ((⟨#[]⟩ : ByteArray),0,0,(⟨#[]⟩ : ByteArray),([] : List Int),false)))) else (some ((⟨#[]⟩ : ByteArray),0,0,(⟨#[]⟩ : ByteArray),([] : List Int),false))) = some (r1,r2,r3,r4,r5,r6):=H
    have A10:=Aside0.mk A100
    clear A100
    by_cases c11 : t383 = true
    ·subst c11
     have H1 : ((ratlineref02_Take.f kj3 t382).bind fun bt386=>(if bt386.2.2 = true then (if 0 ≤ t376 then (if t376 ≤ (a1.size : Int) then (if (a1.extract 0 (t376 : Int).toNat).size + t381.size ≤ 9223372036854775807 then (if ((Int.tmod bt386.1 2) % 256) = 1 then ((ratlineref02_TakeText.f kj3 bt386.2.1 256).bind fun bt392=>(some ((a1.extract 0 (t376 : Int).toNat) ++ t381,IntKind.u64.wrap (Int.tdiv bt386.1 2),(Int.tmod bt386.1 2) % 256,bt392.1,bt392.2.1,bt392.2.2))) else (some ((a1.extract 0 (t376 : Int).toNat) ++ t381,IntKind.u64.wrap (Int.tdiv bt386.1 2),(Int.tmod bt386.1 2) % 256,(⟨#[]⟩ : ByteArray),bt386.2.1,bt386.2.2))) else (none)) else (none)) else (none)) else (some ((⟨#[]⟩ : ByteArray),0,0,(⟨#[]⟩ : ByteArray),([] : List Int),false)))) = some (r1,r2,r3,r4,r5,r6):=by rw [if_pos rfl] at H;exact H
     clear H
     have H:=H1
     clear H1
     replace H:=Option.bind_eq_some_iff.mp H
     obtain ⟨⟨t386,t387,t388⟩,A120,H⟩:=H
     replace H : (if t388 = true then (if 0 ≤ t376 then (if t376 ≤ (a1.size : Int) then (if (a1.extract 0 (t376 : Int).toNat).size + t381.size ≤ 9223372036854775807 then (if ((Int.tmod t386 2) % 256) = 1 then ((ratlineref02_TakeText.f kj3 t387 256).bind fun bt392=>(some ((a1.extract 0 (t376 : Int).toNat) ++ t381,IntKind.u64.wrap (Int.tdiv t386 2),(Int.tmod t386 2) % 256,bt392.1,bt392.2.1,bt392.2.2))) else (some ((a1.extract 0 (t376 : Int).toNat) ++ t381,IntKind.u64.wrap (Int.tdiv t386 2),(Int.tmod t386 2) % 256,(⟨#[]⟩ : ByteArray),t387,t388))) else (none)) else (none)) else (none)) else (some ((⟨#[]⟩ : ByteArray),0,0,(⟨#[]⟩ : ByteArray),([] : List Int),false))) = some (r1,r2,r3,r4,r5,r6):=H
     have A12:=Aside0.mk A120
     clear A120
     by_cases c13 : t388 = true
     ·subst c13
      have H1 : (if 0 ≤ t376 then (if t376 ≤ (a1.size : Int) then (if (a1.extract 0 (t376 : Int).toNat).size + t381.size ≤ 9223372036854775807 then (if ((Int.tmod t386 2) % 256) = 1 then ((ratlineref02_TakeText.f kj3 t387 256).bind fun bt392=>(some ((a1.extract 0 (t376 : Int).toNat) ++ t381,IntKind.u64.wrap (Int.tdiv t386 2),(Int.tmod t386 2) % 256,bt392.1,bt392.2.1,bt392.2.2))) else (some ((a1.extract 0 (t376 : Int).toNat) ++ t381,IntKind.u64.wrap (Int.tdiv t386 2),(Int.tmod t386 2) % 256,(⟨#[]⟩ : ByteArray),t387,true))) else (none)) else (none)) else (none)) = some (r1,r2,r3,r4,r5,r6):=by rw [if_pos rfl] at H;exact H
      clear H
      have H:=H1
      clear H1
      by_cases c14 : 0 ≤ t376
      ·rw [if_pos c14] at H
       have c14b0:=eq_true c14
       have c14b1 : decide (0 ≤ t376) = true:=decide_eq_true c14
       clear c14
       by_cases c15 : t376 ≤ (a1.size : Int)
       ·rw [if_pos c15] at H
        have c15b0:=eq_true c15
        have c15b1 : decide (t376 ≤ (a1.size : Int)) = true:=decide_eq_true c15
        clear c15
        by_cases c16 : (a1.extract 0 (t376 : Int).toNat).size + t381.size ≤ 9223372036854775807
        ·rw [if_pos c16] at H
         have c16b0:=eq_true c16
         have c16b1 : decide ((a1.extract 0 (t376 : Int).toNat).size + t381.size ≤ 9223372036854775807) = true:=decide_eq_true c16
         try have c16b2 : (9223372036854775807 < (a1.extract 0 (t376 : Int).toNat).size + t381.size) = False:=eq_false (Nat.not_lt.2 c16)
         by_cases c17 : ((Int.tmod t386 2) % 256) = 1
         ·rw [if_pos c17] at H
          have c17b0 : (((Int.tmod t386 2) % 256) == 1) = true:=beq_iff_eq.mpr c17
          have c17b1 : (((Int.tmod t386 2) % 256) != 1) = false:=bne_eq_false_iff_eq.mpr c17
          clear c17
          replace H:=Option.bind_eq_some_iff.mp H
          obtain ⟨⟨t392,t393,t394⟩,A180,H⟩:=H
          replace H : (some ((a1.extract 0 (t376 : Int).toNat) ++ t381,IntKind.u64.wrap (Int.tdiv t386 2),(Int.tmod t386 2) % 256,t392,t393,t394)) = some (r1,r2,r3,r4,r5,r6):=H
          have A18:=Aside0.mk A180
          clear A180
          simp only [Option.some.injEq,Prod.mk.injEq] at H
          obtain ⟨rfl,rfl,rfl,rfl,rfl,rfl⟩:=H
          obtain ⟨Ao19,co19,eo19⟩:=Kd.R_slice HO_8.out
          subst eo19
          go_wp2_with (first|((with_reducible refine gate_callee (f:=89) rfl ?_);refine goesL_ (some 31) rfl rfl Try.func89 (by kernel_rfl) rfl #[.slice Ao19 t377.length co19,.int .i64 64] rfl (by (try simp only [List.map_toArray,List.map_cons,List.map_nil]);first|done|rfl|(simp only [List.length_drop,List.length_take];rfl)) ?_;(with_reducible refine (ratlineref02_TakeText.calls kj3 _ _ t377 64 t381 t382 true _ ?side1 ?side2 A10.out).mono ?_);(case side1=>repeat (first|exact (Kd.R_reads' HO_8.out).2.2|(with_reducible refine Kd.C_alloc ?_ _)|(with_reducible refine Kd.C_drewN ?_ _)|(with_reducible refine Kd.C_drew ?_)));(case side2=>exact (Kd.R_reads' HO_8.out).2.1);rintro e w20 ⟨v384,rfl,ho0,hb⟩;refine ⟨_,rfl,?_⟩;have n0_:=Aside0.mk (Kd.R_elder' (by (with_reducible repeat (first|apply Kd.R_alloc|apply Kd.R_drewN|apply Kd.R_drew));exact HO_8.out) (Kd.R_base ho0) hb);have n1_:=Aside0.mk (Kd.R_lower (Kd.R_new' ho0 (Kd.R_lt (by (with_reducible repeat (first|apply Kd.R_alloc|apply Kd.R_drewN|apply Kd.R_drew));exact HO_8.out))) (below_size (by repeat (first|(with_reducible first|exact HB.out|apply below_alloc|apply pw_below_drewN|apply below_drew1|refine below_set ?_ GE375.out)|exact HB.out))));have n2_:=Aside0.mk (blk_below (g:=gb375) (o:=.cells #[.string (⟨#[]⟩ : ByteArray),.int .u64 0,.int .u8 0,.string (⟨#[]⟩ : ByteArray)] 59 (0,0)) (by (with_reducible repeat (first|refine blk_drewN ?_ _|refine blk_drew ?_|refine blk_alloc ?_ _));exact BK375.out) hb);have n3_:=Aside0.mk (below_step (by repeat (first|(with_reducible first|exact HB.out|apply below_alloc|apply pw_below_drewN|apply below_drew1|refine below_set ?_ GE375.out)|exact HB.out)) hb);clear HO_8;clear BK375;clear HB;have HO_8:=n0_;have HO385:=n1_;have BK375:=n2_;have HB:=n3_;clear n0_ n1_ n2_ n3_;(try clear hb);(try clear hb2);(try clear hk);(try clear hi);(try clear ho0);obtain ⟨Ao21,co21,eo21⟩:=Kd.R_slice HO385.out;subst eo21)|((with_reducible refine gate_callee (f:=88) rfl ?_);refine goesL_ (some 40) rfl rfl Try.func88 (by kernel_rfl) rfl #[.slice Ao21 t382.length co21] rfl (by (try simp only [List.map_toArray,List.map_cons,List.map_nil]);first|done|rfl|(simp only [List.length_drop,List.length_take];rfl)) ?_;(with_reducible refine (ratlineref02_Take.calls kj3 _ _ t382 t386 t387 true _ ?side1 ?side2 A12.out).mono ?_);(case side1=>repeat (first|exact (Kd.R_reads' HO385.out).2.2|(with_reducible refine Kd.C_alloc ?_ _)|(with_reducible refine Kd.C_drewN ?_ _)|(with_reducible refine Kd.C_drew ?_)));(case side2=>exact (Kd.R_reads' HO385.out).2.1);rintro e w22 ⟨v389,rfl,ho0,hb⟩;refine ⟨_,rfl,?_⟩;have n0_:=Aside0.mk (Kd.R_elder' (by (with_reducible repeat (first|apply Kd.R_alloc|apply Kd.R_drewN|apply Kd.R_drew));exact HO_8.out) (Kd.R_base ho0) hb);have n1_:=Aside0.mk (Kd.R_elder' (by (with_reducible repeat (first|apply Kd.R_alloc|apply Kd.R_drewN|apply Kd.R_drew));exact HO385.out) (Kd.R_base ho0) hb);have n2_:=Aside0.mk (Kd.R_lower (Kd.R_new' (Kd.R_new' ho0 (Kd.R_lt (by (with_reducible repeat (first|apply Kd.R_alloc|apply Kd.R_drewN|apply Kd.R_drew));exact HO_8.out))) (Kd.R_lt (by (with_reducible repeat (first|apply Kd.R_alloc|apply Kd.R_drewN|apply Kd.R_drew));exact HO385.out))) (below_size (by repeat (first|(with_reducible first|exact HB.out|apply below_alloc|apply pw_below_drewN|apply below_drew1|refine below_set ?_ GE375.out)|exact HB.out))));have n3_:=Aside0.mk (blk_below (g:=gb375) (o:=.cells #[.string (⟨#[]⟩ : ByteArray),.int .u64 0,.int .u8 0,.string (⟨#[]⟩ : ByteArray)] 59 (0,0)) (by (with_reducible repeat (first|refine blk_drewN ?_ _|refine blk_drew ?_|refine blk_alloc ?_ _));exact BK375.out) hb);have n4_:=Aside0.mk (below_step (by repeat (first|(with_reducible first|exact HB.out|apply below_alloc|apply pw_below_drewN|apply below_drew1|refine below_set ?_ GE375.out)|exact HB.out)) hb);clear HO_8;clear HO385;clear BK375;clear HB;have HO_8:=n0_;have HO385:=n1_;have HO390:=n2_;have BK375:=n3_;have HB:=n4_;clear n0_ n1_ n2_ n3_ n4_;(try clear hb);(try clear hb2);(try clear hk);(try clear hi);(try clear ho0))|((with_reducible refine gate_dst (N:=12) rfl ?_);(try (refine gate_guard (by rfl) ?_;dsimp only));refine box_event ?hg (N:=12) ?hd (cs:=#[.string (⟨#[]⟩ : ByteArray),.int .u64 0,.int .u8 0,.string (⟨#[]⟩ : ByteArray)]) (t:=59) ?hr ?_;(case hd=>rfl);(case hg=>rfl);(case hr=>first|(go_simp;done)|(go_simp;rfl));intro gb391 hg w23 hbox hb;have n0_:=Aside0.mk (Kd.R_below (by (with_reducible repeat (first|apply Kd.R_alloc|apply Kd.R_drewN|apply Kd.R_drew));exact HO_8.out) hb);have n1_:=Aside0.mk (Kd.R_below (by (with_reducible repeat (first|apply Kd.R_alloc|apply Kd.R_drewN|apply Kd.R_drew));exact HO385.out) hb);have n2_:=Aside0.mk (Kd.R_below (by (with_reducible repeat (first|apply Kd.R_alloc|apply Kd.R_drewN|apply Kd.R_drew));exact HO390.out) hb);have n3_:=Aside0.mk (blk_below (g:=gb375) (o:=.cells #[.string (⟨#[]⟩ : ByteArray),.int .u64 0,.int .u8 0,.string (⟨#[]⟩ : ByteArray)] 59 (0,0)) (by (with_reducible repeat (first|refine blk_drewN ?_ _|refine blk_drew ?_|refine blk_alloc ?_ _));exact BK375.out) hb);have n4_:=Aside0.mk (below_step (by repeat (first|(with_reducible first|exact HB.out|apply below_alloc|apply pw_below_drewN|apply below_drew1|refine below_set ?_ GE375.out)|exact HB.out)) hb);have n5_:=Aside0.mk (hbox);have n6_:=Aside0.mk ((by rw [hg];exact (below_size (by repeat (first|(with_reducible first|exact HB.out|apply below_alloc|apply pw_below_drewN|apply below_drew1|refine below_set ?_ GE375.out)|exact HB.out))) : w.heap.size ≤ gb391));have n7_:=Aside0.mk ((by rw [hg];exact (below_size (by repeat (first|(with_reducible first|exact HB.out|apply below_alloc|apply pw_below_drewN|apply below_drew1|refine below_set ?_ GE375.out)|exact HB.out))) : w.heap.size ≤ gb391));have n8_:=Aside0.mk ((by rw [hg];exact Nat.ne_of_lt (blk_lt (g:=gb375) (o:=.cells #[.string (⟨#[]⟩ : ByteArray),.int .u64 0,.int .u8 0,.string (⟨#[]⟩ : ByteArray)] 59 (0,0)) (by (with_reducible repeat (first|refine blk_drewN ?_ _|refine blk_drew ?_|refine blk_alloc ?_ _));exact BK375.out)) : gb375 ≠ gb391));have n9_:=Aside0.mk ((by rw [hg];exact Nat.ne_of_gt (blk_lt (g:=gb375) (o:=.cells #[.string (⟨#[]⟩ : ByteArray),.int .u64 0,.int .u8 0,.string (⟨#[]⟩ : ByteArray)] 59 (0,0)) (by (with_reducible repeat (first|refine blk_drewN ?_ _|refine blk_drew ?_|refine blk_alloc ?_ _));exact BK375.out)) : gb391 ≠ gb375));clear HO_8;clear HO385;clear HO390;clear BK375;clear HB;have HO_8:=n0_;have HO385:=n1_;have HO390:=n2_;have BK375:=n3_;have HB:=n4_;have BK391:=n5_;have GW391:=n6_;have GE391:=n7_;have NB375_391:=n8_;have NB391_375:=n9_;clear n0_ n1_ n2_ n3_ n4_ n5_ n6_ n7_ n8_ n9_;clear hb hbox hg;have hnb24:=NB391_375.out;have hnc24:=NB375_391.out;have hcz25_0 : w23.cell? ⟨gb391,0,none⟩ = some (.string (⟨#[]⟩ : ByteArray)):=(blk_cell BK391.out 0).trans rfl;have hcz25_1 : w23.cell? ⟨gb391,1,none⟩ = some (.int .u64 0):=(blk_cell BK391.out 1).trans rfl;have hcz25_2 : w23.cell? ⟨gb391,2,none⟩ = some (.int .u8 0):=(blk_cell BK391.out 2).trans rfl;have hcz25_3 : w23.cell? ⟨gb391,3,none⟩ = some (.string (⟨#[]⟩ : ByteArray)):=(blk_cell BK391.out 3).trans rfl;have hfz25_0:=blk_frozen BK391.out 0;have hfz25_1:=blk_frozen BK391.out 1;have hfz25_2:=blk_frozen BK391.out 2;have hfz25_3:=blk_frozen BK391.out 3;obtain ⟨Ao26,co26,eo26⟩:=Kd.R_slice HO390.out;subst eo26)|((with_reducible refine gate_callee (f:=89) rfl ?_);refine goesL_ (some 65) rfl rfl Try.func89 (by kernel_rfl) rfl #[.slice Ao26 t387.length co26,.int .i64 256] rfl (by (try simp only [List.map_toArray,List.map_cons,List.map_nil]);first|done|rfl|(simp only [List.length_drop,List.length_take];rfl)) ?_;(with_reducible refine (ratlineref02_TakeText.calls kj3 _ _ t387 256 t392 t393 t394 _ ?side1 ?side2 A18.out).mono ?_);(case side1=>refine (Kd.R_reads' (e:=5) (base:=w.heap.size) (ok:=fun k_=>((True ∧ some k_ ≠ (.slice Ao19 t377.length co19 : Value).ownBlock) ∧ some k_ ≠ (.slice Ao21 t382.length co21 : Value).ownBlock)) (n:=t387.length) (c:=co26) ?_).2.2;exact (by (with_reducible repeat (first|apply Kd.R_alloc|apply Kd.R_drewN|apply Kd.R_drew));exact (Kd.R_mono (Kd.R_far (p:=⟨gb391,3,none⟩) (Kd.R_far (p:=⟨gb391,2,none⟩) (Kd.R_far (p:=⟨gb391,1,none⟩) (Kd.R_far (p:=⟨gb391,0,none⟩) (Kd.R_types HO390.out BK391.out (by decide)) (fun _ hk=>hk.2) (.string ((a1.extract 0 (t376 : Int).toNat) ++ t381))) (fun _ hk=>hk.2) (.int .u64 (IntKind.u64.wrap (Int.tdiv t386 2)))) (fun _ hk=>hk.2) (.int .u8 ((Int.tmod t386 2) % 256))) (fun _ hk=>hk.2) (.string (⟨#[]⟩ : ByteArray))) (fun _ h_=>h_.1))));(case side2=>exact (Kd.R_reads' HO390.out).2.1);rintro e w27 ⟨v395,rfl,ho0,hb⟩;refine ⟨_,rfl,?_⟩;have n0_:=Aside0.mk (Kd.R_elder' (by (with_reducible repeat (first|apply Kd.R_alloc|apply Kd.R_drewN|apply Kd.R_drew));exact (Kd.R_mono (Kd.R_far (p:=⟨gb391,3,none⟩) (Kd.R_far (p:=⟨gb391,2,none⟩) (Kd.R_far (p:=⟨gb391,1,none⟩) (Kd.R_far (p:=⟨gb391,0,none⟩) (Kd.R_types HO_8.out BK391.out (by decide)) (fun _ hk=>hk.2) (.string ((a1.extract 0 (t376 : Int).toNat) ++ t381))) (fun _ hk=>hk.2) (.int .u64 (IntKind.u64.wrap (Int.tdiv t386 2)))) (fun _ hk=>hk.2) (.int .u8 ((Int.tmod t386 2) % 256))) (fun _ hk=>hk.2) (.string (⟨#[]⟩ : ByteArray))) (fun _ h_=>h_.1))) (Kd.R_base ho0) hb);have n1_:=Aside0.mk (Kd.R_elder' (by (with_reducible repeat (first|apply Kd.R_alloc|apply Kd.R_drewN|apply Kd.R_drew));exact (Kd.R_mono (Kd.R_far (p:=⟨gb391,3,none⟩) (Kd.R_far (p:=⟨gb391,2,none⟩) (Kd.R_far (p:=⟨gb391,1,none⟩) (Kd.R_far (p:=⟨gb391,0,none⟩) (Kd.R_types HO385.out BK391.out (by decide)) (fun _ hk=>hk.2) (.string ((a1.extract 0 (t376 : Int).toNat) ++ t381))) (fun _ hk=>hk.2) (.int .u64 (IntKind.u64.wrap (Int.tdiv t386 2)))) (fun _ hk=>hk.2) (.int .u8 ((Int.tmod t386 2) % 256))) (fun _ hk=>hk.2) (.string (⟨#[]⟩ : ByteArray))) (fun _ h_=>h_.1))) (Kd.R_base ho0) hb);have n2_:=Aside0.mk (Kd.R_elder' (by (with_reducible repeat (first|apply Kd.R_alloc|apply Kd.R_drewN|apply Kd.R_drew));exact (Kd.R_mono (Kd.R_far (p:=⟨gb391,3,none⟩) (Kd.R_far (p:=⟨gb391,2,none⟩) (Kd.R_far (p:=⟨gb391,1,none⟩) (Kd.R_far (p:=⟨gb391,0,none⟩) (Kd.R_types HO390.out BK391.out (by decide)) (fun _ hk=>hk.2) (.string ((a1.extract 0 (t376 : Int).toNat) ++ t381))) (fun _ hk=>hk.2) (.int .u64 (IntKind.u64.wrap (Int.tdiv t386 2)))) (fun _ hk=>hk.2) (.int .u8 ((Int.tmod t386 2) % 256))) (fun _ hk=>hk.2) (.string (⟨#[]⟩ : ByteArray))) (fun _ h_=>h_.1))) (Kd.R_base ho0) hb);have n3_:=Aside0.mk (Kd.R_lower (Kd.R_new' (Kd.R_new' (Kd.R_new' ho0 (Kd.R_lt (by (with_reducible repeat (first|apply Kd.R_alloc|apply Kd.R_drewN|apply Kd.R_drew));exact (Kd.R_mono (Kd.R_far (p:=⟨gb391,3,none⟩) (Kd.R_far (p:=⟨gb391,2,none⟩) (Kd.R_far (p:=⟨gb391,1,none⟩) (Kd.R_far (p:=⟨gb391,0,none⟩) (Kd.R_types HO_8.out BK391.out (by decide)) (fun _ hk=>hk.2) (.string ((a1.extract 0 (t376 : Int).toNat) ++ t381))) (fun _ hk=>hk.2) (.int .u64 (IntKind.u64.wrap (Int.tdiv t386 2)))) (fun _ hk=>hk.2) (.int .u8 ((Int.tmod t386 2) % 256))) (fun _ hk=>hk.2) (.string (⟨#[]⟩ : ByteArray))) (fun _ h_=>h_.1))))) (Kd.R_lt (by (with_reducible repeat (first|apply Kd.R_alloc|apply Kd.R_drewN|apply Kd.R_drew));exact (Kd.R_mono (Kd.R_far (p:=⟨gb391,3,none⟩) (Kd.R_far (p:=⟨gb391,2,none⟩) (Kd.R_far (p:=⟨gb391,1,none⟩) (Kd.R_far (p:=⟨gb391,0,none⟩) (Kd.R_types HO385.out BK391.out (by decide)) (fun _ hk=>hk.2) (.string ((a1.extract 0 (t376 : Int).toNat) ++ t381))) (fun _ hk=>hk.2) (.int .u64 (IntKind.u64.wrap (Int.tdiv t386 2)))) (fun _ hk=>hk.2) (.int .u8 ((Int.tmod t386 2) % 256))) (fun _ hk=>hk.2) (.string (⟨#[]⟩ : ByteArray))) (fun _ h_=>h_.1))))) (Kd.R_lt (by (with_reducible repeat (first|apply Kd.R_alloc|apply Kd.R_drewN|apply Kd.R_drew));exact (Kd.R_mono (Kd.R_far (p:=⟨gb391,3,none⟩) (Kd.R_far (p:=⟨gb391,2,none⟩) (Kd.R_far (p:=⟨gb391,1,none⟩) (Kd.R_far (p:=⟨gb391,0,none⟩) (Kd.R_types HO390.out BK391.out (by decide)) (fun _ hk=>hk.2) (.string ((a1.extract 0 (t376 : Int).toNat) ++ t381))) (fun _ hk=>hk.2) (.int .u64 (IntKind.u64.wrap (Int.tdiv t386 2)))) (fun _ hk=>hk.2) (.int .u8 ((Int.tmod t386 2) % 256))) (fun _ hk=>hk.2) (.string (⟨#[]⟩ : ByteArray))) (fun _ h_=>h_.1))))) (below_size (by repeat (first|(with_reducible first|exact HB.out|apply below_alloc|apply pw_below_drewN|apply below_drew1|refine below_set ?_ GE375.out|refine below_set ?_ GE391.out)|exact HB.out))));have n4_:=Aside0.mk (blk_below (g:=gb375) (o:=.cells #[.string (⟨#[]⟩ : ByteArray),.int .u64 0,.int .u8 0,.string (⟨#[]⟩ : ByteArray)] 59 (0,0)) (by (with_reducible repeat (first|refine blk_drewN ?_ _|refine blk_drew ?_|refine blk_alloc ?_ _));refine blk_far ?_ NB375_391.out _;(with_reducible repeat (first|refine blk_drewN ?_ _|refine blk_drew ?_|refine blk_alloc ?_ _));refine blk_far ?_ NB375_391.out _;(with_reducible repeat (first|refine blk_drewN ?_ _|refine blk_drew ?_|refine blk_alloc ?_ _));refine blk_far ?_ NB375_391.out _;(with_reducible repeat (first|refine blk_drewN ?_ _|refine blk_drew ?_|refine blk_alloc ?_ _));refine blk_far ?_ NB375_391.out _;(with_reducible repeat (first|refine blk_drewN ?_ _|refine blk_drew ?_|refine blk_alloc ?_ _));exact BK375.out) hb);have n5_:=Aside0.mk (blk_below (g:=gb391) (o:=.cells #[.string ((a1.extract 0 (t376 : Int).toNat) ++ t381),.int .u64 (IntKind.u64.wrap (Int.tdiv t386 2)),.int .u8 ((Int.tmod t386 2) % 256),.string (⟨#[]⟩ : ByteArray)] 59 (0,0)) (by (with_reducible repeat (first|refine blk_drewN ?_ _|refine blk_drew ?_|refine blk_alloc ?_ _));refine blk_put (cs:=#[.string ((a1.extract 0 (t376 : Int).toNat) ++ t381),.int .u64 (IntKind.u64.wrap (Int.tdiv t386 2)),.int .u8 ((Int.tmod t386 2) % 256),.string (⟨#[]⟩ : ByteArray)]) ?_ 3 _ rfl;(with_reducible repeat (first|refine blk_drewN ?_ _|refine blk_drew ?_|refine blk_alloc ?_ _));refine blk_put (cs:=#[.string ((a1.extract 0 (t376 : Int).toNat) ++ t381),.int .u64 (IntKind.u64.wrap (Int.tdiv t386 2)),.int .u8 0,.string (⟨#[]⟩ : ByteArray)]) ?_ 2 _ rfl;(with_reducible repeat (first|refine blk_drewN ?_ _|refine blk_drew ?_|refine blk_alloc ?_ _));refine blk_put (cs:=#[.string ((a1.extract 0 (t376 : Int).toNat) ++ t381),.int .u64 0,.int .u8 0,.string (⟨#[]⟩ : ByteArray)]) ?_ 1 _ rfl;(with_reducible repeat (first|refine blk_drewN ?_ _|refine blk_drew ?_|refine blk_alloc ?_ _));refine blk_put (cs:=#[.string (⟨#[]⟩ : ByteArray),.int .u64 0,.int .u8 0,.string (⟨#[]⟩ : ByteArray)]) ?_ 0 _ rfl;(with_reducible repeat (first|refine blk_drewN ?_ _|refine blk_drew ?_|refine blk_alloc ?_ _));exact BK391.out) hb);have n6_:=Aside0.mk (below_step (by repeat (first|(with_reducible first|exact HB.out|apply below_alloc|apply pw_below_drewN|apply below_drew1|refine below_set ?_ GE375.out|refine below_set ?_ GE391.out)|exact HB.out)) hb);clear HO_8;clear HO385;clear HO390;clear BK375;clear BK391;clear HB;have HO_8:=n0_;have HO385:=n1_;have HO390:=n2_;have HO396:=n3_;have BK375:=n4_;have BK391:=n5_;have HB:=n6_;clear n0_ n1_ n2_ n3_ n4_ n5_ n6_;(try clear hb);(try clear hb2);(try clear hk);(try clear hi);(try clear ho0);have hcz28_0 : w27.cell? ⟨gb391,0,none⟩ = some (.string ((a1.extract 0 (t376 : Int).toNat) ++ t381)):=(blk_cell BK391.out 0).trans rfl;have hcz28_1 : w27.cell? ⟨gb391,1,none⟩ = some (.int .u64 (IntKind.u64.wrap (Int.tdiv t386 2))):=(blk_cell BK391.out 1).trans rfl;have hcz28_2 : w27.cell? ⟨gb391,2,none⟩ = some (.int .u8 ((Int.tmod t386 2) % 256)):=(blk_cell BK391.out 2).trans rfl;have hcz28_3 : w27.cell? ⟨gb391,3,none⟩ = some (.string (⟨#[]⟩ : ByteArray)):=(blk_cell BK391.out 3).trans rfl;have hfz28_0:=blk_frozen BK391.out 0;have hfz28_1:=blk_frozen BK391.out 1;have hfz28_2:=blk_frozen BK391.out 2;have hfz28_3:=blk_frozen BK391.out 3;have hcz29_0 : w27.cell? ⟨gb375,0,none⟩ = some (.string (⟨#[]⟩ : ByteArray)):=(blk_cell BK375.out 0).trans rfl;have hcz29_1 : w27.cell? ⟨gb375,1,none⟩ = some (.int .u64 0):=(blk_cell BK375.out 1).trans rfl;have hcz29_2 : w27.cell? ⟨gb375,2,none⟩ = some (.int .u8 0):=(blk_cell BK375.out 2).trans rfl;have hcz29_3 : w27.cell? ⟨gb375,3,none⟩ = some (.string (⟨#[]⟩ : ByteArray)):=(blk_cell BK375.out 3).trans rfl;have hfz29_0:=blk_frozen BK375.out 0;have hfz29_1:=blk_frozen BK375.out 1;have hfz29_2:=blk_frozen BK375.out 2;have hfz29_3:=blk_frozen BK375.out 3))
          refine bodyPost_ret (results_ctt rfl _ _ gb375 59 #[.string ((a1.extract 0 (t376 : Int).toNat) ++ t381),.int .u64 (IntKind.u64.wrap (Int.tdiv t386 2)),.int .u8 ((Int.tmod t386 2) % 256),.string t392] (0,0) _ rfl (by (with_reducible repeat (first|refine blk_drewN ?_ _|refine blk_drew ?_|refine blk_alloc ?_ _));refine blk_put (cs:=#[.string ((a1.extract 0 (t376 : Int).toNat) ++ t381),.int .u64 (IntKind.u64.wrap (Int.tdiv t386 2)),.int .u8 ((Int.tmod t386 2) % 256),.string (⟨#[]⟩ : ByteArray)]) ?_ 3 _ rfl;(with_reducible repeat (first|refine blk_drewN ?_ _|refine blk_drew ?_|refine blk_alloc ?_ _));refine blk_put (cs:=#[.string ((a1.extract 0 (t376 : Int).toNat) ++ t381),.int .u64 (IntKind.u64.wrap (Int.tdiv t386 2)),.int .u8 0,.string (⟨#[]⟩ : ByteArray)]) ?_ 2 _ rfl;(with_reducible repeat (first|refine blk_drewN ?_ _|refine blk_drew ?_|refine blk_alloc ?_ _));refine blk_put (cs:=#[.string ((a1.extract 0 (t376 : Int).toNat) ++ t381),.int .u64 0,.int .u8 0,.string (⟨#[]⟩ : ByteArray)]) ?_ 1 _ rfl;(with_reducible repeat (first|refine blk_drewN ?_ _|refine blk_drew ?_|refine blk_alloc ?_ _));refine blk_put (cs:=#[.string (⟨#[]⟩ : ByteArray),.int .u64 0,.int .u8 0,.string (⟨#[]⟩ : ByteArray)]) ?_ 0 _ rfl;(with_reducible repeat (first|refine blk_drewN ?_ _|refine blk_drew ?_|refine blk_alloc ?_ _));refine blk_far ?_ NB375_391.out _;(with_reducible repeat (first|refine blk_drewN ?_ _|refine blk_drew ?_|refine blk_alloc ?_ _));exact BK375.out) Try.underlying59 rfl (by kernel_rfl)) rfl ?_
          exact ⟨_,by first|rfl|(simp [errW_none,errW_some] <;> rfl)|(simp [*,errW_none,errW_some] <;> rfl),by (with_reducible repeat (first|apply Kd.R_alloc|apply Kd.R_drewN|apply Kd.R_drew));exact Kd.R_mono (Kd.R_far (p:=⟨gb375,3,none⟩) (Kd.R_far (p:=⟨gb375,2,none⟩) (Kd.R_far (p:=⟨gb375,1,none⟩) (Kd.R_far (p:=⟨gb375,0,none⟩) (Kd.R_far (p:=⟨gb391,3,none⟩) (Kd.R_types (Kd.R_types HO396.out BK391.out (by decide)) BK375.out (by decide)) (fun _ hk=>hk.1.2) (.string t392)) (fun _ hk=>hk.2) (.string ((a1.extract 0 (t376 : Int).toNat) ++ t381))) (fun _ hk=>hk.2) (.int .u64 (IntKind.u64.wrap (Int.tdiv t386 2)))) (fun _ hk=>hk.2) (.int .u8 ((Int.tmod t386 2) % 256))) (fun _ hk=>hk.2) (.string t392)) (fun _ hk=>trivial),by repeat (first|(with_reducible first|exact HB.out|apply below_alloc|apply pw_below_drewN|apply below_drew1|refine below_set ?_ GE375.out|refine below_set ?_ GE391.out)|exact HB.out)⟩
         ·rw [if_neg c17] at H
          have c17b0 : (((Int.tmod t386 2) % 256) == 1) = false:=beq_eq_false_iff_ne.mpr c17
          have c17b1 : (((Int.tmod t386 2) % 256) != 1) = true:=bne_iff_ne.mpr c17
          simp only [Option.some.injEq,Prod.mk.injEq] at H
          obtain ⟨rfl,rfl,rfl,rfl,rfl,rfl⟩:=H
          obtain ⟨Ao30,co30,eo30⟩:=Kd.R_slice HO_8.out
          subst eo30
          go_wp2_with (first|((with_reducible refine gate_callee (f:=89) rfl ?_);refine goesL_ (some 31) rfl rfl Try.func89 (by kernel_rfl) rfl #[.slice Ao30 t377.length co30,.int .i64 64] rfl (by (try simp only [List.map_toArray,List.map_cons,List.map_nil]);first|done|rfl|(simp only [List.length_drop,List.length_take];rfl)) ?_;(with_reducible refine (ratlineref02_TakeText.calls kj3 _ _ t377 64 t381 t382 true _ ?side1 ?side2 A10.out).mono ?_);(case side1=>repeat (first|exact (Kd.R_reads' HO_8.out).2.2|(with_reducible refine Kd.C_alloc ?_ _)|(with_reducible refine Kd.C_drewN ?_ _)|(with_reducible refine Kd.C_drew ?_)));(case side2=>exact (Kd.R_reads' HO_8.out).2.1);rintro e w31 ⟨v384,rfl,ho0,hb⟩;refine ⟨_,rfl,?_⟩;have n0_:=Aside0.mk (Kd.R_elder' (by (with_reducible repeat (first|apply Kd.R_alloc|apply Kd.R_drewN|apply Kd.R_drew));exact HO_8.out) (Kd.R_base ho0) hb);have n1_:=Aside0.mk (Kd.R_lower (Kd.R_new' ho0 (Kd.R_lt (by (with_reducible repeat (first|apply Kd.R_alloc|apply Kd.R_drewN|apply Kd.R_drew));exact HO_8.out))) (below_size (by repeat (first|(with_reducible first|exact HB.out|apply below_alloc|apply pw_below_drewN|apply below_drew1|refine below_set ?_ GE375.out)|exact HB.out))));have n2_:=Aside0.mk (blk_below (g:=gb375) (o:=.cells #[.string (⟨#[]⟩ : ByteArray),.int .u64 0,.int .u8 0,.string (⟨#[]⟩ : ByteArray)] 59 (0,0)) (by (with_reducible repeat (first|refine blk_drewN ?_ _|refine blk_drew ?_|refine blk_alloc ?_ _));exact BK375.out) hb);have n3_:=Aside0.mk (below_step (by repeat (first|(with_reducible first|exact HB.out|apply below_alloc|apply pw_below_drewN|apply below_drew1|refine below_set ?_ GE375.out)|exact HB.out)) hb);clear HO_8;clear BK375;clear HB;have HO_8:=n0_;have HO385:=n1_;have BK375:=n2_;have HB:=n3_;clear n0_ n1_ n2_ n3_;(try clear hb);(try clear hb2);(try clear hk);(try clear hi);(try clear ho0);obtain ⟨Ao32,co32,eo32⟩:=Kd.R_slice HO385.out;subst eo32)|((with_reducible refine gate_callee (f:=88) rfl ?_);refine goesL_ (some 40) rfl rfl Try.func88 (by kernel_rfl) rfl #[.slice Ao32 t382.length co32] rfl (by (try simp only [List.map_toArray,List.map_cons,List.map_nil]);first|done|rfl|(simp only [List.length_drop,List.length_take];rfl)) ?_;(with_reducible refine (ratlineref02_Take.calls kj3 _ _ t382 t386 t387 true _ ?side1 ?side2 A12.out).mono ?_);(case side1=>repeat (first|exact (Kd.R_reads' HO385.out).2.2|(with_reducible refine Kd.C_alloc ?_ _)|(with_reducible refine Kd.C_drewN ?_ _)|(with_reducible refine Kd.C_drew ?_)));(case side2=>exact (Kd.R_reads' HO385.out).2.1);rintro e w33 ⟨v389,rfl,ho0,hb⟩;refine ⟨_,rfl,?_⟩;have n0_:=Aside0.mk (Kd.R_elder' (by (with_reducible repeat (first|apply Kd.R_alloc|apply Kd.R_drewN|apply Kd.R_drew));exact HO_8.out) (Kd.R_base ho0) hb);have n1_:=Aside0.mk (Kd.R_elder' (by (with_reducible repeat (first|apply Kd.R_alloc|apply Kd.R_drewN|apply Kd.R_drew));exact HO385.out) (Kd.R_base ho0) hb);have n2_:=Aside0.mk (Kd.R_lower (Kd.R_new' (Kd.R_new' ho0 (Kd.R_lt (by (with_reducible repeat (first|apply Kd.R_alloc|apply Kd.R_drewN|apply Kd.R_drew));exact HO_8.out))) (Kd.R_lt (by (with_reducible repeat (first|apply Kd.R_alloc|apply Kd.R_drewN|apply Kd.R_drew));exact HO385.out))) (below_size (by repeat (first|(with_reducible first|exact HB.out|apply below_alloc|apply pw_below_drewN|apply below_drew1|refine below_set ?_ GE375.out)|exact HB.out))));have n3_:=Aside0.mk (blk_below (g:=gb375) (o:=.cells #[.string (⟨#[]⟩ : ByteArray),.int .u64 0,.int .u8 0,.string (⟨#[]⟩ : ByteArray)] 59 (0,0)) (by (with_reducible repeat (first|refine blk_drewN ?_ _|refine blk_drew ?_|refine blk_alloc ?_ _));exact BK375.out) hb);have n4_:=Aside0.mk (below_step (by repeat (first|(with_reducible first|exact HB.out|apply below_alloc|apply pw_below_drewN|apply below_drew1|refine below_set ?_ GE375.out)|exact HB.out)) hb);clear HO_8;clear HO385;clear BK375;clear HB;have HO_8:=n0_;have HO385:=n1_;have HO390:=n2_;have BK375:=n3_;have HB:=n4_;clear n0_ n1_ n2_ n3_ n4_;(try clear hb);(try clear hb2);(try clear hk);(try clear hi);(try clear ho0))|((with_reducible refine gate_dst (N:=12) rfl ?_);(try (refine gate_guard (by rfl) ?_;dsimp only));refine box_event ?hg (N:=12) ?hd (cs:=#[.string (⟨#[]⟩ : ByteArray),.int .u64 0,.int .u8 0,.string (⟨#[]⟩ : ByteArray)]) (t:=59) ?hr ?_;(case hd=>rfl);(case hg=>rfl);(case hr=>first|(go_simp;done)|(go_simp;rfl));intro gb391 hg w34 hbox hb;have n0_:=Aside0.mk (Kd.R_below (by (with_reducible repeat (first|apply Kd.R_alloc|apply Kd.R_drewN|apply Kd.R_drew));exact HO_8.out) hb);have n1_:=Aside0.mk (Kd.R_below (by (with_reducible repeat (first|apply Kd.R_alloc|apply Kd.R_drewN|apply Kd.R_drew));exact HO385.out) hb);have n2_:=Aside0.mk (Kd.R_below (by (with_reducible repeat (first|apply Kd.R_alloc|apply Kd.R_drewN|apply Kd.R_drew));exact HO390.out) hb);have n3_:=Aside0.mk (blk_below (g:=gb375) (o:=.cells #[.string (⟨#[]⟩ : ByteArray),.int .u64 0,.int .u8 0,.string (⟨#[]⟩ : ByteArray)] 59 (0,0)) (by (with_reducible repeat (first|refine blk_drewN ?_ _|refine blk_drew ?_|refine blk_alloc ?_ _));exact BK375.out) hb);have n4_:=Aside0.mk (below_step (by repeat (first|(with_reducible first|exact HB.out|apply below_alloc|apply pw_below_drewN|apply below_drew1|refine below_set ?_ GE375.out)|exact HB.out)) hb);have n5_:=Aside0.mk (hbox);have n6_:=Aside0.mk ((by rw [hg];exact (below_size (by repeat (first|(with_reducible first|exact HB.out|apply below_alloc|apply pw_below_drewN|apply below_drew1|refine below_set ?_ GE375.out)|exact HB.out))) : w.heap.size ≤ gb391));have n7_:=Aside0.mk ((by rw [hg];exact (below_size (by repeat (first|(with_reducible first|exact HB.out|apply below_alloc|apply pw_below_drewN|apply below_drew1|refine below_set ?_ GE375.out)|exact HB.out))) : w.heap.size ≤ gb391));have n8_:=Aside0.mk ((by rw [hg];exact Nat.ne_of_lt (blk_lt (g:=gb375) (o:=.cells #[.string (⟨#[]⟩ : ByteArray),.int .u64 0,.int .u8 0,.string (⟨#[]⟩ : ByteArray)] 59 (0,0)) (by (with_reducible repeat (first|refine blk_drewN ?_ _|refine blk_drew ?_|refine blk_alloc ?_ _));exact BK375.out)) : gb375 ≠ gb391));have n9_:=Aside0.mk ((by rw [hg];exact Nat.ne_of_gt (blk_lt (g:=gb375) (o:=.cells #[.string (⟨#[]⟩ : ByteArray),.int .u64 0,.int .u8 0,.string (⟨#[]⟩ : ByteArray)] 59 (0,0)) (by (with_reducible repeat (first|refine blk_drewN ?_ _|refine blk_drew ?_|refine blk_alloc ?_ _));exact BK375.out)) : gb391 ≠ gb375));clear HO_8;clear HO385;clear HO390;clear BK375;clear HB;have HO_8:=n0_;have HO385:=n1_;have HO390:=n2_;have BK375:=n3_;have HB:=n4_;have BK391:=n5_;have GW391:=n6_;have GE391:=n7_;have NB375_391:=n8_;have NB391_375:=n9_;clear n0_ n1_ n2_ n3_ n4_ n5_ n6_ n7_ n8_ n9_;clear hb hbox hg;have hnb35:=NB391_375.out;have hnc35:=NB375_391.out;have hcz36_0 : w34.cell? ⟨gb391,0,none⟩ = some (.string (⟨#[]⟩ : ByteArray)):=(blk_cell BK391.out 0).trans rfl;have hcz36_1 : w34.cell? ⟨gb391,1,none⟩ = some (.int .u64 0):=(blk_cell BK391.out 1).trans rfl;have hcz36_2 : w34.cell? ⟨gb391,2,none⟩ = some (.int .u8 0):=(blk_cell BK391.out 2).trans rfl;have hcz36_3 : w34.cell? ⟨gb391,3,none⟩ = some (.string (⟨#[]⟩ : ByteArray)):=(blk_cell BK391.out 3).trans rfl;have hfz36_0:=blk_frozen BK391.out 0;have hfz36_1:=blk_frozen BK391.out 1;have hfz36_2:=blk_frozen BK391.out 2;have hfz36_3:=blk_frozen BK391.out 3;have hcz37_0 : w34.cell? ⟨gb375,0,none⟩ = some (.string (⟨#[]⟩ : ByteArray)):=(blk_cell BK375.out 0).trans rfl;have hcz37_1 : w34.cell? ⟨gb375,1,none⟩ = some (.int .u64 0):=(blk_cell BK375.out 1).trans rfl;have hcz37_2 : w34.cell? ⟨gb375,2,none⟩ = some (.int .u8 0):=(blk_cell BK375.out 2).trans rfl;have hcz37_3 : w34.cell? ⟨gb375,3,none⟩ = some (.string (⟨#[]⟩ : ByteArray)):=(blk_cell BK375.out 3).trans rfl;have hfz37_0:=blk_frozen BK375.out 0;have hfz37_1:=blk_frozen BK375.out 1;have hfz37_2:=blk_frozen BK375.out 2;have hfz37_3:=blk_frozen BK375.out 3))
          refine bodyPost_ret (results_ctt rfl _ _ gb375 59 #[.string ((a1.extract 0 (t376 : Int).toNat) ++ t381),.int .u64 (IntKind.u64.wrap (Int.tdiv t386 2)),.int .u8 ((Int.tmod t386 2) % 256),.string (⟨#[]⟩ : ByteArray)] (0,0) _ rfl (by (with_reducible repeat (first|refine blk_drewN ?_ _|refine blk_drew ?_|refine blk_alloc ?_ _));refine blk_put (cs:=#[.string ((a1.extract 0 (t376 : Int).toNat) ++ t381),.int .u64 (IntKind.u64.wrap (Int.tdiv t386 2)),.int .u8 ((Int.tmod t386 2) % 256),.string (⟨#[]⟩ : ByteArray)]) ?_ 3 _ rfl;(with_reducible repeat (first|refine blk_drewN ?_ _|refine blk_drew ?_|refine blk_alloc ?_ _));refine blk_put (cs:=#[.string ((a1.extract 0 (t376 : Int).toNat) ++ t381),.int .u64 (IntKind.u64.wrap (Int.tdiv t386 2)),.int .u8 0,.string (⟨#[]⟩ : ByteArray)]) ?_ 2 _ rfl;(with_reducible repeat (first|refine blk_drewN ?_ _|refine blk_drew ?_|refine blk_alloc ?_ _));refine blk_put (cs:=#[.string ((a1.extract 0 (t376 : Int).toNat) ++ t381),.int .u64 0,.int .u8 0,.string (⟨#[]⟩ : ByteArray)]) ?_ 1 _ rfl;(with_reducible repeat (first|refine blk_drewN ?_ _|refine blk_drew ?_|refine blk_alloc ?_ _));refine blk_put (cs:=#[.string (⟨#[]⟩ : ByteArray),.int .u64 0,.int .u8 0,.string (⟨#[]⟩ : ByteArray)]) ?_ 0 _ rfl;(with_reducible repeat (first|refine blk_drewN ?_ _|refine blk_drew ?_|refine blk_alloc ?_ _));refine blk_far ?_ NB375_391.out _;(with_reducible repeat (first|refine blk_drewN ?_ _|refine blk_drew ?_|refine blk_alloc ?_ _));refine blk_far ?_ NB375_391.out _;(with_reducible repeat (first|refine blk_drewN ?_ _|refine blk_drew ?_|refine blk_alloc ?_ _));refine blk_far ?_ NB375_391.out _;(with_reducible repeat (first|refine blk_drewN ?_ _|refine blk_drew ?_|refine blk_alloc ?_ _));refine blk_far ?_ NB375_391.out _;(with_reducible repeat (first|refine blk_drewN ?_ _|refine blk_drew ?_|refine blk_alloc ?_ _));exact BK375.out) Try.underlying59 rfl (by kernel_rfl)) rfl ?_
          exact ⟨_,by first|rfl|(simp [errW_none,errW_some] <;> rfl)|(simp [*,errW_none,errW_some] <;> rfl),by (with_reducible repeat (first|apply Kd.R_alloc|apply Kd.R_drewN|apply Kd.R_drew));exact Kd.R_mono (Kd.R_far (p:=⟨gb375,3,none⟩) (Kd.R_far (p:=⟨gb375,2,none⟩) (Kd.R_far (p:=⟨gb375,1,none⟩) (Kd.R_far (p:=⟨gb375,0,none⟩) (Kd.R_far (p:=⟨gb391,3,none⟩) (Kd.R_far (p:=⟨gb391,2,none⟩) (Kd.R_far (p:=⟨gb391,1,none⟩) (Kd.R_far (p:=⟨gb391,0,none⟩) (Kd.R_types (Kd.R_types HO390.out BK391.out (by decide)) BK375.out (by decide)) (fun _ hk=>hk.1.2) (.string ((a1.extract 0 (t376 : Int).toNat) ++ t381))) (fun _ hk=>hk.1.2) (.int .u64 (IntKind.u64.wrap (Int.tdiv t386 2)))) (fun _ hk=>hk.1.2) (.int .u8 ((Int.tmod t386 2) % 256))) (fun _ hk=>hk.1.2) (.string (⟨#[]⟩ : ByteArray))) (fun _ hk=>hk.2) (.string ((a1.extract 0 (t376 : Int).toNat) ++ t381))) (fun _ hk=>hk.2) (.int .u64 (IntKind.u64.wrap (Int.tdiv t386 2)))) (fun _ hk=>hk.2) (.int .u8 ((Int.tmod t386 2) % 256))) (fun _ hk=>hk.2) (.string (⟨#[]⟩ : ByteArray))) (fun _ hk=>trivial),by repeat (first|(with_reducible first|exact HB.out|apply below_alloc|apply pw_below_drewN|apply below_drew1|refine below_set ?_ GE375.out|refine below_set ?_ GE391.out)|exact HB.out)⟩
        ·rw [if_neg c16] at H
         exact absurd H (by simp)
       ·rw [if_neg c15] at H
        exact absurd H (by simp)
      ·rw [if_neg c14] at H
       exact absurd H (by simp)
     ·replace c13:=Bool.eq_false_iff.mpr c13
      subst c13
      have H1 : (some ((⟨#[]⟩ : ByteArray),0,0,(⟨#[]⟩ : ByteArray),([] : List Int),false)) = some (r1,r2,r3,r4,r5,r6):=by rw [if_neg (show ¬ (false = true) by decide)] at H;exact H
      clear H
      have H:=H1
      clear H1
      simp only [Option.some.injEq,Prod.mk.injEq] at H
      obtain ⟨rfl,rfl,rfl,rfl,rfl,rfl⟩:=H
      obtain ⟨Ao38,co38,eo38⟩:=Kd.R_slice HO_8.out
      subst eo38
      go_wp2_with (first|((with_reducible refine gate_callee (f:=89) rfl ?_);refine goesL_ (some 31) rfl rfl Try.func89 (by kernel_rfl) rfl #[.slice Ao38 t377.length co38,.int .i64 64] rfl (by (try simp only [List.map_toArray,List.map_cons,List.map_nil]);first|done|rfl|(simp only [List.length_drop,List.length_take];rfl)) ?_;(with_reducible refine (ratlineref02_TakeText.calls kj3 _ _ t377 64 t381 t382 true _ ?side1 ?side2 A10.out).mono ?_);(case side1=>repeat (first|exact (Kd.R_reads' HO_8.out).2.2|(with_reducible refine Kd.C_alloc ?_ _)|(with_reducible refine Kd.C_drewN ?_ _)|(with_reducible refine Kd.C_drew ?_)));(case side2=>exact (Kd.R_reads' HO_8.out).2.1);rintro e w39 ⟨v384,rfl,ho0,hb⟩;refine ⟨_,rfl,?_⟩;have n0_:=Aside0.mk (Kd.R_elder' (by (with_reducible repeat (first|apply Kd.R_alloc|apply Kd.R_drewN|apply Kd.R_drew));exact HO_8.out) (Kd.R_base ho0) hb);have n1_:=Aside0.mk (Kd.R_lower (Kd.R_new' ho0 (Kd.R_lt (by (with_reducible repeat (first|apply Kd.R_alloc|apply Kd.R_drewN|apply Kd.R_drew));exact HO_8.out))) (below_size (by repeat (first|(with_reducible first|exact HB.out|apply below_alloc|apply pw_below_drewN|apply below_drew1|refine below_set ?_ GE375.out)|exact HB.out))));have n2_:=Aside0.mk (blk_below (g:=gb375) (o:=.cells #[.string (⟨#[]⟩ : ByteArray),.int .u64 0,.int .u8 0,.string (⟨#[]⟩ : ByteArray)] 59 (0,0)) (by (with_reducible repeat (first|refine blk_drewN ?_ _|refine blk_drew ?_|refine blk_alloc ?_ _));exact BK375.out) hb);have n3_:=Aside0.mk (below_step (by repeat (first|(with_reducible first|exact HB.out|apply below_alloc|apply pw_below_drewN|apply below_drew1|refine below_set ?_ GE375.out)|exact HB.out)) hb);clear HO_8;clear BK375;clear HB;have HO_8:=n0_;have HO385:=n1_;have BK375:=n2_;have HB:=n3_;clear n0_ n1_ n2_ n3_;(try clear hb);(try clear hb2);(try clear hk);(try clear hi);(try clear ho0);obtain ⟨Ao40,co40,eo40⟩:=Kd.R_slice HO385.out;subst eo40)|((with_reducible refine gate_callee (f:=88) rfl ?_);refine goesL_ (some 40) rfl rfl Try.func88 (by kernel_rfl) rfl #[.slice Ao40 t382.length co40] rfl (by (try simp only [List.map_toArray,List.map_cons,List.map_nil]);first|done|rfl|(simp only [List.length_drop,List.length_take];rfl)) ?_;(with_reducible refine (ratlineref02_Take.calls kj3 _ _ t382 t386 t387 false _ ?side1 ?side2 A12.out).mono ?_);(case side1=>repeat (first|exact (Kd.R_reads' HO385.out).2.2|(with_reducible refine Kd.C_alloc ?_ _)|(with_reducible refine Kd.C_drewN ?_ _)|(with_reducible refine Kd.C_drew ?_)));(case side2=>exact (Kd.R_reads' HO385.out).2.1);rintro e w41 ⟨v389,rfl,ho0,hb⟩;refine ⟨_,rfl,?_⟩;have n0_:=Aside0.mk (Kd.R_elder' (by (with_reducible repeat (first|apply Kd.R_alloc|apply Kd.R_drewN|apply Kd.R_drew));exact HO_8.out) (Kd.R_base ho0) hb);have n1_:=Aside0.mk (Kd.R_elder' (by (with_reducible repeat (first|apply Kd.R_alloc|apply Kd.R_drewN|apply Kd.R_drew));exact HO385.out) (Kd.R_base ho0) hb);have n2_:=Aside0.mk (Kd.R_lower (Kd.R_new' (Kd.R_new' ho0 (Kd.R_lt (by (with_reducible repeat (first|apply Kd.R_alloc|apply Kd.R_drewN|apply Kd.R_drew));exact HO_8.out))) (Kd.R_lt (by (with_reducible repeat (first|apply Kd.R_alloc|apply Kd.R_drewN|apply Kd.R_drew));exact HO385.out))) (below_size (by repeat (first|(with_reducible first|exact HB.out|apply below_alloc|apply pw_below_drewN|apply below_drew1|refine below_set ?_ GE375.out)|exact HB.out))));have n3_:=Aside0.mk (blk_below (g:=gb375) (o:=.cells #[.string (⟨#[]⟩ : ByteArray),.int .u64 0,.int .u8 0,.string (⟨#[]⟩ : ByteArray)] 59 (0,0)) (by (with_reducible repeat (first|refine blk_drewN ?_ _|refine blk_drew ?_|refine blk_alloc ?_ _));exact BK375.out) hb);have n4_:=Aside0.mk (below_step (by repeat (first|(with_reducible first|exact HB.out|apply below_alloc|apply pw_below_drewN|apply below_drew1|refine below_set ?_ GE375.out)|exact HB.out)) hb);clear HO_8;clear HO385;clear BK375;clear HB;have HO_8:=n0_;have HO385:=n1_;have HO390:=n2_;have BK375:=n3_;have HB:=n4_;clear n0_ n1_ n2_ n3_ n4_;(try clear hb);(try clear hb2);(try clear hk);(try clear hi);(try clear ho0);have hcz42_0 : w41.cell? ⟨gb375,0,none⟩ = some (.string (⟨#[]⟩ : ByteArray)):=(blk_cell BK375.out 0).trans rfl;have hcz42_1 : w41.cell? ⟨gb375,1,none⟩ = some (.int .u64 0):=(blk_cell BK375.out 1).trans rfl;have hcz42_2 : w41.cell? ⟨gb375,2,none⟩ = some (.int .u8 0):=(blk_cell BK375.out 2).trans rfl;have hcz42_3 : w41.cell? ⟨gb375,3,none⟩ = some (.string (⟨#[]⟩ : ByteArray)):=(blk_cell BK375.out 3).trans rfl;have hfz42_0:=blk_frozen BK375.out 0;have hfz42_1:=blk_frozen BK375.out 1;have hfz42_2:=blk_frozen BK375.out 2;have hfz42_3:=blk_frozen BK375.out 3))
      refine bodyPost_ret (results_ctt rfl _ _ gb375 59 #[.string (⟨#[]⟩ : ByteArray),.int .u64 0,.int .u8 0,.string (⟨#[]⟩ : ByteArray)] (0,0) _ rfl (by (with_reducible repeat (first|refine blk_drewN ?_ _|refine blk_drew ?_|refine blk_alloc ?_ _));refine blk_put (cs:=#[.string (⟨#[]⟩ : ByteArray),.int .u64 0,.int .u8 0,.string (⟨#[]⟩ : ByteArray)]) ?_ 3 _ rfl;(with_reducible repeat (first|refine blk_drewN ?_ _|refine blk_drew ?_|refine blk_alloc ?_ _));refine blk_put (cs:=#[.string (⟨#[]⟩ : ByteArray),.int .u64 0,.int .u8 0,.string (⟨#[]⟩ : ByteArray)]) ?_ 2 _ rfl;(with_reducible repeat (first|refine blk_drewN ?_ _|refine blk_drew ?_|refine blk_alloc ?_ _));refine blk_put (cs:=#[.string (⟨#[]⟩ : ByteArray),.int .u64 0,.int .u8 0,.string (⟨#[]⟩ : ByteArray)]) ?_ 1 _ rfl;(with_reducible repeat (first|refine blk_drewN ?_ _|refine blk_drew ?_|refine blk_alloc ?_ _));refine blk_put (cs:=#[.string (⟨#[]⟩ : ByteArray),.int .u64 0,.int .u8 0,.string (⟨#[]⟩ : ByteArray)]) ?_ 0 _ rfl;(with_reducible repeat (first|refine blk_drewN ?_ _|refine blk_drew ?_|refine blk_alloc ?_ _));exact BK375.out) Try.underlying59 rfl (by kernel_rfl)) rfl ?_
      exact ⟨_,by first|rfl|(simp [errW_none,errW_some] <;> rfl)|(simp [*,errW_none,errW_some] <;> rfl),by first|exact Kd.R_nil _ _ _ _ _|exact Kd.N_nil _ _ _ _ _|exact Kd.V_nil _ _ _ _ _|exact Kd.Q_nil _ _ _ _ _|exact Kd.S_nil _ _ _ _ _,by repeat (first|(with_reducible first|exact HB.out|apply below_alloc|apply pw_below_drewN|apply below_drew1|refine below_set ?_ GE375.out)|exact HB.out)⟩
    ·replace c11:=Bool.eq_false_iff.mpr c11
     subst c11
     have H1 : (some ((⟨#[]⟩ : ByteArray),0,0,(⟨#[]⟩ : ByteArray),([] : List Int),false)) = some (r1,r2,r3,r4,r5,r6):=by rw [if_neg (show ¬ (false = true) by decide)] at H;exact H
     clear H
     have H:=H1
     clear H1
     simp only [Option.some.injEq,Prod.mk.injEq] at H
     obtain ⟨rfl,rfl,rfl,rfl,rfl,rfl⟩:=H
     obtain ⟨Ao43,co43,eo43⟩:=Kd.R_slice HO_8.out
     subst eo43
     go_wp2_with (first|((with_reducible refine gate_callee (f:=89) rfl ?_);refine goesL_ (some 31) rfl rfl Try.func89 (by kernel_rfl) rfl #[.slice Ao43 t377.length co43,.int .i64 64] rfl (by (try simp only [List.map_toArray,List.map_cons,List.map_nil]);first|done|rfl|(simp only [List.length_drop,List.length_take];rfl)) ?_;(with_reducible refine (ratlineref02_TakeText.calls kj3 _ _ t377 64 t381 t382 false _ ?side1 ?side2 A10.out).mono ?_);(case side1=>repeat (first|exact (Kd.R_reads' HO_8.out).2.2|(with_reducible refine Kd.C_alloc ?_ _)|(with_reducible refine Kd.C_drewN ?_ _)|(with_reducible refine Kd.C_drew ?_)));(case side2=>exact (Kd.R_reads' HO_8.out).2.1);rintro e w44 ⟨v384,rfl,ho0,hb⟩;refine ⟨_,rfl,?_⟩;have n0_:=Aside0.mk (Kd.R_elder' (by (with_reducible repeat (first|apply Kd.R_alloc|apply Kd.R_drewN|apply Kd.R_drew));exact HO_8.out) (Kd.R_base ho0) hb);have n1_:=Aside0.mk (Kd.R_lower (Kd.R_new' ho0 (Kd.R_lt (by (with_reducible repeat (first|apply Kd.R_alloc|apply Kd.R_drewN|apply Kd.R_drew));exact HO_8.out))) (below_size (by repeat (first|(with_reducible first|exact HB.out|apply below_alloc|apply pw_below_drewN|apply below_drew1|refine below_set ?_ GE375.out)|exact HB.out))));have n2_:=Aside0.mk (blk_below (g:=gb375) (o:=.cells #[.string (⟨#[]⟩ : ByteArray),.int .u64 0,.int .u8 0,.string (⟨#[]⟩ : ByteArray)] 59 (0,0)) (by (with_reducible repeat (first|refine blk_drewN ?_ _|refine blk_drew ?_|refine blk_alloc ?_ _));exact BK375.out) hb);have n3_:=Aside0.mk (below_step (by repeat (first|(with_reducible first|exact HB.out|apply below_alloc|apply pw_below_drewN|apply below_drew1|refine below_set ?_ GE375.out)|exact HB.out)) hb);clear HO_8;clear BK375;clear HB;have HO_8:=n0_;have HO385:=n1_;have BK375:=n2_;have HB:=n3_;clear n0_ n1_ n2_ n3_;(try clear hb);(try clear hb2);(try clear hk);(try clear hi);(try clear ho0);have hcz45_0 : w44.cell? ⟨gb375,0,none⟩ = some (.string (⟨#[]⟩ : ByteArray)):=(blk_cell BK375.out 0).trans rfl;have hcz45_1 : w44.cell? ⟨gb375,1,none⟩ = some (.int .u64 0):=(blk_cell BK375.out 1).trans rfl;have hcz45_2 : w44.cell? ⟨gb375,2,none⟩ = some (.int .u8 0):=(blk_cell BK375.out 2).trans rfl;have hcz45_3 : w44.cell? ⟨gb375,3,none⟩ = some (.string (⟨#[]⟩ : ByteArray)):=(blk_cell BK375.out 3).trans rfl;have hfz45_0:=blk_frozen BK375.out 0;have hfz45_1:=blk_frozen BK375.out 1;have hfz45_2:=blk_frozen BK375.out 2;have hfz45_3:=blk_frozen BK375.out 3))
     refine bodyPost_ret (results_ctt rfl _ _ gb375 59 #[.string (⟨#[]⟩ : ByteArray),.int .u64 0,.int .u8 0,.string (⟨#[]⟩ : ByteArray)] (0,0) _ rfl (by (with_reducible repeat (first|refine blk_drewN ?_ _|refine blk_drew ?_|refine blk_alloc ?_ _));refine blk_put (cs:=#[.string (⟨#[]⟩ : ByteArray),.int .u64 0,.int .u8 0,.string (⟨#[]⟩ : ByteArray)]) ?_ 3 _ rfl;(with_reducible repeat (first|refine blk_drewN ?_ _|refine blk_drew ?_|refine blk_alloc ?_ _));refine blk_put (cs:=#[.string (⟨#[]⟩ : ByteArray),.int .u64 0,.int .u8 0,.string (⟨#[]⟩ : ByteArray)]) ?_ 2 _ rfl;(with_reducible repeat (first|refine blk_drewN ?_ _|refine blk_drew ?_|refine blk_alloc ?_ _));refine blk_put (cs:=#[.string (⟨#[]⟩ : ByteArray),.int .u64 0,.int .u8 0,.string (⟨#[]⟩ : ByteArray)]) ?_ 1 _ rfl;(with_reducible repeat (first|refine blk_drewN ?_ _|refine blk_drew ?_|refine blk_alloc ?_ _));refine blk_put (cs:=#[.string (⟨#[]⟩ : ByteArray),.int .u64 0,.int .u8 0,.string (⟨#[]⟩ : ByteArray)]) ?_ 0 _ rfl;(with_reducible repeat (first|refine blk_drewN ?_ _|refine blk_drew ?_|refine blk_alloc ?_ _));exact BK375.out) Try.underlying59 rfl (by kernel_rfl)) rfl ?_
     exact ⟨_,by first|rfl|(simp [errW_none,errW_some] <;> rfl)|(simp [*,errW_none,errW_some] <;> rfl),by first|exact Kd.R_nil _ _ _ _ _|exact Kd.N_nil _ _ _ _ _|exact Kd.V_nil _ _ _ _ _|exact Kd.Q_nil _ _ _ _ _|exact Kd.S_nil _ _ _ _ _,by repeat (first|(with_reducible first|exact HB.out|apply below_alloc|apply pw_below_drewN|apply below_drew1|refine below_set ?_ GE375.out)|exact HB.out)⟩

end Go.Proofs.Ytjcjfghcahbbmaa.P

end
