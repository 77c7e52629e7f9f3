/- Proved here: the row of BlockTells, and what it needs. Conditions: those of each theorem. Written for this claim by programs; what the claim does not use is left out. -/
import Derived.KernelRfl
import Derived.ChangeArms
import Derived.DataReads
import Derived.DataElems
import Derived.OpenShut
import Derived.SizedLaws
import Derived.Test.YtjcjfghcahbbmaaRows
import Derived.WalkKit
import Derived.ProofKit
import Derived.ShutString
import Derived.ChangeOld
import Derived.Below
import Derived.Test.YtjcjfghcahbbmaaSBlockTells4
section
namespace Go.Proofs.Ytjcjfghcahbbmaa.P
open Go.RowKit Go.Proofs.YtjcjfghcahbbmaaG Go.Proofs.YtjcjfghcahbbmaaW.PrintWords Go.Proofs.YtjcjfghcahbbmaaW.PrintLast Go.Proofs.YtjcjfghcahbbmaaW.PrintMore
attribute [local go_sem] str_gtr str_geq str_leq max2_int min2_int max_two min_two max_three min_three max_four min_four   -- for this text's walks alone
set_option linter.unusedVariables false
set_option linter.unusedSimpArgs false

mutual
def ratlineref07_Parse.l0 : Nat → List Int → List (S59) → List Int → ByteArray → Option ((List (S59)) × Int)
 | 0,_,_,_,_=>none
 | k + 1,x0,x4,x5,x6=>if (x4.length : Int) < 64 then (if ((x4.length : Int) % 4) = 0 then (ratlineref07_Parse.j1 k x0 x4 x5 (⟨#[]⟩ : ByteArray)) else (ratlineref07_Parse.j1 k x0 x4 x5 x6)) else (some (([] : List (S59)),70))
def ratlineref07_Parse.j1 : Nat → List Int → List (S59) → List Int → ByteArray → Option ((List (S59)) × Int)
 | 0,_,_,_,_=>none
 | k + 1,x0,x4,x5,x6=>(ratlineref07_one.f k x5 x6).bind fun bt397=>(if bt397.2.2.2.2.2 = true then (if x4.length < 2932031007402 then ((some (x4 ++ [(⟨(⟨bt397.1,bt397.2.1,bt397.2.2.1⟩ : S50),bt397.2.2.2.1⟩ : S59)] : List (S59))).bind fun y406=>((ratlineref07_Build.f k y406).bind fun bt409=>(if bt409.2 = 0 then (if (strOfNums bt409.1).toList = (strOfNums x0).toList then (some (y406,0)) else (ratlineref07_Parse.l0 k x0 y406 bt397.2.2.2.2.1 bt397.1)) else (ratlineref07_Parse.l0 k x0 y406 bt397.2.2.2.2.1 bt397.1)))) else (none)) else (some (([] : List (S59)),70)))
end
def ratlineref07_Parse.f (k : Nat) (l0 : List Int) : Option ((List (S59)) × Int):=ratlineref07_Parse.l0 k l0 ([] : List (S59)) l0 (⟨#[]⟩ : ByteArray)
set_option maxHeartbeats 8000000 in
set_option maxRecDepth 100000 in
theorem ratlineref07_Parse.calls (k : Nat) (P0_ : Nat → Prop) (A0 : Option Addr) (c0 : Nat) (l0 : List Int) (r1 : List (S59)) (r2 : Int) (w : World) (hs0 : Kd.V (Kd.int .u8) 5 w w.heap.size (fun k_=>P0_ k_) (.slice A0 l0.length c0) l0) (h : ratlineref07_Parse.f k l0 = some (r1,r2)) :
  Calls Try.prog 25 #[.slice A0 l0.length c0] w fun e w'=>∃ v0_ : Value,e = .returned (.tuple #[v0_,.int .i64 r2]) ∧ Kd.R k59 59 w' w.heap.size (fun k_=>(w.heap.size ≤ k_)) v0_ r1 ∧ Below w.heap.size w w':=by
 have hu59:=Try.underlying59
 have HO0:=Aside0.mk (show Kd.V (Kd.int .u8) 5 w w.heap.size (fun k_=>(P0_ k_ ∨ w.heap.size ≤ k_)) (.slice A0 l0.length c0) l0 from Kd.V_mono hs0 (fun k_ hk=>.inl hk))
 have HB:=Aside0.mk (Below.refl w.heap.size w)
 have H : (ratlineref07_Parse.l0 k l0 ([] : List (S59)) l0 (⟨#[]⟩ : ByteArray)) = some (r1,r2):=h
 clear h
 have H':=Aside0.mk H
 clear H
 go_enter Try.func25,Try.ntmps25
 go_wp2
 go_loopg [4,5,6] k (fun kq v4 v5 v6 w'=>∃ (x4_1 : List (S59)) (x5_1 : List Int) (x6_1 : ByteArray),v6 = .string x6_1 ∧ Aside0 (ratlineref07_Parse.l0 kq l0 x4_1 x5_1 x6_1 = some (r1,r2)) ∧ Aside0 (kq ≤ k) ∧ Aside0 (Kd.V (Kd.int .u8) 5 w' w.heap.size (fun k_=>(P0_ k_ ∨ w.heap.size ≤ k_) ∧ some k_ ≠ (v4 : Value).ownBlock) (.slice A0 l0.length c0) l0) ∧ Aside0 (Kd.R k59 59 w' w.heap.size (fun k_=>(w.heap.size ≤ k_)) v4 x4_1) ∧ Aside0 (Kd.V (Kd.int .u8) 5 w' w.heap.size (fun k_=>(P0_ k_ ∨ w.heap.size ≤ k_) ∧ some k_ ≠ (v4 : Value).ownBlock) v5 x5_1) ∧ Aside0 (Below w.heap.size w w'))
 case atStart=>exact ⟨(([] : List (S59))),(l0),((⟨#[]⟩ : ByteArray)),(by first|rfl|(simp;done)|(simp [*];done)),H',⟨Nat.le_refl _⟩,⟨by (with_reducible repeat (first|apply Kd.V_alloc|apply Kd.V_drewN|apply Kd.V_drew));exact Kd.V_mono HO0.out (fun _ hk=>⟨hk,(by simp [Value.ownBlock])⟩)⟩,⟨by first|exact Kd.R_nil _ _ _ _ _|exact Kd.N_nil _ _ _ _ _|exact Kd.V_nil _ _ _ _ _|exact Kd.Q_nil _ _ _ _ _|exact Kd.S_nil _ _ _ _ _⟩,⟨by (with_reducible repeat (first|apply Kd.V_alloc|apply Kd.V_drewN|apply Kd.V_drew));exact Kd.V_mono HO0.out (fun _ hk=>⟨hk,(by simp [Value.ownBlock])⟩)⟩,⟨by repeat (first|(with_reducible first|exact HB.out|apply below_alloc|apply pw_below_drewN|apply below_drew1)|exact HB.out)⟩⟩
 case round =>
  clear H'
  obtain ⟨x4_1,x5_1,x6_1,rfl,HA,HK1,HO_0,HO_4,HO_5,HB⟩:=hrel
  cases gk with
  | zero=>exact absurd HA.out (by simp [ratlineref07_Parse.l0])
  | succ k1 =>
   have H:=HA.out
   clear HA
   simp only [ratlineref07_Parse.l0] at H
   by_cases c2 : (x4_1.length : Int) < 64
   ·rw [if_pos c2] at H
    have c2b0 : decide ((x4_1.length : Int) < 64) = true:=decide_eq_true c2
    have c2b1 : decide (x4_1.length < 64) = true:=decide_eq_true (by omega)
    clear c2
    have HC3:=Aside0.mk H
    clear H
    obtain ⟨Ao4,co4,eo4⟩:=Kd.R_slice HO_4.out
    subst eo4
    go_upto_if 19 with (fail)
    go_cut [6] (fun v6 wc=>∃ (kq : Nat) (x6_2 : ByteArray),v6 = .string x6_2 ∧ Aside0 (ratlineref07_Parse.j1 kq l0 x4_1 x5_1 x6_2 = some (r1,r2)) ∧ Aside0 (kq ≤ k1) ∧ Aside0 (Kd.V (Kd.int .u8) 5 wc w.heap.size (fun k_=>(P0_ k_ ∨ w.heap.size ≤ k_) ∧ some k_ ≠ ((.slice Ao4 x4_1.length co4) : Value).ownBlock) (.slice A0 l0.length c0) l0) ∧ Aside0 (Kd.R k59 59 wc w.heap.size (fun k_=>(w.heap.size ≤ k_)) (.slice Ao4 x4_1.length co4) x4_1) ∧ Aside0 (Kd.V (Kd.int .u8) 5 wc w.heap.size (fun k_=>(P0_ k_ ∨ w.heap.size ≤ k_) ∧ some k_ ≠ ((.slice Ao4 x4_1.length co4) : Value).ownBlock) u5 x5_1) ∧ Aside0 (Below w.heap.size w wc))
    case first =>
     have H:=HC3.out
     clear HC3
     by_cases c5 : ((x4_1.length : Int) % 4) = 0
     ·rw [if_pos c5] at H
      have c5b0 : (((x4_1.length : Int) % 4) == 0) = true:=beq_iff_eq.mpr c5
      have c5b1 : (((x4_1.length : Int) % 4) != 0) = false:=bne_eq_false_iff_eq.mpr c5
      clear c5
      (first|rw [c5b0]|(simp only [i64_w,i32_w];rw [c5b0])|skip)
      have H':=Aside0.mk H
      clear H
      go_wp2
      go_meet
      case rel=>exact ⟨_,((⟨#[]⟩ : ByteArray)),(by first|rfl|(simp;done)|(simp [*];done)),H',⟨by have:=HK1.out;first|omega|exact Nat.le_refl _⟩,⟨by (with_reducible repeat (first|apply Kd.V_alloc|apply Kd.V_drewN|apply Kd.V_drew));exact HO_0.out⟩,⟨by (with_reducible repeat (first|apply Kd.R_alloc|apply Kd.R_drewN|apply Kd.R_drew));exact HO_4.out⟩,⟨by (with_reducible repeat (first|apply Kd.V_alloc|apply Kd.V_drewN|apply Kd.V_drew));exact HO_5.out⟩,⟨by repeat (first|(with_reducible first|exact HB.out|apply below_alloc|apply pw_below_drewN|apply below_drew1)|exact HB.out)⟩⟩
     ·rw [if_neg c5] at H
      have c5b0 : (((x4_1.length : Int) % 4) == 0) = false:=beq_eq_false_iff_ne.mpr c5
      have c5b1 : (((x4_1.length : Int) % 4) != 0) = true:=bne_iff_ne.mpr c5
      (first|rw [c5b0]|(simp only [i64_w,i32_w];rw [c5b0])|skip)
      have H':=Aside0.mk H
      clear H
      go_wp2
      go_meet
      case rel=>exact ⟨_,(x6_1),(by first|rfl|(simp;done)|(simp [*];done)),H',⟨by have:=HK1.out;first|omega|exact Nat.le_refl _⟩,⟨by (with_reducible repeat (first|apply Kd.V_alloc|apply Kd.V_drewN|apply Kd.V_drew));exact HO_0.out⟩,⟨by (with_reducible repeat (first|apply Kd.R_alloc|apply Kd.R_drewN|apply Kd.R_drew));exact HO_4.out⟩,⟨by (with_reducible repeat (first|apply Kd.V_alloc|apply Kd.V_drewN|apply Kd.V_drew));exact HO_5.out⟩,⟨by repeat (first|(with_reducible first|exact HB.out|apply below_alloc|apply pw_below_drewN|apply below_drew1)|exact HB.out)⟩⟩
    case rest =>
     clear HC3
     try clear c2
     try clear c2b0
     try clear c2b1
     try clear p2
     try clear c5
     try clear c5b0
     try clear c5b1
     obtain ⟨kq,x6_2,rfl,HA,HJ2,HO_0,HO_4,HO_5,HB⟩:=hcut
     cases kq with
     | zero=>exact absurd HA.out (by simp [ratlineref07_Parse.j1])
     | succ kj2 =>
      have H:=HA.out
      clear HA
      simp only [ratlineref07_Parse.j1] at H
      replace H:=Option.bind_eq_some_iff.mp H
      obtain ⟨⟨t397,t398,t399,t400,t401,t404⟩,A60,H⟩:=H
      replace H : (if t404 = true then (if x4_1.length < 2932031007402 then ((some (x4_1 ++ [(⟨(⟨t397,t398,t399⟩ : S50),t400⟩ : S59)] : List (S59))).bind fun y406=>((ratlineref07_Build.f kj2 y406).bind fun bt409=>(if bt409.2 = 0 then (if (strOfNums bt409.1).toList = (strOfNums l0).toList then (some (y406,0)) else (ratlineref07_Parse.l0 kj2 l0 y406 t401 t397)) else (ratlineref07_Parse.l0 kj2 l0 y406 t401 t397)))) else (none)) else (some (([] : List (S59)),70))) = some (r1,r2):=H
      have A6:=Aside0.mk A60
      clear A60
      by_cases c7 : t404 = true
      ·subst c7
       have H1 : (if x4_1.length < 2932031007402 then ((some (x4_1 ++ [(⟨(⟨t397,t398,t399⟩ : S50),t400⟩ : S59)] : List (S59))).bind fun y406=>((ratlineref07_Build.f kj2 y406).bind fun bt409=>(if bt409.2 = 0 then (if (strOfNums bt409.1).toList = (strOfNums l0).toList then (some (y406,0)) else (ratlineref07_Parse.l0 kj2 l0 y406 t401 t397)) else (ratlineref07_Parse.l0 kj2 l0 y406 t401 t397)))) else (none)) = some (r1,r2):=by rw [if_pos rfl] at H;exact H
       clear H
       have H:=H1
       clear H1
       by_cases c8 : x4_1.length < 2932031007402
       ·rw [if_pos c8] at H
        have LMc8:=Aside0.mk c8
        clear c8
        obtain ⟨y406,hy406⟩ : ∃ y_ : List (S59),y_ = (x4_1 ++ [(⟨(⟨t397,t398,t399⟩ : S50),t400⟩ : S59)]):=⟨_,rfl⟩
        replace H : ((ratlineref07_Build.f kj2 y406).bind fun bt409=>(if bt409.2 = 0 then (if (strOfNums bt409.1).toList = (strOfNums l0).toList then (some (y406,0)) else (ratlineref07_Parse.l0 kj2 l0 y406 t401 t397)) else (ratlineref07_Parse.l0 kj2 l0 y406 t401 t397))) = some (r1,r2):=by first|(rw [hy406];with_reducible exact H)|(have H2_:=(Option.bind_some _ _).symm.trans H;rw [hy406];with_reducible exact H2_)|(have H2_:=(Option.bind_some _ _).symm.trans H;with_reducible exact H2_)|with_reducible exact H|(rw [hy406];exact H)|exact H
        have Ny406:=Aside0.mk hy406
        clear hy406
        replace H:=Option.bind_eq_some_iff.mp H
        obtain ⟨⟨t409,t410⟩,A90,H⟩:=H
        replace H : (if t410 = 0 then (if (strOfNums t409).toList = (strOfNums l0).toList then (some (y406,0)) else (ratlineref07_Parse.l0 kj2 l0 y406 t401 t397)) else (ratlineref07_Parse.l0 kj2 l0 y406 t401 t397)) = some (r1,r2):=H
        have A9:=Aside0.mk A90
        clear A90
        by_cases c10 : t410 = 0
        ·rw [if_pos c10] at H
         have c10b0 : (t410 == 0) = true:=beq_iff_eq.mpr c10
         have c10b1 : (t410 != 0) = false:=bne_eq_false_iff_eq.mpr c10
         clear c10
         by_cases c11 : (strOfNums t409).toList = (strOfNums l0).toList
         ·rw [if_pos c11] at H
          have c11b0 : ((strOfNums t409).toList == (strOfNums l0).toList) = true:=beq_iff_eq.mpr c11
          have c11b1 : ((strOfNums t409).toList != (strOfNums l0).toList) = false:=bne_eq_false_iff_eq.mpr c11
          clear c11
          simp only [Option.some.injEq,Prod.mk.injEq] at H
          obtain ⟨rfl,rfl⟩:=H
          obtain ⟨Ao12,co12,eo12⟩:=Kd.V_slice HO_5.out
          subst eo12
          go_wp2_with (first|((with_reducible refine gate_callee (f:=60) rfl ?_);refine goesL_ (some 23) rfl rfl Try.func60 (by kernel_rfl) rfl #[.slice Ao12 x5_1.length co12,.string x6_2] rfl (by (try simp only [List.map_toArray,List.map_cons,List.map_nil]);first|done|rfl|(simp only [List.length_drop,List.length_take];rfl)) ?_;(with_reducible refine (ratlineref07_one.calls kj2 _ _ x5_1 x6_2 t397 t398 t399 t400 t401 true _ ?side1 ?side2 A6.out).mono ?_);(case side1=>repeat (first|exact (Kd.V_reads' HO_5.out).2.2|(with_reducible refine Kd.C_alloc ?_ _)|(with_reducible refine Kd.C_drewN ?_ _)|(with_reducible refine Kd.C_drew ?_)));(case side2=>exact (Kd.V_reads' HO_5.out).2.1);rintro e w13 ⟨v402,rfl,ho0,hb⟩;refine ⟨_,rfl,?_⟩;have n0_:=Aside0.mk (Kd.V_elder' (by (with_reducible repeat (first|apply Kd.V_alloc|apply Kd.V_drewN|apply Kd.V_drew));exact HO_0.out) (Kd.R_base ho0) hb);have n1_:=Aside0.mk (Kd.R_below (by (with_reducible repeat (first|apply Kd.R_alloc|apply Kd.R_drewN|apply Kd.R_drew));exact HO_4.out) hb);have n2_:=Aside0.mk (Kd.V_elder' (by (with_reducible repeat (first|apply Kd.V_alloc|apply Kd.V_drewN|apply Kd.V_drew));exact HO_5.out) (Kd.R_base ho0) hb);have n3_:=Aside0.mk (Kd.R_lower (Kd.R_newM (M:=fun k_=>(w.heap.size ≤ k_)) ho0 (below_size (by repeat (first|(with_reducible first|exact HB.out|apply below_alloc|apply pw_below_drewN|apply below_drew1)|exact HB.out))) (fun k_ h_=>h_)) (below_size (by repeat (first|(with_reducible first|exact HB.out|apply below_alloc|apply pw_below_drewN|apply below_drew1)|exact HB.out))));have n4_:=Aside0.mk (below_step (by repeat (first|(with_reducible first|exact HB.out|apply below_alloc|apply pw_below_drewN|apply below_drew1)|exact HB.out)) hb);clear HO_0;clear HO_4;clear HO_5;clear HB;have HO_0:=n0_;have HO_4:=n1_;have HO_5:=n2_;have HO403:=n3_;have HB:=n4_;clear n0_ n1_ n2_ n3_ n4_;(try clear hb);(try clear hb2);(try clear hk);(try clear hi);(try clear ho0))|((with_reducible refine gate_dst (N:=7) rfl ?_);refine box_event ?hg (N:=7) ?hd (cs:=#[.string (⟨#[]⟩ : ByteArray),.int .u64 0,.int .u8 0,.string (⟨#[]⟩ : ByteArray)]) (t:=59) ?hr ?_;(case hd=>rfl);(case hg=>rfl);(case hr=>first|(go_simp;done)|(go_simp;rfl));intro gb405 hg w14 hbox hb;have n0_:=Aside0.mk (Kd.V_below (Kd.V_elderB (by (with_reducible repeat (first|apply Kd.V_alloc|apply Kd.V_drewN|apply Kd.V_drew));exact HO_0.out) gb405 (Nat.le_of_eq hg.symm)) hb);have n1_:=Aside0.mk (Kd.R_below (Kd.R_elderB (by (with_reducible repeat (first|apply Kd.R_alloc|apply Kd.R_drewN|apply Kd.R_drew));exact HO_4.out) gb405 (Nat.le_of_eq hg.symm)) hb);have n2_:=Aside0.mk (Kd.V_below (Kd.V_elderB (by (with_reducible repeat (first|apply Kd.V_alloc|apply Kd.V_drewN|apply Kd.V_drew));exact HO_5.out) gb405 (Nat.le_of_eq hg.symm)) hb);have n3_:=Aside0.mk (Kd.R_below (by (with_reducible repeat (first|apply Kd.R_alloc|apply Kd.R_drewN|apply Kd.R_drew));exact HO403.out) hb);have n4_:=Aside0.mk (below_step (by repeat (first|(with_reducible first|exact HB.out|apply below_alloc|apply pw_below_drewN|apply below_drew1)|exact HB.out)) hb);have n5_:=Aside0.mk (hbox);have n6_:=Aside0.mk ((by rw [hg];exact (below_size (by repeat (first|(with_reducible first|exact HB.out|apply below_alloc|apply pw_below_drewN|apply below_drew1)|exact HB.out))) : w.heap.size ≤ gb405));have n7_:=Aside0.mk ((by rw [hg];exact (below_size (by repeat (first|(with_reducible first|exact HB.out|apply below_alloc|apply pw_below_drewN|apply below_drew1)|exact HB.out))) : w.heap.size ≤ gb405));clear HO_0;clear HO_4;clear HO_5;clear HO403;clear HB;have HO_0:=n0_;have HO_4:=n1_;have HO_5:=n2_;have HO403:=n3_;have HB:=n4_;have BK405:=n5_;have GW405:=n6_;have GE405:=n7_;clear n0_ n1_ n2_ n3_ n4_ n5_ n6_ n7_;clear hb hbox hg;have hcz15_0 : w14.cell? ⟨gb405,0,none⟩ = some (.string (⟨#[]⟩ : ByteArray)):=(blk_cell BK405.out 0).trans rfl;have hcz15_1 : w14.cell? ⟨gb405,1,none⟩ = some (.int .u64 0):=(blk_cell BK405.out 1).trans rfl;have hcz15_2 : w14.cell? ⟨gb405,2,none⟩ = some (.int .u8 0):=(blk_cell BK405.out 2).trans rfl;have hcz15_3 : w14.cell? ⟨gb405,3,none⟩ = some (.string (⟨#[]⟩ : ByteArray)):=(blk_cell BK405.out 3).trans rfl;have hfz15_0:=blk_frozen BK405.out 0;have hfz15_1:=blk_frozen BK405.out 1;have hfz15_2:=blk_frozen BK405.out 2;have hfz15_3:=blk_frozen BK405.out 3)|((with_reducible refine gate_builtin (b:=.append) (xs:=#[.tmp 29,.tmp 31]) rfl ?_);at_builtin;refine Kd.R_append k59 (w0:=w) w.heap.size rfl (.tmp 29) (.tmp 31) 48 59 (.agg #[(.string ⟨#[]⟩),(.int .u64 0),(.int .u8 0),(.string ⟨#[]⟩)]) 48 rfl Try.underlying48 info59 rfl (by decide) (by omega) (.slice Ao4 x4_1.length co4) x4_1 (⟨(⟨t397,t398,t399⟩ : S50),t400⟩ : S59) [.string t397,.int .u64 t398,.int .u8 t399,.string t400] (fun k_=>(w.heap.size ≤ k_) ∧ k_ ≠ gb405) (fun _=>False) rfl (by first|(go_simp;done)|(go_simp;rfl)) ?aP (fun _ hk=>hk.elim) ?aF ?aO ?aB ?aS ?aL ?_;(case aP=>exact k59_mkM _ _ _ (⟨(⟨t397,t398,t399⟩ : S50),t400⟩ : S59));(case aB=>exact (by repeat (first|(with_reducible first|exact HB.out|apply below_alloc|apply pw_below_drewN|apply below_drew1|refine below_set ?_ GE405.out)|exact HB.out)));(case aF=>exact (fun k_ hk=>⟨(Nat.le_trans (below_size (by repeat (first|(with_reducible first|exact HB.out|apply below_alloc|apply pw_below_drewN|apply below_drew1|refine below_set ?_ GE405.out)|exact HB.out))) hk),Kd.freshB (g:=gb405) (o:=.cells #[.string t397,.int .u64 t398,.int .u8 t399,.string t400] 59 (0,0)) (by (with_reducible repeat (first|refine blk_drewN ?_ _|refine blk_drew ?_|refine blk_alloc ?_ _));refine blk_put (cs:=#[.string t397,.int .u64 t398,.int .u8 t399,.string (⟨#[]⟩ : ByteArray)]) ?_ 3 _ rfl;(with_reducible repeat (first|refine blk_drewN ?_ _|refine blk_drew ?_|refine blk_alloc ?_ _));refine blk_put (cs:=#[.string t397,.int .u64 t398,.int .u8 0,.string (⟨#[]⟩ : ByteArray)]) ?_ 2 _ rfl;(with_reducible repeat (first|refine blk_drewN ?_ _|refine blk_drew ?_|refine blk_alloc ?_ _));refine blk_put (cs:=#[.string t397,.int .u64 0,.int .u8 0,.string (⟨#[]⟩ : ByteArray)]) ?_ 1 _ rfl;(with_reducible repeat (first|refine blk_drewN ?_ _|refine blk_drew ?_|refine blk_alloc ?_ _));refine blk_put (cs:=#[.string (⟨#[]⟩ : ByteArray),.int .u64 0,.int .u8 0,.string (⟨#[]⟩ : ByteArray)]) ?_ 0 _ rfl;(with_reducible repeat (first|refine blk_drewN ?_ _|refine blk_drew ?_|refine blk_alloc ?_ _));exact BK405.out) k_ hk⟩));(case aO=>exact (by (with_reducible repeat (first|apply Kd.R_alloc|apply Kd.R_drewN|apply Kd.R_drew));exact Kd.R_mono (Kd.R_far (p:=⟨gb405,3,none⟩) (Kd.R_far (p:=⟨gb405,2,none⟩) (Kd.R_far (p:=⟨gb405,1,none⟩) (Kd.R_far (p:=⟨gb405,0,none⟩) (Kd.R_mono HO_4.out (fun k_ hk=>(⟨hk,hk.2⟩ : _ ∧ k_ ≠ gb405))) (fun _ hk=>hk.2) (.string t397)) (fun _ hk=>hk.2) (.int .u64 t398)) (fun _ hk=>hk.2) (.int .u8 t399)) (fun _ hk=>hk.2) (.string t400)) (fun _ hk=>⟨hk.1.1,hk.1.2⟩)));(case aS=>exact (below_size (by repeat (first|(with_reducible first|exact HB.out|apply below_alloc|apply pw_below_drewN|apply below_drew1|refine below_set ?_ GE405.out)|exact HB.out))));(case aL=>have:=LMc8.out;omega);intro v407 w16 ho hb hg hat;rw [← Ny406.out] at ho;have n0_:=Aside0.mk (Kd.V_afterv (ok:=(fun k_=>(P0_ k_ ∨ w.heap.size ≤ k_) ∧ some k_ ≠ (v402 : Value).ownBlock ∧ k_ ≠ gb405)) (by (with_reducible repeat (first|apply Kd.V_alloc|apply Kd.V_drewN|apply Kd.V_drew));exact Kd.V_mono (Kd.V_far (p:=⟨gb405,3,none⟩) (Kd.V_far (p:=⟨gb405,2,none⟩) (Kd.V_far (p:=⟨gb405,1,none⟩) (Kd.V_far (p:=⟨gb405,0,none⟩) (Kd.V_mono HO_0.out (fun k_ hk=>(⟨hk,hk.2⟩ : _ ∧ k_ ≠ gb405))) (fun _ hk=>hk.2) (.string t397)) (fun _ hk=>hk.2) (.int .u64 t398)) (fun _ hk=>hk.2) (.int .u8 t399)) (fun _ hk=>hk.2) (.string t400)) (fun _ hk=>⟨⟨hk.1.1.1.1,⟨hk.1.1.2,hk.1.2⟩⟩,hk.1.1.1.2⟩)) hg hat);have n1_:=Aside0.mk (Kd.V_afterv (ok:=(fun k_=>(P0_ k_ ∨ w.heap.size ≤ k_) ∧ some k_ ≠ (v402 : Value).ownBlock ∧ k_ ≠ gb405)) (by (with_reducible repeat (first|apply Kd.V_alloc|apply Kd.V_drewN|apply Kd.V_drew));exact Kd.V_mono (Kd.V_far (p:=⟨gb405,3,none⟩) (Kd.V_far (p:=⟨gb405,2,none⟩) (Kd.V_far (p:=⟨gb405,1,none⟩) (Kd.V_far (p:=⟨gb405,0,none⟩) (Kd.V_mono HO_5.out (fun k_ hk=>(⟨hk,hk.2⟩ : _ ∧ k_ ≠ gb405))) (fun _ hk=>hk.2) (.string t397)) (fun _ hk=>hk.2) (.int .u64 t398)) (fun _ hk=>hk.2) (.int .u8 t399)) (fun _ hk=>hk.2) (.string t400)) (fun _ hk=>⟨⟨hk.1.1.1.1,⟨hk.1.1.2,hk.1.2⟩⟩,hk.1.1.1.2⟩)) hg hat);have n2_:=Aside0.mk (Kd.R_over' (by (with_reducible repeat (first|apply Kd.R_alloc|apply Kd.R_drewN|apply Kd.R_drew));exact (Kd.R_mono (Kd.R_far (p:=⟨gb405,3,none⟩) (Kd.R_far (p:=⟨gb405,2,none⟩) (Kd.R_far (p:=⟨gb405,1,none⟩) (Kd.R_far (p:=⟨gb405,0,none⟩) (Kd.R_types HO403.out BK405.out (by decide)) (fun _ hk=>hk.2) (.string t397)) (fun _ hk=>hk.2) (.int .u64 t398)) (fun _ hk=>hk.2) (.int .u8 t399)) (fun _ hk=>hk.2) (.string t400)) (fun _ h_=>h_.1))) (Kd.R_typed (by (with_reducible repeat (first|apply Kd.R_alloc|apply Kd.R_drewN|apply Kd.R_drew));exact (Kd.R_mono (Kd.R_far (p:=⟨gb405,3,none⟩) (Kd.R_far (p:=⟨gb405,2,none⟩) (Kd.R_far (p:=⟨gb405,1,none⟩) (Kd.R_far (p:=⟨gb405,0,none⟩) (Kd.R_mono HO_4.out (fun k_ hk=>(⟨hk,hk.2⟩ : _ ∧ k_ ≠ gb405))) (fun _ hk=>hk.2) (.string t397)) (fun _ hk=>hk.2) (.int .u64 t398)) (fun _ hk=>hk.2) (.int .u8 t399)) (fun _ hk=>hk.2) (.string t400)) (fun _ h_=>h_.1)))) (by decide) hg);have n3_:=Aside0.mk (blk_grown (g:=gb405) (o:=.cells #[.string t397,.int .u64 t398,.int .u8 t399,.string t400] 59 (0,0)) (by (with_reducible repeat (first|refine blk_drewN ?_ _|refine blk_drew ?_|refine blk_alloc ?_ _));refine blk_put (cs:=#[.string t397,.int .u64 t398,.int .u8 t399,.string (⟨#[]⟩ : ByteArray)]) ?_ 3 _ rfl;(with_reducible repeat (first|refine blk_drewN ?_ _|refine blk_drew ?_|refine blk_alloc ?_ _));refine blk_put (cs:=#[.string t397,.int .u64 t398,.int .u8 0,.string (⟨#[]⟩ : ByteArray)]) ?_ 2 _ rfl;(with_reducible repeat (first|refine blk_drewN ?_ _|refine blk_drew ?_|refine blk_alloc ?_ _));refine blk_put (cs:=#[.string t397,.int .u64 0,.int .u8 0,.string (⟨#[]⟩ : ByteArray)]) ?_ 1 _ rfl;(with_reducible repeat (first|refine blk_drewN ?_ _|refine blk_drew ?_|refine blk_alloc ?_ _));refine blk_put (cs:=#[.string (⟨#[]⟩ : ByteArray),.int .u64 0,.int .u8 0,.string (⟨#[]⟩ : ByteArray)]) ?_ 0 _ rfl;(with_reducible repeat (first|refine blk_drewN ?_ _|refine blk_drew ?_|refine blk_alloc ?_ _));exact BK405.out) hg (Kd.R_away HO_4.out (fun _ hk=>hk.2)));have n4_:=Aside0.mk (hb);have n5_:=Aside0.mk (ho);clear HO_0;clear HO_5;clear HO403;clear BK405;clear HB;clear HO_4;have HO_0:=n0_;have HO_5:=n1_;have HO403:=n2_;have BK405:=n3_;have HB:=n4_;have HO408:=n5_;clear n0_ n1_ n2_ n3_ n4_ n5_;clear ho hb hg hat;have hcz17_0 : w16.cell? ⟨gb405,0,none⟩ = some (.string t397):=(blk_cell BK405.out 0).trans rfl;have hcz17_1 : w16.cell? ⟨gb405,1,none⟩ = some (.int .u64 t398):=(blk_cell BK405.out 1).trans rfl;have hcz17_2 : w16.cell? ⟨gb405,2,none⟩ = some (.int .u8 t399):=(blk_cell BK405.out 2).trans rfl;have hcz17_3 : w16.cell? ⟨gb405,3,none⟩ = some (.string t400):=(blk_cell BK405.out 3).trans rfl;have hfz17_0:=blk_frozen BK405.out 0;have hfz17_1:=blk_frozen BK405.out 1;have hfz17_2:=blk_frozen BK405.out 2;have hfz17_3:=blk_frozen BK405.out 3;obtain ⟨Ao18,co18,eo18⟩:=Kd.R_slice HO408.out;subst eo18)|((with_reducible refine gate_callee (f:=23) rfl ?_);refine goesL_ (some 39) rfl rfl Try.func23 (by kernel_rfl) rfl #[.slice Ao18 y406.length co18] rfl (by (try simp only [List.map_toArray,List.map_cons,List.map_nil]);first|done|rfl|(simp only [List.length_drop,List.length_take];rfl)) ?_;(with_reducible refine (ratlineref07_Build.calls kj2 _ _ y406 t409 t410 _ ?side1 ?side2 A9.out).mono ?_);(case side1=>repeat (first|exact (Kd.R_reads' HO408.out).2.2|(with_reducible refine Kd.C_alloc ?_ _)|(with_reducible refine Kd.C_drewN ?_ _)|(with_reducible refine Kd.C_drew ?_)));(case side2=>exact (Kd.R_reads' HO408.out).2.1);rintro e w19 ⟨v411,rfl,ho0,hb⟩;refine ⟨_,rfl,?_⟩;have n0_:=Aside0.mk (Kd.V_elder' (by (with_reducible repeat (first|apply Kd.V_alloc|apply Kd.V_drewN|apply Kd.V_drew));exact HO_0.out) (Kd.R_base ho0) hb);have n1_:=Aside0.mk (Kd.V_elder' (by (with_reducible repeat (first|apply Kd.V_alloc|apply Kd.V_drewN|apply Kd.V_drew));exact HO_5.out) (Kd.R_base ho0) hb);have n2_:=Aside0.mk (Kd.R_elder' (by (with_reducible repeat (first|apply Kd.R_alloc|apply Kd.R_drewN|apply Kd.R_drew));exact HO403.out) (Kd.R_base ho0) hb);have n3_:=Aside0.mk (Kd.R_below (by (with_reducible repeat (first|apply Kd.R_alloc|apply Kd.R_drewN|apply Kd.R_drew));exact HO408.out) hb);have n4_:=Aside0.mk (Kd.R_lower (Kd.R_new' (Kd.R_newM (M:=fun k_=>(w.heap.size ≤ k_)) ho0 (below_size (by repeat (first|(with_reducible first|exact HB.out|apply below_alloc|apply pw_below_drewN|apply below_drew1|refine below_set ?_ GE405.out)|exact HB.out))) (fun k_ h_=>h_)) (Kd.R_lt (by (with_reducible repeat (first|apply Kd.R_alloc|apply Kd.R_drewN|apply Kd.R_drew));exact HO403.out))) (below_size (by repeat (first|(with_reducible first|exact HB.out|apply below_alloc|apply pw_below_drewN|apply below_drew1|refine below_set ?_ GE405.out)|exact HB.out))));have n5_:=Aside0.mk (blk_below (g:=gb405) (o:=.cells #[.string t397,.int .u64 t398,.int .u8 t399,.string t400] 59 (0,0)) (by (with_reducible repeat (first|refine blk_drewN ?_ _|refine blk_drew ?_|refine blk_alloc ?_ _));exact BK405.out) hb);have n6_:=Aside0.mk (below_step (by repeat (first|(with_reducible first|exact HB.out|apply below_alloc|apply pw_below_drewN|apply below_drew1|refine below_set ?_ GE405.out)|exact HB.out)) hb);clear HO_0;clear HO_5;clear HO403;clear HO408;clear BK405;clear HB;have HO_0:=n0_;have HO_5:=n1_;have HO403:=n2_;have HO408:=n3_;have HO412:=n4_;have BK405:=n5_;have HB:=n6_;clear n0_ n1_ n2_ n3_ n4_ n5_ n6_;(try clear hb);(try clear hb2);(try clear hk);(try clear hi);(try clear ho0);have hcv20:=own_string (P:=Try.prog) Try.underlying26 Try.underlying5 Try.underlying9 (Kd.own_of_R HO412.out);have hcv21:=Kd.C_string (P:=Try.prog) (A:=A0) (c:=c0) Try.underlying26 Try.underlying5 Try.underlying9 (Kd.V_reads' HO_0.out).2.2))
          go_ret2
          exact ⟨_,by first|rfl|(simp [errW_none,errW_some] <;> rfl)|(simp [*,errW_none,errW_some] <;> rfl),by (with_reducible repeat (first|apply Kd.R_alloc|apply Kd.R_drewN|apply Kd.R_drew));exact Kd.R_mono HO408.out (fun _ hk=>hk.1),by repeat (first|(with_reducible first|exact HB.out|apply below_alloc|apply pw_below_drewN|apply below_drew1|refine below_set ?_ GE405.out)|exact HB.out)⟩
         ·rw [if_neg c11] at H
          have c11b0 : ((strOfNums t409).toList == (strOfNums l0).toList) = false:=beq_eq_false_iff_ne.mpr c11
          have c11b1 : ((strOfNums t409).toList != (strOfNums l0).toList) = true:=bne_iff_ne.mpr c11
          have H':=Aside0.mk H
          clear H
          obtain ⟨Ao22,co22,eo22⟩:=Kd.V_slice HO_5.out
          subst eo22
          go_wp2_with (first|((with_reducible refine gate_callee (f:=60) rfl ?_);refine goesL_ (some 23) rfl rfl Try.func60 (by kernel_rfl) rfl #[.slice Ao22 x5_1.length co22,.string x6_2] rfl (by (try simp only [List.map_toArray,List.map_cons,List.map_nil]);first|done|rfl|(simp only [List.length_drop,List.length_take];rfl)) ?_;(with_reducible refine (ratlineref07_one.calls kj2 _ _ x5_1 x6_2 t397 t398 t399 t400 t401 true _ ?side1 ?side2 A6.out).mono ?_);(case side1=>repeat (first|exact (Kd.V_reads' HO_5.out).2.2|(with_reducible refine Kd.C_alloc ?_ _)|(with_reducible refine Kd.C_drewN ?_ _)|(with_reducible refine Kd.C_drew ?_)));(case side2=>exact (Kd.V_reads' HO_5.out).2.1);rintro e w23 ⟨v402,rfl,ho0,hb⟩;refine ⟨_,rfl,?_⟩;have n0_:=Aside0.mk (Kd.V_elder' (by (with_reducible repeat (first|apply Kd.V_alloc|apply Kd.V_drewN|apply Kd.V_drew));exact HO_0.out) (Kd.R_base ho0) hb);have n1_:=Aside0.mk (Kd.R_below (by (with_reducible repeat (first|apply Kd.R_alloc|apply Kd.R_drewN|apply Kd.R_drew));exact HO_4.out) hb);have n2_:=Aside0.mk (Kd.V_elder' (by (with_reducible repeat (first|apply Kd.V_alloc|apply Kd.V_drewN|apply Kd.V_drew));exact HO_5.out) (Kd.R_base ho0) hb);have n3_:=Aside0.mk (Kd.R_lower (Kd.R_newM (M:=fun k_=>(w.heap.size ≤ k_)) ho0 (below_size (by repeat (first|(with_reducible first|exact HB.out|apply below_alloc|apply pw_below_drewN|apply below_drew1)|exact HB.out))) (fun k_ h_=>h_)) (below_size (by repeat (first|(with_reducible first|exact HB.out|apply below_alloc|apply pw_below_drewN|apply below_drew1)|exact HB.out))));have n4_:=Aside0.mk (below_step (by repeat (first|(with_reducible first|exact HB.out|apply below_alloc|apply pw_below_drewN|apply below_drew1)|exact HB.out)) hb);clear HO_0;clear HO_4;clear HO_5;clear HB;have HO_0:=n0_;have HO_4:=n1_;have HO_5:=n2_;have HO403:=n3_;have HB:=n4_;clear n0_ n1_ n2_ n3_ n4_;(try clear hb);(try clear hb2);(try clear hk);(try clear hi);(try clear ho0))|((with_reducible refine gate_dst (N:=7) rfl ?_);refine box_event ?hg (N:=7) ?hd (cs:=#[.string (⟨#[]⟩ : ByteArray),.int .u64 0,.int .u8 0,.string (⟨#[]⟩ : ByteArray)]) (t:=59) ?hr ?_;(case hd=>rfl);(case hg=>rfl);(case hr=>first|(go_simp;done)|(go_simp;rfl));intro gb405 hg w24 hbox hb;have n0_:=Aside0.mk (Kd.V_below (Kd.V_elderB (by (with_reducible repeat (first|apply Kd.V_alloc|apply Kd.V_drewN|apply Kd.V_drew));exact HO_0.out) gb405 (Nat.le_of_eq hg.symm)) hb);have n1_:=Aside0.mk (Kd.R_below (Kd.R_elderB (by (with_reducible repeat (first|apply Kd.R_alloc|apply Kd.R_drewN|apply Kd.R_drew));exact HO_4.out) gb405 (Nat.le_of_eq hg.symm)) hb);have n2_:=Aside0.mk (Kd.V_below (Kd.V_elderB (by (with_reducible repeat (first|apply Kd.V_alloc|apply Kd.V_drewN|apply Kd.V_drew));exact HO_5.out) gb405 (Nat.le_of_eq hg.symm)) hb);have n3_:=Aside0.mk (Kd.R_below (by (with_reducible repeat (first|apply Kd.R_alloc|apply Kd.R_drewN|apply Kd.R_drew));exact HO403.out) hb);have n4_:=Aside0.mk (below_step (by repeat (first|(with_reducible first|exact HB.out|apply below_alloc|apply pw_below_drewN|apply below_drew1)|exact HB.out)) hb);have n5_:=Aside0.mk (hbox);have n6_:=Aside0.mk ((by rw [hg];exact (below_size (by repeat (first|(with_reducible first|exact HB.out|apply below_alloc|apply pw_below_drewN|apply below_drew1)|exact HB.out))) : w.heap.size ≤ gb405));have n7_:=Aside0.mk ((by rw [hg];exact (below_size (by repeat (first|(with_reducible first|exact HB.out|apply below_alloc|apply pw_below_drewN|apply below_drew1)|exact HB.out))) : w.heap.size ≤ gb405));clear HO_0;clear HO_4;clear HO_5;clear HO403;clear HB;have HO_0:=n0_;have HO_4:=n1_;have HO_5:=n2_;have HO403:=n3_;have HB:=n4_;have BK405:=n5_;have GW405:=n6_;have GE405:=n7_;clear n0_ n1_ n2_ n3_ n4_ n5_ n6_ n7_;clear hb hbox hg;have hcz25_0 : w24.cell? ⟨gb405,0,none⟩ = some (.string (⟨#[]⟩ : ByteArray)):=(blk_cell BK405.out 0).trans rfl;have hcz25_1 : w24.cell? ⟨gb405,1,none⟩ = some (.int .u64 0):=(blk_cell BK405.out 1).trans rfl;have hcz25_2 : w24.cell? ⟨gb405,2,none⟩ = some (.int .u8 0):=(blk_cell BK405.out 2).trans rfl;have hcz25_3 : w24.cell? ⟨gb405,3,none⟩ = some (.string (⟨#[]⟩ : ByteArray)):=(blk_cell BK405.out 3).trans rfl;have hfz25_0:=blk_frozen BK405.out 0;have hfz25_1:=blk_frozen BK405.out 1;have hfz25_2:=blk_frozen BK405.out 2;have hfz25_3:=blk_frozen BK405.out 3)|((with_reducible refine gate_builtin (b:=.append) (xs:=#[.tmp 29,.tmp 31]) rfl ?_);at_builtin;refine Kd.R_append k59 (w0:=w) w.heap.size rfl (.tmp 29) (.tmp 31) 48 59 (.agg #[(.string ⟨#[]⟩),(.int .u64 0),(.int .u8 0),(.string ⟨#[]⟩)]) 48 rfl Try.underlying48 info59 rfl (by decide) (by omega) (.slice Ao4 x4_1.length co4) x4_1 (⟨(⟨t397,t398,t399⟩ : S50),t400⟩ : S59) [.string t397,.int .u64 t398,.int .u8 t399,.string t400] (fun k_=>(w.heap.size ≤ k_) ∧ k_ ≠ gb405) (fun _=>False) rfl (by first|(go_simp;done)|(go_simp;rfl)) ?aP (fun _ hk=>hk.elim) ?aF ?aO ?aB ?aS ?aL ?_;(case aP=>exact k59_mkM _ _ _ (⟨(⟨t397,t398,t399⟩ : S50),t400⟩ : S59));(case aB=>exact (by repeat (first|(with_reducible first|exact HB.out|apply below_alloc|apply pw_below_drewN|apply below_drew1|refine below_set ?_ GE405.out)|exact HB.out)));(case aF=>exact (fun k_ hk=>⟨(Nat.le_trans (below_size (by repeat (first|(with_reducible first|exact HB.out|apply below_alloc|apply pw_below_drewN|apply below_drew1|refine below_set ?_ GE405.out)|exact HB.out))) hk),Kd.freshB (g:=gb405) (o:=.cells #[.string t397,.int .u64 t398,.int .u8 t399,.string t400] 59 (0,0)) (by (with_reducible repeat (first|refine blk_drewN ?_ _|refine blk_drew ?_|refine blk_alloc ?_ _));refine blk_put (cs:=#[.string t397,.int .u64 t398,.int .u8 t399,.string (⟨#[]⟩ : ByteArray)]) ?_ 3 _ rfl;(with_reducible repeat (first|refine blk_drewN ?_ _|refine blk_drew ?_|refine blk_alloc ?_ _));refine blk_put (cs:=#[.string t397,.int .u64 t398,.int .u8 0,.string (⟨#[]⟩ : ByteArray)]) ?_ 2 _ rfl;(with_reducible repeat (first|refine blk_drewN ?_ _|refine blk_drew ?_|refine blk_alloc ?_ _));refine blk_put (cs:=#[.string t397,.int .u64 0,.int .u8 0,.string (⟨#[]⟩ : ByteArray)]) ?_ 1 _ rfl;(with_reducible repeat (first|refine blk_drewN ?_ _|refine blk_drew ?_|refine blk_alloc ?_ _));refine blk_put (cs:=#[.string (⟨#[]⟩ : ByteArray),.int .u64 0,.int .u8 0,.string (⟨#[]⟩ : ByteArray)]) ?_ 0 _ rfl;(with_reducible repeat (first|refine blk_drewN ?_ _|refine blk_drew ?_|refine blk_alloc ?_ _));exact BK405.out) k_ hk⟩));(case aO=>exact (by (with_reducible repeat (first|apply Kd.R_alloc|apply Kd.R_drewN|apply Kd.R_drew));exact Kd.R_mono (Kd.R_far (p:=⟨gb405,3,none⟩) (Kd.R_far (p:=⟨gb405,2,none⟩) (Kd.R_far (p:=⟨gb405,1,none⟩) (Kd.R_far (p:=⟨gb405,0,none⟩) (Kd.R_mono HO_4.out (fun k_ hk=>(⟨hk,hk.2⟩ : _ ∧ k_ ≠ gb405))) (fun _ hk=>hk.2) (.string t397)) (fun _ hk=>hk.2) (.int .u64 t398)) (fun _ hk=>hk.2) (.int .u8 t399)) (fun _ hk=>hk.2) (.string t400)) (fun _ hk=>⟨hk.1.1,hk.1.2⟩)));(case aS=>exact (below_size (by repeat (first|(with_reducible first|exact HB.out|apply below_alloc|apply pw_below_drewN|apply below_drew1|refine below_set ?_ GE405.out)|exact HB.out))));(case aL=>have:=LMc8.out;omega);intro v407 w26 ho hb hg hat;rw [← Ny406.out] at ho;have n0_:=Aside0.mk (Kd.V_afterv (ok:=(fun k_=>(P0_ k_ ∨ w.heap.size ≤ k_) ∧ some k_ ≠ (v402 : Value).ownBlock ∧ k_ ≠ gb405)) (by (with_reducible repeat (first|apply Kd.V_alloc|apply Kd.V_drewN|apply Kd.V_drew));exact Kd.V_mono (Kd.V_far (p:=⟨gb405,3,none⟩) (Kd.V_far (p:=⟨gb405,2,none⟩) (Kd.V_far (p:=⟨gb405,1,none⟩) (Kd.V_far (p:=⟨gb405,0,none⟩) (Kd.V_mono HO_0.out (fun k_ hk=>(⟨hk,hk.2⟩ : _ ∧ k_ ≠ gb405))) (fun _ hk=>hk.2) (.string t397)) (fun _ hk=>hk.2) (.int .u64 t398)) (fun _ hk=>hk.2) (.int .u8 t399)) (fun _ hk=>hk.2) (.string t400)) (fun _ hk=>⟨⟨hk.1.1.1.1,⟨hk.1.1.2,hk.1.2⟩⟩,hk.1.1.1.2⟩)) hg hat);have n1_:=Aside0.mk (Kd.V_afterv (ok:=(fun k_=>(P0_ k_ ∨ w.heap.size ≤ k_) ∧ some k_ ≠ (v402 : Value).ownBlock ∧ k_ ≠ gb405)) (by (with_reducible repeat (first|apply Kd.V_alloc|apply Kd.V_drewN|apply Kd.V_drew));exact Kd.V_mono (Kd.V_far (p:=⟨gb405,3,none⟩) (Kd.V_far (p:=⟨gb405,2,none⟩) (Kd.V_far (p:=⟨gb405,1,none⟩) (Kd.V_far (p:=⟨gb405,0,none⟩) (Kd.V_mono HO_5.out (fun k_ hk=>(⟨hk,hk.2⟩ : _ ∧ k_ ≠ gb405))) (fun _ hk=>hk.2) (.string t397)) (fun _ hk=>hk.2) (.int .u64 t398)) (fun _ hk=>hk.2) (.int .u8 t399)) (fun _ hk=>hk.2) (.string t400)) (fun _ hk=>⟨⟨hk.1.1.1.1,⟨hk.1.1.2,hk.1.2⟩⟩,hk.1.1.1.2⟩)) hg hat);have n2_:=Aside0.mk (Kd.R_over' (by (with_reducible repeat (first|apply Kd.R_alloc|apply Kd.R_drewN|apply Kd.R_drew));exact (Kd.R_mono (Kd.R_far (p:=⟨gb405,3,none⟩) (Kd.R_far (p:=⟨gb405,2,none⟩) (Kd.R_far (p:=⟨gb405,1,none⟩) (Kd.R_far (p:=⟨gb405,0,none⟩) (Kd.R_types HO403.out BK405.out (by decide)) (fun _ hk=>hk.2) (.string t397)) (fun _ hk=>hk.2) (.int .u64 t398)) (fun _ hk=>hk.2) (.int .u8 t399)) (fun _ hk=>hk.2) (.string t400)) (fun _ h_=>h_.1))) (Kd.R_typed (by (with_reducible repeat (first|apply Kd.R_alloc|apply Kd.R_drewN|apply Kd.R_drew));exact (Kd.R_mono (Kd.R_far (p:=⟨gb405,3,none⟩) (Kd.R_far (p:=⟨gb405,2,none⟩) (Kd.R_far (p:=⟨gb405,1,none⟩) (Kd.R_far (p:=⟨gb405,0,none⟩) (Kd.R_mono HO_4.out (fun k_ hk=>(⟨hk,hk.2⟩ : _ ∧ k_ ≠ gb405))) (fun _ hk=>hk.2) (.string t397)) (fun _ hk=>hk.2) (.int .u64 t398)) (fun _ hk=>hk.2) (.int .u8 t399)) (fun _ hk=>hk.2) (.string t400)) (fun _ h_=>h_.1)))) (by decide) hg);have n3_:=Aside0.mk (blk_grown (g:=gb405) (o:=.cells #[.string t397,.int .u64 t398,.int .u8 t399,.string t400] 59 (0,0)) (by (with_reducible repeat (first|refine blk_drewN ?_ _|refine blk_drew ?_|refine blk_alloc ?_ _));refine blk_put (cs:=#[.string t397,.int .u64 t398,.int .u8 t399,.string (⟨#[]⟩ : ByteArray)]) ?_ 3 _ rfl;(with_reducible repeat (first|refine blk_drewN ?_ _|refine blk_drew ?_|refine blk_alloc ?_ _));refine blk_put (cs:=#[.string t397,.int .u64 t398,.int .u8 0,.string (⟨#[]⟩ : ByteArray)]) ?_ 2 _ rfl;(with_reducible repeat (first|refine blk_drewN ?_ _|refine blk_drew ?_|refine blk_alloc ?_ _));refine blk_put (cs:=#[.string t397,.int .u64 0,.int .u8 0,.string (⟨#[]⟩ : ByteArray)]) ?_ 1 _ rfl;(with_reducible repeat (first|refine blk_drewN ?_ _|refine blk_drew ?_|refine blk_alloc ?_ _));refine blk_put (cs:=#[.string (⟨#[]⟩ : ByteArray),.int .u64 0,.int .u8 0,.string (⟨#[]⟩ : ByteArray)]) ?_ 0 _ rfl;(with_reducible repeat (first|refine blk_drewN ?_ _|refine blk_drew ?_|refine blk_alloc ?_ _));exact BK405.out) hg (Kd.R_away HO_4.out (fun _ hk=>hk.2)));have n4_:=Aside0.mk (hb);have n5_:=Aside0.mk (ho);clear HO_0;clear HO_5;clear HO403;clear BK405;clear HB;clear HO_4;have HO_0:=n0_;have HO_5:=n1_;have HO403:=n2_;have BK405:=n3_;have HB:=n4_;have HO408:=n5_;clear n0_ n1_ n2_ n3_ n4_ n5_;clear ho hb hg hat;have hcz27_0 : w26.cell? ⟨gb405,0,none⟩ = some (.string t397):=(blk_cell BK405.out 0).trans rfl;have hcz27_1 : w26.cell? ⟨gb405,1,none⟩ = some (.int .u64 t398):=(blk_cell BK405.out 1).trans rfl;have hcz27_2 : w26.cell? ⟨gb405,2,none⟩ = some (.int .u8 t399):=(blk_cell BK405.out 2).trans rfl;have hcz27_3 : w26.cell? ⟨gb405,3,none⟩ = some (.string t400):=(blk_cell BK405.out 3).trans rfl;have hfz27_0:=blk_frozen BK405.out 0;have hfz27_1:=blk_frozen BK405.out 1;have hfz27_2:=blk_frozen BK405.out 2;have hfz27_3:=blk_frozen BK405.out 3;obtain ⟨Ao28,co28,eo28⟩:=Kd.R_slice HO408.out;subst eo28)|((with_reducible refine gate_callee (f:=23) rfl ?_);refine goesL_ (some 39) rfl rfl Try.func23 (by kernel_rfl) rfl #[.slice Ao28 y406.length co28] rfl (by (try simp only [List.map_toArray,List.map_cons,List.map_nil]);first|done|rfl|(simp only [List.length_drop,List.length_take];rfl)) ?_;(with_reducible refine (ratlineref07_Build.calls kj2 _ _ y406 t409 t410 _ ?side1 ?side2 A9.out).mono ?_);(case side1=>repeat (first|exact (Kd.R_reads' HO408.out).2.2|(with_reducible refine Kd.C_alloc ?_ _)|(with_reducible refine Kd.C_drewN ?_ _)|(with_reducible refine Kd.C_drew ?_)));(case side2=>exact (Kd.R_reads' HO408.out).2.1);rintro e w29 ⟨v411,rfl,ho0,hb⟩;refine ⟨_,rfl,?_⟩;have n0_:=Aside0.mk (Kd.V_elder' (by (with_reducible repeat (first|apply Kd.V_alloc|apply Kd.V_drewN|apply Kd.V_drew));exact HO_0.out) (Kd.R_base ho0) hb);have n1_:=Aside0.mk (Kd.V_elder' (by (with_reducible repeat (first|apply Kd.V_alloc|apply Kd.V_drewN|apply Kd.V_drew));exact HO_5.out) (Kd.R_base ho0) hb);have n2_:=Aside0.mk (Kd.R_elder' (by (with_reducible repeat (first|apply Kd.R_alloc|apply Kd.R_drewN|apply Kd.R_drew));exact HO403.out) (Kd.R_base ho0) hb);have n3_:=Aside0.mk (Kd.R_below (by (with_reducible repeat (first|apply Kd.R_alloc|apply Kd.R_drewN|apply Kd.R_drew));exact HO408.out) hb);have n4_:=Aside0.mk (Kd.R_lower (Kd.R_new' (Kd.R_newM (M:=fun k_=>(w.heap.size ≤ k_)) ho0 (below_size (by repeat (first|(with_reducible first|exact HB.out|apply below_alloc|apply pw_below_drewN|apply below_drew1|refine below_set ?_ GE405.out)|exact HB.out))) (fun k_ h_=>h_)) (Kd.R_lt (by (with_reducible repeat (first|apply Kd.R_alloc|apply Kd.R_drewN|apply Kd.R_drew));exact HO403.out))) (below_size (by repeat (first|(with_reducible first|exact HB.out|apply below_alloc|apply pw_below_drewN|apply below_drew1|refine below_set ?_ GE405.out)|exact HB.out))));have n5_:=Aside0.mk (blk_below (g:=gb405) (o:=.cells #[.string t397,.int .u64 t398,.int .u8 t399,.string t400] 59 (0,0)) (by (with_reducible repeat (first|refine blk_drewN ?_ _|refine blk_drew ?_|refine blk_alloc ?_ _));exact BK405.out) hb);have n6_:=Aside0.mk (below_step (by repeat (first|(with_reducible first|exact HB.out|apply below_alloc|apply pw_below_drewN|apply below_drew1|refine below_set ?_ GE405.out)|exact HB.out)) hb);clear HO_0;clear HO_5;clear HO403;clear HO408;clear BK405;clear HB;have HO_0:=n0_;have HO_5:=n1_;have HO403:=n2_;have HO408:=n3_;have HO412:=n4_;have BK405:=n5_;have HB:=n6_;clear n0_ n1_ n2_ n3_ n4_ n5_ n6_;(try clear hb);(try clear hb2);(try clear hk);(try clear hi);(try clear ho0);have hcv30:=own_string (P:=Try.prog) Try.underlying26 Try.underlying5 Try.underlying9 (Kd.own_of_R HO412.out);have hcv31:=Kd.C_string (P:=Try.prog) (A:=A0) (c:=c0) Try.underlying26 Try.underlying5 Try.underlying9 (Kd.V_reads' HO_0.out).2.2))
          go_roundg kj2
          case measure=>have:=HK1.out;have:=HJ2.out;omega
          case rel=>exact ⟨(y406),(t401),(t397),(by first|rfl|(simp;done)|(simp [*];done)),H',⟨by have:=HK1.out;have:=HJ2.out;omega⟩,⟨by (with_reducible repeat (first|apply Kd.V_alloc|apply Kd.V_drewN|apply Kd.V_drew));exact Kd.V_mono HO_0.out (fun _ hk=>⟨hk.1.1.1,hk.1.2⟩)⟩,⟨by (with_reducible repeat (first|apply Kd.R_alloc|apply Kd.R_drewN|apply Kd.R_drew));exact Kd.R_mono HO408.out (fun _ hk=>hk.1)⟩,⟨Kd.V_mono (Kd.R_V (by (with_reducible repeat (first|apply Kd.R_alloc|apply Kd.R_drewN|apply Kd.R_drew));exact Kd.R_apart' HO403.out (Kd.R_typed HO408.out) (by decide))) (fun k_ hk=>by first|exact ⟨(.inr (hk.1.1.1)),hk.2⟩|exact ⟨(.inr (hk.1)),hk.2⟩|exact (.inr (hk)))⟩,⟨by repeat (first|(with_reducible first|exact HB.out|apply below_alloc|apply pw_below_drewN|apply below_drew1|refine below_set ?_ GE405.out)|exact HB.out)⟩⟩
        ·rw [if_neg c10] at H
         have c10b0 : (t410 == 0) = false:=beq_eq_false_iff_ne.mpr c10
         have c10b1 : (t410 != 0) = true:=bne_iff_ne.mpr c10
         have H':=Aside0.mk H
         clear H
         obtain ⟨Ao32,co32,eo32⟩:=Kd.V_slice HO_5.out
         subst eo32
         go_wp2_with (first|((with_reducible refine gate_callee (f:=60) rfl ?_);refine goesL_ (some 23) rfl rfl Try.func60 (by kernel_rfl) rfl #[.slice Ao32 x5_1.length co32,.string x6_2] rfl (by (try simp only [List.map_toArray,List.map_cons,List.map_nil]);first|done|rfl|(simp only [List.length_drop,List.length_take];rfl)) ?_;(with_reducible refine (ratlineref07_one.calls kj2 _ _ x5_1 x6_2 t397 t398 t399 t400 t401 true _ ?side1 ?side2 A6.out).mono ?_);(case side1=>repeat (first|exact (Kd.V_reads' HO_5.out).2.2|(with_reducible refine Kd.C_alloc ?_ _)|(with_reducible refine Kd.C_drewN ?_ _)|(with_reducible refine Kd.C_drew ?_)));(case side2=>exact (Kd.V_reads' HO_5.out).2.1);rintro e w33 ⟨v402,rfl,ho0,hb⟩;refine ⟨_,rfl,?_⟩;have n0_:=Aside0.mk (Kd.V_elder' (by (with_reducible repeat (first|apply Kd.V_alloc|apply Kd.V_drewN|apply Kd.V_drew));exact HO_0.out) (Kd.R_base ho0) hb);have n1_:=Aside0.mk (Kd.R_below (by (with_reducible repeat (first|apply Kd.R_alloc|apply Kd.R_drewN|apply Kd.R_drew));exact HO_4.out) hb);have n2_:=Aside0.mk (Kd.V_elder' (by (with_reducible repeat (first|apply Kd.V_alloc|apply Kd.V_drewN|apply Kd.V_drew));exact HO_5.out) (Kd.R_base ho0) hb);have n3_:=Aside0.mk (Kd.R_lower (Kd.R_newM (M:=fun k_=>(w.heap.size ≤ k_)) ho0 (below_size (by repeat (first|(with_reducible first|exact HB.out|apply below_alloc|apply pw_below_drewN|apply below_drew1)|exact HB.out))) (fun k_ h_=>h_)) (below_size (by repeat (first|(with_reducible first|exact HB.out|apply below_alloc|apply pw_below_drewN|apply below_drew1)|exact HB.out))));have n4_:=Aside0.mk (below_step (by repeat (first|(with_reducible first|exact HB.out|apply below_alloc|apply pw_below_drewN|apply below_drew1)|exact HB.out)) hb);clear HO_0;clear HO_4;clear HO_5;clear HB;have HO_0:=n0_;have HO_4:=n1_;have HO_5:=n2_;have HO403:=n3_;have HB:=n4_;clear n0_ n1_ n2_ n3_ n4_;(try clear hb);(try clear hb2);(try clear hk);(try clear hi);(try clear ho0))|((with_reducible refine gate_dst (N:=7) rfl ?_);refine box_event ?hg (N:=7) ?hd (cs:=#[.string (⟨#[]⟩ : ByteArray),.int .u64 0,.int .u8 0,.string (⟨#[]⟩ : ByteArray)]) (t:=59) ?hr ?_;(case hd=>rfl);(case hg=>rfl);(case hr=>first|(go_simp;done)|(go_simp;rfl));intro gb405 hg w34 hbox hb;have n0_:=Aside0.mk (Kd.V_below (Kd.V_elderB (by (with_reducible repeat (first|apply Kd.V_alloc|apply Kd.V_drewN|apply Kd.V_drew));exact HO_0.out) gb405 (Nat.le_of_eq hg.symm)) hb);have n1_:=Aside0.mk (Kd.R_below (Kd.R_elderB (by (with_reducible repeat (first|apply Kd.R_alloc|apply Kd.R_drewN|apply Kd.R_drew));exact HO_4.out) gb405 (Nat.le_of_eq hg.symm)) hb);have n2_:=Aside0.mk (Kd.V_below (Kd.V_elderB (by (with_reducible repeat (first|apply Kd.V_alloc|apply Kd.V_drewN|apply Kd.V_drew));exact HO_5.out) gb405 (Nat.le_of_eq hg.symm)) hb);have n3_:=Aside0.mk (Kd.R_below (by (with_reducible repeat (first|apply Kd.R_alloc|apply Kd.R_drewN|apply Kd.R_drew));exact HO403.out) hb);have n4_:=Aside0.mk (below_step (by repeat (first|(with_reducible first|exact HB.out|apply below_alloc|apply pw_below_drewN|apply below_drew1)|exact HB.out)) hb);have n5_:=Aside0.mk (hbox);have n6_:=Aside0.mk ((by rw [hg];exact (below_size (by repeat (first|(with_reducible first|exact HB.out|apply below_alloc|apply pw_below_drewN|apply below_drew1)|exact HB.out))) : w.heap.size ≤ gb405));have n7_:=Aside0.mk ((by rw [hg];exact (below_size (by repeat (first|(with_reducible first|exact HB.out|apply below_alloc|apply pw_below_drewN|apply below_drew1)|exact HB.out))) : w.heap.size ≤ gb405));clear HO_0;clear HO_4;clear HO_5;clear HO403;clear HB;have HO_0:=n0_;have HO_4:=n1_;have HO_5:=n2_;have HO403:=n3_;have HB:=n4_;have BK405:=n5_;have GW405:=n6_;have GE405:=n7_;clear n0_ n1_ n2_ n3_ n4_ n5_ n6_ n7_;clear hb hbox hg;have hcz35_0 : w34.cell? ⟨gb405,0,none⟩ = some (.string (⟨#[]⟩ : ByteArray)):=(blk_cell BK405.out 0).trans rfl;have hcz35_1 : w34.cell? ⟨gb405,1,none⟩ = some (.int .u64 0):=(blk_cell BK405.out 1).trans rfl;have hcz35_2 : w34.cell? ⟨gb405,2,none⟩ = some (.int .u8 0):=(blk_cell BK405.out 2).trans rfl;have hcz35_3 : w34.cell? ⟨gb405,3,none⟩ = some (.string (⟨#[]⟩ : ByteArray)):=(blk_cell BK405.out 3).trans rfl;have hfz35_0:=blk_frozen BK405.out 0;have hfz35_1:=blk_frozen BK405.out 1;have hfz35_2:=blk_frozen BK405.out 2;have hfz35_3:=blk_frozen BK405.out 3)|((with_reducible refine gate_builtin (b:=.append) (xs:=#[.tmp 29,.tmp 31]) rfl ?_);at_builtin;refine Kd.R_append k59 (w0:=w) w.heap.size rfl (.tmp 29) (.tmp 31) 48 59 (.agg #[(.string ⟨#[]⟩),(.int .u64 0),(.int .u8 0),(.string ⟨#[]⟩)]) 48 rfl Try.underlying48 info59 rfl (by decide) (by omega) (.slice Ao4 x4_1.length co4) x4_1 (⟨(⟨t397,t398,t399⟩ : S50),t400⟩ : S59) [.string t397,.int .u64 t398,.int .u8 t399,.string t400] (fun k_=>(w.heap.size ≤ k_) ∧ k_ ≠ gb405) (fun _=>False) rfl (by first|(go_simp;done)|(go_simp;rfl)) ?aP (fun _ hk=>hk.elim) ?aF ?aO ?aB ?aS ?aL ?_;(case aP=>exact k59_mkM _ _ _ (⟨(⟨t397,t398,t399⟩ : S50),t400⟩ : S59));(case aB=>exact (by repeat (first|(with_reducible first|exact HB.out|apply below_alloc|apply pw_below_drewN|apply below_drew1|refine below_set ?_ GE405.out)|exact HB.out)));(case aF=>exact (fun k_ hk=>⟨(Nat.le_trans (below_size (by repeat (first|(with_reducible first|exact HB.out|apply below_alloc|apply pw_below_drewN|apply below_drew1|refine below_set ?_ GE405.out)|exact HB.out))) hk),Kd.freshB (g:=gb405) (o:=.cells #[.string t397,.int .u64 t398,.int .u8 t399,.string t400] 59 (0,0)) (by (with_reducible repeat (first|refine blk_drewN ?_ _|refine blk_drew ?_|refine blk_alloc ?_ _));refine blk_put (cs:=#[.string t397,.int .u64 t398,.int .u8 t399,.string (⟨#[]⟩ : ByteArray)]) ?_ 3 _ rfl;(with_reducible repeat (first|refine blk_drewN ?_ _|refine blk_drew ?_|refine blk_alloc ?_ _));refine blk_put (cs:=#[.string t397,.int .u64 t398,.int .u8 0,.string (⟨#[]⟩ : ByteArray)]) ?_ 2 _ rfl;(with_reducible repeat (first|refine blk_drewN ?_ _|refine blk_drew ?_|refine blk_alloc ?_ _));refine blk_put (cs:=#[.string t397,.int .u64 0,.int .u8 0,.string (⟨#[]⟩ : ByteArray)]) ?_ 1 _ rfl;(with_reducible repeat (first|refine blk_drewN ?_ _|refine blk_drew ?_|refine blk_alloc ?_ _));refine blk_put (cs:=#[.string (⟨#[]⟩ : ByteArray),.int .u64 0,.int .u8 0,.string (⟨#[]⟩ : ByteArray)]) ?_ 0 _ rfl;(with_reducible repeat (first|refine blk_drewN ?_ _|refine blk_drew ?_|refine blk_alloc ?_ _));exact BK405.out) k_ hk⟩));(case aO=>exact (by (with_reducible repeat (first|apply Kd.R_alloc|apply Kd.R_drewN|apply Kd.R_drew));exact Kd.R_mono (Kd.R_far (p:=⟨gb405,3,none⟩) (Kd.R_far (p:=⟨gb405,2,none⟩) (Kd.R_far (p:=⟨gb405,1,none⟩) (Kd.R_far (p:=⟨gb405,0,none⟩) (Kd.R_mono HO_4.out (fun k_ hk=>(⟨hk,hk.2⟩ : _ ∧ k_ ≠ gb405))) (fun _ hk=>hk.2) (.string t397)) (fun _ hk=>hk.2) (.int .u64 t398)) (fun _ hk=>hk.2) (.int .u8 t399)) (fun _ hk=>hk.2) (.string t400)) (fun _ hk=>⟨hk.1.1,hk.1.2⟩)));(case aS=>exact (below_size (by repeat (first|(with_reducible first|exact HB.out|apply below_alloc|apply pw_below_drewN|apply below_drew1|refine below_set ?_ GE405.out)|exact HB.out))));(case aL=>have:=LMc8.out;omega);intro v407 w36 ho hb hg hat;rw [← Ny406.out] at ho;have n0_:=Aside0.mk (Kd.V_afterv (ok:=(fun k_=>(P0_ k_ ∨ w.heap.size ≤ k_) ∧ some k_ ≠ (v402 : Value).ownBlock ∧ k_ ≠ gb405)) (by (with_reducible repeat (first|apply Kd.V_alloc|apply Kd.V_drewN|apply Kd.V_drew));exact Kd.V_mono (Kd.V_far (p:=⟨gb405,3,none⟩) (Kd.V_far (p:=⟨gb405,2,none⟩) (Kd.V_far (p:=⟨gb405,1,none⟩) (Kd.V_far (p:=⟨gb405,0,none⟩) (Kd.V_mono HO_0.out (fun k_ hk=>(⟨hk,hk.2⟩ : _ ∧ k_ ≠ gb405))) (fun _ hk=>hk.2) (.string t397)) (fun _ hk=>hk.2) (.int .u64 t398)) (fun _ hk=>hk.2) (.int .u8 t399)) (fun _ hk=>hk.2) (.string t400)) (fun _ hk=>⟨⟨hk.1.1.1.1,⟨hk.1.1.2,hk.1.2⟩⟩,hk.1.1.1.2⟩)) hg hat);have n1_:=Aside0.mk (Kd.V_afterv (ok:=(fun k_=>(P0_ k_ ∨ w.heap.size ≤ k_) ∧ some k_ ≠ (v402 : Value).ownBlock ∧ k_ ≠ gb405)) (by (with_reducible repeat (first|apply Kd.V_alloc|apply Kd.V_drewN|apply Kd.V_drew));exact Kd.V_mono (Kd.V_far (p:=⟨gb405,3,none⟩) (Kd.V_far (p:=⟨gb405,2,none⟩) (Kd.V_far (p:=⟨gb405,1,none⟩) (Kd.V_far (p:=⟨gb405,0,none⟩) (Kd.V_mono HO_5.out (fun k_ hk=>(⟨hk,hk.2⟩ : _ ∧ k_ ≠ gb405))) (fun _ hk=>hk.2) (.string t397)) (fun _ hk=>hk.2) (.int .u64 t398)) (fun _ hk=>hk.2) (.int .u8 t399)) (fun _ hk=>hk.2) (.string t400)) (fun _ hk=>⟨⟨hk.1.1.1.1,⟨hk.1.1.2,hk.1.2⟩⟩,hk.1.1.1.2⟩)) hg hat);have n2_:=Aside0.mk (Kd.R_over' (by (with_reducible repeat (first|apply Kd.R_alloc|apply Kd.R_drewN|apply Kd.R_drew));exact (Kd.R_mono (Kd.R_far (p:=⟨gb405,3,none⟩) (Kd.R_far (p:=⟨gb405,2,none⟩) (Kd.R_far (p:=⟨gb405,1,none⟩) (Kd.R_far (p:=⟨gb405,0,none⟩) (Kd.R_types HO403.out BK405.out (by decide)) (fun _ hk=>hk.2) (.string t397)) (fun _ hk=>hk.2) (.int .u64 t398)) (fun _ hk=>hk.2) (.int .u8 t399)) (fun _ hk=>hk.2) (.string t400)) (fun _ h_=>h_.1))) (Kd.R_typed (by (with_reducible repeat (first|apply Kd.R_alloc|apply Kd.R_drewN|apply Kd.R_drew));exact (Kd.R_mono (Kd.R_far (p:=⟨gb405,3,none⟩) (Kd.R_far (p:=⟨gb405,2,none⟩) (Kd.R_far (p:=⟨gb405,1,none⟩) (Kd.R_far (p:=⟨gb405,0,none⟩) (Kd.R_mono HO_4.out (fun k_ hk=>(⟨hk,hk.2⟩ : _ ∧ k_ ≠ gb405))) (fun _ hk=>hk.2) (.string t397)) (fun _ hk=>hk.2) (.int .u64 t398)) (fun _ hk=>hk.2) (.int .u8 t399)) (fun _ hk=>hk.2) (.string t400)) (fun _ h_=>h_.1)))) (by decide) hg);have n3_:=Aside0.mk (blk_grown (g:=gb405) (o:=.cells #[.string t397,.int .u64 t398,.int .u8 t399,.string t400] 59 (0,0)) (by (with_reducible repeat (first|refine blk_drewN ?_ _|refine blk_drew ?_|refine blk_alloc ?_ _));refine blk_put (cs:=#[.string t397,.int .u64 t398,.int .u8 t399,.string (⟨#[]⟩ : ByteArray)]) ?_ 3 _ rfl;(with_reducible repeat (first|refine blk_drewN ?_ _|refine blk_drew ?_|refine blk_alloc ?_ _));refine blk_put (cs:=#[.string t397,.int .u64 t398,.int .u8 0,.string (⟨#[]⟩ : ByteArray)]) ?_ 2 _ rfl;(with_reducible repeat (first|refine blk_drewN ?_ _|refine blk_drew ?_|refine blk_alloc ?_ _));refine blk_put (cs:=#[.string t397,.int .u64 0,.int .u8 0,.string (⟨#[]⟩ : ByteArray)]) ?_ 1 _ rfl;(with_reducible repeat (first|refine blk_drewN ?_ _|refine blk_drew ?_|refine blk_alloc ?_ _));refine blk_put (cs:=#[.string (⟨#[]⟩ : ByteArray),.int .u64 0,.int .u8 0,.string (⟨#[]⟩ : ByteArray)]) ?_ 0 _ rfl;(with_reducible repeat (first|refine blk_drewN ?_ _|refine blk_drew ?_|refine blk_alloc ?_ _));exact BK405.out) hg (Kd.R_away HO_4.out (fun _ hk=>hk.2)));have n4_:=Aside0.mk (hb);have n5_:=Aside0.mk (ho);clear HO_0;clear HO_5;clear HO403;clear BK405;clear HB;clear HO_4;have HO_0:=n0_;have HO_5:=n1_;have HO403:=n2_;have BK405:=n3_;have HB:=n4_;have HO408:=n5_;clear n0_ n1_ n2_ n3_ n4_ n5_;clear ho hb hg hat;have hcz37_0 : w36.cell? ⟨gb405,0,none⟩ = some (.string t397):=(blk_cell BK405.out 0).trans rfl;have hcz37_1 : w36.cell? ⟨gb405,1,none⟩ = some (.int .u64 t398):=(blk_cell BK405.out 1).trans rfl;have hcz37_2 : w36.cell? ⟨gb405,2,none⟩ = some (.int .u8 t399):=(blk_cell BK405.out 2).trans rfl;have hcz37_3 : w36.cell? ⟨gb405,3,none⟩ = some (.string t400):=(blk_cell BK405.out 3).trans rfl;have hfz37_0:=blk_frozen BK405.out 0;have hfz37_1:=blk_frozen BK405.out 1;have hfz37_2:=blk_frozen BK405.out 2;have hfz37_3:=blk_frozen BK405.out 3;obtain ⟨Ao38,co38,eo38⟩:=Kd.R_slice HO408.out;subst eo38)|((with_reducible refine gate_callee (f:=23) rfl ?_);refine goesL_ (some 39) rfl rfl Try.func23 (by kernel_rfl) rfl #[.slice Ao38 y406.length co38] rfl (by (try simp only [List.map_toArray,List.map_cons,List.map_nil]);first|done|rfl|(simp only [List.length_drop,List.length_take];rfl)) ?_;(with_reducible refine (ratlineref07_Build.calls kj2 _ _ y406 t409 t410 _ ?side1 ?side2 A9.out).mono ?_);(case side1=>repeat (first|exact (Kd.R_reads' HO408.out).2.2|(with_reducible refine Kd.C_alloc ?_ _)|(with_reducible refine Kd.C_drewN ?_ _)|(with_reducible refine Kd.C_drew ?_)));(case side2=>exact (Kd.R_reads' HO408.out).2.1);rintro e w39 ⟨v411,rfl,ho0,hb⟩;refine ⟨_,rfl,?_⟩;have n0_:=Aside0.mk (Kd.V_elder' (by (with_reducible repeat (first|apply Kd.V_alloc|apply Kd.V_drewN|apply Kd.V_drew));exact HO_0.out) (Kd.R_base ho0) hb);have n1_:=Aside0.mk (Kd.V_elder' (by (with_reducible repeat (first|apply Kd.V_alloc|apply Kd.V_drewN|apply Kd.V_drew));exact HO_5.out) (Kd.R_base ho0) hb);have n2_:=Aside0.mk (Kd.R_elder' (by (with_reducible repeat (first|apply Kd.R_alloc|apply Kd.R_drewN|apply Kd.R_drew));exact HO403.out) (Kd.R_base ho0) hb);have n3_:=Aside0.mk (Kd.R_below (by (with_reducible repeat (first|apply Kd.R_alloc|apply Kd.R_drewN|apply Kd.R_drew));exact HO408.out) hb);have n4_:=Aside0.mk (Kd.R_lower (Kd.R_new' (Kd.R_newM (M:=fun k_=>(w.heap.size ≤ k_)) ho0 (below_size (by repeat (first|(with_reducible first|exact HB.out|apply below_alloc|apply pw_below_drewN|apply below_drew1|refine below_set ?_ GE405.out)|exact HB.out))) (fun k_ h_=>h_)) (Kd.R_lt (by (with_reducible repeat (first|apply Kd.R_alloc|apply Kd.R_drewN|apply Kd.R_drew));exact HO403.out))) (below_size (by repeat (first|(with_reducible first|exact HB.out|apply below_alloc|apply pw_below_drewN|apply below_drew1|refine below_set ?_ GE405.out)|exact HB.out))));have n5_:=Aside0.mk (blk_below (g:=gb405) (o:=.cells #[.string t397,.int .u64 t398,.int .u8 t399,.string t400] 59 (0,0)) (by (with_reducible repeat (first|refine blk_drewN ?_ _|refine blk_drew ?_|refine blk_alloc ?_ _));exact BK405.out) hb);have n6_:=Aside0.mk (below_step (by repeat (first|(with_reducible first|exact HB.out|apply below_alloc|apply pw_below_drewN|apply below_drew1|refine below_set ?_ GE405.out)|exact HB.out)) hb);clear HO_0;clear HO_5;clear HO403;clear HO408;clear BK405;clear HB;have HO_0:=n0_;have HO_5:=n1_;have HO403:=n2_;have HO408:=n3_;have HO412:=n4_;have BK405:=n5_;have HB:=n6_;clear n0_ n1_ n2_ n3_ n4_ n5_ n6_;(try clear hb);(try clear hb2);(try clear hk);(try clear hi);(try clear ho0)))
         go_roundg kj2
         case measure=>have:=HK1.out;have:=HJ2.out;omega
         case rel=>exact ⟨(y406),(t401),(t397),(by first|rfl|(simp;done)|(simp [*];done)),H',⟨by have:=HK1.out;have:=HJ2.out;omega⟩,⟨by (with_reducible repeat (first|apply Kd.V_alloc|apply Kd.V_drewN|apply Kd.V_drew));exact Kd.V_mono HO_0.out (fun _ hk=>⟨hk.1.1.1,hk.1.2⟩)⟩,⟨by (with_reducible repeat (first|apply Kd.R_alloc|apply Kd.R_drewN|apply Kd.R_drew));exact Kd.R_mono HO408.out (fun _ hk=>hk.1)⟩,⟨Kd.V_mono (Kd.R_V (by (with_reducible repeat (first|apply Kd.R_alloc|apply Kd.R_drewN|apply Kd.R_drew));exact Kd.R_apart' HO403.out (Kd.R_typed HO408.out) (by decide))) (fun k_ hk=>by first|exact ⟨(.inr (hk.1.1.1)),hk.2⟩|exact ⟨(.inr (hk.1)),hk.2⟩|exact (.inr (hk)))⟩,⟨by repeat (first|(with_reducible first|exact HB.out|apply below_alloc|apply pw_below_drewN|apply below_drew1|refine below_set ?_ GE405.out)|exact HB.out)⟩⟩
       ·rw [if_neg c8] at H
        exact absurd H (by simp)
      ·replace c7:=Bool.eq_false_iff.mpr c7
       subst c7
       have H1 : (some (([] : List (S59)),70)) = some (r1,r2):=by rw [if_neg (show ¬ (false = true) by decide)] at H;exact H
       clear H
       have H:=H1
       clear H1
       simp only [Option.some.injEq,Prod.mk.injEq] at H
       obtain ⟨rfl,rfl⟩:=H
       obtain ⟨Ao40,co40,eo40⟩:=Kd.V_slice HO_5.out
       subst eo40
       go_wp2_with (first|((with_reducible refine gate_callee (f:=60) rfl ?_);refine goesL_ (some 23) rfl rfl Try.func60 (by kernel_rfl) rfl #[.slice Ao40 x5_1.length co40,.string x6_2] rfl (by (try simp only [List.map_toArray,List.map_cons,List.map_nil]);first|done|rfl|(simp only [List.length_drop,List.length_take];rfl)) ?_;(with_reducible refine (ratlineref07_one.calls kj2 _ _ x5_1 x6_2 t397 t398 t399 t400 t401 false _ ?side1 ?side2 A6.out).mono ?_);(case side1=>repeat (first|exact (Kd.V_reads' HO_5.out).2.2|(with_reducible refine Kd.C_alloc ?_ _)|(with_reducible refine Kd.C_drewN ?_ _)|(with_reducible refine Kd.C_drew ?_)));(case side2=>exact (Kd.V_reads' HO_5.out).2.1);rintro e w41 ⟨v402,rfl,ho0,hb⟩;refine ⟨_,rfl,?_⟩;have n0_:=Aside0.mk (Kd.V_elder' (by (with_reducible repeat (first|apply Kd.V_alloc|apply Kd.V_drewN|apply Kd.V_drew));exact HO_0.out) (Kd.R_base ho0) hb);have n1_:=Aside0.mk (Kd.R_below (by (with_reducible repeat (first|apply Kd.R_alloc|apply Kd.R_drewN|apply Kd.R_drew));exact HO_4.out) hb);have n2_:=Aside0.mk (Kd.V_elder' (by (with_reducible repeat (first|apply Kd.V_alloc|apply Kd.V_drewN|apply Kd.V_drew));exact HO_5.out) (Kd.R_base ho0) hb);have n3_:=Aside0.mk (Kd.R_lower (Kd.R_newM (M:=fun k_=>(w.heap.size ≤ k_)) ho0 (below_size (by repeat (first|(with_reducible first|exact HB.out|apply below_alloc|apply pw_below_drewN|apply below_drew1)|exact HB.out))) (fun k_ h_=>h_)) (below_size (by repeat (first|(with_reducible first|exact HB.out|apply below_alloc|apply pw_below_drewN|apply below_drew1)|exact HB.out))));have n4_:=Aside0.mk (below_step (by repeat (first|(with_reducible first|exact HB.out|apply below_alloc|apply pw_below_drewN|apply below_drew1)|exact HB.out)) hb);clear HO_0;clear HO_4;clear HO_5;clear HB;have HO_0:=n0_;have HO_4:=n1_;have HO_5:=n2_;have HO403:=n3_;have HB:=n4_;clear n0_ n1_ n2_ n3_ n4_;(try clear hb);(try clear hb2);(try clear hk);(try clear hi);(try clear ho0))|((with_reducible refine gate_dst (N:=7) rfl ?_);refine box_event ?hg (N:=7) ?hd (cs:=#[.string (⟨#[]⟩ : ByteArray),.int .u64 0,.int .u8 0,.string (⟨#[]⟩ : ByteArray)]) (t:=59) ?hr ?_;(case hd=>rfl);(case hg=>rfl);(case hr=>first|(go_simp;done)|(go_simp;rfl));intro gb405 hg w42 hbox hb;have n0_:=Aside0.mk (Kd.V_below (Kd.V_elderB (by (with_reducible repeat (first|apply Kd.V_alloc|apply Kd.V_drewN|apply Kd.V_drew));exact HO_0.out) gb405 (Nat.le_of_eq hg.symm)) hb);have n1_:=Aside0.mk (Kd.R_below (Kd.R_elderB (by (with_reducible repeat (first|apply Kd.R_alloc|apply Kd.R_drewN|apply Kd.R_drew));exact HO_4.out) gb405 (Nat.le_of_eq hg.symm)) hb);have n2_:=Aside0.mk (Kd.V_below (Kd.V_elderB (by (with_reducible repeat (first|apply Kd.V_alloc|apply Kd.V_drewN|apply Kd.V_drew));exact HO_5.out) gb405 (Nat.le_of_eq hg.symm)) hb);have n3_:=Aside0.mk (Kd.R_below (by (with_reducible repeat (first|apply Kd.R_alloc|apply Kd.R_drewN|apply Kd.R_drew));exact HO403.out) hb);have n4_:=Aside0.mk (below_step (by repeat (first|(with_reducible first|exact HB.out|apply below_alloc|apply pw_below_drewN|apply below_drew1)|exact HB.out)) hb);have n5_:=Aside0.mk (hbox);have n6_:=Aside0.mk ((by rw [hg];exact (below_size (by repeat (first|(with_reducible first|exact HB.out|apply below_alloc|apply pw_below_drewN|apply below_drew1)|exact HB.out))) : w.heap.size ≤ gb405));have n7_:=Aside0.mk ((by rw [hg];exact (below_size (by repeat (first|(with_reducible first|exact HB.out|apply below_alloc|apply pw_below_drewN|apply below_drew1)|exact HB.out))) : w.heap.size ≤ gb405));clear HO_0;clear HO_4;clear HO_5;clear HO403;clear HB;have HO_0:=n0_;have HO_4:=n1_;have HO_5:=n2_;have HO403:=n3_;have HB:=n4_;have BK405:=n5_;have GW405:=n6_;have GE405:=n7_;clear n0_ n1_ n2_ n3_ n4_ n5_ n6_ n7_;clear hb hbox hg;have hcz43_0 : w42.cell? ⟨gb405,0,none⟩ = some (.string (⟨#[]⟩ : ByteArray)):=(blk_cell BK405.out 0).trans rfl;have hcz43_1 : w42.cell? ⟨gb405,1,none⟩ = some (.int .u64 0):=(blk_cell BK405.out 1).trans rfl;have hcz43_2 : w42.cell? ⟨gb405,2,none⟩ = some (.int .u8 0):=(blk_cell BK405.out 2).trans rfl;have hcz43_3 : w42.cell? ⟨gb405,3,none⟩ = some (.string (⟨#[]⟩ : ByteArray)):=(blk_cell BK405.out 3).trans rfl;have hfz43_0:=blk_frozen BK405.out 0;have hfz43_1:=blk_frozen BK405.out 1;have hfz43_2:=blk_frozen BK405.out 2;have hfz43_3:=blk_frozen BK405.out 3))
       go_ret2
       exact ⟨_,by first|rfl|(simp [errW_none,errW_some] <;> rfl)|(simp [*,errW_none,errW_some] <;> rfl),by first|exact Kd.R_nil _ _ _ _ _|exact Kd.N_nil _ _ _ _ _|exact Kd.V_nil _ _ _ _ _|exact Kd.Q_nil _ _ _ _ _|exact Kd.S_nil _ _ _ _ _,by repeat (first|(with_reducible first|exact HB.out|apply below_alloc|apply pw_below_drewN|apply below_drew1|refine below_set ?_ GE405.out)|exact HB.out)⟩
   ·rw [if_neg c2] at H
    have c2b0 : decide ((x4_1.length : Int) < 64) = false:=decide_eq_false c2
    have c2b1 : decide (x4_1.length < 64) = false:=decide_eq_false (by omega)
    clear c2
    simp only [Option.some.injEq,Prod.mk.injEq] at H
    obtain ⟨rfl,rfl⟩:=H
    obtain ⟨Ao44,co44,eo44⟩:=Kd.R_slice HO_4.out
    subst eo44
    go_wp2
    go_ret2
    exact ⟨_,by first|rfl|(simp [errW_none,errW_some] <;> rfl)|(simp [*,errW_none,errW_some] <;> rfl),by first|exact Kd.R_nil _ _ _ _ _|exact Kd.N_nil _ _ _ _ _|exact Kd.V_nil _ _ _ _ _|exact Kd.Q_nil _ _ _ _ _|exact Kd.S_nil _ _ _ _ _,by repeat (first|(with_reducible first|exact HB.out|apply below_alloc|apply pw_below_drewN|apply below_drew1)|exact HB.out)⟩

end Go.Proofs.Ytjcjfghcahbbmaa.P

end

section
namespace Go.Proofs.Ytjcjfghcahbbmaa.P
open Go.RowKit Go.Proofs.YtjcjfghcahbbmaaG Go.Proofs.YtjcjfghcahbbmaaW.PrintWords Go.Proofs.YtjcjfghcahbbmaaW.PrintLast Go.Proofs.YtjcjfghcahbbmaaW.PrintMore
attribute [local go_sem] str_gtr str_geq str_leq max2_int min2_int max_two min_two max_three min_three max_four min_four   -- for this text's walks alone
set_option linter.unusedVariables false
set_option linter.unusedSimpArgs false

def ratlineref07_Seek.l0 : Nat → List (S59) → Int → ByteArray → Int → Int → Option (ByteArray × Int × Int × ByteArray × Bool × Int)
 | 0,_,_,_,_,_=>none
 | k + 1,x7,x9,x414000,x414001,x414002=>if x9 < (x7.length : Int) then (if 0 ≤ x9 then ((ratlineref03_Compare.f ((rd_T59 x7 x9).f0.f0) ((rd_T59 x7 x9).f0.f1) ((rd_T59 x7 x9).f0.f2) x414000 x414001 x414002).bind fun t420=>(if t420 ≥ 0 then (some ((rd_T59 x7 x9).f0.f0,(rd_T59 x7 x9).f0.f1,(rd_T59 x7 x9).f0.f2,(rd_T59 x7 x9).f1,true,0)) else (ratlineref07_Seek.l0 k x7 (wrap64 (x9 + 1)) x414000 x414001 x414002))) else (none)) else (some ((⟨#[]⟩ : ByteArray),0,0,(⟨#[]⟩ : ByteArray),false,0))
def ratlineref07_Seek.f (k : Nat) (l0 : List Int) (a1_0 : ByteArray) (a1_1 : Int) (a1_2 : Int) : Option (ByteArray × Int × Int × ByteArray × Bool × Int):=(ratlineref07_Parse.f k l0).bind fun bt415=>(if bt415.2 = 0 then (ratlineref07_Seek.l0 k bt415.1 0 a1_0 a1_1 a1_2) else (some ((⟨#[]⟩ : ByteArray),0,0,(⟨#[]⟩ : ByteArray),false,bt415.2)))
def ratlineref07_Seek.T7 : Bool × List (List Nat × List Nat):=(true,[([],[]),([],[]),([0,1],[0,1]),([2],[2]),([3],[3]),([],[]),([4,5],[4,5]),([6],[6])])
def ratlineref07_Seek.B7 : List Nat:=[0,0,3,7,15,0,63,127]
theorem ratlineref07_Seek.tab7 : rtab .any (opsOf Try.f29 7) = ratlineref07_Seek.T7:=by kernel_rfl
theorem ratlineref07_Seek.bits7 : waitsOk ratlineref07_Seek.T7.2 ratlineref07_Seek.B7 = true:=by kernel_rfl
set_option maxHeartbeats 8000000 in
set_option maxRecDepth 100000 in
theorem ratlineref07_Seek.calls (k : Nat) (A0 : Option Addr) (c0 : Nat) (l0 : List Int) (a1_0 : ByteArray) (a1_1 : Int) (a1_2 : Int) (r1 : ByteArray) (r2 : Int) (r3 : Int) (r4 : ByteArray) (r5 : Bool) (r6 : Int) (w : World) (hr0 : Kd.C (Kd.int .u8) w A0 l0.length l0) (hc0 : l0.length ≤ c0) (h : ratlineref07_Seek.f k l0 a1_0 a1_1 a1_2 = some (r1,r2,r3,r4,r5,r6)) :
  Calls Try.prog 29 #[.slice A0 l0.length c0,.agg #[.string a1_0,.int .u64 a1_1,.int .u8 a1_2]] w fun e w'=>e = .returned (.tuple #[.agg #[.string r1,.int .u64 r2,.int .u8 r3,.string r4],.bool r5,.int .i64 r6]) ∧ Below w.heap.size w w':=by
 have hu50:=Try.underlying50
 have hu59:=Try.underlying59
 have HR0:=Aside0.mk hr0
 have HC0:=Aside0.mk hc0
 clear hr0 hc0
 have HB:=Aside0.mk (Below.refl w.heap.size w)
 have H : ((ratlineref07_Parse.f k l0).bind fun bt415=>(if bt415.2 = 0 then (ratlineref07_Seek.l0 k bt415.1 0 a1_0 a1_1 a1_2) else (some ((⟨#[]⟩ : ByteArray),0,0,(⟨#[]⟩ : ByteArray),false,bt415.2)))) = some (r1,r2,r3,r4,r5,r6):=h
 clear h
 replace H:=Option.bind_eq_some_iff.mp H
 obtain ⟨⟨t415,t418⟩,A30,H⟩:=H
 replace H : (if t418 = 0 then (ratlineref07_Seek.l0 k t415 0 a1_0 a1_1 a1_2) else (some ((⟨#[]⟩ : ByteArray),0,0,(⟨#[]⟩ : ByteArray),false,t418))) = some (r1,r2,r3,r4,r5,r6):=H
 have A3:=Aside0.mk A30
 clear A30
 by_cases c4 : t418 = 0
 ·rw [if_pos c4] at H
  have c4b0 : (t418 == 0) = true:=beq_iff_eq.mpr c4
  have c4b1 : (t418 != 0) = false:=bne_eq_false_iff_eq.mpr c4
  clear c4
  have H':=Aside0.mk H
  clear H
  go_enter Try.func29,Try.ntmps29
  go_wp2_with (first|((with_reducible refine gate_dst (N:=3) rfl ?_);refine box_event ?hg (N:=3) ?hd (cs:=#[.string a1_0,.int .u64 a1_1,.int .u8 a1_2]) (t:=50) ?hr ?_;(case hd=>rfl);(case hg=>rfl);(case hr=>first|(go_simp;done)|(go_simp;rfl));intro gb413 hg w5 hbox hb;have n0_:=Aside0.mk (below_step (by repeat (first|(with_reducible first|exact HB.out|apply below_alloc|apply pw_below_drewN|apply below_drew1)|exact HB.out)) hb);have n1_:=Aside0.mk (hbox);have n2_:=Aside0.mk ((by rw [hg];exact (below_size (by repeat (first|(with_reducible first|exact HB.out|apply below_alloc|apply pw_below_drewN|apply below_drew1)|exact HB.out))) : w.heap.size ≤ gb413));have n3_:=Aside0.mk ((by rw [hg];exact (below_size (by repeat (first|(with_reducible first|exact HB.out|apply below_alloc|apply pw_below_drewN|apply below_drew1)|exact HB.out))) : w.heap.size ≤ gb413));clear HB;have HB:=n0_;have BK413:=n1_;have GW413:=n2_;have GE413:=n3_;clear n0_ n1_ n2_ n3_;clear hb hbox hg)|((with_reducible refine gate_dst (N:=4) rfl ?_);refine box_event ?hg (N:=4) ?hd (cs:=#[.string (⟨#[]⟩ : ByteArray),.int .u64 0,.int .u8 0,.string (⟨#[]⟩ : ByteArray)]) (t:=59) ?hr ?_;(case hd=>rfl);(case hg=>rfl);(case hr=>first|(go_simp;done)|(go_simp;rfl));intro gb414 hg w6 hbox hb;have n0_:=Aside0.mk (blk_below (g:=gb413) (o:=.cells #[.string a1_0,.int .u64 a1_1,.int .u8 a1_2] 50 (0,0)) (by (with_reducible repeat (first|refine blk_drewN ?_ _|refine blk_drew ?_|refine blk_alloc ?_ _));exact BK413.out) hb);have n1_:=Aside0.mk (below_step (by repeat (first|(with_reducible first|exact HB.out|apply below_alloc|apply pw_below_drewN|apply below_drew1|refine below_set ?_ GE413.out)|exact HB.out)) hb);have n2_:=Aside0.mk (hbox);have n3_:=Aside0.mk ((by rw [hg];exact (below_size (by repeat (first|(with_reducible first|exact HB.out|apply below_alloc|apply pw_below_drewN|apply below_drew1|refine below_set ?_ GE413.out)|exact HB.out))) : w.heap.size ≤ gb414));have n4_:=Aside0.mk ((by rw [hg];exact (below_size (by repeat (first|(with_reducible first|exact HB.out|apply below_alloc|apply pw_below_drewN|apply below_drew1|refine below_set ?_ GE413.out)|exact HB.out))) : w.heap.size ≤ gb414));have n5_:=Aside0.mk ((by rw [hg];exact Nat.ne_of_lt (blk_lt (g:=gb413) (o:=.cells #[.string a1_0,.int .u64 a1_1,.int .u8 a1_2] 50 (0,0)) (by (with_reducible repeat (first|refine blk_drewN ?_ _|refine blk_drew ?_|refine blk_alloc ?_ _));exact BK413.out)) : gb413 ≠ gb414));have n6_:=Aside0.mk ((by rw [hg];exact Nat.ne_of_gt (blk_lt (g:=gb413) (o:=.cells #[.string a1_0,.int .u64 a1_1,.int .u8 a1_2] 50 (0,0)) (by (with_reducible repeat (first|refine blk_drewN ?_ _|refine blk_drew ?_|refine blk_alloc ?_ _));exact BK413.out)) : gb414 ≠ gb413));clear BK413;clear HB;have BK413:=n0_;have HB:=n1_;have BK414:=n2_;have GW414:=n3_;have GE414:=n4_;have NB413_414:=n5_;have NB414_413:=n6_;clear n0_ n1_ n2_ n3_ n4_ n5_ n6_;clear hb hbox hg)|((with_reducible refine gate_callee (f:=25) rfl ?_);refine goesL_ (some 12) rfl rfl Try.func25 (by kernel_rfl) rfl #[.slice A0 l0.length c0] rfl (by (try simp only [List.map_toArray,List.map_cons,List.map_nil]);first|done|rfl|(simp only [List.length_drop,List.length_take];rfl)) ?_;(with_reducible refine (ratlineref07_Parse.calls k (fun k_=>k_ < w.heap.size) _ _ l0 t415 t418 _ ?side1 A3.out).mono ?_);(case side1=>exact Kd.V_mk HC0.out (Kd.F_below (Kd.C_F (Kd.heap_int .u8) HR0.out) (by repeat (first|(with_reducible first|exact HB.out|apply below_alloc|apply pw_below_drewN|apply below_drew1|refine below_set ?_ GE413.out|refine below_set ?_ GE414.out)|exact HB.out))));rintro e w7 ⟨v416,rfl,ho0,hb⟩;refine ⟨_,rfl,?_⟩;have n0_:=Aside0.mk (Kd.R_lower (Kd.R_newB (Kd.R_mono (ok':=fun k_=>True) ho0 (fun _ hk_=>trivial)) (g:=gb414) (o:=.cells #[.string (⟨#[]⟩ : ByteArray),.int .u64 0,.int .u8 0,.string (⟨#[]⟩ : ByteArray)] 59 (0,0)) (by (with_reducible repeat (first|refine blk_drewN ?_ _|refine blk_drew ?_|refine blk_alloc ?_ _));exact BK414.out)) (below_size (by repeat (first|(with_reducible first|exact HB.out|apply below_alloc|apply pw_below_drewN|apply below_drew1|refine below_set ?_ GE413.out|refine below_set ?_ GE414.out)|exact HB.out))));have n1_:=Aside0.mk (blk_below (g:=gb413) (o:=.cells #[.string a1_0,.int .u64 a1_1,.int .u8 a1_2] 50 (0,0)) (by (with_reducible repeat (first|refine blk_drewN ?_ _|refine blk_drew ?_|refine blk_alloc ?_ _));exact BK413.out) hb);have n2_:=Aside0.mk (blk_below (g:=gb414) (o:=.cells #[.string (⟨#[]⟩ : ByteArray),.int .u64 0,.int .u8 0,.string (⟨#[]⟩ : ByteArray)] 59 (0,0)) (by (with_reducible repeat (first|refine blk_drewN ?_ _|refine blk_drew ?_|refine blk_alloc ?_ _));exact BK414.out) hb);have n3_:=Aside0.mk (below_step (by repeat (first|(with_reducible first|exact HB.out|apply below_alloc|apply pw_below_drewN|apply below_drew1|refine below_set ?_ GE413.out|refine below_set ?_ GE414.out)|exact HB.out)) hb);clear BK413;clear BK414;clear HB;have HO417:=n0_;have BK413:=n1_;have BK414:=n2_;have HB:=n3_;clear n0_ n1_ n2_ n3_;(try clear hb);(try clear hb2);(try clear hk);(try clear hi);(try clear ho0)))
  go_loopg [9] k (fun kq v9 w'=>∃ (x9_1 : Int) (x415000_1 : ByteArray) (x415001_1 : Int) (x415002_1 : Int) (x415003_1 : ByteArray),v9 = .int .i64 x9_1 ∧ Aside0 (ratlineref07_Seek.l0 kq t415 x9_1 a1_0 a1_1 a1_2 = some (r1,r2,r3,r4,r5,r6)) ∧ Aside0 (kq ≤ k) ∧ Aside0 (Kd.R k59 59 w' w.heap.size (fun k_=>k_ ≠ gb414) v416 t415) ∧ Aside0 (w'.heap[gb413]? = some (.cells #[.string a1_0,.int .u64 a1_1,.int .u8 a1_2] 50 (0,0))) ∧ Aside0 (w'.heap[gb414]? = some (.cells #[.string x415000_1,.int .u64 x415001_1,.int .u8 x415002_1,.string x415003_1] 59 (0,0))) ∧ Aside0 (Below w.heap.size w w'))
  case atStart=>exact ⟨(0),((⟨#[]⟩ : ByteArray)),(0),(0),((⟨#[]⟩ : ByteArray)),(by first|rfl|(simp;done)|(simp [*];done)),H',⟨Nat.le_refl _⟩,⟨by (with_reducible repeat (first|apply Kd.R_alloc|apply Kd.R_drewN|apply Kd.R_drew));exact Kd.R_mono HO417.out (fun _ hk=>hk.2)⟩,⟨by (with_reducible repeat (first|refine blk_drewN ?_ _|refine blk_drew ?_|refine blk_alloc ?_ _));exact BK413.out⟩,⟨by (with_reducible repeat (first|refine blk_drewN ?_ _|refine blk_drew ?_|refine blk_alloc ?_ _));exact BK414.out⟩,⟨by repeat (first|(with_reducible first|exact HB.out|apply below_alloc|apply pw_below_drewN|apply below_drew1|refine below_set ?_ GE413.out|refine below_set ?_ GE414.out)|exact HB.out)⟩⟩
  case round =>
   clear H'
   try clear c2
   try clear p2
   try clear c4
   try clear c4b0
   try clear c4b1
   obtain ⟨x9_1,x415000_1,x415001_1,x415002_1,x415003_1,rfl,HA,HK1,HO_7,BK413,BK414,HB⟩:=hrel
   cases gk with
   | zero=>exact absurd HA.out (by simp [ratlineref07_Seek.l0])
   | succ k1 =>
    have H:=HA.out
    clear HA
    simp only [ratlineref07_Seek.l0] at H
    by_cases c8 : x9_1 < (t415.length : Int)
    ·rw [if_pos c8] at H
     have c8b0 : decide (x9_1 < (t415.length : Int)) = true:=decide_eq_true c8
     clear c8
     by_cases c9 : 0 ≤ x9_1
     ·rw [if_pos c9] at H
      have c9b0 : decide (0 ≤ x9_1) = true:=decide_eq_true c9
      clear c9
      replace H:=Option.bind_eq_some_iff.mp H
      obtain ⟨t420,A100,H⟩:=H
      replace H : (if t420 ≥ 0 then (some ((rd_T59 t415 x9_1).f0.f0,(rd_T59 t415 x9_1).f0.f1,(rd_T59 t415 x9_1).f0.f2,(rd_T59 t415 x9_1).f1,true,0)) else (ratlineref07_Seek.l0 k1 t415 (wrap64 (x9_1 + 1)) a1_0 a1_1 a1_2)) = some (r1,r2,r3,r4,r5,r6):=H
      have A10:=Aside0.mk A100
      clear A100
      by_cases c11 : t420 ≥ 0
      ·rw [if_pos c11] at H
       have c11b0 : decide (0 ≤ t420) = true:=decide_eq_true c11
       clear c11
       simp only [Option.some.injEq,Prod.mk.injEq] at H
       obtain ⟨rfl,rfl,rfl,rfl,rfl,rfl⟩:=H
       obtain ⟨Ao12,co12,eo12⟩:=Kd.R_slice HO_7.out
       subst eo12
       try go_wp2
       have n0_:=Aside0.mk (Kd.R_drew HO_7.out)
       have n1_:=Aside0.mk (blk_drew BK413.out)
       have n2_:=Aside0.mk (blk_drew BK414.out)
       have n3_:=Aside0.mk (below_drew1 HB.out)
       clear HO_7
       clear BK413
       clear BK414
       clear HB
       have HO_7:=n0_
       have BK413:=n1_
       have BK414:=n2_
       have HB:=n3_
       clear n0_ n1_ n2_ n3_
       have p419 : 0 ≤ (x9_1 : Int):=of_decide_eq_true (by first|(with_reducible assumption)|assumption)
       have q419 : x9_1 < (t415.length : Int):=of_decide_eq_true (by first|(with_reducible assumption)|assumption)
       obtain ⟨ad419,e419,hx419_0,hx419_1,hx419_2,hx419_3⟩:=at_T59 (Kd.R_reads' HO_7.out).2.2 x9_1 p419 q419
       cases e419
       replace p419:=eq_true p419
       replace q419:=eq_true q419
       refine start_ (n:=8) (S:=fun w'=>w'.cell? ⟨gb413,0,none⟩ = some (.string a1_0) ∧ w'.cell? ⟨gb413,1,none⟩ = some (.int .u64 a1_1) ∧ w'.cell? ⟨gb413,2,none⟩ = some (.int .u8 a1_2) ∧ w'.cell? (ad419.add ((x9_1).toNat * 4)) = some (.string ((rd_T59 t415 x9_1).f0.f0)) ∧ w'.cell? ⟨(ad419.add ((x9_1).toNat * 4)).block,(ad419.add ((x9_1).toNat * 4)).off + 1,none⟩ = some (.int .u64 ((rd_T59 t415 x9_1).f0.f1)) ∧ w'.cell? ⟨(ad419.add ((x9_1).toNat * 4)).block,(ad419.add ((x9_1).toNat * 4)).off + 2,none⟩ = some (.int .u8 ((rd_T59 t415 x9_1).f0.f2)) ∧ w'.cell? ⟨(ad419.add ((x9_1).toNat * 4)).block,(ad419.add ((x9_1).toNat * 4)).off + 3,none⟩ = some (.string ((rd_T59 t415 x9_1).f1))) (ds:=[]) #[false,false,false,false,false,false,false,false] (by kernel_rfl) rfl rfl ⟨(blk_cell BK413.out 0).trans rfl,(blk_cell BK413.out 1).trans rfl,(blk_cell BK413.out 2).trans rfl,hx419_0,hx419_1,hx419_2,hx419_3⟩ (fun hHeld=>?_);refine with_tabW ratlineref07_Seek.tab7 ratlineref07_Seek.bits7 (fun HT_ HW_=>?_)
       generalize wr.drew = w13 at HO_7 BK413 BK414 HB hx419_0 hx419_1 hx419_2 hx419_3 hHeld ⊢
       refine pure_ (i:=0) (N:=some 25) (v:=?_) (a':=?_) #[true,false,false,false,false,false,false,false] rfl rfl (any_of HT_.out (by kernel_rfl)) (fun _ _ _ h=>h) (Or.inl ⟨by rfl,?_⟩) ?_ ?_
       rotate_left
       ·intro w'
        go_simp
        with_reducible rfl
       rotate_left
       ·simp only [Act.put,List.setIfInBounds_toArray,List.set_cons_zero,List.set_cons_succ,i64_w,i32_w]
        rfl
       refine pure_ (i:=1) (N:=some 26) (v:=?_) (a':=?_) #[true,true,false,false,false,false,false,false] rfl rfl (any_of HT_.out (by kernel_rfl)) (fun _ _ _ h=>h) (Or.inl ⟨by rfl,?_⟩) ?_ ?_
       rotate_left
       ·intro w'
        go_simp
        with_reducible rfl
       rotate_left
       ·simp only [Act.put,List.setIfInBounds_toArray,List.set_cons_zero,List.set_cons_succ,i64_w,i32_w]
        rfl
       refine pure_ (i:=2) (N:=some 27) (v:=?_) (a':=?_) #[true,true,true,false,false,false,false,false] rfl rfl (any_of HT_.out (by kernel_rfl)) (fun _ _ _ h=>h) (Or.inl ⟨by rfl,?_⟩) ?_ ?_
       rotate_left
       ·intro w'
        go_simp
        with_reducible rfl
       rotate_left
       ·simp only [Act.put,List.setIfInBounds_toArray,List.set_cons_zero,List.set_cons_succ,i64_w,i32_w]
        rfl
       refine pure_ (i:=3) (N:=some 28) (v:=?_) (a':=?_) #[true,true,true,true,false,false,false,false] rfl rfl (any_of HT_.out (by kernel_rfl)) (fun _ _ _ h=>h) (Or.inl ⟨by rfl,?_⟩) ?_ ?_
       rotate_left
       ·intro w'
        go_simp
        with_reducible rfl
       rotate_left
       ·simp only [Act.put,List.setIfInBounds_toArray,List.set_cons_zero,List.set_cons_succ,i64_w,i32_w]
        rfl
       refine take_ (i:=4) (N:=some 29) (v:=?_) (a':=?_) #[true,true,true,true,true,false,false,false] rfl rfl (take_ofW HT_.out HW_.out (by kernel_rfl)) (fun _ _ _ h=>h) (Or.inl ⟨by rfl,?_⟩) hHeld ?_ ?_
       rotate_left
       ·rintro w' ⟨s0,s1,s2,s3,s4,s5,s6⟩
        go_simp
        with_reducible rfl
       rotate_left
       ·simp only [Act.put,List.setIfInBounds_toArray,List.set_cons_zero,List.set_cons_succ,i64_w,i32_w]
        rfl
       refine take_ (i:=5) (N:=some 30) (v:=?_) (a':=?_) #[true,true,true,true,true,true,false,false] rfl rfl (take_ofW HT_.out HW_.out (by kernel_rfl)) (fun _ _ _ h=>h) (Or.inl ⟨by rfl,?_⟩) hHeld ?_ ?_
       rotate_left
       ·rintro w' ⟨s0,s1,s2,s3,s4,s5,s6⟩
        go_simp
        with_reducible rfl
       rotate_left
       ·simp only [Act.put,List.setIfInBounds_toArray,List.set_cons_zero,List.set_cons_succ,i64_w,i32_w]
        rfl
       refine one_ (i:=6) (N:=some 31) #[true,true,true,true,true,true,true,false] rfl rfl (one_of HT_.out (by kernel_rfl)) (by decide) (fun K hK=>?_)
       refine goes_ Try.func63 (by kernel_rfl) rfl #[.agg #[.string ((rd_T59 t415 x9_1).f0.f0),.int .u64 ((rd_T59 t415 x9_1).f0.f1),.int .u8 ((rd_T59 t415 x9_1).f0.f2)],.agg #[.string a1_0,.int .u64 a1_1,.int .u8 a1_2]] (by rfl) rfl rfl (by (try simp only [List.map_toArray,List.map_cons,List.map_nil]);first|done|rfl|(simp only [List.length_drop,List.length_take];rfl)) ?_
       with_reducible refine (ratlineref03_Compare.calls ((rd_T59 t415 x9_1).f0.f0) ((rd_T59 t415 x9_1).f0.f1) ((rd_T59 t415 x9_1).f0.f2) a1_0 a1_1 a1_2 t420 _ A10.out).mono ?_
       rintro e w14 ⟨rfl,hb⟩
       have HS3_:=(hb.cell (World.block_lt_of_cell? _ _ (hHeld.2.2.2.1))).trans (hHeld.2.2.2.1)
       have HS4_:=(hb.cell (World.block_lt_of_cell? _ _ (hHeld.2.2.2.2.1))).trans (hHeld.2.2.2.2.1)
       have HS5_:=(hb.cell (World.block_lt_of_cell? _ _ (hHeld.2.2.2.2.2.1))).trans (hHeld.2.2.2.2.2.1)
       have HS6_:=(hb.cell (World.block_lt_of_cell? _ _ (hHeld.2.2.2.2.2.2))).trans (hHeld.2.2.2.2.2.2)
       refine ⟨_,rfl,?_⟩
       have n0_:=Aside0.mk (Kd.R_below (by (with_reducible repeat (first|apply Kd.R_alloc|apply Kd.R_drewN|apply Kd.R_drew));exact HO_7.out) hb)
       have n1_:=Aside0.mk (blk_below (g:=gb413) (o:=.cells #[.string a1_0,.int .u64 a1_1,.int .u8 a1_2] 50 (0,0)) (by (with_reducible repeat (first|refine blk_drewN ?_ _|refine blk_drew ?_|refine blk_alloc ?_ _));exact BK413.out) hb)
       have n2_:=Aside0.mk (blk_below (g:=gb414) (o:=.cells #[.string x415000_1,.int .u64 x415001_1,.int .u8 x415002_1,.string x415003_1] 59 (0,0)) (by (with_reducible repeat (first|refine blk_drewN ?_ _|refine blk_drew ?_|refine blk_alloc ?_ _));exact BK414.out) hb)
       have n3_:=Aside0.mk (below_step (by repeat (first|(with_reducible first|exact HB.out|apply below_alloc|apply pw_below_drewN|apply below_drew1|refine below_set ?_ GE413.out|refine below_set ?_ GE414.out)|exact HB.out)) hb)
       clear HO_7
       clear BK413
       clear BK414
       clear HB
       have HO_7:=n0_
       have BK413:=n1_
       have BK414:=n2_
       have HB:=n3_
       clear n0_ n1_ n2_ n3_
       (try clear hb)
       (try clear hb2)
       (try clear hk)
       (try clear hi)
       refine hK.out _ _ ⟨(blk_cell BK413.out 0).trans rfl,(blk_cell BK413.out 1).trans rfl,(blk_cell BK413.out 2).trans rfl,HS3_,HS4_,HS5_,HS6_⟩ (fun hHeld=>?_)
       clear hK K
       refine norm_ (a':=?_) ?_ ?_
       rotate_left
       ·show Act.put _ (some 31) _ = _
        simp only [Act.put,List.setIfInBounds_toArray,List.set_cons_zero,List.set_cons_succ,i64_w,i32_w]
        rfl
       refine pure_ (i:=7) (N:=some 32) (v:=?_) (a':=?_) #[true,true,true,true,true,true,true,true] rfl rfl (any_of HT_.out (by kernel_rfl)) (fun _ _ _ h=>h) (Or.inl ⟨by rfl,?_⟩) ?_ ?_
       rotate_left
       ·intro w'
        go_simp
        with_reducible rfl
       rotate_left
       ·simp only [Act.put,List.setIfInBounds_toArray,List.set_cons_zero,List.set_cons_succ,i64_w,i32_w]
        rfl
       refine done_ (done_of HT_.out (by kernel_rfl)) ?_
       have p421 : 0 ≤ (x9_1 : Int):=of_decide_eq_true (by first|(with_reducible assumption)|assumption)
       have q421 : x9_1 < (t415.length : Int):=of_decide_eq_true (by first|(with_reducible assumption)|assumption)
       obtain ⟨ad421,e421,hx421_0,hx421_1,hx421_2,hx421_3⟩:=at_T59 (Kd.R_reads' HO_7.out).2.2 x9_1 p421 q421
       obtain rfl : ad419 = ad421:=(by injection e421)
       replace p421:=eq_true p421
       replace q421:=eq_true q421
       have hnb15:=NB414_413.out
       have hnc15:=NB413_414.out
       have hcz16_0 : w14.cell? ⟨gb414,0,none⟩ = some (.string x415000_1):=(blk_cell BK414.out 0).trans rfl
       have hcz16_1 : w14.cell? ⟨gb414,1,none⟩ = some (.int .u64 x415001_1):=(blk_cell BK414.out 1).trans rfl
       have hcz16_2 : w14.cell? ⟨gb414,2,none⟩ = some (.int .u8 x415002_1):=(blk_cell BK414.out 2).trans rfl
       have hcz16_3 : w14.cell? ⟨gb414,3,none⟩ = some (.string x415003_1):=(blk_cell BK414.out 3).trans rfl
       have hfz16_0:=blk_frozen BK414.out 0
       have hfz16_1:=blk_frozen BK414.out 1
       have hfz16_2:=blk_frozen BK414.out 2
       have hfz16_3:=blk_frozen BK414.out 3
       try go_wp2
       refine bodyPost_ret (results_ctt rfl _ _ gb414 59 #[.string ((rd_T59 t415 x9_1).f0.f0),.int .u64 ((rd_T59 t415 x9_1).f0.f1),.int .u8 ((rd_T59 t415 x9_1).f0.f2),.string ((rd_T59 t415 x9_1).f1)] (0,0) _ rfl (by (with_reducible repeat (first|refine blk_drewN ?_ _|refine blk_drew ?_|refine blk_alloc ?_ _));refine blk_put (cs:=#[.string ((rd_T59 t415 x9_1).f0.f0),.int .u64 ((rd_T59 t415 x9_1).f0.f1),.int .u8 ((rd_T59 t415 x9_1).f0.f2),.string x415003_1]) ?_ 3 _ rfl;(with_reducible repeat (first|refine blk_drewN ?_ _|refine blk_drew ?_|refine blk_alloc ?_ _));refine blk_put (cs:=#[.string ((rd_T59 t415 x9_1).f0.f0),.int .u64 ((rd_T59 t415 x9_1).f0.f1),.int .u8 x415002_1,.string x415003_1]) ?_ 2 _ rfl;(with_reducible repeat (first|refine blk_drewN ?_ _|refine blk_drew ?_|refine blk_alloc ?_ _));refine blk_put (cs:=#[.string ((rd_T59 t415 x9_1).f0.f0),.int .u64 x415001_1,.int .u8 x415002_1,.string x415003_1]) ?_ 1 _ rfl;(with_reducible repeat (first|refine blk_drewN ?_ _|refine blk_drew ?_|refine blk_alloc ?_ _));refine blk_put (cs:=#[.string x415000_1,.int .u64 x415001_1,.int .u8 x415002_1,.string x415003_1]) ?_ 0 _ rfl;(with_reducible repeat (first|refine blk_drewN ?_ _|refine blk_drew ?_|refine blk_alloc ?_ _));exact BK414.out) Try.underlying59 rfl (by kernel_rfl)) rfl ?_
       exact ⟨by first|rfl|(simp [errW_none,errW_some] <;> rfl)|(simp [*,errW_none,errW_some] <;> rfl),by repeat (first|(with_reducible first|exact HB.out|apply below_alloc|apply pw_below_drewN|apply below_drew1|refine below_set ?_ GE413.out|refine below_set ?_ GE414.out)|exact HB.out)⟩
      ·rw [if_neg c11] at H
       have c11b0 : decide (0 ≤ t420) = false:=decide_eq_false c11
       clear c11
       have H':=Aside0.mk H
       clear H
       obtain ⟨Ao17,co17,eo17⟩:=Kd.R_slice HO_7.out
       subst eo17
       try go_wp2
       have n0_:=Aside0.mk (Kd.R_drew HO_7.out)
       have n1_:=Aside0.mk (blk_drew BK413.out)
       have n2_:=Aside0.mk (blk_drew BK414.out)
       have n3_:=Aside0.mk (below_drew1 HB.out)
       clear HO_7
       clear BK413
       clear BK414
       clear HB
       have HO_7:=n0_
       have BK413:=n1_
       have BK414:=n2_
       have HB:=n3_
       clear n0_ n1_ n2_ n3_
       have p419 : 0 ≤ (x9_1 : Int):=of_decide_eq_true (by first|(with_reducible assumption)|assumption)
       have q419 : x9_1 < (t415.length : Int):=of_decide_eq_true (by first|(with_reducible assumption)|assumption)
       obtain ⟨ad419,e419,hx419_0,hx419_1,hx419_2,hx419_3⟩:=at_T59 (Kd.R_reads' HO_7.out).2.2 x9_1 p419 q419
       cases e419
       replace p419:=eq_true p419
       replace q419:=eq_true q419
       refine start_ (n:=8) (S:=fun w'=>w'.cell? ⟨gb413,0,none⟩ = some (.string a1_0) ∧ w'.cell? ⟨gb413,1,none⟩ = some (.int .u64 a1_1) ∧ w'.cell? ⟨gb413,2,none⟩ = some (.int .u8 a1_2) ∧ w'.cell? (ad419.add ((x9_1).toNat * 4)) = some (.string ((rd_T59 t415 x9_1).f0.f0)) ∧ w'.cell? ⟨(ad419.add ((x9_1).toNat * 4)).block,(ad419.add ((x9_1).toNat * 4)).off + 1,none⟩ = some (.int .u64 ((rd_T59 t415 x9_1).f0.f1)) ∧ w'.cell? ⟨(ad419.add ((x9_1).toNat * 4)).block,(ad419.add ((x9_1).toNat * 4)).off + 2,none⟩ = some (.int .u8 ((rd_T59 t415 x9_1).f0.f2)) ∧ w'.cell? ⟨(ad419.add ((x9_1).toNat * 4)).block,(ad419.add ((x9_1).toNat * 4)).off + 3,none⟩ = some (.string ((rd_T59 t415 x9_1).f1))) (ds:=[]) #[false,false,false,false,false,false,false,false] (by kernel_rfl) rfl rfl ⟨(blk_cell BK413.out 0).trans rfl,(blk_cell BK413.out 1).trans rfl,(blk_cell BK413.out 2).trans rfl,hx419_0,hx419_1,hx419_2,hx419_3⟩ (fun hHeld=>?_);refine with_tabW ratlineref07_Seek.tab7 ratlineref07_Seek.bits7 (fun HT_ HW_=>?_)
       generalize wr.drew = w18 at HO_7 BK413 BK414 HB hx419_0 hx419_1 hx419_2 hx419_3 hHeld ⊢
       refine pure_ (i:=0) (N:=some 25) (v:=?_) (a':=?_) #[true,false,false,false,false,false,false,false] rfl rfl (any_of HT_.out (by kernel_rfl)) (fun _ _ _ h=>h) (Or.inl ⟨by rfl,?_⟩) ?_ ?_
       rotate_left
       ·intro w'
        go_simp
        with_reducible rfl
       rotate_left
       ·simp only [Act.put,List.setIfInBounds_toArray,List.set_cons_zero,List.set_cons_succ,i64_w,i32_w]
        rfl
       refine pure_ (i:=1) (N:=some 26) (v:=?_) (a':=?_) #[true,true,false,false,false,false,false,false] rfl rfl (any_of HT_.out (by kernel_rfl)) (fun _ _ _ h=>h) (Or.inl ⟨by rfl,?_⟩) ?_ ?_
       rotate_left
       ·intro w'
        go_simp
        with_reducible rfl
       rotate_left
       ·simp only [Act.put,List.setIfInBounds_toArray,List.set_cons_zero,List.set_cons_succ,i64_w,i32_w]
        rfl
       refine pure_ (i:=2) (N:=some 27) (v:=?_) (a':=?_) #[true,true,true,false,false,false,false,false] rfl rfl (any_of HT_.out (by kernel_rfl)) (fun _ _ _ h=>h) (Or.inl ⟨by rfl,?_⟩) ?_ ?_
       rotate_left
       ·intro w'
        go_simp
        with_reducible rfl
       rotate_left
       ·simp only [Act.put,List.setIfInBounds_toArray,List.set_cons_zero,List.set_cons_succ,i64_w,i32_w]
        rfl
       refine pure_ (i:=3) (N:=some 28) (v:=?_) (a':=?_) #[true,true,true,true,false,false,false,false] rfl rfl (any_of HT_.out (by kernel_rfl)) (fun _ _ _ h=>h) (Or.inl ⟨by rfl,?_⟩) ?_ ?_
       rotate_left
       ·intro w'
        go_simp
        with_reducible rfl
       rotate_left
       ·simp only [Act.put,List.setIfInBounds_toArray,List.set_cons_zero,List.set_cons_succ,i64_w,i32_w]
        rfl
       refine take_ (i:=4) (N:=some 29) (v:=?_) (a':=?_) #[true,true,true,true,true,false,false,false] rfl rfl (take_ofW HT_.out HW_.out (by kernel_rfl)) (fun _ _ _ h=>h) (Or.inl ⟨by rfl,?_⟩) hHeld ?_ ?_
       rotate_left
       ·rintro w' ⟨s0,s1,s2,s3,s4,s5,s6⟩
        go_simp
        with_reducible rfl
       rotate_left
       ·simp only [Act.put,List.setIfInBounds_toArray,List.set_cons_zero,List.set_cons_succ,i64_w,i32_w]
        rfl
       refine take_ (i:=5) (N:=some 30) (v:=?_) (a':=?_) #[true,true,true,true,true,true,false,false] rfl rfl (take_ofW HT_.out HW_.out (by kernel_rfl)) (fun _ _ _ h=>h) (Or.inl ⟨by rfl,?_⟩) hHeld ?_ ?_
       rotate_left
       ·rintro w' ⟨s0,s1,s2,s3,s4,s5,s6⟩
        go_simp
        with_reducible rfl
       rotate_left
       ·simp only [Act.put,List.setIfInBounds_toArray,List.set_cons_zero,List.set_cons_succ,i64_w,i32_w]
        rfl
       refine one_ (i:=6) (N:=some 31) #[true,true,true,true,true,true,true,false] rfl rfl (one_of HT_.out (by kernel_rfl)) (by decide) (fun K hK=>?_)
       refine goes_ Try.func63 (by kernel_rfl) rfl #[.agg #[.string ((rd_T59 t415 x9_1).f0.f0),.int .u64 ((rd_T59 t415 x9_1).f0.f1),.int .u8 ((rd_T59 t415 x9_1).f0.f2)],.agg #[.string a1_0,.int .u64 a1_1,.int .u8 a1_2]] (by rfl) rfl rfl (by (try simp only [List.map_toArray,List.map_cons,List.map_nil]);first|done|rfl|(simp only [List.length_drop,List.length_take];rfl)) ?_
       with_reducible refine (ratlineref03_Compare.calls ((rd_T59 t415 x9_1).f0.f0) ((rd_T59 t415 x9_1).f0.f1) ((rd_T59 t415 x9_1).f0.f2) a1_0 a1_1 a1_2 t420 _ A10.out).mono ?_
       rintro e w19 ⟨rfl,hb⟩
       have HS3_:=(hb.cell (World.block_lt_of_cell? _ _ (hHeld.2.2.2.1))).trans (hHeld.2.2.2.1)
       have HS4_:=(hb.cell (World.block_lt_of_cell? _ _ (hHeld.2.2.2.2.1))).trans (hHeld.2.2.2.2.1)
       have HS5_:=(hb.cell (World.block_lt_of_cell? _ _ (hHeld.2.2.2.2.2.1))).trans (hHeld.2.2.2.2.2.1)
       have HS6_:=(hb.cell (World.block_lt_of_cell? _ _ (hHeld.2.2.2.2.2.2))).trans (hHeld.2.2.2.2.2.2)
       refine ⟨_,rfl,?_⟩
       have n0_:=Aside0.mk (Kd.R_below (by (with_reducible repeat (first|apply Kd.R_alloc|apply Kd.R_drewN|apply Kd.R_drew));exact HO_7.out) hb)
       have n1_:=Aside0.mk (blk_below (g:=gb413) (o:=.cells #[.string a1_0,.int .u64 a1_1,.int .u8 a1_2] 50 (0,0)) (by (with_reducible repeat (first|refine blk_drewN ?_ _|refine blk_drew ?_|refine blk_alloc ?_ _));exact BK413.out) hb)
       have n2_:=Aside0.mk (blk_below (g:=gb414) (o:=.cells #[.string x415000_1,.int .u64 x415001_1,.int .u8 x415002_1,.string x415003_1] 59 (0,0)) (by (with_reducible repeat (first|refine blk_drewN ?_ _|refine blk_drew ?_|refine blk_alloc ?_ _));exact BK414.out) hb)
       have n3_:=Aside0.mk (below_step (by repeat (first|(with_reducible first|exact HB.out|apply below_alloc|apply pw_below_drewN|apply below_drew1|refine below_set ?_ GE413.out|refine below_set ?_ GE414.out)|exact HB.out)) hb)
       clear HO_7
       clear BK413
       clear BK414
       clear HB
       have HO_7:=n0_
       have BK413:=n1_
       have BK414:=n2_
       have HB:=n3_
       clear n0_ n1_ n2_ n3_
       (try clear hb)
       (try clear hb2)
       (try clear hk)
       (try clear hi)
       refine hK.out _ _ ⟨(blk_cell BK413.out 0).trans rfl,(blk_cell BK413.out 1).trans rfl,(blk_cell BK413.out 2).trans rfl,HS3_,HS4_,HS5_,HS6_⟩ (fun hHeld=>?_)
       clear hK K
       refine norm_ (a':=?_) ?_ ?_
       rotate_left
       ·show Act.put _ (some 31) _ = _
        simp only [Act.put,List.setIfInBounds_toArray,List.set_cons_zero,List.set_cons_succ,i64_w,i32_w]
        rfl
       refine pure_ (i:=7) (N:=some 32) (v:=?_) (a':=?_) #[true,true,true,true,true,true,true,true] rfl rfl (any_of HT_.out (by kernel_rfl)) (fun _ _ _ h=>h) (Or.inl ⟨by rfl,?_⟩) ?_ ?_
       rotate_left
       ·intro w'
        go_simp
        with_reducible rfl
       rotate_left
       ·simp only [Act.put,List.setIfInBounds_toArray,List.set_cons_zero,List.set_cons_succ,i64_w,i32_w]
        rfl
       refine done_ (done_of HT_.out (by kernel_rfl)) ?_
       try go_wp2
       go_roundg k1
       case measure=>have:=HK1.out;omega
       case rel=>exact ⟨(wrap64 (x9_1 + 1)),(x415000_1),(x415001_1),(x415002_1),(x415003_1),(by first|rfl|(simp;done)|(simp [*];done)),H',⟨by have:=HK1.out;omega⟩,⟨by (with_reducible repeat (first|apply Kd.R_alloc|apply Kd.R_drewN|apply Kd.R_drew));exact HO_7.out⟩,⟨by (with_reducible repeat (first|refine blk_drewN ?_ _|refine blk_drew ?_|refine blk_alloc ?_ _));exact BK413.out⟩,⟨by (with_reducible repeat (first|refine blk_drewN ?_ _|refine blk_drew ?_|refine blk_alloc ?_ _));exact BK414.out⟩,⟨by repeat (first|(with_reducible first|exact HB.out|apply below_alloc|apply pw_below_drewN|apply below_drew1|refine below_set ?_ GE413.out|refine below_set ?_ GE414.out)|exact HB.out)⟩⟩
     ·rw [if_neg c9] at H
      exact absurd H (by simp)
    ·rw [if_neg c8] at H
     have c8b0 : decide (x9_1 < (t415.length : Int)) = false:=decide_eq_false c8
     clear c8
     simp only [Option.some.injEq,Prod.mk.injEq] at H
     obtain ⟨rfl,rfl,rfl,rfl,rfl,rfl⟩:=H
     obtain ⟨Ao20,co20,eo20⟩:=Kd.R_slice HO_7.out
     subst eo20
     have hnb21:=NB414_413.out
     have hnc21:=NB413_414.out
     have hcz22_0 : wr.cell? ⟨gb414,0,none⟩ = some (.string x415000_1):=(blk_cell BK414.out 0).trans rfl
     have hcz22_1 : wr.cell? ⟨gb414,1,none⟩ = some (.int .u64 x415001_1):=(blk_cell BK414.out 1).trans rfl
     have hcz22_2 : wr.cell? ⟨gb414,2,none⟩ = some (.int .u8 x415002_1):=(blk_cell BK414.out 2).trans rfl
     have hcz22_3 : wr.cell? ⟨gb414,3,none⟩ = some (.string x415003_1):=(blk_cell BK414.out 3).trans rfl
     have hfz22_0:=blk_frozen BK414.out 0
     have hfz22_1:=blk_frozen BK414.out 1
     have hfz22_2:=blk_frozen BK414.out 2
     have hfz22_3:=blk_frozen BK414.out 3
     go_wp2
     refine bodyPost_ret (results_ctt rfl _ _ gb414 59 #[.string (⟨#[]⟩ : ByteArray),.int .u64 0,.int .u8 0,.string (⟨#[]⟩ : ByteArray)] (0,0) _ rfl (by (with_reducible repeat (first|refine blk_drewN ?_ _|refine blk_drew ?_|refine blk_alloc ?_ _));refine blk_put (cs:=#[.string (⟨#[]⟩ : ByteArray),.int .u64 0,.int .u8 0,.string x415003_1]) ?_ 3 _ rfl;(with_reducible repeat (first|refine blk_drewN ?_ _|refine blk_drew ?_|refine blk_alloc ?_ _));refine blk_put (cs:=#[.string (⟨#[]⟩ : ByteArray),.int .u64 0,.int .u8 x415002_1,.string x415003_1]) ?_ 2 _ rfl;(with_reducible repeat (first|refine blk_drewN ?_ _|refine blk_drew ?_|refine blk_alloc ?_ _));refine blk_put (cs:=#[.string (⟨#[]⟩ : ByteArray),.int .u64 x415001_1,.int .u8 x415002_1,.string x415003_1]) ?_ 1 _ rfl;(with_reducible repeat (first|refine blk_drewN ?_ _|refine blk_drew ?_|refine blk_alloc ?_ _));refine blk_put (cs:=#[.string x415000_1,.int .u64 x415001_1,.int .u8 x415002_1,.string x415003_1]) ?_ 0 _ rfl;(with_reducible repeat (first|refine blk_drewN ?_ _|refine blk_drew ?_|refine blk_alloc ?_ _));exact BK414.out) Try.underlying59 rfl (by kernel_rfl)) rfl ?_
     exact ⟨by first|rfl|(simp [errW_none,errW_some] <;> rfl)|(simp [*,errW_none,errW_some] <;> rfl),by repeat (first|(with_reducible first|exact HB.out|apply below_alloc|apply pw_below_drewN|apply below_drew1|refine below_set ?_ GE413.out|refine below_set ?_ GE414.out)|exact HB.out)⟩
 ·rw [if_neg c4] at H
  have c4b0 : (t418 == 0) = false:=beq_eq_false_iff_ne.mpr c4
  have c4b1 : (t418 != 0) = true:=bne_iff_ne.mpr c4
  simp only [Option.some.injEq,Prod.mk.injEq] at H
  obtain ⟨rfl,rfl,rfl,rfl,rfl,rfl⟩:=H
  go_enter Try.func29,Try.ntmps29
  go_wp2_with (first|((with_reducible refine gate_dst (N:=3) rfl ?_);refine box_event ?hg (N:=3) ?hd (cs:=#[.string a1_0,.int .u64 a1_1,.int .u8 a1_2]) (t:=50) ?hr ?_;(case hd=>rfl);(case hg=>rfl);(case hr=>first|(go_simp;done)|(go_simp;rfl));intro gb413 hg w23 hbox hb;have n0_:=Aside0.mk (below_step (by repeat (first|(with_reducible first|exact HB.out|apply below_alloc|apply pw_below_drewN|apply below_drew1)|exact HB.out)) hb);have n1_:=Aside0.mk (hbox);have n2_:=Aside0.mk ((by rw [hg];exact (below_size (by repeat (first|(with_reducible first|exact HB.out|apply below_alloc|apply pw_below_drewN|apply below_drew1)|exact HB.out))) : w.heap.size ≤ gb413));have n3_:=Aside0.mk ((by rw [hg];exact (below_size (by repeat (first|(with_reducible first|exact HB.out|apply below_alloc|apply pw_below_drewN|apply below_drew1)|exact HB.out))) : w.heap.size ≤ gb413));clear HB;have HB:=n0_;have BK413:=n1_;have GW413:=n2_;have GE413:=n3_;clear n0_ n1_ n2_ n3_;clear hb hbox hg)|((with_reducible refine gate_dst (N:=4) rfl ?_);refine box_event ?hg (N:=4) ?hd (cs:=#[.string (⟨#[]⟩ : ByteArray),.int .u64 0,.int .u8 0,.string (⟨#[]⟩ : ByteArray)]) (t:=59) ?hr ?_;(case hd=>rfl);(case hg=>rfl);(case hr=>first|(go_simp;done)|(go_simp;rfl));intro gb414 hg w24 hbox hb;have n0_:=Aside0.mk (blk_below (g:=gb413) (o:=.cells #[.string a1_0,.int .u64 a1_1,.int .u8 a1_2] 50 (0,0)) (by (with_reducible repeat (first|refine blk_drewN ?_ _|refine blk_drew ?_|refine blk_alloc ?_ _));exact BK413.out) hb);have n1_:=Aside0.mk (below_step (by repeat (first|(with_reducible first|exact HB.out|apply below_alloc|apply pw_below_drewN|apply below_drew1|refine below_set ?_ GE413.out)|exact HB.out)) hb);have n2_:=Aside0.mk (hbox);have n3_:=Aside0.mk ((by rw [hg];exact (below_size (by repeat (first|(with_reducible first|exact HB.out|apply below_alloc|apply pw_below_drewN|apply below_drew1|refine below_set ?_ GE413.out)|exact HB.out))) : w.heap.size ≤ gb414));have n4_:=Aside0.mk ((by rw [hg];exact (below_size (by repeat (first|(with_reducible first|exact HB.out|apply below_alloc|apply pw_below_drewN|apply below_drew1|refine below_set ?_ GE413.out)|exact HB.out))) : w.heap.size ≤ gb414));have n5_:=Aside0.mk ((by rw [hg];exact Nat.ne_of_lt (blk_lt (g:=gb413) (o:=.cells #[.string a1_0,.int .u64 a1_1,.int .u8 a1_2] 50 (0,0)) (by (with_reducible repeat (first|refine blk_drewN ?_ _|refine blk_drew ?_|refine blk_alloc ?_ _));exact BK413.out)) : gb413 ≠ gb414));have n6_:=Aside0.mk ((by rw [hg];exact Nat.ne_of_gt (blk_lt (g:=gb413) (o:=.cells #[.string a1_0,.int .u64 a1_1,.int .u8 a1_2] 50 (0,0)) (by (with_reducible repeat (first|refine blk_drewN ?_ _|refine blk_drew ?_|refine blk_alloc ?_ _));exact BK413.out)) : gb414 ≠ gb413));clear BK413;clear HB;have BK413:=n0_;have HB:=n1_;have BK414:=n2_;have GW414:=n3_;have GE414:=n4_;have NB413_414:=n5_;have NB414_413:=n6_;clear n0_ n1_ n2_ n3_ n4_ n5_ n6_;clear hb hbox hg)|((with_reducible refine gate_callee (f:=25) rfl ?_);refine goesL_ (some 12) rfl rfl Try.func25 (by kernel_rfl) rfl #[.slice A0 l0.length c0] rfl (by (try simp only [List.map_toArray,List.map_cons,List.map_nil]);first|done|rfl|(simp only [List.length_drop,List.length_take];rfl)) ?_;(with_reducible refine (ratlineref07_Parse.calls k (fun k_=>k_ < w.heap.size) _ _ l0 t415 t418 _ ?side1 A3.out).mono ?_);(case side1=>exact Kd.V_mk HC0.out (Kd.F_below (Kd.C_F (Kd.heap_int .u8) HR0.out) (by repeat (first|(with_reducible first|exact HB.out|apply below_alloc|apply pw_below_drewN|apply below_drew1|refine below_set ?_ GE413.out|refine below_set ?_ GE414.out)|exact HB.out))));rintro e w25 ⟨v416,rfl,ho0,hb⟩;refine ⟨_,rfl,?_⟩;have n0_:=Aside0.mk (Kd.R_lower (Kd.R_newB (Kd.R_mono (ok':=fun k_=>True) ho0 (fun _ hk_=>trivial)) (g:=gb414) (o:=.cells #[.string (⟨#[]⟩ : ByteArray),.int .u64 0,.int .u8 0,.string (⟨#[]⟩ : ByteArray)] 59 (0,0)) (by (with_reducible repeat (first|refine blk_drewN ?_ _|refine blk_drew ?_|refine blk_alloc ?_ _));exact BK414.out)) (below_size (by repeat (first|(with_reducible first|exact HB.out|apply below_alloc|apply pw_below_drewN|apply below_drew1|refine below_set ?_ GE413.out|refine below_set ?_ GE414.out)|exact HB.out))));have n1_:=Aside0.mk (blk_below (g:=gb413) (o:=.cells #[.string a1_0,.int .u64 a1_1,.int .u8 a1_2] 50 (0,0)) (by (with_reducible repeat (first|refine blk_drewN ?_ _|refine blk_drew ?_|refine blk_alloc ?_ _));exact BK413.out) hb);have n2_:=Aside0.mk (blk_below (g:=gb414) (o:=.cells #[.string (⟨#[]⟩ : ByteArray),.int .u64 0,.int .u8 0,.string (⟨#[]⟩ : ByteArray)] 59 (0,0)) (by (with_reducible repeat (first|refine blk_drewN ?_ _|refine blk_drew ?_|refine blk_alloc ?_ _));exact BK414.out) hb);have n3_:=Aside0.mk (below_step (by repeat (first|(with_reducible first|exact HB.out|apply below_alloc|apply pw_below_drewN|apply below_drew1|refine below_set ?_ GE413.out|refine below_set ?_ GE414.out)|exact HB.out)) hb);clear BK413;clear BK414;clear HB;have HO417:=n0_;have BK413:=n1_;have BK414:=n2_;have HB:=n3_;clear n0_ n1_ n2_ n3_;(try clear hb);(try clear hb2);(try clear hk);(try clear hi);(try clear ho0);have hnb26:=NB414_413.out;have hnc26:=NB413_414.out;have hcz27_0 : w25.cell? ⟨gb414,0,none⟩ = some (.string (⟨#[]⟩ : ByteArray)):=(blk_cell BK414.out 0).trans rfl;have hcz27_1 : w25.cell? ⟨gb414,1,none⟩ = some (.int .u64 0):=(blk_cell BK414.out 1).trans rfl;have hcz27_2 : w25.cell? ⟨gb414,2,none⟩ = some (.int .u8 0):=(blk_cell BK414.out 2).trans rfl;have hcz27_3 : w25.cell? ⟨gb414,3,none⟩ = some (.string (⟨#[]⟩ : ByteArray)):=(blk_cell BK414.out 3).trans rfl;have hfz27_0:=blk_frozen BK414.out 0;have hfz27_1:=blk_frozen BK414.out 1;have hfz27_2:=blk_frozen BK414.out 2;have hfz27_3:=blk_frozen BK414.out 3))
  refine bodyPost_ret (results_ctt rfl _ _ gb414 59 #[.string (⟨#[]⟩ : ByteArray),.int .u64 0,.int .u8 0,.string (⟨#[]⟩ : ByteArray)] (0,0) _ rfl (by (with_reducible repeat (first|refine blk_drewN ?_ _|refine blk_drew ?_|refine blk_alloc ?_ _));refine blk_put (cs:=#[.string (⟨#[]⟩ : ByteArray),.int .u64 0,.int .u8 0,.string (⟨#[]⟩ : ByteArray)]) ?_ 3 _ rfl;(with_reducible repeat (first|refine blk_drewN ?_ _|refine blk_drew ?_|refine blk_alloc ?_ _));refine blk_put (cs:=#[.string (⟨#[]⟩ : ByteArray),.int .u64 0,.int .u8 0,.string (⟨#[]⟩ : ByteArray)]) ?_ 2 _ rfl;(with_reducible repeat (first|refine blk_drewN ?_ _|refine blk_drew ?_|refine blk_alloc ?_ _));refine blk_put (cs:=#[.string (⟨#[]⟩ : ByteArray),.int .u64 0,.int .u8 0,.string (⟨#[]⟩ : ByteArray)]) ?_ 1 _ rfl;(with_reducible repeat (first|refine blk_drewN ?_ _|refine blk_drew ?_|refine blk_alloc ?_ _));refine blk_put (cs:=#[.string (⟨#[]⟩ : ByteArray),.int .u64 0,.int .u8 0,.string (⟨#[]⟩ : ByteArray)]) ?_ 0 _ rfl;(with_reducible repeat (first|refine blk_drewN ?_ _|refine blk_drew ?_|refine blk_alloc ?_ _));exact BK414.out) Try.underlying59 rfl (by kernel_rfl)) rfl ?_
  exact ⟨by first|rfl|(simp [errW_none,errW_some] <;> rfl)|(simp [*,errW_none,errW_some] <;> rfl),by repeat (first|(with_reducible first|exact HB.out|apply below_alloc|apply pw_below_drewN|apply below_drew1|refine below_set ?_ GE413.out|refine below_set ?_ GE414.out)|exact HB.out)⟩

end Go.Proofs.Ytjcjfghcahbbmaa.P

end

section
namespace Go.Proofs.Ytjcjfghcahbbmaa.P
open Go.RowKit Go.Proofs.YtjcjfghcahbbmaaG Go.Proofs.YtjcjfghcahbbmaaW.PrintWords Go.Proofs.YtjcjfghcahbbmaaW.PrintLast Go.Proofs.YtjcjfghcahbbmaaW.PrintMore
attribute [local go_sem] str_gtr str_geq str_leq max2_int min2_int max_two min_two max_three min_three max_four min_four   -- for this text's walks alone
set_option linter.unusedVariables false
set_option linter.unusedSimpArgs false

attribute [local go_sem high] eqA59
mutual
noncomputable def ratlinelaw07_BlockTells.j0 : Nat → List (S59) → List Int → Bool → ByteArray → Int → Int → Option (Bool)
 | 0,_,_,_,_,_,_=>none
 | k + 1,x0,x1,x36,x423000,x423001,x423002=>if x36 = true then ((ratlinelaw07_awake.f k).bind fun t424=>(some t424)) else ((block_Build.f x0).bind fun bt425=>((ratlineref07_Build.f k x0).bind fun bt429=>((block_Parse.f k x1).bind fun bt433=>((ratlineref07_Parse.f k x1).bind fun bt437=>((ratlinelaw02_Same.f bt425.1 bt429.1).bind fun t441=>(if t441 = true then (if bt425.2 = bt429.2 then ((ratlinelaw04_Entries.f k bt433.1 bt437.1).bind fun t442=>(if t442 = true then (ratlinelaw07_BlockTells.j1 k x1 bt429.1 (bt433.2 != bt437.2) x423000 x423001 x423002) else (ratlinelaw07_BlockTells.j1 k x1 bt429.1 true x423000 x423001 x423002))) else (ratlinelaw07_BlockTells.j1 k x1 bt429.1 true x423000 x423001 x423002)) else (ratlinelaw07_BlockTells.j1 k x1 bt429.1 true x423000 x423001 x423002)))))))
noncomputable def ratlinelaw07_BlockTells.j1 : Nat → List Int → List Int → Bool → ByteArray → Int → Int → Option (Bool)
 | 0,_,_,_,_,_,_=>none
 | k + 1,x1,x9,x77,x423000,x423001,x423002=>if x77 = true then (none) else ((some (([x1,x9] : List (List Int)) : List (List Int))).bind fun y443=>(ratlinelaw07_BlockTells.l0 k y443 (y443.length : Int) 0 x423000 x423001 x423002))
noncomputable def ratlinelaw07_BlockTells.l0 : Nat → List (List Int) → Int → Int → ByteArray → Int → Int → Option (Bool)
 | 0,_,_,_,_,_,_=>none
 | k + 1,x80,x81,x82,x423000,x423001,x423002=>if x82 < x81 then (if 0 ≤ x82 then (if x82 < (x80.length : Int) then ((block_Seek.f (rd_L5 x80 x82) x423000 x423001 x423002).bind fun bt448=>((ratlineref07_Seek.f k (rd_L5 x80 x82) x423000 x423001 x423002).bind fun bt455=>(if ((!(bt448.1.toList == bt455.1.toList) || (!(bt448.2.1 == bt455.2.1) || (!(bt448.2.2.1 == bt455.2.2.1)))) || (!(bt448.2.2.2.1.toList == bt455.2.2.2.1.toList))) = true then (none) else (if (bt448.2.2.2.2.1 != bt455.2.2.2.2.1) = true then (none) else (if bt448.2.2.2.2.2 = bt455.2.2.2.2.2 then (ratlinelaw07_BlockTells.l0 k x80 x81 (wrap64 (x82 + 1)) x423000 x423001 x423002) else (none)))))) else (none)) else (none)) else ((ratlinelaw07_awake.f k).bind fun t446=>(some t446))
end
noncomputable def ratlinelaw07_BlockTells.f (k : Nat) (l0 : List (S59)) (l1 : List Int) (a2_0 : ByteArray) (a2_1 : Int) (a2_2 : Int) : Option (Bool):=(ratlinelaw03_Few.f k l0 70).bind fun t423=>(if t423 = true then (if (l1.length : Int) > 1000 then (ratlinelaw07_BlockTells.j0 k l0 l1 true a2_0 a2_1 a2_2) else (ratlinelaw07_BlockTells.j0 k l0 l1 (decide ((a2_0.size : Int) > 70)) a2_0 a2_1 a2_2)) else (ratlinelaw07_BlockTells.j0 k l0 l1 true a2_0 a2_1 a2_2))
set_option maxHeartbeats 8000000 in
set_option maxRecDepth 100000 in
theorem ratlinelaw07_BlockTells.calls (k : Nat) (A0 : Option Addr) (c0 : Nat) (l0 : List (S59)) (P1_ : Nat → Prop) (A1 : Option Addr) (c1 : Nat) (l1 : List Int) (a2_0 : ByteArray) (a2_1 : Int) (a2_2 : Int) (r : Bool) (w : World) (hr0 : Kd.C k59 w A0 l0.length l0) (hc0 : l0.length ≤ c0) (hs1 : Kd.V (Kd.int .u8) 5 w w.heap.size (fun k_=>P1_ k_) (.slice A1 l1.length c1) l1) (h : ratlinelaw07_BlockTells.f k l0 l1 a2_0 a2_1 a2_2 = some r) :
  Calls Try.prog 5 #[.slice A0 l0.length c0,.slice A1 l1.length c1,.agg #[.string a2_0,.int .u64 a2_1,.int .u8 a2_2]] w fun e w'=>e = .returned (.bool r) ∧ Below w.heap.size w w':=by
 have hu50:=Try.underlying50
 have hu59:=Try.underlying59
 have HR0:=Aside0.mk hr0
 have HC0:=Aside0.mk hc0
 clear hr0 hc0
 have HO1:=Aside0.mk (show Kd.V (Kd.int .u8) 5 w w.heap.size (fun k_=>(P1_ k_ ∨ w.heap.size ≤ k_)) (.slice A1 l1.length c1) l1 from Kd.V_mono hs1 (fun k_ hk=>.inl hk))
 have HB:=Aside0.mk (Below.refl w.heap.size w)
 have H : ((ratlinelaw03_Few.f k l0 70).bind fun t423=>(if t423 = true then (if (l1.length : Int) > 1000 then (ratlinelaw07_BlockTells.j0 k l0 l1 true a2_0 a2_1 a2_2) else (ratlinelaw07_BlockTells.j0 k l0 l1 (decide ((a2_0.size : Int) > 70)) a2_0 a2_1 a2_2)) else (ratlinelaw07_BlockTells.j0 k l0 l1 true a2_0 a2_1 a2_2))) = some r:=h
 clear h
 have HC4:=Aside0.mk H
 clear H
 go_enter Try.func5,Try.ntmps5
 go_upto_region 1 with (first|((with_reducible refine gate_dst (N:=5) rfl ?_);(try (refine gate_guard (by rfl) ?_;dsimp only));refine box_event ?hg (N:=5) ?hd (cs:=#[.string a2_0,.int .u64 a2_1,.int .u8 a2_2]) (t:=50) ?hr ?_;(case hd=>rfl);(case hg=>rfl);(case hr=>first|(go_simp;done)|(go_simp;rfl));intro gb422 hg w5 hbox hb;have n0_:=Aside0.mk (Kd.V_below (Kd.V_elderB (by (with_reducible repeat (first|apply Kd.V_alloc|apply Kd.V_drewN|apply Kd.V_drew));exact HO1.out) gb422 (Nat.le_of_eq hg.symm)) hb);have n1_:=Aside0.mk (below_step (by repeat (first|(with_reducible first|exact HB.out|apply below_alloc|apply pw_below_drewN|apply below_drew1)|exact HB.out)) hb);have n2_:=Aside0.mk (hbox);have n3_:=Aside0.mk ((by rw [hg];exact (below_size (by repeat (first|(with_reducible first|exact HB.out|apply below_alloc|apply pw_below_drewN|apply below_drew1)|exact HB.out))) : w.heap.size ≤ gb422));have n4_:=Aside0.mk ((by rw [hg];exact (below_size (by repeat (first|(with_reducible first|exact HB.out|apply below_alloc|apply pw_below_drewN|apply below_drew1)|exact HB.out))) : w.heap.size ≤ gb422));clear HO1;clear HB;have HO1:=n0_;have HB:=n1_;have BK422:=n2_;have GW422:=n3_;have GE422:=n4_;clear n0_ n1_ n2_ n3_ n4_;clear hb hbox hg))
 (try simp only [Act.put,List.setIfInBounds_toArray,List.set_cons_zero,List.set_cons_succ])
 go_cut [36] (fun v36 wc=>∃ (kq : Nat) (x36_3 : Bool),v36 = .bool x36_3 ∧ Aside0 (ratlinelaw07_BlockTells.j0 kq l0 l1 x36_3 a2_0 a2_1 a2_2 = some r) ∧ Aside0 (kq ≤ k) ∧ Aside0 (Kd.V (Kd.int .u8) 5 wc w.heap.size (fun k_=>(P1_ k_ ∨ w.heap.size ≤ k_) ∧ k_ ≠ gb422) (.slice A1 l1.length c1) l1) ∧ Aside0 (wc.heap[gb422]? = some (.cells #[.string a2_0,.int .u64 a2_1,.int .u8 a2_2] 50 (0,0))) ∧ Aside0 (Below w.heap.size w wc))
 case first =>
  have H:=HC4.out
  clear HC4
  replace H:=Option.bind_eq_some_iff.mp H
  obtain ⟨t423,A60,H⟩:=H
  replace H : (if t423 = true then (if (l1.length : Int) > 1000 then (ratlinelaw07_BlockTells.j0 k l0 l1 true a2_0 a2_1 a2_2) else (ratlinelaw07_BlockTells.j0 k l0 l1 (decide ((a2_0.size : Int) > 70)) a2_0 a2_1 a2_2)) else (ratlinelaw07_BlockTells.j0 k l0 l1 true a2_0 a2_1 a2_2)) = some r:=H
  have A6:=Aside0.mk A60
  clear A60
  by_cases c7 : t423 = true
  ·subst c7
   have H1 : (if (l1.length : Int) > 1000 then (ratlinelaw07_BlockTells.j0 k l0 l1 true a2_0 a2_1 a2_2) else (ratlinelaw07_BlockTells.j0 k l0 l1 (decide ((a2_0.size : Int) > 70)) a2_0 a2_1 a2_2)) = some r:=by rw [if_pos rfl] at H;exact H
   clear H
   have H:=H1
   clear H1
   by_cases c8 : (l1.length : Int) > 1000
   ·rw [if_pos c8] at H
    have c8b0 : decide (1000 < (l1.length : Int)) = true:=decide_eq_true c8
    have c8b1 : decide (1000 < l1.length) = true:=decide_eq_true (by omega)
    clear c8
    (first|rw [c8b0]|(simp only [i64_w,i32_w];rw [c8b0])|skip)
    have H':=Aside0.mk H
    clear H
    go_wp2_with (first|((with_reducible refine gate_callee (f:=20) rfl ?_);refine goesL_ (some 24) rfl rfl Try.func20 (by kernel_rfl) rfl #[.slice A0 l0.length c0,.int .i64 70] rfl (by (try simp only [List.map_toArray,List.map_cons,List.map_nil]);first|done|rfl|(simp only [List.length_drop,List.length_take];rfl)) ?_;(with_reducible refine (ratlinelaw03_Few.calls k _ _ l0 70 true _ ?side1 ?side2 A6.out).mono ?_);(case side1=>repeat (first|exact (Kd.C_below HR0.out HB.out)|(with_reducible refine Kd.C_alloc ?_ _)|(with_reducible refine Kd.C_drewN ?_ _)|(with_reducible refine Kd.C_drew ?_)));(case side2=>exact HC0.out);rintro e w9 ⟨rfl,hb⟩;refine ⟨_,rfl,?_⟩;have n0_:=Aside0.mk (Kd.V_below (by (with_reducible repeat (first|apply Kd.V_alloc|apply Kd.V_drewN|apply Kd.V_drew));exact HO1.out) hb);have n1_:=Aside0.mk (blk_below (g:=gb422) (o:=.cells #[.string a2_0,.int .u64 a2_1,.int .u8 a2_2] 50 (0,0)) (by (with_reducible repeat (first|refine blk_drewN ?_ _|refine blk_drew ?_|refine blk_alloc ?_ _));exact BK422.out) hb);have n2_:=Aside0.mk (below_step (by repeat (first|(with_reducible first|exact HB.out|apply below_alloc|apply pw_below_drewN|apply below_drew1|refine below_set ?_ GE422.out)|exact HB.out)) hb);clear HO1;clear BK422;clear HB;have HO1:=n0_;have BK422:=n1_;have HB:=n2_;clear n0_ n1_ n2_;(try clear hb);(try clear hb2);(try clear hk);(try clear hi)))
    go_meet
    case rel=>exact ⟨_,(true),(by first|rfl|(simp;done)|(simp [*];done)),H',⟨by first|omega|exact Nat.le_refl _⟩,⟨by (with_reducible repeat (first|apply Kd.V_alloc|apply Kd.V_drewN|apply Kd.V_drew));exact HO1.out⟩,⟨by (with_reducible repeat (first|refine blk_drewN ?_ _|refine blk_drew ?_|refine blk_alloc ?_ _));exact BK422.out⟩,⟨by repeat (first|(with_reducible first|exact HB.out|apply below_alloc|apply pw_below_drewN|apply below_drew1|refine below_set ?_ GE422.out)|exact HB.out)⟩⟩
   ·rw [if_neg c8] at H
    have c8b0 : decide (1000 < (l1.length : Int)) = false:=decide_eq_false c8
    have c8b1 : decide (1000 < l1.length) = false:=decide_eq_false (by omega)
    clear c8
    (first|rw [c8b0]|(simp only [i64_w,i32_w];rw [c8b0])|skip)
    have H':=Aside0.mk H
    clear H
    go_wp2_with (first|((with_reducible refine gate_callee (f:=20) rfl ?_);refine goesL_ (some 24) rfl rfl Try.func20 (by kernel_rfl) rfl #[.slice A0 l0.length c0,.int .i64 70] rfl (by (try simp only [List.map_toArray,List.map_cons,List.map_nil]);first|done|rfl|(simp only [List.length_drop,List.length_take];rfl)) ?_;(with_reducible refine (ratlinelaw03_Few.calls k _ _ l0 70 true _ ?side1 ?side2 A6.out).mono ?_);(case side1=>repeat (first|exact (Kd.C_below HR0.out HB.out)|(with_reducible refine Kd.C_alloc ?_ _)|(with_reducible refine Kd.C_drewN ?_ _)|(with_reducible refine Kd.C_drew ?_)));(case side2=>exact HC0.out);rintro e w10 ⟨rfl,hb⟩;refine ⟨_,rfl,?_⟩;have n0_:=Aside0.mk (Kd.V_below (by (with_reducible repeat (first|apply Kd.V_alloc|apply Kd.V_drewN|apply Kd.V_drew));exact HO1.out) hb);have n1_:=Aside0.mk (blk_below (g:=gb422) (o:=.cells #[.string a2_0,.int .u64 a2_1,.int .u8 a2_2] 50 (0,0)) (by (with_reducible repeat (first|refine blk_drewN ?_ _|refine blk_drew ?_|refine blk_alloc ?_ _));exact BK422.out) hb);have n2_:=Aside0.mk (below_step (by repeat (first|(with_reducible first|exact HB.out|apply below_alloc|apply pw_below_drewN|apply below_drew1|refine below_set ?_ GE422.out)|exact HB.out)) hb);clear HO1;clear BK422;clear HB;have HO1:=n0_;have BK422:=n1_;have HB:=n2_;clear n0_ n1_ n2_;(try clear hb);(try clear hb2);(try clear hk);(try clear hi);have hcz11_0 : w10.cell? ⟨gb422,0,none⟩ = some (.string a2_0):=(blk_cell BK422.out 0).trans rfl;have hcz11_1 : w10.cell? ⟨gb422,1,none⟩ = some (.int .u64 a2_1):=(blk_cell BK422.out 1).trans rfl;have hcz11_2 : w10.cell? ⟨gb422,2,none⟩ = some (.int .u8 a2_2):=(blk_cell BK422.out 2).trans rfl;have hfz11_0:=blk_frozen BK422.out 0;have hfz11_1:=blk_frozen BK422.out 1;have hfz11_2:=blk_frozen BK422.out 2))
    go_meet
    case rel=>exact ⟨_,(decide ((a2_0.size : Int) > 70)),(by first|rfl|(simp;done)|(simp [*];done)),H',⟨by first|omega|exact Nat.le_refl _⟩,⟨by (with_reducible repeat (first|apply Kd.V_alloc|apply Kd.V_drewN|apply Kd.V_drew));exact HO1.out⟩,⟨by (with_reducible repeat (first|refine blk_drewN ?_ _|refine blk_drew ?_|refine blk_alloc ?_ _));exact BK422.out⟩,⟨by repeat (first|(with_reducible first|exact HB.out|apply below_alloc|apply pw_below_drewN|apply below_drew1|refine below_set ?_ GE422.out)|exact HB.out)⟩⟩
  ·replace c7:=Bool.eq_false_iff.mpr c7
   subst c7
   have H1 : (ratlinelaw07_BlockTells.j0 k l0 l1 true a2_0 a2_1 a2_2) = some r:=by rw [if_neg (show ¬ (false = true) by decide)] at H;exact H
   clear H
   have H:=H1
   clear H1
   have H':=Aside0.mk H
   clear H
   go_wp2_with (first|((with_reducible refine gate_callee (f:=20) rfl ?_);refine goesL_ (some 24) rfl rfl Try.func20 (by kernel_rfl) rfl #[.slice A0 l0.length c0,.int .i64 70] rfl (by (try simp only [List.map_toArray,List.map_cons,List.map_nil]);first|done|rfl|(simp only [List.length_drop,List.length_take];rfl)) ?_;(with_reducible refine (ratlinelaw03_Few.calls k _ _ l0 70 false _ ?side1 ?side2 A6.out).mono ?_);(case side1=>repeat (first|exact (Kd.C_below HR0.out HB.out)|(with_reducible refine Kd.C_alloc ?_ _)|(with_reducible refine Kd.C_drewN ?_ _)|(with_reducible refine Kd.C_drew ?_)));(case side2=>exact HC0.out);rintro e w12 ⟨rfl,hb⟩;refine ⟨_,rfl,?_⟩;have n0_:=Aside0.mk (Kd.V_below (by (with_reducible repeat (first|apply Kd.V_alloc|apply Kd.V_drewN|apply Kd.V_drew));exact HO1.out) hb);have n1_:=Aside0.mk (blk_below (g:=gb422) (o:=.cells #[.string a2_0,.int .u64 a2_1,.int .u8 a2_2] 50 (0,0)) (by (with_reducible repeat (first|refine blk_drewN ?_ _|refine blk_drew ?_|refine blk_alloc ?_ _));exact BK422.out) hb);have n2_:=Aside0.mk (below_step (by repeat (first|(with_reducible first|exact HB.out|apply below_alloc|apply pw_below_drewN|apply below_drew1|refine below_set ?_ GE422.out)|exact HB.out)) hb);clear HO1;clear BK422;clear HB;have HO1:=n0_;have BK422:=n1_;have HB:=n2_;clear n0_ n1_ n2_;(try clear hb);(try clear hb2);(try clear hk);(try clear hi)))
   go_meet
   case rel=>exact ⟨_,(true),(by first|rfl|(simp;done)|(simp [*];done)),H',⟨by first|omega|exact Nat.le_refl _⟩,⟨by (with_reducible repeat (first|apply Kd.V_alloc|apply Kd.V_drewN|apply Kd.V_drew));exact HO1.out⟩,⟨by (with_reducible repeat (first|refine blk_drewN ?_ _|refine blk_drew ?_|refine blk_alloc ?_ _));exact BK422.out⟩,⟨by repeat (first|(with_reducible first|exact HB.out|apply below_alloc|apply pw_below_drewN|apply below_drew1|refine below_set ?_ GE422.out)|exact HB.out)⟩⟩
 case rest =>
  clear HC4
  try clear c1
  try clear c2
  try clear p2
  try clear c5
  try clear c7
  try clear c8
  try clear c8b0
  try clear c8b1
  try clear hcz11_0
  try clear hcz11_1
  try clear hcz11_2
  try clear hfz11_0
  try clear hfz11_1
  try clear hfz11_2
  obtain ⟨kq,x36_3,rfl,HA,HJ3,HO_1,BK422,HB⟩:=hcut
  cases kq with
  | zero=>exact absurd HA.out (by simp [ratlinelaw07_BlockTells.j0])
  | succ kj3 =>
   have H:=HA.out
   clear HA
   simp only [ratlinelaw07_BlockTells.j0] at H
   by_cases c13 : x36_3 = true
   ·subst c13
    have H1 : ((ratlinelaw07_awake.f kj3).bind fun t424=>(some t424)) = some r:=by rw [if_pos rfl] at H;exact H
    clear H
    have H:=H1
    clear H1
    replace H:=Option.bind_eq_some_iff.mp H
    obtain ⟨t424,A140,H⟩:=H
    replace H : (some t424) = some r:=H
    have A14:=Aside0.mk A140
    clear A140
    obtain rfl:=Option.some.inj H
    go_wp2_with (first|(go_at_call 21;(with_reducible refine (ratlinelaw07_awake.calls kj3  t424 _ A14.out).mono ?_);rintro e w15 ⟨rfl,hb⟩;have n0_:=Aside0.mk (Kd.V_below (by (with_reducible repeat (first|apply Kd.V_alloc|apply Kd.V_drewN|apply Kd.V_drew));exact HO_1.out) hb);have n1_:=Aside0.mk (blk_below (g:=gb422) (o:=.cells #[.string a2_0,.int .u64 a2_1,.int .u8 a2_2] 50 (0,0)) (by (with_reducible repeat (first|refine blk_drewN ?_ _|refine blk_drew ?_|refine blk_alloc ?_ _));exact BK422.out) hb);have n2_:=Aside0.mk (below_step (by repeat (first|(with_reducible first|exact HB.out|apply below_alloc|apply pw_below_drewN|apply below_drew1|refine below_set ?_ GE422.out)|exact HB.out)) hb);clear HO_1;clear BK422;clear HB;have HO_1:=n0_;have BK422:=n1_;have HB:=n2_;clear n0_ n1_ n2_;(try clear hb);(try clear hb2);(try clear hk);(try clear hi);(try apply_assumption)))
    go_ret
    exact ⟨by first|rfl|(simp [errW_none,errW_some] <;> rfl)|(simp [*,errW_none,errW_some] <;> rfl),by repeat (first|(with_reducible first|exact HB.out|apply below_alloc|apply pw_below_drewN|apply below_drew1|refine below_set ?_ GE422.out)|exact HB.out)⟩
   ·replace c13:=Bool.eq_false_iff.mpr c13
    subst c13
    have H1 : ((block_Build.f l0).bind fun bt425=>((ratlineref07_Build.f kj3 l0).bind fun bt429=>((block_Parse.f kj3 l1).bind fun bt433=>((ratlineref07_Parse.f kj3 l1).bind fun bt437=>((ratlinelaw02_Same.f bt425.1 bt429.1).bind fun t441=>(if t441 = true then (if bt425.2 = bt429.2 then ((ratlinelaw04_Entries.f kj3 bt433.1 bt437.1).bind fun t442=>(if t442 = true then (ratlinelaw07_BlockTells.j1 kj3 l1 bt429.1 (bt433.2 != bt437.2) a2_0 a2_1 a2_2) else (ratlinelaw07_BlockTells.j1 kj3 l1 bt429.1 true a2_0 a2_1 a2_2))) else (ratlinelaw07_BlockTells.j1 kj3 l1 bt429.1 true a2_0 a2_1 a2_2)) else (ratlinelaw07_BlockTells.j1 kj3 l1 bt429.1 true a2_0 a2_1 a2_2))))))) = some r:=by rw [if_neg (show ¬ (false = true) by decide)] at H;exact H
    clear H
    have H:=H1
    clear H1
    replace H:=Option.bind_eq_some_iff.mp H
    obtain ⟨⟨t425,t426⟩,A160,H⟩:=H
    replace H : ((ratlineref07_Build.f kj3 l0).bind fun bt429=>((block_Parse.f kj3 l1).bind fun bt433=>((ratlineref07_Parse.f kj3 l1).bind fun bt437=>((ratlinelaw02_Same.f t425 bt429.1).bind fun t441=>(if t441 = true then (if t426 = bt429.2 then ((ratlinelaw04_Entries.f kj3 bt433.1 bt437.1).bind fun t442=>(if t442 = true then (ratlinelaw07_BlockTells.j1 kj3 l1 bt429.1 (bt433.2 != bt437.2) a2_0 a2_1 a2_2) else (ratlinelaw07_BlockTells.j1 kj3 l1 bt429.1 true a2_0 a2_1 a2_2))) else (ratlinelaw07_BlockTells.j1 kj3 l1 bt429.1 true a2_0 a2_1 a2_2)) else (ratlinelaw07_BlockTells.j1 kj3 l1 bt429.1 true a2_0 a2_1 a2_2)))))) = some r:=H
    have A16:=Aside0.mk A160
    clear A160
    replace H:=Option.bind_eq_some_iff.mp H
    obtain ⟨⟨t429,t430⟩,A170,H⟩:=H
    replace H : ((block_Parse.f kj3 l1).bind fun bt433=>((ratlineref07_Parse.f kj3 l1).bind fun bt437=>((ratlinelaw02_Same.f t425 t429).bind fun t441=>(if t441 = true then (if t426 = t430 then ((ratlinelaw04_Entries.f kj3 bt433.1 bt437.1).bind fun t442=>(if t442 = true then (ratlinelaw07_BlockTells.j1 kj3 l1 t429 (bt433.2 != bt437.2) a2_0 a2_1 a2_2) else (ratlinelaw07_BlockTells.j1 kj3 l1 t429 true a2_0 a2_1 a2_2))) else (ratlinelaw07_BlockTells.j1 kj3 l1 t429 true a2_0 a2_1 a2_2)) else (ratlinelaw07_BlockTells.j1 kj3 l1 t429 true a2_0 a2_1 a2_2))))) = some r:=H
    have A17:=Aside0.mk A170
    clear A170
    replace H:=Option.bind_eq_some_iff.mp H
    obtain ⟨⟨t433,t434⟩,A180,H⟩:=H
    replace H : ((ratlineref07_Parse.f kj3 l1).bind fun bt437=>((ratlinelaw02_Same.f t425 t429).bind fun t441=>(if t441 = true then (if t426 = t430 then ((ratlinelaw04_Entries.f kj3 t433 bt437.1).bind fun t442=>(if t442 = true then (ratlinelaw07_BlockTells.j1 kj3 l1 t429 (t434 != bt437.2) a2_0 a2_1 a2_2) else (ratlinelaw07_BlockTells.j1 kj3 l1 t429 true a2_0 a2_1 a2_2))) else (ratlinelaw07_BlockTells.j1 kj3 l1 t429 true a2_0 a2_1 a2_2)) else (ratlinelaw07_BlockTells.j1 kj3 l1 t429 true a2_0 a2_1 a2_2)))) = some r:=H
    have A18:=Aside0.mk A180
    clear A180
    replace H:=Option.bind_eq_some_iff.mp H
    obtain ⟨⟨t437,t440⟩,A190,H⟩:=H
    replace H : ((ratlinelaw02_Same.f t425 t429).bind fun t441=>(if t441 = true then (if t426 = t430 then ((ratlinelaw04_Entries.f kj3 t433 t437).bind fun t442=>(if t442 = true then (ratlinelaw07_BlockTells.j1 kj3 l1 t429 (t434 != t440) a2_0 a2_1 a2_2) else (ratlinelaw07_BlockTells.j1 kj3 l1 t429 true a2_0 a2_1 a2_2))) else (ratlinelaw07_BlockTells.j1 kj3 l1 t429 true a2_0 a2_1 a2_2)) else (ratlinelaw07_BlockTells.j1 kj3 l1 t429 true a2_0 a2_1 a2_2))) = some r:=H
    have A19:=Aside0.mk A190
    clear A190
    have HC20:=Aside0.mk H
    clear H
    go_upto_region 7 with (first|((with_reducible refine gate_callee (f:=22) rfl ?_);refine goesL_ (some 40) rfl rfl Try.func22 (by kernel_rfl) rfl #[.slice A0 l0.length c0] rfl (by (try simp only [List.map_toArray,List.map_cons,List.map_nil]);first|done|rfl|(simp only [List.length_drop,List.length_take];rfl)) ?_;(with_reducible refine (block_Build.calls _ _ l0 t425 t426 _ ?side1 ?side2 A16.out).mono ?_);(case side1=>repeat (first|exact (Kd.C_below HR0.out HB.out)|(with_reducible refine Kd.C_alloc ?_ _)|(with_reducible refine Kd.C_drewN ?_ _)|(with_reducible refine Kd.C_drew ?_)));(case side2=>exact HC0.out);rintro e w21 ⟨v427,rfl,ho0,hb⟩;refine ⟨_,rfl,?_⟩;have n0_:=Aside0.mk (Kd.V_elder' (by (with_reducible repeat (first|apply Kd.V_alloc|apply Kd.V_drewN|apply Kd.V_drew));exact HO_1.out) (Kd.R_base ho0) hb);have n1_:=Aside0.mk (Kd.R_lower (Kd.R_newM (M:=fun k_=>(w.heap.size ≤ k_)) ho0 (below_size (by repeat (first|(with_reducible first|exact HB.out|apply below_alloc|apply pw_below_drewN|apply below_drew1|refine below_set ?_ GE422.out)|exact HB.out))) (fun k_ h_=>h_)) (below_size (by repeat (first|(with_reducible first|exact HB.out|apply below_alloc|apply pw_below_drewN|apply below_drew1|refine below_set ?_ GE422.out)|exact HB.out))));have n2_:=Aside0.mk (blk_below (g:=gb422) (o:=.cells #[.string a2_0,.int .u64 a2_1,.int .u8 a2_2] 50 (0,0)) (by (with_reducible repeat (first|refine blk_drewN ?_ _|refine blk_drew ?_|refine blk_alloc ?_ _));exact BK422.out) hb);have n3_:=Aside0.mk (below_step (by repeat (first|(with_reducible first|exact HB.out|apply below_alloc|apply pw_below_drewN|apply below_drew1|refine below_set ?_ GE422.out)|exact HB.out)) hb);clear HO_1;clear BK422;clear HB;have HO_1:=n0_;have HO428:=n1_;have BK422:=n2_;have HB:=n3_;clear n0_ n1_ n2_ n3_;(try clear hb);(try clear hb2);(try clear hk);(try clear hi);(try clear ho0))|((with_reducible refine gate_callee (f:=23) rfl ?_);refine goesL_ (some 45) rfl rfl Try.func23 (by kernel_rfl) rfl #[.slice A0 l0.length c0] rfl (by (try simp only [List.map_toArray,List.map_cons,List.map_nil]);first|done|rfl|(simp only [List.length_drop,List.length_take];rfl)) ?_;(with_reducible refine (ratlineref07_Build.calls kj3 _ _ l0 t429 t430 _ ?side1 ?side2 A17.out).mono ?_);(case side1=>repeat (first|exact (Kd.C_below HR0.out HB.out)|(with_reducible refine Kd.C_alloc ?_ _)|(with_reducible refine Kd.C_drewN ?_ _)|(with_reducible refine Kd.C_drew ?_)));(case side2=>exact HC0.out);rintro e w22 ⟨v431,rfl,ho0,hb⟩;refine ⟨_,rfl,?_⟩;have n0_:=Aside0.mk (Kd.V_elder' (by (with_reducible repeat (first|apply Kd.V_alloc|apply Kd.V_drewN|apply Kd.V_drew));exact HO_1.out) (Kd.R_base ho0) hb);have n1_:=Aside0.mk (Kd.R_elder' (by (with_reducible repeat (first|apply Kd.R_alloc|apply Kd.R_drewN|apply Kd.R_drew));exact HO428.out) (Kd.R_base ho0) hb);have n2_:=Aside0.mk (Kd.R_lower (Kd.R_new' (Kd.R_newM (M:=fun k_=>(w.heap.size ≤ k_)) ho0 (below_size (by repeat (first|(with_reducible first|exact HB.out|apply below_alloc|apply pw_below_drewN|apply below_drew1|refine below_set ?_ GE422.out)|exact HB.out))) (fun k_ h_=>h_)) (Kd.R_lt (by (with_reducible repeat (first|apply Kd.R_alloc|apply Kd.R_drewN|apply Kd.R_drew));exact HO428.out))) (below_size (by repeat (first|(with_reducible first|exact HB.out|apply below_alloc|apply pw_below_drewN|apply below_drew1|refine below_set ?_ GE422.out)|exact HB.out))));have n3_:=Aside0.mk (blk_below (g:=gb422) (o:=.cells #[.string a2_0,.int .u64 a2_1,.int .u8 a2_2] 50 (0,0)) (by (with_reducible repeat (first|refine blk_drewN ?_ _|refine blk_drew ?_|refine blk_alloc ?_ _));exact BK422.out) hb);have n4_:=Aside0.mk (below_step (by repeat (first|(with_reducible first|exact HB.out|apply below_alloc|apply pw_below_drewN|apply below_drew1|refine below_set ?_ GE422.out)|exact HB.out)) hb);clear HO_1;clear HO428;clear BK422;clear HB;have HO_1:=n0_;have HO428:=n1_;have HO432:=n2_;have BK422:=n3_;have HB:=n4_;clear n0_ n1_ n2_ n3_ n4_;(try clear hb);(try clear hb2);(try clear hk);(try clear hi);(try clear ho0))|((with_reducible refine gate_callee (f:=24) rfl ?_);refine goesL_ (some 50) rfl rfl Try.func24 (by kernel_rfl) rfl #[.slice A1 l1.length c1] rfl (by (try simp only [List.map_toArray,List.map_cons,List.map_nil]);first|done|rfl|(simp only [List.length_drop,List.length_take];rfl)) ?_;(with_reducible refine (block_Parse.calls kj3 _ _ l1 t433 t434 _ ?side1 ?side2 A18.out).mono ?_);(case side1=>repeat (first|exact (Kd.V_reads' HO_1.out).2.2|(with_reducible refine Kd.C_alloc ?_ _)|(with_reducible refine Kd.C_drewN ?_ _)|(with_reducible refine Kd.C_drew ?_)));(case side2=>exact (Kd.V_reads' HO_1.out).2.1);rintro e w23 ⟨v435,rfl,ho0,hb⟩;refine ⟨_,rfl,?_⟩;have n0_:=Aside0.mk (Kd.V_elder' (by (with_reducible repeat (first|apply Kd.V_alloc|apply Kd.V_drewN|apply Kd.V_drew));exact HO_1.out) (Kd.R_base ho0) hb);have n1_:=Aside0.mk (Kd.R_below (by (with_reducible repeat (first|apply Kd.R_alloc|apply Kd.R_drewN|apply Kd.R_drew));exact HO428.out) hb);have n2_:=Aside0.mk (Kd.R_below (by (with_reducible repeat (first|apply Kd.R_alloc|apply Kd.R_drewN|apply Kd.R_drew));exact HO432.out) hb);have n3_:=Aside0.mk (Kd.R_lower (Kd.R_newM (M:=fun k_=>(w.heap.size ≤ k_)) ho0 (below_size (by repeat (first|(with_reducible first|exact HB.out|apply below_alloc|apply pw_below_drewN|apply below_drew1|refine below_set ?_ GE422.out)|exact HB.out))) (fun k_ h_=>h_)) (below_size (by repeat (first|(with_reducible first|exact HB.out|apply below_alloc|apply pw_below_drewN|apply below_drew1|refine below_set ?_ GE422.out)|exact HB.out))));have n4_:=Aside0.mk (blk_below (g:=gb422) (o:=.cells #[.string a2_0,.int .u64 a2_1,.int .u8 a2_2] 50 (0,0)) (by (with_reducible repeat (first|refine blk_drewN ?_ _|refine blk_drew ?_|refine blk_alloc ?_ _));exact BK422.out) hb);have n5_:=Aside0.mk (below_step (by repeat (first|(with_reducible first|exact HB.out|apply below_alloc|apply pw_below_drewN|apply below_drew1|refine below_set ?_ GE422.out)|exact HB.out)) hb);clear HO_1;clear HO428;clear HO432;clear BK422;clear HB;have HO_1:=n0_;have HO428:=n1_;have HO432:=n2_;have HO436:=n3_;have BK422:=n4_;have HB:=n5_;clear n0_ n1_ n2_ n3_ n4_ n5_;(try clear hb);(try clear hb2);(try clear hk);(try clear hi);(try clear ho0))|((with_reducible refine gate_callee (f:=25) rfl ?_);refine goesL_ (some 55) rfl rfl Try.func25 (by kernel_rfl) rfl #[.slice A1 l1.length c1] rfl (by (try simp only [List.map_toArray,List.map_cons,List.map_nil]);first|done|rfl|(simp only [List.length_drop,List.length_take];rfl)) ?_;(with_reducible refine (ratlineref07_Parse.calls kj3 (fun k_=>(((((P1_ k_ ∨ w.heap.size ≤ k_) ∧ k_ ≠ gb422) ∧ some k_ ≠ (v427 : Value).ownBlock) ∧ some k_ ≠ (v431 : Value).ownBlock) ∧ some k_ ≠ (v435 : Value).ownBlock)) _ _ l1 t437 t440 _ ?side1 A19.out).mono ?_);(case side1=>exact HO_1.out);rintro e w24 ⟨v438,rfl,ho0,hb⟩;refine ⟨_,rfl,?_⟩;have n0_:=Aside0.mk (Kd.V_elder' (by (with_reducible repeat (first|apply Kd.V_alloc|apply Kd.V_drewN|apply Kd.V_drew));exact HO_1.out) (Kd.R_base ho0) hb);have n1_:=Aside0.mk (Kd.R_below (by (with_reducible repeat (first|apply Kd.R_alloc|apply Kd.R_drewN|apply Kd.R_drew));exact HO428.out) hb);have n2_:=Aside0.mk (Kd.R_below (by (with_reducible repeat (first|apply Kd.R_alloc|apply Kd.R_drewN|apply Kd.R_drew));exact HO432.out) hb);have n3_:=Aside0.mk (Kd.R_elder' (by (with_reducible repeat (first|apply Kd.R_alloc|apply Kd.R_drewN|apply Kd.R_drew));exact HO436.out) (Kd.R_base ho0) hb);have n4_:=Aside0.mk (Kd.R_lower (Kd.R_new' (Kd.R_newM (M:=fun k_=>(w.heap.size ≤ k_)) (Kd.R_mono (ok':=fun k_=>True) ho0 (fun _ hk_=>trivial)) (below_size (by repeat (first|(with_reducible first|exact HB.out|apply below_alloc|apply pw_below_drewN|apply below_drew1|refine below_set ?_ GE422.out)|exact HB.out))) (fun k_ h_=>h_)) (Kd.R_lt (by (with_reducible repeat (first|apply Kd.R_alloc|apply Kd.R_drewN|apply Kd.R_drew));exact HO436.out))) (below_size (by repeat (first|(with_reducible first|exact HB.out|apply below_alloc|apply pw_below_drewN|apply below_drew1|refine below_set ?_ GE422.out)|exact HB.out))));have n5_:=Aside0.mk (blk_below (g:=gb422) (o:=.cells #[.string a2_0,.int .u64 a2_1,.int .u8 a2_2] 50 (0,0)) (by (with_reducible repeat (first|refine blk_drewN ?_ _|refine blk_drew ?_|refine blk_alloc ?_ _));exact BK422.out) hb);have n6_:=Aside0.mk (below_step (by repeat (first|(with_reducible first|exact HB.out|apply below_alloc|apply pw_below_drewN|apply below_drew1|refine below_set ?_ GE422.out)|exact HB.out)) hb);clear HO_1;clear HO428;clear HO432;clear HO436;clear BK422;clear HB;have HO_1:=n0_;have HO428:=n1_;have HO432:=n2_;have HO436:=n3_;have HO439:=n4_;have BK422:=n5_;have HB:=n6_;clear n0_ n1_ n2_ n3_ n4_ n5_ n6_;(try clear hb);(try clear hb2);(try clear hk);(try clear hi);(try clear ho0)))
    (try simp only [Act.put,List.setIfInBounds_toArray,List.set_cons_zero,List.set_cons_succ])
    go_cut [77] (fun v77 wc=>∃ (kq : Nat) (x77_19 : Bool),v77 = .bool x77_19 ∧ Aside0 (ratlinelaw07_BlockTells.j1 kq l1 t429 x77_19 a2_0 a2_1 a2_2 = some r) ∧ Aside0 (kq ≤ kj3) ∧ Aside0 (Kd.V (Kd.int .u8) 5 wc w.heap.size (fun k_=>(P1_ k_ ∨ w.heap.size ≤ k_) ∧ some k_ ≠ (v431 : Value).ownBlock ∧ k_ ≠ gb422) (.slice A1 l1.length c1) l1) ∧ Aside0 (Kd.R (Kd.int .u8) 5 wc w.heap.size (fun k_=>(w.heap.size ≤ k_)) v431 t429) ∧ Aside0 (wc.heap[gb422]? = some (.cells #[.string a2_0,.int .u64 a2_1,.int .u8 a2_2] 50 (0,0))) ∧ Aside0 (Below w.heap.size w wc))
    case first =>
     have H:=HC20.out
     clear HC20
     replace H:=Option.bind_eq_some_iff.mp H
     obtain ⟨t441,A250,H⟩:=H
     replace H : (if t441 = true then (if t426 = t430 then ((ratlinelaw04_Entries.f kj3 t433 t437).bind fun t442=>(if t442 = true then (ratlinelaw07_BlockTells.j1 kj3 l1 t429 (t434 != t440) a2_0 a2_1 a2_2) else (ratlinelaw07_BlockTells.j1 kj3 l1 t429 true a2_0 a2_1 a2_2))) else (ratlinelaw07_BlockTells.j1 kj3 l1 t429 true a2_0 a2_1 a2_2)) else (ratlinelaw07_BlockTells.j1 kj3 l1 t429 true a2_0 a2_1 a2_2)) = some r:=H
     have A25:=Aside0.mk A250
     clear A250
     by_cases c26 : t441 = true
     ·subst c26
      have H1 : (if t426 = t430 then ((ratlinelaw04_Entries.f kj3 t433 t437).bind fun t442=>(if t442 = true then (ratlinelaw07_BlockTells.j1 kj3 l1 t429 (t434 != t440) a2_0 a2_1 a2_2) else (ratlinelaw07_BlockTells.j1 kj3 l1 t429 true a2_0 a2_1 a2_2))) else (ratlinelaw07_BlockTells.j1 kj3 l1 t429 true a2_0 a2_1 a2_2)) = some r:=by rw [if_pos rfl] at H;exact H
      clear H
      have H:=H1
      clear H1
      by_cases c27 : t426 = t430
      ·rw [if_pos c27] at H
       have c27b0 : (t426 == t430) = true:=beq_iff_eq.mpr c27
       have c27b1 : (t426 != t430) = false:=bne_eq_false_iff_eq.mpr c27
       clear c27
       (first|rw [c27b0]|(simp only [i64_w,i32_w];rw [c27b0])|skip)
       replace H:=Option.bind_eq_some_iff.mp H
       obtain ⟨t442,A280,H⟩:=H
       replace H : (if t442 = true then (ratlinelaw07_BlockTells.j1 kj3 l1 t429 (t434 != t440) a2_0 a2_1 a2_2) else (ratlinelaw07_BlockTells.j1 kj3 l1 t429 true a2_0 a2_1 a2_2)) = some r:=H
       have A28:=Aside0.mk A280
       clear A280
       by_cases c29 : t442 = true
       ·subst c29
        have H1 : (ratlinelaw07_BlockTells.j1 kj3 l1 t429 (t434 != t440) a2_0 a2_1 a2_2) = some r:=by rw [if_pos rfl] at H;exact H
        clear H
        have H:=H1
        clear H1
        have H':=Aside0.mk H
        clear H
        obtain ⟨Ao30,co30,eo30⟩:=Kd.R_slice HO428.out
        subst eo30
        obtain ⟨Ao31,co31,eo31⟩:=Kd.R_slice HO432.out
        subst eo31
        go_wp2_with (first|((with_reducible refine gate_callee (f:=26) rfl ?_);refine goesL_ (some 60) rfl rfl Try.func26 (by kernel_rfl) rfl #[.slice Ao30 t425.length co30,.slice Ao31 t429.length co31] rfl (by (try simp only [List.map_toArray,List.map_cons,List.map_nil]);first|done|rfl|(simp only [List.length_drop,List.length_take];rfl)) ?_;(with_reducible refine (ratlinelaw02_Same.calls _ _ t425 _ _ t429 true _ ?side1 ?side2 ?side3 ?side4 A25.out).mono ?_);(case side1=>repeat (first|exact (Kd.R_reads' HO428.out).2.2|(with_reducible refine Kd.C_alloc ?_ _)|(with_reducible refine Kd.C_drewN ?_ _)|(with_reducible refine Kd.C_drew ?_)));(case side2=>exact (Kd.R_reads' HO428.out).2.1);(case side3=>repeat (first|exact (Kd.R_reads' HO432.out).2.2|(with_reducible refine Kd.C_alloc ?_ _)|(with_reducible refine Kd.C_drewN ?_ _)|(with_reducible refine Kd.C_drew ?_)));(case side4=>exact (Kd.R_reads' HO432.out).2.1);rintro e w' ⟨rfl,⟨nd,rfl⟩⟩;refine ⟨_,rfl,?_⟩;obtain ⟨Ao32,co32,eo32⟩:=Kd.R_slice HO436.out;subst eo32;obtain ⟨Ao33,co33,eo33⟩:=Kd.R_slice HO439.out;subst eo33)|(go_at_call 27;(with_reducible refine (ratlinelaw04_Entries.calls kj3 _ _ t433 _ _ t437 true _ ?side1 ?side2 ?side3 ?side4 A28.out).mono ?_);(case side1=>repeat (first|exact (Kd.R_reads' HO436.out).2.2|(with_reducible refine Kd.C_alloc ?_ _)|(with_reducible refine Kd.C_drewN ?_ _)|(with_reducible refine Kd.C_drew ?_)));(case side2=>exact (Kd.R_reads' HO436.out).2.1);(case side3=>repeat (first|exact (Kd.R_reads' HO439.out).2.2|(with_reducible refine Kd.C_alloc ?_ _)|(with_reducible refine Kd.C_drewN ?_ _)|(with_reducible refine Kd.C_drew ?_)));(case side4=>exact (Kd.R_reads' HO439.out).2.1);rintro e w' ⟨rfl,⟨nd,rfl⟩⟩))
        go_meet
        case rel=>exact ⟨_,((t434 != t440)),(by first|rfl|(simp;done)|(simp [*];done)),H',⟨by have:=HJ3.out;first|omega|exact Nat.le_refl _⟩,⟨by (with_reducible repeat (first|apply Kd.V_alloc|apply Kd.V_drewN|apply Kd.V_drew));exact Kd.V_mono HO_1.out (fun _ hk=>⟨hk.1.1.1.1.1,⟨hk.1.1.2,hk.1.1.1.1.2⟩⟩)⟩,⟨by (with_reducible repeat (first|apply Kd.R_alloc|apply Kd.R_drewN|apply Kd.R_drew));exact Kd.R_mono HO432.out (fun _ hk=>hk.1.1)⟩,⟨by (with_reducible repeat (first|refine blk_drewN ?_ _|refine blk_drew ?_|refine blk_alloc ?_ _));exact BK422.out⟩,⟨by repeat (first|(with_reducible first|exact HB.out|apply below_alloc|apply pw_below_drewN|apply below_drew1|refine below_set ?_ GE422.out)|exact HB.out)⟩⟩
       ·replace c29:=Bool.eq_false_iff.mpr c29
        subst c29
        have H1 : (ratlinelaw07_BlockTells.j1 kj3 l1 t429 true a2_0 a2_1 a2_2) = some r:=by rw [if_neg (show ¬ (false = true) by decide)] at H;exact H
        clear H
        have H:=H1
        clear H1
        have H':=Aside0.mk H
        clear H
        obtain ⟨Ao34,co34,eo34⟩:=Kd.R_slice HO428.out
        subst eo34
        obtain ⟨Ao35,co35,eo35⟩:=Kd.R_slice HO432.out
        subst eo35
        go_wp2_with (first|((with_reducible refine gate_callee (f:=26) rfl ?_);refine goesL_ (some 60) rfl rfl Try.func26 (by kernel_rfl) rfl #[.slice Ao34 t425.length co34,.slice Ao35 t429.length co35] rfl (by (try simp only [List.map_toArray,List.map_cons,List.map_nil]);first|done|rfl|(simp only [List.length_drop,List.length_take];rfl)) ?_;(with_reducible refine (ratlinelaw02_Same.calls _ _ t425 _ _ t429 true _ ?side1 ?side2 ?side3 ?side4 A25.out).mono ?_);(case side1=>repeat (first|exact (Kd.R_reads' HO428.out).2.2|(with_reducible refine Kd.C_alloc ?_ _)|(with_reducible refine Kd.C_drewN ?_ _)|(with_reducible refine Kd.C_drew ?_)));(case side2=>exact (Kd.R_reads' HO428.out).2.1);(case side3=>repeat (first|exact (Kd.R_reads' HO432.out).2.2|(with_reducible refine Kd.C_alloc ?_ _)|(with_reducible refine Kd.C_drewN ?_ _)|(with_reducible refine Kd.C_drew ?_)));(case side4=>exact (Kd.R_reads' HO432.out).2.1);rintro e w' ⟨rfl,⟨nd,rfl⟩⟩;refine ⟨_,rfl,?_⟩;obtain ⟨Ao36,co36,eo36⟩:=Kd.R_slice HO436.out;subst eo36;obtain ⟨Ao37,co37,eo37⟩:=Kd.R_slice HO439.out;subst eo37)|(go_at_call 27;(with_reducible refine (ratlinelaw04_Entries.calls kj3 _ _ t433 _ _ t437 false _ ?side1 ?side2 ?side3 ?side4 A28.out).mono ?_);(case side1=>repeat (first|exact (Kd.R_reads' HO436.out).2.2|(with_reducible refine Kd.C_alloc ?_ _)|(with_reducible refine Kd.C_drewN ?_ _)|(with_reducible refine Kd.C_drew ?_)));(case side2=>exact (Kd.R_reads' HO436.out).2.1);(case side3=>repeat (first|exact (Kd.R_reads' HO439.out).2.2|(with_reducible refine Kd.C_alloc ?_ _)|(with_reducible refine Kd.C_drewN ?_ _)|(with_reducible refine Kd.C_drew ?_)));(case side4=>exact (Kd.R_reads' HO439.out).2.1);rintro e w' ⟨rfl,⟨nd,rfl⟩⟩))
        go_meet
        case rel=>exact ⟨_,(true),(by first|rfl|(simp;done)|(simp [*];done)),H',⟨by have:=HJ3.out;first|omega|exact Nat.le_refl _⟩,⟨by (with_reducible repeat (first|apply Kd.V_alloc|apply Kd.V_drewN|apply Kd.V_drew));exact Kd.V_mono HO_1.out (fun _ hk=>⟨hk.1.1.1.1.1,⟨hk.1.1.2,hk.1.1.1.1.2⟩⟩)⟩,⟨by (with_reducible repeat (first|apply Kd.R_alloc|apply Kd.R_drewN|apply Kd.R_drew));exact Kd.R_mono HO432.out (fun _ hk=>hk.1.1)⟩,⟨by (with_reducible repeat (first|refine blk_drewN ?_ _|refine blk_drew ?_|refine blk_alloc ?_ _));exact BK422.out⟩,⟨by repeat (first|(with_reducible first|exact HB.out|apply below_alloc|apply pw_below_drewN|apply below_drew1|refine below_set ?_ GE422.out)|exact HB.out)⟩⟩
      ·rw [if_neg c27] at H
       have c27b0 : (t426 == t430) = false:=beq_eq_false_iff_ne.mpr c27
       have c27b1 : (t426 != t430) = true:=bne_iff_ne.mpr c27
       (first|rw [c27b0]|(simp only [i64_w,i32_w];rw [c27b0])|skip)
       have H':=Aside0.mk H
       clear H
       obtain ⟨Ao38,co38,eo38⟩:=Kd.R_slice HO428.out
       subst eo38
       obtain ⟨Ao39,co39,eo39⟩:=Kd.R_slice HO432.out
       subst eo39
       go_wp2_with (first|((with_reducible refine gate_callee (f:=26) rfl ?_);refine goesL_ (some 60) rfl rfl Try.func26 (by kernel_rfl) rfl #[.slice Ao38 t425.length co38,.slice Ao39 t429.length co39] rfl (by (try simp only [List.map_toArray,List.map_cons,List.map_nil]);first|done|rfl|(simp only [List.length_drop,List.length_take];rfl)) ?_;(with_reducible refine (ratlinelaw02_Same.calls _ _ t425 _ _ t429 true _ ?side1 ?side2 ?side3 ?side4 A25.out).mono ?_);(case side1=>repeat (first|exact (Kd.R_reads' HO428.out).2.2|(with_reducible refine Kd.C_alloc ?_ _)|(with_reducible refine Kd.C_drewN ?_ _)|(with_reducible refine Kd.C_drew ?_)));(case side2=>exact (Kd.R_reads' HO428.out).2.1);(case side3=>repeat (first|exact (Kd.R_reads' HO432.out).2.2|(with_reducible refine Kd.C_alloc ?_ _)|(with_reducible refine Kd.C_drewN ?_ _)|(with_reducible refine Kd.C_drew ?_)));(case side4=>exact (Kd.R_reads' HO432.out).2.1);rintro e w' ⟨rfl,⟨nd,rfl⟩⟩;refine ⟨_,rfl,?_⟩))
       go_meet
       case rel=>exact ⟨_,(true),(by first|rfl|(simp;done)|(simp [*];done)),H',⟨by have:=HJ3.out;first|omega|exact Nat.le_refl _⟩,⟨by (with_reducible repeat (first|apply Kd.V_alloc|apply Kd.V_drewN|apply Kd.V_drew));exact Kd.V_mono HO_1.out (fun _ hk=>⟨hk.1.1.1.1.1,⟨hk.1.1.2,hk.1.1.1.1.2⟩⟩)⟩,⟨by (with_reducible repeat (first|apply Kd.R_alloc|apply Kd.R_drewN|apply Kd.R_drew));exact Kd.R_mono HO432.out (fun _ hk=>hk.1.1)⟩,⟨by (with_reducible repeat (first|refine blk_drewN ?_ _|refine blk_drew ?_|refine blk_alloc ?_ _));exact BK422.out⟩,⟨by repeat (first|(with_reducible first|exact HB.out|apply below_alloc|apply pw_below_drewN|apply below_drew1|refine below_set ?_ GE422.out)|exact HB.out)⟩⟩
     ·replace c26:=Bool.eq_false_iff.mpr c26
      subst c26
      have H1 : (ratlinelaw07_BlockTells.j1 kj3 l1 t429 true a2_0 a2_1 a2_2) = some r:=by rw [if_neg (show ¬ (false = true) by decide)] at H;exact H
      clear H
      have H:=H1
      clear H1
      have H':=Aside0.mk H
      clear H
      obtain ⟨Ao40,co40,eo40⟩:=Kd.R_slice HO428.out
      subst eo40
      obtain ⟨Ao41,co41,eo41⟩:=Kd.R_slice HO432.out
      subst eo41
      go_wp2_with (first|((with_reducible refine gate_callee (f:=26) rfl ?_);refine goesL_ (some 60) rfl rfl Try.func26 (by kernel_rfl) rfl #[.slice Ao40 t425.length co40,.slice Ao41 t429.length co41] rfl (by (try simp only [List.map_toArray,List.map_cons,List.map_nil]);first|done|rfl|(simp only [List.length_drop,List.length_take];rfl)) ?_;(with_reducible refine (ratlinelaw02_Same.calls _ _ t425 _ _ t429 false _ ?side1 ?side2 ?side3 ?side4 A25.out).mono ?_);(case side1=>repeat (first|exact (Kd.R_reads' HO428.out).2.2|(with_reducible refine Kd.C_alloc ?_ _)|(with_reducible refine Kd.C_drewN ?_ _)|(with_reducible refine Kd.C_drew ?_)));(case side2=>exact (Kd.R_reads' HO428.out).2.1);(case side3=>repeat (first|exact (Kd.R_reads' HO432.out).2.2|(with_reducible refine Kd.C_alloc ?_ _)|(with_reducible refine Kd.C_drewN ?_ _)|(with_reducible refine Kd.C_drew ?_)));(case side4=>exact (Kd.R_reads' HO432.out).2.1);rintro e w' ⟨rfl,⟨nd,rfl⟩⟩;refine ⟨_,rfl,?_⟩))
      go_meet
      case rel=>exact ⟨_,(true),(by first|rfl|(simp;done)|(simp [*];done)),H',⟨by have:=HJ3.out;first|omega|exact Nat.le_refl _⟩,⟨by (with_reducible repeat (first|apply Kd.V_alloc|apply Kd.V_drewN|apply Kd.V_drew));exact Kd.V_mono HO_1.out (fun _ hk=>⟨hk.1.1.1.1.1,⟨hk.1.1.2,hk.1.1.1.1.2⟩⟩)⟩,⟨by (with_reducible repeat (first|apply Kd.R_alloc|apply Kd.R_drewN|apply Kd.R_drew));exact Kd.R_mono HO432.out (fun _ hk=>hk.1.1)⟩,⟨by (with_reducible repeat (first|refine blk_drewN ?_ _|refine blk_drew ?_|refine blk_alloc ?_ _));exact BK422.out⟩,⟨by repeat (first|(with_reducible first|exact HB.out|apply below_alloc|apply pw_below_drewN|apply below_drew1|refine below_set ?_ GE422.out)|exact HB.out)⟩⟩
    case rest =>
     clear HC20
     try clear c1
     try clear c2
     try clear p2
     try clear c5
     try clear c7
     try clear c8
     try clear c8b0
     try clear c8b1
     try clear c13
     try clear c20
     try clear c22
     try clear c23
     try clear c24
     try clear c25
     try clear c26
     try clear c27
     try clear c27b0
     try clear c27b1
     try clear c29
     try clear hcz11_0
     try clear hcz11_1
     try clear hcz11_2
     try clear hfz11_0
     try clear hfz11_1
     try clear hfz11_2
     try clear p2
     obtain ⟨kq,x77_19,rfl,HA,HJ19,HO_1,HO_9,BK422,HB⟩:=hcut
     cases kq with
     | zero=>exact absurd HA.out (by simp [ratlinelaw07_BlockTells.j1])
     | succ kj19 =>
      have H:=HA.out
      clear HA
      simp only [ratlinelaw07_BlockTells.j1] at H
      by_cases c42 : x77_19 = true
      ·subst c42
       have H1 : (none) = some r:=by rw [if_pos rfl] at H;exact H
       clear H
       have H:=H1
       clear H1
       exact absurd H (by simp)
      ·replace c42:=Bool.eq_false_iff.mpr c42
       subst c42
       have H1 : ((some (([l1,t429] : List (List Int)) : List (List Int))).bind fun y443=>(ratlinelaw07_BlockTells.l0 kj19 y443 (y443.length : Int) 0 a2_0 a2_1 a2_2)) = some r:=by rw [if_neg (show ¬ (false = true) by decide)] at H;exact H
       clear H
       have H:=H1
       clear H1
       obtain ⟨y443,hy443⟩ : ∃ y_ : List (List Int),y_ = (([l1,t429] : List (List Int))):=⟨_,rfl⟩
       replace H : (ratlinelaw07_BlockTells.l0 kj19 y443 (y443.length : Int) 0 a2_0 a2_1 a2_2) = some r:=by first|(rw [hy443];with_reducible exact H)|(have H2_:=(Option.bind_some _ _).symm.trans H;rw [hy443];with_reducible exact H2_)|(have H2_:=(Option.bind_some _ _).symm.trans H;with_reducible exact H2_)|with_reducible exact H|(rw [hy443];exact H)|exact H
       have Ny443:=Aside0.mk hy443
       clear hy443
       have H':=Aside0.mk H
       clear H
       obtain ⟨Ao43,co43,eo43⟩:=Kd.R_slice HO_9.out
       subst eo43
       go_wp2_with (first|((with_reducible refine gate_dst (N:=80) rfl ?_);(try (refine gate_guard (by rfl) ?_;dsimp only));refine Kd.N_lit (Kd.slice 5 (Kd.int .u8)) _ 26 ?hg (N':=80) ?hd (xs:=([l1,t429] : List (List Int))) (inner:=[.slice A1 l1.length c1,.slice Ao43 t429.length co43]) (ok:=(fun k_=>(P1_ k_ ∨ w.heap.size ≤ k_) ∧ k_ ≠ gb422)) (okp:=(fun k_=>(P1_ k_ ∨ w.heap.size ≤ k_) ∧ k_ ≠ gb422)) ?hr ?hp (fun _ hk=>hk) ((show ∀ k_,wc.heap.size ≤ k_ → (fun k_=>(P1_ k_ ∨ w.heap.size ≤ k_) ∧ k_ ≠ gb422) k_ from fun k_ hk=>⟨(.inr (Nat.le_trans (below_size (by repeat (first|(with_reducible first|exact HB.out|apply below_alloc|apply pw_below_drewN|apply below_drew1|refine below_set ?_ GE422.out)|exact HB.out))) hk)),Kd.freshB (g:=gb422) (o:=.cells #[.string a2_0,.int .u64 a2_1,.int .u8 a2_2] 50 (0,0)) (by (with_reducible repeat (first|refine blk_drewN ?_ _|refine blk_drew ?_|refine blk_alloc ?_ _));exact BK422.out) k_ hk⟩) _ (Nat.le_refl _)) (Below.refl _ _) (Nat.le_refl _) (by simp) ?_;(case hd=>rfl);(case hg=>rfl);(case hr=>first|(go_simp;done)|(go_simp;rfl));(case hp=>exact (Reps.one (show Kd.FK (Kd.slice 5 (Kd.int .u8)) _ _ l1 [.slice A1 l1.length c1] from (Kd.FK_slice_mk (Kd.V_reads' (Kd.V_mono (ok':=(fun k_=>(P1_ k_ ∨ w.heap.size ≤ k_) ∧ k_ ≠ gb422)) (HO_1.out) (fun k_ hk=>⟨hk.1,hk.2.2⟩))).2.1 (Kd.V_F (Kd.V_mono (ok':=(fun k_=>(P1_ k_ ∨ w.heap.size ≤ k_) ∧ k_ ≠ gb422)) (HO_1.out) (fun k_ hk=>⟨hk.1,hk.2.2⟩))))) (Reps.one (show Kd.FK (Kd.slice 5 (Kd.int .u8)) _ _ t429 [.slice Ao43 t429.length co43] from (Kd.FK_slice_mk (Kd.R_reads' (Kd.R_mono (ok':=(fun k_=>(P1_ k_ ∨ w.heap.size ≤ k_) ∧ k_ ≠ gb422)) (Kd.R_types (HO_9.out) BK422.out (by decide)) (fun k_ hk=>⟨(.inr (hk.1)),hk.2⟩))).2.1 (Kd.R_F (Kd.R_mono (ok':=(fun k_=>(P1_ k_ ∨ w.heap.size ≤ k_) ∧ k_ ≠ gb422)) (Kd.R_types (HO_9.out) BK422.out (by decide)) (fun k_ hk=>⟨(.inr (hk.1)),hk.2⟩))))) (Reps.none _ _))));intro v444 w44 ho45 hb hg_ hnew_;clear hg_ hnew_;(first|rw [← Ny443.out] at ho45|(simp only [Int.reduceToNat] at ho45;rw [← Ny443.out] at ho45));have n0_:=Aside0.mk (Kd.V_elder' (by (with_reducible repeat (first|apply Kd.V_alloc|apply Kd.V_drewN|apply Kd.V_drew));exact HO_1.out) (Kd.N_base ho45) hb);have n1_:=Aside0.mk (Kd.N_lower ho45 (below_size (by repeat (first|(with_reducible first|exact HB.out|apply below_alloc|apply pw_below_drewN|apply below_drew1|refine below_set ?_ GE422.out)|exact HB.out))));have n2_:=Aside0.mk (blk_below (g:=gb422) (o:=.cells #[.string a2_0,.int .u64 a2_1,.int .u8 a2_2] 50 (0,0)) (by (with_reducible repeat (first|refine blk_drewN ?_ _|refine blk_drew ?_|refine blk_alloc ?_ _));exact BK422.out) hb);have n3_:=Aside0.mk (below_step (by repeat (first|(with_reducible first|exact HB.out|apply below_alloc|apply pw_below_drewN|apply below_drew1|refine below_set ?_ GE422.out)|exact HB.out)) hb);clear HO_1;clear BK422;clear HB;clear HO_9;have HO_1:=n0_;have HO445:=n1_;have BK422:=n2_;have HB:=n3_;clear n0_ n1_ n2_ n3_;clear hb ho45;obtain ⟨Ao46,co46,eo46⟩:=Kd.N_slice HO445.out;subst eo46))
       go_loopg [82] kj19 (fun kq v82 w'=>∃ (x82_3 : Int),v82 = .int .i64 x82_3 ∧ Aside0 (ratlinelaw07_BlockTells.l0 kq y443 (y443.length : Int) x82_3 a2_0 a2_1 a2_2 = some r) ∧ Aside0 (kq ≤ kj19) ∧ Aside0 (Kd.N (Kd.slice 5 (Kd.int .u8)) 26 w' w.heap.size (fun k_=>(P1_ k_ ∨ w.heap.size ≤ k_) ∧ k_ ≠ gb422) (.slice Ao46 y443.length co46) y443) ∧ Aside0 (w'.heap[gb422]? = some (.cells #[.string a2_0,.int .u64 a2_1,.int .u8 a2_2] 50 (0,0))) ∧ Aside0 (Below w.heap.size w w'))
       case atStart=>exact ⟨(0),(by first|rfl|(simp;done)|(simp [*];done)),H',⟨Nat.le_refl _⟩,⟨by (with_reducible repeat (first|apply Kd.N_alloc|apply Kd.N_drewN|apply Kd.N_drew));exact HO445.out⟩,⟨by (with_reducible repeat (first|refine blk_drewN ?_ _|refine blk_drew ?_|refine blk_alloc ?_ _));exact BK422.out⟩,⟨by repeat (first|(with_reducible first|exact HB.out|apply below_alloc|apply pw_below_drewN|apply below_drew1|refine below_set ?_ GE422.out)|exact HB.out)⟩⟩
       case round =>
        clear H'
        try clear c1
        try clear c2
        try clear p2
        try clear c4
        try clear c5
        try clear c7
        try clear c8
        try clear c8b0
        try clear c8b1
        try clear c13
        try clear c20
        try clear c22
        try clear c23
        try clear c24
        try clear c25
        try clear c26
        try clear c27
        try clear c27b0
        try clear c27b1
        try clear c29
        try clear c42
        try clear hcz11_0
        try clear hcz11_1
        try clear hcz11_2
        try clear hfz11_0
        try clear hfz11_1
        try clear hfz11_2
        try clear p2
        obtain ⟨x82_3,rfl,HA,HK3,HO_80,BK422,HB⟩:=hrel
        cases gk with
        | zero=>exact absurd HA.out (by simp [ratlinelaw07_BlockTells.l0])
        | succ k3 =>
         have H:=HA.out
         clear HA
         simp only [ratlinelaw07_BlockTells.l0] at H
         by_cases c47 : x82_3 < (y443.length : Int)
         ·rw [if_pos c47] at H
          have c47b0 : decide (x82_3 < (y443.length : Int)) = true:=decide_eq_true c47
          clear c47
          by_cases c48 : 0 ≤ x82_3
          ·rw [if_pos c48] at H
           have c48b0 : decide (0 ≤ x82_3) = true:=decide_eq_true c48
           clear c48
           by_cases c49 : x82_3 < (y443.length : Int)
           ·rw [if_pos c49] at H
            have c49b0 : decide (x82_3 < (y443.length : Int)) = true:=decide_eq_true c49
            clear c49
            replace H:=Option.bind_eq_some_iff.mp H
            obtain ⟨⟨t448,t449,t450,t451,t452,t453⟩,A500,H⟩:=H
            replace H : ((ratlineref07_Seek.f k3 (rd_L5 y443 x82_3) a2_0 a2_1 a2_2).bind fun bt455=>(if ((!(t448.toList == bt455.1.toList) || (!(t449 == bt455.2.1) || (!(t450 == bt455.2.2.1)))) || (!(t451.toList == bt455.2.2.2.1.toList))) = true then (none) else (if (t452 != bt455.2.2.2.2.1) = true then (none) else (if t453 = bt455.2.2.2.2.2 then (ratlinelaw07_BlockTells.l0 k3 y443 (y443.length : Int) (wrap64 (x82_3 + 1)) a2_0 a2_1 a2_2) else (none))))) = some r:=H
            have A50:=Aside0.mk A500
            clear A500
            replace H:=Option.bind_eq_some_iff.mp H
            obtain ⟨⟨t455,t456,t457,t458,t459,t460⟩,A510,H⟩:=H
            replace H : (if ((!(t448.toList == t455.toList) || (!(t449 == t456) || (!(t450 == t457)))) || (!(t451.toList == t458.toList))) = true then (none) else (if (t452 != t459) = true then (none) else (if t453 = t460 then (ratlinelaw07_BlockTells.l0 k3 y443 (y443.length : Int) (wrap64 (x82_3 + 1)) a2_0 a2_1 a2_2) else (none)))) = some r:=H
            have A51:=Aside0.mk A510
            clear A510
            by_cases c52 : ((!(t448.toList == t455.toList) || (!(t449 == t456) || (!(t450 == t457)))) || (!(t451.toList == t458.toList))) = true
            ·rw [if_pos c52] at H
             exact absurd H (by simp)
            ·rw [if_neg c52] at H
             have c52b0 : ((!(t448.toList == t455.toList) || (!(t449 == t456) || (!(t450 == t457)))) || (!(t451.toList == t458.toList))) = false:=by simpa using c52
             clear c52
             by_cases c53 : (t452 != t459) = true
             ·rw [if_pos c53] at H
              exact absurd H (by simp)
             ·rw [if_neg c53] at H
              have c53b0 : (t452 != t459) = false:=by simpa using c53
              (try (have c53b1 : decide (t452 = t459) = true:=by simpa using c53))
              (try (have c53b2 : (t452 == t459) = true:=by simpa using c53))
              clear c53
              by_cases c54 : t453 = t460
              ·rw [if_pos c54] at H
               have c54b0 : (t453 == t460) = true:=beq_iff_eq.mpr c54
               have c54b1 : (t453 != t460) = false:=bne_eq_false_iff_eq.mpr c54
               clear c54
               have H':=Aside0.mk H
               clear H
               have p447 : 0 ≤ (x82_3 : Int):=of_decide_eq_true (by first|(with_reducible assumption)|assumption)
               have q447 : x82_3 < (y443.length : Int):=of_decide_eq_true (by first|(with_reducible assumption)|assumption)
               obtain ⟨ad447,A447_0,c447_0,e447,hx447_0,hl447_0,hi447_0⟩:=at_L5 (Kd.N_reads' HO_80.out).2.2 x82_3 p447 q447
               cases e447
               obtain ⟨ce447,hce447,hMe447,hcc447⟩:=Kd.N_get HO_80.out [] x82_3 p447 (by first|exact q447|exact of_decide_eq_true (by first|(with_reducible assumption)|assumption)|(have e_:=(Kd.N_reads' HO_80.out).1;omega))
               obtain ⟨ua447_0,uc447_0,rfl,ul447_0,ge447_0⟩:=Kd.FK_slice_open hMe447
               have hv447_0:=hcc447 0 _ rfl
               rw [Nat.add_zero,show ((Kd.slice 5 (Kd.int .u8))).sz = 1 from rfl,Nat.mul_one] at hv447_0
               replace hv447_0:=Option.some.inj (hv447_0.symm.trans hx447_0)
               injection hv447_0 with hva_ hvn_ hvc_
               rw [hva_] at ge447_0
               rw [hvc_] at ul447_0
               have HL447_0:=Aside0.mk (show Kd.V (Kd.int .u8) 5 _ w.heap.size _ _ (rd_L5 y443 x82_3) from Kd.V_mk ul447_0 ge447_0)
               clear hva_ hvn_ hvc_ ge447_0 ul447_0
               clear hcc447 hce447
               have HR447_0:=Aside0.mk hi447_0
               have HC447_0:=Aside0.mk hl447_0
               clear hi447_0 hl447_0
               replace p447:=eq_true p447
               replace q447:=eq_true q447
               have hcz55_0 : wr.cell? ⟨gb422,0,none⟩ = some (.string a2_0):=(blk_cell BK422.out 0).trans rfl
               have hcz55_1 : wr.cell? ⟨gb422,1,none⟩ = some (.int .u64 a2_1):=(blk_cell BK422.out 1).trans rfl
               have hcz55_2 : wr.cell? ⟨gb422,2,none⟩ = some (.int .u8 a2_2):=(blk_cell BK422.out 2).trans rfl
               have hfz55_0:=blk_frozen BK422.out 0
               have hfz55_1:=blk_frozen BK422.out 1
               have hfz55_2:=blk_frozen BK422.out 2
               go_wp2_with (first|((with_reducible refine gate_callee (f:=28) rfl ?_);refine goesL_ (some 89) rfl rfl Try.func28 (by kernel_rfl) rfl #[.slice A447_0 (rd_L5 y443 x82_3).length c447_0,.agg #[.string a2_0,.int .u64 a2_1,.int .u8 a2_2]] rfl (by (try simp only [List.map_toArray,List.map_cons,List.map_nil]);first|done|rfl|(simp only [List.length_drop,List.length_take];rfl)) ?_;(with_reducible refine (block_Seek.calls _ _ (rd_L5 y443 x82_3) a2_0 a2_1 a2_2 t448 t449 t450 t451 t452 t453 _ ?side1 ?side2 A50.out).mono ?_);(case side1=>repeat (first|exact (by repeat (first|(with_reducible exact HR447_0.out)|(with_reducible refine Kd.C_alloc ?_ _)|(with_reducible refine Kd.C_drewN ?_ _)|(with_reducible refine Kd.C_drew ?_)|exact HR447_0.out))|(with_reducible refine Kd.C_alloc ?_ _)|(with_reducible refine Kd.C_drewN ?_ _)|(with_reducible refine Kd.C_drew ?_)));(case side2=>exact HC447_0.out);rintro e w56 ⟨rfl,hb⟩;refine ⟨_,rfl,?_⟩;have n0_:=Aside0.mk (Kd.N_below (by (with_reducible repeat (first|apply Kd.N_alloc|apply Kd.N_drewN|apply Kd.N_drew));exact HO_80.out) hb);have n1_:=Aside0.mk (Kd.V_below (by (with_reducible repeat (first|apply Kd.V_alloc|apply Kd.V_drewN|apply Kd.V_drew));exact HL447_0.out) hb);have n2_:=Aside0.mk (blk_below (g:=gb422) (o:=.cells #[.string a2_0,.int .u64 a2_1,.int .u8 a2_2] 50 (0,0)) (by (with_reducible repeat (first|refine blk_drewN ?_ _|refine blk_drew ?_|refine blk_alloc ?_ _));exact BK422.out) hb);have n3_:=Aside0.mk (Kd.C_below (by repeat (first|(with_reducible exact HR447_0.out)|(with_reducible refine Kd.C_alloc ?_ _)|(with_reducible refine Kd.C_drewN ?_ _)|(with_reducible refine Kd.C_drew ?_)|exact HR447_0.out)) hb);have n4_:=Aside0.mk (below_step (by repeat (first|(with_reducible first|exact HB.out|apply below_alloc|apply pw_below_drewN|apply below_drew1|refine below_set ?_ GE422.out)|exact HB.out)) hb);clear HO_80;clear HL447_0;clear BK422;clear HR447_0;clear HB;have HO_80:=n0_;have HL447_0:=n1_;have BK422:=n2_;have HR447_0:=n3_;have HB:=n4_;clear n0_ n1_ n2_ n3_ n4_;(try clear hb);(try clear hb2);(try clear hk);(try clear hi))|((with_reducible refine gate_dst (N:=17) rfl ?_);(try (refine gate_guard (by rfl) ?_;dsimp only));refine box_event ?hg (N:=17) ?hd (cs:=#[.string (⟨#[]⟩ : ByteArray),.int .u64 0,.int .u8 0,.string (⟨#[]⟩ : ByteArray)]) (t:=59) ?hr ?_;(case hd=>rfl);(case hg=>rfl);(case hr=>first|(go_simp;done)|(go_simp;rfl));intro gb454 hg w57 hbox hb;have n0_:=Aside0.mk (Kd.N_below (Kd.N_elderB (by (with_reducible repeat (first|apply Kd.N_alloc|apply Kd.N_drewN|apply Kd.N_drew));exact HO_80.out) gb454 (Nat.le_of_eq hg.symm)) hb);have n1_:=Aside0.mk (Kd.V_below (Kd.V_elderB (by (with_reducible repeat (first|apply Kd.V_alloc|apply Kd.V_drewN|apply Kd.V_drew));exact HL447_0.out) gb454 (Nat.le_of_eq hg.symm)) hb);have n2_:=Aside0.mk (blk_below (g:=gb422) (o:=.cells #[.string a2_0,.int .u64 a2_1,.int .u8 a2_2] 50 (0,0)) (by (with_reducible repeat (first|refine blk_drewN ?_ _|refine blk_drew ?_|refine blk_alloc ?_ _));exact BK422.out) hb);have n3_:=Aside0.mk (Kd.C_below (by repeat (first|(with_reducible exact HR447_0.out)|(with_reducible refine Kd.C_alloc ?_ _)|(with_reducible refine Kd.C_drewN ?_ _)|(with_reducible refine Kd.C_drew ?_)|exact HR447_0.out)) hb);have n4_:=Aside0.mk (below_step (by repeat (first|(with_reducible first|exact HB.out|apply below_alloc|apply pw_below_drewN|apply below_drew1|refine below_set ?_ GE422.out)|exact HB.out)) hb);have n5_:=Aside0.mk (hbox);have n6_:=Aside0.mk ((by rw [hg];exact (below_size (by repeat (first|(with_reducible first|exact HB.out|apply below_alloc|apply pw_below_drewN|apply below_drew1|refine below_set ?_ GE422.out)|exact HB.out))) : w.heap.size ≤ gb454));have n7_:=Aside0.mk ((by rw [hg];exact (below_size (by repeat (first|(with_reducible first|exact HB.out|apply below_alloc|apply pw_below_drewN|apply below_drew1|refine below_set ?_ GE422.out)|exact HB.out))) : w.heap.size ≤ gb454));have n8_:=Aside0.mk ((by rw [hg];exact Nat.ne_of_lt (blk_lt (g:=gb422) (o:=.cells #[.string a2_0,.int .u64 a2_1,.int .u8 a2_2] 50 (0,0)) (by (with_reducible repeat (first|refine blk_drewN ?_ _|refine blk_drew ?_|refine blk_alloc ?_ _));exact BK422.out)) : gb422 ≠ gb454));have n9_:=Aside0.mk ((by rw [hg];exact Nat.ne_of_gt (blk_lt (g:=gb422) (o:=.cells #[.string a2_0,.int .u64 a2_1,.int .u8 a2_2] 50 (0,0)) (by (with_reducible repeat (first|refine blk_drewN ?_ _|refine blk_drew ?_|refine blk_alloc ?_ _));exact BK422.out)) : gb454 ≠ gb422));clear HO_80;clear HL447_0;clear BK422;clear HR447_0;clear HB;have HO_80:=n0_;have HL447_0:=n1_;have BK422:=n2_;have HR447_0:=n3_;have HB:=n4_;have BK454:=n5_;have GW454:=n6_;have GE454:=n7_;have NB422_454:=n8_;have NB454_422:=n9_;clear n0_ n1_ n2_ n3_ n4_ n5_ n6_ n7_ n8_ n9_;clear hb hbox hg;have hnb58:=NB454_422.out;have hnc58:=NB422_454.out;have hcz59_0 : w57.cell? ⟨gb454,0,none⟩ = some (.string (⟨#[]⟩ : ByteArray)):=(blk_cell BK454.out 0).trans rfl;have hcz59_1 : w57.cell? ⟨gb454,1,none⟩ = some (.int .u64 0):=(blk_cell BK454.out 1).trans rfl;have hcz59_2 : w57.cell? ⟨gb454,2,none⟩ = some (.int .u8 0):=(blk_cell BK454.out 2).trans rfl;have hcz59_3 : w57.cell? ⟨gb454,3,none⟩ = some (.string (⟨#[]⟩ : ByteArray)):=(blk_cell BK454.out 3).trans rfl;have hfz59_0:=blk_frozen BK454.out 0;have hfz59_1:=blk_frozen BK454.out 1;have hfz59_2:=blk_frozen BK454.out 2;have hfz59_3:=blk_frozen BK454.out 3;have hcz60_0 : w57.cell? ⟨gb422,0,none⟩ = some (.string a2_0):=(blk_cell BK422.out 0).trans rfl;have hcz60_1 : w57.cell? ⟨gb422,1,none⟩ = some (.int .u64 a2_1):=(blk_cell BK422.out 1).trans rfl;have hcz60_2 : w57.cell? ⟨gb422,2,none⟩ = some (.int .u8 a2_2):=(blk_cell BK422.out 2).trans rfl;have hfz60_0:=blk_frozen BK422.out 0;have hfz60_1:=blk_frozen BK422.out 1;have hfz60_2:=blk_frozen BK422.out 2)|((with_reducible refine gate_callee (f:=29) rfl ?_);refine goesL_ (some 96) rfl rfl Try.func29 (by kernel_rfl) rfl #[.slice A447_0 (rd_L5 y443 x82_3).length c447_0,.agg #[.string a2_0,.int .u64 a2_1,.int .u8 a2_2]] rfl (by (try simp only [List.map_toArray,List.map_cons,List.map_nil]);first|done|rfl|(simp only [List.length_drop,List.length_take];rfl)) ?_;(with_reducible refine (ratlineref07_Seek.calls k3 _ _ (rd_L5 y443 x82_3) a2_0 a2_1 a2_2 t455 t456 t457 t458 t459 t460 _ ?side1 ?side2 A51.out).mono ?_);(case side1=>repeat (first|exact ((Kd.V_reads' (by (with_reducible repeat (first|apply Kd.V_alloc|apply Kd.V_drewN|apply Kd.V_drew));exact (Kd.V_mono (Kd.V_far (p:=⟨gb454,3,none⟩) (Kd.V_far (p:=⟨gb454,2,none⟩) (Kd.V_far (p:=⟨gb454,1,none⟩) (Kd.V_far (p:=⟨gb454,0,none⟩) (Kd.V_mono HL447_0.out (fun k_ hk=>(⟨hk,hk.2⟩ : _ ∧ k_ ≠ gb454))) (fun _ hk=>hk.2) (.string t448)) (fun _ hk=>hk.2) (.int .u64 t449)) (fun _ hk=>hk.2) (.int .u8 t450)) (fun _ hk=>hk.2) (.string t451)) (fun _ h_=>h_.1)))).2.2)|(with_reducible refine Kd.C_alloc ?_ _)|(with_reducible refine Kd.C_drewN ?_ _)|(with_reducible refine Kd.C_drew ?_)));(case side2=>exact HC447_0.out);rintro e w61 ⟨rfl,hb⟩;refine ⟨_,rfl,?_⟩;have n0_:=Aside0.mk (Kd.N_below (by (with_reducible repeat (first|apply Kd.N_alloc|apply Kd.N_drewN|apply Kd.N_drew));exact (Kd.N_mono (Kd.N_far (p:=⟨gb454,3,none⟩) (Kd.N_far (p:=⟨gb454,2,none⟩) (Kd.N_far (p:=⟨gb454,1,none⟩) (Kd.N_far (p:=⟨gb454,0,none⟩) (Kd.N_mono HO_80.out (fun k_ hk=>(⟨hk,hk.2⟩ : _ ∧ k_ ≠ gb454))) (fun _ hk=>hk.2) (.string t448)) (fun _ hk=>hk.2) (.int .u64 t449)) (fun _ hk=>hk.2) (.int .u8 t450)) (fun _ hk=>hk.2) (.string t451)) (fun _ h_=>h_.1))) hb);have n1_:=Aside0.mk (Kd.V_below (by (with_reducible repeat (first|apply Kd.V_alloc|apply Kd.V_drewN|apply Kd.V_drew));exact (Kd.V_mono (Kd.V_far (p:=⟨gb454,3,none⟩) (Kd.V_far (p:=⟨gb454,2,none⟩) (Kd.V_far (p:=⟨gb454,1,none⟩) (Kd.V_far (p:=⟨gb454,0,none⟩) (Kd.V_mono HL447_0.out (fun k_ hk=>(⟨hk,hk.2⟩ : _ ∧ k_ ≠ gb454))) (fun _ hk=>hk.2) (.string t448)) (fun _ hk=>hk.2) (.int .u64 t449)) (fun _ hk=>hk.2) (.int .u8 t450)) (fun _ hk=>hk.2) (.string t451)) (fun _ h_=>h_.1))) hb);have n2_:=Aside0.mk (blk_below (g:=gb422) (o:=.cells #[.string a2_0,.int .u64 a2_1,.int .u8 a2_2] 50 (0,0)) (by (with_reducible repeat (first|refine blk_drewN ?_ _|refine blk_drew ?_|refine blk_alloc ?_ _));refine blk_far ?_ NB422_454.out _;(with_reducible repeat (first|refine blk_drewN ?_ _|refine blk_drew ?_|refine blk_alloc ?_ _));refine blk_far ?_ NB422_454.out _;(with_reducible repeat (first|refine blk_drewN ?_ _|refine blk_drew ?_|refine blk_alloc ?_ _));refine blk_far ?_ NB422_454.out _;(with_reducible repeat (first|refine blk_drewN ?_ _|refine blk_drew ?_|refine blk_alloc ?_ _));refine blk_far ?_ NB422_454.out _;(with_reducible repeat (first|refine blk_drewN ?_ _|refine blk_drew ?_|refine blk_alloc ?_ _));exact BK422.out) hb);have n3_:=Aside0.mk (Kd.C_below ((Kd.V_reads' (by (with_reducible repeat (first|apply Kd.V_alloc|apply Kd.V_drewN|apply Kd.V_drew));exact (Kd.V_mono (Kd.V_far (p:=⟨gb454,3,none⟩) (Kd.V_far (p:=⟨gb454,2,none⟩) (Kd.V_far (p:=⟨gb454,1,none⟩) (Kd.V_far (p:=⟨gb454,0,none⟩) (Kd.V_mono HL447_0.out (fun k_ hk=>(⟨hk,hk.2⟩ : _ ∧ k_ ≠ gb454))) (fun _ hk=>hk.2) (.string t448)) (fun _ hk=>hk.2) (.int .u64 t449)) (fun _ hk=>hk.2) (.int .u8 t450)) (fun _ hk=>hk.2) (.string t451)) (fun _ h_=>h_.1)))).2.2) hb);have n4_:=Aside0.mk (blk_below (g:=gb454) (o:=.cells #[.string t448,.int .u64 t449,.int .u8 t450,.string t451] 59 (0,0)) (by (with_reducible repeat (first|refine blk_drewN ?_ _|refine blk_drew ?_|refine blk_alloc ?_ _));refine blk_put (cs:=#[.string t448,.int .u64 t449,.int .u8 t450,.string (⟨#[]⟩ : ByteArray)]) ?_ 3 _ rfl;(with_reducible repeat (first|refine blk_drewN ?_ _|refine blk_drew ?_|refine blk_alloc ?_ _));refine blk_put (cs:=#[.string t448,.int .u64 t449,.int .u8 0,.string (⟨#[]⟩ : ByteArray)]) ?_ 2 _ rfl;(with_reducible repeat (first|refine blk_drewN ?_ _|refine blk_drew ?_|refine blk_alloc ?_ _));refine blk_put (cs:=#[.string t448,.int .u64 0,.int .u8 0,.string (⟨#[]⟩ : ByteArray)]) ?_ 1 _ rfl;(with_reducible repeat (first|refine blk_drewN ?_ _|refine blk_drew ?_|refine blk_alloc ?_ _));refine blk_put (cs:=#[.string (⟨#[]⟩ : ByteArray),.int .u64 0,.int .u8 0,.string (⟨#[]⟩ : ByteArray)]) ?_ 0 _ rfl;(with_reducible repeat (first|refine blk_drewN ?_ _|refine blk_drew ?_|refine blk_alloc ?_ _));exact BK454.out) hb);have n5_:=Aside0.mk (below_step (by repeat (first|(with_reducible first|exact HB.out|apply below_alloc|apply pw_below_drewN|apply below_drew1|refine below_set ?_ GE422.out|refine below_set ?_ GE454.out)|exact HB.out)) hb);clear HO_80;clear HL447_0;clear BK422;clear HR447_0;clear BK454;clear HB;have HO_80:=n0_;have HL447_0:=n1_;have BK422:=n2_;have HR447_0:=n3_;have BK454:=n4_;have HB:=n5_;clear n0_ n1_ n2_ n3_ n4_ n5_;(try clear hb);(try clear hb2);(try clear hk);(try clear hi))|((with_reducible refine gate_dst (N:=20) rfl ?_);(try (refine gate_guard (by rfl) ?_;dsimp only));refine box_event ?hg (N:=20) ?hd (cs:=#[.string (⟨#[]⟩ : ByteArray),.int .u64 0,.int .u8 0,.string (⟨#[]⟩ : ByteArray)]) (t:=59) ?hr ?_;(case hd=>rfl);(case hg=>rfl);(case hr=>first|(go_simp;done)|(go_simp;rfl));intro gb461 hg w62 hbox hb;have n0_:=Aside0.mk (Kd.N_below (Kd.N_elderB (by (with_reducible repeat (first|apply Kd.N_alloc|apply Kd.N_drewN|apply Kd.N_drew));exact HO_80.out) gb461 (Nat.le_of_eq hg.symm)) hb);have n1_:=Aside0.mk (Kd.V_below (Kd.V_elderB (by (with_reducible repeat (first|apply Kd.V_alloc|apply Kd.V_drewN|apply Kd.V_drew));exact HL447_0.out) gb461 (Nat.le_of_eq hg.symm)) hb);have n2_:=Aside0.mk (blk_below (g:=gb422) (o:=.cells #[.string a2_0,.int .u64 a2_1,.int .u8 a2_2] 50 (0,0)) (by (with_reducible repeat (first|refine blk_drewN ?_ _|refine blk_drew ?_|refine blk_alloc ?_ _));exact BK422.out) hb);have n3_:=Aside0.mk (Kd.C_below (by repeat (first|(with_reducible exact HR447_0.out)|(with_reducible refine Kd.C_alloc ?_ _)|(with_reducible refine Kd.C_drewN ?_ _)|(with_reducible refine Kd.C_drew ?_)|exact HR447_0.out)) hb);have n4_:=Aside0.mk (blk_below (g:=gb454) (o:=.cells #[.string t448,.int .u64 t449,.int .u8 t450,.string t451] 59 (0,0)) (by (with_reducible repeat (first|refine blk_drewN ?_ _|refine blk_drew ?_|refine blk_alloc ?_ _));exact BK454.out) hb);have n5_:=Aside0.mk (below_step (by repeat (first|(with_reducible first|exact HB.out|apply below_alloc|apply pw_below_drewN|apply below_drew1|refine below_set ?_ GE422.out|refine below_set ?_ GE454.out)|exact HB.out)) hb);have n6_:=Aside0.mk (hbox);have n7_:=Aside0.mk ((by rw [hg];exact (below_size (by repeat (first|(with_reducible first|exact HB.out|apply below_alloc|apply pw_below_drewN|apply below_drew1|refine below_set ?_ GE422.out|refine below_set ?_ GE454.out)|exact HB.out))) : w.heap.size ≤ gb461));have n8_:=Aside0.mk ((by rw [hg];exact (below_size (by repeat (first|(with_reducible first|exact HB.out|apply below_alloc|apply pw_below_drewN|apply below_drew1|refine below_set ?_ GE422.out|refine below_set ?_ GE454.out)|exact HB.out))) : w.heap.size ≤ gb461));have n9_:=Aside0.mk ((by rw [hg];exact Nat.ne_of_lt (blk_lt (g:=gb422) (o:=.cells #[.string a2_0,.int .u64 a2_1,.int .u8 a2_2] 50 (0,0)) (by (with_reducible repeat (first|refine blk_drewN ?_ _|refine blk_drew ?_|refine blk_alloc ?_ _));exact BK422.out)) : gb422 ≠ gb461));have n10_:=Aside0.mk ((by rw [hg];exact Nat.ne_of_gt (blk_lt (g:=gb422) (o:=.cells #[.string a2_0,.int .u64 a2_1,.int .u8 a2_2] 50 (0,0)) (by (with_reducible repeat (first|refine blk_drewN ?_ _|refine blk_drew ?_|refine blk_alloc ?_ _));exact BK422.out)) : gb461 ≠ gb422));have n11_:=Aside0.mk ((by rw [hg];exact Nat.ne_of_lt (blk_lt (g:=gb454) (o:=.cells #[.string t448,.int .u64 t449,.int .u8 t450,.string t451] 59 (0,0)) (by (with_reducible repeat (first|refine blk_drewN ?_ _|refine blk_drew ?_|refine blk_alloc ?_ _));exact BK454.out)) : gb454 ≠ gb461));have n12_:=Aside0.mk ((by rw [hg];exact Nat.ne_of_gt (blk_lt (g:=gb454) (o:=.cells #[.string t448,.int .u64 t449,.int .u8 t450,.string t451] 59 (0,0)) (by (with_reducible repeat (first|refine blk_drewN ?_ _|refine blk_drew ?_|refine blk_alloc ?_ _));exact BK454.out)) : gb461 ≠ gb454));clear HO_80;clear HL447_0;clear BK422;clear HR447_0;clear BK454;clear HB;have HO_80:=n0_;have HL447_0:=n1_;have BK422:=n2_;have HR447_0:=n3_;have BK454:=n4_;have HB:=n5_;have BK461:=n6_;have GW461:=n7_;have GE461:=n8_;have NB422_461:=n9_;have NB461_422:=n10_;have NB454_461:=n11_;have NB461_454:=n12_;clear n0_ n1_ n2_ n3_ n4_ n5_ n6_ n7_ n8_ n9_ n10_ n11_ n12_;clear hb hbox hg;have hnb63:=NB461_422.out;have hnc63:=NB422_461.out;have hnb64:=NB461_454.out;have hnc64:=NB454_461.out;have hcz65_0 : w62.cell? ⟨gb461,0,none⟩ = some (.string (⟨#[]⟩ : ByteArray)):=(blk_cell BK461.out 0).trans rfl;have hcz65_1 : w62.cell? ⟨gb461,1,none⟩ = some (.int .u64 0):=(blk_cell BK461.out 1).trans rfl;have hcz65_2 : w62.cell? ⟨gb461,2,none⟩ = some (.int .u8 0):=(blk_cell BK461.out 2).trans rfl;have hcz65_3 : w62.cell? ⟨gb461,3,none⟩ = some (.string (⟨#[]⟩ : ByteArray)):=(blk_cell BK461.out 3).trans rfl;have hfz65_0:=blk_frozen BK461.out 0;have hfz65_1:=blk_frozen BK461.out 1;have hfz65_2:=blk_frozen BK461.out 2;have hfz65_3:=blk_frozen BK461.out 3;have hcz66_0 : w62.cell? ⟨gb454,0,none⟩ = some (.string t448):=(blk_cell BK454.out 0).trans rfl;have hcz66_1 : w62.cell? ⟨gb454,1,none⟩ = some (.int .u64 t449):=(blk_cell BK454.out 1).trans rfl;have hcz66_2 : w62.cell? ⟨gb454,2,none⟩ = some (.int .u8 t450):=(blk_cell BK454.out 2).trans rfl;have hcz66_3 : w62.cell? ⟨gb454,3,none⟩ = some (.string t451):=(blk_cell BK454.out 3).trans rfl;have hfz66_0:=blk_frozen BK454.out 0;have hfz66_1:=blk_frozen BK454.out 1;have hfz66_2:=blk_frozen BK454.out 2;have hfz66_3:=blk_frozen BK454.out 3))
               go_roundg k3
               case measure=>have:=HJ3.out;have:=HJ19.out;have:=HK3.out;omega
               case rel=>exact ⟨(wrap64 (x82_3 + 1)),(by first|rfl|(simp;done)|(simp [*];done)),H',⟨by have:=HJ3.out;have:=HJ19.out;have:=HK3.out;omega⟩,⟨by (with_reducible repeat (first|apply Kd.N_alloc|apply Kd.N_drewN|apply Kd.N_drew));exact Kd.N_mono (Kd.N_far (p:=⟨gb461,3,none⟩) (Kd.N_far (p:=⟨gb461,2,none⟩) (Kd.N_far (p:=⟨gb461,1,none⟩) (Kd.N_far (p:=⟨gb461,0,none⟩) (Kd.N_mono HO_80.out (fun k_ hk=>(⟨hk,hk.2⟩ : _ ∧ k_ ≠ gb461))) (fun _ hk=>hk.2) (.string t455)) (fun _ hk=>hk.2) (.int .u64 t456)) (fun _ hk=>hk.2) (.int .u8 t457)) (fun _ hk=>hk.2) (.string t458)) (fun _ hk=>⟨hk.1.1.1.1,hk.1.1.1.2⟩)⟩,⟨by (with_reducible repeat (first|refine blk_drewN ?_ _|refine blk_drew ?_|refine blk_alloc ?_ _));refine blk_far ?_ NB422_461.out _;(with_reducible repeat (first|refine blk_drewN ?_ _|refine blk_drew ?_|refine blk_alloc ?_ _));refine blk_far ?_ NB422_461.out _;(with_reducible repeat (first|refine blk_drewN ?_ _|refine blk_drew ?_|refine blk_alloc ?_ _));refine blk_far ?_ NB422_461.out _;(with_reducible repeat (first|refine blk_drewN ?_ _|refine blk_drew ?_|refine blk_alloc ?_ _));refine blk_far ?_ NB422_461.out _;(with_reducible repeat (first|refine blk_drewN ?_ _|refine blk_drew ?_|refine blk_alloc ?_ _));exact BK422.out⟩,⟨by repeat (first|(with_reducible first|exact HB.out|apply below_alloc|apply pw_below_drewN|apply below_drew1|refine below_set ?_ GE422.out|refine below_set ?_ GE454.out|refine below_set ?_ GE461.out)|exact HB.out)⟩⟩
              ·rw [if_neg c54] at H
               exact absurd H (by simp)
           ·rw [if_neg c49] at H
            exact absurd H (by simp)
          ·rw [if_neg c48] at H
           exact absurd H (by simp)
         ·rw [if_neg c47] at H
          have c47b0 : decide (x82_3 < (y443.length : Int)) = false:=decide_eq_false c47
          clear c47
          replace H:=Option.bind_eq_some_iff.mp H
          obtain ⟨t446,A670,H⟩:=H
          replace H : (some t446) = some r:=H
          have A67:=Aside0.mk A670
          clear A670
          obtain rfl:=Option.some.inj H
          go_wp2_with (first|(go_at_call 21;(with_reducible refine (ratlinelaw07_awake.calls k3  t446 _ A67.out).mono ?_);rintro e w68 ⟨rfl,hb⟩;have n0_:=Aside0.mk (Kd.N_below (by (with_reducible repeat (first|apply Kd.N_alloc|apply Kd.N_drewN|apply Kd.N_drew));exact HO_80.out) hb);have n1_:=Aside0.mk (blk_below (g:=gb422) (o:=.cells #[.string a2_0,.int .u64 a2_1,.int .u8 a2_2] 50 (0,0)) (by (with_reducible repeat (first|refine blk_drewN ?_ _|refine blk_drew ?_|refine blk_alloc ?_ _));exact BK422.out) hb);have n2_:=Aside0.mk (below_step (by repeat (first|(with_reducible first|exact HB.out|apply below_alloc|apply pw_below_drewN|apply below_drew1|refine below_set ?_ GE422.out)|exact HB.out)) hb);clear HO_80;clear BK422;clear HB;have HO_80:=n0_;have BK422:=n1_;have HB:=n2_;clear n0_ n1_ n2_;(try clear hb);(try clear hb2);(try clear hk);(try clear hi);(try apply_assumption)))
          go_ret
          exact ⟨by first|rfl|(simp [errW_none,errW_some] <;> rfl)|(simp [*,errW_none,errW_some] <;> rfl),by repeat (first|(with_reducible first|exact HB.out|apply below_alloc|apply pw_below_drewN|apply below_drew1|refine below_set ?_ GE422.out)|exact HB.out)⟩

end Go.Proofs.Ytjcjfghcahbbmaa.P

end

section
set_option linter.unusedVariables false
namespace Go.Proofs.YtjcjfghcahbbmaaL
open Go Go.RowKit Go.Proofs.YtjcjfghcahbbmaaG Go.Proofs.Ytjcjfghcahbbmaa.P Go.Proofs.YtjcjfghcahbbmaaW.PrintWords Go.Proofs.YtjcjfghcahbbmaaW.PrintMore

theorem rput_l0 : ∀ (n x k : Nat) (l : List Int), x < 18446744073709551616 → (vint x).length ≤ n → n < k → l.length + n < 140737488355328 → ratlineref02_Put.l0 k (x : Int) l = some (l ++ vint x) := by
  intro n
  induction n with
  | zero => intro x k l hx hn; have := vint_pos x; omega
  | succ n ih =>
    intro x k l hx hn hk hl
    obtain ⟨k, rfl⟩ : ∃ m, k = m + 1 := ⟨k - 1, by omega⟩
    simp only [ratlineref02_Put.l0]
    by_cases h : 127 < x
    · rw [vint_big h] at hn ⊢
      have e1 : IntKind.u64.wrap (Int.tdiv (x : Int) 128) = ((x / 128 : Nat) : Int) := by
        rw [show Int.tdiv (x : Int) 128 = ((x / 128 : Nat) : Int) from rfl]; exact wrap_u64_nat (by omega)
      have e2 : ((Int.tmod (x : Int) 128) + 128) % 256 = ((x % 128 + 128 : Nat) : Int) := by
        rw [show Int.tmod (x : Int) 128 = ((x % 128 : Nat) : Int) from rfl]; omega
      rw [if_pos (by omega), if_pos (by omega), e1, e2, ih (x / 128) k _ (by omega) (by simpa using hn) (by omega) (by rw [List.length_append]; simp; omega)]
      simp
    · rw [vint_small h, if_neg (by omega), if_pos (by omega), show (x : Int) % 256 = (x : Int) from by omega]
theorem rput_f {l : List Int} {x k : Nat} (hx : x < 18446744073709551616) (hk : 10 < k) (hl : l.length + 20 < 140737488355328) : ratlineref02_Put.f k l (x : Int) = some (l ++ vint x) := by
  have := vint_len10 hx
  unfold ratlineref02_Put.f
  rw [List.nil_append, if_pos (by simp; omega), rput_l0 10 x k l hx this hk (by omega)]
theorem rsame_f {a b : List Int} (ha : By a) (hb : By b) : ratlineref02_same.f a b = some (decide (b.length ≤ a.length ∧ a.take b.length = b)) := by
  unfold ratlineref02_same.f
  by_cases h : b.length ≤ a.length
  · rw [if_pos (by omega), if_pos (by omega), if_pos (by omega), Int.toNat_natCast]
    by_cases e : a.take b.length = b
    · rw [e, decide_eq_true ⟨h, rfl⟩]; simp
    · have : (strOfNums (a.take b.length)).toList ≠ (strOfNums b).toList := fun e' => e (str_inj (ha.take _) hb (ba_ext e'))
      rw [decide_eq_false (fun h' => e h'.2), beq_eq_false_iff_ne.2 this]
  · rw [if_neg (by omega), decide_eq_false (fun h' => h h'.1)]
theorem rrest_f {a : List Int} {n : Nat} (hn : n ≤ a.length) (hl : a.length < 140737488355328) : ratlineref02_rest.f a (n : Int) = some (a.drop n) := by
  unfold ratlineref02_rest.f
  rw [if_pos (by omega), if_pos (by omega), Int.toNat_natCast, if_pos (by simp; omega), List.nil_append]

theorem wrap_mod (n : Nat) : IntKind.u64.wrap (n : Int) = ((n % 18446744073709551616 : Nat) : Int) := by rw [IntKind.wrap_u64]; omega
theorem mod_steps (a c p N : Nat) : (a % N + c * (p % N) % N) % N = (a + c * p) % N := by
  rw [← Nat.add_mod, Nat.add_mod a (c * (p % N)), Nat.mul_mod c (p % N), Nat.mod_mod, ← Nat.mul_mod, ← Nat.add_mod]
/-- What is reckoned of the first bytes. -/
def acc (l : List Int) (i : Nat) : Nat := val7 (l.take i) % 18446744073709551616
theorem acc_step {l : List Int} (hb : By l) {i : Nat} (hi : i < l.length) : IntKind.u64.wrap ((acc l i : Int) + IntKind.u64.wrap (IntKind.u64.wrap (Int.tmod (rd l (i : Int)) 128) * ((128 ^ i % 18446744073709551616 : Nat) : Int))) = (acc l (i + 1) : Int) := by
  have hrd : rd l (i : Int) = l.getD i 0 := by unfold rd; rw [Int.toNat_natCast]
  have hm : l.getD i 0 ∈ l := by rw [List.getD_eq_getElem?_getD, List.getElem?_eq_getElem hi]; exact List.getElem_mem hi
  have hc := hb _ hm
  have e1 : l.take (i + 1) = l.take i ++ [l.getD i 0] := by rw [List.take_succ_eq_append_getElem hi, List.getD_eq_getElem?_getD, List.getElem?_eq_getElem hi]; rfl
  have hlen : (l.take i).length = i := by rw [List.length_take]; omega
  rw [hrd]
  unfold acc
  rw [e1, val7_snoc, hlen]
  obtain ⟨c, hc'⟩ := Int.eq_ofNat_of_zero_le hc.1
  rw [hc'] at hc ⊢
  rw [show Int.tmod (c : Int) 128 = ((c % 128 : Nat) : Int) from rfl, wrap_u64_nat (by omega), show ((c : Int) % 128).toNat = c % 128 from by omega]
  rw [← Int.natCast_mul, wrap_mod, ← Int.natCast_add, wrap_mod, mod_steps]

theorem rtake_none {l : List Int} (hb : By l) (hl : l.length < 140737488355328) (h : ∀ j, j < l.length → j < 10 → 128 ≤ l.getD j 0) : nums_Take.f l = some (0, [], false) := by
  rcases take_cases l hb hl with ⟨x, rest, hx, he, _⟩ | ⟨hf, _⟩
  · exfalso
    have hp := vint_pos x
    have hv := vint_len10 hx
    have h1 := findIdx_vint x rest
    rw [← he] at h1
    have hlt : l.findIdx (· < 128) < l.length := by rw [h1, he, List.length_append]; omega
    have h2 := List.findIdx_getElem (p := fun c : Int => decide (c < 128)) (w := hlt)
    have h3 := h _ hlt (by omega)
    rw [List.getD_eq_getElem?_getD, List.getElem?_eq_getElem hlt] at h3
    simp at h2 h3
    omega
  · exact hf
theorem rtake_l0 {l : List Int} (hb : By l) (hl : l.length + 20 < 140737488355328) : ∀ (d k i : Nat), i + d = 10 → i ≤ l.length → (∀ j, j < i → 128 ≤ l.getD j 0) → 2 * d + 20 < k →
    ratlineref02_Take.l0 k l (acc l i : Int) ((128 ^ i % 18446744073709551616 : Nat) : Int) (i : Int) = nums_Take.f l := by
  intro d
  induction d with
  | zero =>
    intro k i hd hi hj hk
    obtain ⟨k, rfl⟩ : ∃ m, k = m + 2 := ⟨k - 2, by omega⟩
    have hno := rtake_none hb (by omega) (fun j h1 h2 => hj j (by omega))
    simp only [ratlineref02_Take.l0]
    rw [decide_eq_false (show ¬ (i : Int) < 10 from by omega), ite_self]
    simp only [ratlineref02_Take.j1]
    rw [if_neg (by decide), hno]
  | succ d ih =>
    intro k i hd hi hj hk
    obtain ⟨k, rfl⟩ : ∃ m, k = m + 2 := ⟨k - 2, by omega⟩
    simp only [ratlineref02_Take.l0]
    by_cases h : i < l.length
    · have hrd : rd l (i : Int) = l.getD i 0 := by unfold rd; rw [Int.toNat_natCast]
      have hstep := acc_step hb h
      have hw : wrap64 ((i : Int) + 1) = ((i + 1 : Nat) : Int) := by unfold wrap64; omega
      rw [if_pos (by omega), decide_eq_true (show (i : Int) < 10 from by omega)]
      simp only [ratlineref02_Take.j1]
      rw [if_pos trivial, if_pos (by omega), if_pos (by omega), hstep, hw]
      by_cases hc : rd l (i : Int) < 128
      · rw [if_pos hc]
        have hx : acc l (i + 1) < 18446744073709551616 := Nat.mod_lt _ (by omega)
        have hidx : l.findIdx (· < 128) = i := by
          refine (List.findIdx_eq h).2 ⟨?_, fun j hj' => ?_⟩
          · rw [hrd, List.getD_eq_getElem?_getD, List.getElem?_eq_getElem h] at hc
            simpa using hc
          · have := hj j hj'
            rw [List.getD_eq_getElem?_getD, List.getElem?_eq_getElem (by omega)] at this
            simpa using this
        refine bind1 (rput_f hx (by omega) (by rw [List.length_nil]; omega)) ?_
        rw [List.nil_append]
        refine bind1 (rsame_f hb (vint_by _)) ?_
        rcases take_cases l hb (by omega) with ⟨x, rest, hx', he, hf⟩ | ⟨hf, hno⟩
        · have h1 := findIdx_vint x rest
          have hp := vint_pos x
          rw [← he, hidx] at h1
          have htk : l.take (i + 1) = vint x := by rw [he, show i + 1 = (vint x).length from by omega, List.take_left]
          have hax : acc l (i + 1) = x := by unfold acc; rw [htk, val7_vint]; omega
          have hdr : l.drop (i + 1) = rest := by rw [he, show i + 1 = (vint x).length from by omega, List.drop_left]
          have hlen : l.length = (vint x).length + rest.length := by rw [he, List.length_append]
          rw [hax, decide_eq_true (show (vint x).length ≤ l.length ∧ l.take (vint x).length = vint x from ⟨by omega, by rw [show (vint x).length = i + 1 from by omega]; exact htk⟩), if_pos rfl]
          refine bind1 (rput_f hx' (by omega) (by rw [List.length_nil]; omega)) ?_
          rw [List.nil_append, if_pos (by omega)]
          refine bind1 (rrest_f (by omega) (by omega)) ?_
          rw [hdr, hf]
        · have hfalse : decide ((vint (acc l (i + 1))).length ≤ l.length ∧ l.take (vint (acc l (i + 1))).length = vint (acc l (i + 1))) = false := by
            refine decide_eq_false (fun h' => hno _ (l.drop (vint (acc l (i + 1))).length) hx ?_)
            conv => rhs; lhs; rw [← h'.2]
            exact (List.take_append_drop _ _).symm
          rw [hfalse, if_neg (by decide), hf]
      · rw [if_neg hc]
        have hw2 : IntKind.u64.wrap (((128 ^ i % 18446744073709551616 : Nat) : Int) * 128) = ((128 ^ (i + 1) % 18446744073709551616 : Nat) : Int) := by
          rw [IntKind.wrap_u64, Nat.pow_succ]; omega
        rw [hw2]
        refine ih k (i + 1) (by omega) (by omega) (fun j hj' => ?_) (by omega)
        rcases Nat.lt_or_ge j i with h' | h'
        · exact hj j h'
        · obtain rfl : j = i := by omega
          rw [hrd] at hc; omega
    · have hno := rtake_none hb (by omega) (fun j h1 h2 => hj j (by omega))
      rw [if_neg (by omega)]
      simp only [ratlineref02_Take.j1]
      rw [if_neg (by decide), hno]
theorem rtake_f {l : List Int} {k : Nat} (hb : By l) (hl : l.length + 20 < 140737488355328) (hk : 50 < k) : ratlineref02_Take.f k l = nums_Take.f l :=
  rtake_l0 hb hl 10 k 0 (by omega) (by omega) (fun j h => absurd h (by omega)) (by omega)

theorem rtakeText_f {l : List Int} {k : Nat} {most : Int} (hm0 : -9223372036854775808 ≤ most) (hm : most ≤ 9223372036854775807) (hb : By l) (hl : l.length + 20 < 140737488355328) (hk : 50 < k) : ratlineref02_TakeText.f k l most = nums_TakeText.f l most := by
  unfold ratlineref02_TakeText.f nums_TakeText.f
  rw [rtake_f hb hl hk]
  rcases take_cases l hb (by omega) with ⟨x, rest, hx, he, hf⟩ | ⟨hf, hno⟩
  · have hlen : l.length = (vint x).length + rest.length := by rw [he, List.length_append]
    rw [hf]
    simp only [Option.bind_some, if_true]
    have e1 : IntKind.u64.wrap (mx most 0) = max most 0 := by rw [mx_eq, IntKind.wrap_u64]; omega
    rw [e1, wrap_u64_nat (show rest.length < 18446744073709551616 from by omega)]
    by_cases c1 : most < 0
    · rw [if_pos c1, if_pos c1, ite_self]
    · have e2 : IntKind.u64.wrap most = most := by rw [IntKind.wrap_u64]; omega
      have e3 : max most 0 = most := by omega
      rw [if_neg c1, if_neg c1, e2, e3]
      by_cases c2 : (x : Int) > most
      · rw [if_pos c2, if_pos c2]
      · rw [if_neg c2, if_neg c2]
        by_cases c3 : (x : Int) > (rest.length : Int)
        · rw [if_pos c3, if_pos c3]
        · rw [if_neg c3, if_neg c3, if_pos (by omega), if_pos (by omega), if_pos (by omega), if_pos (by omega), show wrap64 (x : Int) = (x : Int) from by unfold wrap64; omega, rrest_f (by omega) (by omega), Int.toNat_natCast, clone_f (by rw [List.length_drop]; omega)]
  · rw [hf]
    simp

theorem rputText_f {l : List Int} {s : ByteArray} {k : Nat} (hk : 10 < k) (hl : l.length + 20 + s.size < 140737488355328) : ratlineref02_PutText.f k l s = some (l ++ vint s.size ++ bytesOf s) := by
  have := vint_len10 (x := s.size) (by omega)
  unfold ratlineref02_PutText.f
  rw [wrap_u64_nat (by omega), rput_f (by omega) hk (by omega)]
  simp only [Option.bind_some]
  rw [if_pos (by rw [List.length_append]; omega)]
end Go.Proofs.YtjcjfghcahbbmaaL

end

section
set_option linter.unusedVariables false
set_option linter.unusedSimpArgs false
namespace Go.Proofs.YtjcjfghcahbbmaaL
open Go Go.RowKit Go.Proofs.YtjcjfghcahbbmaaG Go.Proofs.Ytjcjfghcahbbmaa.P Go.Proofs.YtjcjfghcahbbmaaW.PrintWords Go.Proofs.YtjcjfghcahbbmaaW.PrintMore

theorem rputFour_f {l : List Int} {x k : Nat} (hx : x < 4294967296) (hk : 10 < k) (hl : l.length + 20 < 140737488355328) : ratlineref02_PutFour.f k l (x : Int) = some (l ++ four x) := by
  obtain ⟨k, rfl⟩ : ∃ m, k = m + 5 := ⟨k - 5, by omega⟩
  have hd : ∀ y : Nat, y < 4294967296 → (Int.tdiv (y : Int) 256) % 4294967296 = ((y / 256 : Nat) : Int) := fun y hy => by
    rw [show Int.tdiv (y : Int) 256 = ((y / 256 : Nat) : Int) from rfl]; omega
  have hr : ∀ y : Nat, (Int.tmod (y : Int) 256) % 256 = ((y % 256 : Nat) : Int) := fun y => by
    rw [show Int.tmod (y : Int) 256 = ((y % 256 : Nat) : Int) from rfl]; omega
  have hs : ∀ (m i y : Nat) (o : List Int), i < 4 → y < 4294967296 → o.length < 140737488355328 → ratlineref02_PutFour.l0 (m + 1) (y : Int) o (i : Int) = ratlineref02_PutFour.l0 m ((y / 256 : Nat) : Int) (o ++ [((y % 256 : Nat) : Int)]) ((i + 1 : Nat) : Int) := by
    intro m i y o hi hy ho
    simp only [ratlineref02_PutFour.l0]
    rw [if_pos (by omega), if_pos ho, hd y hy, hr y, show wrap64 ((i : Int) + 1) = ((i + 1 : Nat) : Int) from by unfold wrap64; omega]
  unfold ratlineref02_PutFour.f
  rw [List.nil_append, if_pos (by simp; omega)]
  have s0 := hs (k + 4) 0 x l (by omega) hx (by omega)
  have s1 := hs (k + 3) 1 (x / 256) (l ++ [((x % 256 : Nat) : Int)]) (by omega) (by omega) (by simp; omega)
  have s2 := hs (k + 2) 2 (x / 256 / 256) (l ++ [((x % 256 : Nat) : Int)] ++ [((x / 256 % 256 : Nat) : Int)]) (by omega) (by omega) (by simp; omega)
  have s3 := hs (k + 1) 3 (x / 256 / 256 / 256) (l ++ [((x % 256 : Nat) : Int)] ++ [((x / 256 % 256 : Nat) : Int)] ++ [((x / 256 / 256 % 256 : Nat) : Int)]) (by omega) (by omega) (by simp; omega)
  refine s0.trans (s1.trans (s2.trans (s3.trans ?_)))
  simp only [ratlineref02_PutFour.l0]
  rw [if_neg (by omega)]
  unfold four
  simp only [List.append_assoc, List.cons_append, List.nil_append, Nat.div_div_eq_div_mul, Nat.reduceMul]
end Go.Proofs.YtjcjfghcahbbmaaL

end

section
set_option linter.unusedVariables false
set_option linter.unusedSimpArgs false
namespace Go.Proofs.YtjcjfghcahbbmaaL
open Go Go.RowKit Go.Proofs.YtjcjfghcahbbmaaG Go.Proofs.Ytjcjfghcahbbmaa.P Go.Proofs.YtjcjfghcahbbmaaW.PrintWords Go.Proofs.YtjcjfghcahbbmaaW.PrintMore

theorem rright_f' (a : ByteArray) (b c : Int) : ratlineref03_Right.f a b c = some (decide (RightI ⟨a, b, c⟩)) := by
  unfold ratlineref03_Right.f
  by_cases h0 : (a.size : Int) ≥ 1
  · rw [if_pos h0]
    by_cases h1 : (a.size : Int) ≤ 64
    · rw [if_pos h1]
      by_cases h2 : b ≤ 72057594037927935
      · rw [if_pos h2]
        congr 1
        exact decide_eq_decide.2 ⟨fun h => ⟨by show 1 ≤ a.size; omega, by show a.size ≤ 64; omega, h2, h⟩, fun h => h.2.2.2⟩
      · rw [if_neg h2, decide_eq_false (show ¬ RightI ⟨a, b, c⟩ from fun h => h2 h.2.2.1)]
    · rw [if_neg h1, decide_eq_false (show ¬ RightI ⟨a, b, c⟩ from fun h => h1 (by have := h.2.1; simp only at this; omega))]
  · rw [if_neg h0, decide_eq_false (show ¬ RightI ⟨a, b, c⟩ from fun h => h0 (by have := h.1; simp only at this; omega))]

theorem rentry_f (e : En) (hw : WfN e) : ratlineref03_Entry.f e.f0.f0 e.f0.f1 e.f0.f2 e.f1 = some (decide (OkE e)) := by
  obtain ⟨w1, w2⟩ := hw
  unfold ratlineref03_Entry.f
  refine bind1 (rright_f' _ _ _) ?_
  by_cases hr : RightI e.f0
  · rw [show decide (RightI ⟨e.f0.f0, e.f0.f1, e.f0.f2⟩) = true from decide_eq_true hr, if_pos rfl]
    have h2 := hr.2.2.2
    by_cases hv : (e.f1.size : Int) ≤ 256
    · rw [if_pos hv]
      by_cases h1 : e.f0.f2 = 1
      · rw [if_pos h1, decide_eq_true (show OkE e from ⟨hr, by rw [if_neg (by omega)]; exact hv⟩)]
      · rw [if_neg h1]
        congr 1
        have h0 : e.f0.f2 = 0 := by omega
        by_cases hz : e.f1.size = 0
        · rw [ba_nil_iff.2 hz, decide_eq_true (show OkE e from ⟨hr, by rw [if_pos h0]; omega⟩)]; rfl
        · have : ¬ e.f1.toList = [] := fun q => hz (ba_nil_iff.1 q)
          rw [beq_false_of_ne this, decide_eq_false (show ¬ OkE e from fun q => hz (q.parts.2.2.2.2.2 h0))]
    · rw [if_neg hv, decide_eq_false (show ¬ OkE e from fun q => hv (by have := q.parts.2.2.2.2.1; omega))]
  · rw [show decide (RightI ⟨e.f0.f0, e.f0.f1, e.f0.f2⟩) = false from decide_eq_false hr, if_neg (by decide), decide_eq_false (show ¬ OkE e from fun q => hr q.1)]
theorem rrising_ev {l : List En} (h : l.length ≤ 150) : Ev (fun k => ratlineref03_Rising.f k l) (risesB l) := ev_of 200 (fun k => rrising_k h k)
theorem rright_loop (l : List En) (hw : ∀ e ∈ l, WfN e) (hl : l.length ≤ 100) : ∀ (d i : Nat), i + d = l.length →
    Ev (fun k => ratlineref07_right.l0 k l (i : Int)) (decide (∀ e ∈ l.drop i, OkE e) && (decide (0 < l.length) && (decide (l.length ≤ 64) && risesB l))) := by
  intro d
  induction d with
  | zero =>
    intro i hi
    rw [List.drop_eq_nil_of_le (by omega), decide_eq_true (show ∀ e ∈ ([] : List En), OkE e from fun e he => by cases he), Bool.true_and]
    refine ev_step (fun k => by rw [ratlineref07_right.l0, if_neg (by omega)]) ?_
    by_cases h1 : 0 < l.length
    · refine ev_pos (by omega) ?_
      by_cases h2 : l.length ≤ 64
      · rw [decide_eq_true h1, decide_eq_true h2, Bool.true_and, Bool.true_and]
        exact ev_pos (by omega) (ev_call (rrising_ev (by omega)) (ev_some _))
      · rw [decide_eq_false h2, Bool.false_and, Bool.and_false]
        exact ev_neg (by omega) (ev_some _)
    · rw [decide_eq_false h1, Bool.false_and]
      exact ev_neg (by omega) (ev_some _)
  | succ d ih =>
    intro i hi
    have hlt : i < l.length := by omega
    obtain ⟨e, he⟩ : ∃ e, e = l[i] := ⟨_, rfl⟩
    obtain ⟨r, hr⟩ : ∃ r, r = l.drop (i + 1) := ⟨_, rfl⟩
    have hd : l.drop i = e :: r := by rw [he, hr]; exact List.drop_eq_getElem_cons hlt
    have hwe : WfN e := by rw [he]; exact hw _ (List.getElem_mem hlt)
    have := ih (i + 1) (by omega)
    rw [← hr] at this
    rw [hd]
    refine ev_step (fun k => by rw [ratlineref07_right.l0, if_pos (by omega), if_pos (by omega), rd_en l hlt, ← he, rentry_f e hwe, up1 (by omega)]) ?_
    refine ev_bind rfl ?_
    by_cases ho : OkE e
    · refine ev_pos (decide_eq_true ho) ?_
      rw [show decide (∀ x ∈ e :: r, OkE x) = decide (∀ x ∈ r, OkE x) from decide_eq_decide.2 ⟨fun q x hx => q x (List.mem_cons_of_mem _ hx), fun q x hx => by
        rcases List.mem_cons.1 hx with rfl | hx
        · exact ho
        · exact q x hx⟩]
      exact this
    · refine ev_neg (by rw [decide_eq_false ho]; decide) ?_
      rw [decide_eq_false (show ¬ ∀ x ∈ e :: r, OkE x from fun q => ho (q e (List.mem_cons_self ..))), Bool.false_and]
      exact ev_some _
theorem rright_ev (l : List En) (hw : ∀ e ∈ l, WfN e) (hl : l.length ≤ 100) : Ev (fun k => ratlineref07_right.f k l) (okEs l) := by
  have h := rright_loop l hw hl l.length 0 (by omega)
  rw [List.drop_zero] at h
  have e : okEs l = (decide (∀ e ∈ l, OkE e) && (decide (0 < l.length) && (decide (l.length ≤ 64) && risesB l))) := by
    unfold okEs
    cases decide (0 < l.length) <;> cases decide (l.length ≤ 64) <;> cases decide (∀ e ∈ l, OkE e) <;> cases risesB l <;> rfl
  rw [e]
  exact h
theorem rsh_loop (a b : ByteArray) (ha : a.size ≤ 1000000) (hb : b.size ≤ 1000000) : ∀ (d n : Nat), n + d = min a.size b.size → Ev (fun k => ratlineref07_shared.l0 k a b (n : Int)) ((n + comN (a.toList.drop n) (b.toList.drop n) : Nat) : Int) := by
  intro d
  induction d with
  | zero =>
    intro n hn
    by_cases h : a.size ≤ b.size
    · have h0 : comN (a.toList.drop n) (b.toList.drop n) = 0 := by
        rw [List.drop_eq_nil_of_le (by rw [toList_len]; omega), comN]
        intro a x b y h; cases h
      rw [h0, Nat.add_zero]
      exact ev_of 1 (fun k => by rw [ratlineref07_shared.l0, if_neg (by omega)])
    · have h0 : comN (a.toList.drop n) (b.toList.drop n) = 0 := by
        have hd : b.toList.drop n = [] := List.drop_eq_nil_of_le (by rw [toList_len]; omega)
        rw [hd, comN_nil_right]
      rw [h0, Nat.add_zero]
      exact ev_of 1 (fun k => by rw [ratlineref07_shared.l0, if_pos (by omega), if_neg (by omega)])
  | succ d ih =>
    intro n hn
    have h1 : n < a.toList.length := by rw [toList_len]; omega
    have h2 : n < b.toList.length := by rw [toList_len]; omega
    rw [List.drop_eq_getElem_cons h1, List.drop_eq_getElem_cons h2, comN]
    by_cases h : a.toList[n] = b.toList[n]
    · rw [if_pos h]
      have := ih (n + 1) (by omega)
      rw [show n + (comN (a.toList.drop (n + 1)) (b.toList.drop (n + 1)) + 1) = n + 1 + comN (a.toList.drop (n + 1)) (b.toList.drop (n + 1)) by omega]
      exact ev_step (fun k => by rw [ratlineref07_shared.l0, if_pos (by omega), if_pos (by omega), if_pos (by omega), if_pos (by rw [bt_toList a h1, bt_toList b h2, h]), up1 (by omega)]) this
    · rw [if_neg h, Nat.add_zero]
      exact ev_of 1 (fun k => by
        rw [ratlineref07_shared.l0, if_pos (by omega), if_pos (by omega), if_pos (by omega), if_neg (fun e => h ?_)]
        rw [bt_toList a h1, bt_toList b h2] at e
        exact UInt8.toNat_inj.1 (by omega))
theorem rsh_com {a b : ByteArray} (ha : a.size ≤ 1000000) (hb : b.size ≤ 1000000) : Ev (fun k => ratlineref07_shared.l0 k a b 0) ((com a b : Nat) : Int) := by
  have := rsh_loop a b ha hb (min a.size b.size) 0 (by omega)
  rw [List.drop_zero, List.drop_zero, Nat.zero_add] at this
  exact this
theorem com_nil (b : ByteArray) : com ⟨#[]⟩ b = 0 := by
  have := (com_le ⟨#[]⟩ b).1
  exact Nat.le_zero.1 this
theorem bldS_k (l : List En) {i : Nat} (h : i < l.length) : (bldS (l.take (i + 1))).k = l[i].f0.f0 := by
  rw [List.take_succ_eq_append_getElem h, bldS_snoc]; rfl
theorem rsh_ev (l : List En) (ho : ∀ e ∈ l, OkE e) (hl : l.length ≤ 100) {i : Nat} (hi : i < l.length) : Ev (fun k => ratlineref07_shared.f k l (i : Int)) (((bldS (l.take i)).n l[i] : Nat) : Int) := by
  have hm : (bldS (l.take i)).m = i := by rw [bldS_m, List.length_take]; omega
  have hn : (bldS (l.take i)).n l[i] = com (keyAt i (bldS (l.take i)).k) l[i].f0.f0 := by unfold BS.n; rw [hm]
  have ht : Int.tmod (i : Int) 4 = ((i % 4 : Nat) : Int) := rfl
  unfold ratlineref07_shared.f
  rw [hn, ht]
  by_cases h4 : i % 4 = 0
  · rw [keyAt, if_pos h4, com_nil]
    exact ev_pos (by omega) (ev_some _)
  · obtain ⟨j, rfl⟩ : ∃ j, i = j + 1 := ⟨i - 1, by omega⟩
    have hj : wrap64 (((j + 1 : Nat) : Int) - 1) = (j : Int) := by unfold wrap64; omega
    rw [keyAt, if_neg h4, bldS_k l (show j < l.length by omega), hj]
    refine ev_neg (by omega) (ev_pos (by omega) (ev_pos (by omega) (ev_pos (by omega) (ev_pos (by omega) ?_))))
    rw [rd_en l (show j < l.length by omega), rd_en l hi]
    exact rsh_com (by have := (ho _ (List.getElem_mem (show j < l.length by omega))).parts.2.1; omega) (by have := (ho _ (List.getElem_mem hi)).parts.2.1; omega)
theorem rput_ev {l : List Int} {x : Nat} (hx : x < 18446744073709551616) (hl : l.length + 20 < 140737488355328) : Ev (fun k => ratlineref02_Put.f k l (x : Int)) (l ++ vint x) := ev_of 11 (fun k => rput_f hx (by omega) hl)
theorem rputText_ev {l : List Int} {s : ByteArray} (hl : l.length + 20 + s.size < 140737488355328) : Ev (fun k => ratlineref02_PutText.f k l s) (l ++ vint s.size ++ bytesOf s) := ev_of 11 (fun k => rputText_f (by omega) hl)
theorem rputFour_ev {l : List Int} {x : Nat} (hx : x < 4294967296) (hl : l.length + 20 < 140737488355328) : Ev (fun k => ratlineref02_PutFour.f k l (x : Int)) (l ++ four x) := ev_of 11 (fun k => rputFour_f hx (by omega) hl)
theorem rb_loop (l : List En) (ho : ∀ e ∈ l, OkE e) (hw : ∀ e ∈ l, WfN e) (hl : l.length ≤ 64) : ∀ (d i : Nat), i + d = l.length →
    Ev (fun k => ratlineref07_Build.l0 k l (bldS (l.take i)).b (bldS (l.take i)).p (((i + 3) / 4 : Nat) : Int) (i : Int)) (formB l, 0) := by
  intro d
  induction d with
  | zero =>
    intro i hi
    obtain ⟨B1, _, B3⟩ := bldS_len l ho hw
    rw [List.take_of_length_le (by omega)]
    have B3' : (bldS l).p.length ≤ 256 := by omega
    have B1' : (bldS l).b.length ≤ 25600 := by omega
    refine ev_step (fun k => by rw [ratlineref07_Build.l0, if_neg (by omega)]) ?_
    refine ev_pos (show (bldS l).b.length + (bldS l).p.length < 140737488355328 by omega) ?_
    refine ev_call (rputFour_ev (x := (i + 3) / 4) (by omega) (by rw [List.length_append]; omega)) ?_
    have hi' : i = l.length := by omega
    rw [formB, outF, bldS_m, hi']
    exact ev_some _
  | succ d ih =>
    intro i hi
    have hlt : i < l.length := by omega
    obtain ⟨e, he⟩ : ∃ e, e = l[i] := ⟨_, rfl⟩
    have hoe : OkE e := by rw [he]; exact ho _ (List.getElem_mem hlt)
    have hwe : WfN e := by rw [he]; exact hw _ (List.getElem_mem hlt)
    obtain ⟨p1, p2, p3, p4, p5, p6⟩ := hoe.parts
    obtain ⟨w1, w2⟩ := hwe
    obtain ⟨B1, _, B3⟩ := bldS_len (l.take i) (fun x hx => ho x (List.mem_of_mem_take hx)) (fun x hx => hw x (List.mem_of_mem_take hx))
    have hil : (l.take i).length = i := by rw [List.length_take]; omega
    rw [hil] at B1 B3
    have hn := rsh_ev l ho (by omega) hlt
    have hnk : (bldS (l.take i)).n e ≤ e.f0.f0.size := (com_le _ _).2
    have hnext := ih (i + 1) (by omega)
    have hm : (bldS (l.take i)).m = i := by rw [bldS_m, hil]
    have hs1 : bldS (l.take (i + 1)) = (bldS (l.take i)).put e := by rw [List.take_succ_eq_append_getElem hlt, bldS_snoc, ← he]
    obtain ⟨s, hs⟩ : ∃ s, s = bldS (l.take i) := ⟨_, rfl⟩
    rw [← he] at hn
    rw [← hs] at hn hnk hs1 B1 B3 hm ⊢
    obtain ⟨n, hnn⟩ : ∃ n, n = s.n e := ⟨_, rfl⟩
    have hsb : (s.put e).b = s.b ++ entF n e := by rw [hnn]; rfl
    have hsp : (s.put e).p = plcAt i s.p s.b.length := by rw [← hm]; rfl
    rw [hs1, hsb, hsp] at hnext
    rw [← hnn] at hn hnk
    obtain ⟨x, hx⟩ : ∃ x, x = e.f0.f1.toNat * 2 + e.f0.f2.toNat := ⟨_, rfl⟩
    have hwx : IntKind.u64.wrap (IntKind.u64.wrap (e.f0.f1 * 2) + IntKind.u64.wrap e.f0.f2) = (x : Int) := by
      rw [IntKind.wrap_u64, IntKind.wrap_u64, IntKind.wrap_u64]; omega
    have hwn : IntKind.u64.wrap (n : Int) = (n : Int) := wrap_u64_nat (by omega)
    obtain ⟨tx, htx⟩ : ∃ t, t = e.f0.f0.extract n e.f0.f0.size := ⟨_, rfl⟩
    have htxs : tx.size = e.f0.f0.size - n := by rw [htx, ByteArray.size_extract]; omega
    have v1 := vint_len10 (x := n) (by omega)
    have v2 := vint_len10 (x := tx.size) (by omega)
    have v3 := vint_len10 (x := x) (by omega)
    have hj : ∀ (q : List Int) (z : Int), Ev (fun k => ratlineref07_Build.l0 k l (s.b ++ entF n e) q z (((i + 1 : Nat)) : Int)) (formB l, 0) → Ev (fun k => ratlineref07_Build.j1 k l s.b q z (i : Int)) (formB l, 0) := by
      intro q z hq
      refine ev_step (fun k => by rw [ratlineref07_Build.j1, if_pos (by omega), if_pos (by omega), rd_en l hlt, ← he, up1 (by omega)]) ?_
      refine ev_call hn ?_
      rw [hwn]
      refine ev_call (rput_ev (x := n) (by omega) (by omega)) (ev_pos (by omega) (ev_pos (by omega) ?_))
      rw [Int.toNat_natCast, ← htx]
      refine ev_call (rputText_ev (s := tx) (by rw [List.length_append]; omega)) ?_
      rw [hwx]
      refine ev_call (rput_ev (x := x) (by omega) (by simp only [List.length_append, bytesOf_length]; omega)) ?_
      by_cases hk : e.f0.f2 = 1
      · refine ev_pos hk ?_
        refine ev_call (rputText_ev (s := e.f1) (by simp only [List.length_append, bytesOf_length]; omega)) ?_
        have hee : s.b ++ vint n ++ vint tx.size ++ bytesOf tx ++ vint x ++ vint e.f1.size ++ bytesOf e.f1 = s.b ++ entF n e := by
          rw [entF, if_pos hk, ← htx, ← hx, ← htxs]
          simp only [List.append_assoc]
        rw [hee]
        exact hq
      · refine ev_neg hk ?_
        have hee : s.b ++ vint n ++ vint tx.size ++ bytesOf tx ++ vint x = s.b ++ entF n e := by
          rw [entF, if_neg hk, ← htx, ← hx, ← htxs]
          simp only [List.append_assoc, List.append_nil]
        rw [hee]
        exact hq
    refine ev_step (fun k => by rw [ratlineref07_Build.l0, if_pos (by omega)]) ?_
    have ht : Int.tmod (i : Int) 4 = ((i % 4 : Nat) : Int) := rfl
    rw [ht]
    by_cases h4 : i % 4 = 0
    · refine ev_pos (by omega) ?_
      rw [plcAt, if_pos h4] at hnext
      rw [show ((s.b.length : Int)) % 4294967296 = ((s.b.length : Nat) : Int) by omega]
      refine ev_call (rputFour_ev (x := s.b.length) (by omega) (by omega)) ?_
      rw [show ((((i + 3) / 4 : Nat) : Int) + 1) % 4294967296 = (((i + 1 + 3) / 4 : Nat) : Int) by omega]
      exact hj _ _ hnext
    · refine ev_neg (by omega) ?_
      rw [plcAt, if_neg h4] at hnext
      rw [show (i + 1 + 3) / 4 = (i + 3) / 4 by omega] at hnext
      exact hj _ _ hnext
theorem rbuild_ev (l : List En) (hw : ∀ e ∈ l, WfN e) (hl : l.length ≤ 100) : Ev (fun k => ratlineref07_Build.f k l) (if okEs l = true then (formB l, 0) else ([], 70)) := by
  unfold ratlineref07_Build.f
  refine ev_call (rright_ev l hw hl) ?_
  by_cases h : okEs l = true
  · obtain ⟨_, k2, k3, _⟩ := okEs_parts h
    rw [if_pos h]
    exact ev_pos h (rb_loop l k3 hw k2 l.length 0 (by omega))
  · rw [if_neg h]
    exact ev_neg h (ev_some _)
end Go.Proofs.YtjcjfghcahbbmaaL

end

section
set_option linter.unusedVariables false
set_option linter.unusedSimpArgs false
namespace Go.Proofs.YtjcjfghcahbbmaaL
open Go Go.RowKit Go.Proofs.YtjcjfghcahbbmaaG Go.Proofs.Ytjcjfghcahbbmaa.P Go.Proofs.YtjcjfghcahbbmaaW.PrintWords Go.Proofs.YtjcjfghcahbbmaaW.PrintMore

theorem rtk_ev {l : List Int} {v : Int × List Int × Bool} (h : nums_Take.f l = some v) (hb : By l) (hl : l.length ≤ 1000000) : Ev (fun k => ratlineref02_Take.f k l) v :=
  ev_of 51 (fun k => by rw [rtake_f hb (by omega) (by omega)]; exact h)
theorem rtx_ev {l : List Int} {m : Int} {v : ByteArray × List Int × Bool} (h : nums_TakeText.f l m = some v) (h0 : 0 ≤ m) (hm : m ≤ 1000) (hb : By l) (hl : l.length ≤ 1000000) : Ev (fun k => ratlineref02_TakeText.f k l m) v :=
  ev_of 51 (fun k => by rw [rtakeText_f (by omega) (by omega) hb (by omega) (by omega)]; exact h)
theorem tdiv2 {x : Nat} (h : x < 18446744073709551616) : IntKind.u64.wrap (Int.tdiv (x : Int) 2) = ((x / 2 : Nat) : Int) := by
  rw [show Int.tdiv (x : Int) 2 = ((x / 2 : Nat) : Int) from rfl]; exact wrap_u64_nat (by omega)
theorem tmod2 (x : Nat) : (Int.tmod (x : Int) 2) % 256 = ((x % 2 : Nat) : Int) := by
  rw [show Int.tmod (x : Int) 2 = ((x % 2 : Nat) : Int) from rfl]; omega
/-- The six that one entry's reading answers. -/
def oneR (e : En) (r : List Int) (ok : Bool) : ByteArray × Int × Int × ByteArray × List Int × Bool := (e.f0.f0, e.f0.f1, e.f0.f2, e.f1, r, ok)
theorem rone_any (rest : List Int) (key : ByteArray) (hb : By rest) (hl : rest.length ≤ 1000000) (hk : key.size ≤ 100000) :
    ∃ (e : En) (r : List Int) (ok : Bool), Ev (fun k => ratlineref07_one.f k rest key) (oneR e r ok) ∧ (ok = true → WfN e ∧ By r ∧ r.length ≤ rest.length ∧ e.f0.f0.size ≤ key.size + 1000) := by
  obtain ⟨n, r1, k1, f1, u1, b1, l1, s1⟩ := tk_any rest hb hl
  have hno : ∀ (a : Int) (b : List Int), Ev (fun k => ratlineref07_one.j0 k key a b true) (oneR zeroE [] false) := fun a b => by
    refine ev_step (fun k => by rw [ratlineref07_one.j0]) ?_
    refine ev_pos rfl ?_
    exact ev_some _
  have fail : ∀ {g : Nat → Option (ByteArray × Int × Int × ByteArray × List Int × Bool)} {e : En} {r : List Int}, Ev g (oneR e r false) → ∃ (e : En) (r : List Int) (ok : Bool), Ev g (oneR e r ok) ∧ (ok = true → WfN e ∧ By r ∧ r.length ≤ rest.length ∧ e.f0.f0.size ≤ key.size + 1000) := fun {g e r} h => ⟨e, r, false, h, fun q => Bool.noConfusion q⟩
  have start : ∀ {v}, Ev (fun k => if k1 = true then ratlineref07_one.j0 k key (n : Int) r1 (decide ((n : Int) > IntKind.u64.wrap (key.size : Int))) else ratlineref07_one.j0 k key (n : Int) r1 true) v → Ev (fun k => ratlineref07_one.f k rest key) v := by
    intro v h
    unfold ratlineref07_one.f
    refine ev_call3 (rtk_ev f1 hb hl) (fun q q1 q2 q3 => ?_)
    rw [q1, q2, q3]
    exact h
  cases k1 with
  | false => exact fail (e := zeroE) (r := []) (start (ev_neg (by decide) (hno _ _)))
  | true =>
    rw [wrap_u64_nat (show key.size < 18446744073709551616 by omega)] at start
    by_cases hn : (n : Int) > (key.size : Int)
    · refine fail (e := zeroE) (r := []) (start (ev_pos rfl ?_))
      rw [decide_eq_true hn]
      exact hno _ _
    · obtain ⟨t, r2, k2, f2, b2, l2, s2⟩ := tx_any r1 64 (by omega) b1 (by omega)
      obtain ⟨x, r3, k3, f3, u3, b3, l3, s3⟩ := tk_any r2 b2 (by omega)
      have hsz := ext_size key (n := n) (by omega)
      have st2 : ∀ {v}, Ev (fun k => if k2 = true then ((ratlineref02_Take.f k r2).bind fun bt386 => (if bt386.2.2 = true then (if 0 ≤ (n : Int) then (if (n : Int) ≤ (key.size : Int) then (if (key.extract 0 ((n : Int)).toNat).size + t.size ≤ 9223372036854775807 then (if ((Int.tmod bt386.1 2) % 256) = 1 then ((ratlineref02_TakeText.f k bt386.2.1 256).bind fun bt392 => (some ((key.extract 0 ((n : Int)).toNat) ++ t, IntKind.u64.wrap (Int.tdiv bt386.1 2), (Int.tmod bt386.1 2) % 256, bt392.1, bt392.2.1, bt392.2.2))) else (some ((key.extract 0 ((n : Int)).toNat) ++ t, IntKind.u64.wrap (Int.tdiv bt386.1 2), (Int.tmod bt386.1 2) % 256, (⟨#[]⟩ : ByteArray), bt386.2.1, bt386.2.2))) else (none)) else (none)) else (none)) else (some ((⟨#[]⟩ : ByteArray), 0, 0, (⟨#[]⟩ : ByteArray), ([] : List Int), false)))) else (some ((⟨#[]⟩ : ByteArray), 0, 0, (⟨#[]⟩ : ByteArray), ([] : List Int), false))) v → Ev (fun k => ratlineref07_one.f k rest key) v := by
        intro v h
        refine start (ev_pos rfl ?_)
        rw [decide_eq_false hn]
        refine ev_step (fun k => by rw [ratlineref07_one.j0]) (ev_neg (by decide) ?_)
        refine ev_call3 (rtx_ev f2 (by omega) (by omega) b1 (by omega)) (fun q q1 q2 q3 => ?_)
        rw [q1, q2, q3]
        exact h
      cases k2 with
      | false => exact fail (e := zeroE) (r := []) (st2 (ev_neg (by decide) (ev_some _)))
      | true =>
        have st3 : ∀ {v}, Ev (fun k => if k3 = true then (if ((x % 2 : Nat) : Int) = 1 then ((ratlineref02_TakeText.f k r3 256).bind fun bt392 => (some ((key.extract 0 n) ++ t, ((x / 2 : Nat) : Int), ((x % 2 : Nat) : Int), bt392.1, bt392.2.1, bt392.2.2))) else (some ((key.extract 0 n) ++ t, ((x / 2 : Nat) : Int), ((x % 2 : Nat) : Int), (⟨#[]⟩ : ByteArray), r3, k3))) else (some ((⟨#[]⟩ : ByteArray), 0, 0, (⟨#[]⟩ : ByteArray), ([] : List Int), false))) v → Ev (fun k => ratlineref07_one.f k rest key) v := by
          intro v h
          refine st2 (ev_pos rfl ?_)
          refine ev_call3 (rtk_ev f3 b2 (by omega)) (fun q q1 q2 q3 => ?_)
          rw [q1, q2, q3, tdiv2 u3, tmod2, Int.toNat_natCast]
          cases k3 with
          | false =>
            refine ev_neg (by decide) ?_
            simpa using h
          | true =>
            refine ev_pos rfl (ev_pos (by omega) (ev_pos (by omega) (ev_pos (by rw [hsz]; omega) ?_)))
            simpa using h
        have hks : ((key.extract 0 n) ++ t).size ≤ key.size + 1000 := by rw [ByteArray.size_append, hsz]; omega
        cases k3 with
        | false => exact fail (e := zeroE) (r := []) (st3 (ev_neg (by decide) (ev_some _)))
        | true =>
          by_cases hk1 : ((x % 2 : Nat) : Int) = 1
          · obtain ⟨v, r4, k4, f4, b4, l4, s4⟩ := tx_any r3 256 (by omega) b3 (by omega)
            refine ⟨⟨⟨(key.extract 0 n) ++ t, ((x / 2 : Nat) : Int), ((x % 2 : Nat) : Int)⟩, v⟩, r4, k4, st3 (ev_pos rfl (ev_pos hk1 ?_)), fun _ => ⟨⟨Int.natCast_nonneg _, Int.natCast_nonneg _⟩, b4, by omega, hks⟩⟩
            refine ev_call3 (rtx_ev f4 (by omega) (by omega) b3 (by omega)) (fun q q1 q2 q3 => ?_)
            rw [q1, q2, q3]
            exact ev_some _
          · exact ⟨⟨⟨(key.extract 0 n) ++ t, ((x / 2 : Nat) : Int), ((x % 2 : Nat) : Int)⟩, ⟨#[]⟩⟩, r3, true, st3 (ev_pos rfl (ev_neg hk1 (ev_some _))), fun _ => ⟨⟨Int.natCast_nonneg _, Int.natCast_nonneg _⟩, b3, by omega, hks⟩⟩
theorem rone_form (e : En) (key : ByteArray) (rest : List Int) (ho : OkE e) (hw : WfN e) (hb : By rest) (hl : rest.length ≤ 40000) (hk : key.size ≤ 1000) :
    Ev (fun k => ratlineref07_one.f k (entF (com key e.f0.f0) e ++ rest) key) (oneR e rest true) := by
  obtain ⟨p1, p2, p3, p4, p5, p6⟩ := ho.parts
  obtain ⟨w1, w2⟩ := hw
  have hnk := com_le key e.f0.f0
  have hkey := key_join key e.f0.f0
  obtain ⟨n, hn⟩ : ∃ n, n = com key e.f0.f0 := ⟨_, rfl⟩
  rw [← hn] at hnk hkey ⊢
  obtain ⟨tx, htx⟩ : ∃ t, t = e.f0.f0.extract n e.f0.f0.size := ⟨_, rfl⟩
  have htxs : tx.size = e.f0.f0.size - n := by rw [htx, ByteArray.size_extract]; omega
  obtain ⟨x, hx⟩ : ∃ x, x = e.f0.f1.toNat * 2 + e.f0.f2.toNat := ⟨_, rfl⟩
  obtain ⟨va, hva⟩ : ∃ v, v = (if e.f0.f2 = 1 then vint e.f1.size ++ bytesOf e.f1 else []) := ⟨_, rfl⟩
  have hval : va.length ≤ 300 ∧ By va := by
    rw [hva]
    split
    · have := vint_len10 (x := e.f1.size) (by omega)
      rw [List.length_append, bytesOf_length]
      exact ⟨by omega, (vint_by _).append (bytesOf_by _)⟩
    · exact ⟨by simp, .nil⟩
  have hform : entF n e ++ rest = vint n ++ (vint tx.size ++ (bytesOf tx ++ (vint x ++ (va ++ rest)))) := by
    rw [entF, ← htx, ← hx, ← hva, htxs]
    simp only [List.append_assoc]
  have v1 := vint_len10 (x := n) (by omega)
  have v2 := vint_len10 (x := tx.size) (by omega)
  have v3 := vint_len10 (x := x) (by omega)
  have b3 : By (va ++ rest) := hval.2.append hb
  have b2 : By (vint x ++ (va ++ rest)) := (vint_by _).append b3
  have b1 : By (vint tx.size ++ (bytesOf tx ++ (vint x ++ (va ++ rest)))) := (vint_by _).append ((bytesOf_by _).append b2)
  have b0 : By (vint n ++ (vint tx.size ++ (bytesOf tx ++ (vint x ++ (va ++ rest))))) := (vint_by _).append b1
  have f1 := take_vint n _ (by omega) b1 (by simp only [List.length_append, bytesOf_length]; omega)
  have f2 := takeText_yes tx (vint x ++ (va ++ rest)) 64 (by omega) b2 (by simp only [List.length_append]; omega) (by omega)
  have f3 := take_vint x (va ++ rest) (by omega) b3 (by rw [List.length_append]; omega)
  have hxk : ((x % 2 : Nat) : Int) = e.f0.f2 := by omega
  have hxs : ((x / 2 : Nat) : Int) = e.f0.f1 := by omega
  have hwk : IntKind.u64.wrap (key.size : Int) = (key.size : Int) := wrap_u64_nat (by omega)
  have hsz := ext_size key (n := n) hnk.1
  unfold ratlineref07_one.f
  rw [hform]
  refine ev_call3 (rtk_ev f1 b0 (by simp only [List.length_append, bytesOf_length]; omega)) (fun q q1 q2 q3 => ?_)
  rw [q1, q2, q3, hwk, decide_eq_false (by omega)]
  refine ev_pos rfl (ev_step (fun k => by rw [ratlineref07_one.j0]) (ev_neg (by decide) ?_))
  refine ev_call3 (rtx_ev f2 (by omega) (by omega) b1 (by simp only [List.length_append, bytesOf_length]; omega)) (fun q q1 q2 q3 => ?_)
  rw [q1, q2, q3]
  refine ev_pos rfl ?_
  refine ev_call3 (rtk_ev f3 b2 (by simp only [List.length_append]; omega)) (fun q q1 q2 q3 => ?_)
  rw [q1, q2, q3, tdiv2 (by omega), tmod2, Int.toNat_natCast, hxk, hxs, htx, hkey]
  refine ev_pos rfl (ev_pos (by omega) (ev_pos (by omega) (ev_pos (by rw [hsz, ← htx]; omega) ?_)))
  by_cases hk1 : e.f0.f2 = 1
  · refine ev_pos hk1 ?_
    rw [hva, if_pos hk1, List.append_assoc]
    refine ev_call3 (rtx_ev (takeText_yes e.f1 rest 256 (by omega) hb (by omega) (by omega)) (by omega) (by omega) ((vint_by _).append ((bytesOf_by _).append hb)) (by have := vint_len10 (x := e.f1.size) (by omega); simp only [List.length_append, bytesOf_length]; omega)) (fun u u1 u2 u3 => ?_)
    rw [u1, u2, u3]
    exact ev_some _
  · refine ev_neg hk1 ?_
    have hv0 : e.f1 = ⟨#[]⟩ := ba_nil_of (p6 (by omega))
    rw [hva, if_neg hk1, List.nil_append]
    have hee : oneR e rest true = (e.f0.f0, e.f0.f1, e.f0.f2, (⟨#[]⟩ : ByteArray), rest, true) := by rw [oneR, hv0]
    rw [hee]
    exact ev_some _
end Go.Proofs.YtjcjfghcahbbmaaL

end

section
set_option linter.unusedVariables false
set_option linter.unusedSimpArgs false
namespace Go.Proofs.YtjcjfghcahbbmaaL
open Go Go.RowKit Go.Proofs.YtjcjfghcahbbmaaG Go.Proofs.Ytjcjfghcahbbmaa.P Go.Proofs.YtjcjfghcahbbmaaW.PrintWords Go.Proofs.YtjcjfghcahbbmaaW.PrintMore

theorem str_iff {a b : List Int} (ha : By a) (hb : By b) : ((strOfNums a).toList = (strOfNums b).toList) ↔ a = b :=
  ⟨fun h => str_inj ha hb (ba_ext h), fun h => by rw [h]⟩
/-- One round behind the key that is ahead. -/
theorem rp_step (raw : List Int) (acc : List En) (rest : List Int) (key : ByteArray) (e : En) (r : List Int) (v : List En × Int) (hb : By raw) (ha : acc.length < 64) (hw : ∀ x ∈ acc ++ [e], WfN x)
    (h1 : Ev (fun k => ratlineref07_one.f k rest key) (oneR e r true))
    (h2 : okEs (acc ++ [e]) = true ∧ raw = formB (acc ++ [e]) → v = (acc ++ [e], 0))
    (h3 : ¬ (okEs (acc ++ [e]) = true ∧ raw = formB (acc ++ [e])) → Ev (fun k => ratlineref07_Parse.l0 k raw (acc ++ [e]) r e.f0.f0) v) :
    Ev (fun k => ratlineref07_Parse.j1 k raw acc rest key) v := by
  refine ev_step (fun k => by rw [ratlineref07_Parse.j1]) ?_
  refine ev_call h1 ?_
  refine ev_pos rfl (ev_pos (by omega) (ev_bind (a := acc ++ [e]) rfl ?_))
  refine ev_call (rbuild_ev (acc ++ [e]) hw (by rw [List.length_append]; show acc.length + 1 ≤ 100; omega)) ?_
  by_cases hk : okEs (acc ++ [e]) = true
  · rw [if_pos hk]
    refine ev_pos rfl ?_
    by_cases he : raw = formB (acc ++ [e])
    · refine ev_pos ((str_iff (formB_by _) hb).2 he.symm) ?_
      rw [h2 ⟨hk, he⟩]
      exact ev_some _
    · exact ev_neg (fun q => he ((str_iff (formB_by _) hb).1 q).symm) (h3 (fun q => he q.2))
  · rw [if_neg hk]
    exact ev_neg (by decide) (h3 (fun q => hk q.1))
theorem rp_any (raw : List Int) (hb : By raw) : ∀ (d : Nat) (acc : List En) (rest : List Int) (key : ByteArray), acc.length + d = 64 → (∀ x ∈ acc, WfN x) → By rest → rest.length ≤ 1000000 → key.size ≤ 1000 * acc.length →
    ∃ (y : List En) (c : Int), Ev (fun k => ratlineref07_Parse.l0 k raw acc rest key) (y, c) ∧ ((okEs y = true ∧ (∀ e ∈ y, WfN e) ∧ raw = formB y ∧ c = 0) ∨ (y = [] ∧ c = 70)) := by
  intro d
  induction d with
  | zero =>
    intro acc rest key hd hw hr hl hk
    refine ⟨[], 70, ?_, .inr ⟨rfl, rfl⟩⟩
    refine ev_step (fun k => by rw [ratlineref07_Parse.l0, if_neg (by omega)]) ?_
    exact ev_some _
  | succ d ih =>
    intro acc rest key hd hw hr hl hk
    have hj : ∀ (k0 : ByteArray), k0.size ≤ 1000 * acc.length → ∃ (y : List En) (c : Int), Ev (fun k => ratlineref07_Parse.j1 k raw acc rest k0) (y, c) ∧ ((okEs y = true ∧ (∀ e ∈ y, WfN e) ∧ raw = formB y ∧ c = 0) ∨ (y = [] ∧ c = 70)) := by
      intro k0 hk0
      obtain ⟨e, r, ok, h1, h2⟩ := rone_any rest k0 hr hl (by omega)
      cases ok with
      | false =>
        refine ⟨[], 70, ?_, .inr ⟨rfl, rfl⟩⟩
        refine ev_step (fun k => by rw [ratlineref07_Parse.j1]) ?_
        refine ev_call h1 ?_
        refine ev_neg (by simp [oneR]) ?_
        exact ev_some _
      | true =>
        obtain ⟨q1, q2, q3, q4⟩ := h2 rfl
        have hw' : ∀ x ∈ acc ++ [e], WfN x := fun x hx => by
          rcases List.mem_append.1 hx with hx | hx
          · exact hw x hx
          · rw [List.mem_singleton.1 hx]; exact q1
        by_cases hs : okEs (acc ++ [e]) = true ∧ raw = formB (acc ++ [e])
        · exact ⟨acc ++ [e], 0, rp_step raw acc rest k0 e r _ hb (by omega) hw' h1 (fun _ => rfl) (fun q => absurd hs q), .inl ⟨hs.1, hw', hs.2, rfl⟩⟩
        · obtain ⟨y, c, g1, g2⟩ := ih (acc ++ [e]) r e.f0.f0 (by rw [List.length_append]; show acc.length + 1 + d = 64; omega) hw' q2 (by omega) (by rw [List.length_append]; show _ ≤ 1000 * (acc.length + 1); omega)
          exact ⟨y, c, rp_step raw acc rest k0 e r _ hb (by omega) hw' h1 (fun q => absurd q hs) (fun _ => g1), g2⟩
    by_cases h4 : ((acc.length : Int) % 4) = 0
    · obtain ⟨y, c, g1, g2⟩ := hj ⟨#[]⟩ (Nat.zero_le _)
      refine ⟨y, c, ?_, g2⟩
      refine ev_step (fun k => by rw [ratlineref07_Parse.l0, if_pos (by omega)]) ?_
      exact ev_pos h4 g1
    · obtain ⟨y, c, g1, g2⟩ := hj key hk
      refine ⟨y, c, ?_, g2⟩
      refine ev_step (fun k => by rw [ratlineref07_Parse.l0, if_pos (by omega)]) ?_
      exact ev_neg h4 g1
theorem rises_take : ∀ (l : List En) (i : Nat), risesB l = true → risesB (l.take i) = true
  | [], i, _ => by rw [List.take_nil]; rfl
  | [a], 0, _ => rfl
  | [a], i + 1, _ => by rw [List.take_succ_cons, List.take_nil]; rfl
  | a :: b :: l, 0, _ => rfl
  | a :: b :: l, 1, _ => rfl
  | a :: b :: l, i + 2, h => by
    rw [rises_two, Bool.and_eq_true] at h
    have := rises_take (b :: l) (i + 1) h.2
    rw [List.take_succ_cons] at this
    rw [List.take_succ_cons, List.take_succ_cons, rises_two, this, h.1]
    rfl
theorem okEs_take {l : List En} (h : okEs l = true) {i : Nat} (hi : 0 < i) : okEs (l.take i) = true := by
  obtain ⟨k1, k2, k3, k4⟩ := okEs_parts h
  unfold okEs
  rw [rises_take l i k4, decide_eq_true (show 0 < (l.take i).length by rw [List.length_take]; omega), decide_eq_true (show (l.take i).length ≤ 64 by rw [List.length_take]; omega), decide_eq_true (show ∀ e ∈ l.take i, OkE e from fun e he => k3 e (List.mem_of_mem_take he))]
  rfl
theorem bldS_ks (l : List En) (ho : ∀ e ∈ l, OkE e) : (bldS l).k.size ≤ 64 := by
  refine rev_ind (P := fun q => (∀ x ∈ q, OkE x) → (bldS q).k.size ≤ 64) (fun _ => Nat.zero_le _) (fun q x _ hq => ?_) l ho
  rw [bldS_snoc]
  exact (hq x (by simp)).parts.2.1
theorem rp_form (L : List En) (hk : okEs L = true) (hw : ∀ e ∈ L, WfN e) : ∀ (d i : Nat) (rest : List Int), i + d + 1 = L.length → formB L = (bldS (L.take i)).b ++ rest →
    Ev (fun k => ratlineref07_Parse.l0 k (formB L) (L.take i) rest (bldS (L.take i)).k) (L, 0) := by
  obtain ⟨k1, k2, k3, k4⟩ := okEs_parts hk
  have hBY := formB_by L
  obtain ⟨hfl, hf2⟩ := formB_len k3 hw k2
  have key : ∀ (i : Nat) (rest : List Int), i < L.length → formB L = (bldS (L.take i)).b ++ rest →
      (i + 1 < L.length → ∀ rest', formB L = (bldS (L.take (i + 1))).b ++ rest' → Ev (fun k => ratlineref07_Parse.l0 k (formB L) (L.take (i + 1)) rest' (bldS (L.take (i + 1))).k) (L, 0)) →
      Ev (fun k => ratlineref07_Parse.l0 k (formB L) (L.take i) rest (bldS (L.take i)).k) (L, 0) := by
    intro i rest hlt hr hnext
    obtain ⟨e, he⟩ : ∃ e, e = L[i] := ⟨_, rfl⟩
    have htk : L.take (i + 1) = L.take i ++ [e] := by rw [he, List.take_succ_eq_append_getElem hlt]
    have hoe : OkE e := by rw [he]; exact k3 _ (List.getElem_mem hlt)
    have hwe : WfN e := by rw [he]; exact hw _ (List.getElem_mem hlt)
    have hil : (L.take i).length = i := by rw [List.length_take]; omega
    have hmi : (bldS (L.take i)).m = i := by rw [bldS_m, hil]
    have hks := bldS_ks (L.take i) (fun x hx => k3 x (List.mem_of_mem_take hx))
    have hk1 : (bldS (L.take (i + 1))).k = e.f0.f0 := by rw [htk, bldS_snoc]; rfl
    have hb1 : (bldS (L.take (i + 1))).b = (bldS (L.take i)).b ++ entF ((bldS (L.take i)).n e) e := by rw [htk, bldS_snoc]; rfl
    obtain ⟨r2, hr2⟩ := bldS_pre L (i + 1)
    have hfr : formB L = (bldS (L.take (i + 1))).b ++ (r2 ++ ((bldS L).p ++ four (((bldS L).m + 3) / 4))) := by
      rw [formB, outF, hr2]
      simp only [List.append_assoc]
    obtain ⟨rest', hrest'⟩ : ∃ q, q = r2 ++ ((bldS L).p ++ four (((bldS L).m + 3) / 4)) := ⟨_, rfl⟩
    rw [← hrest'] at hfr
    have hrr : rest = entF ((bldS (L.take i)).n e) e ++ rest' := by
      have h9 := hr.symm.trans hfr
      rw [hb1, List.append_assoc] at h9
      exact List.append_cancel_left h9
    have hBr : By rest' := By.right (hfr ▸ hBY)
    have hlr : rest'.length ≤ 40000 := by
      have h8 := congrArg List.length hfr
      rw [List.length_append] at h8
      omega
    have hwt : ∀ x ∈ L.take i ++ [e], WfN x := fun x hx => by
      rw [← htk] at hx
      exact hw x (List.mem_of_mem_take hx)
    have hok1 : okEs (L.take i ++ [e]) = true := by rw [← htk]; exact okEs_take hk (by omega)
    have hj : ∀ k0 : ByteArray, k0 = keyAt i (bldS (L.take i)).k → Ev (fun k => ratlineref07_Parse.j1 k (formB L) (L.take i) rest k0) (L, 0) := by
      intro k0 hk0
      have hn : (bldS (L.take i)).n e = com k0 e.f0.f0 := by unfold BS.n; rw [hmi, hk0]
      have hk0s : k0.size ≤ 1000 := by
        rw [hk0, keyAt]
        split
        · exact Nat.zero_le _
        · omega
      rw [hrr, hn]
      refine rp_step (formB L) (L.take i) _ k0 e rest' (L, 0) hBY (by omega) hwt (rone_form e k0 rest' hoe hwe hBr hlr hk0s) (fun q => ?_) (fun q => ?_)
      · rw [← formB_inj hk hw q.1 hwt q.2]
      · have hlt' : i + 1 < L.length := by
          rcases Nat.lt_or_ge (i + 1) L.length with h | h
          · exact h
          · exact absurd ⟨hok1, by rw [← htk, List.take_of_length_le h]⟩ q
        have := hnext hlt' rest' hfr
        rw [hk1, htk] at this
        exact this
    refine ev_step (fun k => by rw [ratlineref07_Parse.l0, if_pos (by rw [hil]; omega), hil]) ?_
    by_cases h4 : ((i : Int) % 4) = 0
    · refine ev_pos h4 (hj _ ?_)
      rw [keyAt, if_pos (by omega)]
    · refine ev_neg h4 (hj _ ?_)
      rw [keyAt, if_neg (by omega)]
  intro d
  induction d with
  | zero =>
    intro i rest hi hr
    exact key i rest (by omega) hr (fun h => absurd h (by omega))
  | succ d ih =>
    intro i rest hi hr
    exact key i rest (by omega) hr (fun _ rest' hr' => ih (i + 1) rest' (by omega) hr')
theorem rparse_ev (raw : List Int) (hb : By raw) (hl : raw.length ≤ 1000000) : Ev (fun k => ratlineref07_Parse.f k raw) (parseG raw) := by
  unfold ratlineref07_Parse.f
  rcases (parseG_any raw hb hl).2 with ⟨h1, h2, h3, h4⟩ | h
  · obtain ⟨L, hL⟩ : ∃ L, L = (parseG raw).1 := ⟨_, rfl⟩
    have hp : parseG raw = (L, 0) := by rw [hL, ← h4]
    rw [← hL] at h1 h2 h3
    rw [hp, h3]
    have hpos := (okEs_parts h1).1
    exact rp_form L h1 h2 (L.length - 1) 0 (formB L) (by omega) rfl
  · obtain ⟨y, c, g1, g2⟩ := rp_any raw hb 64 [] raw ⟨#[]⟩ rfl (fun e he => by cases he) hb hl (Nat.zero_le _)
    rcases g2 with ⟨q1, q2, q3, q4⟩ | ⟨rfl, rfl⟩
    · have := parseG_form q1 q2
      rw [← q3, h] at this
      exact absurd (Prod.mk.inj this).2 (by decide)
    · rw [h]; exact g1
theorem rseek_loop (l : List En) (x : Ik) (hl : l.length ≤ 1000) : ∀ (d i : Nat), i + d = l.length → seekN l x = i + ((l.drop i).takeWhile (aheadB x)).length →
    Ev (fun k => ratlineref07_Seek.l0 k l (i : Int) x.f0 x.f1 x.f2) ((seekR (l, 0) x).1.f0.f0, (seekR (l, 0) x).1.f0.f1, (seekR (l, 0) x).1.f0.f2, (seekR (l, 0) x).1.f1, (seekR (l, 0) x).2.1, (seekR (l, 0) x).2.2) := by
  intro d
  induction d with
  | zero =>
    intro i hi hs
    rw [List.drop_eq_nil_of_le (by omega)] at hs
    have hR : seekR (l, 0) x = (zeroE, false, 0) := by
      unfold seekR
      rw [if_pos rfl, if_neg (by rw [hs]; show ¬ (i + 0 < l.length); omega)]
    rw [hR]
    refine ev_step (fun k => by rw [ratlineref07_Seek.l0, if_neg (by omega)]) ?_
    exact ev_some _
  | succ d ih =>
    intro i hi hs
    have hlt : i < l.length := by omega
    rw [List.drop_eq_getElem_cons hlt, List.takeWhile_cons] at hs
    refine ev_step (fun k => by rw [ratlineref07_Seek.l0, if_pos (by omega), if_pos (by omega), rd_en l hlt, rcompare_f, up1 (by omega)]) ?_
    refine ev_bind rfl ?_
    by_cases hc : aheadB x l[i] = true
    · rw [if_pos hc] at hs
      refine ev_neg ?_ (ih (i + 1) (by omega) (by rw [hs, List.length_cons]; omega))
      have := of_decide_eq_true hc
      omega
    · rw [if_neg hc] at hs
      have hn : seekN l x = i := hs
      have hR : seekR (l, 0) x = (l[i], true, 0) := by
        unfold seekR
        rw [if_pos rfl, hn, if_pos hlt, List.getD_eq_getElem?_getD, List.getElem?_eq_getElem hlt]
        rfl
      rw [hR]
      refine ev_pos ?_ ?_
      · have : ¬ cmpI l[i].f0 x < 0 := fun q => hc (decide_eq_true q)
        omega
      · exact ev_some _
theorem rseek_ev (raw : List Int) (x : Ik) (hb : By raw) (hl : raw.length ≤ 1000000) :
    Ev (fun k => ratlineref07_Seek.f k raw x.f0 x.f1 x.f2) ((seekR (parseG raw) x).1.f0.f0, (seekR (parseG raw) x).1.f0.f1, (seekR (parseG raw) x).1.f0.f2, (seekR (parseG raw) x).1.f1, (seekR (parseG raw) x).2.1, (seekR (parseG raw) x).2.2) := by
  unfold ratlineref07_Seek.f
  refine ev_call (rparse_ev raw hb hl) ?_
  rcases (parseG_any raw hb hl).2 with ⟨h1, h2, h3, h4⟩ | h
  · obtain ⟨L, hL⟩ : ∃ L, L = (parseG raw).1 := ⟨_, rfl⟩
    have hp : parseG raw = (L, 0) := by rw [hL, ← h4]
    rw [hp]
    have := (okEs_parts (hL ▸ h1)).2.1
    exact ev_pos rfl (rseek_loop L x (by omega) L.length 0 (by omega) (by rw [List.drop_zero, Nat.zero_add]; rfl))
  · rw [h]
    refine ev_neg (by decide) ?_
    exact ev_some _
end Go.Proofs.YtjcjfghcahbbmaaL

end

section
set_option linter.unusedVariables false
namespace Go.Proofs.YtjcjfghcahbbmaaL
open Go Go.RowKit Go.Proofs.YtjcjfghcahbbmaaG Go.Proofs.Ytjcjfghcahbbmaa.P Go.Proofs.YtjcjfghcahbbmaaW.PrintWords Go.Proofs.YtjcjfghcahbbmaaW.PrintMore

instance decIkE : DecidableEq Ik := fun x y => decidable_of_iff (x.f0 = y.f0 ∧ x.f1 = y.f1 ∧ x.f2 = y.f2) (by cases x; cases y; simp)
instance decEnE : DecidableEq En := fun x y => decidable_of_iff (x.f0 = y.f0 ∧ x.f1 = y.f1) (by cases x; cases y; simp)
theorem rd_ent (l : List En) {j : Nat} (h : j < l.length) : rd_T59 l (j : Int) = l[j] := getD_at h
theorem esame_loop (a b : List En) (hl : a.length = b.length) (hm : a.length < 9223372036854775800) :
    ∀ (m j : Nat), j + m = a.length → Ev (fun k => ratlinelaw04_Entries.l0 k a b (a.length : Int) (j : Int)) (decide (a.drop j = b.drop j)) := by
  intro m
  induction m with
  | zero =>
    intro j hj
    obtain rfl : j = a.length := by omega
    refine ev_step (fun k => by rw [ratlinelaw04_Entries.l0, if_neg (Int.lt_irrefl _)]) ?_
    rw [List.drop_length, hl, List.drop_length]
    simpa using ev_some _
  | succ m ih =>
    intro j hj
    have ha : j < a.length := by omega
    have hb : j < b.length := by omega
    refine ev_step (fun k => by rw [ratlinelaw04_Entries.l0, if_pos (by omega), if_pos (by omega), if_pos (by omega), if_pos (by omega), rd_ent a ha, rd_ent b hb, up1 (by omega)]) ?_
    rw [List.drop_eq_getElem_cons ha, List.drop_eq_getElem_cons hb]
    by_cases h : a[j] = b[j]
    · refine ev_neg (by rw [h]; simp) ?_
      rw [show decide (a[j] :: a.drop (j + 1) = b[j] :: b.drop (j + 1)) = decide (a.drop (j + 1) = b.drop (j + 1)) from decide_eq_decide.2 ⟨fun q => (List.cons.inj q).2, fun q => by rw [h, q]⟩]
      exact ih (j + 1) (by omega)
    · refine ev_pos ?_ ?_
      · generalize a[j] = x at *
        generalize b[j] = y at *
        obtain ⟨⟨x0, x1, x2⟩, x3⟩ := x
        obtain ⟨⟨y0, y1, y2⟩, y3⟩ := y
        simp only [S59.mk.injEq, S50.mk.injEq] at h
        simp only [Bool.or_eq_true, Bool.not_eq_true', beq_eq_false_iff_ne, ne_eq, ba_eq_iff]
        exact Classical.byCases (fun q : x3 = y3 => .inl (Classical.byCases (fun q1 : x0 = y0 => .inr (Classical.byCases (fun q2 : x1 = y1 => .inr (fun q3 => h ⟨⟨q1, q2, q3⟩, q⟩)) .inl)) .inl)) .inr
      · rw [decide_eq_false (fun q => h (List.cons.inj q).1)]
        exact ev_some _
theorem esame_f (a b : List En) (hm : a.length < 9223372036854775800) : Ev (fun k => ratlinelaw04_Entries.f k a b) (decide (a = b)) := by
  unfold ratlinelaw04_Entries.f
  by_cases hl : a.length = b.length
  · refine ev_pos (by omega) ?_
    have := esame_loop a b hl hm a.length 0 (by omega)
    rwa [List.drop_zero, List.drop_zero] at this
  · refine ev_neg (by omega) ?_
    rw [decide_eq_false (fun e => hl (by rw [e]))]
    exact ev_some _
end Go.Proofs.YtjcjfghcahbbmaaL

end

section
set_option linter.unusedVariables false
set_option linter.unusedSimpArgs false
namespace Go.Proofs.YtjcjfghcahbbmaaL
open Go Go.RowKit Go.Proofs.YtjcjfghcahbbmaaG Go.Proofs.Ytjcjfghcahbbmaa.P Go.Proofs.YtjcjfghcahbbmaaW.PrintWords Go.Proofs.YtjcjfghcahbbmaaW.PrintMore

def bx1 : En := ⟨⟨⟨#[97]⟩, 5, 1⟩, ⟨#[120]⟩⟩
def bx2 : En := ⟨⟨⟨#[97, 98]⟩, 4, 0⟩, ⟨#[]⟩⟩
def bxL : List En := [bx1, bx2]
theorem bx_ok : okEs bxL = true := by decide +kernel
theorem bx_wf : ∀ e ∈ bxL, WfN e := by decide +kernel
theorem bx_form : formB bxL = [0, 1, 97, 11, 1, 120, 1, 1, 98, 8, 0, 0, 0, 0, 1, 0, 0, 0] := by
  have c1 : com (keyAt 0 ⟨#[]⟩) bx1.f0.f0 = 0 := by decide +kernel
  have c2 : com (keyAt 1 bx1.f0.f0) bx2.f0.f0 = 1 := by decide +kernel
  have e1 : entF 0 bx1 = [0, 1, 97, 11, 1, 120] := by
    show vint 0 ++ (vint 1 ++ ([97] ++ (vint 11 ++ (vint 1 ++ [120])))) = _
    rw [vint_small (x := 0) (by omega), vint_small (x := 1) (by omega), vint_small (x := 11) (by omega)]
    rfl
  have e2 : entF 1 bx2 = [1, 1, 98, 8] := by
    show vint 1 ++ (vint 1 ++ ([98] ++ (vint 8 ++ []))) = _
    rw [vint_small (x := 1) (by omega), vint_small (x := 8) (by omega)]
    rfl
  have s1 : BS.put BS.z bx1 = ⟨[0, 1, 97, 11, 1, 120], [0, 0, 0, 0], 1, bx1.f0.f0⟩ := by
    unfold BS.put BS.n
    rw [show com (keyAt BS.z.m BS.z.k) bx1.f0.f0 = 0 from c1, e1]
    rfl
  have s2 : BS.put ⟨[0, 1, 97, 11, 1, 120], [0, 0, 0, 0], 1, bx1.f0.f0⟩ bx2 = ⟨[0, 1, 97, 11, 1, 120, 1, 1, 98, 8], [0, 0, 0, 0], 2, bx2.f0.f0⟩ := by
    unfold BS.put BS.n
    simp only
    rw [c2, e2]
    rfl
  have s3 : bldS bxL = ⟨[0, 1, 97, 11, 1, 120, 1, 1, 98, 8], [0, 0, 0, 0], 2, bx2.f0.f0⟩ := by
    show BS.put (BS.put BS.z bx1) bx2 = _
    rw [s1, s2]
  unfold formB
  rw [s3]
  rfl
theorem bx_ents : block_entries.f 40 [0, 1, 97, 11, 1, 120, 0, 2, 97, 98, 8] = some (bxL, true) := by kernel_rfl
theorem seek_f {l : List En} (hk : okEs l = true) (hw : ∀ e ∈ l, WfN e) (x : Ik) : block_Seek.f (formB l) x.f0 x.f1 x.f2 = some ((seekR (l, 0) x).1.f0.f0, (seekR (l, 0) x).1.f0.f1, (seekR (l, 0) x).1.f0.f2, (seekR (l, 0) x).1.f1, (seekR (l, 0) x).2.1, (seekR (l, 0) x).2.2) := by
  obtain ⟨_, k2, k3, _⟩ := okEs_parts hk
  unfold block_Seek.f
  rw [if_pos ⟨formB_by l, by have := (formB_len k3 hw k2).2; omega⟩, parseG_form hk hw]
theorem bx_seek1 : seekR (bxL, 0) ⟨⟨#[97]⟩, 6, 1⟩ = (bx1, true, 0) := by kernel_rfl
theorem bx_seek2 : seekR (bxL, 0) ⟨⟨#[97]⟩, 4, 1⟩ = (bx2, true, 0) := by kernel_rfl
theorem bx_seek3 : seekR (bxL, 0) ⟨⟨#[97, 98]⟩, 3, 1⟩ = (zeroE, false, 0) := by kernel_rfl
abbrev bxB : List Int := [0, 1, 97, 11, 1, 120, 1, 1, 98, 8, 0, 0, 0, 0, 1, 0, 0, 0]
abbrev bxN : List Int := [0, 1, 97, 11, 1, 120, 0, 2, 97, 98, 8, 0, 0, 0, 0, 1, 0, 0, 0]
theorem bx_form' : formB bxL = bxB := bx_form
theorem bx_by : By bxB := by rw [← bx_form']; exact formB_by _
theorem bx_build : block_Build.f bxL = some (bxB, 0) := by
  rw [build_f (by decide) bx_wf, bx_ok, ← bx_form']
  rfl
theorem bx_parse : Ev (fun k => block_Parse.f k bxB) (bxL, 0) := by
  rw [← bx_form']
  exact bparse_form bx_ok bx_wf
theorem bx_none : Ev (fun k => block_Parse.f k bxN) ([], 70) := by
  have hT : nums_TakeFour.f (bxN.drop 15) = some (1, [], true) := by kernel_rfl
  have hL : mx (wrap64 ((bxN.length : Int) - 4)) 0 = 15 := by decide +kernel
  have hE : wrap64 ((wrap64 ((bxN.length : Int) - 4)) - (wrap64 (4 * (wrap64 (mn 1 64))))) = 11 := by decide +kernel
  have hN : By bxN := .cons (by omega) (by omega) (.cons (by omega) (by omega) (.cons (by omega) (by omega) (.cons (by omega) (by omega) (.cons (by omega) (by omega) (.cons (by omega) (by omega) (.cons (by omega) (by omega) (.cons (by omega) (by omega) (.cons (by omega) (by omega) (.cons (by omega) (by omega) (.cons (by omega) (by omega) (.cons (by omega) (by omega) (.cons (by omega) (by omega) (.cons (by omega) (by omega) (.cons (by omega) (by omega) (.cons (by omega) (by omega) (.cons (by omega) (by omega) (.cons (by omega) (by omega) (.cons (by omega) (by omega) .nil))))))))))))))))))
  unfold block_Parse.f
  rw [hL]
  refine ev_pos (by decide) (ev_pos (by decide) ?_)
  refine ev_bind3 hT (fun q q1 q2 q3 => ?_)
  rw [q1, q3, hE]
  refine ev_pos rfl ?_
  refine ev_step (fun k => by rw [block_Parse.j0]) (ev_neg (by decide) (ev_pos (by decide) (ev_pos (by decide) ?_)))
  refine ev_call2 (Ev.of (block_entries.mono _) bx_ents) (fun t t1 t2 => ?_)
  rw [t1, t2]
  refine ev_bind bx_build ?_
  refine ev_pos rfl (ev_pos rfl ?_)
  exact ev_bind (bld_equal bx_by hN) (ev_neg (by decide) (ev_some _))
theorem bx_sk {x : Ik} {e : En} {b : Bool} (h : seekR (bxL, 0) x = (e, b, 0)) : block_Seek.f bxB x.f0 x.f1 x.f2 = some (e.f0.f0, e.f0.f1, e.f0.f2, e.f1, b, 0) := by
  have := seek_f bx_ok bx_wf x
  rw [bx_form', h] at this
  exact this
theorem awake07 : Ev (fun k => ratlinelaw07_awake.f k) true := by
  unfold ratlinelaw07_awake.f
  refine ev_bind rfl (ev_bind rfl (ev_bind (a := bxL) rfl (ev_bind (a := bxB) rfl ?_)))
  refine ev_bind bx_build (ev_call bx_parse ?_)
  refine ev_bind (a := ((⟨#[97]⟩ : ByteArray), (6 : Int), (1 : Int))) rfl ?_
  refine ev_bind (a := (bx1.f0.f0, bx1.f0.f1, bx1.f0.f2, bx1.f1, true, (0 : Int))) (bx_sk (x := ⟨⟨#[97]⟩, 6, 1⟩) bx_seek1) ?_
  refine ev_bind (a := ((⟨#[97]⟩ : ByteArray), (4 : Int), (1 : Int))) rfl ?_
  refine ev_bind (a := (bx2.f0.f0, bx2.f0.f1, bx2.f0.f2, bx2.f1, true, (0 : Int))) (bx_sk (x := ⟨⟨#[97]⟩, 4, 1⟩) bx_seek2) ?_
  refine ev_bind (a := ((⟨#[97, 98]⟩ : ByteArray), (3 : Int), (1 : Int))) rfl ?_
  refine ev_bind (a := (zeroE.f0.f0, zeroE.f0.f1, zeroE.f0.f2, zeroE.f1, false, (0 : Int))) (bx_sk (x := ⟨⟨#[97, 98]⟩, 3, 1⟩) bx_seek3) ?_
  refine ev_bind (show block_Build.f ([] : List En) = some ([], 70) from by rw [build_f (by simp) (fun e he => by cases he)]; rfl) ?_
  refine ev_call bx_none ?_
  refine ev_pos (by decide +kernel) ?_
  refine ev_bind (same_f bx_by bx_by) (ev_pos (decide_eq_true rfl) ?_)
  refine ev_call (esame_f bxL bxL (by decide)) (ev_pos (decide_eq_true rfl) ?_)
  refine ev_pos rfl (ev_pos (by decide) (ev_pos (by decide +kernel) ?_))
  refine ev_pos rfl (ev_pos (by decide) (ev_pos (by decide +kernel) ?_))
  refine ev_neg (by decide) (ev_pos (by decide +kernel) ?_)
  refine ev_pos rfl ?_
  exact ev_some true
end Go.Proofs.YtjcjfghcahbbmaaL

end

section
set_option linter.unusedVariables false
namespace Go.Proofs.Ytjcjfghcahbbmaa.Pure
open Go Go.RowKit Go.Proofs.Ytjcjfghcahbbmaa.P Go.Proofs.YtjcjfghcahbbmaaG Go.Proofs.YtjcjfghcahbbmaaL Go.Proofs.YtjcjfghcahbbmaaW.PrintWords Go.Proofs.YtjcjfghcahbbmaaW.PrintMore Go.Proofs.YtjcjfghcahbbmaaW.PrintLast
theorem bseek_f (raw : List Int) (x : Ik) (hb : By raw) (hl : raw.length ≤ 1000000) : block_Seek.f raw x.f0 x.f1 x.f2 = some ((seekR (parseG raw) x).1.f0.f0, (seekR (parseG raw) x).1.f0.f1, (seekR (parseG raw) x).1.f0.f2, (seekR (parseG raw) x).1.f1, (seekR (parseG raw) x).2.1, (seekR (parseG raw) x).2.2) := by
  unfold block_Seek.f
  rw [if_pos ⟨hb, hl⟩]
theorem tells_two (a b : List Int) (x : Ik) (ha : By a) (hla : a.length ≤ 1000000) (hb : By b) (hlb : b.length ≤ 1000000) : Ev (fun k => ratlinelaw07_BlockTells.l0 k [a, b] 2 0 x.f0 x.f1 x.f2) true := by
  have h2 : Ev (fun k => ratlinelaw07_BlockTells.l0 k [a, b] 2 2 x.f0 x.f1 x.f2) true := by
    refine ev_step (fun k => by rw [ratlinelaw07_BlockTells.l0, if_neg (by omega)]) ?_
    exact ev_call awake07 (ev_some _)
  have h1 : Ev (fun k => ratlinelaw07_BlockTells.l0 k [a, b] 2 1 x.f0 x.f1 x.f2) true := by
    refine ev_step (fun k => by rw [ratlinelaw07_BlockTells.l0, if_pos (by omega), if_pos (by omega), if_pos (show (1 : Int) < (([a, b] : List (List Int)).length : Int) by simp), show rd_L5 [a, b] 1 = b from rfl, show wrap64 ((1 : Int) + 1) = 2 from by unfold wrap64; omega]) ?_
    refine ev_bind (bseek_f b x hb hlb) ?_
    refine ev_call (rseek_ev b x hb hlb) ?_
    exact ev_neg (by simp) (ev_neg (by simp) (ev_pos rfl h2))
  refine ev_step (fun k => by rw [ratlinelaw07_BlockTells.l0, if_pos (by omega), if_pos (by omega), if_pos (show (0 : Int) < (([a, b] : List (List Int)).length : Int) by simp), show rd_L5 [a, b] 0 = a from rfl, show wrap64 ((0 : Int) + 1) = 1 from by unfold wrap64; omega]) ?_
  refine ev_bind (bseek_f a x ha hla) ?_
  refine ev_call (rseek_ev a x ha hla) ?_
  exact ev_neg (by simp) (ev_neg (by simp) (ev_pos rfl h1))
theorem tells_j (l : List En) (raw : List Int) (x : Ik) (b : Bool) (hw : ∀ e ∈ l, WfN e) (hr : By raw) (h : b = false → l.length ≤ 70 ∧ raw.length ≤ 1000) : Ev (fun k => ratlinelaw07_BlockTells.j0 k l raw b x.f0 x.f1 x.f2) true := by
  cases b with
  | true =>
    refine ev_step (fun k => by rw [ratlinelaw07_BlockTells.j0, if_pos rfl]) ?_
    exact ev_call awake07 (ev_some _)
  | false =>
    obtain ⟨h1, h2⟩ := h rfl
    obtain ⟨c, hc⟩ : ∃ c, c = (if okEs l = true then (formB l, (0 : Int)) else ([], 70)) := ⟨_, rfl⟩
    have hcb : By c.1 ∧ c.1.length ≤ 1000000 := by
      rw [hc]
      split
      · rename_i hk
        obtain ⟨_, k2, k3, _⟩ := okEs_parts hk
        exact ⟨formB_by l, by have := (formB_len k3 hw k2).2; show (formB l).length ≤ _; omega⟩
      · exact ⟨.nil, Nat.zero_le _⟩
    have hpl : (parseG raw).1.length ≤ 64 := by
      rcases (parseG_any raw hr (by omega)).2 with ⟨q1, _⟩ | q
      · exact (okEs_parts q1).2.1
      · rw [q]; exact Nat.zero_le _
    refine ev_step (fun k => by rw [ratlinelaw07_BlockTells.j0, if_neg (by decide)]) ?_
    refine ev_bind (a := c) (by rw [build_f (by omega) hw, hc]) ?_
    refine ev_call (a := c) (by rw [hc]; exact rbuild_ev l hw (by omega)) ?_
    refine ev_call (parseG_any raw hr (by omega)).1 (ev_call (rparse_ev raw hr (by omega)) ?_)
    refine ev_bind (same_f hcb.1 hcb.1) (ev_pos (decide_eq_true rfl) (ev_pos rfl ?_))
    refine ev_call (esame_f _ _ (by omega)) (ev_pos (decide_eq_true rfl) ?_)
    refine ev_step (fun k => by rw [ratlinelaw07_BlockTells.j1, if_neg (by simp)]) ?_
    exact ev_bind (a := [raw, c.1]) rfl (tells_two raw c.1 x hr (by omega) hcb.1 hcb.2)
theorem BlockTells (l : List En) (_ : l.length ≤ maxLen) (hl : l.length * 48 ≤ 140737488351232) (hw : ∀ e ∈ l, (e.f0.f0.size ≤ maxLen ∧ (Lit.int .u64 e.f0.f1).wf = true ∧ (Lit.int .u8 e.f0.f2).wf = true) ∧ e.f1.size ≤ maxLen)
    (raw : List Int) (_ : raw.length ≤ maxLen) (_ : raw.length * 1 ≤ 140737488351232) (hr0 : ∀ c ∈ raw, (Lit.int .u8 c).wf = true)
    (x : Ik) (_ : x.f0.size ≤ maxLen ∧ (Lit.int .u64 x.f1).wf = true ∧ (Lit.int .u8 x.f2).wf = true) :
    ∃ k, ratlinelaw07_BlockTells.f k l raw x.f0 x.f1 x.f2 = some true := by
  have hw' : ∀ e ∈ l, WfN e := fun e he => by
    obtain ⟨⟨_, h1, h2⟩, _⟩ := hw e he
    simp [Lit.wf, IntKind.min, IntKind.max, IntKind.bits, IntKind.signed] at h1 h2
    exact ⟨by omega, by omega⟩
  have hr := By.of_wf hr0
  refine Ev.rounds (g := fun k => ratlinelaw07_BlockTells.f k l raw x.f0 x.f1 x.f2) ?_
  unfold ratlinelaw07_BlockTells.f
  have hj := fun b h => tells_j l raw x b hw' hr h
  have ht : Ev (fun k => ratlinelaw07_BlockTells.j0 k l raw true x.f0 x.f1 x.f2) true := hj true (fun h => by cases h)
  refine ev_call (ev_of (l.length + 1) (fun k => by rw [show k + (l.length + 1) = l.length + k + 1 by omega]; exact few_f' l 70 (by omega) k)) ?_
  by_cases h1 : (∀ e ∈ l, Short e) ∧ ((l.length : Int) ≤ 70)
  · refine ev_pos (by simpa using h1) ?_
    by_cases h2 : (raw.length : Int) > 1000
    · exact ev_pos h2 ht
    · exact ev_neg h2 (hj _ (fun _ => ⟨by omega, by omega⟩))
  · exact ev_neg (by simpa using h1) ht
end Go.Proofs.Ytjcjfghcahbbmaa.Pure

end

section
set_option linter.unusedVariables false
namespace Go.Proofs.YtjcjfghcahbbmaaG
open Go Go.RowKit Go.Proofs.YtjcjfghcahbbmaaW.PrintWords

/-- What is trodden of this type is of this kind, and is right. -/
def Opens {α : Type} (P : Program) (t : TypeId) (d : Kd α) (wf : α → Prop) : Prop :=
  ∀ (H : Type) (enc : TypeId × Value → H) (w : World) (base : Nat) (sp : Nat → Bool) (held : Bool) (fuel : Nat) (cs : List Value) (x : DataW H × List MemPlace),
    DataW.trod enc P w base sp held fuel t cs = some x → ∃ a, d.K w a cs ∧ wf a
section
variable {P : Program} {t e : TypeId}
theorem opens_int {k : IntKind} (ht : P.underlying t = some (.int k)) : Opens P t (Kd.int k) (fun n => (Lit.int k n).wf = true) := by
  intro H enc w base sp held fuel cs x h
  obtain ⟨n, rfl, _, hw⟩ := DataW.trod_int ht h
  exact ⟨n, rfl, hw⟩
theorem opens_string (ht : P.underlying t = some .string) : Opens P t Kd.string (fun s => s.size ≤ maxLen) := by
  intro H enc w base sp held fuel cs x h
  obtain ⟨n, rfl, _, hm⟩ := DataW.trod_string ht h
  exact ⟨n, rfl, hm⟩
theorem build {α : Type} {Q : Nat → α → Prop} : ∀ n : Nat, (∀ i, i < n → ∃ a, Q i a) → ∃ l : List α, l.length = n ∧ ∀ i a, l[i]? = some a → Q i a := by
  intro n
  induction n with
  | zero => intro _; exact ⟨[], rfl, fun i a h => by simp at h⟩
  | succ n ih =>
    intro h
    obtain ⟨l, hl, hq⟩ := ih (fun i hi => h i (by omega))
    obtain ⟨a, ha⟩ := h n (by omega)
    refine ⟨l ++ [a], by simp [hl], fun i b hb => ?_⟩
    by_cases hi : i < n
    · rw [List.getElem?_append_left (by omega)] at hb
      exact hq i b hb
    · rw [List.getElem?_append_right (by omega)] at hb
      by_cases hin : i = n
      · subst hin
        rw [hl, Nat.sub_self] at hb
        simp at hb
        exact hb ▸ ha
      · rw [List.getElem?_eq_none (by simp; omega)] at hb
        cases hb
theorem opens_row {α : Type} {d : Kd α} {wf : α → Prop} (hc : P.cellsOf e = d.sz) (ht : P.underlying t = some (.slice e)) (he : Opens P e d wf)
    {H : Type} {enc : TypeId × Value → H} {w : World} {base : Nat} {sp : Nat → Bool} {held : Bool} {fuel : Nat} {cs : List Value} {x : DataW H × List MemPlace} (h : DataW.trod enc P w base sp held fuel t cs = some x) :
    ∃ (A : Option Addr) (c : Nat) (xs : List α), cs = [.slice A xs.length c] ∧ xs.length ≤ c ∧ c ≤ maxLen ∧ d.C w A xs.length xs ∧ ∀ a ∈ xs, wf a := by
  rcases DataW.trod_slice ht h with ⟨rfl, _⟩ | ⟨ad, len, cap, elems, rest, n, _, rfl, _, hb, hl, hm, hn, hel, _, _⟩
  · exact ⟨none, 0, [], rfl, Nat.le_refl _, by decide, Kd.C_nil d w, fun a ha => by cases ha⟩
  · obtain ⟨xs, hxl, hx⟩ := build (Q := fun i a => wf a ∧ ∃ c, c.length = d.sz ∧ d.K w a c ∧ ∀ j u, c[j]? = some u → w.cell? (ad.add (i * d.sz + j)) = some u) len (fun i hi => by
      have h1 := hel i hi
      rw [List.getElem?_eq_getElem (by omega)] at h1
      obtain ⟨cs', hcs, htr⟩ := Option.bind_eq_some_iff.1 h1
      obtain ⟨a, ha, hw⟩ := he H enc w base sp held n cs' _ htr
      have hlen := d.K_len ha
      obtain ⟨_, hlen2, hcell⟩ := World.cells?_some hcs
      refine ⟨a, hw, cs', hlen, ha, fun j u hj => ?_⟩
      have hjl : j < cs'.length := by
        by_cases hjl : j < cs'.length
        · exact hjl
        · rw [List.getElem?_eq_none (by omega)] at hj; cases hj
      have h2 := hcell j (by omega)
      rw [hc] at h2
      have hadd : (ad.add (i * d.sz)).add j = ad.add (i * d.sz + j) := Addr.add_add ad _ _
      rw [← hadd, h2, hj])
    have hmax : maxLen ≤ 9223372036854775807 := by decide
    refine ⟨some ad, cap, xs, by rw [hxl], by omega, hm, ⟨rfl, by omega, fun _ => ⟨ad, rfl, fun j p hp => (hx j p hp).2⟩⟩, fun a ha => ?_⟩
    obtain ⟨i, hi⟩ := List.mem_iff_getElem?.1 ha
    exact (hx i a hi).1
theorem Opens.iso {α β : Type} {d : Kd α} {wf : α → Prop} (h : Opens P t d wf) (f : β → α) (g : α → β) (hfg : ∀ a, f (g a) = a) : Opens P t (Kd.iso d f) (fun b => wf (f b)) := by
  intro H enc w base sp held fuel cs x htr
  obtain ⟨a, ha, hw⟩ := h H enc w base sp held fuel cs x htr
  exact ⟨g a, by show d.K w (f (g a)) cs; rw [hfg]; exact ha, by show wf (f (g a)); rw [hfg]; exact hw⟩
end

/-- A field of a struct. -/
theorem opens_field {α : Type} {P : Program} {t e : TypeId} {fs : Array Field} {d : Kd α} {wf : α → Prop} {off i : Nat} {f : Field} (ht : P.underlying t = some (.struct fs)) (hi : fs[i]? = some f) (hft : f.type = e) (hfo : f.offset = off) (hc : P.cellsOf e = d.sz) (he : Opens P e d wf)
    {H : Type} {enc : TypeId × Value → H} {w : World} {base : Nat} {sp : Nat → Bool} {held : Bool} {fuel : Nat} {cs : List Value} {x : DataW H × List MemPlace} (h : DataW.trod enc P w base sp held fuel t cs = some x) :
    ∃ a, d.K w a ((cs.drop off).take d.sz) ∧ wf a := by
  obtain ⟨xs, n, _, _, _, hn, hf⟩ := DataW.trod_struct ht h
  have h1 := hf i f hi
  have hil : i < xs.length := by
    rw [hn]
    exact (Array.getElem?_eq_some_iff.1 hi).1
  rw [List.getElem?_eq_getElem hil, hft, hfo, hc] at h1
  exact he H enc w base sp held n _ _ h1
theorem opens_cells {P : Program} {t : TypeId} {fs : Array Field} (ht : P.underlying t = some (.struct fs)) {H : Type} {enc : TypeId × Value → H} {w : World} {base : Nat} {sp : Nat → Bool} {held : Bool} {fuel : Nat} {cs : List Value} {x : DataW H × List MemPlace} (h : DataW.trod enc P w base sp held fuel t cs = some x) :
    cs.length = P.cellsOf t := by
  obtain ⟨xs, n, _, _, hl, _⟩ := DataW.trod_struct ht h
  exact hl
theorem opens_struct2 {α β : Type} {P : Program} {t ta tb : TypeId} {fs : Array Field} {a : Kd α} {b : Kd β} {wa : α → Prop} {wb : β → Prop} (ht : P.underlying t = some (.struct fs)) (hc : P.cellsOf t = a.sz + b.sz)
    (f0 : (fs[0]?).map (fun f => (f.type, f.offset)) = some (ta, 0)) (f1 : (fs[1]?).map (fun f => (f.type, f.offset)) = some (tb, a.sz)) (ca : P.cellsOf ta = a.sz) (cb : P.cellsOf tb = b.sz) (oa : Opens P ta a wa) (ob : Opens P tb b wb) :
    Opens P t (Kd.pair a b) (fun x => wa x.1 ∧ wb x.2) := by
  intro H enc w base sp held fuel cs x h
  obtain ⟨g0, e0, q0⟩ := Option.map_eq_some_iff.1 f0
  obtain ⟨g1, e1, q1⟩ := Option.map_eq_some_iff.1 f1
  simp only [Prod.mk.injEq] at q0 q1
  obtain ⟨x0, k0, w0⟩ := opens_field ht e0 q0.1 q0.2 ca oa h
  obtain ⟨x1, k1, w1⟩ := opens_field ht e1 q1.1 q1.2 cb ob h
  have hl := opens_cells ht h
  have hsp : (cs.drop a.sz).take b.sz = cs.drop a.sz := List.take_of_length_le (by rw [List.length_drop]; omega)
  rw [List.drop_zero] at k0
  rw [hsp] at k1
  exact ⟨(x0, x1), ⟨cs.take a.sz, cs.drop a.sz, (List.take_append_drop _ _).symm, k0, k1⟩, w0, w1⟩
theorem opens_struct3 {α β γ : Type} {P : Program} {t ta tb tc : TypeId} {fs : Array Field} {a : Kd α} {b : Kd β} {c : Kd γ} {wa : α → Prop} {wb : β → Prop} {wc : γ → Prop} (ht : P.underlying t = some (.struct fs)) (hc : P.cellsOf t = a.sz + (b.sz + c.sz))
    (f0 : (fs[0]?).map (fun f => (f.type, f.offset)) = some (ta, 0)) (f1 : (fs[1]?).map (fun f => (f.type, f.offset)) = some (tb, a.sz)) (f2 : (fs[2]?).map (fun f => (f.type, f.offset)) = some (tc, a.sz + b.sz)) (ca : P.cellsOf ta = a.sz) (cb : P.cellsOf tb = b.sz) (cc : P.cellsOf tc = c.sz) (oa : Opens P ta a wa) (ob : Opens P tb b wb) (oc : Opens P tc c wc) :
    Opens P t (Kd.pair a (Kd.pair b c)) (fun x => wa x.1 ∧ wb x.2.1 ∧ wc x.2.2) := by
  intro H enc w base sp held fuel cs x h
  obtain ⟨g0, e0, q0⟩ := Option.map_eq_some_iff.1 f0
  obtain ⟨g1, e1, q1⟩ := Option.map_eq_some_iff.1 f1
  obtain ⟨g2, e2, q2⟩ := Option.map_eq_some_iff.1 f2
  simp only [Prod.mk.injEq] at q0 q1 q2
  obtain ⟨x0, k0, w0⟩ := opens_field ht e0 q0.1 q0.2 ca oa h
  obtain ⟨x1, k1, w1⟩ := opens_field ht e1 q1.1 q1.2 cb ob h
  obtain ⟨x2, k2, w2⟩ := opens_field ht e2 q2.1 q2.2 cc oc h
  have hl := opens_cells ht h
  have hsp : (cs.drop (a.sz + b.sz)).take c.sz = (cs.drop a.sz).drop b.sz := by rw [List.take_of_length_le (by rw [List.length_drop]; omega), List.drop_drop]
  rw [List.drop_zero] at k0
  rw [hsp] at k2
  exact ⟨(x0, x1, x2), ⟨cs.take a.sz, cs.drop a.sz, (List.take_append_drop _ _).symm, k0, _, _, (List.take_append_drop b.sz _).symm, k1, k2⟩, w0, w1, w2⟩
/-- A struct as an argument. -/
theorem opens_agg {P : Program} {t : TypeId} {fs : Array Field} {w : World} {r : Reach} {base : Nat} {v : Value} (ht : P.underlying t = some (.struct fs)) (h : Value.okWide P w r base t v) : ∃ cs, v = .agg cs := by
  unfold Value.okWide at h
  rw [ht] at h
  obtain ⟨cs, hv, _⟩ := h
  exact ⟨cs, hv⟩
/-- A row's slice is no longer than its weight allows. -/
theorem sized_row {H : Type} {enc : TypeId × Value → H} {P : Program} {W : World} {base : Nat} {spare : Nat → Bool} {held : Bool} {t e : TypeId} {a : Option Addr} {len cap : Nat} {d : DataW H} {ps : List MemPlace} {ts : List TypeId} {ds : List (DataW H)} {j : Nat}
    (hsz : (DataW.weightsEach P ts ds).all (· ≤ reachBytes) = true) (ht : ts[j]? = some t) (hd : ds[j]? = some d) (hu : P.underlying t = some (.slice e)) (B : Nat) (hB : P.bytesOf e = B)
    (h : DataW.Trod enc P W base spare held t (.slice a len cap) d ps) : len * B ≤ 140737488351232 := by
  obtain ⟨fuel, hf⟩ := h
  rcases DataW.trod_slice hu hf with ⟨hcs, _⟩ | ⟨ad, l, c, elems, rest, n, _, hcs, hx, _, _, _, hn, _⟩
  · simp only [Value.cells, List.cons.injEq, Value.slice.injEq, and_true] at hcs
    obtain ⟨rfl, rfl, rfl⟩ := hcs
    rw [Nat.zero_mul]; omega
  · simp only [Value.cells, List.cons.injEq, Value.slice.injEq, and_true] at hcs
    obtain ⟨rfl, rfl, rfl⟩ := hcs
    obtain ⟨hx, _⟩ := Prod.mk.inj hx
    subst hx
    have z := sized_slice hsz ht hd hu
    rw [hB, List.length_map, List.length_map] at z
    exact Nat.le_trans (Nat.mul_le_mul_right _ (by omega)) z
end Go.Proofs.YtjcjfghcahbbmaaG

end

section
set_option linter.unusedVariables false
namespace Go.Proofs.Ytjcjfghcahbbmaa.blockTells
open Go Go.ChangeShapes Go.WideShapes Go.ChangeAt Go.RowKit Go.Proofs.YtjcjfghcahbbmaaG Go.Proofs.Ytjcjfghcahbbmaa.P Go.Proofs.YtjcjfghcahbbmaaW.PrintWords
open Go.ChangeMaps (open_string shut_string)
theorem own : ownKnob Try.prog.godebug = none := by kernel_rfl
theorem laidOut : laidOutB Try.prog = true := by kernel_rfl
theorem F_int {k : IntKind} {w : World} {A : Option Addr} {n : Nat} {xs : List Int} (h : (Kd.int k).C w A n xs) : Kd.F (Kd.int k) w (fun _ => True) A n xs := fun W' hW => ⟨h.1, h.2.1, fun hn => by
  obtain ⟨ad, e, hc⟩ := h.2.2 hn
  refine ⟨ad, e, fun j p hp => ?_⟩
  obtain ⟨c, hs, hk, hcell⟩ := hc j p hp
  refine ⟨c, hs, hk, fun i u hu => ?_⟩
  have h1 := hcell i u hu
  have hlt : (ad.add (j * (Kd.int k).sz + i)).block < w.heap.size := by
    by_cases hb : (ad.add (j * (Kd.int k).sz + i)).block < w.heap.size
    · exact hb
    · unfold World.cell? at h1
      rw [Array.getElem?_eq_none (by omega)] at h1
      cases h1
  have h2 := hW _ trivial hlt
  rw [← h1]
  unfold World.cell?
  rw [h2]⟩
set_option maxRecDepth 100000 in
theorem lifted (os : Os) (started : os.Started) (H : Type) (enc : TypeId × Value → H) :
    ReturnsInHanded {} Try.checked os 5 .any (Rows.blockTellsSpec.pre6 enc Try.prog Try.f5 Rows.blockTellsRow.domain false) (Rows.blockTellsSpec.post enc Try.prog Try.f5 false true false false) := by
  refine returnsInHanded_of_change_sized (C := Try.checked) own started (by kernel_rfl) Try.func5
    (ChangeSpec.witness6 (enc := enc) (C := Try.checked) false ⟨#[], #[.slice none 0 0, .slice none 0 0, .agg #[.string ⟨#[]⟩, .int .u64 0, .int .u8 0]], []⟩ 8 (by kernel_rfl) (by kernel_rfl) (by kernel_rfl) (by kernel_rfl)) ?_
  intro W base args ds gs before hval0 hW hcnd hsz0 _
  have hsz : (DataW.weightsEach Try.prog (Try.f5.params.toList ++ Rows.blockTellsSpec.plain.varTypes Try.prog) (ds ++ gs)).all (· ≤ reachBytes) = true := hsz0
  have hval : ∀ (j : Nat) t v, Try.f5.params[j]? = some t → args[j]? = some v → Value.okWide Try.prog W .any base t v := hval0
  have hW' := hW
  obtain ⟨p, q, hA0, hV, rfl, hfz, hnd⟩ := hW
  have hA : DataW.TrodAll enc Try.prog W 0 (fun _ => true) true Try.f5.params.toList args.toList ds p := hA0
  rw [Try.params5] at hA hval hsz
  obtain ⟨v0, vs0, d0, ds0, p0, q0, hargs, rfl, rfl, h0, r0⟩ := trodAll_cons hA
  obtain ⟨v1, vs1, d1, ds1, p1, q1, rfl, rfl, rfl, h1, r1⟩ := trodAll_cons r0
  obtain ⟨v2, vs2, d2, ds2, p2, q2, rfl, rfl, rfl, h2, r2⟩ := trodAll_cons r1
  obtain ⟨rfl, rfl, rfl⟩ := trodAll_nil r2
  obtain rfl : args = #[v0, v1, v2] := by cases args; simp_all
  obtain ⟨rfl, rfl⟩ := trodVars_none hV
  obtain ⟨a0, len0, cap0, rfl⟩ := okWide_slice Try.underlying48 (hval 0 48 v0 rfl rfl)
  have k0 := h0
  have y0 := sized_row hsz (j := 0) (t := 48) rfl rfl Try.underlying48 48 (by kernel_rfl) h0
  have lt0 : ∀ x ∈ p0, x.block < W.heap.size := by obtain ⟨m, hm⟩ := k0; exact DataW.trod_lt m _ _ _ hm
  obtain ⟨fuel0, hf0⟩ := h0
  obtain ⟨A0, c0, l0, hcs0, hl0, hm0, hC0, hw0⟩ := opens_row (by kernel_rfl) Try.underlying48 (show Opens Try.prog 59 k59 _ from Opens.iso (opens_struct2 (ta := 50) (tb := 9) Try.underlying59 (by kernel_rfl) (by kernel_rfl) (by kernel_rfl) (by kernel_rfl) (by kernel_rfl) (show Opens Try.prog 50 k50 _ from Opens.iso (opens_struct3 (ta := 9) (tb := 32) (tc := 5) Try.underlying50 (by kernel_rfl) (by kernel_rfl) (by kernel_rfl) (by kernel_rfl) (by kernel_rfl) (by kernel_rfl) (by kernel_rfl) (opens_string Try.underlying9) (opens_int Try.underlying32) (opens_int Try.underlying5)) (fun x : S50 => (x.f0, x.f1, x.f2)) (fun q => ⟨q.1, q.2.1, q.2.2⟩) (fun _ => rfl)) (opens_string Try.underlying9)) (fun x : S59 => (x.f0, x.f1)) (fun q => ⟨q.1, q.2⟩) (fun _ => rfl)) hf0
  simp only [Value.cells, List.cons.injEq, Value.slice.injEq, and_true] at hcs0
  obtain ⟨rfl, rfl, rfl⟩ := hcs0
  obtain ⟨a1, len1, cap1, rfl⟩ := okWide_slice Try.underlying26 (hval 1 26 v1 rfl rfl)
  have k1 := h1
  have y1 := sized_row hsz (j := 1) (t := 26) rfl rfl Try.underlying26 1 (by kernel_rfl) h1
  have lt1 : ∀ x ∈ p1, x.block < W.heap.size := by obtain ⟨m, hm⟩ := k1; exact DataW.trod_lt m _ _ _ hm
  obtain ⟨fuel1, hf1⟩ := h1
  obtain ⟨A1, c1, l1, hcs1, hl1, hm1, hC1, hw1⟩ := opens_row (by kernel_rfl) Try.underlying26 (opens_int Try.underlying5) hf1
  simp only [Value.cells, List.cons.injEq, Value.slice.injEq, and_true] at hcs1
  obtain ⟨rfl, rfl, rfl⟩ := hcs1
  obtain ⟨cs2, rfl⟩ := opens_agg Try.underlying50 (hval 2 50 v2 rfl rfl)
  have k2 := h2
  have lt2 : ∀ x ∈ p2, x.block < W.heap.size := by obtain ⟨m, hm⟩ := k2; exact DataW.trod_lt m _ _ _ hm
  obtain ⟨fuel2, hf2⟩ := h2
  obtain ⟨x2, hx2, hw2⟩ := (show Opens Try.prog 50 k50 _ from Opens.iso (opens_struct3 (ta := 9) (tb := 32) (tc := 5) Try.underlying50 (by kernel_rfl) (by kernel_rfl) (by kernel_rfl) (by kernel_rfl) (by kernel_rfl) (by kernel_rfl) (by kernel_rfl) (opens_string Try.underlying9) (opens_int Try.underlying32) (opens_int Try.underlying5)) (fun x : S50 => (x.f0, x.f1, x.f2)) (fun q => ⟨q.1, q.2.1, q.2.2⟩) (fun _ => rfl)) H enc _ _ _ _ _ _ _ hf2
  obtain rfl : cs2 = #[.string x2.f0, .int .u64 x2.f1, .int .u8 x2.f2] := Array.ext' (k50_open hx2)
  obtain ⟨k, h⟩ := Pure.BlockTells l0 (Nat.le_trans hl0 hm0) y0 hw0 l1 (Nat.le_trans hl1 hm1) y1 hw1 x2 hw2
  clear hA0 hval0 hsz0 hsz
  refine (P.ratlinelaw07_BlockTells.calls k _ _ l0 (fun _ => True) _ _ l1 x2.f0 x2.f1 x2.f2 true W hC0 hl0 (Kd.V_mk hl1 (F_int hC1)) h).mono fun e W' ⟨he, bel⟩ => ?_
  subst he
  exact ⟨_, rfl, _, _, _, [], _, [], hW', trodAll_mk1 (shut_bool Try.underlying4 _), (trodAll_cons_mk (Below.trod laidOut (by kernel_rfl) (of_decide_eq_true (by kernel_rfl)) k0 bel lt0) (trodAll_cons_mk (Below.trod laidOut (by kernel_rfl) (of_decide_eq_true (by kernel_rfl)) k1 bel lt1) (trodAll_cons_mk (Below.trod laidOut (by kernel_rfl) (of_decide_eq_true (by kernel_rfl)) k2 bel lt2) trodAll_mk0))), rfl, bel.frame _, fun h => by cases h⟩
theorem over : Rows.blockTellsRow.holds Try.pinned (OpenSpec.ofChange Rows.blockTellsSpec) :=
  OpenClaim.holds_of_wide 5 Try.f5 rfl rfl rfl rfl rfl rfl rfl ⟨rfl, rfl, rfl, rfl, rfl⟩ rfl rfl rfl rfl rfl (by kernel_rfl) Try.func5 (by kernel_rfl)
    (of_decide_eq_true (by kernel_rfl)) (by unfold Func.isWrapper; first | (rw [if_pos (by decide +kernel)]; kernel_rfl) | (rw [if_neg (by decide +kernel)]; exact ⟨rfl, rfl⟩))
    (fun os started H enc _ => lifted os started H enc)
theorem proved : Rows.BlockTellsSaid := over
#print axioms proved
end Go.Proofs.Ytjcjfghcahbbmaa.blockTells
namespace Go.Proofs.Ytjcjfghcahbbmaa
/-- The row, under a short name, for the claim. -/
theorem blockTells_holds : Rows.BlockTellsSaid := blockTells.proved
end Go.Proofs.Ytjcjfghcahbbmaa

end
