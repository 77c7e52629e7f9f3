/- Proved here: what the row of EditTells needs, part 2. Conditions: those of each theorem. Written for this claim by programs; what the claim does not use is left out. -/
import Derived.Test.YtcagajobpnpicaaSEditTells1
section
namespace Go.Proofs.Ytcagajobpnpicaa.P
open Go.RowKit Go.Proofs.YtcagajobpnpicaaG Go.Proofs.YtcagajobpnpicaaW.PrintWords Go.Proofs.YtcagajobpnpicaaW.PrintLast Go.Proofs.YtcagajobpnpicaaW.PrintMore
attribute [local go_sem] str_gtr str_geq str_leq max2_int min2_int max_two min_two max_three min_three max_four min_four   -- for this text's walks alone
set_option linter.unusedVariables false
set_option linter.unusedSimpArgs false

namespace APx9
abbrev ad := @of_decide_eq_true
abbrev ac := @decide_eq_false
abbrev aW := @pw_below_drewN
abbrev ab := @decide_eq_true
abbrev aA := @below_alloc
abbrev aD := @below_drew1
abbrev aF := @blk_frozen
abbrev aK := @Aside0.mk
abbrev aC := @blk_cell
end APx9
open APx9
def ratlineref09_Right.l0 : Nat → Int → List (S58) → Int → Int → Int → Option (Bool)
 | 0,_,_,_,_,_ => none
 | k + 1,x3,x126000,x126001,x126002,x126003 => if x3 < (x126000.length : Int) then (if 0 ≤ x3 then ((ratlineref09_note.f ((rd_T58 x126000 x3).f0) ((rd_T58 x126000 x3).f1) ((rd_T58 x126000 x3).f2) ((rd_T58 x126000 x3).f3)).bind fun t127 => (if t127 = true then (if x3 > 0 then (if 0 ≤ (wrap64 (x3 - 1)) then (if (wrap64 (x3 - 1)) < (x126000.length : Int) then (if ((rd_T58 x126000 (wrap64 (x3 - 1))).f0) ≥ ((rd_T58 x126000 x3).f0) then (some false) else (ratlineref09_Right.l0 k (wrap64 (x3 + 1)) x126000 x126001 x126002 x126003)) else (none)) else (none)) else (ratlineref09_Right.l0 k (wrap64 (x3 + 1)) x126000 x126001 x126002 x126003)) else (some false))) else (none)) else (if (x126000.length : Int) ≤ 64 then (if x126002 ≤ 72057594037927935 then (if (x126000.length : Int) > 0 then (some true) else (if x126001 > 0 then (some true) else (if x126002 > 0 then (some true) else (some (decide (x126003 > 0)))))) else (some false)) else (some false))
def ratlineref09_Right.f (k : Nat) (l0_0 : List (S58)) (a0_1 : Int) (a0_2 : Int) (a0_3 : Int) : Option (Bool):=ratlineref09_Right.l0 k 0 l0_0 a0_1 a0_2 a0_3
def ratlineref09_Right.T4 : Bool × List (List Nat × List Nat):=(true,[([],[]),([0],[0]),([],[]),([1,2],[1,2]),([3],[3]),([4],[4]),([5],[5]),([6,5],[6]),([7],[7]),([8,7],[7,8]),([9,7,7],[7,9]),([10],[10]),([11,10],[10,11]),([10],[10]),([13,10],[10,13]),([12,14,10],[10,12,14]),([15,10],[10,15]),([16,10],[10,16]),([10],[10]),([18,10],[10,18]),([10],[10]),([19,20,10],[10,19,20]),([21,10],[10,21]),([22,10],[10,22]),([17,23,10],[10,17,23]),([10,24,7],[7,10,24]),([7,25],[7,25])])
def ratlineref09_Right.B4 : List Nat:=[0,1,0,7,15,31,63,127,255,511,1023,2047,4095,2047,10239,32767,65535,131071,2047,264191,2047,1837055,3934207,8128511,16777215,33554431,67108863]
theorem ratlineref09_Right.tab4 : rtab .any (opsOf Try.f18 4) = ratlineref09_Right.T4:=by kernel_rfl
theorem ratlineref09_Right.bits4 : waitsOk ratlineref09_Right.T4.2 ratlineref09_Right.B4 = true:=by kernel_rfl
set_option maxHeartbeats 8000000 in
set_option maxRecDepth 100000 in
theorem ratlineref09_Right.calls (k : Nat) (A0_0 : Option Addr) (c0_0 : Nat) (l0_0 : List (S58)) (a0_1 : Int) (a0_2 : Int) (a0_3 : Int) (r : Bool) (w : World) (hr0_0 : Kd.C k58 w A0_0 l0_0.length l0_0) (hc0_0 : l0_0.length ≤ c0_0) (h : ratlineref09_Right.f k l0_0 a0_1 a0_2 a0_3 = some r) :
  Calls Try.prog 18 #[.agg #[.slice A0_0 l0_0.length c0_0,.int .u64 a0_1,.int .u64 a0_2,.int .u64 a0_3]] w fun e w' => e = .returned (.bool r) ∧ Below w.heap.size w w':=by
 have hu25:=Try.underlying25
 have hu58:=Try.underlying58
 have HR0_0:=aK hr0_0
 have HC0_0:=aK hc0_0
 clear hr0_0 hc0_0
 have HB:=aK (Below.refl w.heap.size w)
 have H : (ratlineref09_Right.l0 k 0 l0_0 a0_1 a0_2 a0_3) = some r:=h
 clear h
 have H':=aK H
 clear H
 go_enter Try.func18,Try.ntmps18
 go_wp2_with (first|((with_reducible refine gate_dst (N:=1) rfl ?_);(try (refine gate_guard (by rfl) ?_;dsimp only));refine box_event ?hg (N:=1) ?hd (cs:=#[.slice A0_0 l0_0.length c0_0,.int .u64 a0_1,.int .u64 a0_2,.int .u64 a0_3]) (t:=25) ?hr ?_;(case hd => rfl);(case hg => rfl);(case hr => first|(go_simp;done)|(go_simp;rfl));intro gb125 hg w2 hbox hb;have n0_:=aK (below_step (by repeat (first|(with_reducible first|exact HB.out|apply aA|apply aW|apply aD)|exact HB.out)) hb);have n1_:=aK (hbox);have n2_:=aK ((by rw [hg];exact (below_size (by repeat (first|(with_reducible first|exact HB.out|apply aA|apply aW|apply aD)|exact HB.out))) : w.heap.size ≤ gb125));have n3_:=aK ((by rw [hg];exact (below_size (by repeat (first|(with_reducible first|exact HB.out|apply aA|apply aW|apply aD)|exact HB.out))) : w.heap.size ≤ gb125));clear HB;have HB:=n0_;have BK125:=n1_;have GW125:=n2_;have GE125:=n3_;clear n0_ n1_ n2_ n3_;clear hb hbox hg))
 go_loopg [3] k (fun kq v3 w' => ∃ (x3_1 : Int),v3 = .int .i64 x3_1 ∧ Aside0 (ratlineref09_Right.l0 kq x3_1 l0_0 a0_1 a0_2 a0_3 = some r) ∧ Aside0 (kq ≤ k) ∧ Aside0 (w'.heap[gb125]? = some (.cells #[(.slice A0_0 l0_0.length c0_0),.int .u64 a0_1,.int .u64 a0_2,.int .u64 a0_3] 25 (0,0))) ∧ Aside0 (Below w.heap.size w w'))
 case atStart => exact ⟨(0),(by first|rfl|(simp;done)|(simp [*];done)),H',⟨Nat.le_refl _⟩,⟨by (with_reducible repeat (first|apply bN|apply bD|apply bA));exact BK125.out⟩,⟨by repeat (first|(with_reducible first|exact HB.out|apply aA|apply aW|apply aD|refine below_set ?_ GE125.out)|exact HB.out)⟩⟩
 case round =>
  clear H'
  try clear c1
  try clear p2
  obtain ⟨x3_1,rfl,HA,HK1,BK125,HB⟩:=hrel
  cases gk with
  | zero => exact absurd HA.out (by simp [ratlineref09_Right.l0])
  | succ k1 =>
   have H:=HA.out
   clear HA
   simp only [ratlineref09_Right.l0] at H
   by_cases c3 : x3_1 < (l0_0.length : Int)
   rotate_left
   ·rw [if_neg c3] at H
    have c3b0 : decide (x3_1 < (l0_0.length : Int)) = false:=ac c3
    clear c3
    by_cases c24 : (l0_0.length : Int) ≤ 64
    ·rw [if_pos c24] at H
     have c24b0 : decide ((l0_0.length : Int) ≤ 64) = true:=ab c24
     have c24b1 : decide (l0_0.length ≤ 64) = true:=ab (by omega)
     clear c24
     by_cases c25 : a0_2 ≤ 72057594037927935
     ·rw [if_pos c25] at H
      have c25b0 : decide (a0_2 ≤ 72057594037927935) = true:=ab c25
      clear c25
      by_cases c26 : (l0_0.length : Int) > 0
      ·rw [if_pos c26] at H
       have c26b0 : decide (0 < (l0_0.length : Int)) = true:=ab c26
       have c26b1 : decide (0 < l0_0.length) = true:=ab (by omega)
       clear c26
       obtain rfl:=Option.some.inj H
       have hcz27_0 : wr.cell? ⟨gb125,0,none⟩ = some (.slice A0_0 l0_0.length c0_0):=(aC BK125.out 0).trans rfl
       have hcz27_1 : wr.cell? ⟨gb125,1,none⟩ = some (.int .u64 a0_1):=(aC BK125.out 1).trans rfl
       have hcz27_2 : wr.cell? ⟨gb125,2,none⟩ = some (.int .u64 a0_2):=(aC BK125.out 2).trans rfl
       have hcz27_3 : wr.cell? ⟨gb125,3,none⟩ = some (.int .u64 a0_3):=(aC BK125.out 3).trans rfl
       have hfz27_0:=aF BK125.out 0
       have hfz27_1:=aF BK125.out 1
       have hfz27_2:=aF BK125.out 2
       have hfz27_3:=aF BK125.out 3
       go_wp2
       go_ret
       exact ⟨by first|rfl|(simp [errW_none,errW_some] <;> rfl)|(simp [*,errW_none,errW_some] <;> rfl),by repeat (first|(with_reducible first|exact HB.out|apply aA|apply aW|apply aD|refine below_set ?_ GE125.out)|exact HB.out)⟩
      ·rw [if_neg c26] at H
       have c26b0 : decide (0 < (l0_0.length : Int)) = false:=ac c26
       have c26b1 : decide (0 < l0_0.length) = false:=ac (by omega)
       clear c26
       by_cases c28 : a0_1 > 0
       ·rw [if_pos c28] at H
        have c28b0 : decide (0 < a0_1) = true:=ab c28
        clear c28
        obtain rfl:=Option.some.inj H
        have hcz29_0 : wr.cell? ⟨gb125,0,none⟩ = some (.slice A0_0 l0_0.length c0_0):=(aC BK125.out 0).trans rfl
        have hcz29_1 : wr.cell? ⟨gb125,1,none⟩ = some (.int .u64 a0_1):=(aC BK125.out 1).trans rfl
        have hcz29_2 : wr.cell? ⟨gb125,2,none⟩ = some (.int .u64 a0_2):=(aC BK125.out 2).trans rfl
        have hcz29_3 : wr.cell? ⟨gb125,3,none⟩ = some (.int .u64 a0_3):=(aC BK125.out 3).trans rfl
        have hfz29_0:=aF BK125.out 0
        have hfz29_1:=aF BK125.out 1
        have hfz29_2:=aF BK125.out 2
        have hfz29_3:=aF BK125.out 3
        go_wp2
        go_ret
        exact ⟨by first|rfl|(simp [errW_none,errW_some] <;> rfl)|(simp [*,errW_none,errW_some] <;> rfl),by repeat (first|(with_reducible first|exact HB.out|apply aA|apply aW|apply aD|refine below_set ?_ GE125.out)|exact HB.out)⟩
       ·rw [if_neg c28] at H
        have c28b0 : decide (0 < a0_1) = false:=ac c28
        clear c28
        by_cases c30 : a0_2 > 0
        ·rw [if_pos c30] at H
         have c30b0 : decide (0 < a0_2) = true:=ab c30
         clear c30
         obtain rfl:=Option.some.inj H
         have hcz31_0 : wr.cell? ⟨gb125,0,none⟩ = some (.slice A0_0 l0_0.length c0_0):=(aC BK125.out 0).trans rfl
         have hcz31_1 : wr.cell? ⟨gb125,1,none⟩ = some (.int .u64 a0_1):=(aC BK125.out 1).trans rfl
         have hcz31_2 : wr.cell? ⟨gb125,2,none⟩ = some (.int .u64 a0_2):=(aC BK125.out 2).trans rfl
         have hcz31_3 : wr.cell? ⟨gb125,3,none⟩ = some (.int .u64 a0_3):=(aC BK125.out 3).trans rfl
         have hfz31_0:=aF BK125.out 0
         have hfz31_1:=aF BK125.out 1
         have hfz31_2:=aF BK125.out 2
         have hfz31_3:=aF BK125.out 3
         go_wp2
         go_ret
         exact ⟨by first|rfl|(simp [errW_none,errW_some] <;> rfl)|(simp [*,errW_none,errW_some] <;> rfl),by repeat (first|(with_reducible first|exact HB.out|apply aA|apply aW|apply aD|refine below_set ?_ GE125.out)|exact HB.out)⟩
        ·rw [if_neg c30] at H
         have c30b0 : decide (0 < a0_2) = false:=ac c30
         clear c30
         obtain rfl:=Option.some.inj H
         have hcz32_0 : wr.cell? ⟨gb125,0,none⟩ = some (.slice A0_0 l0_0.length c0_0):=(aC BK125.out 0).trans rfl
         have hcz32_1 : wr.cell? ⟨gb125,1,none⟩ = some (.int .u64 a0_1):=(aC BK125.out 1).trans rfl
         have hcz32_2 : wr.cell? ⟨gb125,2,none⟩ = some (.int .u64 a0_2):=(aC BK125.out 2).trans rfl
         have hcz32_3 : wr.cell? ⟨gb125,3,none⟩ = some (.int .u64 a0_3):=(aC BK125.out 3).trans rfl
         have hfz32_0:=aF BK125.out 0
         have hfz32_1:=aF BK125.out 1
         have hfz32_2:=aF BK125.out 2
         have hfz32_3:=aF BK125.out 3
         go_wp2
         go_ret
         exact ⟨by first|rfl|(simp [errW_none,errW_some] <;> rfl)|(simp [*,errW_none,errW_some] <;> rfl),by repeat (first|(with_reducible first|exact HB.out|apply aA|apply aW|apply aD|refine below_set ?_ GE125.out)|exact HB.out)⟩
     ·rw [if_neg c25] at H
      have c25b0 : decide (a0_2 ≤ 72057594037927935) = false:=ac c25
      clear c25
      obtain rfl:=Option.some.inj H
      have hcz33_0 : wr.cell? ⟨gb125,0,none⟩ = some (.slice A0_0 l0_0.length c0_0):=(aC BK125.out 0).trans rfl
      have hcz33_1 : wr.cell? ⟨gb125,1,none⟩ = some (.int .u64 a0_1):=(aC BK125.out 1).trans rfl
      have hcz33_2 : wr.cell? ⟨gb125,2,none⟩ = some (.int .u64 a0_2):=(aC BK125.out 2).trans rfl
      have hcz33_3 : wr.cell? ⟨gb125,3,none⟩ = some (.int .u64 a0_3):=(aC BK125.out 3).trans rfl
      have hfz33_0:=aF BK125.out 0
      have hfz33_1:=aF BK125.out 1
      have hfz33_2:=aF BK125.out 2
      have hfz33_3:=aF BK125.out 3
      go_wp2
      go_ret
      exact ⟨by first|rfl|(simp [errW_none,errW_some] <;> rfl)|(simp [*,errW_none,errW_some] <;> rfl),by repeat (first|(with_reducible first|exact HB.out|apply aA|apply aW|apply aD|refine below_set ?_ GE125.out)|exact HB.out)⟩
    ·rw [if_neg c24] at H
     have c24b0 : decide ((l0_0.length : Int) ≤ 64) = false:=ac c24
     have c24b1 : decide (l0_0.length ≤ 64) = false:=ac (by omega)
     clear c24
     obtain rfl:=Option.some.inj H
     have hcz34_0 : wr.cell? ⟨gb125,0,none⟩ = some (.slice A0_0 l0_0.length c0_0):=(aC BK125.out 0).trans rfl
     have hcz34_1 : wr.cell? ⟨gb125,1,none⟩ = some (.int .u64 a0_1):=(aC BK125.out 1).trans rfl
     have hcz34_2 : wr.cell? ⟨gb125,2,none⟩ = some (.int .u64 a0_2):=(aC BK125.out 2).trans rfl
     have hcz34_3 : wr.cell? ⟨gb125,3,none⟩ = some (.int .u64 a0_3):=(aC BK125.out 3).trans rfl
     have hfz34_0:=aF BK125.out 0
     have hfz34_1:=aF BK125.out 1
     have hfz34_2:=aF BK125.out 2
     have hfz34_3:=aF BK125.out 3
     go_wp2
     go_ret
     exact ⟨by first|rfl|(simp [errW_none,errW_some] <;> rfl)|(simp [*,errW_none,errW_some] <;> rfl),by repeat (first|(with_reducible first|exact HB.out|apply aA|apply aW|apply aD|refine below_set ?_ GE125.out)|exact HB.out)⟩

   rw [if_pos c3] at H
   have c3b0 : decide (x3_1 < (l0_0.length : Int)) = true:=ab c3
   clear c3
   by_cases c4 : 0 ≤ x3_1
   rotate_left
   ·rw [if_neg c4] at H
    exact absurd H (by simp)
   rw [if_pos c4] at H
   have c4b0 : decide (0 ≤ x3_1) = true:=ab c4
   clear c4
   replace H:=Option.bind_eq_some_iff.mp H
   obtain ⟨t127,A50,H⟩:=H
   replace H : (if t127 = true then (if x3_1 > 0 then (if 0 ≤ (wrap64 (x3_1 - 1)) then (if (wrap64 (x3_1 - 1)) < (l0_0.length : Int) then (if ((rd_T58 l0_0 (wrap64 (x3_1 - 1))).f0) ≥ ((rd_T58 l0_0 x3_1).f0) then (some false) else (ratlineref09_Right.l0 k1 (wrap64 (x3_1 + 1)) l0_0 a0_1 a0_2 a0_3)) else (none)) else (none)) else (ratlineref09_Right.l0 k1 (wrap64 (x3_1 + 1)) l0_0 a0_1 a0_2 a0_3)) else (some false)) = some r:=H
   have A5:=aK A50
   clear A50
   by_cases c6 : t127 = true
   ·subst c6
    have H1 : (if x3_1 > 0 then (if 0 ≤ (wrap64 (x3_1 - 1)) then (if (wrap64 (x3_1 - 1)) < (l0_0.length : Int) then (if ((rd_T58 l0_0 (wrap64 (x3_1 - 1))).f0) ≥ ((rd_T58 l0_0 x3_1).f0) then (some false) else (ratlineref09_Right.l0 k1 (wrap64 (x3_1 + 1)) l0_0 a0_1 a0_2 a0_3)) else (none)) else (none)) else (ratlineref09_Right.l0 k1 (wrap64 (x3_1 + 1)) l0_0 a0_1 a0_2 a0_3)) = some r:=by rw [if_pos rfl] at H;exact H
    clear H
    have H:=H1
    clear H1
    by_cases c7 : x3_1 > 0
    ·rw [if_pos c7] at H
     have c7b0 : decide (0 < x3_1) = true:=ab c7
     clear c7
     obtain ⟨ji8,hji8⟩ : ∃ j_ : Int,(wrap64 (x3_1 - 1)) = j_:=⟨_,rfl⟩
     replace H : (if 0 ≤ (ji8) then (if (ji8) < (l0_0.length : Int) then (if ((rd_T58 l0_0 (ji8)).f0) ≥ ((rd_T58 l0_0 x3_1).f0) then (some false) else (ratlineref09_Right.l0 k1 (wrap64 (x3_1 + 1)) l0_0 a0_1 a0_2 a0_3)) else (none)) else (none)) = some r:=by first|(rw [hji8] at H;exact H)|(simp only [hji8] at H ⊢;exact H)
     (try rw [hji8] at A5)
     have hji8w : (IntKind.i64.wrap (x3_1 - 1)) = ji8:=(i64_w _).trans hji8
     by_cases c9 : 0 ≤ (ji8)
     rotate_left
     ·rw [if_neg c9] at H
      exact absurd H (by simp)
     rw [if_pos c9] at H
     have c9b0 : decide (0 ≤ (ji8)) = true:=ab c9
     clear c9
     by_cases c10 : (ji8) < (l0_0.length : Int)
     rotate_left
     ·rw [if_neg c10] at H
      exact absurd H (by simp)
     rw [if_pos c10] at H
     have c10b0 : decide ((ji8) < (l0_0.length : Int)) = true:=ab c10
     clear c10
     by_cases c11 : ((rd_T58 l0_0 (ji8)).f0) ≥ ((rd_T58 l0_0 x3_1).f0)
     ·rw [if_pos c11] at H
      have c11b0 : decide (((rd_T58 l0_0 x3_1).f0) ≤ ((rd_T58 l0_0 (ji8)).f0)) = true:=ab c11
      clear c11
      obtain rfl:=Option.some.inj H
      have hcz12_0 : wr.cell? ⟨gb125,0,none⟩ = some (.slice A0_0 l0_0.length c0_0):=(aC BK125.out 0).trans rfl
      have hcz12_1 : wr.cell? ⟨gb125,1,none⟩ = some (.int .u64 a0_1):=(aC BK125.out 1).trans rfl
      have hcz12_2 : wr.cell? ⟨gb125,2,none⟩ = some (.int .u64 a0_2):=(aC BK125.out 2).trans rfl
      have hcz12_3 : wr.cell? ⟨gb125,3,none⟩ = some (.int .u64 a0_3):=(aC BK125.out 3).trans rfl
      have hfz12_0:=aF BK125.out 0
      have hfz12_1:=aF BK125.out 1
      have hfz12_2:=aF BK125.out 2
      have hfz12_3:=aF BK125.out 3
      try go_wp2
      have n0_:=aK (blk_drew BK125.out)
      have n1_:=aK (aD HB.out)
      clear BK125
      clear HB
      have BK125:=n0_
      have HB:=n1_
      clear n0_ n1_
      have p126 : 0 ≤ (x3_1 : Int):=ad (by first|(with_reducible assumption)|assumption)
      have q126 : x3_1 < (l0_0.length : Int):=ad (by first|(with_reducible assumption)|assumption)
      obtain ⟨ad126,e126,hx126_0,hx126_1,hx126_2,hx126_3⟩:=at_T58 HR0_0.out x3_1 p126 q126
      have hw126_3:=hx126_3
      have hw126_2:=hx126_2
      have hw126_1:=hx126_1
      have hw126_0:=hx126_0
      cases e126
      replace hx126_0:=(HB.out.cell (World.block_lt_of_cell? w _ hx126_0)).trans hx126_0
      replace hx126_1:=(HB.out.cell (World.block_lt_of_cell? w _ hx126_1)).trans hx126_1
      replace hx126_2:=(HB.out.cell (World.block_lt_of_cell? w _ hx126_2)).trans hx126_2
      replace hx126_3:=(HB.out.cell (World.block_lt_of_cell? w _ hx126_3)).trans hx126_3
      replace p126:=eq_true p126
      replace q126:=eq_true q126
      have p128 : 0 ≤ ((ji8) : Int):=ad (by first|(with_reducible assumption)|assumption)
      have q128 : (ji8) < (l0_0.length : Int):=ad (by first|(with_reducible assumption)|assumption)
      obtain ⟨ad128,e128,hx128_0,hx128_1,hx128_2,hx128_3⟩:=at_T58 HR0_0.out (ji8) p128 q128
      have hw128_3:=hx128_3
      have hw128_2:=hx128_2
      have hw128_1:=hx128_1
      have hw128_0:=hx128_0
      obtain rfl : ad126 = ad128:=(by injection e128)
      replace hx128_0:=(HB.out.cell (World.block_lt_of_cell? w _ hx128_0)).trans hx128_0
      replace hx128_1:=(HB.out.cell (World.block_lt_of_cell? w _ hx128_1)).trans hx128_1
      replace hx128_2:=(HB.out.cell (World.block_lt_of_cell? w _ hx128_2)).trans hx128_2
      replace hx128_3:=(HB.out.cell (World.block_lt_of_cell? w _ hx128_3)).trans hx128_3
      replace p128:=eq_true p128
      replace q128:=eq_true q128
      have p129 : 0 ≤ (x3_1 : Int):=ad (by first|(with_reducible assumption)|assumption)
      have q129 : x3_1 < (l0_0.length : Int):=ad (by first|(with_reducible assumption)|assumption)
      obtain ⟨ad129,e129,hx129_0,hx129_1,hx129_2,hx129_3⟩:=at_T58 HR0_0.out x3_1 p129 q129
      have hw129_3:=hx129_3
      have hw129_2:=hx129_2
      have hw129_1:=hx129_1
      have hw129_0:=hx129_0
      obtain rfl : ad126 = ad129:=(by injection e129)
      replace hx129_0:=(HB.out.cell (World.block_lt_of_cell? w _ hx129_0)).trans hx129_0
      replace hx129_1:=(HB.out.cell (World.block_lt_of_cell? w _ hx129_1)).trans hx129_1
      replace hx129_2:=(HB.out.cell (World.block_lt_of_cell? w _ hx129_2)).trans hx129_2
      replace hx129_3:=(HB.out.cell (World.block_lt_of_cell? w _ hx129_3)).trans hx129_3
      replace p129:=eq_true p129
      replace q129:=eq_true q129
      refine start_ (n:=27) (S:=fun w' => w'.cell? ⟨gb125,0,none⟩ = some (.slice (some ad126) l0_0.length c0_0) ∧ w'.cell? ⟨gb125,1,none⟩ = some (.int .u64 a0_1) ∧ w'.cell? ⟨gb125,2,none⟩ = some (.int .u64 a0_2) ∧ w'.cell? ⟨gb125,3,none⟩ = some (.int .u64 a0_3) ∧ w'.cell? (ad126.add ((x3_1).toNat * 4)) = some (.int .u64 ((rd_T58 l0_0 x3_1).f0)) ∧ w'.cell? ⟨(ad126.add ((x3_1).toNat * 4)).block,(ad126.add ((x3_1).toNat * 4)).off + 1,none⟩ = some (.int .u64 ((rd_T58 l0_0 x3_1).f1)) ∧ w'.cell? ⟨(ad126.add ((x3_1).toNat * 4)).block,(ad126.add ((x3_1).toNat * 4)).off + 2,none⟩ = some (.string ((rd_T58 l0_0 x3_1).f2)) ∧ w'.cell? ⟨(ad126.add ((x3_1).toNat * 4)).block,(ad126.add ((x3_1).toNat * 4)).off + 3,none⟩ = some (.string ((rd_T58 l0_0 x3_1).f3)) ∧ w'.cell? (ad126.add (((ji8)).toNat * 4)) = some (.int .u64 ((rd_T58 l0_0 (ji8)).f0)) ∧ w'.cell? ⟨(ad126.add (((ji8)).toNat * 4)).block,(ad126.add (((ji8)).toNat * 4)).off + 1,none⟩ = some (.int .u64 ((rd_T58 l0_0 (ji8)).f1)) ∧ w'.cell? ⟨(ad126.add (((ji8)).toNat * 4)).block,(ad126.add (((ji8)).toNat * 4)).off + 2,none⟩ = some (.string ((rd_T58 l0_0 (ji8)).f2)) ∧ w'.cell? ⟨(ad126.add (((ji8)).toNat * 4)).block,(ad126.add (((ji8)).toNat * 4)).off + 3,none⟩ = some (.string ((rd_T58 l0_0 (ji8)).f3)) ∧ w'.cell? (ad126.add ((x3_1).toNat * 4)) = some (.int .u64 ((rd_T58 l0_0 x3_1).f0)) ∧ w'.cell? ⟨(ad126.add ((x3_1).toNat * 4)).block,(ad126.add ((x3_1).toNat * 4)).off + 1,none⟩ = some (.int .u64 ((rd_T58 l0_0 x3_1).f1)) ∧ w'.cell? ⟨(ad126.add ((x3_1).toNat * 4)).block,(ad126.add ((x3_1).toNat * 4)).off + 2,none⟩ = some (.string ((rd_T58 l0_0 x3_1).f2)) ∧ w'.cell? ⟨(ad126.add ((x3_1).toNat * 4)).block,(ad126.add ((x3_1).toNat * 4)).off + 3,none⟩ = some (.string ((rd_T58 l0_0 x3_1).f3))) (ds:=[]) #[ff,ff,ff,ff,ff,ff,ff,ff,ff,ff,ff,ff,ff,ff,ff,ff,ff,ff,ff,ff,ff,ff,ff,ff,ff,ff,ff] (by kernel_rfl) rfl rfl ⟨(aC BK125.out 0).trans rfl,(aC BK125.out 1).trans rfl,(aC BK125.out 2).trans rfl,(aC BK125.out 3).trans rfl,((HB.out.cell (World.block_lt_of_cell? w _ hw126_0)).trans hw126_0),((HB.out.cell (World.block_lt_of_cell? w _ hw126_1)).trans hw126_1),((HB.out.cell (World.block_lt_of_cell? w _ hw126_2)).trans hw126_2),((HB.out.cell (World.block_lt_of_cell? w _ hw126_3)).trans hw126_3),((HB.out.cell (World.block_lt_of_cell? w _ hw128_0)).trans hw128_0),((HB.out.cell (World.block_lt_of_cell? w _ hw128_1)).trans hw128_1),((HB.out.cell (World.block_lt_of_cell? w _ hw128_2)).trans hw128_2),((HB.out.cell (World.block_lt_of_cell? w _ hw128_3)).trans hw128_3),((HB.out.cell (World.block_lt_of_cell? w _ hw129_0)).trans hw129_0),((HB.out.cell (World.block_lt_of_cell? w _ hw129_1)).trans hw129_1),((HB.out.cell (World.block_lt_of_cell? w _ hw129_2)).trans hw129_2),((HB.out.cell (World.block_lt_of_cell? w _ hw129_3)).trans hw129_3)⟩ (fun hHeld => ?_);refine with_tabW ratlineref09_Right.tab4 ratlineref09_Right.bits4 (fun HT_ HW_ => ?_)
      generalize wr.drew = w13 at BK125 HB hx126_0 hx126_1 hx126_2 hx126_3 hx128_0 hx128_1 hx128_2 hx128_3 hx129_0 hx129_1 hx129_2 hx129_3 hHeld ⊢
      refine pure_ (i:=0) (N:=some 11) (v:=?_) (a':=?_) #[tt,ff,ff,ff,ff,ff,ff,ff,ff,ff,ff,ff,ff,ff,ff,ff,ff,ff,ff,ff,ff,ff,ff,ff,ff,ff,ff] rfl rfl (any_of HT_.out (by kernel_rfl)) (fun _ _ _ h => h) (Or.inl ⟨by rfl,?_⟩) ?_ ?_
      rotate_left
      ·intro w'
       go_simp
       with_reducible rfl
      rotate_left
      ·simp only [Act.put,sA,sZ,sS,i64_w,i32_w]
       rfl
      refine pure_ (i:=2) (N:=some 13) (v:=?_) (a':=?_) #[tt,ff,tt,ff,ff,ff,ff,ff,ff,ff,ff,ff,ff,ff,ff,ff,ff,ff,ff,ff,ff,ff,ff,ff,ff,ff,ff] rfl rfl (any_of HT_.out (by kernel_rfl)) (fun _ _ _ h => h) (Or.inl ⟨by rfl,?_⟩) ?_ ?_
      rotate_left
      ·intro w'
       go_simp
       with_reducible rfl
      rotate_left
      ·simp only [Act.put,sA,sZ,sS,i64_w,i32_w]
       rfl
      refine take_ (i:=1) (N:=some 12) (v:=?_) (a':=?_) #[tt,tt,tt,ff,ff,ff,ff,ff,ff,ff,ff,ff,ff,ff,ff,ff,ff,ff,ff,ff,ff,ff,ff,ff,ff,ff,ff] rfl rfl (take_ofW HT_.out HW_.out (by kernel_rfl)) (fun _ _ _ h => h) (Or.inl ⟨by rfl,?_⟩) hHeld ?_ ?_
      rotate_left
      ·rintro w' ⟨s0,s1,s2,s3,s4,s5,s6,s7,s8,s9,s10,s11,s12,s13,s14,s15⟩
       go_simp
       with_reducible rfl
      rotate_left
      ·simp only [Act.put,sA,sZ,sS,i64_w,i32_w]
       rfl
      refine pure_ (i:=3) (N:=some 14) (v:=?_) (a':=?_) #[tt,tt,tt,tt,ff,ff,ff,ff,ff,ff,ff,ff,ff,ff,ff,ff,ff,ff,ff,ff,ff,ff,ff,ff,ff,ff,ff] rfl rfl (any_of HT_.out (by kernel_rfl)) (fun _ _ _ h => h) (Or.inl ⟨by rfl,?_⟩) ?_ ?_
      rotate_left
      ·intro w'
       go_simp
       with_reducible rfl
      rotate_left
      ·simp only [Act.put,sA,sZ,sS,i64_w,i32_w]
       rfl
      refine take_ (i:=4) (N:=some 15) (v:=?_) (a':=?_) #[tt,tt,tt,tt,tt,ff,ff,ff,ff,ff,ff,ff,ff,ff,ff,ff,ff,ff,ff,ff,ff,ff,ff,ff,ff,ff,ff] rfl rfl (take_ofW HT_.out HW_.out (by kernel_rfl)) (fun _ _ _ h => h) (Or.inl ⟨by rfl,?_⟩) hHeld ?_ ?_
      rotate_left
      ·rintro w' ⟨s0,s1,s2,s3,s4,s5,s6,s7,s8,s9,s10,s11,s12,s13,s14,s15⟩
       go_simp
       with_reducible rfl
      rotate_left
      ·simp only [Act.put,sA,sZ,sS,i64_w,i32_w]
       rfl
      refine one_ (i:=5) (N:=some 16) #[tt,tt,tt,tt,tt,tt,ff,ff,ff,ff,ff,ff,ff,ff,ff,ff,ff,ff,ff,ff,ff,ff,ff,ff,ff,ff,ff] rfl rfl (one_of HT_.out (by kernel_rfl)) (by decide) (fun K hK => ?_)
      refine goes_ Try.func42 (by kernel_rfl) rfl #[.agg #[.int .u64 ((rd_T58 l0_0 x3_1).f0),.int .u64 ((rd_T58 l0_0 x3_1).f1),.string ((rd_T58 l0_0 x3_1).f2),.string ((rd_T58 l0_0 x3_1).f3)]] (by rfl) rfl rfl (by (try simp only [List.map_toArray,List.map_cons,List.map_nil]);first|done|rfl|(simp only [List.length_drop,List.length_take];rfl)) ?_
      with_reducible refine (ratlineref09_note.calls ((rd_T58 l0_0 x3_1).f0) ((rd_T58 l0_0 x3_1).f1) ((rd_T58 l0_0 x3_1).f2) ((rd_T58 l0_0 x3_1).f3) true _ A5.out).mono ?_
      rintro e w14 ⟨rfl,hb⟩
      refine ⟨_,rfl,?_⟩
      have n0_:=aK (blk_below (g:=gb125) (o:=.cells #[.slice (some ad126) l0_0.length c0_0,.int .u64 a0_1,.int .u64 a0_2,.int .u64 a0_3] 25 (0,0)) (by (with_reducible repeat (first|apply bN|apply bD|apply bA));exact BK125.out) hb)
      have n1_:=aK (below_step (by repeat (first|(with_reducible first|exact HB.out|apply aA|apply aW|apply aD|refine below_set ?_ GE125.out)|exact HB.out)) hb)
      clear BK125
      clear HB
      have BK125:=n0_
      have HB:=n1_
      clear n0_ n1_
      (try clear hb)
      (try clear hb2)
      (try clear hk)
      (try clear hi)
      refine hK.out _ _ ⟨(aC BK125.out 0).trans rfl,(aC BK125.out 1).trans rfl,(aC BK125.out 2).trans rfl,(aC BK125.out 3).trans rfl,((HB.out.cell (World.block_lt_of_cell? w _ hw126_0)).trans hw126_0),((HB.out.cell (World.block_lt_of_cell? w _ hw126_1)).trans hw126_1),((HB.out.cell (World.block_lt_of_cell? w _ hw126_2)).trans hw126_2),((HB.out.cell (World.block_lt_of_cell? w _ hw126_3)).trans hw126_3),((HB.out.cell (World.block_lt_of_cell? w _ hw128_0)).trans hw128_0),((HB.out.cell (World.block_lt_of_cell? w _ hw128_1)).trans hw128_1),((HB.out.cell (World.block_lt_of_cell? w _ hw128_2)).trans hw128_2),((HB.out.cell (World.block_lt_of_cell? w _ hw128_3)).trans hw128_3),((HB.out.cell (World.block_lt_of_cell? w _ hw129_0)).trans hw129_0),((HB.out.cell (World.block_lt_of_cell? w _ hw129_1)).trans hw129_1),((HB.out.cell (World.block_lt_of_cell? w _ hw129_2)).trans hw129_2),((HB.out.cell (World.block_lt_of_cell? w _ hw129_3)).trans hw129_3)⟩ (fun hHeld => ?_)
      clear hK K
      refine norm_ (a':=?_) ?_ ?_
      rotate_left
      ·show Act.put _ (some 16) _ = _
       simp only [Act.put,sA,sZ,sS,i64_w,i32_w]
       rfl
      refine pure_ (i:=6) (N:=some 17) (v:=?_) (a':=?_) #[tt,tt,tt,tt,tt,tt,tt,ff,ff,ff,ff,ff,ff,ff,ff,ff,ff,ff,ff,ff,ff,ff,ff,ff,ff,ff,ff] rfl rfl (any_of HT_.out (by kernel_rfl)) (fun _ _ _ h => h) (Or.inl ⟨by rfl,?_⟩) ?_ ?_
      rotate_left
      ·intro w'
       go_simp
       with_reducible rfl
      rotate_left
      ·simp only [Act.put,sA,sZ,sS,i64_w,i32_w]
       rfl
      refine pure_ (i:=7) (N:=some 18) (v:=?_) (a':=?_) #[tt,tt,tt,tt,tt,tt,tt,tt,ff,ff,ff,ff,ff,ff,ff,ff,ff,ff,ff,ff,ff,ff,ff,ff,ff,ff,ff] rfl rfl (any_of HT_.out (by kernel_rfl)) (fun _ _ _ h => h) (Or.inl ⟨by rfl,?_⟩) ?_ ?_
      rotate_left
      ·intro w'
       go_simp
       with_reducible rfl
      rotate_left
      ·simp only [Act.put,sA,sZ,sS,i64_w,i32_w]
       rfl
      refine pure_ (i:=8) (N:=some 19) (v:=?_) (a':=?_) #[tt,tt,tt,tt,tt,tt,tt,tt,tt,ff,ff,ff,ff,ff,ff,ff,ff,ff,ff,ff,ff,ff,ff,ff,ff,ff,ff] rfl rfl (any_of HT_.out (by kernel_rfl)) (fun _ _ _ h => h) (Or.inl ⟨by rfl,?_⟩) ?_ ?_
      rotate_left
      ·intro w'
       go_simp
       with_reducible rfl
      rotate_left
      ·simp only [Act.put,sA,sZ,sS,i64_w,i32_w]
       rfl
      refine pure_ (i:=9) (N:=some 20) (v:=?_) (a':=?_) #[tt,tt,tt,tt,tt,tt,tt,tt,tt,tt,ff,ff,ff,ff,ff,ff,ff,ff,ff,ff,ff,ff,ff,ff,ff,ff,ff] rfl rfl (any_of HT_.out (by kernel_rfl)) (fun _ _ _ h => h) (Or.inl ⟨by rfl,?_⟩) ?_ ?_
      rotate_left
      ·intro w'
       go_simp
       with_reducible rfl
      rotate_left
      ·simp only [Act.put,sA,sZ,sS,i64_w,i32_w]
       rfl
      refine pure_ (i:=10) (N:=some 21) (v:=?_) (a':=?_) #[tt,tt,tt,tt,tt,tt,tt,tt,tt,tt,tt,ff,ff,ff,ff,ff,ff,ff,ff,ff,ff,ff,ff,ff,ff,ff,ff] rfl rfl (any_of HT_.out (by kernel_rfl)) (fun _ _ _ h => h) (Or.inl ⟨by rfl,?_⟩) ?_ ?_
      rotate_left
      ·intro w'
       go_simp
       with_reducible rfl
      rotate_left
      ·simp only [Act.put,sA,sZ,sS,i64_w,i32_w]
       rfl
      refine pure_ (i:=11) (N:=some 22) (v:=?_) (a':=?_) #[tt,tt,tt,tt,tt,tt,tt,tt,tt,tt,tt,tt,ff,ff,ff,ff,ff,ff,ff,ff,ff,ff,ff,ff,ff,ff,ff] rfl rfl (any_of HT_.out (by kernel_rfl)) (fun _ _ _ h => h) (Or.inl ⟨by rfl,?_⟩) ?_ ?_
      rotate_left
      ·intro w'
       go_simp
       with_reducible rfl
      rotate_left
      ·simp only [Act.put,sA,sZ,sS,i64_w,i32_w]
       rfl
      refine pure_ (i:=13) (N:=some 24) (v:=?_) (a':=?_) #[tt,tt,tt,tt,tt,tt,tt,tt,tt,tt,tt,tt,ff,tt,ff,ff,ff,ff,ff,ff,ff,ff,ff,ff,ff,ff,ff] rfl rfl (any_of HT_.out (by kernel_rfl)) (fun _ _ _ h => h) (Or.inl ⟨by rfl,?_⟩) ?_ ?_
      rotate_left
      ·intro w'
       go_simp
       with_reducible rfl
      rotate_left
      ·simp only [Act.put,sA,sZ,sS,i64_w,i32_w]
       rfl
      refine pure_ (i:=14) (N:=some 25) (v:=?_) (a':=?_) #[tt,tt,tt,tt,tt,tt,tt,tt,tt,tt,tt,tt,ff,tt,tt,ff,ff,ff,ff,ff,ff,ff,ff,ff,ff,ff,ff] rfl rfl (any_of HT_.out (by kernel_rfl)) (fun _ _ _ h => h) (Or.inl ⟨by rfl,?_⟩) ?_ ?_
      rotate_left
      ·intro w'
       go_simp
       with_reducible rfl
      rotate_left
      ·simp only [Act.put,sA,sZ,sS,i64_w,i32_w]
       rfl
      refine pure_ (i:=18) (N:=some 29) (v:=?_) (a':=?_) #[tt,tt,tt,tt,tt,tt,tt,tt,tt,tt,tt,tt,ff,tt,tt,ff,ff,ff,tt,ff,ff,ff,ff,ff,ff,ff,ff] rfl rfl (any_of HT_.out (by kernel_rfl)) (fun _ _ _ h => h) (Or.inl ⟨by rfl,?_⟩) ?_ ?_
      rotate_left
      ·intro w'
       go_simp
       with_reducible rfl
      rotate_left
      ·simp only [Act.put,sA,sZ,sS,i64_w,i32_w]
       rfl
      refine pure_ (i:=20) (N:=some 31) (v:=?_) (a':=?_) #[tt,tt,tt,tt,tt,tt,tt,tt,tt,tt,tt,tt,ff,tt,tt,ff,ff,ff,tt,ff,tt,ff,ff,ff,ff,ff,ff] rfl rfl (any_of HT_.out (by kernel_rfl)) (fun _ _ _ h => h) (Or.inl ⟨by rfl,?_⟩) ?_ ?_
      rotate_left
      ·intro w'
       go_simp
       with_reducible rfl
      rotate_left
      ·simp only [Act.put,sA,sZ,sS,i64_w,i32_w]
       rfl
      refine take_ (i:=12) (N:=some 23) (v:=?_) (a':=?_) #[tt,tt,tt,tt,tt,tt,tt,tt,tt,tt,tt,tt,tt,tt,tt,ff,ff,ff,tt,ff,tt,ff,ff,ff,ff,ff,ff] rfl rfl (take_ofW HT_.out HW_.out (by kernel_rfl)) (fun _ _ _ h => h) (Or.inl ⟨by rfl,?_⟩) hHeld ?_ ?_
      rotate_left
      ·rintro w' ⟨s0,s1,s2,s3,s4,s5,s6,s7,s8,s9,s10,s11,s12,s13,s14,s15⟩
       go_simp
       with_reducible rfl
      rotate_left
      ·simp only [Act.put,sA,sZ,sS,i64_w,i32_w]
       rfl
      refine pure_ (i:=15) (N:=some 26) (v:=?_) (a':=?_) #[tt,tt,tt,tt,tt,tt,tt,tt,tt,tt,tt,tt,tt,tt,tt,tt,ff,ff,tt,ff,tt,ff,ff,ff,ff,ff,ff] rfl rfl (any_of HT_.out (by kernel_rfl)) (fun _ _ _ h => h) (Or.inl ⟨by rfl,?_⟩) ?_ ?_
      rotate_left
      ·intro w'
       go_simp
       with_reducible rfl
      rotate_left
      ·simp only [Act.put,sA,sZ,sS,i64_w,i32_w]
       rfl
      refine pure_ (i:=16) (N:=some 27) (v:=?_) (a':=?_) #[tt,tt,tt,tt,tt,tt,tt,tt,tt,tt,tt,tt,tt,tt,tt,tt,tt,ff,tt,ff,tt,ff,ff,ff,ff,ff,ff] rfl rfl (any_of HT_.out (by kernel_rfl)) (fun _ _ _ h => h) (Or.inl ⟨by rfl,?_⟩) ?_ ?_
      rotate_left
      ·intro w'
       go_simp
       with_reducible rfl
      rotate_left
      ·simp only [Act.put,sA,sZ,sS,i64_w,i32_w]
       rfl
      refine take_ (i:=17) (N:=some 28) (v:=?_) (a':=?_) #[tt,tt,tt,tt,tt,tt,tt,tt,tt,tt,tt,tt,tt,tt,tt,tt,tt,tt,tt,ff,tt,ff,ff,ff,ff,ff,ff] rfl rfl (take_ofW HT_.out HW_.out (by kernel_rfl)) (fun _ _ _ h => h) (Or.inl ⟨by rfl,?_⟩) hHeld ?_ ?_
      rotate_left
      ·rintro w' ⟨s0,s1,s2,s3,s4,s5,s6,s7,s8,s9,s10,s11,s12,s13,s14,s15⟩
       go_simp
       with_reducible rfl
      rotate_left
      ·simp only [Act.put,sA,sZ,sS,i64_w,i32_w]
       rfl
      refine take_ (i:=19) (N:=some 30) (v:=?_) (a':=?_) #[tt,tt,tt,tt,tt,tt,tt,tt,tt,tt,tt,tt,tt,tt,tt,tt,tt,tt,tt,tt,tt,ff,ff,ff,ff,ff,ff] rfl rfl (take_ofW HT_.out HW_.out (by kernel_rfl)) (fun _ _ _ h => h) (Or.inl ⟨by rfl,?_⟩) hHeld ?_ ?_
      rotate_left
      ·rintro w' ⟨s0,s1,s2,s3,s4,s5,s6,s7,s8,s9,s10,s11,s12,s13,s14,s15⟩
       go_simp
       with_reducible rfl
      rotate_left
      ·simp only [Act.put,sA,sZ,sS,i64_w,i32_w]
       rfl
      refine pure_ (i:=21) (N:=some 32) (v:=?_) (a':=?_) #[tt,tt,tt,tt,tt,tt,tt,tt,tt,tt,tt,tt,tt,tt,tt,tt,tt,tt,tt,tt,tt,tt,ff,ff,ff,ff,ff] rfl rfl (any_of HT_.out (by kernel_rfl)) (fun _ _ _ h => h) (Or.inl ⟨by rfl,?_⟩) ?_ ?_
      rotate_left
      ·intro w'
       go_simp
       with_reducible rfl
      rotate_left
      ·simp only [Act.put,sA,sZ,sS,i64_w,i32_w]
       rfl
      refine pure_ (i:=22) (N:=some 33) (v:=?_) (a':=?_) #[tt,tt,tt,tt,tt,tt,tt,tt,tt,tt,tt,tt,tt,tt,tt,tt,tt,tt,tt,tt,tt,tt,tt,ff,ff,ff,ff] rfl rfl (any_of HT_.out (by kernel_rfl)) (fun _ _ _ h => h) (Or.inl ⟨by rfl,?_⟩) ?_ ?_
      rotate_left
      ·intro w'
       go_simp
       with_reducible rfl
      rotate_left
      ·simp only [Act.put,sA,sZ,sS,i64_w,i32_w]
       rfl
      refine take_ (i:=23) (N:=some 34) (v:=?_) (a':=?_) #[tt,tt,tt,tt,tt,tt,tt,tt,tt,tt,tt,tt,tt,tt,tt,tt,tt,tt,tt,tt,tt,tt,tt,tt,ff,ff,ff] rfl rfl (take_ofW HT_.out HW_.out (by kernel_rfl)) (fun _ _ _ h => h) (Or.inl ⟨by rfl,?_⟩) hHeld ?_ ?_
      rotate_left
      ·rintro w' ⟨s0,s1,s2,s3,s4,s5,s6,s7,s8,s9,s10,s11,s12,s13,s14,s15⟩
       go_simp
       with_reducible rfl
      rotate_left
      ·simp only [Act.put,sA,sZ,sS,i64_w,i32_w]
       rfl
      refine pure_ (i:=24) (N:=some 35) (v:=?_) (a':=?_) #[tt,tt,tt,tt,tt,tt,tt,tt,tt,tt,tt,tt,tt,tt,tt,tt,tt,tt,tt,tt,tt,tt,tt,tt,tt,ff,ff] rfl rfl (any_of HT_.out (by kernel_rfl)) (fun _ _ _ h => h) (Or.inl ⟨by rfl,?_⟩) ?_ ?_
      rotate_left
      ·intro w'
       go_simp
       with_reducible rfl
      rotate_left
      ·simp only [Act.put,sA,sZ,sS,i64_w,i32_w]
       rfl
      refine pure_ (i:=25) (N:=some 36) (v:=?_) (a':=?_) #[tt,tt,tt,tt,tt,tt,tt,tt,tt,tt,tt,tt,tt,tt,tt,tt,tt,tt,tt,tt,tt,tt,tt,tt,tt,tt,ff] rfl rfl (any_of HT_.out (by kernel_rfl)) (fun _ _ _ h => h) (Or.inl ⟨by rfl,?_⟩) ?_ ?_
      rotate_left
      ·intro w'
       go_simp
       with_reducible rfl
      rotate_left
      ·simp only [Act.put,sA,sZ,sS,i64_w,i32_w]
       rfl
      refine pure_ (i:=26) (N:=some 37) (v:=?_) (a':=?_) #[tt,tt,tt,tt,tt,tt,tt,tt,tt,tt,tt,tt,tt,tt,tt,tt,tt,tt,tt,tt,tt,tt,tt,tt,tt,tt,tt] rfl rfl (any_of HT_.out (by kernel_rfl)) (fun _ _ _ h => h) (Or.inl ⟨by rfl,?_⟩) ?_ ?_
      rotate_left
      ·intro w'
       go_simp
       with_reducible rfl
      rotate_left
      ·simp only [Act.put,sA,sZ,sS,i64_w,i32_w]
       rfl
      refine done_ (done_of HT_.out (by kernel_rfl)) ?_
      try go_wp2
      go_ret
      exact ⟨by first|rfl|(simp [errW_none,errW_some] <;> rfl)|(simp only [← hji8];first|rfl|(simp [errW_none,errW_some] <;> rfl))|(simp [*,errW_none,errW_some] <;> rfl),by repeat (first|(with_reducible first|exact HB.out|apply aA|apply aW|apply aD|refine below_set ?_ GE125.out)|exact HB.out)⟩
     ·rw [if_neg c11] at H
      have c11b0 : decide (((rd_T58 l0_0 x3_1).f0) ≤ ((rd_T58 l0_0 (ji8)).f0)) = false:=ac c11
      clear c11
      have H':=aK H
      clear H
      have hcz15_0 : wr.cell? ⟨gb125,0,none⟩ = some (.slice A0_0 l0_0.length c0_0):=(aC BK125.out 0).trans rfl
      have hcz15_1 : wr.cell? ⟨gb125,1,none⟩ = some (.int .u64 a0_1):=(aC BK125.out 1).trans rfl
      have hcz15_2 : wr.cell? ⟨gb125,2,none⟩ = some (.int .u64 a0_2):=(aC BK125.out 2).trans rfl
      have hcz15_3 : wr.cell? ⟨gb125,3,none⟩ = some (.int .u64 a0_3):=(aC BK125.out 3).trans rfl
      have hfz15_0:=aF BK125.out 0
      have hfz15_1:=aF BK125.out 1
      have hfz15_2:=aF BK125.out 2
      have hfz15_3:=aF BK125.out 3
      try go_wp2
      have n0_:=aK (blk_drew BK125.out)
      have n1_:=aK (aD HB.out)
      clear BK125
      clear HB
      have BK125:=n0_
      have HB:=n1_
      clear n0_ n1_
      have p126 : 0 ≤ (x3_1 : Int):=ad (by first|(with_reducible assumption)|assumption)
      have q126 : x3_1 < (l0_0.length : Int):=ad (by first|(with_reducible assumption)|assumption)
      obtain ⟨ad126,e126,hx126_0,hx126_1,hx126_2,hx126_3⟩:=at_T58 HR0_0.out x3_1 p126 q126
      have hw126_3:=hx126_3
      have hw126_2:=hx126_2
      have hw126_1:=hx126_1
      have hw126_0:=hx126_0
      cases e126
      replace hx126_0:=(HB.out.cell (World.block_lt_of_cell? w _ hx126_0)).trans hx126_0
      replace hx126_1:=(HB.out.cell (World.block_lt_of_cell? w _ hx126_1)).trans hx126_1
      replace hx126_2:=(HB.out.cell (World.block_lt_of_cell? w _ hx126_2)).trans hx126_2
      replace hx126_3:=(HB.out.cell (World.block_lt_of_cell? w _ hx126_3)).trans hx126_3
      replace p126:=eq_true p126
      replace q126:=eq_true q126
      have p128 : 0 ≤ ((ji8) : Int):=ad (by first|(with_reducible assumption)|assumption)
      have q128 : (ji8) < (l0_0.length : Int):=ad (by first|(with_reducible assumption)|assumption)
      obtain ⟨ad128,e128,hx128_0,hx128_1,hx128_2,hx128_3⟩:=at_T58 HR0_0.out (ji8) p128 q128
      have hw128_3:=hx128_3
      have hw128_2:=hx128_2
      have hw128_1:=hx128_1
      have hw128_0:=hx128_0
      obtain rfl : ad126 = ad128:=(by injection e128)
      replace hx128_0:=(HB.out.cell (World.block_lt_of_cell? w _ hx128_0)).trans hx128_0
      replace hx128_1:=(HB.out.cell (World.block_lt_of_cell? w _ hx128_1)).trans hx128_1
      replace hx128_2:=(HB.out.cell (World.block_lt_of_cell? w _ hx128_2)).trans hx128_2
      replace hx128_3:=(HB.out.cell (World.block_lt_of_cell? w _ hx128_3)).trans hx128_3
      replace p128:=eq_true p128
      replace q128:=eq_true q128
      have p129 : 0 ≤ (x3_1 : Int):=ad (by first|(with_reducible assumption)|assumption)
      have q129 : x3_1 < (l0_0.length : Int):=ad (by first|(with_reducible assumption)|assumption)
      obtain ⟨ad129,e129,hx129_0,hx129_1,hx129_2,hx129_3⟩:=at_T58 HR0_0.out x3_1 p129 q129
      have hw129_3:=hx129_3
      have hw129_2:=hx129_2
      have hw129_1:=hx129_1
      have hw129_0:=hx129_0
      obtain rfl : ad126 = ad129:=(by injection e129)
      replace hx129_0:=(HB.out.cell (World.block_lt_of_cell? w _ hx129_0)).trans hx129_0
      replace hx129_1:=(HB.out.cell (World.block_lt_of_cell? w _ hx129_1)).trans hx129_1
      replace hx129_2:=(HB.out.cell (World.block_lt_of_cell? w _ hx129_2)).trans hx129_2
      replace hx129_3:=(HB.out.cell (World.block_lt_of_cell? w _ hx129_3)).trans hx129_3
      replace p129:=eq_true p129
      replace q129:=eq_true q129
      refine start_ (n:=27) (S:=fun w' => w'.cell? ⟨gb125,0,none⟩ = some (.slice (some ad126) l0_0.length c0_0) ∧ w'.cell? ⟨gb125,1,none⟩ = some (.int .u64 a0_1) ∧ w'.cell? ⟨gb125,2,none⟩ = some (.int .u64 a0_2) ∧ w'.cell? ⟨gb125,3,none⟩ = some (.int .u64 a0_3) ∧ w'.cell? (ad126.add ((x3_1).toNat * 4)) = some (.int .u64 ((rd_T58 l0_0 x3_1).f0)) ∧ w'.cell? ⟨(ad126.add ((x3_1).toNat * 4)).block,(ad126.add ((x3_1).toNat * 4)).off + 1,none⟩ = some (.int .u64 ((rd_T58 l0_0 x3_1).f1)) ∧ w'.cell? ⟨(ad126.add ((x3_1).toNat * 4)).block,(ad126.add ((x3_1).toNat * 4)).off + 2,none⟩ = some (.string ((rd_T58 l0_0 x3_1).f2)) ∧ w'.cell? ⟨(ad126.add ((x3_1).toNat * 4)).block,(ad126.add ((x3_1).toNat * 4)).off + 3,none⟩ = some (.string ((rd_T58 l0_0 x3_1).f3)) ∧ w'.cell? (ad126.add (((ji8)).toNat * 4)) = some (.int .u64 ((rd_T58 l0_0 (ji8)).f0)) ∧ w'.cell? ⟨(ad126.add (((ji8)).toNat * 4)).block,(ad126.add (((ji8)).toNat * 4)).off + 1,none⟩ = some (.int .u64 ((rd_T58 l0_0 (ji8)).f1)) ∧ w'.cell? ⟨(ad126.add (((ji8)).toNat * 4)).block,(ad126.add (((ji8)).toNat * 4)).off + 2,none⟩ = some (.string ((rd_T58 l0_0 (ji8)).f2)) ∧ w'.cell? ⟨(ad126.add (((ji8)).toNat * 4)).block,(ad126.add (((ji8)).toNat * 4)).off + 3,none⟩ = some (.string ((rd_T58 l0_0 (ji8)).f3)) ∧ w'.cell? (ad126.add ((x3_1).toNat * 4)) = some (.int .u64 ((rd_T58 l0_0 x3_1).f0)) ∧ w'.cell? ⟨(ad126.add ((x3_1).toNat * 4)).block,(ad126.add ((x3_1).toNat * 4)).off + 1,none⟩ = some (.int .u64 ((rd_T58 l0_0 x3_1).f1)) ∧ w'.cell? ⟨(ad126.add ((x3_1).toNat * 4)).block,(ad126.add ((x3_1).toNat * 4)).off + 2,none⟩ = some (.string ((rd_T58 l0_0 x3_1).f2)) ∧ w'.cell? ⟨(ad126.add ((x3_1).toNat * 4)).block,(ad126.add ((x3_1).toNat * 4)).off + 3,none⟩ = some (.string ((rd_T58 l0_0 x3_1).f3))) (ds:=[]) #[ff,ff,ff,ff,ff,ff,ff,ff,ff,ff,ff,ff,ff,ff,ff,ff,ff,ff,ff,ff,ff,ff,ff,ff,ff,ff,ff] (by kernel_rfl) rfl rfl ⟨(aC BK125.out 0).trans rfl,(aC BK125.out 1).trans rfl,(aC BK125.out 2).trans rfl,(aC BK125.out 3).trans rfl,((HB.out.cell (World.block_lt_of_cell? w _ hw126_0)).trans hw126_0),((HB.out.cell (World.block_lt_of_cell? w _ hw126_1)).trans hw126_1),((HB.out.cell (World.block_lt_of_cell? w _ hw126_2)).trans hw126_2),((HB.out.cell (World.block_lt_of_cell? w _ hw126_3)).trans hw126_3),((HB.out.cell (World.block_lt_of_cell? w _ hw128_0)).trans hw128_0),((HB.out.cell (World.block_lt_of_cell? w _ hw128_1)).trans hw128_1),((HB.out.cell (World.block_lt_of_cell? w _ hw128_2)).trans hw128_2),((HB.out.cell (World.block_lt_of_cell? w _ hw128_3)).trans hw128_3),((HB.out.cell (World.block_lt_of_cell? w _ hw129_0)).trans hw129_0),((HB.out.cell (World.block_lt_of_cell? w _ hw129_1)).trans hw129_1),((HB.out.cell (World.block_lt_of_cell? w _ hw129_2)).trans hw129_2),((HB.out.cell (World.block_lt_of_cell? w _ hw129_3)).trans hw129_3)⟩ (fun hHeld => ?_);refine with_tabW ratlineref09_Right.tab4 ratlineref09_Right.bits4 (fun HT_ HW_ => ?_)
      generalize wr.drew = w16 at BK125 HB hx126_0 hx126_1 hx126_2 hx126_3 hx128_0 hx128_1 hx128_2 hx128_3 hx129_0 hx129_1 hx129_2 hx129_3 hHeld ⊢
      refine pure_ (i:=0) (N:=some 11) (v:=?_) (a':=?_) #[tt,ff,ff,ff,ff,ff,ff,ff,ff,ff,ff,ff,ff,ff,ff,ff,ff,ff,ff,ff,ff,ff,ff,ff,ff,ff,ff] rfl rfl (any_of HT_.out (by kernel_rfl)) (fun _ _ _ h => h) (Or.inl ⟨by rfl,?_⟩) ?_ ?_
      rotate_left
      ·intro w'
       go_simp
       with_reducible rfl
      rotate_left
      ·simp only [Act.put,sA,sZ,sS,i64_w,i32_w]
       rfl
      refine pure_ (i:=2) (N:=some 13) (v:=?_) (a':=?_) #[tt,ff,tt,ff,ff,ff,ff,ff,ff,ff,ff,ff,ff,ff,ff,ff,ff,ff,ff,ff,ff,ff,ff,ff,ff,ff,ff] rfl rfl (any_of HT_.out (by kernel_rfl)) (fun _ _ _ h => h) (Or.inl ⟨by rfl,?_⟩) ?_ ?_
      rotate_left
      ·intro w'
       go_simp
       with_reducible rfl
      rotate_left
      ·simp only [Act.put,sA,sZ,sS,i64_w,i32_w]
       rfl
      refine take_ (i:=1) (N:=some 12) (v:=?_) (a':=?_) #[tt,tt,tt,ff,ff,ff,ff,ff,ff,ff,ff,ff,ff,ff,ff,ff,ff,ff,ff,ff,ff,ff,ff,ff,ff,ff,ff] rfl rfl (take_ofW HT_.out HW_.out (by kernel_rfl)) (fun _ _ _ h => h) (Or.inl ⟨by rfl,?_⟩) hHeld ?_ ?_
      rotate_left
      ·rintro w' ⟨s0,s1,s2,s3,s4,s5,s6,s7,s8,s9,s10,s11,s12,s13,s14,s15⟩
       go_simp
       with_reducible rfl
      rotate_left
      ·simp only [Act.put,sA,sZ,sS,i64_w,i32_w]
       rfl
      refine pure_ (i:=3) (N:=some 14) (v:=?_) (a':=?_) #[tt,tt,tt,tt,ff,ff,ff,ff,ff,ff,ff,ff,ff,ff,ff,ff,ff,ff,ff,ff,ff,ff,ff,ff,ff,ff,ff] rfl rfl (any_of HT_.out (by kernel_rfl)) (fun _ _ _ h => h) (Or.inl ⟨by rfl,?_⟩) ?_ ?_
      rotate_left
      ·intro w'
       go_simp
       with_reducible rfl
      rotate_left
      ·simp only [Act.put,sA,sZ,sS,i64_w,i32_w]
       rfl
      refine take_ (i:=4) (N:=some 15) (v:=?_) (a':=?_) #[tt,tt,tt,tt,tt,ff,ff,ff,ff,ff,ff,ff,ff,ff,ff,ff,ff,ff,ff,ff,ff,ff,ff,ff,ff,ff,ff] rfl rfl (take_ofW HT_.out HW_.out (by kernel_rfl)) (fun _ _ _ h => h) (Or.inl ⟨by rfl,?_⟩) hHeld ?_ ?_
      rotate_left
      ·rintro w' ⟨s0,s1,s2,s3,s4,s5,s6,s7,s8,s9,s10,s11,s12,s13,s14,s15⟩
       go_simp
       with_reducible rfl
      rotate_left
      ·simp only [Act.put,sA,sZ,sS,i64_w,i32_w]
       rfl
      refine one_ (i:=5) (N:=some 16) #[tt,tt,tt,tt,tt,tt,ff,ff,ff,ff,ff,ff,ff,ff,ff,ff,ff,ff,ff,ff,ff,ff,ff,ff,ff,ff,ff] rfl rfl (one_of HT_.out (by kernel_rfl)) (by decide) (fun K hK => ?_)
      refine goes_ Try.func42 (by kernel_rfl) rfl #[.agg #[.int .u64 ((rd_T58 l0_0 x3_1).f0),.int .u64 ((rd_T58 l0_0 x3_1).f1),.string ((rd_T58 l0_0 x3_1).f2),.string ((rd_T58 l0_0 x3_1).f3)]] (by rfl) rfl rfl (by (try simp only [List.map_toArray,List.map_cons,List.map_nil]);first|done|rfl|(simp only [List.length_drop,List.length_take];rfl)) ?_
      with_reducible refine (ratlineref09_note.calls ((rd_T58 l0_0 x3_1).f0) ((rd_T58 l0_0 x3_1).f1) ((rd_T58 l0_0 x3_1).f2) ((rd_T58 l0_0 x3_1).f3) true _ A5.out).mono ?_
      rintro e w17 ⟨rfl,hb⟩
      refine ⟨_,rfl,?_⟩
      have n0_:=aK (blk_below (g:=gb125) (o:=.cells #[.slice (some ad126) l0_0.length c0_0,.int .u64 a0_1,.int .u64 a0_2,.int .u64 a0_3] 25 (0,0)) (by (with_reducible repeat (first|apply bN|apply bD|apply bA));exact BK125.out) hb)
      have n1_:=aK (below_step (by repeat (first|(with_reducible first|exact HB.out|apply aA|apply aW|apply aD|refine below_set ?_ GE125.out)|exact HB.out)) hb)
      clear BK125
      clear HB
      have BK125:=n0_
      have HB:=n1_
      clear n0_ n1_
      (try clear hb)
      (try clear hb2)
      (try clear hk)
      (try clear hi)
      refine hK.out _ _ ⟨(aC BK125.out 0).trans rfl,(aC BK125.out 1).trans rfl,(aC BK125.out 2).trans rfl,(aC BK125.out 3).trans rfl,((HB.out.cell (World.block_lt_of_cell? w _ hw126_0)).trans hw126_0),((HB.out.cell (World.block_lt_of_cell? w _ hw126_1)).trans hw126_1),((HB.out.cell (World.block_lt_of_cell? w _ hw126_2)).trans hw126_2),((HB.out.cell (World.block_lt_of_cell? w _ hw126_3)).trans hw126_3),((HB.out.cell (World.block_lt_of_cell? w _ hw128_0)).trans hw128_0),((HB.out.cell (World.block_lt_of_cell? w _ hw128_1)).trans hw128_1),((HB.out.cell (World.block_lt_of_cell? w _ hw128_2)).trans hw128_2),((HB.out.cell (World.block_lt_of_cell? w _ hw128_3)).trans hw128_3),((HB.out.cell (World.block_lt_of_cell? w _ hw129_0)).trans hw129_0),((HB.out.cell (World.block_lt_of_cell? w _ hw129_1)).trans hw129_1),((HB.out.cell (World.block_lt_of_cell? w _ hw129_2)).trans hw129_2),((HB.out.cell (World.block_lt_of_cell? w _ hw129_3)).trans hw129_3)⟩ (fun hHeld => ?_)
      clear hK K
      refine norm_ (a':=?_) ?_ ?_
      rotate_left
      ·show Act.put _ (some 16) _ = _
       simp only [Act.put,sA,sZ,sS,i64_w,i32_w]
       rfl
      refine pure_ (i:=6) (N:=some 17) (v:=?_) (a':=?_) #[tt,tt,tt,tt,tt,tt,tt,ff,ff,ff,ff,ff,ff,ff,ff,ff,ff,ff,ff,ff,ff,ff,ff,ff,ff,ff,ff] rfl rfl (any_of HT_.out (by kernel_rfl)) (fun _ _ _ h => h) (Or.inl ⟨by rfl,?_⟩) ?_ ?_
      rotate_left
      ·intro w'
       go_simp
       with_reducible rfl
      rotate_left
      ·simp only [Act.put,sA,sZ,sS,i64_w,i32_w]
       rfl
      refine pure_ (i:=7) (N:=some 18) (v:=?_) (a':=?_) #[tt,tt,tt,tt,tt,tt,tt,tt,ff,ff,ff,ff,ff,ff,ff,ff,ff,ff,ff,ff,ff,ff,ff,ff,ff,ff,ff] rfl rfl (any_of HT_.out (by kernel_rfl)) (fun _ _ _ h => h) (Or.inl ⟨by rfl,?_⟩) ?_ ?_
      rotate_left
      ·intro w'
       go_simp
       with_reducible rfl
      rotate_left
      ·simp only [Act.put,sA,sZ,sS,i64_w,i32_w]
       rfl
      refine pure_ (i:=8) (N:=some 19) (v:=?_) (a':=?_) #[tt,tt,tt,tt,tt,tt,tt,tt,tt,ff,ff,ff,ff,ff,ff,ff,ff,ff,ff,ff,ff,ff,ff,ff,ff,ff,ff] rfl rfl (any_of HT_.out (by kernel_rfl)) (fun _ _ _ h => h) (Or.inl ⟨by rfl,?_⟩) ?_ ?_
      rotate_left
      ·intro w'
       go_simp
       with_reducible rfl
      rotate_left
      ·simp only [Act.put,sA,sZ,sS,i64_w,i32_w]
       rfl
      refine pure_ (i:=9) (N:=some 20) (v:=?_) (a':=?_) #[tt,tt,tt,tt,tt,tt,tt,tt,tt,tt,ff,ff,ff,ff,ff,ff,ff,ff,ff,ff,ff,ff,ff,ff,ff,ff,ff] rfl rfl (any_of HT_.out (by kernel_rfl)) (fun _ _ _ h => h) (Or.inl ⟨by rfl,?_⟩) ?_ ?_
      rotate_left
      ·intro w'
       go_simp
       with_reducible rfl
      rotate_left
      ·simp only [Act.put,sA,sZ,sS,i64_w,i32_w]
       rfl
      refine pure_ (i:=10) (N:=some 21) (v:=?_) (a':=?_) #[tt,tt,tt,tt,tt,tt,tt,tt,tt,tt,tt,ff,ff,ff,ff,ff,ff,ff,ff,ff,ff,ff,ff,ff,ff,ff,ff] rfl rfl (any_of HT_.out (by kernel_rfl)) (fun _ _ _ h => h) (Or.inl ⟨by rfl,?_⟩) ?_ ?_
      rotate_left
      ·intro w'
       go_simp
       with_reducible rfl
      rotate_left
      ·simp only [Act.put,sA,sZ,sS,i64_w,i32_w]
       rfl
      refine pure_ (i:=11) (N:=some 22) (v:=?_) (a':=?_) #[tt,tt,tt,tt,tt,tt,tt,tt,tt,tt,tt,tt,ff,ff,ff,ff,ff,ff,ff,ff,ff,ff,ff,ff,ff,ff,ff] rfl rfl (any_of HT_.out (by kernel_rfl)) (fun _ _ _ h => h) (Or.inl ⟨by rfl,?_⟩) ?_ ?_
      rotate_left
      ·intro w'
       go_simp
       with_reducible rfl
      rotate_left
      ·simp only [Act.put,sA,sZ,sS,i64_w,i32_w]
       rfl
      refine pure_ (i:=13) (N:=some 24) (v:=?_) (a':=?_) #[tt,tt,tt,tt,tt,tt,tt,tt,tt,tt,tt,tt,ff,tt,ff,ff,ff,ff,ff,ff,ff,ff,ff,ff,ff,ff,ff] rfl rfl (any_of HT_.out (by kernel_rfl)) (fun _ _ _ h => h) (Or.inl ⟨by rfl,?_⟩) ?_ ?_
      rotate_left
      ·intro w'
       go_simp
       with_reducible rfl
      rotate_left
      ·simp only [Act.put,sA,sZ,sS,i64_w,i32_w]
       rfl
      refine pure_ (i:=14) (N:=some 25) (v:=?_) (a':=?_) #[tt,tt,tt,tt,tt,tt,tt,tt,tt,tt,tt,tt,ff,tt,tt,ff,ff,ff,ff,ff,ff,ff,ff,ff,ff,ff,ff] rfl rfl (any_of HT_.out (by kernel_rfl)) (fun _ _ _ h => h) (Or.inl ⟨by rfl,?_⟩) ?_ ?_
      rotate_left
      ·intro w'
       go_simp
       with_reducible rfl
      rotate_left
      ·simp only [Act.put,sA,sZ,sS,i64_w,i32_w]
       rfl
      refine pure_ (i:=18) (N:=some 29) (v:=?_) (a':=?_) #[tt,tt,tt,tt,tt,tt,tt,tt,tt,tt,tt,tt,ff,tt,tt,ff,ff,ff,tt,ff,ff,ff,ff,ff,ff,ff,ff] rfl rfl (any_of HT_.out (by kernel_rfl)) (fun _ _ _ h => h) (Or.inl ⟨by rfl,?_⟩) ?_ ?_
      rotate_left
      ·intro w'
       go_simp
       with_reducible rfl
      rotate_left
      ·simp only [Act.put,sA,sZ,sS,i64_w,i32_w]
       rfl
      refine pure_ (i:=20) (N:=some 31) (v:=?_) (a':=?_) #[tt,tt,tt,tt,tt,tt,tt,tt,tt,tt,tt,tt,ff,tt,tt,ff,ff,ff,tt,ff,tt,ff,ff,ff,ff,ff,ff] rfl rfl (any_of HT_.out (by kernel_rfl)) (fun _ _ _ h => h) (Or.inl ⟨by rfl,?_⟩) ?_ ?_
      rotate_left
      ·intro w'
       go_simp
       with_reducible rfl
      rotate_left
      ·simp only [Act.put,sA,sZ,sS,i64_w,i32_w]
       rfl
      refine take_ (i:=12) (N:=some 23) (v:=?_) (a':=?_) #[tt,tt,tt,tt,tt,tt,tt,tt,tt,tt,tt,tt,tt,tt,tt,ff,ff,ff,tt,ff,tt,ff,ff,ff,ff,ff,ff] rfl rfl (take_ofW HT_.out HW_.out (by kernel_rfl)) (fun _ _ _ h => h) (Or.inl ⟨by rfl,?_⟩) hHeld ?_ ?_
      rotate_left
      ·rintro w' ⟨s0,s1,s2,s3,s4,s5,s6,s7,s8,s9,s10,s11,s12,s13,s14,s15⟩
       go_simp
       with_reducible rfl
      rotate_left
      ·simp only [Act.put,sA,sZ,sS,i64_w,i32_w]
       rfl
      refine pure_ (i:=15) (N:=some 26) (v:=?_) (a':=?_) #[tt,tt,tt,tt,tt,tt,tt,tt,tt,tt,tt,tt,tt,tt,tt,tt,ff,ff,tt,ff,tt,ff,ff,ff,ff,ff,ff] rfl rfl (any_of HT_.out (by kernel_rfl)) (fun _ _ _ h => h) (Or.inl ⟨by rfl,?_⟩) ?_ ?_
      rotate_left
      ·intro w'
       go_simp
       with_reducible rfl
      rotate_left
      ·simp only [Act.put,sA,sZ,sS,i64_w,i32_w]
       rfl
      refine pure_ (i:=16) (N:=some 27) (v:=?_) (a':=?_) #[tt,tt,tt,tt,tt,tt,tt,tt,tt,tt,tt,tt,tt,tt,tt,tt,tt,ff,tt,ff,tt,ff,ff,ff,ff,ff,ff] rfl rfl (any_of HT_.out (by kernel_rfl)) (fun _ _ _ h => h) (Or.inl ⟨by rfl,?_⟩) ?_ ?_
      rotate_left
      ·intro w'
       go_simp
       with_reducible rfl
      rotate_left
      ·simp only [Act.put,sA,sZ,sS,i64_w,i32_w]
       rfl
      refine take_ (i:=17) (N:=some 28) (v:=?_) (a':=?_) #[tt,tt,tt,tt,tt,tt,tt,tt,tt,tt,tt,tt,tt,tt,tt,tt,tt,tt,tt,ff,tt,ff,ff,ff,ff,ff,ff] rfl rfl (take_ofW HT_.out HW_.out (by kernel_rfl)) (fun _ _ _ h => h) (Or.inl ⟨by rfl,?_⟩) hHeld ?_ ?_
      rotate_left
      ·rintro w' ⟨s0,s1,s2,s3,s4,s5,s6,s7,s8,s9,s10,s11,s12,s13,s14,s15⟩
       go_simp
       with_reducible rfl
      rotate_left
      ·simp only [Act.put,sA,sZ,sS,i64_w,i32_w]
       rfl
      refine take_ (i:=19) (N:=some 30) (v:=?_) (a':=?_) #[tt,tt,tt,tt,tt,tt,tt,tt,tt,tt,tt,tt,tt,tt,tt,tt,tt,tt,tt,tt,tt,ff,ff,ff,ff,ff,ff] rfl rfl (take_ofW HT_.out HW_.out (by kernel_rfl)) (fun _ _ _ h => h) (Or.inl ⟨by rfl,?_⟩) hHeld ?_ ?_
      rotate_left
      ·rintro w' ⟨s0,s1,s2,s3,s4,s5,s6,s7,s8,s9,s10,s11,s12,s13,s14,s15⟩
       go_simp
       with_reducible rfl
      rotate_left
      ·simp only [Act.put,sA,sZ,sS,i64_w,i32_w]
       rfl
      refine pure_ (i:=21) (N:=some 32) (v:=?_) (a':=?_) #[tt,tt,tt,tt,tt,tt,tt,tt,tt,tt,tt,tt,tt,tt,tt,tt,tt,tt,tt,tt,tt,tt,ff,ff,ff,ff,ff] rfl rfl (any_of HT_.out (by kernel_rfl)) (fun _ _ _ h => h) (Or.inl ⟨by rfl,?_⟩) ?_ ?_
      rotate_left
      ·intro w'
       go_simp
       with_reducible rfl
      rotate_left
      ·simp only [Act.put,sA,sZ,sS,i64_w,i32_w]
       rfl
      refine pure_ (i:=22) (N:=some 33) (v:=?_) (a':=?_) #[tt,tt,tt,tt,tt,tt,tt,tt,tt,tt,tt,tt,tt,tt,tt,tt,tt,tt,tt,tt,tt,tt,tt,ff,ff,ff,ff] rfl rfl (any_of HT_.out (by kernel_rfl)) (fun _ _ _ h => h) (Or.inl ⟨by rfl,?_⟩) ?_ ?_
      rotate_left
      ·intro w'
       go_simp
       with_reducible rfl
      rotate_left
      ·simp only [Act.put,sA,sZ,sS,i64_w,i32_w]
       rfl
      refine take_ (i:=23) (N:=some 34) (v:=?_) (a':=?_) #[tt,tt,tt,tt,tt,tt,tt,tt,tt,tt,tt,tt,tt,tt,tt,tt,tt,tt,tt,tt,tt,tt,tt,tt,ff,ff,ff] rfl rfl (take_ofW HT_.out HW_.out (by kernel_rfl)) (fun _ _ _ h => h) (Or.inl ⟨by rfl,?_⟩) hHeld ?_ ?_
      rotate_left
      ·rintro w' ⟨s0,s1,s2,s3,s4,s5,s6,s7,s8,s9,s10,s11,s12,s13,s14,s15⟩
       go_simp
       with_reducible rfl
      rotate_left
      ·simp only [Act.put,sA,sZ,sS,i64_w,i32_w]
       rfl
      refine pure_ (i:=24) (N:=some 35) (v:=?_) (a':=?_) #[tt,tt,tt,tt,tt,tt,tt,tt,tt,tt,tt,tt,tt,tt,tt,tt,tt,tt,tt,tt,tt,tt,tt,tt,tt,ff,ff] rfl rfl (any_of HT_.out (by kernel_rfl)) (fun _ _ _ h => h) (Or.inl ⟨by rfl,?_⟩) ?_ ?_
      rotate_left
      ·intro w'
       go_simp
       with_reducible rfl
      rotate_left
      ·simp only [Act.put,sA,sZ,sS,i64_w,i32_w]
       rfl
      refine pure_ (i:=25) (N:=some 36) (v:=?_) (a':=?_) #[tt,tt,tt,tt,tt,tt,tt,tt,tt,tt,tt,tt,tt,tt,tt,tt,tt,tt,tt,tt,tt,tt,tt,tt,tt,tt,ff] rfl rfl (any_of HT_.out (by kernel_rfl)) (fun _ _ _ h => h) (Or.inl ⟨by rfl,?_⟩) ?_ ?_
      rotate_left
      ·intro w'
       go_simp
       with_reducible rfl
      rotate_left
      ·simp only [Act.put,sA,sZ,sS,i64_w,i32_w]
       rfl
      refine pure_ (i:=26) (N:=some 37) (v:=?_) (a':=?_) #[tt,tt,tt,tt,tt,tt,tt,tt,tt,tt,tt,tt,tt,tt,tt,tt,tt,tt,tt,tt,tt,tt,tt,tt,tt,tt,tt] rfl rfl (any_of HT_.out (by kernel_rfl)) (fun _ _ _ h => h) (Or.inl ⟨by rfl,?_⟩) ?_ ?_
      rotate_left
      ·intro w'
       go_simp
       with_reducible rfl
      rotate_left
      ·simp only [Act.put,sA,sZ,sS,i64_w,i32_w]
       rfl
      refine done_ (done_of HT_.out (by kernel_rfl)) ?_
      try go_wp2
      go_roundg k1
      case measure => have:=HK1.out;omega
      case rel => exact ⟨(wrap64 (x3_1 + 1)),(by first|rfl|(simp;done)|(simp [*];done)),H',⟨by have:=HK1.out;omega⟩,⟨by (with_reducible repeat (first|apply bN|apply bD|apply bA));exact BK125.out⟩,⟨by repeat (first|(with_reducible first|exact HB.out|apply aA|apply aW|apply aD|refine below_set ?_ GE125.out)|exact HB.out)⟩⟩
    ·rw [if_neg c7] at H
     have c7b0 : decide (0 < x3_1) = false:=ac c7
     clear c7
     have H':=aK H
     clear H
     have hcz18_0 : wr.cell? ⟨gb125,0,none⟩ = some (.slice A0_0 l0_0.length c0_0):=(aC BK125.out 0).trans rfl
     have hcz18_1 : wr.cell? ⟨gb125,1,none⟩ = some (.int .u64 a0_1):=(aC BK125.out 1).trans rfl
     have hcz18_2 : wr.cell? ⟨gb125,2,none⟩ = some (.int .u64 a0_2):=(aC BK125.out 2).trans rfl
     have hcz18_3 : wr.cell? ⟨gb125,3,none⟩ = some (.int .u64 a0_3):=(aC BK125.out 3).trans rfl
     have hfz18_0:=aF BK125.out 0
     have hfz18_1:=aF BK125.out 1
     have hfz18_2:=aF BK125.out 2
     have hfz18_3:=aF BK125.out 3
     try go_wp2
     have n0_:=aK (blk_drew BK125.out)
     have n1_:=aK (aD HB.out)
     clear BK125
     clear HB
     have BK125:=n0_
     have HB:=n1_
     clear n0_ n1_
     have p126 : 0 ≤ (x3_1 : Int):=ad (by first|(with_reducible assumption)|assumption)
     have q126 : x3_1 < (l0_0.length : Int):=ad (by first|(with_reducible assumption)|assumption)
     obtain ⟨ad126,e126,hx126_0,hx126_1,hx126_2,hx126_3⟩:=at_T58 HR0_0.out x3_1 p126 q126
     have hw126_3:=hx126_3
     have hw126_2:=hx126_2
     have hw126_1:=hx126_1
     have hw126_0:=hx126_0
     cases e126
     replace hx126_0:=(HB.out.cell (World.block_lt_of_cell? w _ hx126_0)).trans hx126_0
     replace hx126_1:=(HB.out.cell (World.block_lt_of_cell? w _ hx126_1)).trans hx126_1
     replace hx126_2:=(HB.out.cell (World.block_lt_of_cell? w _ hx126_2)).trans hx126_2
     replace hx126_3:=(HB.out.cell (World.block_lt_of_cell? w _ hx126_3)).trans hx126_3
     replace p126:=eq_true p126
     replace q126:=eq_true q126
     refine start_ (n:=27) (S:=fun w' => w'.cell? ⟨gb125,0,none⟩ = some (.slice (some ad126) l0_0.length c0_0) ∧ w'.cell? ⟨gb125,1,none⟩ = some (.int .u64 a0_1) ∧ w'.cell? ⟨gb125,2,none⟩ = some (.int .u64 a0_2) ∧ w'.cell? ⟨gb125,3,none⟩ = some (.int .u64 a0_3) ∧ w'.cell? (ad126.add ((x3_1).toNat * 4)) = some (.int .u64 ((rd_T58 l0_0 x3_1).f0)) ∧ w'.cell? ⟨(ad126.add ((x3_1).toNat * 4)).block,(ad126.add ((x3_1).toNat * 4)).off + 1,none⟩ = some (.int .u64 ((rd_T58 l0_0 x3_1).f1)) ∧ w'.cell? ⟨(ad126.add ((x3_1).toNat * 4)).block,(ad126.add ((x3_1).toNat * 4)).off + 2,none⟩ = some (.string ((rd_T58 l0_0 x3_1).f2)) ∧ w'.cell? ⟨(ad126.add ((x3_1).toNat * 4)).block,(ad126.add ((x3_1).toNat * 4)).off + 3,none⟩ = some (.string ((rd_T58 l0_0 x3_1).f3))) (ds:=[]) #[ff,ff,ff,ff,ff,ff,ff,ff,ff,ff,ff,ff,ff,ff,ff,ff,ff,ff,ff,ff,ff,ff,ff,ff,ff,ff,ff] (by kernel_rfl) rfl rfl ⟨(aC BK125.out 0).trans rfl,(aC BK125.out 1).trans rfl,(aC BK125.out 2).trans rfl,(aC BK125.out 3).trans rfl,((HB.out.cell (World.block_lt_of_cell? w _ hw126_0)).trans hw126_0),((HB.out.cell (World.block_lt_of_cell? w _ hw126_1)).trans hw126_1),((HB.out.cell (World.block_lt_of_cell? w _ hw126_2)).trans hw126_2),((HB.out.cell (World.block_lt_of_cell? w _ hw126_3)).trans hw126_3)⟩ (fun hHeld => ?_);refine with_tabW ratlineref09_Right.tab4 ratlineref09_Right.bits4 (fun HT_ HW_ => ?_)
     generalize wr.drew = w19 at BK125 HB hx126_0 hx126_1 hx126_2 hx126_3 hHeld ⊢
     refine pure_ (i:=0) (N:=some 11) (v:=?_) (a':=?_) #[tt,ff,ff,ff,ff,ff,ff,ff,ff,ff,ff,ff,ff,ff,ff,ff,ff,ff,ff,ff,ff,ff,ff,ff,ff,ff,ff] rfl rfl (any_of HT_.out (by kernel_rfl)) (fun _ _ _ h => h) (Or.inl ⟨by rfl,?_⟩) ?_ ?_
     rotate_left
     ·intro w'
      go_simp
      with_reducible rfl
     rotate_left
     ·simp only [Act.put,sA,sZ,sS,i64_w,i32_w]
      rfl
     refine pure_ (i:=2) (N:=some 13) (v:=?_) (a':=?_) #[tt,ff,tt,ff,ff,ff,ff,ff,ff,ff,ff,ff,ff,ff,ff,ff,ff,ff,ff,ff,ff,ff,ff,ff,ff,ff,ff] rfl rfl (any_of HT_.out (by kernel_rfl)) (fun _ _ _ h => h) (Or.inl ⟨by rfl,?_⟩) ?_ ?_
     rotate_left
     ·intro w'
      go_simp
      with_reducible rfl
     rotate_left
     ·simp only [Act.put,sA,sZ,sS,i64_w,i32_w]
      rfl
     refine take_ (i:=1) (N:=some 12) (v:=?_) (a':=?_) #[tt,tt,tt,ff,ff,ff,ff,ff,ff,ff,ff,ff,ff,ff,ff,ff,ff,ff,ff,ff,ff,ff,ff,ff,ff,ff,ff] rfl rfl (take_ofW HT_.out HW_.out (by kernel_rfl)) (fun _ _ _ h => h) (Or.inl ⟨by rfl,?_⟩) hHeld ?_ ?_
     rotate_left
     ·rintro w' ⟨s0,s1,s2,s3,s4,s5,s6,s7⟩
      go_simp
      with_reducible rfl
     rotate_left
     ·simp only [Act.put,sA,sZ,sS,i64_w,i32_w]
      rfl
     refine pure_ (i:=3) (N:=some 14) (v:=?_) (a':=?_) #[tt,tt,tt,tt,ff,ff,ff,ff,ff,ff,ff,ff,ff,ff,ff,ff,ff,ff,ff,ff,ff,ff,ff,ff,ff,ff,ff] rfl rfl (any_of HT_.out (by kernel_rfl)) (fun _ _ _ h => h) (Or.inl ⟨by rfl,?_⟩) ?_ ?_
     rotate_left
     ·intro w'
      go_simp
      with_reducible rfl
     rotate_left
     ·simp only [Act.put,sA,sZ,sS,i64_w,i32_w]
      rfl
     refine take_ (i:=4) (N:=some 15) (v:=?_) (a':=?_) #[tt,tt,tt,tt,tt,ff,ff,ff,ff,ff,ff,ff,ff,ff,ff,ff,ff,ff,ff,ff,ff,ff,ff,ff,ff,ff,ff] rfl rfl (take_ofW HT_.out HW_.out (by kernel_rfl)) (fun _ _ _ h => h) (Or.inl ⟨by rfl,?_⟩) hHeld ?_ ?_
     rotate_left
     ·rintro w' ⟨s0,s1,s2,s3,s4,s5,s6,s7⟩
      go_simp
      with_reducible rfl
     rotate_left
     ·simp only [Act.put,sA,sZ,sS,i64_w,i32_w]
      rfl
     refine one_ (i:=5) (N:=some 16) #[tt,tt,tt,tt,tt,tt,ff,ff,ff,ff,ff,ff,ff,ff,ff,ff,ff,ff,ff,ff,ff,ff,ff,ff,ff,ff,ff] rfl rfl (one_of HT_.out (by kernel_rfl)) (by decide) (fun K hK => ?_)
     refine goes_ Try.func42 (by kernel_rfl) rfl #[.agg #[.int .u64 ((rd_T58 l0_0 x3_1).f0),.int .u64 ((rd_T58 l0_0 x3_1).f1),.string ((rd_T58 l0_0 x3_1).f2),.string ((rd_T58 l0_0 x3_1).f3)]] (by rfl) rfl rfl (by (try simp only [List.map_toArray,List.map_cons,List.map_nil]);first|done|rfl|(simp only [List.length_drop,List.length_take];rfl)) ?_
     with_reducible refine (ratlineref09_note.calls ((rd_T58 l0_0 x3_1).f0) ((rd_T58 l0_0 x3_1).f1) ((rd_T58 l0_0 x3_1).f2) ((rd_T58 l0_0 x3_1).f3) true _ A5.out).mono ?_
     rintro e w20 ⟨rfl,hb⟩
     refine ⟨_,rfl,?_⟩
     have n0_:=aK (blk_below (g:=gb125) (o:=.cells #[.slice (some ad126) l0_0.length c0_0,.int .u64 a0_1,.int .u64 a0_2,.int .u64 a0_3] 25 (0,0)) (by (with_reducible repeat (first|apply bN|apply bD|apply bA));exact BK125.out) hb)
     have n1_:=aK (below_step (by repeat (first|(with_reducible first|exact HB.out|apply aA|apply aW|apply aD|refine below_set ?_ GE125.out)|exact HB.out)) hb)
     clear BK125
     clear HB
     have BK125:=n0_
     have HB:=n1_
     clear n0_ n1_
     (try clear hb)
     (try clear hb2)
     (try clear hk)
     (try clear hi)
     refine hK.out _ _ ⟨(aC BK125.out 0).trans rfl,(aC BK125.out 1).trans rfl,(aC BK125.out 2).trans rfl,(aC BK125.out 3).trans rfl,((HB.out.cell (World.block_lt_of_cell? w _ hw126_0)).trans hw126_0),((HB.out.cell (World.block_lt_of_cell? w _ hw126_1)).trans hw126_1),((HB.out.cell (World.block_lt_of_cell? w _ hw126_2)).trans hw126_2),((HB.out.cell (World.block_lt_of_cell? w _ hw126_3)).trans hw126_3)⟩ (fun hHeld => ?_)
     clear hK K
     refine norm_ (a':=?_) ?_ ?_
     rotate_left
     ·show Act.put _ (some 16) _ = _
      simp only [Act.put,sA,sZ,sS,i64_w,i32_w]
      rfl
     refine pure_ (i:=6) (N:=some 17) (v:=?_) (a':=?_) #[tt,tt,tt,tt,tt,tt,tt,ff,ff,ff,ff,ff,ff,ff,ff,ff,ff,ff,ff,ff,ff,ff,ff,ff,ff,ff,ff] rfl rfl (any_of HT_.out (by kernel_rfl)) (fun _ _ _ h => h) (Or.inl ⟨by rfl,?_⟩) ?_ ?_
     rotate_left
     ·intro w'
      go_simp
      with_reducible rfl
     rotate_left
     ·simp only [Act.put,sA,sZ,sS,i64_w,i32_w]
      rfl
     refine pure_ (i:=7) (N:=some 18) (v:=?_) (a':=?_) #[tt,tt,tt,tt,tt,tt,tt,tt,ff,ff,ff,ff,ff,ff,ff,ff,ff,ff,ff,ff,ff,ff,ff,ff,ff,ff,ff] rfl rfl (any_of HT_.out (by kernel_rfl)) (fun _ _ _ h => h) (Or.inl ⟨by rfl,?_⟩) ?_ ?_
     rotate_left
     ·intro w'
      go_simp
      with_reducible rfl
     rotate_left
     ·simp only [Act.put,sA,sZ,sS,i64_w,i32_w]
      rfl
     refine pure_ (i:=8) (N:=some 19) (v:=?_) (a':=?_) #[tt,tt,tt,tt,tt,tt,tt,tt,tt,ff,ff,ff,ff,ff,ff,ff,ff,ff,ff,ff,ff,ff,ff,ff,ff,ff,ff] rfl rfl (any_of HT_.out (by kernel_rfl)) (fun _ _ _ h => h) (Or.inl ⟨by rfl,?_⟩) ?_ ?_
     rotate_left
     ·intro w'
      go_simp
      with_reducible rfl
     rotate_left
     ·simp only [Act.put,sA,sZ,sS,i64_w,i32_w]
      rfl
     refine pure_ (i:=9) (N:=some 20) (v:=?_) (a':=?_) #[tt,tt,tt,tt,tt,tt,tt,tt,tt,tt,ff,ff,ff,ff,ff,ff,ff,ff,ff,ff,ff,ff,ff,ff,ff,ff,ff] rfl rfl (any_of HT_.out (by kernel_rfl)) (fun _ _ _ h => h) (Or.inl ⟨by rfl,?_⟩) ?_ ?_
     rotate_left
     ·intro w'
      go_simp
      with_reducible rfl
     rotate_left
     ·simp only [Act.put,sA,sZ,sS,i64_w,i32_w]
      rfl
     refine pure_ (i:=10) (N:=some 21) (v:=?_) (a':=?_) #[tt,tt,tt,tt,tt,tt,tt,tt,tt,tt,tt,ff,ff,ff,ff,ff,ff,ff,ff,ff,ff,ff,ff,ff,ff,ff,ff] rfl rfl (any_of HT_.out (by kernel_rfl)) (fun _ _ _ h => h) (Or.inl ⟨by rfl,?_⟩) ?_ ?_
     rotate_left
     ·intro w'
      go_simp
      with_reducible rfl
     rotate_left
     ·simp only [Act.put,sA,sZ,sS,i64_w,i32_w]
      rfl
     refine pure_ (i:=11) (N:=some 22) (v:=undef) (a':=?_) #[tt,tt,tt,tt,tt,tt,tt,tt,tt,tt,tt,tt,ff,ff,ff,ff,ff,ff,ff,ff,ff,ff,ff,ff,ff,ff,ff] rfl rfl (any_of HT_.out (by kernel_rfl)) (fun _ _ _ h => h) (Or.inr ⟨by rfl,rfl⟩) ?_ ?_
     rotate_left
     ·simp only [Act.put,sA,sZ,sS,i64_w,i32_w]
      rfl
     refine pure_ (i:=12) (N:=some 23) (v:=undef) (a':=?_) #[tt,tt,tt,tt,tt,tt,tt,tt,tt,tt,tt,tt,tt,ff,ff,ff,ff,ff,ff,ff,ff,ff,ff,ff,ff,ff,ff] rfl rfl (any_of HT_.out (by kernel_rfl)) (fun _ _ _ h => h) (Or.inr ⟨by rfl,rfl⟩) ?_ ?_
     rotate_left
     ·simp only [Act.put,sA,sZ,sS,i64_w,i32_w]
      rfl
     refine pure_ (i:=13) (N:=some 24) (v:=undef) (a':=?_) #[tt,tt,tt,tt,tt,tt,tt,tt,tt,tt,tt,tt,tt,tt,ff,ff,ff,ff,ff,ff,ff,ff,ff,ff,ff,ff,ff] rfl rfl (any_of HT_.out (by kernel_rfl)) (fun _ _ _ h => h) (Or.inr ⟨by rfl,rfl⟩) ?_ ?_
     rotate_left
     ·simp only [Act.put,sA,sZ,sS,i64_w,i32_w]
      rfl
     refine pure_ (i:=14) (N:=some 25) (v:=undef) (a':=?_) #[tt,tt,tt,tt,tt,tt,tt,tt,tt,tt,tt,tt,tt,tt,tt,ff,ff,ff,ff,ff,ff,ff,ff,ff,ff,ff,ff] rfl rfl (any_of HT_.out (by kernel_rfl)) (fun _ _ _ h => h) (Or.inr ⟨by rfl,rfl⟩) ?_ ?_
     rotate_left
     ·simp only [Act.put,sA,sZ,sS,i64_w,i32_w]
      rfl
     refine pure_ (i:=15) (N:=some 26) (v:=undef) (a':=?_) #[tt,tt,tt,tt,tt,tt,tt,tt,tt,tt,tt,tt,tt,tt,tt,tt,ff,ff,ff,ff,ff,ff,ff,ff,ff,ff,ff] rfl rfl (any_of HT_.out (by kernel_rfl)) (fun _ _ _ h => h) (Or.inr ⟨by rfl,rfl⟩) ?_ ?_
     rotate_left
     ·simp only [Act.put,sA,sZ,sS,i64_w,i32_w]
      rfl
     refine pure_ (i:=16) (N:=some 27) (v:=undef) (a':=?_) #[tt,tt,tt,tt,tt,tt,tt,tt,tt,tt,tt,tt,tt,tt,tt,tt,tt,ff,ff,ff,ff,ff,ff,ff,ff,ff,ff] rfl rfl (any_of HT_.out (by kernel_rfl)) (fun _ _ _ h => h) (Or.inr ⟨by rfl,rfl⟩) ?_ ?_
     rotate_left
     ·simp only [Act.put,sA,sZ,sS,i64_w,i32_w]
      rfl
     refine pure_ (i:=17) (N:=some 28) (v:=undef) (a':=?_) #[tt,tt,tt,tt,tt,tt,tt,tt,tt,tt,tt,tt,tt,tt,tt,tt,tt,tt,ff,ff,ff,ff,ff,ff,ff,ff,ff] rfl rfl (any_of HT_.out (by kernel_rfl)) (fun _ _ _ h => h) (Or.inr ⟨by rfl,rfl⟩) ?_ ?_
     rotate_left
     ·simp only [Act.put,sA,sZ,sS,i64_w,i32_w]
      rfl
     refine pure_ (i:=18) (N:=some 29) (v:=undef) (a':=?_) #[tt,tt,tt,tt,tt,tt,tt,tt,tt,tt,tt,tt,tt,tt,tt,tt,tt,tt,tt,ff,ff,ff,ff,ff,ff,ff,ff] rfl rfl (any_of HT_.out (by kernel_rfl)) (fun _ _ _ h => h) (Or.inr ⟨by rfl,rfl⟩) ?_ ?_
     rotate_left
     ·simp only [Act.put,sA,sZ,sS,i64_w,i32_w]
      rfl
     refine pure_ (i:=19) (N:=some 30) (v:=undef) (a':=?_) #[tt,tt,tt,tt,tt,tt,tt,tt,tt,tt,tt,tt,tt,tt,tt,tt,tt,tt,tt,tt,ff,ff,ff,ff,ff,ff,ff] rfl rfl (any_of HT_.out (by kernel_rfl)) (fun _ _ _ h => h) (Or.inr ⟨by rfl,rfl⟩) ?_ ?_
     rotate_left
     ·simp only [Act.put,sA,sZ,sS,i64_w,i32_w]
      rfl
     refine pure_ (i:=20) (N:=some 31) (v:=undef) (a':=?_) #[tt,tt,tt,tt,tt,tt,tt,tt,tt,tt,tt,tt,tt,tt,tt,tt,tt,tt,tt,tt,tt,ff,ff,ff,ff,ff,ff] rfl rfl (any_of HT_.out (by kernel_rfl)) (fun _ _ _ h => h) (Or.inr ⟨by rfl,rfl⟩) ?_ ?_
     rotate_left
     ·simp only [Act.put,sA,sZ,sS,i64_w,i32_w]
      rfl
     refine pure_ (i:=21) (N:=some 32) (v:=undef) (a':=?_) #[tt,tt,tt,tt,tt,tt,tt,tt,tt,tt,tt,tt,tt,tt,tt,tt,tt,tt,tt,tt,tt,tt,ff,ff,ff,ff,ff] rfl rfl (any_of HT_.out (by kernel_rfl)) (fun _ _ _ h => h) (Or.inr ⟨by rfl,rfl⟩) ?_ ?_
     rotate_left
     ·simp only [Act.put,sA,sZ,sS,i64_w,i32_w]
      rfl
     refine pure_ (i:=22) (N:=some 33) (v:=undef) (a':=?_) #[tt,tt,tt,tt,tt,tt,tt,tt,tt,tt,tt,tt,tt,tt,tt,tt,tt,tt,tt,tt,tt,tt,tt,ff,ff,ff,ff] rfl rfl (any_of HT_.out (by kernel_rfl)) (fun _ _ _ h => h) (Or.inr ⟨by rfl,rfl⟩) ?_ ?_
     rotate_left
     ·simp only [Act.put,sA,sZ,sS,i64_w,i32_w]
      rfl
     refine pure_ (i:=23) (N:=some 34) (v:=undef) (a':=?_) #[tt,tt,tt,tt,tt,tt,tt,tt,tt,tt,tt,tt,tt,tt,tt,tt,tt,tt,tt,tt,tt,tt,tt,tt,ff,ff,ff] rfl rfl (any_of HT_.out (by kernel_rfl)) (fun _ _ _ h => h) (Or.inr ⟨by rfl,rfl⟩) ?_ ?_
     rotate_left
     ·simp only [Act.put,sA,sZ,sS,i64_w,i32_w]
      rfl
     refine pure_ (i:=24) (N:=some 35) (v:=undef) (a':=?_) #[tt,tt,tt,tt,tt,tt,tt,tt,tt,tt,tt,tt,tt,tt,tt,tt,tt,tt,tt,tt,tt,tt,tt,tt,tt,ff,ff] rfl rfl (any_of HT_.out (by kernel_rfl)) (fun _ _ _ h => h) (Or.inr ⟨by rfl,rfl⟩) ?_ ?_
     rotate_left
     ·simp only [Act.put,sA,sZ,sS,i64_w,i32_w]
      rfl
     refine pure_ (i:=25) (N:=some 36) (v:=?_) (a':=?_) #[tt,tt,tt,tt,tt,tt,tt,tt,tt,tt,tt,tt,tt,tt,tt,tt,tt,tt,tt,tt,tt,tt,tt,tt,tt,tt,ff] rfl rfl (any_of HT_.out (by kernel_rfl)) (fun _ _ _ h => h) (Or.inl ⟨by rfl,?_⟩) ?_ ?_
     rotate_left
     ·intro w'
      go_simp
      with_reducible rfl
     rotate_left
     ·simp only [Act.put,sA,sZ,sS,i64_w,i32_w]
      rfl
     refine pure_ (i:=26) (N:=some 37) (v:=?_) (a':=?_) #[tt,tt,tt,tt,tt,tt,tt,tt,tt,tt,tt,tt,tt,tt,tt,tt,tt,tt,tt,tt,tt,tt,tt,tt,tt,tt,tt] rfl rfl (any_of HT_.out (by kernel_rfl)) (fun _ _ _ h => h) (Or.inl ⟨by rfl,?_⟩) ?_ ?_
     rotate_left
     ·intro w'
      go_simp
      with_reducible rfl
     rotate_left
     ·simp only [Act.put,sA,sZ,sS,i64_w,i32_w]
      rfl
     refine done_ (done_of HT_.out (by kernel_rfl)) ?_
     try go_wp2
     go_roundg k1
     case measure => have:=HK1.out;omega
     case rel => exact ⟨(wrap64 (x3_1 + 1)),(by first|rfl|(simp;done)|(simp [*];done)),H',⟨by have:=HK1.out;omega⟩,⟨by (with_reducible repeat (first|apply bN|apply bD|apply bA));exact BK125.out⟩,⟨by repeat (first|(with_reducible first|exact HB.out|apply aA|apply aW|apply aD|refine below_set ?_ GE125.out)|exact HB.out)⟩⟩
   ·replace c6:=Bool.eq_false_iff.mpr c6
    subst c6
    have H1 : (some false) = some r:=by rw [if_neg (show ¬ (false = true) by decide)] at H;exact H
    clear H
    have H:=H1
    clear H1
    obtain rfl:=Option.some.inj H
    have hcz21_0 : wr.cell? ⟨gb125,0,none⟩ = some (.slice A0_0 l0_0.length c0_0):=(aC BK125.out 0).trans rfl
    have hcz21_1 : wr.cell? ⟨gb125,1,none⟩ = some (.int .u64 a0_1):=(aC BK125.out 1).trans rfl
    have hcz21_2 : wr.cell? ⟨gb125,2,none⟩ = some (.int .u64 a0_2):=(aC BK125.out 2).trans rfl
    have hcz21_3 : wr.cell? ⟨gb125,3,none⟩ = some (.int .u64 a0_3):=(aC BK125.out 3).trans rfl
    have hfz21_0:=aF BK125.out 0
    have hfz21_1:=aF BK125.out 1
    have hfz21_2:=aF BK125.out 2
    have hfz21_3:=aF BK125.out 3
    try go_wp2
    have n0_:=aK (blk_drew BK125.out)
    have n1_:=aK (aD HB.out)
    clear BK125
    clear HB
    have BK125:=n0_
    have HB:=n1_
    clear n0_ n1_
    have p126 : 0 ≤ (x3_1 : Int):=ad (by first|(with_reducible assumption)|assumption)
    have q126 : x3_1 < (l0_0.length : Int):=ad (by first|(with_reducible assumption)|assumption)
    obtain ⟨ad126,e126,hx126_0,hx126_1,hx126_2,hx126_3⟩:=at_T58 HR0_0.out x3_1 p126 q126
    have hw126_3:=hx126_3
    have hw126_2:=hx126_2
    have hw126_1:=hx126_1
    have hw126_0:=hx126_0
    cases e126
    replace hx126_0:=(HB.out.cell (World.block_lt_of_cell? w _ hx126_0)).trans hx126_0
    replace hx126_1:=(HB.out.cell (World.block_lt_of_cell? w _ hx126_1)).trans hx126_1
    replace hx126_2:=(HB.out.cell (World.block_lt_of_cell? w _ hx126_2)).trans hx126_2
    replace hx126_3:=(HB.out.cell (World.block_lt_of_cell? w _ hx126_3)).trans hx126_3
    replace p126:=eq_true p126
    replace q126:=eq_true q126
    refine start_ (n:=27) (S:=fun w' => w'.cell? ⟨gb125,0,none⟩ = some (.slice (some ad126) l0_0.length c0_0) ∧ w'.cell? ⟨gb125,1,none⟩ = some (.int .u64 a0_1) ∧ w'.cell? ⟨gb125,2,none⟩ = some (.int .u64 a0_2) ∧ w'.cell? ⟨gb125,3,none⟩ = some (.int .u64 a0_3) ∧ w'.cell? (ad126.add ((x3_1).toNat * 4)) = some (.int .u64 ((rd_T58 l0_0 x3_1).f0)) ∧ w'.cell? ⟨(ad126.add ((x3_1).toNat * 4)).block,(ad126.add ((x3_1).toNat * 4)).off + 1,none⟩ = some (.int .u64 ((rd_T58 l0_0 x3_1).f1)) ∧ w'.cell? ⟨(ad126.add ((x3_1).toNat * 4)).block,(ad126.add ((x3_1).toNat * 4)).off + 2,none⟩ = some (.string ((rd_T58 l0_0 x3_1).f2)) ∧ w'.cell? ⟨(ad126.add ((x3_1).toNat * 4)).block,(ad126.add ((x3_1).toNat * 4)).off + 3,none⟩ = some (.string ((rd_T58 l0_0 x3_1).f3))) (ds:=[]) #[ff,ff,ff,ff,ff,ff,ff,ff,ff,ff,ff,ff,ff,ff,ff,ff,ff,ff,ff,ff,ff,ff,ff,ff,ff,ff,ff] (by kernel_rfl) rfl rfl ⟨(aC BK125.out 0).trans rfl,(aC BK125.out 1).trans rfl,(aC BK125.out 2).trans rfl,(aC BK125.out 3).trans rfl,((HB.out.cell (World.block_lt_of_cell? w _ hw126_0)).trans hw126_0),((HB.out.cell (World.block_lt_of_cell? w _ hw126_1)).trans hw126_1),((HB.out.cell (World.block_lt_of_cell? w _ hw126_2)).trans hw126_2),((HB.out.cell (World.block_lt_of_cell? w _ hw126_3)).trans hw126_3)⟩ (fun hHeld => ?_);refine with_tabW ratlineref09_Right.tab4 ratlineref09_Right.bits4 (fun HT_ HW_ => ?_)
    generalize wr.drew = w22 at BK125 HB hx126_0 hx126_1 hx126_2 hx126_3 hHeld ⊢
    refine pure_ (i:=0) (N:=some 11) (v:=?_) (a':=?_) #[tt,ff,ff,ff,ff,ff,ff,ff,ff,ff,ff,ff,ff,ff,ff,ff,ff,ff,ff,ff,ff,ff,ff,ff,ff,ff,ff] rfl rfl (any_of HT_.out (by kernel_rfl)) (fun _ _ _ h => h) (Or.inl ⟨by rfl,?_⟩) ?_ ?_
    rotate_left
    ·intro w'
     go_simp
     with_reducible rfl
    rotate_left
    ·simp only [Act.put,sA,sZ,sS,i64_w,i32_w]
     rfl
    refine pure_ (i:=2) (N:=some 13) (v:=?_) (a':=?_) #[tt,ff,tt,ff,ff,ff,ff,ff,ff,ff,ff,ff,ff,ff,ff,ff,ff,ff,ff,ff,ff,ff,ff,ff,ff,ff,ff] rfl rfl (any_of HT_.out (by kernel_rfl)) (fun _ _ _ h => h) (Or.inl ⟨by rfl,?_⟩) ?_ ?_
    rotate_left
    ·intro w'
     go_simp
     with_reducible rfl
    rotate_left
    ·simp only [Act.put,sA,sZ,sS,i64_w,i32_w]
     rfl
    refine take_ (i:=1) (N:=some 12) (v:=?_) (a':=?_) #[tt,tt,tt,ff,ff,ff,ff,ff,ff,ff,ff,ff,ff,ff,ff,ff,ff,ff,ff,ff,ff,ff,ff,ff,ff,ff,ff] rfl rfl (take_ofW HT_.out HW_.out (by kernel_rfl)) (fun _ _ _ h => h) (Or.inl ⟨by rfl,?_⟩) hHeld ?_ ?_
    rotate_left
    ·rintro w' ⟨s0,s1,s2,s3,s4,s5,s6,s7⟩
     go_simp
     with_reducible rfl
    rotate_left
    ·simp only [Act.put,sA,sZ,sS,i64_w,i32_w]
     rfl
    refine pure_ (i:=3) (N:=some 14) (v:=?_) (a':=?_) #[tt,tt,tt,tt,ff,ff,ff,ff,ff,ff,ff,ff,ff,ff,ff,ff,ff,ff,ff,ff,ff,ff,ff,ff,ff,ff,ff] rfl rfl (any_of HT_.out (by kernel_rfl)) (fun _ _ _ h => h) (Or.inl ⟨by rfl,?_⟩) ?_ ?_
    rotate_left
    ·intro w'
     go_simp
     with_reducible rfl
    rotate_left
    ·simp only [Act.put,sA,sZ,sS,i64_w,i32_w]
     rfl
    refine take_ (i:=4) (N:=some 15) (v:=?_) (a':=?_) #[tt,tt,tt,tt,tt,ff,ff,ff,ff,ff,ff,ff,ff,ff,ff,ff,ff,ff,ff,ff,ff,ff,ff,ff,ff,ff,ff] rfl rfl (take_ofW HT_.out HW_.out (by kernel_rfl)) (fun _ _ _ h => h) (Or.inl ⟨by rfl,?_⟩) hHeld ?_ ?_
    rotate_left
    ·rintro w' ⟨s0,s1,s2,s3,s4,s5,s6,s7⟩
     go_simp
     with_reducible rfl
    rotate_left
    ·simp only [Act.put,sA,sZ,sS,i64_w,i32_w]
     rfl
    refine one_ (i:=5) (N:=some 16) #[tt,tt,tt,tt,tt,tt,ff,ff,ff,ff,ff,ff,ff,ff,ff,ff,ff,ff,ff,ff,ff,ff,ff,ff,ff,ff,ff] rfl rfl (one_of HT_.out (by kernel_rfl)) (by decide) (fun K hK => ?_)
    refine goes_ Try.func42 (by kernel_rfl) rfl #[.agg #[.int .u64 ((rd_T58 l0_0 x3_1).f0),.int .u64 ((rd_T58 l0_0 x3_1).f1),.string ((rd_T58 l0_0 x3_1).f2),.string ((rd_T58 l0_0 x3_1).f3)]] (by rfl) rfl rfl (by (try simp only [List.map_toArray,List.map_cons,List.map_nil]);first|done|rfl|(simp only [List.length_drop,List.length_take];rfl)) ?_
    with_reducible refine (ratlineref09_note.calls ((rd_T58 l0_0 x3_1).f0) ((rd_T58 l0_0 x3_1).f1) ((rd_T58 l0_0 x3_1).f2) ((rd_T58 l0_0 x3_1).f3) false _ A5.out).mono ?_
    rintro e w23 ⟨rfl,hb⟩
    refine ⟨_,rfl,?_⟩
    have n0_:=aK (blk_below (g:=gb125) (o:=.cells #[.slice (some ad126) l0_0.length c0_0,.int .u64 a0_1,.int .u64 a0_2,.int .u64 a0_3] 25 (0,0)) (by (with_reducible repeat (first|apply bN|apply bD|apply bA));exact BK125.out) hb)
    have n1_:=aK (below_step (by repeat (first|(with_reducible first|exact HB.out|apply aA|apply aW|apply aD|refine below_set ?_ GE125.out)|exact HB.out)) hb)
    clear BK125
    clear HB
    have BK125:=n0_
    have HB:=n1_
    clear n0_ n1_
    (try clear hb)
    (try clear hb2)
    (try clear hk)
    (try clear hi)
    refine hK.out _ _ ⟨(aC BK125.out 0).trans rfl,(aC BK125.out 1).trans rfl,(aC BK125.out 2).trans rfl,(aC BK125.out 3).trans rfl,((HB.out.cell (World.block_lt_of_cell? w _ hw126_0)).trans hw126_0),((HB.out.cell (World.block_lt_of_cell? w _ hw126_1)).trans hw126_1),((HB.out.cell (World.block_lt_of_cell? w _ hw126_2)).trans hw126_2),((HB.out.cell (World.block_lt_of_cell? w _ hw126_3)).trans hw126_3)⟩ (fun hHeld => ?_)
    clear hK K
    refine norm_ (a':=?_) ?_ ?_
    rotate_left
    ·show Act.put _ (some 16) _ = _
     simp only [Act.put,sA,sZ,sS,i64_w,i32_w]
     rfl
    refine pure_ (i:=6) (N:=some 17) (v:=?_) (a':=?_) #[tt,tt,tt,tt,tt,tt,tt,ff,ff,ff,ff,ff,ff,ff,ff,ff,ff,ff,ff,ff,ff,ff,ff,ff,ff,ff,ff] rfl rfl (any_of HT_.out (by kernel_rfl)) (fun _ _ _ h => h) (Or.inl ⟨by rfl,?_⟩) ?_ ?_
    rotate_left
    ·intro w'
     go_simp
     with_reducible rfl
    rotate_left
    ·simp only [Act.put,sA,sZ,sS,i64_w,i32_w]
     rfl
    refine pure_ (i:=7) (N:=some 18) (v:=?_) (a':=?_) #[tt,tt,tt,tt,tt,tt,tt,tt,ff,ff,ff,ff,ff,ff,ff,ff,ff,ff,ff,ff,ff,ff,ff,ff,ff,ff,ff] rfl rfl (any_of HT_.out (by kernel_rfl)) (fun _ _ _ h => h) (Or.inl ⟨by rfl,?_⟩) ?_ ?_
    rotate_left
    ·intro w'
     go_simp
     with_reducible rfl
    rotate_left
    ·simp only [Act.put,sA,sZ,sS,i64_w,i32_w]
     rfl
    refine pure_ (i:=8) (N:=some 19) (v:=undef) (a':=?_) #[tt,tt,tt,tt,tt,tt,tt,tt,tt,ff,ff,ff,ff,ff,ff,ff,ff,ff,ff,ff,ff,ff,ff,ff,ff,ff,ff] rfl rfl (any_of HT_.out (by kernel_rfl)) (fun _ _ _ h => h) (Or.inr ⟨by rfl,rfl⟩) ?_ ?_
    rotate_left
    ·simp only [Act.put,sA,sZ,sS,i64_w,i32_w]
     rfl
    refine pure_ (i:=9) (N:=some 20) (v:=undef) (a':=?_) #[tt,tt,tt,tt,tt,tt,tt,tt,tt,tt,ff,ff,ff,ff,ff,ff,ff,ff,ff,ff,ff,ff,ff,ff,ff,ff,ff] rfl rfl (any_of HT_.out (by kernel_rfl)) (fun _ _ _ h => h) (Or.inr ⟨by rfl,rfl⟩) ?_ ?_
    rotate_left
    ·simp only [Act.put,sA,sZ,sS,i64_w,i32_w]
     rfl
    refine pure_ (i:=10) (N:=some 21) (v:=undef) (a':=?_) #[tt,tt,tt,tt,tt,tt,tt,tt,tt,tt,tt,ff,ff,ff,ff,ff,ff,ff,ff,ff,ff,ff,ff,ff,ff,ff,ff] rfl rfl (any_of HT_.out (by kernel_rfl)) (fun _ _ _ h => h) (Or.inr ⟨by rfl,rfl⟩) ?_ ?_
    rotate_left
    ·simp only [Act.put,sA,sZ,sS,i64_w,i32_w]
     rfl
    refine pure_ (i:=11) (N:=some 22) (v:=undef) (a':=?_) #[tt,tt,tt,tt,tt,tt,tt,tt,tt,tt,tt,tt,ff,ff,ff,ff,ff,ff,ff,ff,ff,ff,ff,ff,ff,ff,ff] rfl rfl (any_of HT_.out (by kernel_rfl)) (fun _ _ _ h => h) (Or.inr ⟨by rfl,rfl⟩) ?_ ?_
    rotate_left
    ·simp only [Act.put,sA,sZ,sS,i64_w,i32_w]
     rfl
    refine pure_ (i:=12) (N:=some 23) (v:=undef) (a':=?_) #[tt,tt,tt,tt,tt,tt,tt,tt,tt,tt,tt,tt,tt,ff,ff,ff,ff,ff,ff,ff,ff,ff,ff,ff,ff,ff,ff] rfl rfl (any_of HT_.out (by kernel_rfl)) (fun _ _ _ h => h) (Or.inr ⟨by rfl,rfl⟩) ?_ ?_
    rotate_left
    ·simp only [Act.put,sA,sZ,sS,i64_w,i32_w]
     rfl
    refine pure_ (i:=13) (N:=some 24) (v:=undef) (a':=?_) #[tt,tt,tt,tt,tt,tt,tt,tt,tt,tt,tt,tt,tt,tt,ff,ff,ff,ff,ff,ff,ff,ff,ff,ff,ff,ff,ff] rfl rfl (any_of HT_.out (by kernel_rfl)) (fun _ _ _ h => h) (Or.inr ⟨by rfl,rfl⟩) ?_ ?_
    rotate_left
    ·simp only [Act.put,sA,sZ,sS,i64_w,i32_w]
     rfl
    refine pure_ (i:=14) (N:=some 25) (v:=undef) (a':=?_) #[tt,tt,tt,tt,tt,tt,tt,tt,tt,tt,tt,tt,tt,tt,tt,ff,ff,ff,ff,ff,ff,ff,ff,ff,ff,ff,ff] rfl rfl (any_of HT_.out (by kernel_rfl)) (fun _ _ _ h => h) (Or.inr ⟨by rfl,rfl⟩) ?_ ?_
    rotate_left
    ·simp only [Act.put,sA,sZ,sS,i64_w,i32_w]
     rfl
    refine pure_ (i:=15) (N:=some 26) (v:=undef) (a':=?_) #[tt,tt,tt,tt,tt,tt,tt,tt,tt,tt,tt,tt,tt,tt,tt,tt,ff,ff,ff,ff,ff,ff,ff,ff,ff,ff,ff] rfl rfl (any_of HT_.out (by kernel_rfl)) (fun _ _ _ h => h) (Or.inr ⟨by rfl,rfl⟩) ?_ ?_
    rotate_left
    ·simp only [Act.put,sA,sZ,sS,i64_w,i32_w]
     rfl
    refine pure_ (i:=16) (N:=some 27) (v:=undef) (a':=?_) #[tt,tt,tt,tt,tt,tt,tt,tt,tt,tt,tt,tt,tt,tt,tt,tt,tt,ff,ff,ff,ff,ff,ff,ff,ff,ff,ff] rfl rfl (any_of HT_.out (by kernel_rfl)) (fun _ _ _ h => h) (Or.inr ⟨by rfl,rfl⟩) ?_ ?_
    rotate_left
    ·simp only [Act.put,sA,sZ,sS,i64_w,i32_w]
     rfl
    refine pure_ (i:=17) (N:=some 28) (v:=undef) (a':=?_) #[tt,tt,tt,tt,tt,tt,tt,tt,tt,tt,tt,tt,tt,tt,tt,tt,tt,tt,ff,ff,ff,ff,ff,ff,ff,ff,ff] rfl rfl (any_of HT_.out (by kernel_rfl)) (fun _ _ _ h => h) (Or.inr ⟨by rfl,rfl⟩) ?_ ?_
    rotate_left
    ·simp only [Act.put,sA,sZ,sS,i64_w,i32_w]
     rfl
    refine pure_ (i:=18) (N:=some 29) (v:=undef) (a':=?_) #[tt,tt,tt,tt,tt,tt,tt,tt,tt,tt,tt,tt,tt,tt,tt,tt,tt,tt,tt,ff,ff,ff,ff,ff,ff,ff,ff] rfl rfl (any_of HT_.out (by kernel_rfl)) (fun _ _ _ h => h) (Or.inr ⟨by rfl,rfl⟩) ?_ ?_
    rotate_left
    ·simp only [Act.put,sA,sZ,sS,i64_w,i32_w]
     rfl
    refine pure_ (i:=19) (N:=some 30) (v:=undef) (a':=?_) #[tt,tt,tt,tt,tt,tt,tt,tt,tt,tt,tt,tt,tt,tt,tt,tt,tt,tt,tt,tt,ff,ff,ff,ff,ff,ff,ff] rfl rfl (any_of HT_.out (by kernel_rfl)) (fun _ _ _ h => h) (Or.inr ⟨by rfl,rfl⟩) ?_ ?_
    rotate_left
    ·simp only [Act.put,sA,sZ,sS,i64_w,i32_w]
     rfl
    refine pure_ (i:=20) (N:=some 31) (v:=undef) (a':=?_) #[tt,tt,tt,tt,tt,tt,tt,tt,tt,tt,tt,tt,tt,tt,tt,tt,tt,tt,tt,tt,tt,ff,ff,ff,ff,ff,ff] rfl rfl (any_of HT_.out (by kernel_rfl)) (fun _ _ _ h => h) (Or.inr ⟨by rfl,rfl⟩) ?_ ?_
    rotate_left
    ·simp only [Act.put,sA,sZ,sS,i64_w,i32_w]
     rfl
    refine pure_ (i:=21) (N:=some 32) (v:=undef) (a':=?_) #[tt,tt,tt,tt,tt,tt,tt,tt,tt,tt,tt,tt,tt,tt,tt,tt,tt,tt,tt,tt,tt,tt,ff,ff,ff,ff,ff] rfl rfl (any_of HT_.out (by kernel_rfl)) (fun _ _ _ h => h) (Or.inr ⟨by rfl,rfl⟩) ?_ ?_
    rotate_left
    ·simp only [Act.put,sA,sZ,sS,i64_w,i32_w]
     rfl
    refine pure_ (i:=22) (N:=some 33) (v:=undef) (a':=?_) #[tt,tt,tt,tt,tt,tt,tt,tt,tt,tt,tt,tt,tt,tt,tt,tt,tt,tt,tt,tt,tt,tt,tt,ff,ff,ff,ff] rfl rfl (any_of HT_.out (by kernel_rfl)) (fun _ _ _ h => h) (Or.inr ⟨by rfl,rfl⟩) ?_ ?_
    rotate_left
    ·simp only [Act.put,sA,sZ,sS,i64_w,i32_w]
     rfl
    refine pure_ (i:=23) (N:=some 34) (v:=undef) (a':=?_) #[tt,tt,tt,tt,tt,tt,tt,tt,tt,tt,tt,tt,tt,tt,tt,tt,tt,tt,tt,tt,tt,tt,tt,tt,ff,ff,ff] rfl rfl (any_of HT_.out (by kernel_rfl)) (fun _ _ _ h => h) (Or.inr ⟨by rfl,rfl⟩) ?_ ?_
    rotate_left
    ·simp only [Act.put,sA,sZ,sS,i64_w,i32_w]
     rfl
    refine pure_ (i:=24) (N:=some 35) (v:=undef) (a':=?_) #[tt,tt,tt,tt,tt,tt,tt,tt,tt,tt,tt,tt,tt,tt,tt,tt,tt,tt,tt,tt,tt,tt,tt,tt,tt,ff,ff] rfl rfl (any_of HT_.out (by kernel_rfl)) (fun _ _ _ h => h) (Or.inr ⟨by rfl,rfl⟩) ?_ ?_
    rotate_left
    ·simp only [Act.put,sA,sZ,sS,i64_w,i32_w]
     rfl
    refine pure_ (i:=25) (N:=some 36) (v:=undef) (a':=?_) #[tt,tt,tt,tt,tt,tt,tt,tt,tt,tt,tt,tt,tt,tt,tt,tt,tt,tt,tt,tt,tt,tt,tt,tt,tt,tt,ff] rfl rfl (any_of HT_.out (by kernel_rfl)) (fun _ _ _ h => h) (Or.inr ⟨by rfl,rfl⟩) ?_ ?_
    rotate_left
    ·simp only [Act.put,sA,sZ,sS,i64_w,i32_w]
     rfl
    refine pure_ (i:=26) (N:=some 37) (v:=?_) (a':=?_) #[tt,tt,tt,tt,tt,tt,tt,tt,tt,tt,tt,tt,tt,tt,tt,tt,tt,tt,tt,tt,tt,tt,tt,tt,tt,tt,tt] rfl rfl (any_of HT_.out (by kernel_rfl)) (fun _ _ _ h => h) (Or.inl ⟨by rfl,?_⟩) ?_ ?_
    rotate_left
    ·intro w'
     go_simp
     with_reducible rfl
    rotate_left
    ·simp only [Act.put,sA,sZ,sS,i64_w,i32_w]
     rfl
    refine done_ (done_of HT_.out (by kernel_rfl)) ?_
    try go_wp2
    go_ret
    exact ⟨by first|rfl|(simp [errW_none,errW_some] <;> rfl)|(simp [*,errW_none,errW_some] <;> rfl),by repeat (first|(with_reducible first|exact HB.out|apply aA|apply aW|apply aD|refine below_set ?_ GE125.out)|exact HB.out)⟩
end Go.Proofs.Ytcagajobpnpicaa.P

end

section
namespace Go.Proofs.Ytcagajobpnpicaa.P
open Go.RowKit Go.Proofs.YtcagajobpnpicaaG Go.Proofs.YtcagajobpnpicaaW.PrintWords Go.Proofs.YtcagajobpnpicaaW.PrintLast Go.Proofs.YtcagajobpnpicaaW.PrintMore
attribute [local go_sem] str_gtr str_geq str_leq max2_int min2_int max_two min_two max_three min_three max_four min_four   -- for this text's walks alone
set_option linter.unusedVariables false
set_option linter.unusedSimpArgs false

-- GIVEN: function 13 (edit_Parse)

def ratlineref02_same.f (l0 : List Int) (l1 : List Int) : Option (Bool):=if (l0.length : Int) ≥ (l1.length : Int) then (if 0 ≤ (l1.length : Int) then (if (l1.length : Int) ≤ (l0.length : Int) then (some ((strOfNums (l0.take ((l1.length : Int) : Int).toNat)).toList == (strOfNums l1).toList)) else (none)) else (none)) else (some false)
set_option maxHeartbeats 8000000 in
set_option maxRecDepth 100000 in
theorem ratlineref02_same.calls (A0 : Option Addr) (c0 : Nat) (l0 : List Int) (A1 : Option Addr) (c1 : Nat) (l1 : List Int) (r : Bool) (w : World) (hr0 : Kd.C (Kd.int .u8) w A0 l0.length l0) (hc0 : l0.length ≤ c0) (hr1 : Kd.C (Kd.int .u8) w A1 l1.length l1) (hc1 : l1.length ≤ c1) (h : ratlineref02_same.f l0 l1 = some r) :
  Calls Try.prog 73 #[.slice A0 l0.length c0,.slice A1 l1.length c1] w fun e w' => e = .returned (.bool r) ∧ Drawn0 w w':=by
 have HR0:=Aside0.mk hr0
 have HC0:=Aside0.mk hc0
 clear hr0 hc0
 have HR1:=Aside0.mk hr1
 have HC1:=Aside0.mk hc1
 clear hr1 hc1
 have H : (if (l0.length : Int) ≥ (l1.length : Int) then (if 0 ≤ (l1.length : Int) then (if (l1.length : Int) ≤ (l0.length : Int) then (some ((strOfNums (l0.take ((l1.length : Int) : Int).toNat)).toList == (strOfNums l1).toList)) else (none)) else (none)) else (some false)) = some r:=h
 clear h
 by_cases c3 : (l0.length : Int) ≥ (l1.length : Int)
 ·rw [if_pos c3] at H
  have c3b0 : decide ((l1.length : Int) ≤ (l0.length : Int)) = true:=decide_eq_true c3
  have c3b1 : decide (l1.length ≤ l0.length) = true:=decide_eq_true (Int.ofNat_le.mp c3)
  clear c3
  by_cases c4 : 0 ≤ (l1.length : Int)
  rotate_left
  ·rw [if_neg c4] at H
   exact absurd H (by simp)
  rw [if_pos c4] at H
  have c4b0:=eq_true c4
  have c4b1 : decide (0 ≤ (l1.length : Int)) = true:=decide_eq_true c4
  clear c4
  by_cases c5 : (l1.length : Int) ≤ (l0.length : Int)
  rotate_left
  ·rw [if_neg c5] at H
   exact absurd H (by simp)
  rw [if_pos c5] at H
  have c5b0:=eq_true c5
  have c5b1 : decide ((l1.length : Int) ≤ (l0.length : Int)) = true:=decide_eq_true c5
  clear c5
  obtain rfl:=Option.some.inj H
  obtain ⟨i06,hi06,_,hsz6,_⟩:=info_parts info5
  obtain ⟨hcut6,hA6,hC6⟩:=print_take_of (P:=Try.prog) (Value.int .u8) 0 26 5 .i64 Try.underlying26 hi06 hsz6 A0 c0 l0 (l1.length : Int) (of_decide_eq_true (by first|(with_reducible assumption)|assumption)) (of_decide_eq_true (by first|(with_reducible assumption)|assumption)) HC0.out
  have HR161:=Aside0.mk (Kd.C_of_reads (h1:=fun _ => rfl) (hA6 _ (Kd.reads_of_C HR0.out)))
  have HC161:=Aside0.mk hC6
  clear hA6 hC6 hi06 hsz6
  have hcv7:=Kd.C_string (P:=Try.prog) (A:=A0) (c:=c0) Try.underlying26 Try.underlying5 Try.underlying9 HR161.out
  have hcvd_:=fun n_ => Kd.C_string (P:=Try.prog) (A:=A0) (c:=c0) Try.underlying26 Try.underlying5 Try.underlying9 (Kd.C_below (HR161.out) (pw_below_drewN (Below.refl _ _) n_))
  (try simp only [List.length_take,Int.toNat_natCast] at hcvd_)
  have hcv8:=Kd.C_string (P:=Try.prog) (A:=A1) (c:=c1) Try.underlying26 Try.underlying5 Try.underlying9 HR1.out
  have hcvd_:=fun n_ => Kd.C_string (P:=Try.prog) (A:=A1) (c:=c1) Try.underlying26 Try.underlying5 Try.underlying9 (Kd.C_below (HR1.out) (pw_below_drewN (Below.refl _ _) n_))
  (try simp only [List.length_take,Int.toNat_natCast] at hcvd_)
  go_enter Try.func73,Try.ntmps73
  go_wp2
  repeat (go_quiet (fail);try go_wp2)
  go_ret
  exact ⟨by first|rfl|(simp;done)|(simp [*];done),by repeat (first|exact Drawn0.refl _|apply Drawn0.step)⟩
 ·rw [if_neg c3] at H
  have c3b0 : decide ((l1.length : Int) ≤ (l0.length : Int)) = false:=decide_eq_false c3
  have c3b1 : decide (l1.length ≤ l0.length) = false:=decide_eq_false (fun h => c3 (Int.ofNat_le.mpr h))
  clear c3
  obtain rfl:=Option.some.inj H
  go_enter Try.func73,Try.ntmps73
  go_wp2
  repeat (go_quiet (fail);try go_wp2)
  go_ret
  exact ⟨by first|rfl|(simp;done)|(simp [*];done),by repeat (first|exact Drawn0.refl _|apply Drawn0.step)⟩

def ratlineref02_rest.f (l0 : List Int) (a1 : Int) : Option (List Int):=if 0 ≤ a1 then (if a1 ≤ (l0.length : Int) then (if ([] : List Int).length + (l0.drop (a1 : Int).toNat).length < 140737488355328 then (some (([] : List Int) ++ (l0.drop (a1 : Int).toNat))) else (none)) else (none)) else (none)
set_option maxHeartbeats 8000000 in
set_option maxRecDepth 100000 in
theorem ratlineref02_rest.calls (A0 : Option Addr) (c0 : Nat) (l0 : List Int) (a1 : Int) (r : List Int) (w : World) (hr0 : Kd.C (Kd.int .u8) w A0 l0.length l0) (hc0 : l0.length ≤ c0) (h : ratlineref02_rest.f l0 a1 = some r) :
  Calls Try.prog 74 #[.slice A0 l0.length c0,.int .i64 a1] w fun e w' => ∃ v0_ : Value,e = .returned (v0_) ∧ Kd.R (Kd.int .u8) 5 w' w.heap.size (fun _ => True) v0_ r ∧ Below w.heap.size w w':=by
 have HR0:=Aside0.mk hr0
 have HC0:=Aside0.mk hc0
 clear hr0 hc0
 have HB:=Aside0.mk (Below.refl w.heap.size w)
 have H : (if 0 ≤ a1 then (if a1 ≤ (l0.length : Int) then (if ([] : List Int).length + (l0.drop (a1 : Int).toNat).length < 140737488355328 then (some (([] : List Int) ++ (l0.drop (a1 : Int).toNat))) else (none)) else (none)) else (none)) = some r:=h
 clear h
 by_cases c3 : 0 ≤ a1
 rotate_left
 ·rw [if_neg c3] at H
  exact absurd H (by simp)

 rw [if_pos c3] at H
 have c3b0:=eq_true c3
 have c3b1 : decide (0 ≤ a1) = true:=decide_eq_true c3
 clear c3
 by_cases c4 : a1 ≤ (l0.length : Int)
 rotate_left
 ·rw [if_neg c4] at H
  exact absurd H (by simp)
 rw [if_pos c4] at H
 have c4b0:=eq_true c4
 have c4b1 : decide (a1 ≤ (l0.length : Int)) = true:=decide_eq_true c4
 clear c4
 by_cases c5 : ([] : List Int).length + (l0.drop (a1 : Int).toNat).length < 140737488355328
 rotate_left
 ·rw [if_neg c5] at H
  exact absurd H (by simp)
 rw [if_pos c5] at H
 have LMc5:=Aside0.mk c5
 clear c5
 obtain ⟨y163,hy163⟩ : ∃ y_ : List Int,y_ = (([] : List Int) ++ (l0.drop (a1 : Int).toNat)):=⟨_,rfl⟩
 replace H : (some y163) = some r:=by first|(rw [hy163];with_reducible exact H)|(have H2_:=(Option.bind_some _ _).symm.trans H;rw [hy163];with_reducible exact H2_)|(have H2_:=(Option.bind_some _ _).symm.trans H;with_reducible exact H2_)|with_reducible exact H|(rw [hy163];exact H)|exact H
 have Ny163:=Aside0.mk hy163
 clear hy163
 obtain rfl:=Option.some.inj H
 obtain ⟨i06,hi06,_,hsz6,_⟩:=info_parts info5
 obtain ⟨A6,hcut6,hA6,hC6⟩:=print_drop_of (P:=Try.prog) (Value.int .u8) 0 26 5 .i64 Try.underlying26 hi06 hsz6 A0 c0 l0 a1 (of_decide_eq_true (by first|(with_reducible assumption)|assumption)) (of_decide_eq_true (by first|(with_reducible assumption)|assumption)) HC0.out
 have HR162:=Aside0.mk (Kd.C_of_reads (h1:=fun _ => rfl) (hA6 _ (Kd.reads_of_C HR0.out)))
 have HC162:=Aside0.mk hC6
 clear hA6 hC6 hi06 hsz6
 go_enter Try.func74,Try.ntmps74
 go_wp2_with (first|((with_reducible refine gate_builtin (b:=.append) (xs:=#[.tmp 6,.tmp 9]) rfl ?_);at_builtin;refine Kd.R_append_rows (Kd.int .u8) (w0:=w) w.heap.size rfl (.tmp 6) (.tmp 9) 26 5 (.int .u8 0) 1 rfl Try.underlying26 info5 rfl (by decide) (by omega) (.slice none 0 0) ([] : List Int) (l0.drop (a1 : Int).toNat) _ _ _ (fun _ => True) (fun _ => False) rfl rfl ?aO ?aR (fun _ _ h => h) (fun _ h => h.elim) ?aF ?aB ?aS ?aL ?_;(case aR => first|(rw [← show (l0.drop (a1 : Int).toNat).length = (l0.length - a1.toNat) from List.length_drop];repeat (first|exact HR162.out|(with_reducible refine Kd.C_alloc ?_ _)|(with_reducible refine Kd.C_drewN ?_ _)|(with_reducible refine Kd.C_drew ?_)))|(repeat (first|exact HR162.out|(with_reducible refine Kd.C_alloc ?_ _)|(with_reducible refine Kd.C_drewN ?_ _)|(with_reducible refine Kd.C_drew ?_))));(case aB => exact (by repeat (first|(with_reducible first|exact HB.out|apply below_alloc|apply pw_below_drewN|apply below_drew1)|exact HB.out)));(case aF => exact (fun _ _ => trivial));(case aO => exact ((Kd.R_nil _ _ _ _ (fun _ => True))));(case aS => exact (below_size (by repeat (first|(with_reducible first|exact HB.out|apply below_alloc|apply pw_below_drewN|apply below_drew1)|exact HB.out))));(case aL => have:=LMc5.out;have hlx_:=(show (l0.drop (a1 : Int).toNat).length = (l0.length - a1.toNat) from List.length_drop);omega);intro v164 w7 ho hb hg hat;rw [← Ny163.out] at ho;have n0_:=Aside0.mk (hb);have n1_:=Aside0.mk (ho);clear HB;have HB:=n0_;have HO165:=n1_;clear n0_ n1_;clear ho hb hg hat))
 go_ret
 exact ⟨_,by first|rfl|(simp [errW_none,errW_some] <;> rfl)|(simp [*,errW_none,errW_some] <;> rfl),by (with_reducible repeat (first|apply zA|apply zN|apply zD));exact HO165.out,by repeat (first|(with_reducible first|exact HB.out|apply below_alloc|apply pw_below_drewN|apply below_drew1)|exact HB.out)⟩
end Go.Proofs.Ytcagajobpnpicaa.P

end

section
namespace Go.Proofs.Ytcagajobpnpicaa.P
open Go.RowKit Go.Proofs.YtcagajobpnpicaaG Go.Proofs.YtcagajobpnpicaaW.PrintWords Go.Proofs.YtcagajobpnpicaaW.PrintLast Go.Proofs.YtcagajobpnpicaaW.PrintMore
attribute [local go_sem] str_gtr str_geq str_leq max2_int min2_int max_two min_two max_three min_three max_four min_four   -- for this text's walks alone
set_option linter.unusedVariables false
set_option linter.unusedSimpArgs false

def ratlineref02_Put.l0 : Nat → Int → List Int → Option (List Int)
 | 0,_,_ => none
 | k + 1,x1,x5 => if x1 ≥ 128 then (if x5.length < 140737488355328 then (ratlineref02_Put.l0 k (IntKind.u64.wrap (Int.tdiv x1 128)) (x5 ++ [((Int.tmod x1 128) + 128) % 256])) else (none)) else (if x5.length < 140737488355328 then (some (x5 ++ [(x1) % 256])) else (none))
def ratlineref02_Put.f (k : Nat) (l0 : List Int) (a1 : Int) : Option (List Int):=if ([] : List Int).length + l0.length < 140737488355328 then (ratlineref02_Put.l0 k a1 (([] : List Int) ++ l0)) else (none)
set_option maxHeartbeats 8000000 in
set_option maxRecDepth 100000 in
theorem ratlineref02_Put.calls (k : Nat) (A0 : Option Addr) (c0 : Nat) (l0 : List Int) (a1 : Int) (r : List Int) (w : World) (hr0 : Kd.C (Kd.int .u8) w A0 l0.length l0) (hc0 : l0.length ≤ c0) (h : ratlineref02_Put.f k l0 a1 = some r) :
  Calls Try.prog 33 #[.slice A0 l0.length c0,.int .u64 a1] w fun e w' => ∃ v0_ : Value,e = .returned (v0_) ∧ Kd.R (Kd.int .u8) 5 w' w.heap.size (fun _ => True) v0_ r ∧ Below w.heap.size w w':=by
 have HR0:=Aside0.mk hr0
 have HC0:=Aside0.mk hc0
 clear hr0 hc0
 have HB:=Aside0.mk (Below.refl w.heap.size w)
 have H : (if ([] : List Int).length + l0.length < 140737488355328 then (ratlineref02_Put.l0 k a1 (([] : List Int) ++ l0)) else (none)) = some r:=h
 clear h
 by_cases c3 : ([] : List Int).length + l0.length < 140737488355328
 rotate_left
 ·rw [if_neg c3] at H
  exact absurd H (by simp)

 rw [if_pos c3] at H
 have LMc3:=Aside0.mk c3
 clear c3
 obtain ⟨y130,hy130⟩ : ∃ y_ : List Int,y_ = (([] : List Int) ++ l0):=⟨_,rfl⟩
 replace H : (ratlineref02_Put.l0 k a1 y130) = some r:=by first|(rw [hy130];with_reducible exact H)|(have H2_:=(Option.bind_some _ _).symm.trans H;rw [hy130];with_reducible exact H2_)|(have H2_:=(Option.bind_some _ _).symm.trans H;with_reducible exact H2_)|with_reducible exact H|(rw [hy130];exact H)|exact H
 have Ny130:=Aside0.mk hy130
 clear hy130
 have H':=Aside0.mk H
 clear H
 go_enter Try.func33,Try.ntmps33
 go_wp2_with (first|((with_reducible refine gate_builtin (b:=.append) (xs:=#[.tmp 6,.tmp 7]) rfl ?_);at_builtin;refine Kd.R_append_rows (Kd.int .u8) (w0:=w) w.heap.size rfl (.tmp 6) (.tmp 7) 26 5 (.int .u8 0) 1 rfl Try.underlying26 info5 rfl (by decide) (by omega) (.slice none 0 0) ([] : List Int) l0 _ _ _ (fun _ => True) (fun _ => False) rfl rfl ?aO ?aR (fun _ _ h => h) (fun _ h => h.elim) ?aF ?aB ?aS ?aL ?_;(case aR => repeat (first|exact HR0.out|(with_reducible refine Kd.C_alloc ?_ _)|(with_reducible refine Kd.C_drewN ?_ _)|(with_reducible refine Kd.C_drew ?_)));(case aB => exact (by repeat (first|(with_reducible first|exact HB.out|apply below_alloc|apply pw_below_drewN|apply below_drew1)|exact HB.out)));(case aF => exact (fun _ _ => trivial));(case aO => exact ((Kd.R_nil _ _ _ _ (fun _ => True))));(case aS => exact (below_size (by repeat (first|(with_reducible first|exact HB.out|apply below_alloc|apply pw_below_drewN|apply below_drew1)|exact HB.out))));(case aL => have:=LMc3.out;omega);intro v131 w4 ho hb hg hat;rw [← Ny130.out] at ho;have n0_:=Aside0.mk (hb);have n1_:=Aside0.mk (ho);clear HB;have HB:=n0_;have HO132:=n1_;clear n0_ n1_;clear ho hb hg hat))
 go_loopg [1,5] k (fun kq v1 v5 w' => ∃ (x1_1 : Int) (x5_1 : List Int),v1 = .int .u64 x1_1 ∧ Aside0 (ratlineref02_Put.l0 kq x1_1 x5_1 = some r) ∧ Aside0 (kq ≤ k) ∧ Aside0 (Kd.R (Kd.int .u8) 5 w' w.heap.size (fun _ => True) v5 x5_1) ∧ Aside0 (Below w.heap.size w w'))
 case atStart => exact ⟨(a1),(y130),(by first|rfl|(simp;done)|(simp [*];done)),H',⟨Nat.le_refl _⟩,⟨by (with_reducible repeat (first|apply zA|apply zN|apply zD));exact HO132.out⟩,⟨by repeat (first|(with_reducible first|exact HB.out|apply below_alloc|apply pw_below_drewN|apply below_drew1)|exact HB.out)⟩⟩
 case round =>
  clear H'
  try clear p2
  try clear c3
  obtain ⟨x1_1,x5_1,rfl,HA,HK1,HO_5,HB⟩:=hrel
  cases gk with
  | zero => exact absurd HA.out (by simp [ratlineref02_Put.l0])
  | succ k1 =>
   have H:=HA.out
   clear HA
   simp only [ratlineref02_Put.l0] at H
   by_cases c5 : x1_1 ≥ 128
   ·rw [if_pos c5] at H
    have c5b0 : decide (128 ≤ x1_1) = true:=decide_eq_true c5
    clear c5
    by_cases c6 : x5_1.length < 140737488355328
    rotate_left
    ·rw [if_neg c6] at H
     exact absurd H (by simp)
    rw [if_pos c6] at H
    have LMc6:=Aside0.mk c6
    clear c6
    obtain ⟨y133,hy133⟩ : ∃ y_ : List Int,y_ = (x5_1 ++ [((Int.tmod x1_1 128) + 128) % 256]):=⟨_,rfl⟩
    replace H : (ratlineref02_Put.l0 k1 (IntKind.u64.wrap (Int.tdiv x1_1 128)) y133) = some r:=by first|(rw [hy133];with_reducible exact H)|(have H2_:=(Option.bind_some _ _).symm.trans H;rw [hy133];with_reducible exact H2_)|(have H2_:=(Option.bind_some _ _).symm.trans H;with_reducible exact H2_)|with_reducible exact H|(rw [hy133];exact H)|exact H
    have Ny133:=Aside0.mk hy133
    clear hy133
    have H':=Aside0.mk H
    clear H
    go_wp2_with (first|((with_reducible refine gate_builtin (b:=.append) (xs:=#[.tmp 11,.tmp 16]) rfl ?_);at_builtin;refine Kd.R_append (Kd.int .u8) (w0:=w) w.heap.size rfl (.tmp 11) (.tmp 16) 26 5 (.int .u8 0) 1 rfl Try.underlying26 info5 rfl (by decide) (by omega) u5 x5_1 (((Int.tmod x1_1 128) + 128) % 256) [.int .u8 (((Int.tmod x1_1 128) + 128) % 256)] (fun _ => True) (fun _ => False) rfl rfl ?aP (fun _ hk => hk.elim) ?aF ?aO ?aB ?aS ?aL ?_;(case aP => exact rfl);(case aB => exact (by repeat (first|(with_reducible first|exact HB.out|apply below_alloc|apply pw_below_drewN|apply below_drew1)|exact HB.out)));(case aF => exact (fun _ _ => trivial));(case aO => exact (by (with_reducible repeat (first|apply zA|apply zN|apply zD));exact HO_5.out));(case aS => exact (below_size (by repeat (first|(with_reducible first|exact HB.out|apply below_alloc|apply pw_below_drewN|apply below_drew1)|exact HB.out))));(case aL => have:=LMc6.out;omega);intro v134 w7 ho hb hg hat;rw [← Ny133.out] at ho;have n0_:=Aside0.mk (hb);have n1_:=Aside0.mk (ho);clear HB;clear HO_5;have HB:=n0_;have HO135:=n1_;clear n0_ n1_;clear ho hb hg hat))
    go_roundg k1
    case measure => have:=HK1.out;omega
    case rel => exact ⟨(IntKind.u64.wrap (Int.tdiv x1_1 128)),(y133),(by first|rfl|(simp;done)|(simp [*];done)),H',⟨by have:=HK1.out;omega⟩,⟨by (with_reducible repeat (first|apply zA|apply zN|apply zD));exact HO135.out⟩,⟨by repeat (first|(with_reducible first|exact HB.out|apply below_alloc|apply pw_below_drewN|apply below_drew1)|exact HB.out)⟩⟩
   ·rw [if_neg c5] at H
    have c5b0 : decide (128 ≤ x1_1) = false:=decide_eq_false c5
    clear c5
    by_cases c8 : x5_1.length < 140737488355328
    ·rw [if_pos c8] at H
     have LMc8:=Aside0.mk c8
     clear c8
     obtain ⟨y136,hy136⟩ : ∃ y_ : List Int,y_ = (x5_1 ++ [(x1_1) % 256]):=⟨_,rfl⟩
     replace H : (some y136) = some r:=by first|(rw [hy136];with_reducible exact H)|(have H2_:=(Option.bind_some _ _).symm.trans H;rw [hy136];with_reducible exact H2_)|(have H2_:=(Option.bind_some _ _).symm.trans H;with_reducible exact H2_)|with_reducible exact H|(rw [hy136];exact H)|exact H
     have Ny136:=Aside0.mk hy136
     clear hy136
     obtain rfl:=Option.some.inj H
     go_wp2_with (first|((with_reducible refine gate_builtin (b:=.append) (xs:=#[.tmp 20,.tmp 23]) rfl ?_);at_builtin;refine Kd.R_append (Kd.int .u8) (w0:=w) w.heap.size rfl (.tmp 20) (.tmp 23) 26 5 (.int .u8 0) 1 rfl Try.underlying26 info5 rfl (by decide) (by omega) u5 x5_1 ((x1_1) % 256) [.int .u8 ((x1_1) % 256)] (fun _ => True) (fun _ => False) rfl rfl ?aP (fun _ hk => hk.elim) ?aF ?aO ?aB ?aS ?aL ?_;(case aP => exact rfl);(case aB => exact (by repeat (first|(with_reducible first|exact HB.out|apply below_alloc|apply pw_below_drewN|apply below_drew1)|exact HB.out)));(case aF => exact (fun _ _ => trivial));(case aO => exact (by (with_reducible repeat (first|apply zA|apply zN|apply zD));exact HO_5.out));(case aS => exact (below_size (by repeat (first|(with_reducible first|exact HB.out|apply below_alloc|apply pw_below_drewN|apply below_drew1)|exact HB.out))));(case aL => have:=LMc8.out;omega);intro v137 w9 ho hb hg hat;rw [← Ny136.out] at ho;have n0_:=Aside0.mk (hb);have n1_:=Aside0.mk (ho);clear HB;clear HO_5;have HB:=n0_;have HO138:=n1_;clear n0_ n1_;clear ho hb hg hat))
     go_ret
     exact ⟨_,by first|rfl|(simp [errW_none,errW_some] <;> rfl)|(simp [*,errW_none,errW_some] <;> rfl),by (with_reducible repeat (first|apply zA|apply zN|apply zD));exact HO138.out,by repeat (first|(with_reducible first|exact HB.out|apply below_alloc|apply pw_below_drewN|apply below_drew1)|exact HB.out)⟩
    ·rw [if_neg c8] at H
     exact absurd H (by simp)
end Go.Proofs.Ytcagajobpnpicaa.P

end

section
namespace Go.Proofs.Ytcagajobpnpicaa.P
open Go.RowKit Go.Proofs.YtcagajobpnpicaaG Go.Proofs.YtcagajobpnpicaaW.PrintWords Go.Proofs.YtcagajobpnpicaaW.PrintLast Go.Proofs.YtcagajobpnpicaaW.PrintMore
attribute [local go_sem] str_gtr str_geq str_leq max2_int min2_int max_two min_two max_three min_three max_four min_four   -- for this text's walks alone
set_option linter.unusedVariables false
set_option linter.unusedSimpArgs false

mutual
def ratlineref02_Take.l0 : Nat → List Int → Int → Int → Int → Option (Int × List Int × Bool)
 | 0,_,_,_,_ => none
 | k + 1,x0,x5,x6,x7 => if x7 < (x0.length : Int) then (ratlineref02_Take.j1 k x0 x5 x6 x7 (decide (x7 < 10))) else (ratlineref02_Take.j1 k x0 x5 x6 x7 false)
def ratlineref02_Take.j1 : Nat → List Int → Int → Int → Int → Bool → Option (Int × List Int × Bool)
 | 0,_,_,_,_,_ => none
 | k + 1,x0,x5,x6,x7,x15 => if x15 = true then (if 0 ≤ x7 then (if x7 < (x0.length : Int) then (if (rd x0 x7) < 128 then ((ratlineref02_Put.f k ([] : List Int) (IntKind.u64.wrap (x5 + (IntKind.u64.wrap ((IntKind.u64.wrap (Int.tmod (rd x0 x7) 128)) * x6))))).bind fun t168 => ((ratlineref02_same.f x0 t168).bind fun t171 => (if t171 = true then ((ratlineref02_Put.f k ([] : List Int) (IntKind.u64.wrap (x5 + (IntKind.u64.wrap ((IntKind.u64.wrap (Int.tmod (rd x0 x7) 128)) * x6))))).bind fun t172 => (if (t172.length : Int) = (wrap64 (x7 + 1)) then ((ratlineref02_rest.f x0 (wrap64 (x7 + 1))).bind fun t175 => (some (IntKind.u64.wrap (x5 + (IntKind.u64.wrap ((IntKind.u64.wrap (Int.tmod (rd x0 x7) 128)) * x6))),t175,true))) else (some (0,([] : List Int),false)))) else (some (0,([] : List Int),false))))) else (ratlineref02_Take.l0 k x0 (IntKind.u64.wrap (x5 + (IntKind.u64.wrap ((IntKind.u64.wrap (Int.tmod (rd x0 x7) 128)) * x6)))) (IntKind.u64.wrap (x6 * 128)) (wrap64 (x7 + 1)))) else (none)) else (none)) else (some (0,([] : List Int),false))
end
def ratlineref02_Take.f (k : Nat) (l0 : List Int) : Option (Int × List Int × Bool):=ratlineref02_Take.l0 k l0 0 1 0
set_option maxHeartbeats 8000000 in
set_option maxRecDepth 100000 in
theorem ratlineref02_Take.calls (k : Nat) (A0 : Option Addr) (c0 : Nat) (l0 : List Int) (r1 : Int) (r2 : List Int) (r3 : Bool) (w : World) (hr0 : Kd.C (Kd.int .u8) w A0 l0.length l0) (hc0 : l0.length ≤ c0) (h : ratlineref02_Take.f k l0 = some (r1,r2,r3)) :
  Calls Try.prog 53 #[.slice A0 l0.length c0] w fun e w' => ∃ v1_ : Value,e = .returned (.tuple #[.int .u64 r1,v1_,.bool r3]) ∧ Kd.R (Kd.int .u8) 5 w' w.heap.size (fun _ => True) v1_ r2 ∧ Below w.heap.size w w':=by
 have HR0:=Aside0.mk hr0
 have HC0:=Aside0.mk hc0
 clear hr0 hc0
 have HB:=Aside0.mk (Below.refl w.heap.size w)
 have H : (ratlineref02_Take.l0 k l0 0 1 0) = some (r1,r2,r3):=h
 clear h
 have H':=Aside0.mk H
 clear H
 go_enter Try.func53,Try.ntmps53
 go_wp2
 go_loopg [5,6,7] k (fun kq v5 v6 v7 w' => ∃ (x5_1 : Int) (x6_1 : Int) (x7_1 : Int),v5 = .int .u64 x5_1 ∧ v6 = .int .u64 x6_1 ∧ v7 = .int .i64 x7_1 ∧ Aside0 (ratlineref02_Take.l0 kq l0 x5_1 x6_1 x7_1 = some (r1,r2,r3)) ∧ Aside0 (kq ≤ k) ∧ Aside0 (Below w.heap.size w w'))
 case atStart => exact ⟨(0),(1),(0),(by first|rfl|(simp;done)|(simp [*];done)),(by first|rfl|(simp;done)|(simp [*];done)),(by first|rfl|(simp;done)|(simp [*];done)),H',⟨Nat.le_refl _⟩,⟨by repeat (first|(with_reducible first|exact HB.out|apply below_alloc|apply pw_below_drewN|apply below_drew1)|exact HB.out)⟩⟩
 case round =>
  clear H'
  obtain ⟨x5_1,x6_1,x7_1,rfl,rfl,rfl,HA,HK1,HB⟩:=hrel
  cases gk with
  | zero => exact absurd HA.out (by simp [ratlineref02_Take.l0])
  | succ k1 =>
   have H:=HA.out
   clear HA
   simp only [ratlineref02_Take.l0] at H
   have HC2:=Aside0.mk H
   clear H
   go_upto_region 4 with (fail)
   go_cut [15] (fun v15 wc => ∃ (kq : Nat) (x15_1 : Bool),v15 = .bool x15_1 ∧ Aside0 (ratlineref02_Take.j1 kq l0 x5_1 x6_1 x7_1 x15_1 = some (r1,r2,r3)) ∧ Aside0 (kq ≤ k1) ∧ Aside0 (Below w.heap.size w wc))
   case first =>
    have H:=HC2.out
    clear HC2
    by_cases c3 : x7_1 < (l0.length : Int)
    ·rw [if_pos c3] at H
     have c3b0 : decide (x7_1 < (l0.length : Int)) = true:=decide_eq_true c3
     clear c3
     (first|rw [c3b0]|(simp only [i64_w,i32_w];rw [c3b0])|skip)
     have H':=Aside0.mk H
     clear H
     go_wp2
     go_meet
     case rel => exact ⟨_,(decide (x7_1 < 10)),(by first|rfl|(simp;done)|(simp [*];done)),H',⟨by have:=HK1.out;first|omega|exact Nat.le_refl _⟩,⟨by repeat (first|(with_reducible first|exact HB.out|apply below_alloc|apply pw_below_drewN|apply below_drew1)|exact HB.out)⟩⟩
    ·rw [if_neg c3] at H
     have c3b0 : decide (x7_1 < (l0.length : Int)) = false:=decide_eq_false c3
     clear c3
     (first|rw [c3b0]|(simp only [i64_w,i32_w];rw [c3b0])|skip)
     have H':=Aside0.mk H
     clear H
     go_wp2
     go_meet
     case rel => exact ⟨_,(false),(by first|rfl|(simp;done)|(simp [*];done)),H',⟨by have:=HK1.out;first|omega|exact Nat.le_refl _⟩,⟨by repeat (first|(with_reducible first|exact HB.out|apply below_alloc|apply pw_below_drewN|apply below_drew1)|exact HB.out)⟩⟩
   case rest =>
    clear HC2
    try clear p2
    try clear c3
    try clear c3b0
    obtain ⟨kq,x15_1,rfl,HA,HJ1,HB⟩:=hcut
    cases kq with
    | zero => exact absurd HA.out (by simp [ratlineref02_Take.j1])
    | succ kj1 =>
     have H:=HA.out
     clear HA
     simp only [ratlineref02_Take.j1] at H
     by_cases c4 : x15_1 = true
     rotate_left
     ·replace c4:=Bool.eq_false_iff.mpr c4
      subst c4
      have H1 : (some (0,([] : List Int),false)) = some (r1,r2,r3):=by rw [if_neg (show ¬ (false = true) by decide)] at H;exact H
      clear H
      have H:=H1
      clear H1
      simp only [Option.some.injEq,Prod.mk.injEq] at H
      obtain ⟨rfl,rfl,rfl⟩:=H
      go_wp2
      go_ret3
      exact ⟨_,by first|rfl|(simp [errW_none,errW_some] <;> rfl)|(simp [*,errW_none,errW_some] <;> rfl),by first|exact Kd.R_nil _ _ _ _ _|exact Kd.N_nil _ _ _ _ _|exact Kd.V_nil _ _ _ _ _|exact Kd.Q_nil _ _ _ _ _|exact Kd.S_nil _ _ _ _ _,by repeat (first|(with_reducible first|exact HB.out|apply below_alloc|apply pw_below_drewN|apply below_drew1)|exact HB.out)⟩

     subst c4
     have H1 : (if 0 ≤ x7_1 then (if x7_1 < (l0.length : Int) then (if (rd l0 x7_1) < 128 then ((ratlineref02_Put.f kj1 ([] : List Int) (IntKind.u64.wrap (x5_1 + (IntKind.u64.wrap ((IntKind.u64.wrap (Int.tmod (rd l0 x7_1) 128)) * x6_1))))).bind fun t168 => ((ratlineref02_same.f l0 t168).bind fun t171 => (if t171 = true then ((ratlineref02_Put.f kj1 ([] : List Int) (IntKind.u64.wrap (x5_1 + (IntKind.u64.wrap ((IntKind.u64.wrap (Int.tmod (rd l0 x7_1) 128)) * x6_1))))).bind fun t172 => (if (t172.length : Int) = (wrap64 (x7_1 + 1)) then ((ratlineref02_rest.f l0 (wrap64 (x7_1 + 1))).bind fun t175 => (some (IntKind.u64.wrap (x5_1 + (IntKind.u64.wrap ((IntKind.u64.wrap (Int.tmod (rd l0 x7_1) 128)) * x6_1))),t175,true))) else (some (0,([] : List Int),false)))) else (some (0,([] : List Int),false))))) else (ratlineref02_Take.l0 kj1 l0 (IntKind.u64.wrap (x5_1 + (IntKind.u64.wrap ((IntKind.u64.wrap (Int.tmod (rd l0 x7_1) 128)) * x6_1)))) (IntKind.u64.wrap (x6_1 * 128)) (wrap64 (x7_1 + 1)))) else (none)) else (none)) = some (r1,r2,r3):=by rw [if_pos rfl] at H;exact H
     clear H
     have H:=H1
     clear H1
     by_cases c5 : 0 ≤ x7_1
     rotate_left
     ·rw [if_neg c5] at H
      exact absurd H (by simp)
     rw [if_pos c5] at H
     have c5b0 : decide (0 ≤ x7_1) = true:=decide_eq_true c5
     clear c5
     by_cases c6 : x7_1 < (l0.length : Int)
     rotate_left
     ·rw [if_neg c6] at H
      exact absurd H (by simp)
     rw [if_pos c6] at H
     have c6b0 : decide (x7_1 < (l0.length : Int)) = true:=decide_eq_true c6
     clear c6
     by_cases c7 : (rd l0 x7_1) < 128
     ·rw [if_pos c7] at H
      have c7b0 : decide ((rd l0 x7_1) < 128) = true:=decide_eq_true c7
      clear c7
      replace H:=Option.bind_eq_some_iff.mp H
      obtain ⟨t168,A80,H⟩:=H
      replace H : ((ratlineref02_same.f l0 t168).bind fun t171 => (if t171 = true then ((ratlineref02_Put.f kj1 ([] : List Int) (IntKind.u64.wrap (x5_1 + (IntKind.u64.wrap ((IntKind.u64.wrap (Int.tmod (rd l0 x7_1) 128)) * x6_1))))).bind fun t172 => (if (t172.length : Int) = (wrap64 (x7_1 + 1)) then ((ratlineref02_rest.f l0 (wrap64 (x7_1 + 1))).bind fun t175 => (some (IntKind.u64.wrap (x5_1 + (IntKind.u64.wrap ((IntKind.u64.wrap (Int.tmod (rd l0 x7_1) 128)) * x6_1))),t175,true))) else (some (0,([] : List Int),false)))) else (some (0,([] : List Int),false)))) = some (r1,r2,r3):=H
      have A8:=Aside0.mk A80
      clear A80
      replace H:=Option.bind_eq_some_iff.mp H
      obtain ⟨t171,A90,H⟩:=H
      replace H : (if t171 = true then ((ratlineref02_Put.f kj1 ([] : List Int) (IntKind.u64.wrap (x5_1 + (IntKind.u64.wrap ((IntKind.u64.wrap (Int.tmod (rd l0 x7_1) 128)) * x6_1))))).bind fun t172 => (if (t172.length : Int) = (wrap64 (x7_1 + 1)) then ((ratlineref02_rest.f l0 (wrap64 (x7_1 + 1))).bind fun t175 => (some (IntKind.u64.wrap (x5_1 + (IntKind.u64.wrap ((IntKind.u64.wrap (Int.tmod (rd l0 x7_1) 128)) * x6_1))),t175,true))) else (some (0,([] : List Int),false)))) else (some (0,([] : List Int),false))) = some (r1,r2,r3):=H
      have A9:=Aside0.mk A90
      clear A90
      by_cases c10 : t171 = true
      ·subst c10
       have H1 : ((ratlineref02_Put.f kj1 ([] : List Int) (IntKind.u64.wrap (x5_1 + (IntKind.u64.wrap ((IntKind.u64.wrap (Int.tmod (rd l0 x7_1) 128)) * x6_1))))).bind fun t172 => (if (t172.length : Int) = (wrap64 (x7_1 + 1)) then ((ratlineref02_rest.f l0 (wrap64 (x7_1 + 1))).bind fun t175 => (some (IntKind.u64.wrap (x5_1 + (IntKind.u64.wrap ((IntKind.u64.wrap (Int.tmod (rd l0 x7_1) 128)) * x6_1))),t175,true))) else (some (0,([] : List Int),false)))) = some (r1,r2,r3):=by rw [if_pos rfl] at H;exact H
       clear H
       have H:=H1
       clear H1
       replace H:=Option.bind_eq_some_iff.mp H
       obtain ⟨t172,A110,H⟩:=H
       replace H : (if (t172.length : Int) = (wrap64 (x7_1 + 1)) then ((ratlineref02_rest.f l0 (wrap64 (x7_1 + 1))).bind fun t175 => (some (IntKind.u64.wrap (x5_1 + (IntKind.u64.wrap ((IntKind.u64.wrap (Int.tmod (rd l0 x7_1) 128)) * x6_1))),t175,true))) else (some (0,([] : List Int),false))) = some (r1,r2,r3):=H
       have A11:=Aside0.mk A110
       clear A110
       by_cases c12 : (t172.length : Int) = (wrap64 (x7_1 + 1))
       ·rw [if_pos c12] at H
        have c12b0 : ((t172.length : Int) == (wrap64 (x7_1 + 1))) = true:=beq_iff_eq.mpr c12
        have c12b1 : ((t172.length : Int) != (wrap64 (x7_1 + 1))) = false:=bne_eq_false_iff_eq.mpr c12
        clear c12
        replace H:=Option.bind_eq_some_iff.mp H
        obtain ⟨t175,A130,H⟩:=H
        replace H : (some (IntKind.u64.wrap (x5_1 + (IntKind.u64.wrap ((IntKind.u64.wrap (Int.tmod (rd l0 x7_1) 128)) * x6_1))),t175,true)) = some (r1,r2,r3):=H
        have A13:=Aside0.mk A130
        clear A130
        simp only [Option.some.injEq,Prod.mk.injEq] at H
        obtain ⟨rfl,rfl,rfl⟩:=H
        have p166 : 0 ≤ (x7_1 : Int):=of_decide_eq_true (by first|(with_reducible assumption)|assumption)
        have q166 : x7_1 < (l0.length : Int):=of_decide_eq_true (by first|(with_reducible assumption)|assumption)
        obtain ⟨ad166,e166,hx166_0⟩:=Kd.at_int HR0.out x7_1 p166 q166
        cases e166
        replace hx166_0:=(HB.out.cell (World.block_lt_of_cell? w _ hx166_0)).trans hx166_0
        replace p166:=eq_true p166
        replace q166:=eq_true q166
        have p167 : 0 ≤ (x7_1 : Int):=of_decide_eq_true (by first|(with_reducible assumption)|assumption)
        have q167 : x7_1 < (l0.length : Int):=of_decide_eq_true (by first|(with_reducible assumption)|assumption)
        obtain ⟨ad167,e167,hx167_0⟩:=Kd.at_int HR0.out x7_1 p167 q167
        obtain rfl : ad166 = ad167:=(by injection e167)
        replace hx167_0:=(HB.out.cell (World.block_lt_of_cell? w _ hx167_0)).trans hx167_0
        replace p167:=eq_true p167
        replace q167:=eq_true q167
        go_wp2_with (first|((with_reducible refine gate_callee (f:=33) rfl ?_);refine goesL_ (some 37) rfl rfl Try.func33 (by kernel_rfl) rfl #[.slice none 0 0,.int .u64 (IntKind.u64.wrap (x5_1 + (IntKind.u64.wrap ((IntKind.u64.wrap (Int.tmod (rd l0 x7_1) 128)) * x6_1))))] rfl (by (try simp only [List.map_toArray,List.map_cons,List.map_nil]);first|done|rfl|(simp only [List.length_drop,List.length_take];rfl)) ?_;(refine calls_of_args (args':=#[.slice none (([] : List Int)).length 0,.int .u64 (IntKind.u64.wrap (x5_1 + (IntKind.u64.wrap ((IntKind.u64.wrap (Int.tmod (rd l0 x7_1) 128)) * x6_1))))]) (by rfl) ?_;with_reducible refine (ratlineref02_Put.calls kj1 _ _ ([] : List Int) (IntKind.u64.wrap (x5_1 + (IntKind.u64.wrap ((IntKind.u64.wrap (Int.tmod (rd l0 x7_1) 128)) * x6_1)))) t168 _ ?side1 ?side2 A8.out).mono ?_);(case side1 => exact Kd.C_nil _ _);(case side2 => exact Nat.le_refl _);rintro e w14 ⟨v169,rfl,ho0,hb⟩;refine ⟨_,rfl,?_⟩;have n0_:=Aside0.mk (Kd.R_lower ho0 (below_size (by repeat (first|(with_reducible first|exact HB.out|apply below_alloc|apply pw_below_drewN|apply below_drew1)|exact HB.out))));have n1_:=Aside0.mk (below_step (by repeat (first|(with_reducible first|exact HB.out|apply below_alloc|apply pw_below_drewN|apply below_drew1)|exact HB.out)) hb);clear HB;have HO170:=n0_;have HB:=n1_;clear n0_ n1_;(try clear hb);(try clear hb2);(try clear hk);(try clear hi);(try clear ho0);obtain ⟨Ao15,co15,eo15⟩:=Kd.R_slice HO170.out;subst eo15)|((with_reducible refine gate_callee (f:=73) rfl ?_);refine goesL_ (some 38) rfl rfl Try.func73 (by kernel_rfl) rfl #[.slice (some ad166) l0.length c0,.slice Ao15 t168.length co15] rfl (by (try simp only [List.map_toArray,List.map_cons,List.map_nil]);first|done|rfl|(simp only [List.length_drop,List.length_take];rfl)) ?_;(with_reducible refine (ratlineref02_same.calls _ _ l0 _ _ t168 true _ ?side1 ?side2 ?side3 ?side4 A9.out).mono ?_);(case side1 => repeat (first|exact (Kd.C_below HR0.out HB.out)|(with_reducible refine Kd.C_alloc ?_ _)|(with_reducible refine Kd.C_drewN ?_ _)|(with_reducible refine Kd.C_drew ?_)));(case side2 => exact HC0.out);(case side3 => repeat (first|exact (Kd.R_reads' HO170.out).2.2|(with_reducible refine Kd.C_alloc ?_ _)|(with_reducible refine Kd.C_drewN ?_ _)|(with_reducible refine Kd.C_drew ?_)));(case side4 => exact (Kd.R_reads' HO170.out).2.1);rintro e w' ⟨rfl,⟨nd,rfl⟩⟩;refine ⟨_,rfl,?_⟩)|(go_at_call 33;(refine calls_of_args (args':=#[.slice none (([] : List Int)).length 0,.int .u64 (IntKind.u64.wrap (x5_1 + (IntKind.u64.wrap ((IntKind.u64.wrap (Int.tmod (rd l0 x7_1) 128)) * x6_1))))]) (by rfl) ?_;with_reducible refine (ratlineref02_Put.calls kj1 _ _ ([] : List Int) (IntKind.u64.wrap (x5_1 + (IntKind.u64.wrap ((IntKind.u64.wrap (Int.tmod (rd l0 x7_1) 128)) * x6_1)))) t172 _ ?side1 ?side2 A11.out).mono ?_);(case side1 => exact Kd.C_nil _ _);(case side2 => exact Nat.le_refl _);rintro e w16 ⟨v173,rfl,ho0,hb⟩;have n0_:=Aside0.mk (Kd.R_elder' (by (with_reducible repeat (first|apply zA|apply zN|apply zD));exact HO170.out) (Kd.R_base ho0) hb);have n1_:=Aside0.mk (Kd.R_lower (Kd.R_new' ho0 (Kd.R_lt (by (with_reducible repeat (first|apply zA|apply zN|apply zD));exact HO170.out))) (below_size (by repeat (first|(with_reducible first|exact HB.out|apply below_alloc|apply pw_below_drewN|apply below_drew1)|exact HB.out))));have n2_:=Aside0.mk (below_step (by repeat (first|(with_reducible first|exact HB.out|apply below_alloc|apply pw_below_drewN|apply below_drew1)|exact HB.out)) hb);clear HO170;clear HB;have HO170:=n0_;have HO174:=n1_;have HB:=n2_;clear n0_ n1_ n2_;(try clear hb);(try clear hb2);(try clear hk);(try clear hi);(try clear ho0);obtain ⟨Ao17,co17,eo17⟩:=Kd.R_slice HO174.out;subst eo17)|((with_reducible refine gate_callee (f:=74) rfl ?_);refine goesL_ (some 52) rfl rfl Try.func74 (by kernel_rfl) rfl #[.slice (some ad166) l0.length c0,.int .i64 (wrap64 (x7_1 + 1))] rfl (by (try simp only [List.map_toArray,List.map_cons,List.map_nil]);first|done|rfl|(simp only [List.length_drop,List.length_take];rfl)) ?_;(with_reducible refine (ratlineref02_rest.calls _ _ l0 (wrap64 (x7_1 + 1)) t175 _ ?side1 ?side2 A13.out).mono ?_);(case side1 => repeat (first|exact (Kd.C_below HR0.out HB.out)|(with_reducible refine Kd.C_alloc ?_ _)|(with_reducible refine Kd.C_drewN ?_ _)|(with_reducible refine Kd.C_drew ?_)));(case side2 => exact HC0.out);rintro e w18 ⟨v176,rfl,ho0,hb⟩;refine ⟨_,rfl,?_⟩;have n0_:=Aside0.mk (Kd.R_elder' (by (with_reducible repeat (first|apply zA|apply zN|apply zD));exact HO170.out) (Kd.R_base ho0) hb);have n1_:=Aside0.mk (Kd.R_elder' (by (with_reducible repeat (first|apply zA|apply zN|apply zD));exact HO174.out) (Kd.R_base ho0) hb);have n2_:=Aside0.mk (Kd.R_lower (Kd.R_new' (Kd.R_new' ho0 (Kd.R_lt (by (with_reducible repeat (first|apply zA|apply zN|apply zD));exact HO170.out))) (Kd.R_lt (by (with_reducible repeat (first|apply zA|apply zN|apply zD));exact HO174.out))) (below_size (by repeat (first|(with_reducible first|exact HB.out|apply below_alloc|apply pw_below_drewN|apply below_drew1)|exact HB.out))));have n3_:=Aside0.mk (below_step (by repeat (first|(with_reducible first|exact HB.out|apply below_alloc|apply pw_below_drewN|apply below_drew1)|exact HB.out)) hb);clear HO170;clear HO174;clear HB;have HO170:=n0_;have HO174:=n1_;have HO177:=n2_;have HB:=n3_;clear n0_ n1_ n2_ n3_;(try clear hb);(try clear hb2);(try clear hk);(try clear hi);(try clear ho0)))
        go_ret3
        exact ⟨_,by first|rfl|(simp [errW_none,errW_some] <;> rfl)|(simp [*,errW_none,errW_some] <;> rfl),by (with_reducible repeat (first|apply zA|apply zN|apply zD));exact Kd.R_mono HO177.out (fun _ hk => trivial),by repeat (first|(with_reducible first|exact HB.out|apply below_alloc|apply pw_below_drewN|apply below_drew1)|exact HB.out)⟩
       ·rw [if_neg c12] at H
        have c12b0 : ((t172.length : Int) == (wrap64 (x7_1 + 1))) = false:=beq_eq_false_iff_ne.mpr c12
        have c12b1 : ((t172.length : Int) != (wrap64 (x7_1 + 1))) = true:=bne_iff_ne.mpr c12
        simp only [Option.some.injEq,Prod.mk.injEq] at H
        obtain ⟨rfl,rfl,rfl⟩:=H
        have p166 : 0 ≤ (x7_1 : Int):=of_decide_eq_true (by first|(with_reducible assumption)|assumption)
        have q166 : x7_1 < (l0.length : Int):=of_decide_eq_true (by first|(with_reducible assumption)|assumption)
        obtain ⟨ad166,e166,hx166_0⟩:=Kd.at_int HR0.out x7_1 p166 q166
        cases e166
        replace hx166_0:=(HB.out.cell (World.block_lt_of_cell? w _ hx166_0)).trans hx166_0
        replace p166:=eq_true p166
        replace q166:=eq_true q166
        have p167 : 0 ≤ (x7_1 : Int):=of_decide_eq_true (by first|(with_reducible assumption)|assumption)
        have q167 : x7_1 < (l0.length : Int):=of_decide_eq_true (by first|(with_reducible assumption)|assumption)
        obtain ⟨ad167,e167,hx167_0⟩:=Kd.at_int HR0.out x7_1 p167 q167
        obtain rfl : ad166 = ad167:=(by injection e167)
        replace hx167_0:=(HB.out.cell (World.block_lt_of_cell? w _ hx167_0)).trans hx167_0
        replace p167:=eq_true p167
        replace q167:=eq_true q167
        go_wp2_with (first|((with_reducible refine gate_callee (f:=33) rfl ?_);refine goesL_ (some 37) rfl rfl Try.func33 (by kernel_rfl) rfl #[.slice none 0 0,.int .u64 (IntKind.u64.wrap (x5_1 + (IntKind.u64.wrap ((IntKind.u64.wrap (Int.tmod (rd l0 x7_1) 128)) * x6_1))))] rfl (by (try simp only [List.map_toArray,List.map_cons,List.map_nil]);first|done|rfl|(simp only [List.length_drop,List.length_take];rfl)) ?_;(refine calls_of_args (args':=#[.slice none (([] : List Int)).length 0,.int .u64 (IntKind.u64.wrap (x5_1 + (IntKind.u64.wrap ((IntKind.u64.wrap (Int.tmod (rd l0 x7_1) 128)) * x6_1))))]) (by rfl) ?_;with_reducible refine (ratlineref02_Put.calls kj1 _ _ ([] : List Int) (IntKind.u64.wrap (x5_1 + (IntKind.u64.wrap ((IntKind.u64.wrap (Int.tmod (rd l0 x7_1) 128)) * x6_1)))) t168 _ ?side1 ?side2 A8.out).mono ?_);(case side1 => exact Kd.C_nil _ _);(case side2 => exact Nat.le_refl _);rintro e w19 ⟨v169,rfl,ho0,hb⟩;refine ⟨_,rfl,?_⟩;have n0_:=Aside0.mk (Kd.R_lower ho0 (below_size (by repeat (first|(with_reducible first|exact HB.out|apply below_alloc|apply pw_below_drewN|apply below_drew1)|exact HB.out))));have n1_:=Aside0.mk (below_step (by repeat (first|(with_reducible first|exact HB.out|apply below_alloc|apply pw_below_drewN|apply below_drew1)|exact HB.out)) hb);clear HB;have HO170:=n0_;have HB:=n1_;clear n0_ n1_;(try clear hb);(try clear hb2);(try clear hk);(try clear hi);(try clear ho0);obtain ⟨Ao20,co20,eo20⟩:=Kd.R_slice HO170.out;subst eo20)|((with_reducible refine gate_callee (f:=73) rfl ?_);refine goesL_ (some 38) rfl rfl Try.func73 (by kernel_rfl) rfl #[.slice (some ad166) l0.length c0,.slice Ao20 t168.length co20] rfl (by (try simp only [List.map_toArray,List.map_cons,List.map_nil]);first|done|rfl|(simp only [List.length_drop,List.length_take];rfl)) ?_;(with_reducible refine (ratlineref02_same.calls _ _ l0 _ _ t168 true _ ?side1 ?side2 ?side3 ?side4 A9.out).mono ?_);(case side1 => repeat (first|exact (Kd.C_below HR0.out HB.out)|(with_reducible refine Kd.C_alloc ?_ _)|(with_reducible refine Kd.C_drewN ?_ _)|(with_reducible refine Kd.C_drew ?_)));(case side2 => exact HC0.out);(case side3 => repeat (first|exact (Kd.R_reads' HO170.out).2.2|(with_reducible refine Kd.C_alloc ?_ _)|(with_reducible refine Kd.C_drewN ?_ _)|(with_reducible refine Kd.C_drew ?_)));(case side4 => exact (Kd.R_reads' HO170.out).2.1);rintro e w' ⟨rfl,⟨nd,rfl⟩⟩;refine ⟨_,rfl,?_⟩)|(go_at_call 33;(refine calls_of_args (args':=#[.slice none (([] : List Int)).length 0,.int .u64 (IntKind.u64.wrap (x5_1 + (IntKind.u64.wrap ((IntKind.u64.wrap (Int.tmod (rd l0 x7_1) 128)) * x6_1))))]) (by rfl) ?_;with_reducible refine (ratlineref02_Put.calls kj1 _ _ ([] : List Int) (IntKind.u64.wrap (x5_1 + (IntKind.u64.wrap ((IntKind.u64.wrap (Int.tmod (rd l0 x7_1) 128)) * x6_1)))) t172 _ ?side1 ?side2 A11.out).mono ?_);(case side1 => exact Kd.C_nil _ _);(case side2 => exact Nat.le_refl _);rintro e w21 ⟨v173,rfl,ho0,hb⟩;have n0_:=Aside0.mk (Kd.R_elder' (by (with_reducible repeat (first|apply zA|apply zN|apply zD));exact HO170.out) (Kd.R_base ho0) hb);have n1_:=Aside0.mk (Kd.R_lower (Kd.R_new' ho0 (Kd.R_lt (by (with_reducible repeat (first|apply zA|apply zN|apply zD));exact HO170.out))) (below_size (by repeat (first|(with_reducible first|exact HB.out|apply below_alloc|apply pw_below_drewN|apply below_drew1)|exact HB.out))));have n2_:=Aside0.mk (below_step (by repeat (first|(with_reducible first|exact HB.out|apply below_alloc|apply pw_below_drewN|apply below_drew1)|exact HB.out)) hb);clear HO170;clear HB;have HO170:=n0_;have HO174:=n1_;have HB:=n2_;clear n0_ n1_ n2_;(try clear hb);(try clear hb2);(try clear hk);(try clear hi);(try clear ho0);obtain ⟨Ao22,co22,eo22⟩:=Kd.R_slice HO174.out;subst eo22))
        go_ret3
        exact ⟨_,by first|rfl|(simp [errW_none,errW_some] <;> rfl)|(simp [*,errW_none,errW_some] <;> rfl),by first|exact Kd.R_nil _ _ _ _ _|exact Kd.N_nil _ _ _ _ _|exact Kd.V_nil _ _ _ _ _|exact Kd.Q_nil _ _ _ _ _|exact Kd.S_nil _ _ _ _ _,by repeat (first|(with_reducible first|exact HB.out|apply below_alloc|apply pw_below_drewN|apply below_drew1)|exact HB.out)⟩
      ·replace c10:=Bool.eq_false_iff.mpr c10
       subst c10
       have H1 : (some (0,([] : List Int),false)) = some (r1,r2,r3):=by rw [if_neg (show ¬ (false = true) by decide)] at H;exact H
       clear H
       have H:=H1
       clear H1
       simp only [Option.some.injEq,Prod.mk.injEq] at H
       obtain ⟨rfl,rfl,rfl⟩:=H
       have p166 : 0 ≤ (x7_1 : Int):=of_decide_eq_true (by first|(with_reducible assumption)|assumption)
       have q166 : x7_1 < (l0.length : Int):=of_decide_eq_true (by first|(with_reducible assumption)|assumption)
       obtain ⟨ad166,e166,hx166_0⟩:=Kd.at_int HR0.out x7_1 p166 q166
       cases e166
       replace hx166_0:=(HB.out.cell (World.block_lt_of_cell? w _ hx166_0)).trans hx166_0
       replace p166:=eq_true p166
       replace q166:=eq_true q166
       have p167 : 0 ≤ (x7_1 : Int):=of_decide_eq_true (by first|(with_reducible assumption)|assumption)
       have q167 : x7_1 < (l0.length : Int):=of_decide_eq_true (by first|(with_reducible assumption)|assumption)
       obtain ⟨ad167,e167,hx167_0⟩:=Kd.at_int HR0.out x7_1 p167 q167
       obtain rfl : ad166 = ad167:=(by injection e167)
       replace hx167_0:=(HB.out.cell (World.block_lt_of_cell? w _ hx167_0)).trans hx167_0
       replace p167:=eq_true p167
       replace q167:=eq_true q167
       go_wp2_with (first|((with_reducible refine gate_callee (f:=33) rfl ?_);refine goesL_ (some 37) rfl rfl Try.func33 (by kernel_rfl) rfl #[.slice none 0 0,.int .u64 (IntKind.u64.wrap (x5_1 + (IntKind.u64.wrap ((IntKind.u64.wrap (Int.tmod (rd l0 x7_1) 128)) * x6_1))))] rfl (by (try simp only [List.map_toArray,List.map_cons,List.map_nil]);first|done|rfl|(simp only [List.length_drop,List.length_take];rfl)) ?_;(refine calls_of_args (args':=#[.slice none (([] : List Int)).length 0,.int .u64 (IntKind.u64.wrap (x5_1 + (IntKind.u64.wrap ((IntKind.u64.wrap (Int.tmod (rd l0 x7_1) 128)) * x6_1))))]) (by rfl) ?_;with_reducible refine (ratlineref02_Put.calls kj1 _ _ ([] : List Int) (IntKind.u64.wrap (x5_1 + (IntKind.u64.wrap ((IntKind.u64.wrap (Int.tmod (rd l0 x7_1) 128)) * x6_1)))) t168 _ ?side1 ?side2 A8.out).mono ?_);(case side1 => exact Kd.C_nil _ _);(case side2 => exact Nat.le_refl _);rintro e w23 ⟨v169,rfl,ho0,hb⟩;refine ⟨_,rfl,?_⟩;have n0_:=Aside0.mk (Kd.R_lower ho0 (below_size (by repeat (first|(with_reducible first|exact HB.out|apply below_alloc|apply pw_below_drewN|apply below_drew1)|exact HB.out))));have n1_:=Aside0.mk (below_step (by repeat (first|(with_reducible first|exact HB.out|apply below_alloc|apply pw_below_drewN|apply below_drew1)|exact HB.out)) hb);clear HB;have HO170:=n0_;have HB:=n1_;clear n0_ n1_;(try clear hb);(try clear hb2);(try clear hk);(try clear hi);(try clear ho0);obtain ⟨Ao24,co24,eo24⟩:=Kd.R_slice HO170.out;subst eo24)|((with_reducible refine gate_callee (f:=73) rfl ?_);refine goesL_ (some 38) rfl rfl Try.func73 (by kernel_rfl) rfl #[.slice (some ad166) l0.length c0,.slice Ao24 t168.length co24] rfl (by (try simp only [List.map_toArray,List.map_cons,List.map_nil]);first|done|rfl|(simp only [List.length_drop,List.length_take];rfl)) ?_;(with_reducible refine (ratlineref02_same.calls _ _ l0 _ _ t168 false _ ?side1 ?side2 ?side3 ?side4 A9.out).mono ?_);(case side1 => repeat (first|exact (Kd.C_below HR0.out HB.out)|(with_reducible refine Kd.C_alloc ?_ _)|(with_reducible refine Kd.C_drewN ?_ _)|(with_reducible refine Kd.C_drew ?_)));(case side2 => exact HC0.out);(case side3 => repeat (first|exact (Kd.R_reads' HO170.out).2.2|(with_reducible refine Kd.C_alloc ?_ _)|(with_reducible refine Kd.C_drewN ?_ _)|(with_reducible refine Kd.C_drew ?_)));(case side4 => exact (Kd.R_reads' HO170.out).2.1);rintro e w' ⟨rfl,⟨nd,rfl⟩⟩;refine ⟨_,rfl,?_⟩))
       go_ret3
       exact ⟨_,by first|rfl|(simp [errW_none,errW_some] <;> rfl)|(simp [*,errW_none,errW_some] <;> rfl),by first|exact Kd.R_nil _ _ _ _ _|exact Kd.N_nil _ _ _ _ _|exact Kd.V_nil _ _ _ _ _|exact Kd.Q_nil _ _ _ _ _|exact Kd.S_nil _ _ _ _ _,by repeat (first|(with_reducible first|exact HB.out|apply below_alloc|apply pw_below_drewN|apply below_drew1)|exact HB.out)⟩
     ·rw [if_neg c7] at H
      have c7b0 : decide ((rd l0 x7_1) < 128) = false:=decide_eq_false c7
      clear c7
      have H':=Aside0.mk H
      clear H
      have p166 : 0 ≤ (x7_1 : Int):=of_decide_eq_true (by first|(with_reducible assumption)|assumption)
      have q166 : x7_1 < (l0.length : Int):=of_decide_eq_true (by first|(with_reducible assumption)|assumption)
      obtain ⟨ad166,e166,hx166_0⟩:=Kd.at_int HR0.out x7_1 p166 q166
      cases e166
      replace hx166_0:=(HB.out.cell (World.block_lt_of_cell? w _ hx166_0)).trans hx166_0
      replace p166:=eq_true p166
      replace q166:=eq_true q166
      have p167 : 0 ≤ (x7_1 : Int):=of_decide_eq_true (by first|(with_reducible assumption)|assumption)
      have q167 : x7_1 < (l0.length : Int):=of_decide_eq_true (by first|(with_reducible assumption)|assumption)
      obtain ⟨ad167,e167,hx167_0⟩:=Kd.at_int HR0.out x7_1 p167 q167
      obtain rfl : ad166 = ad167:=(by injection e167)
      replace hx167_0:=(HB.out.cell (World.block_lt_of_cell? w _ hx167_0)).trans hx167_0
      replace p167:=eq_true p167
      replace q167:=eq_true q167
      go_wp2
      go_roundg kj1
      case measure => have:=HK1.out;have:=HJ1.out;omega
      case rel => exact ⟨(IntKind.u64.wrap (x5_1 + (IntKind.u64.wrap ((IntKind.u64.wrap (Int.tmod (rd l0 x7_1) 128)) * x6_1)))),(IntKind.u64.wrap (x6_1 * 128)),(wrap64 (x7_1 + 1)),(by first|rfl|(simp;done)|(simp [*];done)),(by first|rfl|(simp;done)|(simp [*];done)),(by first|rfl|(simp;done)|(simp [*];done)),H',⟨by have:=HK1.out;have:=HJ1.out;omega⟩,⟨by repeat (first|(with_reducible first|exact HB.out|apply below_alloc|apply pw_below_drewN|apply below_drew1)|exact HB.out)⟩⟩
end Go.Proofs.Ytcagajobpnpicaa.P

end

section
namespace Go.Proofs.Ytcagajobpnpicaa.P
open Go.RowKit Go.Proofs.YtcagajobpnpicaaG Go.Proofs.YtcagajobpnpicaaW.PrintWords Go.Proofs.YtcagajobpnpicaaW.PrintLast Go.Proofs.YtcagajobpnpicaaW.PrintMore
attribute [local go_sem] str_gtr str_geq str_leq max2_int min2_int max_two min_two max_three min_three max_four min_four   -- for this text's walks alone
set_option linter.unusedVariables false
set_option linter.unusedSimpArgs false

def ratlineref02_TakeText.f (k : Nat) (l0 : List Int) (a1 : Int) : Option (ByteArray × List Int × Bool):=(ratlineref02_Take.f k l0).bind fun bt185 => (if bt185.2.2 = true then (if a1 < 0 then (some ((⟨#[]⟩ : BA),([] : List Int),false)) else (if bt185.1 > (IntKind.u64.wrap (a1)) then (some ((⟨#[]⟩ : BA),([] : List Int),false)) else (if bt185.1 > (IntKind.u64.wrap ((bt185.2.1.length : Int))) then (some ((⟨#[]⟩ : BA),([] : List Int),false)) else (if 0 ≤ bt185.1 then (if bt185.1 ≤ (bt185.2.1.length : Int) then ((ratlineref02_rest.f bt185.2.1 (wrap64 (bt185.1))).bind fun t194 => (some (strOfNums (bt185.2.1.take (bt185.1 : Int).toNat),t194,true))) else (none)) else (none))))) else (some ((⟨#[]⟩ : BA),([] : List Int),false)))
def ratlineref02_TakeText.T4 : Bool × List (List Nat × List Nat):=(true,[([],[]),([],[]),([0,1],[0,1]),([2],[2]),([],[]),([],[]),([5],[5]),([4,6],[4,6]),([3,7,0,1,2,3],[3]),([7,8,0,1,2,3,4,5,6,7,8],[7]),([9,0,1,2,3,4,5,6,7,8,9],[])])
def ratlineref02_TakeText.B4 : List Nat:=[0,0,3,7,0,0,32,112,255,511,1023]
theorem ratlineref02_TakeText.tab4 : rtab .any (opsOf Try.f54 4) = ratlineref02_TakeText.T4:=by kernel_rfl
theorem ratlineref02_TakeText.bits4 : waitsOk ratlineref02_TakeText.T4.2 ratlineref02_TakeText.B4 = true:=by kernel_rfl
set_option maxHeartbeats 8000000 in
set_option maxRecDepth 100000 in
theorem ratlineref02_TakeText.calls (k : Nat) (A0 : Option Addr) (c0 : Nat) (l0 : List Int) (a1 : Int) (r1 : BA) (r2 : List Int) (r3 : Bool) (w : World) (hr0 : Kd.C (Kd.int .u8) w A0 l0.length l0) (hc0 : l0.length ≤ c0) (h : ratlineref02_TakeText.f k l0 a1 = some (r1,r2,r3)) :
  Calls Try.prog 54 #[.slice A0 l0.length c0,.int .i64 a1] w fun e w' => ∃ v1_ : Value,e = .returned (.tuple #[.string r1,v1_,.bool r3]) ∧ Kd.R (Kd.int .u8) 5 w' w.heap.size (fun _ => True) v1_ r2 ∧ Below w.heap.size w w':=by
 have HR0:=Aside0.mk hr0
 have HC0:=Aside0.mk hc0
 clear hr0 hc0
 have HB:=Aside0.mk (Below.refl w.heap.size w)
 have H : ((ratlineref02_Take.f k l0).bind fun bt185 => (if bt185.2.2 = true then (if a1 < 0 then (some ((⟨#[]⟩ : BA),([] : List Int),false)) else (if bt185.1 > (IntKind.u64.wrap (a1)) then (some ((⟨#[]⟩ : BA),([] : List Int),false)) else (if bt185.1 > (IntKind.u64.wrap ((bt185.2.1.length : Int))) then (some ((⟨#[]⟩ : BA),([] : List Int),false)) else (if 0 ≤ bt185.1 then (if bt185.1 ≤ (bt185.2.1.length : Int) then ((ratlineref02_rest.f bt185.2.1 (wrap64 (bt185.1))).bind fun t194 => (some (strOfNums (bt185.2.1.take (bt185.1 : Int).toNat),t194,true))) else (none)) else (none))))) else (some ((⟨#[]⟩ : BA),([] : List Int),false)))) = some (r1,r2,r3):=h
 clear h
 replace H:=Option.bind_eq_some_iff.mp H
 obtain ⟨⟨t185,t186,t187⟩,A30,H⟩:=H
 replace H : (if t187 = true then (if a1 < 0 then (some ((⟨#[]⟩ : BA),([] : List Int),false)) else (if t185 > (IntKind.u64.wrap (a1)) then (some ((⟨#[]⟩ : BA),([] : List Int),false)) else (if t185 > (IntKind.u64.wrap ((t186.length : Int))) then (some ((⟨#[]⟩ : BA),([] : List Int),false)) else (if 0 ≤ t185 then (if t185 ≤ (t186.length : Int) then ((ratlineref02_rest.f t186 (wrap64 (t185))).bind fun t194 => (some (strOfNums (t186.take (t185 : Int).toNat),t194,true))) else (none)) else (none))))) else (some ((⟨#[]⟩ : BA),([] : List Int),false))) = some (r1,r2,r3):=H
 have A3:=Aside0.mk A30
 clear A30
 by_cases c4 : t187 = true
 rotate_left
 ·replace c4:=Bool.eq_false_iff.mpr c4
  subst c4
  have H1 : (some ((⟨#[]⟩ : BA),([] : List Int),false)) = some (r1,r2,r3):=by rw [if_neg (show ¬ (false = true) by decide)] at H;exact H
  clear H
  have H:=H1
  clear H1
  simp only [Option.some.injEq,Prod.mk.injEq] at H
  obtain ⟨rfl,rfl,rfl⟩:=H
  go_enter Try.func54,Try.ntmps54
  go_wp2_with (first|((with_reducible refine gate_callee (f:=53) rfl ?_);refine goesL_ (some 12) rfl rfl Try.func53 (by kernel_rfl) rfl #[.slice A0 l0.length c0] rfl (by (try simp only [List.map_toArray,List.map_cons,List.map_nil]);first|done|rfl|(simp only [List.length_drop,List.length_take];rfl)) ?_;(with_reducible refine (ratlineref02_Take.calls k _ _ l0 t185 t186 false _ ?side1 ?side2 A3.out).mono ?_);(case side1 => repeat (first|exact HR0.out|(with_reducible refine Kd.C_alloc ?_ _)|(with_reducible refine Kd.C_drewN ?_ _)|(with_reducible refine Kd.C_drew ?_)));(case side2 => exact HC0.out);rintro e w22 ⟨v188,rfl,ho0,hb⟩;refine ⟨_,rfl,?_⟩;have n0_:=Aside0.mk (Kd.R_lower ho0 (below_size (by repeat (first|(with_reducible first|exact HB.out|apply below_alloc|apply pw_below_drewN|apply below_drew1)|exact HB.out))));have n1_:=Aside0.mk (below_step (by repeat (first|(with_reducible first|exact HB.out|apply below_alloc|apply pw_below_drewN|apply below_drew1)|exact HB.out)) hb);clear HB;have HO189:=n0_;have HB:=n1_;clear n0_ n1_;(try clear hb);(try clear hb2);(try clear hk);(try clear hi);(try clear ho0)))
  go_ret3
  exact ⟨_,by first|rfl|(simp [errW_none,errW_some] <;> rfl)|(simp [*,errW_none,errW_some] <;> rfl),by first|exact Kd.R_nil _ _ _ _ _|exact Kd.N_nil _ _ _ _ _|exact Kd.V_nil _ _ _ _ _|exact Kd.Q_nil _ _ _ _ _|exact Kd.S_nil _ _ _ _ _,by repeat (first|(with_reducible first|exact HB.out|apply below_alloc|apply pw_below_drewN|apply below_drew1)|exact HB.out)⟩

 subst c4
 have H1 : (if a1 < 0 then (some ((⟨#[]⟩ : BA),([] : List Int),false)) else (if t185 > (IntKind.u64.wrap (a1)) then (some ((⟨#[]⟩ : BA),([] : List Int),false)) else (if t185 > (IntKind.u64.wrap ((t186.length : Int))) then (some ((⟨#[]⟩ : BA),([] : List Int),false)) else (if 0 ≤ t185 then (if t185 ≤ (t186.length : Int) then ((ratlineref02_rest.f t186 (wrap64 (t185))).bind fun t194 => (some (strOfNums (t186.take (t185 : Int).toNat),t194,true))) else (none)) else (none))))) = some (r1,r2,r3):=by rw [if_pos rfl] at H;exact H
 clear H
 have H:=H1
 clear H1
 by_cases c5 : a1 < 0
 ·rw [if_pos c5] at H
  have c5b0 : decide (a1 < 0) = true:=decide_eq_true c5
  clear c5
  simp only [Option.some.injEq,Prod.mk.injEq] at H
  obtain ⟨rfl,rfl,rfl⟩:=H
  go_enter Try.func54,Try.ntmps54
  go_wp2_with (first|((with_reducible refine gate_callee (f:=53) rfl ?_);refine goesL_ (some 12) rfl rfl Try.func53 (by kernel_rfl) rfl #[.slice A0 l0.length c0] rfl (by (try simp only [List.map_toArray,List.map_cons,List.map_nil]);first|done|rfl|(simp only [List.length_drop,List.length_take];rfl)) ?_;(with_reducible refine (ratlineref02_Take.calls k _ _ l0 t185 t186 true _ ?side1 ?side2 A3.out).mono ?_);(case side1 => repeat (first|exact HR0.out|(with_reducible refine Kd.C_alloc ?_ _)|(with_reducible refine Kd.C_drewN ?_ _)|(with_reducible refine Kd.C_drew ?_)));(case side2 => exact HC0.out);rintro e w6 ⟨v188,rfl,ho0,hb⟩;refine ⟨_,rfl,?_⟩;have n0_:=Aside0.mk (Kd.R_lower ho0 (below_size (by repeat (first|(with_reducible first|exact HB.out|apply below_alloc|apply pw_below_drewN|apply below_drew1)|exact HB.out))));have n1_:=Aside0.mk (below_step (by repeat (first|(with_reducible first|exact HB.out|apply below_alloc|apply pw_below_drewN|apply below_drew1)|exact HB.out)) hb);clear HB;have HO189:=n0_;have HB:=n1_;clear n0_ n1_;(try clear hb);(try clear hb2);(try clear hk);(try clear hi);(try clear ho0)))
  go_ret3
  exact ⟨_,by first|rfl|(simp [errW_none,errW_some] <;> rfl)|(simp [*,errW_none,errW_some] <;> rfl),by first|exact Kd.R_nil _ _ _ _ _|exact Kd.N_nil _ _ _ _ _|exact Kd.V_nil _ _ _ _ _|exact Kd.Q_nil _ _ _ _ _|exact Kd.S_nil _ _ _ _ _,by repeat (first|(with_reducible first|exact HB.out|apply below_alloc|apply pw_below_drewN|apply below_drew1)|exact HB.out)⟩
 ·rw [if_neg c5] at H
  have c5b0 : decide (a1 < 0) = false:=decide_eq_false c5
  clear c5
  by_cases c7 : t185 > (IntKind.u64.wrap (a1))
  ·rw [if_pos c7] at H
   have c7b0 : decide ((IntKind.u64.wrap (a1)) < t185) = true:=decide_eq_true c7
   clear c7
   simp only [Option.some.injEq,Prod.mk.injEq] at H
   obtain ⟨rfl,rfl,rfl⟩:=H
   go_enter Try.func54,Try.ntmps54
   go_wp2_with (first|((with_reducible refine gate_callee (f:=53) rfl ?_);refine goesL_ (some 12) rfl rfl Try.func53 (by kernel_rfl) rfl #[.slice A0 l0.length c0] rfl (by (try simp only [List.map_toArray,List.map_cons,List.map_nil]);first|done|rfl|(simp only [List.length_drop,List.length_take];rfl)) ?_;(with_reducible refine (ratlineref02_Take.calls k _ _ l0 t185 t186 true _ ?side1 ?side2 A3.out).mono ?_);(case side1 => repeat (first|exact HR0.out|(with_reducible refine Kd.C_alloc ?_ _)|(with_reducible refine Kd.C_drewN ?_ _)|(with_reducible refine Kd.C_drew ?_)));(case side2 => exact HC0.out);rintro e w8 ⟨v188,rfl,ho0,hb⟩;refine ⟨_,rfl,?_⟩;have n0_:=Aside0.mk (Kd.R_lower ho0 (below_size (by repeat (first|(with_reducible first|exact HB.out|apply below_alloc|apply pw_below_drewN|apply below_drew1)|exact HB.out))));have n1_:=Aside0.mk (below_step (by repeat (first|(with_reducible first|exact HB.out|apply below_alloc|apply pw_below_drewN|apply below_drew1)|exact HB.out)) hb);clear HB;have HO189:=n0_;have HB:=n1_;clear n0_ n1_;(try clear hb);(try clear hb2);(try clear hk);(try clear hi);(try clear ho0)))
   go_ret3
   exact ⟨_,by first|rfl|(simp [errW_none,errW_some] <;> rfl)|(simp [*,errW_none,errW_some] <;> rfl),by first|exact Kd.R_nil _ _ _ _ _|exact Kd.N_nil _ _ _ _ _|exact Kd.V_nil _ _ _ _ _|exact Kd.Q_nil _ _ _ _ _|exact Kd.S_nil _ _ _ _ _,by repeat (first|(with_reducible first|exact HB.out|apply below_alloc|apply pw_below_drewN|apply below_drew1)|exact HB.out)⟩
  ·rw [if_neg c7] at H
   have c7b0 : decide ((IntKind.u64.wrap (a1)) < t185) = false:=decide_eq_false c7
   clear c7
   by_cases c9 : t185 > (IntKind.u64.wrap ((t186.length : Int)))
   ·rw [if_pos c9] at H
    have c9b0 : decide ((IntKind.u64.wrap ((t186.length : Int))) < t185) = true:=decide_eq_true c9
    clear c9
    simp only [Option.some.injEq,Prod.mk.injEq] at H
    obtain ⟨rfl,rfl,rfl⟩:=H
    go_enter Try.func54,Try.ntmps54
    go_wp2_with (first|((with_reducible refine gate_callee (f:=53) rfl ?_);refine goesL_ (some 12) rfl rfl Try.func53 (by kernel_rfl) rfl #[.slice A0 l0.length c0] rfl (by (try simp only [List.map_toArray,List.map_cons,List.map_nil]);first|done|rfl|(simp only [List.length_drop,List.length_take];rfl)) ?_;(with_reducible refine (ratlineref02_Take.calls k _ _ l0 t185 t186 true _ ?side1 ?side2 A3.out).mono ?_);(case side1 => repeat (first|exact HR0.out|(with_reducible refine Kd.C_alloc ?_ _)|(with_reducible refine Kd.C_drewN ?_ _)|(with_reducible refine Kd.C_drew ?_)));(case side2 => exact HC0.out);rintro e w10 ⟨v188,rfl,ho0,hb⟩;refine ⟨_,rfl,?_⟩;have n0_:=Aside0.mk (Kd.R_lower ho0 (below_size (by repeat (first|(with_reducible first|exact HB.out|apply below_alloc|apply pw_below_drewN|apply below_drew1)|exact HB.out))));have n1_:=Aside0.mk (below_step (by repeat (first|(with_reducible first|exact HB.out|apply below_alloc|apply pw_below_drewN|apply below_drew1)|exact HB.out)) hb);clear HB;have HO189:=n0_;have HB:=n1_;clear n0_ n1_;(try clear hb);(try clear hb2);(try clear hk);(try clear hi);(try clear ho0);obtain ⟨Ao11,co11,eo11⟩:=Kd.R_slice HO189.out;subst eo11))
    go_ret3
    exact ⟨_,by first|rfl|(simp [errW_none,errW_some] <;> rfl)|(simp [*,errW_none,errW_some] <;> rfl),by first|exact Kd.R_nil _ _ _ _ _|exact Kd.N_nil _ _ _ _ _|exact Kd.V_nil _ _ _ _ _|exact Kd.Q_nil _ _ _ _ _|exact Kd.S_nil _ _ _ _ _,by repeat (first|(with_reducible first|exact HB.out|apply below_alloc|apply pw_below_drewN|apply below_drew1)|exact HB.out)⟩
   ·rw [if_neg c9] at H
    have c9b0 : decide ((IntKind.u64.wrap ((t186.length : Int))) < t185) = false:=decide_eq_false c9
    clear c9
    by_cases c12 : 0 ≤ t185
    rotate_left
    ·rw [if_neg c12] at H
     exact absurd H (by simp)
    rw [if_pos c12] at H
    have c12b0:=eq_true c12
    have c12b1 : decide (0 ≤ t185) = true:=decide_eq_true c12
    clear c12
    by_cases c13 : t185 ≤ (t186.length : Int)
    rotate_left
    ·rw [if_neg c13] at H
     exact absurd H (by simp)
    rw [if_pos c13] at H
    have c13b0:=eq_true c13
    have c13b1 : decide (t185 ≤ (t186.length : Int)) = true:=decide_eq_true c13
    clear c13
    obtain ⟨y190,hy190⟩ : ∃ y_ : List Int,y_ = (t186.take (t185 : Int).toNat):=⟨_,rfl⟩
    replace H : ((ratlineref02_rest.f t186 (wrap64 (t185))).bind fun t194 => (some (strOfNums y190,t194,true))) = some (r1,r2,r3):=by first|(rw [hy190];with_reducible exact H)|(have H2_:=(Option.bind_some _ _).symm.trans H;rw [hy190];with_reducible exact H2_)|(have H2_:=(Option.bind_some _ _).symm.trans H;with_reducible exact H2_)|with_reducible exact H|(rw [hy190];exact H)|exact H
    have Ny190:=Aside0.mk hy190
    clear hy190
    replace H:=Option.bind_eq_some_iff.mp H
    obtain ⟨t194,A140,H⟩:=H
    replace H : (some (strOfNums y190,t194,true)) = some (r1,r2,r3):=H
    have A14:=Aside0.mk A140
    clear A140
    simp only [Option.some.injEq,Prod.mk.injEq] at H
    obtain ⟨rfl,rfl,rfl⟩:=H
    go_enter Try.func54,Try.ntmps54
    try go_wp2_with (first|((with_reducible refine gate_callee (f:=53) rfl ?_);refine goesL_ (some 12) rfl rfl Try.func53 (by kernel_rfl) rfl #[.slice A0 l0.length c0] rfl (by (try simp only [List.map_toArray,List.map_cons,List.map_nil]);first|done|rfl|(simp only [List.length_drop,List.length_take];rfl)) ?_;(with_reducible refine (ratlineref02_Take.calls k _ _ l0 t185 t186 true _ ?side1 ?side2 A3.out).mono ?_);(case side1 => repeat (first|exact HR0.out|(with_reducible refine Kd.C_alloc ?_ _)|(with_reducible refine Kd.C_drewN ?_ _)|(with_reducible refine Kd.C_drew ?_)));(case side2 => exact HC0.out);rintro e w15 ⟨v188,rfl,ho0,hb⟩;refine ⟨_,rfl,?_⟩;have n0_:=Aside0.mk (Kd.R_lower ho0 (below_size (by repeat (first|(with_reducible first|exact HB.out|apply below_alloc|apply pw_below_drewN|apply below_drew1)|exact HB.out))));have n1_:=Aside0.mk (below_step (by repeat (first|(with_reducible first|exact HB.out|apply below_alloc|apply pw_below_drewN|apply below_drew1)|exact HB.out)) hb);clear HB;have HO189:=n0_;have HB:=n1_;clear n0_ n1_;(try clear hb);(try clear hb2);(try clear hk);(try clear hi);(try clear ho0);obtain ⟨Ao16,co16,eo16⟩:=Kd.R_slice HO189.out;subst eo16))
    have n0_:=Aside0.mk (Kd.R_drew HO189.out)
    have n1_:=Aside0.mk (below_drew1 HB.out)
    clear HO189
    clear HB
    have HO189:=n0_
    have HB:=n1_
    clear n0_ n1_
    have q18 : (t185 : Int) ≤ ((t186.length : Int) : Int):=of_decide_eq_true (by first|(with_reducible assumption)|assumption)
    obtain ⟨i018,hi018,_,hsz18,_⟩:=info_parts info5
    have hroom18 : t186.length ≤ co16:=(Kd.R_reads' HO189.out).2.1
    have hC18 : Kd.C (Kd.int .u8) _ Ao16 t186.length t186:=(Kd.R_reads' HO189.out).2.2
    have hcut18:=cut_to (P:=Try.prog) 26 5 .u64 Try.underlying26 hi018 Ao16 t186.length co16 t185 (of_decide_eq_true (by first|(with_reducible assumption)|assumption)) q18 hroom18
    have hr18:=Kd.C_take (m:=(t185 : Int).toNat) hC18 (by omega)
    have hy18 : y190.length = (t185 : Int).toNat:=(by rw [Ny190.out,List.length_take];omega)
    rw [← Ny190.out] at hr18
    rw [← hy18] at hcut18
    have HR193:=Aside0.mk hr18
    have HC193:=Aside0.mk (show y190.length ≤ co16 from by omega)
    clear hr18 hC18 hroom18 hi018 hsz18
    have KY18:=Aside0.mk hy18
    clear hy18
    have KL18:=Aside0.mk (show (t185 : Int).toNat ≤ t186.length from by omega)
    replace q18:=eq_true q18
    have hcv19:=Kd.C_string (P:=Try.prog) (A:=Ao16) (c:=co16) Try.underlying26 Try.underlying5 Try.underlying9 (by repeat (first|(with_reducible exact HR193.out)|(with_reducible refine Kd.C_alloc ?_ _)|(with_reducible refine Kd.C_drewN ?_ _)|(with_reducible refine Kd.C_drew ?_)|exact HR193.out))
    obtain ⟨S_,hS0_,hS1_,hS2_⟩:=conv_stays (P:=Try.prog) (A:=Ao16) (c:=co16) Try.underlying26 Try.underlying5 Try.underlying9 (by repeat (first|(with_reducible exact HR193.out)|(with_reducible refine Kd.C_alloc ?_ _)|(with_reducible refine Kd.C_drewN ?_ _)|(with_reducible refine Kd.C_drew ?_)|exact HR193.out))
    refine start_ (n:=11) (S:=fun w' => S_ w') (ds:=[]) #[ff,ff,ff,ff,ff,ff,ff,ff,ff,ff,ff] (by kernel_rfl) rfl rfl ((by first|exact hS0_|exact hS1_ _ _ hS0_ (below_drew (Below.refl _ _)))) (fun hHeld => ?_);refine with_tabW ratlineref02_TakeText.tab4 ratlineref02_TakeText.bits4 (fun HT_ HW_ => ?_)
    generalize w15.drew = w17 at HO189 HB HR193 hHeld ⊢
    refine pure_ (i:=0) (N:=some 35) (v:=?_) (a':=?_) #[tt,ff,ff,ff,ff,ff,ff,ff,ff,ff,ff] rfl rfl (any_of HT_.out (by kernel_rfl)) (fun _ _ _ h => h) (Or.inl ⟨by rfl,?_⟩) ?_ ?_
    rotate_left
    ·intro w'
     go_simp
     with_reducible rfl
    rotate_left
    ·simp only [Act.put,sA,sZ,sS,i64_w,i32_w]
     rfl
    refine pure_ (i:=1) (N:=some 36) (v:=?_) (a':=?_) #[tt,tt,ff,ff,ff,ff,ff,ff,ff,ff,ff] rfl rfl (any_of HT_.out (by kernel_rfl)) (fun _ _ _ h => h) (Or.inl ⟨by rfl,?_⟩) ?_ ?_
    rotate_left
    ·intro w'
     go_simp
     with_reducible rfl
    rotate_left
    ·simp only [Act.put,sA,sZ,sS,i64_w,i32_w]
     rfl
    refine pure_ (i:=2) (N:=some 37) (v:=?_) (a':=?_) #[tt,tt,tt,ff,ff,ff,ff,ff,ff,ff,ff] rfl rfl (any_of HT_.out (by kernel_rfl)) (fun _ _ _ h => h) (Or.inl ⟨by rfl,?_⟩) ?_ ?_
    rotate_left
    ·intro w'
     go_simp
     with_reducible rfl
    rotate_left
    ·simp only [Act.put,sA,sZ,sS,i64_w,i32_w]
     rfl
    refine pure_ (i:=4) (N:=some 39) (v:=?_) (a':=?_) #[tt,tt,tt,ff,tt,ff,ff,ff,ff,ff,ff] rfl rfl (any_of HT_.out (by kernel_rfl)) (fun _ _ _ h => h) (Or.inl ⟨by rfl,?_⟩) ?_ ?_
    rotate_left
    ·intro w'
     go_simp
     with_reducible rfl
    rotate_left
    ·simp only [Act.put,sA,sZ,sS,i64_w,i32_w]
     rfl
    refine pure_ (i:=5) (N:=some 40) (v:=?_) (a':=?_) #[tt,tt,tt,ff,tt,tt,ff,ff,ff,ff,ff] rfl rfl (any_of HT_.out (by kernel_rfl)) (fun _ _ _ h => h) (Or.inl ⟨by rfl,?_⟩) ?_ ?_
    rotate_left
    ·intro w'
     go_simp
     with_reducible rfl
    rotate_left
    ·simp only [Act.put,sA,sZ,sS,i64_w,i32_w]
     rfl
    refine pure_ (i:=6) (N:=some 41) (v:=?_) (a':=?_) #[tt,tt,tt,ff,tt,tt,tt,ff,ff,ff,ff] rfl rfl (any_of HT_.out (by kernel_rfl)) (fun _ _ _ h => h) (Or.inl ⟨by rfl,?_⟩) ?_ ?_
    rotate_left
    ·intro w'
     go_simp
     with_reducible rfl
    rotate_left
    ·simp only [Act.put,sA,sZ,sS,i64_w,i32_w]
     rfl
    refine take_ (i:=3) (N:=some 38) (v:=?_) (a':=?_) #[tt,tt,tt,tt,tt,tt,tt,ff,ff,ff,ff] rfl rfl (take_ofW HT_.out HW_.out (by kernel_rfl)) (fun _ _ _ h => h) (Or.inl ⟨by rfl,?_⟩) hHeld ?_ ?_
    rotate_left
    ·intro w' s0
     have s1_:=hS2_ _ s0
     go_simp
     with_reducible rfl
    rotate_left
    ·simp only [Act.put,sA,sZ,sS,i64_w,i32_w]
     rfl
    refine one_ (i:=7) (N:=some 42) #[tt,tt,tt,tt,tt,tt,tt,tt,ff,ff,ff] rfl rfl (one_of HT_.out (by kernel_rfl)) (by decide) (fun K hK => ?_)
    refine goes_ Try.func74 (by kernel_rfl) rfl #[.slice Ao16 t186.length co16,.int .i64 (wrap64 (t185))] (by rfl) rfl rfl (by (try simp only [List.map_toArray,List.map_cons,List.map_nil]);first|done|rfl|(simp only [List.length_drop,List.length_take];rfl)) ?_
    with_reducible refine (ratlineref02_rest.calls _ _ t186 (wrap64 (t185)) t194 _ ?side1 ?side2 A14.out).mono ?_
    (case side1 => repeat (first|exact (Kd.R_reads' HO189.out).2.2|(with_reducible refine Kd.C_alloc ?_ _)|(with_reducible refine Kd.C_drewN ?_ _)|(with_reducible refine Kd.C_drew ?_)))
    (case side2 => exact (Kd.R_reads' HO189.out).2.1)
    rintro e w20 ⟨v195,rfl,ho0,hb⟩
    have hHn_:=hS1_ _ _ hHeld hb
    refine ⟨_,rfl,?_⟩
    have n0_:=Aside0.mk (Kd.R_elder' (by (with_reducible repeat (first|apply zA|apply zN|apply zD));exact HO189.out) (Kd.R_base ho0) hb)
    have n1_:=Aside0.mk (Kd.R_lower (Kd.R_new' ho0 (Kd.R_lt (by (with_reducible repeat (first|apply zA|apply zN|apply zD));exact HO189.out))) (below_size (by repeat (first|(with_reducible first|exact HB.out|apply below_alloc|apply pw_below_drewN|apply below_drew1)|exact HB.out))))
    have n2_:=Aside0.mk (Kd.C_below (by repeat (first|(with_reducible exact HR193.out)|(with_reducible refine Kd.C_alloc ?_ _)|(with_reducible refine Kd.C_drewN ?_ _)|(with_reducible refine Kd.C_drew ?_)|exact HR193.out)) hb)
    have n3_:=Aside0.mk (below_step (by repeat (first|(with_reducible first|exact HB.out|apply below_alloc|apply pw_below_drewN|apply below_drew1)|exact HB.out)) hb)
    clear HO189
    clear HR193
    clear HB
    have HO189:=n0_
    have HO196:=n1_
    have HR193:=n2_
    have HB:=n3_
    clear n0_ n1_ n2_ n3_
    (try clear hb)
    (try clear hb2)
    (try clear hk)
    (try clear hi)
    (try clear ho0)
    refine hK.out _ _ (hHn_) (fun hHeld => ?_)
    clear hK K
    refine norm_ (a':=?_) ?_ ?_
    rotate_left
    ·show Act.put _ (some 42) _ = _
     simp only [Act.put,sA,sZ,sS,i64_w,i32_w]
     rfl
    refine pure_ (i:=8) (N:=some 4) (v:=?_) (a':=?_) #[tt,tt,tt,tt,tt,tt,tt,tt,tt,ff,ff] rfl rfl (any_of HT_.out (by kernel_rfl)) (fun _ _ _ h => h) (Or.inl ⟨by rfl,?_⟩) ?_ ?_
    rotate_left
    ·intro w'
     go_simp
     with_reducible rfl
    rotate_left
    ·simp only [Act.put,sA,sZ,sS,i64_w,i32_w]
     rfl
    refine pure_ (i:=9) (N:=some 5) (v:=?_) (a':=?_) #[tt,tt,tt,tt,tt,tt,tt,tt,tt,tt,ff] rfl rfl (any_of HT_.out (by kernel_rfl)) (fun _ _ _ h => h) (Or.inl ⟨by rfl,?_⟩) ?_ ?_
    rotate_left
    ·intro w'
     go_simp
     with_reducible rfl
    rotate_left
    ·simp only [Act.put,sA,sZ,sS,i64_w,i32_w]
     rfl
    refine pure_ (i:=10) (N:=some 6) (v:=?_) (a':=?_) #[tt,tt,tt,tt,tt,tt,tt,tt,tt,tt,tt] rfl rfl (any_of HT_.out (by kernel_rfl)) (fun _ _ _ h => h) (Or.inl ⟨by rfl,?_⟩) ?_ ?_
    rotate_left
    ·intro w'
     go_simp
     with_reducible rfl
    rotate_left
    ·simp only [Act.put,sA,sZ,sS,i64_w,i32_w]
     rfl
    refine done_ (done_of HT_.out (by kernel_rfl)) ?_
    try go_wp2
    go_ret3
    exact ⟨_,by first|rfl|(simp [errW_none,errW_some] <;> rfl)|(simp [*,errW_none,errW_some] <;> rfl),by (with_reducible repeat (first|apply zA|apply zN|apply zD));exact Kd.R_mono HO196.out (fun _ hk => trivial),by repeat (first|(with_reducible first|exact HB.out|apply below_alloc|apply pw_below_drewN|apply below_drew1)|exact HB.out)⟩
end Go.Proofs.Ytcagajobpnpicaa.P

end

section
namespace Go.Proofs.Ytcagajobpnpicaa.P
open Go.RowKit Go.Proofs.YtcagajobpnpicaaG Go.Proofs.YtcagajobpnpicaaW.PrintWords Go.Proofs.YtcagajobpnpicaaW.PrintLast Go.Proofs.YtcagajobpnpicaaW.PrintMore
attribute [local go_sem] str_gtr str_geq str_leq max2_int min2_int max_two min_two max_three min_three max_four min_four   -- for this text's walks alone
set_option linter.unusedVariables false
set_option linter.unusedSimpArgs false

def ratlineref09_reader_text.f (k : Nat) (l0_0 : List Int) (a0_1 : Bool) : Option (ByteArray × List Int × Bool):=(ratlineref02_TakeText.f k l0_0 64).bind fun bt199 => (if a0_1 = true then (some (bt199.1,bt199.2.1,true)) else (some (bt199.1,bt199.2.1,!bt199.2.2)))
set_option maxHeartbeats 8000000 in
set_option maxRecDepth 100000 in
theorem ratlineref09_reader_text.calls (k : Nat) (A0_0 : Option Addr) (c0_0 : Nat) (l0_0 : List Int) (a0_1 : Bool) (r1 : BA) (r2 : List Int) (r3 : Bool) (w : World) (hr0_0 : Kd.C (Kd.int .u8) w A0_0 l0_0.length l0_0) (hc0_0 : l0_0.length ≤ c0_0) (h : ratlineref09_reader_text.f k l0_0 a0_1 = some (r1,r2,r3)) :
  Calls Try.prog 37 #[.agg #[.slice A0_0 l0_0.length c0_0,.bool a0_1]] w fun e w' => ∃ v1_ : Value,e = .returned (.tuple #[.string r1,.agg #[v1_,.bool r3]]) ∧ Kd.R (Kd.int .u8) 5 w' w.heap.size (fun _ => True) v1_ r2 ∧ Below w.heap.size w w':=by
 have hu72:=Try.underlying72
 have HR0_0:=Aside0.mk hr0_0
 have HC0_0:=Aside0.mk hc0_0
 clear hr0_0 hc0_0
 have HB:=Aside0.mk (Below.refl w.heap.size w)
 have H : ((ratlineref02_TakeText.f k l0_0 64).bind fun bt199 => (if a0_1 = true then (some (bt199.1,bt199.2.1,true)) else (some (bt199.1,bt199.2.1,!bt199.2.2)))) = some (r1,r2,r3):=h
 clear h
 replace H:=Option.bind_eq_some_iff.mp H
 obtain ⟨⟨t199,t200,t201⟩,A20,H⟩:=H
 replace H : (if a0_1 = true then (some (t199,t200,true)) else (some (t199,t200,!t201))) = some (r1,r2,r3):=H
 have A2:=Aside0.mk A20
 clear A20
 by_cases c3 : a0_1 = true
 ·subst c3
  have H1 : (some (t199,t200,true)) = some (r1,r2,r3):=by rw [if_pos rfl] at H;exact H
  clear H
  have H:=H1
  clear H1
  simp only [Option.some.injEq,Prod.mk.injEq] at H
  obtain ⟨rfl,rfl,rfl⟩:=H
  go_enter Try.func37,Try.ntmps37
  go_wp2_with (first|((with_reducible refine gate_dst (N:=1) rfl ?_);refine box_event ?hg (N:=1) ?hd (cs:=#[.slice A0_0 l0_0.length c0_0,.bool true]) (t:=72) ?hr ?_;(case hd => rfl);(case hg => rfl);(case hr => first|(go_simp;done)|(go_simp;rfl));intro gb197 hg w4 hbox hb;have n0_:=Aside0.mk (below_step (by repeat (first|(with_reducible first|exact HB.out|apply below_alloc|apply pw_below_drewN|apply below_drew1)|exact HB.out)) hb);have n1_:=Aside0.mk (hbox);have n2_:=Aside0.mk ((by rw [hg];exact (below_size (by repeat (first|(with_reducible first|exact HB.out|apply below_alloc|apply pw_below_drewN|apply below_drew1)|exact HB.out))) : w.heap.size ≤ gb197));have n3_:=Aside0.mk ((by rw [hg];exact (below_size (by repeat (first|(with_reducible first|exact HB.out|apply below_alloc|apply pw_below_drewN|apply below_drew1)|exact HB.out))) : w.heap.size ≤ gb197));clear HB;have HB:=n0_;have BK197:=n1_;have GW197:=n2_;have GE197:=n3_;clear n0_ n1_ n2_ n3_;clear hb hbox hg)|((with_reducible refine gate_dst (N:=3) rfl ?_);refine box_event ?hg (N:=3) ?hd (cs:=#[.slice none 0 0,.bool false]) (t:=72) ?hr ?_;(case hd => rfl);(case hg => rfl);(case hr => first|(go_simp;done)|(go_simp;rfl));intro gb198 hg w5 hbox hb;have n0_:=Aside0.mk (blk_below (g:=gb197) (o:=.cells #[.slice A0_0 l0_0.length c0_0,.bool true] 72 (0,0)) (by (with_reducible repeat (first|refine bN ?_ _|refine bD ?_|refine bA ?_ _));exact BK197.out) hb);have n1_:=Aside0.mk (below_step (by repeat (first|(with_reducible first|exact HB.out|apply below_alloc|apply pw_below_drewN|apply below_drew1|refine below_set ?_ GE197.out)|exact HB.out)) hb);have n2_:=Aside0.mk (hbox);have n3_:=Aside0.mk ((by rw [hg];exact (below_size (by repeat (first|(with_reducible first|exact HB.out|apply below_alloc|apply pw_below_drewN|apply below_drew1|refine below_set ?_ GE197.out)|exact HB.out))) : w.heap.size ≤ gb198));have n4_:=Aside0.mk ((by rw [hg];exact (below_size (by repeat (first|(with_reducible first|exact HB.out|apply below_alloc|apply pw_below_drewN|apply below_drew1|refine below_set ?_ GE197.out)|exact HB.out))) : w.heap.size ≤ gb198));have n5_:=Aside0.mk ((by rw [hg];exact Nat.ne_of_lt (blk_lt (g:=gb197) (o:=.cells #[.slice A0_0 l0_0.length c0_0,.bool true] 72 (0,0)) (by (with_reducible repeat (first|refine bN ?_ _|refine bD ?_|refine bA ?_ _));exact BK197.out)) : gb197 ≠ gb198));have n6_:=Aside0.mk ((by rw [hg];exact Nat.ne_of_gt (blk_lt (g:=gb197) (o:=.cells #[.slice A0_0 l0_0.length c0_0,.bool true] 72 (0,0)) (by (with_reducible repeat (first|refine bN ?_ _|refine bD ?_|refine bA ?_ _));exact BK197.out)) : gb198 ≠ gb197));clear BK197;clear HB;have BK197:=n0_;have HB:=n1_;have BK198:=n2_;have GW198:=n3_;have GE198:=n4_;have NB197_198:=n5_;have NB198_197:=n6_;clear n0_ n1_ n2_ n3_ n4_ n5_ n6_;clear hb hbox hg;have hnb6:=NB197_198.out;have hnc6:=NB198_197.out;have hcz7_0 : w5.cell? ⟨gb197,0,none⟩ = some (.slice A0_0 l0_0.length c0_0):=(blk_cell BK197.out 0).trans rfl;have hcz7_1 : w5.cell? ⟨gb197,1,none⟩ = some (.bool true):=(blk_cell BK197.out 1).trans rfl;have hfz7_0:=blk_frozen BK197.out 0;have hfz7_1:=blk_frozen BK197.out 1)|((with_reducible refine gate_callee (f:=54) rfl ?_);refine goesL_ (some 10) rfl rfl Try.func54 (by kernel_rfl) rfl #[.slice A0_0 l0_0.length c0_0,.int .i64 64] rfl (by (try simp only [List.map_toArray,List.map_cons,List.map_nil]);first|done|rfl|(simp only [List.length_drop,List.length_take];rfl)) ?_;(with_reducible refine (ratlineref02_TakeText.calls k _ _ l0_0 64 t199 t200 t201 _ ?side1 ?side2 A2.out).mono ?_);(case side1 => repeat (first|exact (Kd.C_below HR0_0.out HB.out)|(with_reducible refine Kd.C_alloc ?_ _)|(with_reducible refine Kd.C_drewN ?_ _)|(with_reducible refine Kd.C_drew ?_)));(case side2 => exact HC0_0.out);rintro e w8 ⟨v202,rfl,ho0,hb⟩;refine ⟨_,rfl,?_⟩;have n0_:=Aside0.mk (Kd.R_lower ho0 (below_size (by repeat (first|(with_reducible first|exact HB.out|apply below_alloc|apply pw_below_drewN|apply below_drew1|refine below_set ?_ GE197.out|refine below_set ?_ GE198.out)|exact HB.out))));have n1_:=Aside0.mk (blk_below (g:=gb197) (o:=.cells #[.slice A0_0 l0_0.length c0_0,.bool true] 72 (0,0)) (by (with_reducible repeat (first|refine bN ?_ _|refine bD ?_|refine bA ?_ _));exact BK197.out) hb);have n2_:=Aside0.mk (blk_below (g:=gb198) (o:=.cells #[.slice none 0 0,.bool false] 72 (0,0)) (by (with_reducible repeat (first|refine bN ?_ _|refine bD ?_|refine bA ?_ _));exact BK198.out) hb);have n3_:=Aside0.mk (below_step (by repeat (first|(with_reducible first|exact HB.out|apply below_alloc|apply pw_below_drewN|apply below_drew1|refine below_set ?_ GE197.out|refine below_set ?_ GE198.out)|exact HB.out)) hb);clear BK197;clear BK198;clear HB;have HO203:=n0_;have BK197:=n1_;have BK198:=n2_;have HB:=n3_;clear n0_ n1_ n2_ n3_;(try clear hb);(try clear hb2);(try clear hk);(try clear hi);(try clear ho0);have hcz9_0 : w8.cell? ⟨gb197,0,none⟩ = some (.slice A0_0 l0_0.length c0_0):=(blk_cell BK197.out 0).trans rfl;have hcz9_1 : w8.cell? ⟨gb197,1,none⟩ = some (.bool true):=(blk_cell BK197.out 1).trans rfl;have hfz9_0:=blk_frozen BK197.out 0;have hfz9_1:=blk_frozen BK197.out 1;obtain ⟨Ao10,co10,eo10⟩:=Kd.R_slice HO203.out;subst eo10;have hcz11_0 : w8.cell? ⟨gb198,0,none⟩ = some (.slice none 0 0):=(blk_cell BK198.out 0).trans rfl;have hcz11_1 : w8.cell? ⟨gb198,1,none⟩ = some (.bool false):=(blk_cell BK198.out 1).trans rfl;have hfz11_0:=blk_frozen BK198.out 0;have hfz11_1:=blk_frozen BK198.out 1))
  refine bodyPost_ret (results_tc rfl _ _ gb198 72 #[.slice Ao10 t200.length co10,.bool true] (0,0) _ rfl (by (with_reducible repeat (first|refine bN ?_ _|refine bD ?_|refine bA ?_ _));refine blk_put (cs:=#[.slice Ao10 t200.length co10,.bool false]) ?_ 1 _ rfl;(with_reducible repeat (first|refine bN ?_ _|refine bD ?_|refine bA ?_ _));refine blk_put (cs:=#[.slice none 0 0,.bool false]) ?_ 0 _ rfl;(with_reducible repeat (first|refine bN ?_ _|refine bD ?_|refine bA ?_ _));exact BK198.out) Try.underlying72 rfl (by kernel_rfl)) rfl ?_
  exact ⟨_,by first|rfl|(simp [errW_none,errW_some] <;> rfl)|(simp [*,errW_none,errW_some] <;> rfl),by (with_reducible repeat (first|apply zA|apply zN|apply zD));exact Kd.R_mono (Kd.R_far (p:=⟨gb198,1,none⟩) (Kd.R_far (p:=⟨gb198,0,none⟩) (Kd.R_types HO203.out BK198.out (by decide)) (fun _ hk => hk.2) (.slice Ao10 t200.length co10)) (fun _ hk => hk.2) (.bool true)) (fun _ hk => trivial),by repeat (first|(with_reducible first|exact HB.out|apply below_alloc|apply pw_below_drewN|apply below_drew1|refine below_set ?_ GE197.out|refine below_set ?_ GE198.out)|exact HB.out)⟩
 ·replace c3:=Bool.eq_false_iff.mpr c3
  subst c3
  have H1 : (some (t199,t200,!t201)) = some (r1,r2,r3):=by rw [if_neg (show ¬ (false = true) by decide)] at H;exact H
  clear H
  have H:=H1
  clear H1
  simp only [Option.some.injEq,Prod.mk.injEq] at H
  obtain ⟨rfl,rfl,rfl⟩:=H
  go_enter Try.func37,Try.ntmps37
  go_wp2_with (first|((with_reducible refine gate_dst (N:=1) rfl ?_);refine box_event ?hg (N:=1) ?hd (cs:=#[.slice A0_0 l0_0.length c0_0,.bool false]) (t:=72) ?hr ?_;(case hd => rfl);(case hg => rfl);(case hr => first|(go_simp;done)|(go_simp;rfl));intro gb197 hg w12 hbox hb;have n0_:=Aside0.mk (below_step (by repeat (first|(with_reducible first|exact HB.out|apply below_alloc|apply pw_below_drewN|apply below_drew1)|exact HB.out)) hb);have n1_:=Aside0.mk (hbox);have n2_:=Aside0.mk ((by rw [hg];exact (below_size (by repeat (first|(with_reducible first|exact HB.out|apply below_alloc|apply pw_below_drewN|apply below_drew1)|exact HB.out))) : w.heap.size ≤ gb197));have n3_:=Aside0.mk ((by rw [hg];exact (below_size (by repeat (first|(with_reducible first|exact HB.out|apply below_alloc|apply pw_below_drewN|apply below_drew1)|exact HB.out))) : w.heap.size ≤ gb197));clear HB;have HB:=n0_;have BK197:=n1_;have GW197:=n2_;have GE197:=n3_;clear n0_ n1_ n2_ n3_;clear hb hbox hg)|((with_reducible refine gate_dst (N:=3) rfl ?_);refine box_event ?hg (N:=3) ?hd (cs:=#[.slice none 0 0,.bool false]) (t:=72) ?hr ?_;(case hd => rfl);(case hg => rfl);(case hr => first|(go_simp;done)|(go_simp;rfl));intro gb198 hg w13 hbox hb;have n0_:=Aside0.mk (blk_below (g:=gb197) (o:=.cells #[.slice A0_0 l0_0.length c0_0,.bool false] 72 (0,0)) (by (with_reducible repeat (first|refine bN ?_ _|refine bD ?_|refine bA ?_ _));exact BK197.out) hb);have n1_:=Aside0.mk (below_step (by repeat (first|(with_reducible first|exact HB.out|apply below_alloc|apply pw_below_drewN|apply below_drew1|refine below_set ?_ GE197.out)|exact HB.out)) hb);have n2_:=Aside0.mk (hbox);have n3_:=Aside0.mk ((by rw [hg];exact (below_size (by repeat (first|(with_reducible first|exact HB.out|apply below_alloc|apply pw_below_drewN|apply below_drew1|refine below_set ?_ GE197.out)|exact HB.out))) : w.heap.size ≤ gb198));have n4_:=Aside0.mk ((by rw [hg];exact (below_size (by repeat (first|(with_reducible first|exact HB.out|apply below_alloc|apply pw_below_drewN|apply below_drew1|refine below_set ?_ GE197.out)|exact HB.out))) : w.heap.size ≤ gb198));have n5_:=Aside0.mk ((by rw [hg];exact Nat.ne_of_lt (blk_lt (g:=gb197) (o:=.cells #[.slice A0_0 l0_0.length c0_0,.bool false] 72 (0,0)) (by (with_reducible repeat (first|refine bN ?_ _|refine bD ?_|refine bA ?_ _));exact BK197.out)) : gb197 ≠ gb198));have n6_:=Aside0.mk ((by rw [hg];exact Nat.ne_of_gt (blk_lt (g:=gb197) (o:=.cells #[.slice A0_0 l0_0.length c0_0,.bool false] 72 (0,0)) (by (with_reducible repeat (first|refine bN ?_ _|refine bD ?_|refine bA ?_ _));exact BK197.out)) : gb198 ≠ gb197));clear BK197;clear HB;have BK197:=n0_;have HB:=n1_;have BK198:=n2_;have GW198:=n3_;have GE198:=n4_;have NB197_198:=n5_;have NB198_197:=n6_;clear n0_ n1_ n2_ n3_ n4_ n5_ n6_;clear hb hbox hg;have hnb14:=NB197_198.out;have hnc14:=NB198_197.out;have hcz15_0 : w13.cell? ⟨gb197,0,none⟩ = some (.slice A0_0 l0_0.length c0_0):=(blk_cell BK197.out 0).trans rfl;have hcz15_1 : w13.cell? ⟨gb197,1,none⟩ = some (.bool false):=(blk_cell BK197.out 1).trans rfl;have hfz15_0:=blk_frozen BK197.out 0;have hfz15_1:=blk_frozen BK197.out 1)|((with_reducible refine gate_callee (f:=54) rfl ?_);refine goesL_ (some 10) rfl rfl Try.func54 (by kernel_rfl) rfl #[.slice A0_0 l0_0.length c0_0,.int .i64 64] rfl (by (try simp only [List.map_toArray,List.map_cons,List.map_nil]);first|done|rfl|(simp only [List.length_drop,List.length_take];rfl)) ?_;(with_reducible refine (ratlineref02_TakeText.calls k _ _ l0_0 64 t199 t200 t201 _ ?side1 ?side2 A2.out).mono ?_);(case side1 => repeat (first|exact (Kd.C_below HR0_0.out HB.out)|(with_reducible refine Kd.C_alloc ?_ _)|(with_reducible refine Kd.C_drewN ?_ _)|(with_reducible refine Kd.C_drew ?_)));(case side2 => exact HC0_0.out);rintro e w16 ⟨v202,rfl,ho0,hb⟩;refine ⟨_,rfl,?_⟩;have n0_:=Aside0.mk (Kd.R_lower ho0 (below_size (by repeat (first|(with_reducible first|exact HB.out|apply below_alloc|apply pw_below_drewN|apply below_drew1|refine below_set ?_ GE197.out|refine below_set ?_ GE198.out)|exact HB.out))));have n1_:=Aside0.mk (blk_below (g:=gb197) (o:=.cells #[.slice A0_0 l0_0.length c0_0,.bool false] 72 (0,0)) (by (with_reducible repeat (first|refine bN ?_ _|refine bD ?_|refine bA ?_ _));exact BK197.out) hb);have n2_:=Aside0.mk (blk_below (g:=gb198) (o:=.cells #[.slice none 0 0,.bool false] 72 (0,0)) (by (with_reducible repeat (first|refine bN ?_ _|refine bD ?_|refine bA ?_ _));exact BK198.out) hb);have n3_:=Aside0.mk (below_step (by repeat (first|(with_reducible first|exact HB.out|apply below_alloc|apply pw_below_drewN|apply below_drew1|refine below_set ?_ GE197.out|refine below_set ?_ GE198.out)|exact HB.out)) hb);clear BK197;clear BK198;clear HB;have HO203:=n0_;have BK197:=n1_;have BK198:=n2_;have HB:=n3_;clear n0_ n1_ n2_ n3_;(try clear hb);(try clear hb2);(try clear hk);(try clear hi);(try clear ho0);have hcz17_0 : w16.cell? ⟨gb197,0,none⟩ = some (.slice A0_0 l0_0.length c0_0):=(blk_cell BK197.out 0).trans rfl;have hcz17_1 : w16.cell? ⟨gb197,1,none⟩ = some (.bool false):=(blk_cell BK197.out 1).trans rfl;have hfz17_0:=blk_frozen BK197.out 0;have hfz17_1:=blk_frozen BK197.out 1;obtain ⟨Ao18,co18,eo18⟩:=Kd.R_slice HO203.out;subst eo18;have hcz19_0 : w16.cell? ⟨gb198,0,none⟩ = some (.slice none 0 0):=(blk_cell BK198.out 0).trans rfl;have hcz19_1 : w16.cell? ⟨gb198,1,none⟩ = some (.bool false):=(blk_cell BK198.out 1).trans rfl;have hfz19_0:=blk_frozen BK198.out 0;have hfz19_1:=blk_frozen BK198.out 1))
  refine bodyPost_ret (results_tc rfl _ _ gb198 72 #[.slice Ao18 t200.length co18,.bool (!t201)] (0,0) _ rfl (by (with_reducible repeat (first|refine bN ?_ _|refine bD ?_|refine bA ?_ _));refine blk_put (cs:=#[.slice Ao18 t200.length co18,.bool false]) ?_ 1 _ rfl;(with_reducible repeat (first|refine bN ?_ _|refine bD ?_|refine bA ?_ _));refine blk_put (cs:=#[.slice none 0 0,.bool false]) ?_ 0 _ rfl;(with_reducible repeat (first|refine bN ?_ _|refine bD ?_|refine bA ?_ _));exact BK198.out) Try.underlying72 rfl (by kernel_rfl)) rfl ?_
  exact ⟨_,by first|rfl|(simp [errW_none,errW_some] <;> rfl)|(simp [*,errW_none,errW_some] <;> rfl),by (with_reducible repeat (first|apply zA|apply zN|apply zD));exact Kd.R_mono (Kd.R_far (p:=⟨gb198,1,none⟩) (Kd.R_far (p:=⟨gb198,0,none⟩) (Kd.R_types HO203.out BK198.out (by decide)) (fun _ hk => hk.2) (.slice Ao18 t200.length co18)) (fun _ hk => hk.2) (.bool (!t201))) (fun _ hk => trivial),by repeat (first|(with_reducible first|exact HB.out|apply below_alloc|apply pw_below_drewN|apply below_drew1|refine below_set ?_ GE197.out|refine below_set ?_ GE198.out)|exact HB.out)⟩

-- GIVEN: function 14 (ratlineref09_Parse)

-- GIVEN: function 15 (edit_Apply)

def ratlineref09_newer.f (a0 : Int) (a1 : Int) : Option (Int × Bool):=if a1 = 0 then (some (a0,true)) else (some (a1,decide (a1 ≥ a0)))
set_option maxHeartbeats 8000000 in
set_option maxRecDepth 100000 in
theorem ratlineref09_newer.calls (a0 : Int) (a1 : Int) (r1 : Int) (r2 : Bool) (w : World) (h : ratlineref09_newer.f a0 a1 = some (r1,r2)) :
  Calls Try.prog 40 #[.int .u64 a0,.int .u64 a1] w fun e w' => e = .returned (.tuple #[.int .u64 r1,.bool r2]) ∧ Drawn0 w w':=by
 have H : (if a1 = 0 then (some (a0,true)) else (some (a1,decide (a1 ≥ a0)))) = some (r1,r2):=h
 clear h
 by_cases c3 : a1 = 0
 ·rw [if_pos c3] at H
  have c3b0 : (a1 == 0) = true:=beq_iff_eq.mpr c3
  have c3b1 : (a1 != 0) = false:=bne_eq_false_iff_eq.mpr c3
  clear c3
  simp only [Option.some.injEq,Prod.mk.injEq] at H
  obtain ⟨rfl,rfl⟩:=H
  go_enter Try.func40,Try.ntmps40
  go_wp2
  go_ret2
  exact ⟨by first|rfl|(simp;done)|(simp [*];done),by repeat (first|exact Drawn0.refl _|apply Drawn0.step)⟩
 ·rw [if_neg c3] at H
  have c3b0 : (a1 == 0) = false:=beq_eq_false_iff_ne.mpr c3
  have c3b1 : (a1 != 0) = true:=bne_iff_ne.mpr c3
  simp only [Option.some.injEq,Prod.mk.injEq] at H
  obtain ⟨rfl,rfl⟩:=H
  go_enter Try.func40,Try.ntmps40
  go_wp2
  go_ret2
  exact ⟨by first|rfl|(simp;done)|(simp [*];done),by repeat (first|exact Drawn0.refl _|apply Drawn0.step)⟩

end Go.Proofs.Ytcagajobpnpicaa.P

end
