/- Proved here: what the row of MergeTells needs, part 4. Conditions: those of each theorem. Written for this claim by programs; what the claim does not use is left out. -/
import Derived.Test.YtojemmipkpckbaaSMergeTells3
section
namespace Go.Proofs.Ytojemmipkpckbaa.P
open Go.RowKit Go.Proofs.YtojemmipkpckbaaG Go.Proofs.YtojemmipkpckbaaW.PrintWords Go.Proofs.YtojemmipkpckbaaW.PrintLast Go.Proofs.YtojemmipkpckbaaW.PrintMore
attribute [local go_sem] str_gtr str_geq str_leq max2_int min2_int max_two min_two max_three min_three max_four min_four   -- for this text's walks alone
set_option linter.unusedVariables false
set_option linter.unusedSimpArgs false

attribute [local go_sem high] eqA39
mutual
def ratlineref11_All.l0 : Nat → List (List (S41)) → List (S41) → List Int → Option ((List (S41)))
 | 0,_,_,_ => none
 | k + 1,x0,x3,x4 => ratlineref11_All.l1 k x0 x3 x4 (-1) 0
def ratlineref11_All.l1 : Nat → List (List (S41)) → List (S41) → List Int → Int → Int → Option ((List (S41)))
 | 0,_,_,_,_,_ => none
 | k + 1,x0,x3,x4,x5,x6 => if x6 < (x0.length : Int) then (if 0 ≤ x6 then (if x6 < (x4.length : Int) then (if (rd x4 x6) < ((rd_L5 x0 x6).length : Int) then (if x5 < 0 then (ratlineref11_All.l1 k x0 x3 x4 x6 (wrap64 (x6 + 1))) else (if 0 ≤ (rd x4 x6) then (if 0 ≤ x5 then (if x5 < (x0.length : Int) then (if x5 < (x4.length : Int) then (if 0 ≤ (rd x4 x5) then (if (rd x4 x5) < ((rd_L5 x0 x5).length : Int) then ((ratlineref03_Compare.f ((rd_T41 (rd_L5 x0 x6) (rd x4 x6)).f0.f0) ((rd_T41 (rd_L5 x0 x6) (rd x4 x6)).f0.f1) ((rd_T41 (rd_L5 x0 x6) (rd x4 x6)).f0.f2) ((rd_T41 (rd_L5 x0 x5) (rd x4 x5)).f0.f0) ((rd_T41 (rd_L5 x0 x5) (rd x4 x5)).f0.f1) ((rd_T41 (rd_L5 x0 x5) (rd x4 x5)).f0.f2)).bind fun t221 => (if t221 < 0 then (ratlineref11_All.l1 k x0 x3 x4 x6 (wrap64 (x6 + 1))) else (ratlineref11_All.l1 k x0 x3 x4 x5 (wrap64 (x6 + 1))))) else (none)) else (none)) else (none)) else (none)) else (none)) else (none))) else (ratlineref11_All.l1 k x0 x3 x4 x5 (wrap64 (x6 + 1)))) else (none)) else (none)) else (if x5 < 0 then (some x3) else (if 0 ≤ x5 then (if x5 < (x0.length : Int) then (if x5 < (x4.length : Int) then (if 0 ≤ (rd x4 x5) then (if (rd x4 x5) < ((rd_L5 x0 x5).length : Int) then ((some (x4.set (x5 : Int).toNat (wrap64 ((rd x4 x5) + 1)) : List Int)).bind fun y227 => (if (x3.length : Int) = 0 then (if x3.length < 2932031007402 then (ratlineref11_All.l0 k x0 (x3 ++ [(⟨(⟨(rd_T41 (rd_L5 x0 x5) (rd x4 x5)).f0.f0,(rd_T41 (rd_L5 x0 x5) (rd x4 x5)).f0.f1,(rd_T41 (rd_L5 x0 x5) (rd x4 x5)).f0.f2⟩ : S39),(rd_T41 (rd_L5 x0 x5) (rd x4 x5)).f1⟩ : S41)]) y227) else (none)) else (if 0 ≤ (wrap64 ((x3.length : Int) - 1)) then (if (wrap64 ((x3.length : Int) - 1)) < (x3.length : Int) then (if (!((((rd_T41 x3 (wrap64 ((x3.length : Int) - 1))).f0.f0).toList) == (((rd_T41 (rd_L5 x0 x5) (rd x4 x5)).f0.f0).toList)) || (!(((rd_T41 x3 (wrap64 ((x3.length : Int) - 1))).f0.f1) == ((rd_T41 (rd_L5 x0 x5) (rd x4 x5)).f0.f1)) || (!(((rd_T41 x3 (wrap64 ((x3.length : Int) - 1))).f0.f2) == ((rd_T41 (rd_L5 x0 x5) (rd x4 x5)).f0.f2))))) = true then (if x3.length < 2932031007402 then (ratlineref11_All.l0 k x0 (x3 ++ [(⟨(⟨(rd_T41 (rd_L5 x0 x5) (rd x4 x5)).f0.f0,(rd_T41 (rd_L5 x0 x5) (rd x4 x5)).f0.f1,(rd_T41 (rd_L5 x0 x5) (rd x4 x5)).f0.f2⟩ : S39),(rd_T41 (rd_L5 x0 x5) (rd x4 x5)).f1⟩ : S41)]) y227) else (none)) else (ratlineref11_All.l0 k x0 x3 y227)) else (none)) else (none)))) else (none)) else (none)) else (none)) else (none)) else (none)))
end
def ratlineref11_All.f (k : Nat) (l0 : List (List (S41))) : Option ((List (S41))):=if 0 ≤ (l0.length : Int) then (if ((l0.length : Int) : Int).toNat ≤ 35184372088832 then (ratlineref11_All.l0 k l0 ([] : List (S41)) (List.replicate ((l0.length : Int) : Int).toNat 0)) else (none)) else (none)
def ratlineref11_All.T7 : Bool × List (List Nat × List Nat):=(true,[([],[]),([],[]),([0,1],[0,1]),([2],[2]),([],[]),([],[]),([4,5],[4,5]),([6],[6]),([7],[7]),([3,8],[3,8]),([9],[9]),([10],[10]),([11,10],[10,11]),([12,10,10],[10,12]),([13],[13]),([13],[13]),([14,15,13],[13,14,15]),([16,13],[13,16]),([13],[13]),([13],[13]),([18,19,13],[13,18,19]),([20,13],[13,20]),([17,21,13],[13,17,21]),([22,13],[13,22]),([23,13],[13,23]),([13],[13]),([13],[13]),([25,26,13],[13,25,26]),([27,13],[13,27]),([13],[13]),([13],[13]),([29,30,13],[13,29,30]),([31,13],[13,31]),([28,32,13],[13,28,32]),([33,13],[13,33]),([34,13],[13,34]),([24,35,13,13],[13,24,35]),([36,13],[13,36]),([13,37,10],[10,13,37]),([10,38],[10,38])])
def ratlineref11_All.B7 : List Nat:=[0,0,3,7,0,0,48,112,240,511,1023,2047,4095,8191,16383,16383,65535,131071,16383,16383,802815,1851391,4194303,8388607,16777215,16383,16383,100679679,234897407,16383,16383,1610629119,3758112767,8556396543,17146331135,34326200319,68719476735,137438953471,274877906943,549755813887]
theorem ratlineref11_All.tab7 : rtab .any (opsOf Try.f20 7) = ratlineref11_All.T7:=by kernel_rfl
theorem ratlineref11_All.bits7 : waitsOk ratlineref11_All.T7.2 ratlineref11_All.B7 = true:=by kernel_rfl
def ratlineref11_All.T11 : Bool × List (List Nat × List Nat):=(true,[([],[]),([],[]),([0,1],[0,1]),([2],[2]),([],[]),([],[]),([4,5],[4,5]),([6],[6]),([3,7],[3,7]),([8],[8]),([],[]),([10,9,0,1,2,3,4,5,6,7,8,9,10],[9,10])])
def ratlineref11_All.B11 : List Nat:=[0,0,3,7,0,0,48,112,255,511,0,2047]
theorem ratlineref11_All.tab11 : rtab .any (opsOf Try.f20 11) = ratlineref11_All.T11:=by kernel_rfl
theorem ratlineref11_All.bits11 : waitsOk ratlineref11_All.T11.2 ratlineref11_All.B11 = true:=by kernel_rfl
def ratlineref11_All.T13 : Bool × List (List Nat × List Nat):=(true,[([],[]),([0],[0]),([1],[1]),([2],[2]),([3],[3]),([3],[3]),([5,3],[3,5]),([6,3],[3,6]),([4,7,3],[3,4,7]),([8,3],[3,8]),([9,3],[3,9]),([3],[3]),([11,3],[3,11]),([10,12,3],[3,10,12]),([3,13],[3,13])])
def ratlineref11_All.B13 : List Nat:=[0,1,3,7,15,15,47,111,255,511,1023,15,2063,8191,16383]
theorem ratlineref11_All.tab13 : rtab .any (opsOf Try.f20 13) = ratlineref11_All.T13:=by kernel_rfl
theorem ratlineref11_All.bits13 : waitsOk ratlineref11_All.T13.2 ratlineref11_All.B13 = true:=by kernel_rfl
set_option maxHeartbeats 8000000 in
set_option maxRecDepth 100000 in
theorem ratlineref11_All.calls (k : Nat) (A0 : Option Addr) (c0 : Nat) (l0 : List (List (S41))) (r : List (S41)) (w : World) (hr0 : Kd.C (Kd.slice 41 k41) w A0 l0.length l0) (hc0 : l0.length ≤ c0) (h : ratlineref11_All.f k l0 = some r) :
  Calls Try.prog 20 #[.slice A0 l0.length c0] w fun e w' => ∃ v0_ : Value,e = .returned (v0_) ∧ Kd.R k41 41 w' w.heap.size (fun _ => True) v0_ r ∧ Below w.heap.size w w':=by
 have hu39:=Try.underlying39
 have hu41:=Try.underlying41
 have HR0:=Aside0.mk hr0
 have HC0:=Aside0.mk hc0
 clear hr0 hc0
 have HB:=Aside0.mk (Below.refl w.heap.size w)
 have H : (if 0 ≤ (l0.length : Int) then (if ((l0.length : Int) : Int).toNat ≤ 35184372088832 then (ratlineref11_All.l0 k l0 ([] : List (S41)) (List.replicate ((l0.length : Int) : Int).toNat 0)) else (none)) else (none)) = some r:=h
 clear h
 by_cases c2 : 0 ≤ (l0.length : Int)
 rotate_left
 ·rw [if_neg c2] at H
  exact absurd H (by simp)

 rw [if_pos c2] at H
 have c2b0:=eq_true c2
 have c2b1 : decide (0 ≤ (l0.length : Int)) = true:=decide_eq_true c2
 clear c2
 by_cases c3 : ((l0.length : Int) : Int).toNat ≤ 35184372088832
 rotate_left
 ·rw [if_neg c3] at H
  exact absurd H (by simp)
 rw [if_pos c3] at H
 have c3b0:=eq_true c3
 have c3b1 : decide (((l0.length : Int) : Int).toNat ≤ 35184372088832) = true:=decide_eq_true c3
 clear c3
 obtain ⟨y210,hy210⟩ : ∃ y_ : List Int,y_ = (List.replicate ((l0.length : Int) : Int).toNat 0):=⟨_,rfl⟩
 replace H : (ratlineref11_All.l0 k l0 ([] : List (S41)) y210) = some r:=by first|(rw [hy210];with_reducible exact H)|(have H2_:=(Option.bind_some _ _).symm.trans H;rw [hy210];with_reducible exact H2_)|(have H2_:=(Option.bind_some _ _).symm.trans H;with_reducible exact H2_)|with_reducible exact H|(rw [hy210];exact H)|exact H
 have Ny210:=Aside0.mk hy210
 clear hy210
 have H':=Aside0.mk H
 clear H
 go_enter Try.func20,Try.ntmps20
 go_wp2_with (first|((with_reducible refine gate_dst (N:=10) rfl ?_);(try (refine gate_guard (by rfl) ?_;dsimp only));refine Kd.R_make (Kd.int .i64) _ 3 rfl (N:=10) rfl 70 _ _ rfl (l0.length : Int) rfl rfl Try.underlying70 (.int .i64 0) 8 info3 rfl (by decide) (by omega) 0 (ok:=fun _ => True) (okp:=fun _ => True) rfl (fun _ hk => hk) trivial (of_decide_eq_true (by first|(with_reducible assumption)|assumption)) (Nat.le_trans (Nat.mul_le_mul_right _ (of_decide_eq_true (by first|(with_reducible assumption)|assumption) : (l0.length : Int).toNat ≤ 35184372088832)) (by omega)) (Below.refl _ _) (Nat.le_refl _) ?_;intro v211 w4 ho5 hb hg_ hnew_;clear hg_ hnew_;(first|rw [← Ny210.out] at ho5|(simp only [Int.reduceToNat] at ho5;rw [← Ny210.out] at ho5));have n0_:=Aside0.mk (Kd.R_lower ho5 (below_size (by repeat (first|(with_reducible first|exact HB.out|apply below_alloc|apply pw_below_drewN|apply below_drew1)|exact HB.out))));have n1_:=Aside0.mk (below_step (by repeat (first|(with_reducible first|exact HB.out|apply below_alloc|apply pw_below_drewN|apply below_drew1)|exact HB.out)) hb);clear HB;have HO212:=n0_;have HB:=n1_;clear n0_ n1_;clear hb ho5))
 go_loopg [3] k (fun kq v3 w' => ∃ (x3_1 : List (S41)) (x4_1 : List Int),Aside0 (ratlineref11_All.l0 kq l0 x3_1 x4_1 = some r) ∧ Aside0 (kq ≤ k) ∧ Aside0 (Kd.R k41 41 w' w.heap.size (fun _ => True) v3 x3_1) ∧ Aside0 (Kd.R (Kd.int .i64) 3 w' w.heap.size (fun _ => True) v211 x4_1) ∧ Aside0 (Below w.heap.size w w'))
 case atStart => exact ⟨(([] : List (S41))),(y210),H',⟨Nat.le_refl _⟩,⟨by first|exact Kd.R_nil _ _ _ _ _|exact Kd.N_nil _ _ _ _ _|exact Kd.V_nil _ _ _ _ _|exact Kd.Q_nil _ _ _ _ _|exact Kd.S_nil _ _ _ _ _⟩,⟨by (with_reducible repeat (first|apply zA|apply zN|apply zD));exact HO212.out⟩,⟨by repeat (first|(with_reducible first|exact HB.out|apply below_alloc|apply pw_below_drewN|apply below_drew1)|exact HB.out)⟩⟩
 case round =>
  clear H'
  try clear c2
  try clear c2b0
  try clear c2b1
  try clear p2
  try clear c3
  try clear c3b0
  try clear c3b1
  obtain ⟨x3_1,x4_1,HA,HK1,HO_3,HO_4,HB⟩:=hrel
  cases gk with
  | zero => exact absurd HA.out (by simp [ratlineref11_All.l0])
  | succ k1 =>
   have H:=HA.out
   clear HA
   simp only [ratlineref11_All.l0] at H
   have H':=Aside0.mk H
   clear H
   go_wp2
   go_loopg [5,6] k1 (fun kq v5 v6 w' => ∃ (x5_2 : Int) (x6_2 : Int),v5 = .int .i64 x5_2 ∧ v6 = .int .i64 x6_2 ∧ Aside0 (ratlineref11_All.l1 kq l0 x3_1 x4_1 x5_2 x6_2 = some r) ∧ Aside0 (kq ≤ k1) ∧ Aside0 (Kd.R k41 41 w' w.heap.size (fun _ => True) u3 x3_1) ∧ Aside0 (Kd.R (Kd.int .i64) 3 w' w.heap.size (fun _ => True) v211 x4_1) ∧ Aside0 (Below w.heap.size w w'))
   case atStart => exact ⟨((-1)),(0),(by first|rfl|(simp;done)|(simp [*];done)),(by first|rfl|(simp;done)|(simp [*];done)),H',⟨Nat.le_refl _⟩,⟨by (with_reducible repeat (first|apply zA|apply zN|apply zD));exact HO_3.out⟩,⟨by (with_reducible repeat (first|apply zA|apply zN|apply zD));exact HO_4.out⟩,⟨by repeat (first|(with_reducible first|exact HB.out|apply below_alloc|apply pw_below_drewN|apply below_drew1)|exact HB.out)⟩⟩
   case round =>
    clear H'
    try clear c2
    try clear c2b0
    try clear c2b1
    try clear p2
    try clear c3
    try clear c3b0
    try clear c3b1
    try clear p2
    obtain ⟨x5_2,x6_2,rfl,rfl,HA,HK2,HO_3,HO_4,HB⟩:=hrel
    cases gk with
    | zero => exact absurd HA.out (by simp [ratlineref11_All.l1])
    | succ k2 =>
     have H:=HA.out
     clear HA
     simp only [ratlineref11_All.l1] at H
     by_cases c6 : x6_2 < (l0.length : Int)
     ·rw [if_pos c6] at H
      have c6b0 : decide (x6_2 < (l0.length : Int)) = true:=decide_eq_true c6
      clear c6
      by_cases c7 : 0 ≤ x6_2
      rotate_left
      ·rw [if_neg c7] at H
       exact absurd H (by simp)
      rw [if_pos c7] at H
      have c7b0 : decide (0 ≤ x6_2) = true:=decide_eq_true c7
      clear c7
      by_cases c8 : x6_2 < (x4_1.length : Int)
      rotate_left
      ·rw [if_neg c8] at H
       exact absurd H (by simp)
      rw [if_pos c8] at H
      have c8b0 : decide (x6_2 < (x4_1.length : Int)) = true:=decide_eq_true c8
      clear c8
      by_cases c9 : (rd x4_1 x6_2) < ((rd_L5 l0 x6_2).length : Int)
      ·rw [if_pos c9] at H
       have c9b0 : decide ((rd x4_1 x6_2) < ((rd_L5 l0 x6_2).length : Int)) = true:=decide_eq_true c9
       clear c9
       by_cases c10 : x5_2 < 0
       ·rw [if_pos c10] at H
        have c10b0 : decide (x5_2 < 0) = true:=decide_eq_true c10
        clear c10
        have H':=Aside0.mk H
        clear H
        try go_wp2
        have n0_:=Aside0.mk (Kd.R_drew HO_3.out)
        have n1_:=Aside0.mk (Kd.R_drew HO_4.out)
        have n2_:=Aside0.mk (below_drew1 HB.out)
        clear HO_3
        clear HO_4
        clear HB
        have HO_3:=n0_
        have HO_4:=n1_
        have HB:=n2_
        clear n0_ n1_ n2_
        obtain ⟨Ao12,co12,eo12⟩:=Kd.R_slice HO_4.out
        (first|subst eo12|(injection eo12 with f1_ f2_ f3_;have f4_:=f1_.symm;have f5_:=f3_.symm;clear f1_ f2_ f3_;subst f4_;subst f5_))
        have p213 : 0 ≤ (x6_2 : Int):=of_decide_eq_true (by first|(with_reducible assumption)|assumption)
        have q213 : x6_2 < (x4_1.length : Int):=of_decide_eq_true (by first|(with_reducible assumption)|assumption)
        obtain ⟨ad213,e213,hx213_0⟩:=Kd.at_int (Kd.R_reads' HO_4.out).2.2 x6_2 p213 q213
        cases e213
        replace p213:=eq_true p213
        replace q213:=eq_true q213
        have p214 : 0 ≤ (x6_2 : Int):=of_decide_eq_true (by first|(with_reducible assumption)|assumption)
        have q214 : x6_2 < (l0.length : Int):=of_decide_eq_true (by first|(with_reducible assumption)|assumption)
        obtain ⟨ad214,A214_0,c214_0,e214,hx214_0,hl214_0,hi214_0⟩:=at_L5 HR0.out x6_2 p214 q214
        have hw214_0:=hx214_0
        cases e214
        replace hx214_0:=(HB.out.cell (World.block_lt_of_cell? w _ hx214_0)).trans hx214_0
        have HR214_0:=Aside0.mk hi214_0
        have HC214_0:=Aside0.mk hl214_0
        clear hi214_0 hl214_0
        replace p214:=eq_true p214
        replace q214:=eq_true q214
        refine start_ (n:=40) (S:=fun w' => w'.cell? (ad213.add (x6_2).toNat) = some (.int .i64 (rd x4_1 x6_2)) ∧ w'.cell? (ad214.add (x6_2).toNat) = some (.slice A214_0 (rd_L5 l0 x6_2).length c214_0)) (ds:=[]) #[ff,ff,ff,ff,ff,ff,ff,ff,ff,ff,ff,ff,ff,ff,ff,ff,ff,ff,ff,ff,ff,ff,ff,ff,ff,ff,ff,ff,ff,ff,ff,ff,ff,ff,ff,ff,ff,ff,ff,ff] (by kernel_rfl) rfl rfl ⟨hx213_0,((HB.out.cell (World.block_lt_of_cell? w _ hw214_0)).trans hw214_0)⟩ (fun hHeld => ?_);refine with_tabW ratlineref11_All.tab7 ratlineref11_All.bits7 (fun HT_ HW_ => ?_)
        generalize wr.drew = w11 at HO_3 HO_4 HB HR214_0 hx213_0 hx214_0 hHeld ⊢
        refine pure_ (i:=0) (N:=some 17) (v:=?_) (a':=?_) #[tt,ff,ff,ff,ff,ff,ff,ff,ff,ff,ff,ff,ff,ff,ff,ff,ff,ff,ff,ff,ff,ff,ff,ff,ff,ff,ff,ff,ff,ff,ff,ff,ff,ff,ff,ff,ff,ff,ff,ff] rfl rfl (any_of HT_.out (by kernel_rfl)) (fun _ _ _ h => h) (Or.inl ⟨by rfl,?_⟩) ?_ ?_
        rotate_left
        ·intro w'
         go_simp
         with_reducible rfl
        rotate_left
        ·simp only [Act.put,sA,sZ,sS,i64_w,i32_w]
         rfl
        refine pure_ (i:=1) (N:=some 18) (v:=?_) (a':=?_) #[tt,tt,ff,ff,ff,ff,ff,ff,ff,ff,ff,ff,ff,ff,ff,ff,ff,ff,ff,ff,ff,ff,ff,ff,ff,ff,ff,ff,ff,ff,ff,ff,ff,ff,ff,ff,ff,ff,ff,ff] rfl rfl (any_of HT_.out (by kernel_rfl)) (fun _ _ _ h => h) (Or.inl ⟨by rfl,?_⟩) ?_ ?_
        rotate_left
        ·intro w'
         go_simp
         with_reducible rfl
        rotate_left
        ·simp only [Act.put,sA,sZ,sS,i64_w,i32_w]
         rfl
        refine pure_ (i:=2) (N:=some 19) (v:=?_) (a':=?_) #[tt,tt,tt,ff,ff,ff,ff,ff,ff,ff,ff,ff,ff,ff,ff,ff,ff,ff,ff,ff,ff,ff,ff,ff,ff,ff,ff,ff,ff,ff,ff,ff,ff,ff,ff,ff,ff,ff,ff,ff] rfl rfl (any_of HT_.out (by kernel_rfl)) (fun _ _ _ h => h) (Or.inl ⟨by rfl,?_⟩) ?_ ?_
        rotate_left
        ·intro w'
         go_simp
         with_reducible rfl
        rotate_left
        ·simp only [Act.put,sA,sZ,sS,i64_w,i32_w]
         rfl
        refine pure_ (i:=4) (N:=some 21) (v:=?_) (a':=?_) #[tt,tt,tt,ff,tt,ff,ff,ff,ff,ff,ff,ff,ff,ff,ff,ff,ff,ff,ff,ff,ff,ff,ff,ff,ff,ff,ff,ff,ff,ff,ff,ff,ff,ff,ff,ff,ff,ff,ff,ff] rfl rfl (any_of HT_.out (by kernel_rfl)) (fun _ _ _ h => h) (Or.inl ⟨by rfl,?_⟩) ?_ ?_
        rotate_left
        ·intro w'
         go_simp
         with_reducible rfl
        rotate_left
        ·simp only [Act.put,sA,sZ,sS,i64_w,i32_w]
         rfl
        refine pure_ (i:=5) (N:=some 22) (v:=?_) (a':=?_) #[tt,tt,tt,ff,tt,tt,ff,ff,ff,ff,ff,ff,ff,ff,ff,ff,ff,ff,ff,ff,ff,ff,ff,ff,ff,ff,ff,ff,ff,ff,ff,ff,ff,ff,ff,ff,ff,ff,ff,ff] rfl rfl (any_of HT_.out (by kernel_rfl)) (fun _ _ _ h => h) (Or.inl ⟨by rfl,?_⟩) ?_ ?_
        rotate_left
        ·intro w'
         go_simp
         with_reducible rfl
        rotate_left
        ·simp only [Act.put,sA,sZ,sS,i64_w,i32_w]
         rfl
        refine pure_ (i:=6) (N:=some 23) (v:=?_) (a':=?_) #[tt,tt,tt,ff,tt,tt,tt,ff,ff,ff,ff,ff,ff,ff,ff,ff,ff,ff,ff,ff,ff,ff,ff,ff,ff,ff,ff,ff,ff,ff,ff,ff,ff,ff,ff,ff,ff,ff,ff,ff] rfl rfl (any_of HT_.out (by kernel_rfl)) (fun _ _ _ h => h) (Or.inl ⟨by rfl,?_⟩) ?_ ?_
        rotate_left
        ·intro w'
         go_simp
         with_reducible rfl
        rotate_left
        ·simp only [Act.put,sA,sZ,sS,i64_w,i32_w]
         rfl
        refine take_ (i:=3) (N:=some 20) (v:=?_) (a':=?_) #[tt,tt,tt,tt,tt,tt,tt,ff,ff,ff,ff,ff,ff,ff,ff,ff,ff,ff,ff,ff,ff,ff,ff,ff,ff,ff,ff,ff,ff,ff,ff,ff,ff,ff,ff,ff,ff,ff,ff,ff] rfl rfl (take_ofW HT_.out HW_.out (by kernel_rfl)) (fun _ _ _ h => h) (Or.inl ⟨by rfl,?_⟩) hHeld ?_ ?_
        rotate_left
        ·rintro w' ⟨s0,s1⟩
         go_simp
         with_reducible rfl
        rotate_left
        ·simp only [Act.put,sA,sZ,sS,i64_w,i32_w]
         rfl
        refine take_ (i:=7) (N:=some 24) (v:=?_) (a':=?_) #[tt,tt,tt,tt,tt,tt,tt,tt,ff,ff,ff,ff,ff,ff,ff,ff,ff,ff,ff,ff,ff,ff,ff,ff,ff,ff,ff,ff,ff,ff,ff,ff,ff,ff,ff,ff,ff,ff,ff,ff] rfl rfl (take_ofW HT_.out HW_.out (by kernel_rfl)) (fun _ _ _ h => h) (Or.inl ⟨by rfl,?_⟩) hHeld ?_ ?_
        rotate_left
        ·rintro w' ⟨s0,s1⟩
         go_simp
         with_reducible rfl
        rotate_left
        ·simp only [Act.put,sA,sZ,sS,i64_w,i32_w]
         rfl
        refine pure_ (i:=8) (N:=some 25) (v:=?_) (a':=?_) #[tt,tt,tt,tt,tt,tt,tt,tt,tt,ff,ff,ff,ff,ff,ff,ff,ff,ff,ff,ff,ff,ff,ff,ff,ff,ff,ff,ff,ff,ff,ff,ff,ff,ff,ff,ff,ff,ff,ff,ff] rfl rfl (any_of HT_.out (by kernel_rfl)) (fun _ _ _ h => h) (Or.inl ⟨by rfl,?_⟩) ?_ ?_
        rotate_left
        ·intro w'
         go_simp
         with_reducible rfl
        rotate_left
        ·simp only [Act.put,sA,sZ,sS,i64_w,i32_w]
         rfl
        refine pure_ (i:=9) (N:=some 26) (v:=?_) (a':=?_) #[tt,tt,tt,tt,tt,tt,tt,tt,tt,tt,ff,ff,ff,ff,ff,ff,ff,ff,ff,ff,ff,ff,ff,ff,ff,ff,ff,ff,ff,ff,ff,ff,ff,ff,ff,ff,ff,ff,ff,ff] rfl rfl (any_of HT_.out (by kernel_rfl)) (fun _ _ _ h => h) (Or.inl ⟨by rfl,?_⟩) ?_ ?_
        rotate_left
        ·intro w'
         go_simp
         with_reducible rfl
        rotate_left
        ·simp only [Act.put,sA,sZ,sS,i64_w,i32_w]
         rfl
        refine pure_ (i:=10) (N:=some 27) (v:=?_) (a':=?_) #[tt,tt,tt,tt,tt,tt,tt,tt,tt,tt,tt,ff,ff,ff,ff,ff,ff,ff,ff,ff,ff,ff,ff,ff,ff,ff,ff,ff,ff,ff,ff,ff,ff,ff,ff,ff,ff,ff,ff,ff] rfl rfl (any_of HT_.out (by kernel_rfl)) (fun _ _ _ h => h) (Or.inl ⟨by rfl,?_⟩) ?_ ?_
        rotate_left
        ·intro w'
         go_simp
         with_reducible rfl
        rotate_left
        ·simp only [Act.put,sA,sZ,sS,i64_w,i32_w]
         rfl
        refine pure_ (i:=11) (N:=some 28) (v:=?_) (a':=?_) #[tt,tt,tt,tt,tt,tt,tt,tt,tt,tt,tt,tt,ff,ff,ff,ff,ff,ff,ff,ff,ff,ff,ff,ff,ff,ff,ff,ff,ff,ff,ff,ff,ff,ff,ff,ff,ff,ff,ff,ff] rfl rfl (any_of HT_.out (by kernel_rfl)) (fun _ _ _ h => h) (Or.inl ⟨by rfl,?_⟩) ?_ ?_
        rotate_left
        ·intro w'
         go_simp
         with_reducible rfl
        rotate_left
        ·simp only [Act.put,sA,sZ,sS,i64_w,i32_w]
         rfl
        refine pure_ (i:=12) (N:=some 29) (v:=?_) (a':=?_) #[tt,tt,tt,tt,tt,tt,tt,tt,tt,tt,tt,tt,tt,ff,ff,ff,ff,ff,ff,ff,ff,ff,ff,ff,ff,ff,ff,ff,ff,ff,ff,ff,ff,ff,ff,ff,ff,ff,ff,ff] rfl rfl (any_of HT_.out (by kernel_rfl)) (fun _ _ _ h => h) (Or.inl ⟨by rfl,?_⟩) ?_ ?_
        rotate_left
        ·intro w'
         go_simp
         with_reducible rfl
        rotate_left
        ·simp only [Act.put,sA,sZ,sS,i64_w,i32_w]
         rfl
        refine pure_ (i:=13) (N:=some 30) (v:=?_) (a':=?_) #[tt,tt,tt,tt,tt,tt,tt,tt,tt,tt,tt,tt,tt,tt,ff,ff,ff,ff,ff,ff,ff,ff,ff,ff,ff,ff,ff,ff,ff,ff,ff,ff,ff,ff,ff,ff,ff,ff,ff,ff] rfl rfl (any_of HT_.out (by kernel_rfl)) (fun _ _ _ h => h) (Or.inl ⟨by rfl,?_⟩) ?_ ?_
        rotate_left
        ·intro w'
         go_simp
         with_reducible rfl
        rotate_left
        ·simp only [Act.put,sA,sZ,sS,i64_w,i32_w]
         rfl
        refine pure_ (i:=14) (N:=some 31) (v:=undef) (a':=?_) #[tt,tt,tt,tt,tt,tt,tt,tt,tt,tt,tt,tt,tt,tt,tt,ff,ff,ff,ff,ff,ff,ff,ff,ff,ff,ff,ff,ff,ff,ff,ff,ff,ff,ff,ff,ff,ff,ff,ff,ff] rfl rfl (any_of HT_.out (by kernel_rfl)) (fun _ _ _ h => h) (Or.inr ⟨by rfl,rfl⟩) ?_ ?_
        rotate_left
        ·simp only [Act.put,sA,sZ,sS,i64_w,i32_w]
         rfl
        refine pure_ (i:=15) (N:=some 32) (v:=undef) (a':=?_) #[tt,tt,tt,tt,tt,tt,tt,tt,tt,tt,tt,tt,tt,tt,tt,tt,ff,ff,ff,ff,ff,ff,ff,ff,ff,ff,ff,ff,ff,ff,ff,ff,ff,ff,ff,ff,ff,ff,ff,ff] rfl rfl (any_of HT_.out (by kernel_rfl)) (fun _ _ _ h => h) (Or.inr ⟨by rfl,rfl⟩) ?_ ?_
        rotate_left
        ·simp only [Act.put,sA,sZ,sS,i64_w,i32_w]
         rfl
        refine pure_ (i:=16) (N:=some 33) (v:=undef) (a':=?_) #[tt,tt,tt,tt,tt,tt,tt,tt,tt,tt,tt,tt,tt,tt,tt,tt,tt,ff,ff,ff,ff,ff,ff,ff,ff,ff,ff,ff,ff,ff,ff,ff,ff,ff,ff,ff,ff,ff,ff,ff] rfl rfl (any_of HT_.out (by kernel_rfl)) (fun _ _ _ h => h) (Or.inr ⟨by rfl,rfl⟩) ?_ ?_
        rotate_left
        ·simp only [Act.put,sA,sZ,sS,i64_w,i32_w]
         rfl
        refine pure_ (i:=17) (N:=some 34) (v:=undef) (a':=?_) #[tt,tt,tt,tt,tt,tt,tt,tt,tt,tt,tt,tt,tt,tt,tt,tt,tt,tt,ff,ff,ff,ff,ff,ff,ff,ff,ff,ff,ff,ff,ff,ff,ff,ff,ff,ff,ff,ff,ff,ff] rfl rfl (any_of HT_.out (by kernel_rfl)) (fun _ _ _ h => h) (Or.inr ⟨by rfl,rfl⟩) ?_ ?_
        rotate_left
        ·simp only [Act.put,sA,sZ,sS,i64_w,i32_w]
         rfl
        refine pure_ (i:=18) (N:=some 35) (v:=undef) (a':=?_) #[tt,tt,tt,tt,tt,tt,tt,tt,tt,tt,tt,tt,tt,tt,tt,tt,tt,tt,tt,ff,ff,ff,ff,ff,ff,ff,ff,ff,ff,ff,ff,ff,ff,ff,ff,ff,ff,ff,ff,ff] rfl rfl (any_of HT_.out (by kernel_rfl)) (fun _ _ _ h => h) (Or.inr ⟨by rfl,rfl⟩) ?_ ?_
        rotate_left
        ·simp only [Act.put,sA,sZ,sS,i64_w,i32_w]
         rfl
        refine pure_ (i:=19) (N:=some 36) (v:=undef) (a':=?_) #[tt,tt,tt,tt,tt,tt,tt,tt,tt,tt,tt,tt,tt,tt,tt,tt,tt,tt,tt,tt,ff,ff,ff,ff,ff,ff,ff,ff,ff,ff,ff,ff,ff,ff,ff,ff,ff,ff,ff,ff] rfl rfl (any_of HT_.out (by kernel_rfl)) (fun _ _ _ h => h) (Or.inr ⟨by rfl,rfl⟩) ?_ ?_
        rotate_left
        ·simp only [Act.put,sA,sZ,sS,i64_w,i32_w]
         rfl
        refine pure_ (i:=20) (N:=some 37) (v:=undef) (a':=?_) #[tt,tt,tt,tt,tt,tt,tt,tt,tt,tt,tt,tt,tt,tt,tt,tt,tt,tt,tt,tt,tt,ff,ff,ff,ff,ff,ff,ff,ff,ff,ff,ff,ff,ff,ff,ff,ff,ff,ff,ff] rfl rfl (any_of HT_.out (by kernel_rfl)) (fun _ _ _ h => h) (Or.inr ⟨by rfl,rfl⟩) ?_ ?_
        rotate_left
        ·simp only [Act.put,sA,sZ,sS,i64_w,i32_w]
         rfl
        refine pure_ (i:=21) (N:=some 38) (v:=undef) (a':=?_) #[tt,tt,tt,tt,tt,tt,tt,tt,tt,tt,tt,tt,tt,tt,tt,tt,tt,tt,tt,tt,tt,tt,ff,ff,ff,ff,ff,ff,ff,ff,ff,ff,ff,ff,ff,ff,ff,ff,ff,ff] rfl rfl (any_of HT_.out (by kernel_rfl)) (fun _ _ _ h => h) (Or.inr ⟨by rfl,rfl⟩) ?_ ?_
        rotate_left
        ·simp only [Act.put,sA,sZ,sS,i64_w,i32_w]
         rfl
        refine pure_ (i:=22) (N:=some 39) (v:=undef) (a':=?_) #[tt,tt,tt,tt,tt,tt,tt,tt,tt,tt,tt,tt,tt,tt,tt,tt,tt,tt,tt,tt,tt,tt,tt,ff,ff,ff,ff,ff,ff,ff,ff,ff,ff,ff,ff,ff,ff,ff,ff,ff] rfl rfl (any_of HT_.out (by kernel_rfl)) (fun _ _ _ h => h) (Or.inr ⟨by rfl,rfl⟩) ?_ ?_
        rotate_left
        ·simp only [Act.put,sA,sZ,sS,i64_w,i32_w]
         rfl
        refine pure_ (i:=23) (N:=some 40) (v:=undef) (a':=?_) #[tt,tt,tt,tt,tt,tt,tt,tt,tt,tt,tt,tt,tt,tt,tt,tt,tt,tt,tt,tt,tt,tt,tt,tt,ff,ff,ff,ff,ff,ff,ff,ff,ff,ff,ff,ff,ff,ff,ff,ff] rfl rfl (any_of HT_.out (by kernel_rfl)) (fun _ _ _ h => h) (Or.inr ⟨by rfl,rfl⟩) ?_ ?_
        rotate_left
        ·simp only [Act.put,sA,sZ,sS,i64_w,i32_w]
         rfl
        refine pure_ (i:=24) (N:=some 41) (v:=undef) (a':=?_) #[tt,tt,tt,tt,tt,tt,tt,tt,tt,tt,tt,tt,tt,tt,tt,tt,tt,tt,tt,tt,tt,tt,tt,tt,tt,ff,ff,ff,ff,ff,ff,ff,ff,ff,ff,ff,ff,ff,ff,ff] rfl rfl (any_of HT_.out (by kernel_rfl)) (fun _ _ _ h => h) (Or.inr ⟨by rfl,rfl⟩) ?_ ?_
        rotate_left
        ·simp only [Act.put,sA,sZ,sS,i64_w,i32_w]
         rfl
        refine pure_ (i:=25) (N:=some 42) (v:=undef) (a':=?_) #[tt,tt,tt,tt,tt,tt,tt,tt,tt,tt,tt,tt,tt,tt,tt,tt,tt,tt,tt,tt,tt,tt,tt,tt,tt,tt,ff,ff,ff,ff,ff,ff,ff,ff,ff,ff,ff,ff,ff,ff] rfl rfl (any_of HT_.out (by kernel_rfl)) (fun _ _ _ h => h) (Or.inr ⟨by rfl,rfl⟩) ?_ ?_
        rotate_left
        ·simp only [Act.put,sA,sZ,sS,i64_w,i32_w]
         rfl
        refine pure_ (i:=26) (N:=some 43) (v:=undef) (a':=?_) #[tt,tt,tt,tt,tt,tt,tt,tt,tt,tt,tt,tt,tt,tt,tt,tt,tt,tt,tt,tt,tt,tt,tt,tt,tt,tt,tt,ff,ff,ff,ff,ff,ff,ff,ff,ff,ff,ff,ff,ff] rfl rfl (any_of HT_.out (by kernel_rfl)) (fun _ _ _ h => h) (Or.inr ⟨by rfl,rfl⟩) ?_ ?_
        rotate_left
        ·simp only [Act.put,sA,sZ,sS,i64_w,i32_w]
         rfl
        refine pure_ (i:=27) (N:=some 44) (v:=undef) (a':=?_) #[tt,tt,tt,tt,tt,tt,tt,tt,tt,tt,tt,tt,tt,tt,tt,tt,tt,tt,tt,tt,tt,tt,tt,tt,tt,tt,tt,tt,ff,ff,ff,ff,ff,ff,ff,ff,ff,ff,ff,ff] rfl rfl (any_of HT_.out (by kernel_rfl)) (fun _ _ _ h => h) (Or.inr ⟨by rfl,rfl⟩) ?_ ?_
        rotate_left
        ·simp only [Act.put,sA,sZ,sS,i64_w,i32_w]
         rfl
        refine pure_ (i:=28) (N:=some 45) (v:=undef) (a':=?_) #[tt,tt,tt,tt,tt,tt,tt,tt,tt,tt,tt,tt,tt,tt,tt,tt,tt,tt,tt,tt,tt,tt,tt,tt,tt,tt,tt,tt,tt,ff,ff,ff,ff,ff,ff,ff,ff,ff,ff,ff] rfl rfl (any_of HT_.out (by kernel_rfl)) (fun _ _ _ h => h) (Or.inr ⟨by rfl,rfl⟩) ?_ ?_
        rotate_left
        ·simp only [Act.put,sA,sZ,sS,i64_w,i32_w]
         rfl
        refine pure_ (i:=29) (N:=some 46) (v:=undef) (a':=?_) #[tt,tt,tt,tt,tt,tt,tt,tt,tt,tt,tt,tt,tt,tt,tt,tt,tt,tt,tt,tt,tt,tt,tt,tt,tt,tt,tt,tt,tt,tt,ff,ff,ff,ff,ff,ff,ff,ff,ff,ff] rfl rfl (any_of HT_.out (by kernel_rfl)) (fun _ _ _ h => h) (Or.inr ⟨by rfl,rfl⟩) ?_ ?_
        rotate_left
        ·simp only [Act.put,sA,sZ,sS,i64_w,i32_w]
         rfl
        refine pure_ (i:=30) (N:=some 47) (v:=undef) (a':=?_) #[tt,tt,tt,tt,tt,tt,tt,tt,tt,tt,tt,tt,tt,tt,tt,tt,tt,tt,tt,tt,tt,tt,tt,tt,tt,tt,tt,tt,tt,tt,tt,ff,ff,ff,ff,ff,ff,ff,ff,ff] rfl rfl (any_of HT_.out (by kernel_rfl)) (fun _ _ _ h => h) (Or.inr ⟨by rfl,rfl⟩) ?_ ?_
        rotate_left
        ·simp only [Act.put,sA,sZ,sS,i64_w,i32_w]
         rfl
        refine pure_ (i:=31) (N:=some 48) (v:=undef) (a':=?_) #[tt,tt,tt,tt,tt,tt,tt,tt,tt,tt,tt,tt,tt,tt,tt,tt,tt,tt,tt,tt,tt,tt,tt,tt,tt,tt,tt,tt,tt,tt,tt,tt,ff,ff,ff,ff,ff,ff,ff,ff] rfl rfl (any_of HT_.out (by kernel_rfl)) (fun _ _ _ h => h) (Or.inr ⟨by rfl,rfl⟩) ?_ ?_
        rotate_left
        ·simp only [Act.put,sA,sZ,sS,i64_w,i32_w]
         rfl
        refine pure_ (i:=32) (N:=some 49) (v:=undef) (a':=?_) #[tt,tt,tt,tt,tt,tt,tt,tt,tt,tt,tt,tt,tt,tt,tt,tt,tt,tt,tt,tt,tt,tt,tt,tt,tt,tt,tt,tt,tt,tt,tt,tt,tt,ff,ff,ff,ff,ff,ff,ff] rfl rfl (any_of HT_.out (by kernel_rfl)) (fun _ _ _ h => h) (Or.inr ⟨by rfl,rfl⟩) ?_ ?_
        rotate_left
        ·simp only [Act.put,sA,sZ,sS,i64_w,i32_w]
         rfl
        refine pure_ (i:=33) (N:=some 50) (v:=undef) (a':=?_) #[tt,tt,tt,tt,tt,tt,tt,tt,tt,tt,tt,tt,tt,tt,tt,tt,tt,tt,tt,tt,tt,tt,tt,tt,tt,tt,tt,tt,tt,tt,tt,tt,tt,tt,ff,ff,ff,ff,ff,ff] rfl rfl (any_of HT_.out (by kernel_rfl)) (fun _ _ _ h => h) (Or.inr ⟨by rfl,rfl⟩) ?_ ?_
        rotate_left
        ·simp only [Act.put,sA,sZ,sS,i64_w,i32_w]
         rfl
        refine pure_ (i:=34) (N:=some 51) (v:=undef) (a':=?_) #[tt,tt,tt,tt,tt,tt,tt,tt,tt,tt,tt,tt,tt,tt,tt,tt,tt,tt,tt,tt,tt,tt,tt,tt,tt,tt,tt,tt,tt,tt,tt,tt,tt,tt,tt,ff,ff,ff,ff,ff] rfl rfl (any_of HT_.out (by kernel_rfl)) (fun _ _ _ h => h) (Or.inr ⟨by rfl,rfl⟩) ?_ ?_
        rotate_left
        ·simp only [Act.put,sA,sZ,sS,i64_w,i32_w]
         rfl
        refine pure_ (i:=35) (N:=some 52) (v:=undef) (a':=?_) #[tt,tt,tt,tt,tt,tt,tt,tt,tt,tt,tt,tt,tt,tt,tt,tt,tt,tt,tt,tt,tt,tt,tt,tt,tt,tt,tt,tt,tt,tt,tt,tt,tt,tt,tt,tt,ff,ff,ff,ff] rfl rfl (any_of HT_.out (by kernel_rfl)) (fun _ _ _ h => h) (Or.inr ⟨by rfl,rfl⟩) ?_ ?_
        rotate_left
        ·simp only [Act.put,sA,sZ,sS,i64_w,i32_w]
         rfl
        refine pure_ (i:=36) (N:=some 53) (v:=undef) (a':=?_) #[tt,tt,tt,tt,tt,tt,tt,tt,tt,tt,tt,tt,tt,tt,tt,tt,tt,tt,tt,tt,tt,tt,tt,tt,tt,tt,tt,tt,tt,tt,tt,tt,tt,tt,tt,tt,tt,ff,ff,ff] rfl rfl (any_of HT_.out (by kernel_rfl)) (fun _ _ _ h => h) (Or.inr ⟨by rfl,rfl⟩) ?_ ?_
        rotate_left
        ·simp only [Act.put,sA,sZ,sS,i64_w,i32_w]
         rfl
        refine pure_ (i:=37) (N:=some 54) (v:=undef) (a':=?_) #[tt,tt,tt,tt,tt,tt,tt,tt,tt,tt,tt,tt,tt,tt,tt,tt,tt,tt,tt,tt,tt,tt,tt,tt,tt,tt,tt,tt,tt,tt,tt,tt,tt,tt,tt,tt,tt,tt,ff,ff] rfl rfl (any_of HT_.out (by kernel_rfl)) (fun _ _ _ h => h) (Or.inr ⟨by rfl,rfl⟩) ?_ ?_
        rotate_left
        ·simp only [Act.put,sA,sZ,sS,i64_w,i32_w]
         rfl
        refine pure_ (i:=38) (N:=some 55) (v:=?_) (a':=?_) #[tt,tt,tt,tt,tt,tt,tt,tt,tt,tt,tt,tt,tt,tt,tt,tt,tt,tt,tt,tt,tt,tt,tt,tt,tt,tt,tt,tt,tt,tt,tt,tt,tt,tt,tt,tt,tt,tt,tt,ff] rfl rfl (any_of HT_.out (by kernel_rfl)) (fun _ _ _ h => h) (Or.inl ⟨by rfl,?_⟩) ?_ ?_
        rotate_left
        ·intro w'
         go_simp
         with_reducible rfl
        rotate_left
        ·simp only [Act.put,sA,sZ,sS,i64_w,i32_w]
         rfl
        refine pure_ (i:=39) (N:=some 56) (v:=?_) (a':=?_) #[tt,tt,tt,tt,tt,tt,tt,tt,tt,tt,tt,tt,tt,tt,tt,tt,tt,tt,tt,tt,tt,tt,tt,tt,tt,tt,tt,tt,tt,tt,tt,tt,tt,tt,tt,tt,tt,tt,tt,tt] rfl rfl (any_of HT_.out (by kernel_rfl)) (fun _ _ _ h => h) (Or.inl ⟨by rfl,?_⟩) ?_ ?_
        rotate_left
        ·intro w'
         go_simp
         with_reducible rfl
        rotate_left
        ·simp only [Act.put,sA,sZ,sS,i64_w,i32_w]
         rfl
        refine done_ (done_of HT_.out (by kernel_rfl)) ?_
        try go_wp2
        go_roundg k2
        case measure => have:=HK1.out;have:=HK2.out;omega
        case rel => exact ⟨(x6_2),(wrap64 (x6_2 + 1)),(by first|rfl|(simp;done)|(simp [*];done)),(by first|rfl|(simp;done)|(simp [*];done)),H',⟨by have:=HK1.out;have:=HK2.out;omega⟩,⟨by (with_reducible repeat (first|apply zA|apply zN|apply zD));exact HO_3.out⟩,⟨by (with_reducible repeat (first|apply zA|apply zN|apply zD));exact HO_4.out⟩,⟨by repeat (first|(with_reducible first|exact HB.out|apply below_alloc|apply pw_below_drewN|apply below_drew1)|exact HB.out)⟩⟩
       ·rw [if_neg c10] at H
        have c10b0 : decide (x5_2 < 0) = false:=decide_eq_false c10
        clear c10
        by_cases c13 : 0 ≤ (rd x4_1 x6_2)
        rotate_left
        ·rw [if_neg c13] at H
         exact absurd H (by simp)
        rw [if_pos c13] at H
        have c13b0 : decide (0 ≤ (rd x4_1 x6_2)) = true:=decide_eq_true c13
        clear c13
        by_cases c14 : 0 ≤ x5_2
        rotate_left
        ·rw [if_neg c14] at H
         exact absurd H (by simp)
        rw [if_pos c14] at H
        have c14b0 : decide (0 ≤ x5_2) = true:=decide_eq_true c14
        clear c14
        by_cases c15 : x5_2 < (l0.length : Int)
        rotate_left
        ·rw [if_neg c15] at H
         exact absurd H (by simp)
        rw [if_pos c15] at H
        have c15b0 : decide (x5_2 < (l0.length : Int)) = true:=decide_eq_true c15
        clear c15
        by_cases c16 : x5_2 < (x4_1.length : Int)
        rotate_left
        ·rw [if_neg c16] at H
         exact absurd H (by simp)
        rw [if_pos c16] at H
        have c16b0 : decide (x5_2 < (x4_1.length : Int)) = true:=decide_eq_true c16
        clear c16
        by_cases c17 : 0 ≤ (rd x4_1 x5_2)
        rotate_left
        ·rw [if_neg c17] at H
         exact absurd H (by simp)
        rw [if_pos c17] at H
        have c17b0 : decide (0 ≤ (rd x4_1 x5_2)) = true:=decide_eq_true c17
        clear c17
        by_cases c18 : (rd x4_1 x5_2) < ((rd_L5 l0 x5_2).length : Int)
        rotate_left
        ·rw [if_neg c18] at H
         exact absurd H (by simp)
        rw [if_pos c18] at H
        have c18b0 : decide ((rd x4_1 x5_2) < ((rd_L5 l0 x5_2).length : Int)) = true:=decide_eq_true c18
        clear c18
        replace H:=Option.bind_eq_some_iff.mp H
        obtain ⟨t221,A190,H⟩:=H
        replace H : (if t221 < 0 then (ratlineref11_All.l1 k2 l0 x3_1 x4_1 x6_2 (wrap64 (x6_2 + 1))) else (ratlineref11_All.l1 k2 l0 x3_1 x4_1 x5_2 (wrap64 (x6_2 + 1)))) = some r:=H
        have A19:=Aside0.mk A190
        clear A190
        by_cases c20 : t221 < 0
        ·rw [if_pos c20] at H
         have c20b0 : decide (t221 < 0) = true:=decide_eq_true c20
         clear c20
         have H':=Aside0.mk H
         clear H
         try go_wp2
         have n0_:=Aside0.mk (Kd.R_drew HO_3.out)
         have n1_:=Aside0.mk (Kd.R_drew HO_4.out)
         have n2_:=Aside0.mk (below_drew1 HB.out)
         clear HO_3
         clear HO_4
         clear HB
         have HO_3:=n0_
         have HO_4:=n1_
         have HB:=n2_
         clear n0_ n1_ n2_
         obtain ⟨Ao22,co22,eo22⟩:=Kd.R_slice HO_4.out
         (first|subst eo22|(injection eo22 with f1_ f2_ f3_;have f4_:=f1_.symm;have f5_:=f3_.symm;clear f1_ f2_ f3_;subst f4_;subst f5_))
         have p213 : 0 ≤ (x6_2 : Int):=of_decide_eq_true (by first|(with_reducible assumption)|assumption)
         have q213 : x6_2 < (x4_1.length : Int):=of_decide_eq_true (by first|(with_reducible assumption)|assumption)
         obtain ⟨ad213,e213,hx213_0⟩:=Kd.at_int (Kd.R_reads' HO_4.out).2.2 x6_2 p213 q213
         cases e213
         replace p213:=eq_true p213
         replace q213:=eq_true q213
         have p214 : 0 ≤ (x6_2 : Int):=of_decide_eq_true (by first|(with_reducible assumption)|assumption)
         have q214 : x6_2 < (l0.length : Int):=of_decide_eq_true (by first|(with_reducible assumption)|assumption)
         obtain ⟨ad214,A214_0,c214_0,e214,hx214_0,hl214_0,hi214_0⟩:=at_L5 HR0.out x6_2 p214 q214
         have hw214_0:=hx214_0
         cases e214
         replace hx214_0:=(HB.out.cell (World.block_lt_of_cell? w _ hx214_0)).trans hx214_0
         have HR214_0:=Aside0.mk hi214_0
         have HC214_0:=Aside0.mk hl214_0
         clear hi214_0 hl214_0
         replace p214:=eq_true p214
         replace q214:=eq_true q214
         have p215 : 0 ≤ (x6_2 : Int):=of_decide_eq_true (by first|(with_reducible assumption)|assumption)
         have q215 : x6_2 < (l0.length : Int):=of_decide_eq_true (by first|(with_reducible assumption)|assumption)
         obtain ⟨ad215,A215_0,c215_0,e215,hx215_0,hl215_0,hi215_0⟩:=at_L5 HR0.out x6_2 p215 q215
         have hw215_0:=hx215_0
         obtain rfl : ad214 = ad215:=(by injection e215)
         replace hx215_0:=(HB.out.cell (World.block_lt_of_cell? w _ hx215_0)).trans hx215_0
         have HR215_0:=Aside0.mk hi215_0
         have HC215_0:=Aside0.mk hl215_0
         clear hi215_0 hl215_0
         replace p215:=eq_true p215
         replace q215:=eq_true q215
         have ea_:=Option.some.inj (hx214_0.symm.trans hx215_0)
         injection ea_ with ea_ en_ ec_
         subst ea_
         subst ec_
         clear en_
         have p216 : 0 ≤ (x6_2 : Int):=of_decide_eq_true (by first|(with_reducible assumption)|assumption)
         have q216 : x6_2 < (x4_1.length : Int):=of_decide_eq_true (by first|(with_reducible assumption)|assumption)
         obtain ⟨ad216,e216,hx216_0⟩:=Kd.at_int (Kd.R_reads' HO_4.out).2.2 x6_2 p216 q216
         obtain rfl : ad213 = ad216:=(by injection e216)
         replace p216:=eq_true p216
         replace q216:=eq_true q216
         have p217 : 0 ≤ ((rd x4_1 x6_2) : Int):=of_decide_eq_true (by first|(with_reducible assumption)|assumption)
         have q217 : (rd x4_1 x6_2) < ((rd_L5 l0 x6_2).length : Int):=of_decide_eq_true (by first|(with_reducible assumption)|assumption)
         obtain ⟨ad217,e217,hx217_0,hx217_1,hx217_2,hx217_3⟩:=at_T41 HR215_0.out (rd x4_1 x6_2) p217 q217
         have hw217_3:=hx217_3
         have hw217_2:=hx217_2
         have hw217_1:=hx217_1
         have hw217_0:=hx217_0
         cases e217
         replace hx217_0:=(HB.out.cell (World.block_lt_of_cell? w _ hx217_0)).trans hx217_0
         replace hx217_1:=(HB.out.cell (World.block_lt_of_cell? w _ hx217_1)).trans hx217_1
         replace hx217_2:=(HB.out.cell (World.block_lt_of_cell? w _ hx217_2)).trans hx217_2
         replace hx217_3:=(HB.out.cell (World.block_lt_of_cell? w _ hx217_3)).trans hx217_3
         replace p217:=eq_true p217
         replace q217:=eq_true q217
         have p218 : 0 ≤ (x5_2 : Int):=of_decide_eq_true (by first|(with_reducible assumption)|assumption)
         have q218 : x5_2 < (l0.length : Int):=of_decide_eq_true (by first|(with_reducible assumption)|assumption)
         obtain ⟨ad218,A218_0,c218_0,e218,hx218_0,hl218_0,hi218_0⟩:=at_L5 HR0.out x5_2 p218 q218
         have hw218_0:=hx218_0
         obtain rfl : ad214 = ad218:=(by injection e218)
         replace hx218_0:=(HB.out.cell (World.block_lt_of_cell? w _ hx218_0)).trans hx218_0
         have HR218_0:=Aside0.mk hi218_0
         have HC218_0:=Aside0.mk hl218_0
         clear hi218_0 hl218_0
         replace p218:=eq_true p218
         replace q218:=eq_true q218
         have p219 : 0 ≤ (x5_2 : Int):=of_decide_eq_true (by first|(with_reducible assumption)|assumption)
         have q219 : x5_2 < (x4_1.length : Int):=of_decide_eq_true (by first|(with_reducible assumption)|assumption)
         obtain ⟨ad219,e219,hx219_0⟩:=Kd.at_int (Kd.R_reads' HO_4.out).2.2 x5_2 p219 q219
         obtain rfl : ad213 = ad219:=(by injection e219)
         replace p219:=eq_true p219
         replace q219:=eq_true q219
         have p220 : 0 ≤ ((rd x4_1 x5_2) : Int):=of_decide_eq_true (by first|(with_reducible assumption)|assumption)
         have q220 : (rd x4_1 x5_2) < ((rd_L5 l0 x5_2).length : Int):=of_decide_eq_true (by first|(with_reducible assumption)|assumption)
         obtain ⟨ad220,e220,hx220_0,hx220_1,hx220_2,hx220_3⟩:=at_T41 HR218_0.out (rd x4_1 x5_2) p220 q220
         have hw220_3:=hx220_3
         have hw220_2:=hx220_2
         have hw220_1:=hx220_1
         have hw220_0:=hx220_0
         cases e220
         replace hx220_0:=(HB.out.cell (World.block_lt_of_cell? w _ hx220_0)).trans hx220_0
         replace hx220_1:=(HB.out.cell (World.block_lt_of_cell? w _ hx220_1)).trans hx220_1
         replace hx220_2:=(HB.out.cell (World.block_lt_of_cell? w _ hx220_2)).trans hx220_2
         replace hx220_3:=(HB.out.cell (World.block_lt_of_cell? w _ hx220_3)).trans hx220_3
         replace p220:=eq_true p220
         replace q220:=eq_true q220
         refine start_ (n:=40) (S:=fun w' => w'.cell? (ad213.add (x6_2).toNat) = some (.int .i64 (rd x4_1 x6_2)) ∧ w'.cell? (ad214.add (x6_2).toNat) = some (.slice (some ad217) (rd_L5 l0 x6_2).length c214_0) ∧ w'.cell? (ad214.add (x6_2).toNat) = some (.slice (some ad217) (rd_L5 l0 x6_2).length c214_0) ∧ w'.cell? (ad213.add (x6_2).toNat) = some (.int .i64 (rd x4_1 x6_2)) ∧ w'.cell? (ad217.add (((rd x4_1 x6_2)).toNat * 4)) = some (.string ((rd_T41 (rd_L5 l0 x6_2) (rd x4_1 x6_2)).f0.f0)) ∧ w'.cell? ⟨(ad217.add (((rd x4_1 x6_2)).toNat * 4)).block,(ad217.add (((rd x4_1 x6_2)).toNat * 4)).off + 1,none⟩ = some (.int .u64 ((rd_T41 (rd_L5 l0 x6_2) (rd x4_1 x6_2)).f0.f1)) ∧ w'.cell? ⟨(ad217.add (((rd x4_1 x6_2)).toNat * 4)).block,(ad217.add (((rd x4_1 x6_2)).toNat * 4)).off + 2,none⟩ = some (.int .u8 ((rd_T41 (rd_L5 l0 x6_2) (rd x4_1 x6_2)).f0.f2)) ∧ w'.cell? ⟨(ad217.add (((rd x4_1 x6_2)).toNat * 4)).block,(ad217.add (((rd x4_1 x6_2)).toNat * 4)).off + 3,none⟩ = some (.string ((rd_T41 (rd_L5 l0 x6_2) (rd x4_1 x6_2)).f1)) ∧ w'.cell? (ad214.add (x5_2).toNat) = some (.slice (some ad220) (rd_L5 l0 x5_2).length c218_0) ∧ w'.cell? (ad213.add (x5_2).toNat) = some (.int .i64 (rd x4_1 x5_2)) ∧ w'.cell? (ad220.add (((rd x4_1 x5_2)).toNat * 4)) = some (.string ((rd_T41 (rd_L5 l0 x5_2) (rd x4_1 x5_2)).f0.f0)) ∧ w'.cell? ⟨(ad220.add (((rd x4_1 x5_2)).toNat * 4)).block,(ad220.add (((rd x4_1 x5_2)).toNat * 4)).off + 1,none⟩ = some (.int .u64 ((rd_T41 (rd_L5 l0 x5_2) (rd x4_1 x5_2)).f0.f1)) ∧ w'.cell? ⟨(ad220.add (((rd x4_1 x5_2)).toNat * 4)).block,(ad220.add (((rd x4_1 x5_2)).toNat * 4)).off + 2,none⟩ = some (.int .u8 ((rd_T41 (rd_L5 l0 x5_2) (rd x4_1 x5_2)).f0.f2)) ∧ w'.cell? ⟨(ad220.add (((rd x4_1 x5_2)).toNat * 4)).block,(ad220.add (((rd x4_1 x5_2)).toNat * 4)).off + 3,none⟩ = some (.string ((rd_T41 (rd_L5 l0 x5_2) (rd x4_1 x5_2)).f1))) (ds:=[]) #[ff,ff,ff,ff,ff,ff,ff,ff,ff,ff,ff,ff,ff,ff,ff,ff,ff,ff,ff,ff,ff,ff,ff,ff,ff,ff,ff,ff,ff,ff,ff,ff,ff,ff,ff,ff,ff,ff,ff,ff] (by kernel_rfl) rfl rfl ⟨hx213_0,((HB.out.cell (World.block_lt_of_cell? w _ hw214_0)).trans hw214_0),((HB.out.cell (World.block_lt_of_cell? w _ hw215_0)).trans hw215_0),hx216_0,((HB.out.cell (World.block_lt_of_cell? w _ hw217_0)).trans hw217_0),((HB.out.cell (World.block_lt_of_cell? w _ hw217_1)).trans hw217_1),((HB.out.cell (World.block_lt_of_cell? w _ hw217_2)).trans hw217_2),((HB.out.cell (World.block_lt_of_cell? w _ hw217_3)).trans hw217_3),((HB.out.cell (World.block_lt_of_cell? w _ hw218_0)).trans hw218_0),hx219_0,((HB.out.cell (World.block_lt_of_cell? w _ hw220_0)).trans hw220_0),((HB.out.cell (World.block_lt_of_cell? w _ hw220_1)).trans hw220_1),((HB.out.cell (World.block_lt_of_cell? w _ hw220_2)).trans hw220_2),((HB.out.cell (World.block_lt_of_cell? w _ hw220_3)).trans hw220_3)⟩ (fun hHeld => ?_);refine with_tabW ratlineref11_All.tab7 ratlineref11_All.bits7 (fun HT_ HW_ => ?_)
         generalize wr.drew = w21 at HO_3 HO_4 HB HR214_0 HR215_0 HR218_0 hx213_0 hx214_0 hx215_0 hx216_0 hx217_0 hx217_1 hx217_2 hx217_3 hx218_0 hx219_0 hx220_0 hx220_1 hx220_2 hx220_3 hHeld ⊢
         refine pure_ (i:=0) (N:=some 17) (v:=?_) (a':=?_) #[tt,ff,ff,ff,ff,ff,ff,ff,ff,ff,ff,ff,ff,ff,ff,ff,ff,ff,ff,ff,ff,ff,ff,ff,ff,ff,ff,ff,ff,ff,ff,ff,ff,ff,ff,ff,ff,ff,ff,ff] rfl rfl (any_of HT_.out (by kernel_rfl)) (fun _ _ _ h => h) (Or.inl ⟨by rfl,?_⟩) ?_ ?_
         rotate_left
         ·intro w'
          go_simp
          with_reducible rfl
         rotate_left
         ·simp only [Act.put,sA,sZ,sS,i64_w,i32_w]
          rfl
         refine pure_ (i:=1) (N:=some 18) (v:=?_) (a':=?_) #[tt,tt,ff,ff,ff,ff,ff,ff,ff,ff,ff,ff,ff,ff,ff,ff,ff,ff,ff,ff,ff,ff,ff,ff,ff,ff,ff,ff,ff,ff,ff,ff,ff,ff,ff,ff,ff,ff,ff,ff] rfl rfl (any_of HT_.out (by kernel_rfl)) (fun _ _ _ h => h) (Or.inl ⟨by rfl,?_⟩) ?_ ?_
         rotate_left
         ·intro w'
          go_simp
          with_reducible rfl
         rotate_left
         ·simp only [Act.put,sA,sZ,sS,i64_w,i32_w]
          rfl
         refine pure_ (i:=2) (N:=some 19) (v:=?_) (a':=?_) #[tt,tt,tt,ff,ff,ff,ff,ff,ff,ff,ff,ff,ff,ff,ff,ff,ff,ff,ff,ff,ff,ff,ff,ff,ff,ff,ff,ff,ff,ff,ff,ff,ff,ff,ff,ff,ff,ff,ff,ff] rfl rfl (any_of HT_.out (by kernel_rfl)) (fun _ _ _ h => h) (Or.inl ⟨by rfl,?_⟩) ?_ ?_
         rotate_left
         ·intro w'
          go_simp
          with_reducible rfl
         rotate_left
         ·simp only [Act.put,sA,sZ,sS,i64_w,i32_w]
          rfl
         refine pure_ (i:=4) (N:=some 21) (v:=?_) (a':=?_) #[tt,tt,tt,ff,tt,ff,ff,ff,ff,ff,ff,ff,ff,ff,ff,ff,ff,ff,ff,ff,ff,ff,ff,ff,ff,ff,ff,ff,ff,ff,ff,ff,ff,ff,ff,ff,ff,ff,ff,ff] rfl rfl (any_of HT_.out (by kernel_rfl)) (fun _ _ _ h => h) (Or.inl ⟨by rfl,?_⟩) ?_ ?_
         rotate_left
         ·intro w'
          go_simp
          with_reducible rfl
         rotate_left
         ·simp only [Act.put,sA,sZ,sS,i64_w,i32_w]
          rfl
         refine pure_ (i:=5) (N:=some 22) (v:=?_) (a':=?_) #[tt,tt,tt,ff,tt,tt,ff,ff,ff,ff,ff,ff,ff,ff,ff,ff,ff,ff,ff,ff,ff,ff,ff,ff,ff,ff,ff,ff,ff,ff,ff,ff,ff,ff,ff,ff,ff,ff,ff,ff] rfl rfl (any_of HT_.out (by kernel_rfl)) (fun _ _ _ h => h) (Or.inl ⟨by rfl,?_⟩) ?_ ?_
         rotate_left
         ·intro w'
          go_simp
          with_reducible rfl
         rotate_left
         ·simp only [Act.put,sA,sZ,sS,i64_w,i32_w]
          rfl
         refine pure_ (i:=6) (N:=some 23) (v:=?_) (a':=?_) #[tt,tt,tt,ff,tt,tt,tt,ff,ff,ff,ff,ff,ff,ff,ff,ff,ff,ff,ff,ff,ff,ff,ff,ff,ff,ff,ff,ff,ff,ff,ff,ff,ff,ff,ff,ff,ff,ff,ff,ff] rfl rfl (any_of HT_.out (by kernel_rfl)) (fun _ _ _ h => h) (Or.inl ⟨by rfl,?_⟩) ?_ ?_
         rotate_left
         ·intro w'
          go_simp
          with_reducible rfl
         rotate_left
         ·simp only [Act.put,sA,sZ,sS,i64_w,i32_w]
          rfl
         refine take_ (i:=3) (N:=some 20) (v:=?_) (a':=?_) #[tt,tt,tt,tt,tt,tt,tt,ff,ff,ff,ff,ff,ff,ff,ff,ff,ff,ff,ff,ff,ff,ff,ff,ff,ff,ff,ff,ff,ff,ff,ff,ff,ff,ff,ff,ff,ff,ff,ff,ff] rfl rfl (take_ofW HT_.out HW_.out (by kernel_rfl)) (fun _ _ _ h => h) (Or.inl ⟨by rfl,?_⟩) hHeld ?_ ?_
         rotate_left
         ·rintro w' ⟨s0,s1,s2,s3,s4,s5,s6,s7,s8,s9,s10,s11,s12,s13⟩
          go_simp
          with_reducible rfl
         rotate_left
         ·simp only [Act.put,sA,sZ,sS,i64_w,i32_w]
          rfl
         refine take_ (i:=7) (N:=some 24) (v:=?_) (a':=?_) #[tt,tt,tt,tt,tt,tt,tt,tt,ff,ff,ff,ff,ff,ff,ff,ff,ff,ff,ff,ff,ff,ff,ff,ff,ff,ff,ff,ff,ff,ff,ff,ff,ff,ff,ff,ff,ff,ff,ff,ff] rfl rfl (take_ofW HT_.out HW_.out (by kernel_rfl)) (fun _ _ _ h => h) (Or.inl ⟨by rfl,?_⟩) hHeld ?_ ?_
         rotate_left
         ·rintro w' ⟨s0,s1,s2,s3,s4,s5,s6,s7,s8,s9,s10,s11,s12,s13⟩
          go_simp
          with_reducible rfl
         rotate_left
         ·simp only [Act.put,sA,sZ,sS,i64_w,i32_w]
          rfl
         refine pure_ (i:=8) (N:=some 25) (v:=?_) (a':=?_) #[tt,tt,tt,tt,tt,tt,tt,tt,tt,ff,ff,ff,ff,ff,ff,ff,ff,ff,ff,ff,ff,ff,ff,ff,ff,ff,ff,ff,ff,ff,ff,ff,ff,ff,ff,ff,ff,ff,ff,ff] rfl rfl (any_of HT_.out (by kernel_rfl)) (fun _ _ _ h => h) (Or.inl ⟨by rfl,?_⟩) ?_ ?_
         rotate_left
         ·intro w'
          go_simp
          with_reducible rfl
         rotate_left
         ·simp only [Act.put,sA,sZ,sS,i64_w,i32_w]
          rfl
         refine pure_ (i:=9) (N:=some 26) (v:=?_) (a':=?_) #[tt,tt,tt,tt,tt,tt,tt,tt,tt,tt,ff,ff,ff,ff,ff,ff,ff,ff,ff,ff,ff,ff,ff,ff,ff,ff,ff,ff,ff,ff,ff,ff,ff,ff,ff,ff,ff,ff,ff,ff] rfl rfl (any_of HT_.out (by kernel_rfl)) (fun _ _ _ h => h) (Or.inl ⟨by rfl,?_⟩) ?_ ?_
         rotate_left
         ·intro w'
          go_simp
          with_reducible rfl
         rotate_left
         ·simp only [Act.put,sA,sZ,sS,i64_w,i32_w]
          rfl
         refine pure_ (i:=10) (N:=some 27) (v:=?_) (a':=?_) #[tt,tt,tt,tt,tt,tt,tt,tt,tt,tt,tt,ff,ff,ff,ff,ff,ff,ff,ff,ff,ff,ff,ff,ff,ff,ff,ff,ff,ff,ff,ff,ff,ff,ff,ff,ff,ff,ff,ff,ff] rfl rfl (any_of HT_.out (by kernel_rfl)) (fun _ _ _ h => h) (Or.inl ⟨by rfl,?_⟩) ?_ ?_
         rotate_left
         ·intro w'
          go_simp
          with_reducible rfl
         rotate_left
         ·simp only [Act.put,sA,sZ,sS,i64_w,i32_w]
          rfl
         refine pure_ (i:=11) (N:=some 28) (v:=?_) (a':=?_) #[tt,tt,tt,tt,tt,tt,tt,tt,tt,tt,tt,tt,ff,ff,ff,ff,ff,ff,ff,ff,ff,ff,ff,ff,ff,ff,ff,ff,ff,ff,ff,ff,ff,ff,ff,ff,ff,ff,ff,ff] rfl rfl (any_of HT_.out (by kernel_rfl)) (fun _ _ _ h => h) (Or.inl ⟨by rfl,?_⟩) ?_ ?_
         rotate_left
         ·intro w'
          go_simp
          with_reducible rfl
         rotate_left
         ·simp only [Act.put,sA,sZ,sS,i64_w,i32_w]
          rfl
         refine pure_ (i:=12) (N:=some 29) (v:=?_) (a':=?_) #[tt,tt,tt,tt,tt,tt,tt,tt,tt,tt,tt,tt,tt,ff,ff,ff,ff,ff,ff,ff,ff,ff,ff,ff,ff,ff,ff,ff,ff,ff,ff,ff,ff,ff,ff,ff,ff,ff,ff,ff] rfl rfl (any_of HT_.out (by kernel_rfl)) (fun _ _ _ h => h) (Or.inl ⟨by rfl,?_⟩) ?_ ?_
         rotate_left
         ·intro w'
          go_simp
          with_reducible rfl
         rotate_left
         ·simp only [Act.put,sA,sZ,sS,i64_w,i32_w]
          rfl
         refine pure_ (i:=13) (N:=some 30) (v:=?_) (a':=?_) #[tt,tt,tt,tt,tt,tt,tt,tt,tt,tt,tt,tt,tt,tt,ff,ff,ff,ff,ff,ff,ff,ff,ff,ff,ff,ff,ff,ff,ff,ff,ff,ff,ff,ff,ff,ff,ff,ff,ff,ff] rfl rfl (any_of HT_.out (by kernel_rfl)) (fun _ _ _ h => h) (Or.inl ⟨by rfl,?_⟩) ?_ ?_
         rotate_left
         ·intro w'
          go_simp
          with_reducible rfl
         rotate_left
         ·simp only [Act.put,sA,sZ,sS,i64_w,i32_w]
          rfl
         refine pure_ (i:=14) (N:=some 31) (v:=?_) (a':=?_) #[tt,tt,tt,tt,tt,tt,tt,tt,tt,tt,tt,tt,tt,tt,tt,ff,ff,ff,ff,ff,ff,ff,ff,ff,ff,ff,ff,ff,ff,ff,ff,ff,ff,ff,ff,ff,ff,ff,ff,ff] rfl rfl (any_of HT_.out (by kernel_rfl)) (fun _ _ _ h => h) (Or.inl ⟨by rfl,?_⟩) ?_ ?_
         rotate_left
         ·intro w'
          go_simp
          with_reducible rfl
         rotate_left
         ·simp only [Act.put,sA,sZ,sS,i64_w,i32_w]
          rfl
         refine pure_ (i:=15) (N:=some 32) (v:=?_) (a':=?_) #[tt,tt,tt,tt,tt,tt,tt,tt,tt,tt,tt,tt,tt,tt,tt,tt,ff,ff,ff,ff,ff,ff,ff,ff,ff,ff,ff,ff,ff,ff,ff,ff,ff,ff,ff,ff,ff,ff,ff,ff] rfl rfl (any_of HT_.out (by kernel_rfl)) (fun _ _ _ h => h) (Or.inl ⟨by rfl,?_⟩) ?_ ?_
         rotate_left
         ·intro w'
          go_simp
          with_reducible rfl
         rotate_left
         ·simp only [Act.put,sA,sZ,sS,i64_w,i32_w]
          rfl
         refine pure_ (i:=16) (N:=some 33) (v:=?_) (a':=?_) #[tt,tt,tt,tt,tt,tt,tt,tt,tt,tt,tt,tt,tt,tt,tt,tt,tt,ff,ff,ff,ff,ff,ff,ff,ff,ff,ff,ff,ff,ff,ff,ff,ff,ff,ff,ff,ff,ff,ff,ff] rfl rfl (any_of HT_.out (by kernel_rfl)) (fun _ _ _ h => h) (Or.inl ⟨by rfl,?_⟩) ?_ ?_
         rotate_left
         ·intro w'
          go_simp
          with_reducible rfl
         rotate_left
         ·simp only [Act.put,sA,sZ,sS,i64_w,i32_w]
          rfl
         refine pure_ (i:=18) (N:=some 35) (v:=?_) (a':=?_) #[tt,tt,tt,tt,tt,tt,tt,tt,tt,tt,tt,tt,tt,tt,tt,tt,tt,ff,tt,ff,ff,ff,ff,ff,ff,ff,ff,ff,ff,ff,ff,ff,ff,ff,ff,ff,ff,ff,ff,ff] rfl rfl (any_of HT_.out (by kernel_rfl)) (fun _ _ _ h => h) (Or.inl ⟨by rfl,?_⟩) ?_ ?_
         rotate_left
         ·intro w'
          go_simp
          with_reducible rfl
         rotate_left
         ·simp only [Act.put,sA,sZ,sS,i64_w,i32_w]
          rfl
         refine pure_ (i:=19) (N:=some 36) (v:=?_) (a':=?_) #[tt,tt,tt,tt,tt,tt,tt,tt,tt,tt,tt,tt,tt,tt,tt,tt,tt,ff,tt,tt,ff,ff,ff,ff,ff,ff,ff,ff,ff,ff,ff,ff,ff,ff,ff,ff,ff,ff,ff,ff] rfl rfl (any_of HT_.out (by kernel_rfl)) (fun _ _ _ h => h) (Or.inl ⟨by rfl,?_⟩) ?_ ?_
         rotate_left
         ·intro w'
          go_simp
          with_reducible rfl
         rotate_left
         ·simp only [Act.put,sA,sZ,sS,i64_w,i32_w]
          rfl
         refine pure_ (i:=20) (N:=some 37) (v:=?_) (a':=?_) #[tt,tt,tt,tt,tt,tt,tt,tt,tt,tt,tt,tt,tt,tt,tt,tt,tt,ff,tt,tt,tt,ff,ff,ff,ff,ff,ff,ff,ff,ff,ff,ff,ff,ff,ff,ff,ff,ff,ff,ff] rfl rfl (any_of HT_.out (by kernel_rfl)) (fun _ _ _ h => h) (Or.inl ⟨by rfl,?_⟩) ?_ ?_
         rotate_left
         ·intro w'
          go_simp
          with_reducible rfl
         rotate_left
         ·simp only [Act.put,sA,sZ,sS,i64_w,i32_w]
          rfl
         refine pure_ (i:=25) (N:=some 42) (v:=?_) (a':=?_) #[tt,tt,tt,tt,tt,tt,tt,tt,tt,tt,tt,tt,tt,tt,tt,tt,tt,ff,tt,tt,tt,ff,ff,ff,ff,tt,ff,ff,ff,ff,ff,ff,ff,ff,ff,ff,ff,ff,ff,ff] rfl rfl (any_of HT_.out (by kernel_rfl)) (fun _ _ _ h => h) (Or.inl ⟨by rfl,?_⟩) ?_ ?_
         rotate_left
         ·intro w'
          go_simp
          with_reducible rfl
         rotate_left
         ·simp only [Act.put,sA,sZ,sS,i64_w,i32_w]
          rfl
         refine pure_ (i:=26) (N:=some 43) (v:=?_) (a':=?_) #[tt,tt,tt,tt,tt,tt,tt,tt,tt,tt,tt,tt,tt,tt,tt,tt,tt,ff,tt,tt,tt,ff,ff,ff,ff,tt,tt,ff,ff,ff,ff,ff,ff,ff,ff,ff,ff,ff,ff,ff] rfl rfl (any_of HT_.out (by kernel_rfl)) (fun _ _ _ h => h) (Or.inl ⟨by rfl,?_⟩) ?_ ?_
         rotate_left
         ·intro w'
          go_simp
          with_reducible rfl
         rotate_left
         ·simp only [Act.put,sA,sZ,sS,i64_w,i32_w]
          rfl
         refine pure_ (i:=27) (N:=some 44) (v:=?_) (a':=?_) #[tt,tt,tt,tt,tt,tt,tt,tt,tt,tt,tt,tt,tt,tt,tt,tt,tt,ff,tt,tt,tt,ff,ff,ff,ff,tt,tt,tt,ff,ff,ff,ff,ff,ff,ff,ff,ff,ff,ff,ff] rfl rfl (any_of HT_.out (by kernel_rfl)) (fun _ _ _ h => h) (Or.inl ⟨by rfl,?_⟩) ?_ ?_
         rotate_left
         ·intro w'
          go_simp
          with_reducible rfl
         rotate_left
         ·simp only [Act.put,sA,sZ,sS,i64_w,i32_w]
          rfl
         refine pure_ (i:=29) (N:=some 46) (v:=?_) (a':=?_) #[tt,tt,tt,tt,tt,tt,tt,tt,tt,tt,tt,tt,tt,tt,tt,tt,tt,ff,tt,tt,tt,ff,ff,ff,ff,tt,tt,tt,ff,tt,ff,ff,ff,ff,ff,ff,ff,ff,ff,ff] rfl rfl (any_of HT_.out (by kernel_rfl)) (fun _ _ _ h => h) (Or.inl ⟨by rfl,?_⟩) ?_ ?_
         rotate_left
         ·intro w'
          go_simp
          with_reducible rfl
         rotate_left
         ·simp only [Act.put,sA,sZ,sS,i64_w,i32_w]
          rfl
         refine pure_ (i:=30) (N:=some 47) (v:=?_) (a':=?_) #[tt,tt,tt,tt,tt,tt,tt,tt,tt,tt,tt,tt,tt,tt,tt,tt,tt,ff,tt,tt,tt,ff,ff,ff,ff,tt,tt,tt,ff,tt,tt,ff,ff,ff,ff,ff,ff,ff,ff,ff] rfl rfl (any_of HT_.out (by kernel_rfl)) (fun _ _ _ h => h) (Or.inl ⟨by rfl,?_⟩) ?_ ?_
         rotate_left
         ·intro w'
          go_simp
          with_reducible rfl
         rotate_left
         ·simp only [Act.put,sA,sZ,sS,i64_w,i32_w]
          rfl
         refine pure_ (i:=31) (N:=some 48) (v:=?_) (a':=?_) #[tt,tt,tt,tt,tt,tt,tt,tt,tt,tt,tt,tt,tt,tt,tt,tt,tt,ff,tt,tt,tt,ff,ff,ff,ff,tt,tt,tt,ff,tt,tt,tt,ff,ff,ff,ff,ff,ff,ff,ff] rfl rfl (any_of HT_.out (by kernel_rfl)) (fun _ _ _ h => h) (Or.inl ⟨by rfl,?_⟩) ?_ ?_
         rotate_left
         ·intro w'
          go_simp
          with_reducible rfl
         rotate_left
         ·simp only [Act.put,sA,sZ,sS,i64_w,i32_w]
          rfl
         refine take_ (i:=17) (N:=some 34) (v:=?_) (a':=?_) #[tt,tt,tt,tt,tt,tt,tt,tt,tt,tt,tt,tt,tt,tt,tt,tt,tt,tt,tt,tt,tt,ff,ff,ff,ff,tt,tt,tt,ff,tt,tt,tt,ff,ff,ff,ff,ff,ff,ff,ff] rfl rfl (take_ofW HT_.out HW_.out (by kernel_rfl)) (fun _ _ _ h => h) (Or.inl ⟨by rfl,?_⟩) hHeld ?_ ?_
         rotate_left
         ·rintro w' ⟨s0,s1,s2,s3,s4,s5,s6,s7,s8,s9,s10,s11,s12,s13⟩
          go_simp
          with_reducible rfl
         rotate_left
         ·simp only [Act.put,sA,sZ,sS,i64_w,i32_w]
          rfl
         refine take_ (i:=21) (N:=some 38) (v:=?_) (a':=?_) #[tt,tt,tt,tt,tt,tt,tt,tt,tt,tt,tt,tt,tt,tt,tt,tt,tt,tt,tt,tt,tt,tt,ff,ff,ff,tt,tt,tt,ff,tt,tt,tt,ff,ff,ff,ff,ff,ff,ff,ff] rfl rfl (take_ofW HT_.out HW_.out (by kernel_rfl)) (fun _ _ _ h => h) (Or.inl ⟨by rfl,?_⟩) hHeld ?_ ?_
         rotate_left
         ·rintro w' ⟨s0,s1,s2,s3,s4,s5,s6,s7,s8,s9,s10,s11,s12,s13⟩
          go_simp
          with_reducible rfl
         rotate_left
         ·simp only [Act.put,sA,sZ,sS,i64_w,i32_w]
          rfl
         refine pure_ (i:=22) (N:=some 39) (v:=?_) (a':=?_) #[tt,tt,tt,tt,tt,tt,tt,tt,tt,tt,tt,tt,tt,tt,tt,tt,tt,tt,tt,tt,tt,tt,tt,ff,ff,tt,tt,tt,ff,tt,tt,tt,ff,ff,ff,ff,ff,ff,ff,ff] rfl rfl (any_of HT_.out (by kernel_rfl)) (fun _ _ _ h => h) (Or.inl ⟨by rfl,?_⟩) ?_ ?_
         rotate_left
         ·intro w'
          go_simp
          with_reducible rfl
         rotate_left
         ·simp only [Act.put,sA,sZ,sS,i64_w,i32_w]
          rfl
         refine pure_ (i:=23) (N:=some 40) (v:=?_) (a':=?_) #[tt,tt,tt,tt,tt,tt,tt,tt,tt,tt,tt,tt,tt,tt,tt,tt,tt,tt,tt,tt,tt,tt,tt,tt,ff,tt,tt,tt,ff,tt,tt,tt,ff,ff,ff,ff,ff,ff,ff,ff] rfl rfl (any_of HT_.out (by kernel_rfl)) (fun _ _ _ h => h) (Or.inl ⟨by rfl,?_⟩) ?_ ?_
         rotate_left
         ·intro w'
          go_simp
          with_reducible rfl
         rotate_left
         ·simp only [Act.put,sA,sZ,sS,i64_w,i32_w]
          rfl
         refine take_ (i:=24) (N:=some 41) (v:=?_) (a':=?_) #[tt,tt,tt,tt,tt,tt,tt,tt,tt,tt,tt,tt,tt,tt,tt,tt,tt,tt,tt,tt,tt,tt,tt,tt,tt,tt,tt,tt,ff,tt,tt,tt,ff,ff,ff,ff,ff,ff,ff,ff] rfl rfl (take_ofW HT_.out HW_.out (by kernel_rfl)) (fun _ _ _ h => h) (Or.inl ⟨by rfl,?_⟩) hHeld ?_ ?_
         rotate_left
         ·rintro w' ⟨s0,s1,s2,s3,s4,s5,s6,s7,s8,s9,s10,s11,s12,s13⟩
          go_simp
          with_reducible rfl
         rotate_left
         ·simp only [Act.put,sA,sZ,sS,i64_w,i32_w]
          rfl
         refine take_ (i:=28) (N:=some 45) (v:=?_) (a':=?_) #[tt,tt,tt,tt,tt,tt,tt,tt,tt,tt,tt,tt,tt,tt,tt,tt,tt,tt,tt,tt,tt,tt,tt,tt,tt,tt,tt,tt,tt,tt,tt,tt,ff,ff,ff,ff,ff,ff,ff,ff] rfl rfl (take_ofW HT_.out HW_.out (by kernel_rfl)) (fun _ _ _ h => h) (Or.inl ⟨by rfl,?_⟩) hHeld ?_ ?_
         rotate_left
         ·rintro w' ⟨s0,s1,s2,s3,s4,s5,s6,s7,s8,s9,s10,s11,s12,s13⟩
          go_simp
          with_reducible rfl
         rotate_left
         ·simp only [Act.put,sA,sZ,sS,i64_w,i32_w]
          rfl
         refine take_ (i:=32) (N:=some 49) (v:=?_) (a':=?_) #[tt,tt,tt,tt,tt,tt,tt,tt,tt,tt,tt,tt,tt,tt,tt,tt,tt,tt,tt,tt,tt,tt,tt,tt,tt,tt,tt,tt,tt,tt,tt,tt,tt,ff,ff,ff,ff,ff,ff,ff] rfl rfl (take_ofW HT_.out HW_.out (by kernel_rfl)) (fun _ _ _ h => h) (Or.inl ⟨by rfl,?_⟩) hHeld ?_ ?_
         rotate_left
         ·rintro w' ⟨s0,s1,s2,s3,s4,s5,s6,s7,s8,s9,s10,s11,s12,s13⟩
          go_simp
          with_reducible rfl
         rotate_left
         ·simp only [Act.put,sA,sZ,sS,i64_w,i32_w]
          rfl
         refine pure_ (i:=33) (N:=some 50) (v:=?_) (a':=?_) #[tt,tt,tt,tt,tt,tt,tt,tt,tt,tt,tt,tt,tt,tt,tt,tt,tt,tt,tt,tt,tt,tt,tt,tt,tt,tt,tt,tt,tt,tt,tt,tt,tt,tt,ff,ff,ff,ff,ff,ff] rfl rfl (any_of HT_.out (by kernel_rfl)) (fun _ _ _ h => h) (Or.inl ⟨by rfl,?_⟩) ?_ ?_
         rotate_left
         ·intro w'
          go_simp
          with_reducible rfl
         rotate_left
         ·simp only [Act.put,sA,sZ,sS,i64_w,i32_w]
          rfl
         refine pure_ (i:=34) (N:=some 51) (v:=?_) (a':=?_) #[tt,tt,tt,tt,tt,tt,tt,tt,tt,tt,tt,tt,tt,tt,tt,tt,tt,tt,tt,tt,tt,tt,tt,tt,tt,tt,tt,tt,tt,tt,tt,tt,tt,tt,tt,ff,ff,ff,ff,ff] rfl rfl (any_of HT_.out (by kernel_rfl)) (fun _ _ _ h => h) (Or.inl ⟨by rfl,?_⟩) ?_ ?_
         rotate_left
         ·intro w'
          go_simp
          with_reducible rfl
         rotate_left
         ·simp only [Act.put,sA,sZ,sS,i64_w,i32_w]
          rfl
         refine take_ (i:=35) (N:=some 52) (v:=?_) (a':=?_) #[tt,tt,tt,tt,tt,tt,tt,tt,tt,tt,tt,tt,tt,tt,tt,tt,tt,tt,tt,tt,tt,tt,tt,tt,tt,tt,tt,tt,tt,tt,tt,tt,tt,tt,tt,tt,ff,ff,ff,ff] rfl rfl (take_ofW HT_.out HW_.out (by kernel_rfl)) (fun _ _ _ h => h) (Or.inl ⟨by rfl,?_⟩) hHeld ?_ ?_
         rotate_left
         ·rintro w' ⟨s0,s1,s2,s3,s4,s5,s6,s7,s8,s9,s10,s11,s12,s13⟩
          go_simp
          with_reducible rfl
         rotate_left
         ·simp only [Act.put,sA,sZ,sS,i64_w,i32_w]
          rfl
         refine one_ (i:=36) (N:=some 53) #[tt,tt,tt,tt,tt,tt,tt,tt,tt,tt,tt,tt,tt,tt,tt,tt,tt,tt,tt,tt,tt,tt,tt,tt,tt,tt,tt,tt,tt,tt,tt,tt,tt,tt,tt,tt,tt,ff,ff,ff] rfl rfl (one_of HT_.out (by kernel_rfl)) (by decide) (fun K hK => ?_)
         refine goes_ Try.func38 (by kernel_rfl) rfl #[.agg #[.string ((rd_T41 (rd_L5 l0 x6_2) (rd x4_1 x6_2)).f0.f0),.int .u64 ((rd_T41 (rd_L5 l0 x6_2) (rd x4_1 x6_2)).f0.f1),.int .u8 ((rd_T41 (rd_L5 l0 x6_2) (rd x4_1 x6_2)).f0.f2)],.agg #[.string ((rd_T41 (rd_L5 l0 x5_2) (rd x4_1 x5_2)).f0.f0),.int .u64 ((rd_T41 (rd_L5 l0 x5_2) (rd x4_1 x5_2)).f0.f1),.int .u8 ((rd_T41 (rd_L5 l0 x5_2) (rd x4_1 x5_2)).f0.f2)]] (by rfl) rfl rfl (by (try simp only [List.map_toArray,List.map_cons,List.map_nil]);first|done|rfl|(simp only [List.length_drop,List.length_take];rfl)) ?_
         with_reducible refine (ratlineref03_Compare.calls ((rd_T41 (rd_L5 l0 x6_2) (rd x4_1 x6_2)).f0.f0) ((rd_T41 (rd_L5 l0 x6_2) (rd x4_1 x6_2)).f0.f1) ((rd_T41 (rd_L5 l0 x6_2) (rd x4_1 x6_2)).f0.f2) ((rd_T41 (rd_L5 l0 x5_2) (rd x4_1 x5_2)).f0.f0) ((rd_T41 (rd_L5 l0 x5_2) (rd x4_1 x5_2)).f0.f1) ((rd_T41 (rd_L5 l0 x5_2) (rd x4_1 x5_2)).f0.f2) t221 _ A19.out).mono ?_
         rintro e w23 ⟨rfl,hb⟩
         have HS0_:=bC hb hHeld.1
         have HS3_:=bC hb hHeld.2.2.2.1
         have HS9_:=bC hb hHeld.2.2.2.2.2.2.2.2.2.1
         refine ⟨_,rfl,?_⟩
         have n0_:=Aside0.mk (Kd.R_below (by (with_reducible repeat (first|apply zA|apply zN|apply zD));exact HO_3.out) hb)
         have n1_:=Aside0.mk (Kd.R_below (by (with_reducible repeat (first|apply zA|apply zN|apply zD));exact HO_4.out) hb)
         have n2_:=Aside0.mk (below_step (by repeat (first|(with_reducible first|exact HB.out|apply below_alloc|apply pw_below_drewN|apply below_drew1)|exact HB.out)) hb)
         clear HO_3
         clear HO_4
         clear HB
         have HO_3:=n0_
         have HO_4:=n1_
         have HB:=n2_
         clear n0_ n1_ n2_
         (try clear hb)
         (try clear hb2)
         (try clear hk)
         (try clear hi)
         refine hK.out _ _ ⟨HS0_,((HB.out.cell (World.block_lt_of_cell? w _ hw214_0)).trans hw214_0),((HB.out.cell (World.block_lt_of_cell? w _ hw215_0)).trans hw215_0),HS3_,((HB.out.cell (World.block_lt_of_cell? w _ hw217_0)).trans hw217_0),((HB.out.cell (World.block_lt_of_cell? w _ hw217_1)).trans hw217_1),((HB.out.cell (World.block_lt_of_cell? w _ hw217_2)).trans hw217_2),((HB.out.cell (World.block_lt_of_cell? w _ hw217_3)).trans hw217_3),((HB.out.cell (World.block_lt_of_cell? w _ hw218_0)).trans hw218_0),HS9_,((HB.out.cell (World.block_lt_of_cell? w _ hw220_0)).trans hw220_0),((HB.out.cell (World.block_lt_of_cell? w _ hw220_1)).trans hw220_1),((HB.out.cell (World.block_lt_of_cell? w _ hw220_2)).trans hw220_2),((HB.out.cell (World.block_lt_of_cell? w _ hw220_3)).trans hw220_3)⟩ (fun hHeld => ?_)
         clear hK K
         refine norm_ (a':=?_) ?_ ?_
         rotate_left
         ·show Act.put _ (some 53) _ = _
          simp only [Act.put,sA,sZ,sS,i64_w,i32_w]
          rfl
         refine pure_ (i:=37) (N:=some 54) (v:=?_) (a':=?_) #[tt,tt,tt,tt,tt,tt,tt,tt,tt,tt,tt,tt,tt,tt,tt,tt,tt,tt,tt,tt,tt,tt,tt,tt,tt,tt,tt,tt,tt,tt,tt,tt,tt,tt,tt,tt,tt,tt,ff,ff] rfl rfl (any_of HT_.out (by kernel_rfl)) (fun _ _ _ h => h) (Or.inl ⟨by rfl,?_⟩) ?_ ?_
         rotate_left
         ·intro w'
          go_simp
          with_reducible rfl
         rotate_left
         ·simp only [Act.put,sA,sZ,sS,i64_w,i32_w]
          rfl
         refine pure_ (i:=38) (N:=some 55) (v:=?_) (a':=?_) #[tt,tt,tt,tt,tt,tt,tt,tt,tt,tt,tt,tt,tt,tt,tt,tt,tt,tt,tt,tt,tt,tt,tt,tt,tt,tt,tt,tt,tt,tt,tt,tt,tt,tt,tt,tt,tt,tt,tt,ff] rfl rfl (any_of HT_.out (by kernel_rfl)) (fun _ _ _ h => h) (Or.inl ⟨by rfl,?_⟩) ?_ ?_
         rotate_left
         ·intro w'
          go_simp
          with_reducible rfl
         rotate_left
         ·simp only [Act.put,sA,sZ,sS,i64_w,i32_w]
          rfl
         refine pure_ (i:=39) (N:=some 56) (v:=?_) (a':=?_) #[tt,tt,tt,tt,tt,tt,tt,tt,tt,tt,tt,tt,tt,tt,tt,tt,tt,tt,tt,tt,tt,tt,tt,tt,tt,tt,tt,tt,tt,tt,tt,tt,tt,tt,tt,tt,tt,tt,tt,tt] rfl rfl (any_of HT_.out (by kernel_rfl)) (fun _ _ _ h => h) (Or.inl ⟨by rfl,?_⟩) ?_ ?_
         rotate_left
         ·intro w'
          go_simp
          with_reducible rfl
         rotate_left
         ·simp only [Act.put,sA,sZ,sS,i64_w,i32_w]
          rfl
         refine done_ (done_of HT_.out (by kernel_rfl)) ?_
         try go_wp2
         go_roundg k2
         case measure => have:=HK1.out;have:=HK2.out;omega
         case rel => exact ⟨(x6_2),(wrap64 (x6_2 + 1)),(by first|rfl|(simp;done)|(simp [*];done)),(by first|rfl|(simp;done)|(simp [*];done)),H',⟨by have:=HK1.out;have:=HK2.out;omega⟩,⟨by (with_reducible repeat (first|apply zA|apply zN|apply zD));exact HO_3.out⟩,⟨by (with_reducible repeat (first|apply zA|apply zN|apply zD));exact HO_4.out⟩,⟨by repeat (first|(with_reducible first|exact HB.out|apply below_alloc|apply pw_below_drewN|apply below_drew1)|exact HB.out)⟩⟩
        ·rw [if_neg c20] at H
         have c20b0 : decide (t221 < 0) = false:=decide_eq_false c20
         clear c20
         have H':=Aside0.mk H
         clear H
         try go_wp2
         have n0_:=Aside0.mk (Kd.R_drew HO_3.out)
         have n1_:=Aside0.mk (Kd.R_drew HO_4.out)
         have n2_:=Aside0.mk (below_drew1 HB.out)
         clear HO_3
         clear HO_4
         clear HB
         have HO_3:=n0_
         have HO_4:=n1_
         have HB:=n2_
         clear n0_ n1_ n2_
         obtain ⟨Ao25,co25,eo25⟩:=Kd.R_slice HO_4.out
         (first|subst eo25|(injection eo25 with f1_ f2_ f3_;have f4_:=f1_.symm;have f5_:=f3_.symm;clear f1_ f2_ f3_;subst f4_;subst f5_))
         have p213 : 0 ≤ (x6_2 : Int):=of_decide_eq_true (by first|(with_reducible assumption)|assumption)
         have q213 : x6_2 < (x4_1.length : Int):=of_decide_eq_true (by first|(with_reducible assumption)|assumption)
         obtain ⟨ad213,e213,hx213_0⟩:=Kd.at_int (Kd.R_reads' HO_4.out).2.2 x6_2 p213 q213
         cases e213
         replace p213:=eq_true p213
         replace q213:=eq_true q213
         have p214 : 0 ≤ (x6_2 : Int):=of_decide_eq_true (by first|(with_reducible assumption)|assumption)
         have q214 : x6_2 < (l0.length : Int):=of_decide_eq_true (by first|(with_reducible assumption)|assumption)
         obtain ⟨ad214,A214_0,c214_0,e214,hx214_0,hl214_0,hi214_0⟩:=at_L5 HR0.out x6_2 p214 q214
         have hw214_0:=hx214_0
         cases e214
         replace hx214_0:=(HB.out.cell (World.block_lt_of_cell? w _ hx214_0)).trans hx214_0
         have HR214_0:=Aside0.mk hi214_0
         have HC214_0:=Aside0.mk hl214_0
         clear hi214_0 hl214_0
         replace p214:=eq_true p214
         replace q214:=eq_true q214
         have p215 : 0 ≤ (x6_2 : Int):=of_decide_eq_true (by first|(with_reducible assumption)|assumption)
         have q215 : x6_2 < (l0.length : Int):=of_decide_eq_true (by first|(with_reducible assumption)|assumption)
         obtain ⟨ad215,A215_0,c215_0,e215,hx215_0,hl215_0,hi215_0⟩:=at_L5 HR0.out x6_2 p215 q215
         have hw215_0:=hx215_0
         obtain rfl : ad214 = ad215:=(by injection e215)
         replace hx215_0:=(HB.out.cell (World.block_lt_of_cell? w _ hx215_0)).trans hx215_0
         have HR215_0:=Aside0.mk hi215_0
         have HC215_0:=Aside0.mk hl215_0
         clear hi215_0 hl215_0
         replace p215:=eq_true p215
         replace q215:=eq_true q215
         have ea_:=Option.some.inj (hx214_0.symm.trans hx215_0)
         injection ea_ with ea_ en_ ec_
         subst ea_
         subst ec_
         clear en_
         have p216 : 0 ≤ (x6_2 : Int):=of_decide_eq_true (by first|(with_reducible assumption)|assumption)
         have q216 : x6_2 < (x4_1.length : Int):=of_decide_eq_true (by first|(with_reducible assumption)|assumption)
         obtain ⟨ad216,e216,hx216_0⟩:=Kd.at_int (Kd.R_reads' HO_4.out).2.2 x6_2 p216 q216
         obtain rfl : ad213 = ad216:=(by injection e216)
         replace p216:=eq_true p216
         replace q216:=eq_true q216
         have p217 : 0 ≤ ((rd x4_1 x6_2) : Int):=of_decide_eq_true (by first|(with_reducible assumption)|assumption)
         have q217 : (rd x4_1 x6_2) < ((rd_L5 l0 x6_2).length : Int):=of_decide_eq_true (by first|(with_reducible assumption)|assumption)
         obtain ⟨ad217,e217,hx217_0,hx217_1,hx217_2,hx217_3⟩:=at_T41 HR215_0.out (rd x4_1 x6_2) p217 q217
         have hw217_3:=hx217_3
         have hw217_2:=hx217_2
         have hw217_1:=hx217_1
         have hw217_0:=hx217_0
         cases e217
         replace hx217_0:=(HB.out.cell (World.block_lt_of_cell? w _ hx217_0)).trans hx217_0
         replace hx217_1:=(HB.out.cell (World.block_lt_of_cell? w _ hx217_1)).trans hx217_1
         replace hx217_2:=(HB.out.cell (World.block_lt_of_cell? w _ hx217_2)).trans hx217_2
         replace hx217_3:=(HB.out.cell (World.block_lt_of_cell? w _ hx217_3)).trans hx217_3
         replace p217:=eq_true p217
         replace q217:=eq_true q217
         have p218 : 0 ≤ (x5_2 : Int):=of_decide_eq_true (by first|(with_reducible assumption)|assumption)
         have q218 : x5_2 < (l0.length : Int):=of_decide_eq_true (by first|(with_reducible assumption)|assumption)
         obtain ⟨ad218,A218_0,c218_0,e218,hx218_0,hl218_0,hi218_0⟩:=at_L5 HR0.out x5_2 p218 q218
         have hw218_0:=hx218_0
         obtain rfl : ad214 = ad218:=(by injection e218)
         replace hx218_0:=(HB.out.cell (World.block_lt_of_cell? w _ hx218_0)).trans hx218_0
         have HR218_0:=Aside0.mk hi218_0
         have HC218_0:=Aside0.mk hl218_0
         clear hi218_0 hl218_0
         replace p218:=eq_true p218
         replace q218:=eq_true q218
         have p219 : 0 ≤ (x5_2 : Int):=of_decide_eq_true (by first|(with_reducible assumption)|assumption)
         have q219 : x5_2 < (x4_1.length : Int):=of_decide_eq_true (by first|(with_reducible assumption)|assumption)
         obtain ⟨ad219,e219,hx219_0⟩:=Kd.at_int (Kd.R_reads' HO_4.out).2.2 x5_2 p219 q219
         obtain rfl : ad213 = ad219:=(by injection e219)
         replace p219:=eq_true p219
         replace q219:=eq_true q219
         have p220 : 0 ≤ ((rd x4_1 x5_2) : Int):=of_decide_eq_true (by first|(with_reducible assumption)|assumption)
         have q220 : (rd x4_1 x5_2) < ((rd_L5 l0 x5_2).length : Int):=of_decide_eq_true (by first|(with_reducible assumption)|assumption)
         obtain ⟨ad220,e220,hx220_0,hx220_1,hx220_2,hx220_3⟩:=at_T41 HR218_0.out (rd x4_1 x5_2) p220 q220
         have hw220_3:=hx220_3
         have hw220_2:=hx220_2
         have hw220_1:=hx220_1
         have hw220_0:=hx220_0
         cases e220
         replace hx220_0:=(HB.out.cell (World.block_lt_of_cell? w _ hx220_0)).trans hx220_0
         replace hx220_1:=(HB.out.cell (World.block_lt_of_cell? w _ hx220_1)).trans hx220_1
         replace hx220_2:=(HB.out.cell (World.block_lt_of_cell? w _ hx220_2)).trans hx220_2
         replace hx220_3:=(HB.out.cell (World.block_lt_of_cell? w _ hx220_3)).trans hx220_3
         replace p220:=eq_true p220
         replace q220:=eq_true q220
         refine start_ (n:=40) (S:=fun w' => w'.cell? (ad213.add (x6_2).toNat) = some (.int .i64 (rd x4_1 x6_2)) ∧ w'.cell? (ad214.add (x6_2).toNat) = some (.slice (some ad217) (rd_L5 l0 x6_2).length c214_0) ∧ w'.cell? (ad214.add (x6_2).toNat) = some (.slice (some ad217) (rd_L5 l0 x6_2).length c214_0) ∧ w'.cell? (ad213.add (x6_2).toNat) = some (.int .i64 (rd x4_1 x6_2)) ∧ w'.cell? (ad217.add (((rd x4_1 x6_2)).toNat * 4)) = some (.string ((rd_T41 (rd_L5 l0 x6_2) (rd x4_1 x6_2)).f0.f0)) ∧ w'.cell? ⟨(ad217.add (((rd x4_1 x6_2)).toNat * 4)).block,(ad217.add (((rd x4_1 x6_2)).toNat * 4)).off + 1,none⟩ = some (.int .u64 ((rd_T41 (rd_L5 l0 x6_2) (rd x4_1 x6_2)).f0.f1)) ∧ w'.cell? ⟨(ad217.add (((rd x4_1 x6_2)).toNat * 4)).block,(ad217.add (((rd x4_1 x6_2)).toNat * 4)).off + 2,none⟩ = some (.int .u8 ((rd_T41 (rd_L5 l0 x6_2) (rd x4_1 x6_2)).f0.f2)) ∧ w'.cell? ⟨(ad217.add (((rd x4_1 x6_2)).toNat * 4)).block,(ad217.add (((rd x4_1 x6_2)).toNat * 4)).off + 3,none⟩ = some (.string ((rd_T41 (rd_L5 l0 x6_2) (rd x4_1 x6_2)).f1)) ∧ w'.cell? (ad214.add (x5_2).toNat) = some (.slice (some ad220) (rd_L5 l0 x5_2).length c218_0) ∧ w'.cell? (ad213.add (x5_2).toNat) = some (.int .i64 (rd x4_1 x5_2)) ∧ w'.cell? (ad220.add (((rd x4_1 x5_2)).toNat * 4)) = some (.string ((rd_T41 (rd_L5 l0 x5_2) (rd x4_1 x5_2)).f0.f0)) ∧ w'.cell? ⟨(ad220.add (((rd x4_1 x5_2)).toNat * 4)).block,(ad220.add (((rd x4_1 x5_2)).toNat * 4)).off + 1,none⟩ = some (.int .u64 ((rd_T41 (rd_L5 l0 x5_2) (rd x4_1 x5_2)).f0.f1)) ∧ w'.cell? ⟨(ad220.add (((rd x4_1 x5_2)).toNat * 4)).block,(ad220.add (((rd x4_1 x5_2)).toNat * 4)).off + 2,none⟩ = some (.int .u8 ((rd_T41 (rd_L5 l0 x5_2) (rd x4_1 x5_2)).f0.f2)) ∧ w'.cell? ⟨(ad220.add (((rd x4_1 x5_2)).toNat * 4)).block,(ad220.add (((rd x4_1 x5_2)).toNat * 4)).off + 3,none⟩ = some (.string ((rd_T41 (rd_L5 l0 x5_2) (rd x4_1 x5_2)).f1))) (ds:=[]) #[ff,ff,ff,ff,ff,ff,ff,ff,ff,ff,ff,ff,ff,ff,ff,ff,ff,ff,ff,ff,ff,ff,ff,ff,ff,ff,ff,ff,ff,ff,ff,ff,ff,ff,ff,ff,ff,ff,ff,ff] (by kernel_rfl) rfl rfl ⟨hx213_0,((HB.out.cell (World.block_lt_of_cell? w _ hw214_0)).trans hw214_0),((HB.out.cell (World.block_lt_of_cell? w _ hw215_0)).trans hw215_0),hx216_0,((HB.out.cell (World.block_lt_of_cell? w _ hw217_0)).trans hw217_0),((HB.out.cell (World.block_lt_of_cell? w _ hw217_1)).trans hw217_1),((HB.out.cell (World.block_lt_of_cell? w _ hw217_2)).trans hw217_2),((HB.out.cell (World.block_lt_of_cell? w _ hw217_3)).trans hw217_3),((HB.out.cell (World.block_lt_of_cell? w _ hw218_0)).trans hw218_0),hx219_0,((HB.out.cell (World.block_lt_of_cell? w _ hw220_0)).trans hw220_0),((HB.out.cell (World.block_lt_of_cell? w _ hw220_1)).trans hw220_1),((HB.out.cell (World.block_lt_of_cell? w _ hw220_2)).trans hw220_2),((HB.out.cell (World.block_lt_of_cell? w _ hw220_3)).trans hw220_3)⟩ (fun hHeld => ?_);refine with_tabW ratlineref11_All.tab7 ratlineref11_All.bits7 (fun HT_ HW_ => ?_)
         generalize wr.drew = w24 at HO_3 HO_4 HB HR214_0 HR215_0 HR218_0 hx213_0 hx214_0 hx215_0 hx216_0 hx217_0 hx217_1 hx217_2 hx217_3 hx218_0 hx219_0 hx220_0 hx220_1 hx220_2 hx220_3 hHeld ⊢
         refine pure_ (i:=0) (N:=some 17) (v:=?_) (a':=?_) #[tt,ff,ff,ff,ff,ff,ff,ff,ff,ff,ff,ff,ff,ff,ff,ff,ff,ff,ff,ff,ff,ff,ff,ff,ff,ff,ff,ff,ff,ff,ff,ff,ff,ff,ff,ff,ff,ff,ff,ff] rfl rfl (any_of HT_.out (by kernel_rfl)) (fun _ _ _ h => h) (Or.inl ⟨by rfl,?_⟩) ?_ ?_
         rotate_left
         ·intro w'
          go_simp
          with_reducible rfl
         rotate_left
         ·simp only [Act.put,sA,sZ,sS,i64_w,i32_w]
          rfl
         refine pure_ (i:=1) (N:=some 18) (v:=?_) (a':=?_) #[tt,tt,ff,ff,ff,ff,ff,ff,ff,ff,ff,ff,ff,ff,ff,ff,ff,ff,ff,ff,ff,ff,ff,ff,ff,ff,ff,ff,ff,ff,ff,ff,ff,ff,ff,ff,ff,ff,ff,ff] rfl rfl (any_of HT_.out (by kernel_rfl)) (fun _ _ _ h => h) (Or.inl ⟨by rfl,?_⟩) ?_ ?_
         rotate_left
         ·intro w'
          go_simp
          with_reducible rfl
         rotate_left
         ·simp only [Act.put,sA,sZ,sS,i64_w,i32_w]
          rfl
         refine pure_ (i:=2) (N:=some 19) (v:=?_) (a':=?_) #[tt,tt,tt,ff,ff,ff,ff,ff,ff,ff,ff,ff,ff,ff,ff,ff,ff,ff,ff,ff,ff,ff,ff,ff,ff,ff,ff,ff,ff,ff,ff,ff,ff,ff,ff,ff,ff,ff,ff,ff] rfl rfl (any_of HT_.out (by kernel_rfl)) (fun _ _ _ h => h) (Or.inl ⟨by rfl,?_⟩) ?_ ?_
         rotate_left
         ·intro w'
          go_simp
          with_reducible rfl
         rotate_left
         ·simp only [Act.put,sA,sZ,sS,i64_w,i32_w]
          rfl
         refine pure_ (i:=4) (N:=some 21) (v:=?_) (a':=?_) #[tt,tt,tt,ff,tt,ff,ff,ff,ff,ff,ff,ff,ff,ff,ff,ff,ff,ff,ff,ff,ff,ff,ff,ff,ff,ff,ff,ff,ff,ff,ff,ff,ff,ff,ff,ff,ff,ff,ff,ff] rfl rfl (any_of HT_.out (by kernel_rfl)) (fun _ _ _ h => h) (Or.inl ⟨by rfl,?_⟩) ?_ ?_
         rotate_left
         ·intro w'
          go_simp
          with_reducible rfl
         rotate_left
         ·simp only [Act.put,sA,sZ,sS,i64_w,i32_w]
          rfl
         refine pure_ (i:=5) (N:=some 22) (v:=?_) (a':=?_) #[tt,tt,tt,ff,tt,tt,ff,ff,ff,ff,ff,ff,ff,ff,ff,ff,ff,ff,ff,ff,ff,ff,ff,ff,ff,ff,ff,ff,ff,ff,ff,ff,ff,ff,ff,ff,ff,ff,ff,ff] rfl rfl (any_of HT_.out (by kernel_rfl)) (fun _ _ _ h => h) (Or.inl ⟨by rfl,?_⟩) ?_ ?_
         rotate_left
         ·intro w'
          go_simp
          with_reducible rfl
         rotate_left
         ·simp only [Act.put,sA,sZ,sS,i64_w,i32_w]
          rfl
         refine pure_ (i:=6) (N:=some 23) (v:=?_) (a':=?_) #[tt,tt,tt,ff,tt,tt,tt,ff,ff,ff,ff,ff,ff,ff,ff,ff,ff,ff,ff,ff,ff,ff,ff,ff,ff,ff,ff,ff,ff,ff,ff,ff,ff,ff,ff,ff,ff,ff,ff,ff] rfl rfl (any_of HT_.out (by kernel_rfl)) (fun _ _ _ h => h) (Or.inl ⟨by rfl,?_⟩) ?_ ?_
         rotate_left
         ·intro w'
          go_simp
          with_reducible rfl
         rotate_left
         ·simp only [Act.put,sA,sZ,sS,i64_w,i32_w]
          rfl
         refine take_ (i:=3) (N:=some 20) (v:=?_) (a':=?_) #[tt,tt,tt,tt,tt,tt,tt,ff,ff,ff,ff,ff,ff,ff,ff,ff,ff,ff,ff,ff,ff,ff,ff,ff,ff,ff,ff,ff,ff,ff,ff,ff,ff,ff,ff,ff,ff,ff,ff,ff] rfl rfl (take_ofW HT_.out HW_.out (by kernel_rfl)) (fun _ _ _ h => h) (Or.inl ⟨by rfl,?_⟩) hHeld ?_ ?_
         rotate_left
         ·rintro w' ⟨s0,s1,s2,s3,s4,s5,s6,s7,s8,s9,s10,s11,s12,s13⟩
          go_simp
          with_reducible rfl
         rotate_left
         ·simp only [Act.put,sA,sZ,sS,i64_w,i32_w]
          rfl
         refine take_ (i:=7) (N:=some 24) (v:=?_) (a':=?_) #[tt,tt,tt,tt,tt,tt,tt,tt,ff,ff,ff,ff,ff,ff,ff,ff,ff,ff,ff,ff,ff,ff,ff,ff,ff,ff,ff,ff,ff,ff,ff,ff,ff,ff,ff,ff,ff,ff,ff,ff] rfl rfl (take_ofW HT_.out HW_.out (by kernel_rfl)) (fun _ _ _ h => h) (Or.inl ⟨by rfl,?_⟩) hHeld ?_ ?_
         rotate_left
         ·rintro w' ⟨s0,s1,s2,s3,s4,s5,s6,s7,s8,s9,s10,s11,s12,s13⟩
          go_simp
          with_reducible rfl
         rotate_left
         ·simp only [Act.put,sA,sZ,sS,i64_w,i32_w]
          rfl
         refine pure_ (i:=8) (N:=some 25) (v:=?_) (a':=?_) #[tt,tt,tt,tt,tt,tt,tt,tt,tt,ff,ff,ff,ff,ff,ff,ff,ff,ff,ff,ff,ff,ff,ff,ff,ff,ff,ff,ff,ff,ff,ff,ff,ff,ff,ff,ff,ff,ff,ff,ff] rfl rfl (any_of HT_.out (by kernel_rfl)) (fun _ _ _ h => h) (Or.inl ⟨by rfl,?_⟩) ?_ ?_
         rotate_left
         ·intro w'
          go_simp
          with_reducible rfl
         rotate_left
         ·simp only [Act.put,sA,sZ,sS,i64_w,i32_w]
          rfl
         refine pure_ (i:=9) (N:=some 26) (v:=?_) (a':=?_) #[tt,tt,tt,tt,tt,tt,tt,tt,tt,tt,ff,ff,ff,ff,ff,ff,ff,ff,ff,ff,ff,ff,ff,ff,ff,ff,ff,ff,ff,ff,ff,ff,ff,ff,ff,ff,ff,ff,ff,ff] rfl rfl (any_of HT_.out (by kernel_rfl)) (fun _ _ _ h => h) (Or.inl ⟨by rfl,?_⟩) ?_ ?_
         rotate_left
         ·intro w'
          go_simp
          with_reducible rfl
         rotate_left
         ·simp only [Act.put,sA,sZ,sS,i64_w,i32_w]
          rfl
         refine pure_ (i:=10) (N:=some 27) (v:=?_) (a':=?_) #[tt,tt,tt,tt,tt,tt,tt,tt,tt,tt,tt,ff,ff,ff,ff,ff,ff,ff,ff,ff,ff,ff,ff,ff,ff,ff,ff,ff,ff,ff,ff,ff,ff,ff,ff,ff,ff,ff,ff,ff] rfl rfl (any_of HT_.out (by kernel_rfl)) (fun _ _ _ h => h) (Or.inl ⟨by rfl,?_⟩) ?_ ?_
         rotate_left
         ·intro w'
          go_simp
          with_reducible rfl
         rotate_left
         ·simp only [Act.put,sA,sZ,sS,i64_w,i32_w]
          rfl
         refine pure_ (i:=11) (N:=some 28) (v:=?_) (a':=?_) #[tt,tt,tt,tt,tt,tt,tt,tt,tt,tt,tt,tt,ff,ff,ff,ff,ff,ff,ff,ff,ff,ff,ff,ff,ff,ff,ff,ff,ff,ff,ff,ff,ff,ff,ff,ff,ff,ff,ff,ff] rfl rfl (any_of HT_.out (by kernel_rfl)) (fun _ _ _ h => h) (Or.inl ⟨by rfl,?_⟩) ?_ ?_
         rotate_left
         ·intro w'
          go_simp
          with_reducible rfl
         rotate_left
         ·simp only [Act.put,sA,sZ,sS,i64_w,i32_w]
          rfl
         refine pure_ (i:=12) (N:=some 29) (v:=?_) (a':=?_) #[tt,tt,tt,tt,tt,tt,tt,tt,tt,tt,tt,tt,tt,ff,ff,ff,ff,ff,ff,ff,ff,ff,ff,ff,ff,ff,ff,ff,ff,ff,ff,ff,ff,ff,ff,ff,ff,ff,ff,ff] rfl rfl (any_of HT_.out (by kernel_rfl)) (fun _ _ _ h => h) (Or.inl ⟨by rfl,?_⟩) ?_ ?_
         rotate_left
         ·intro w'
          go_simp
          with_reducible rfl
         rotate_left
         ·simp only [Act.put,sA,sZ,sS,i64_w,i32_w]
          rfl
         refine pure_ (i:=13) (N:=some 30) (v:=?_) (a':=?_) #[tt,tt,tt,tt,tt,tt,tt,tt,tt,tt,tt,tt,tt,tt,ff,ff,ff,ff,ff,ff,ff,ff,ff,ff,ff,ff,ff,ff,ff,ff,ff,ff,ff,ff,ff,ff,ff,ff,ff,ff] rfl rfl (any_of HT_.out (by kernel_rfl)) (fun _ _ _ h => h) (Or.inl ⟨by rfl,?_⟩) ?_ ?_
         rotate_left
         ·intro w'
          go_simp
          with_reducible rfl
         rotate_left
         ·simp only [Act.put,sA,sZ,sS,i64_w,i32_w]
          rfl
         refine pure_ (i:=14) (N:=some 31) (v:=?_) (a':=?_) #[tt,tt,tt,tt,tt,tt,tt,tt,tt,tt,tt,tt,tt,tt,tt,ff,ff,ff,ff,ff,ff,ff,ff,ff,ff,ff,ff,ff,ff,ff,ff,ff,ff,ff,ff,ff,ff,ff,ff,ff] rfl rfl (any_of HT_.out (by kernel_rfl)) (fun _ _ _ h => h) (Or.inl ⟨by rfl,?_⟩) ?_ ?_
         rotate_left
         ·intro w'
          go_simp
          with_reducible rfl
         rotate_left
         ·simp only [Act.put,sA,sZ,sS,i64_w,i32_w]
          rfl
         refine pure_ (i:=15) (N:=some 32) (v:=?_) (a':=?_) #[tt,tt,tt,tt,tt,tt,tt,tt,tt,tt,tt,tt,tt,tt,tt,tt,ff,ff,ff,ff,ff,ff,ff,ff,ff,ff,ff,ff,ff,ff,ff,ff,ff,ff,ff,ff,ff,ff,ff,ff] rfl rfl (any_of HT_.out (by kernel_rfl)) (fun _ _ _ h => h) (Or.inl ⟨by rfl,?_⟩) ?_ ?_
         rotate_left
         ·intro w'
          go_simp
          with_reducible rfl
         rotate_left
         ·simp only [Act.put,sA,sZ,sS,i64_w,i32_w]
          rfl
         refine pure_ (i:=16) (N:=some 33) (v:=?_) (a':=?_) #[tt,tt,tt,tt,tt,tt,tt,tt,tt,tt,tt,tt,tt,tt,tt,tt,tt,ff,ff,ff,ff,ff,ff,ff,ff,ff,ff,ff,ff,ff,ff,ff,ff,ff,ff,ff,ff,ff,ff,ff] rfl rfl (any_of HT_.out (by kernel_rfl)) (fun _ _ _ h => h) (Or.inl ⟨by rfl,?_⟩) ?_ ?_
         rotate_left
         ·intro w'
          go_simp
          with_reducible rfl
         rotate_left
         ·simp only [Act.put,sA,sZ,sS,i64_w,i32_w]
          rfl
         refine pure_ (i:=18) (N:=some 35) (v:=?_) (a':=?_) #[tt,tt,tt,tt,tt,tt,tt,tt,tt,tt,tt,tt,tt,tt,tt,tt,tt,ff,tt,ff,ff,ff,ff,ff,ff,ff,ff,ff,ff,ff,ff,ff,ff,ff,ff,ff,ff,ff,ff,ff] rfl rfl (any_of HT_.out (by kernel_rfl)) (fun _ _ _ h => h) (Or.inl ⟨by rfl,?_⟩) ?_ ?_
         rotate_left
         ·intro w'
          go_simp
          with_reducible rfl
         rotate_left
         ·simp only [Act.put,sA,sZ,sS,i64_w,i32_w]
          rfl
         refine pure_ (i:=19) (N:=some 36) (v:=?_) (a':=?_) #[tt,tt,tt,tt,tt,tt,tt,tt,tt,tt,tt,tt,tt,tt,tt,tt,tt,ff,tt,tt,ff,ff,ff,ff,ff,ff,ff,ff,ff,ff,ff,ff,ff,ff,ff,ff,ff,ff,ff,ff] rfl rfl (any_of HT_.out (by kernel_rfl)) (fun _ _ _ h => h) (Or.inl ⟨by rfl,?_⟩) ?_ ?_
         rotate_left
         ·intro w'
          go_simp
          with_reducible rfl
         rotate_left
         ·simp only [Act.put,sA,sZ,sS,i64_w,i32_w]
          rfl
         refine pure_ (i:=20) (N:=some 37) (v:=?_) (a':=?_) #[tt,tt,tt,tt,tt,tt,tt,tt,tt,tt,tt,tt,tt,tt,tt,tt,tt,ff,tt,tt,tt,ff,ff,ff,ff,ff,ff,ff,ff,ff,ff,ff,ff,ff,ff,ff,ff,ff,ff,ff] rfl rfl (any_of HT_.out (by kernel_rfl)) (fun _ _ _ h => h) (Or.inl ⟨by rfl,?_⟩) ?_ ?_
         rotate_left
         ·intro w'
          go_simp
          with_reducible rfl
         rotate_left
         ·simp only [Act.put,sA,sZ,sS,i64_w,i32_w]
          rfl
         refine pure_ (i:=25) (N:=some 42) (v:=?_) (a':=?_) #[tt,tt,tt,tt,tt,tt,tt,tt,tt,tt,tt,tt,tt,tt,tt,tt,tt,ff,tt,tt,tt,ff,ff,ff,ff,tt,ff,ff,ff,ff,ff,ff,ff,ff,ff,ff,ff,ff,ff,ff] rfl rfl (any_of HT_.out (by kernel_rfl)) (fun _ _ _ h => h) (Or.inl ⟨by rfl,?_⟩) ?_ ?_
         rotate_left
         ·intro w'
          go_simp
          with_reducible rfl
         rotate_left
         ·simp only [Act.put,sA,sZ,sS,i64_w,i32_w]
          rfl
         refine pure_ (i:=26) (N:=some 43) (v:=?_) (a':=?_) #[tt,tt,tt,tt,tt,tt,tt,tt,tt,tt,tt,tt,tt,tt,tt,tt,tt,ff,tt,tt,tt,ff,ff,ff,ff,tt,tt,ff,ff,ff,ff,ff,ff,ff,ff,ff,ff,ff,ff,ff] rfl rfl (any_of HT_.out (by kernel_rfl)) (fun _ _ _ h => h) (Or.inl ⟨by rfl,?_⟩) ?_ ?_
         rotate_left
         ·intro w'
          go_simp
          with_reducible rfl
         rotate_left
         ·simp only [Act.put,sA,sZ,sS,i64_w,i32_w]
          rfl
         refine pure_ (i:=27) (N:=some 44) (v:=?_) (a':=?_) #[tt,tt,tt,tt,tt,tt,tt,tt,tt,tt,tt,tt,tt,tt,tt,tt,tt,ff,tt,tt,tt,ff,ff,ff,ff,tt,tt,tt,ff,ff,ff,ff,ff,ff,ff,ff,ff,ff,ff,ff] rfl rfl (any_of HT_.out (by kernel_rfl)) (fun _ _ _ h => h) (Or.inl ⟨by rfl,?_⟩) ?_ ?_
         rotate_left
         ·intro w'
          go_simp
          with_reducible rfl
         rotate_left
         ·simp only [Act.put,sA,sZ,sS,i64_w,i32_w]
          rfl
         refine pure_ (i:=29) (N:=some 46) (v:=?_) (a':=?_) #[tt,tt,tt,tt,tt,tt,tt,tt,tt,tt,tt,tt,tt,tt,tt,tt,tt,ff,tt,tt,tt,ff,ff,ff,ff,tt,tt,tt,ff,tt,ff,ff,ff,ff,ff,ff,ff,ff,ff,ff] rfl rfl (any_of HT_.out (by kernel_rfl)) (fun _ _ _ h => h) (Or.inl ⟨by rfl,?_⟩) ?_ ?_
         rotate_left
         ·intro w'
          go_simp
          with_reducible rfl
         rotate_left
         ·simp only [Act.put,sA,sZ,sS,i64_w,i32_w]
          rfl
         refine pure_ (i:=30) (N:=some 47) (v:=?_) (a':=?_) #[tt,tt,tt,tt,tt,tt,tt,tt,tt,tt,tt,tt,tt,tt,tt,tt,tt,ff,tt,tt,tt,ff,ff,ff,ff,tt,tt,tt,ff,tt,tt,ff,ff,ff,ff,ff,ff,ff,ff,ff] rfl rfl (any_of HT_.out (by kernel_rfl)) (fun _ _ _ h => h) (Or.inl ⟨by rfl,?_⟩) ?_ ?_
         rotate_left
         ·intro w'
          go_simp
          with_reducible rfl
         rotate_left
         ·simp only [Act.put,sA,sZ,sS,i64_w,i32_w]
          rfl
         refine pure_ (i:=31) (N:=some 48) (v:=?_) (a':=?_) #[tt,tt,tt,tt,tt,tt,tt,tt,tt,tt,tt,tt,tt,tt,tt,tt,tt,ff,tt,tt,tt,ff,ff,ff,ff,tt,tt,tt,ff,tt,tt,tt,ff,ff,ff,ff,ff,ff,ff,ff] rfl rfl (any_of HT_.out (by kernel_rfl)) (fun _ _ _ h => h) (Or.inl ⟨by rfl,?_⟩) ?_ ?_
         rotate_left
         ·intro w'
          go_simp
          with_reducible rfl
         rotate_left
         ·simp only [Act.put,sA,sZ,sS,i64_w,i32_w]
          rfl
         refine take_ (i:=17) (N:=some 34) (v:=?_) (a':=?_) #[tt,tt,tt,tt,tt,tt,tt,tt,tt,tt,tt,tt,tt,tt,tt,tt,tt,tt,tt,tt,tt,ff,ff,ff,ff,tt,tt,tt,ff,tt,tt,tt,ff,ff,ff,ff,ff,ff,ff,ff] rfl rfl (take_ofW HT_.out HW_.out (by kernel_rfl)) (fun _ _ _ h => h) (Or.inl ⟨by rfl,?_⟩) hHeld ?_ ?_
         rotate_left
         ·rintro w' ⟨s0,s1,s2,s3,s4,s5,s6,s7,s8,s9,s10,s11,s12,s13⟩
          go_simp
          with_reducible rfl
         rotate_left
         ·simp only [Act.put,sA,sZ,sS,i64_w,i32_w]
          rfl
         refine take_ (i:=21) (N:=some 38) (v:=?_) (a':=?_) #[tt,tt,tt,tt,tt,tt,tt,tt,tt,tt,tt,tt,tt,tt,tt,tt,tt,tt,tt,tt,tt,tt,ff,ff,ff,tt,tt,tt,ff,tt,tt,tt,ff,ff,ff,ff,ff,ff,ff,ff] rfl rfl (take_ofW HT_.out HW_.out (by kernel_rfl)) (fun _ _ _ h => h) (Or.inl ⟨by rfl,?_⟩) hHeld ?_ ?_
         rotate_left
         ·rintro w' ⟨s0,s1,s2,s3,s4,s5,s6,s7,s8,s9,s10,s11,s12,s13⟩
          go_simp
          with_reducible rfl
         rotate_left
         ·simp only [Act.put,sA,sZ,sS,i64_w,i32_w]
          rfl
         refine pure_ (i:=22) (N:=some 39) (v:=?_) (a':=?_) #[tt,tt,tt,tt,tt,tt,tt,tt,tt,tt,tt,tt,tt,tt,tt,tt,tt,tt,tt,tt,tt,tt,tt,ff,ff,tt,tt,tt,ff,tt,tt,tt,ff,ff,ff,ff,ff,ff,ff,ff] rfl rfl (any_of HT_.out (by kernel_rfl)) (fun _ _ _ h => h) (Or.inl ⟨by rfl,?_⟩) ?_ ?_
         rotate_left
         ·intro w'
          go_simp
          with_reducible rfl
         rotate_left
         ·simp only [Act.put,sA,sZ,sS,i64_w,i32_w]
          rfl
         refine pure_ (i:=23) (N:=some 40) (v:=?_) (a':=?_) #[tt,tt,tt,tt,tt,tt,tt,tt,tt,tt,tt,tt,tt,tt,tt,tt,tt,tt,tt,tt,tt,tt,tt,tt,ff,tt,tt,tt,ff,tt,tt,tt,ff,ff,ff,ff,ff,ff,ff,ff] rfl rfl (any_of HT_.out (by kernel_rfl)) (fun _ _ _ h => h) (Or.inl ⟨by rfl,?_⟩) ?_ ?_
         rotate_left
         ·intro w'
          go_simp
          with_reducible rfl
         rotate_left
         ·simp only [Act.put,sA,sZ,sS,i64_w,i32_w]
          rfl
         refine take_ (i:=24) (N:=some 41) (v:=?_) (a':=?_) #[tt,tt,tt,tt,tt,tt,tt,tt,tt,tt,tt,tt,tt,tt,tt,tt,tt,tt,tt,tt,tt,tt,tt,tt,tt,tt,tt,tt,ff,tt,tt,tt,ff,ff,ff,ff,ff,ff,ff,ff] rfl rfl (take_ofW HT_.out HW_.out (by kernel_rfl)) (fun _ _ _ h => h) (Or.inl ⟨by rfl,?_⟩) hHeld ?_ ?_
         rotate_left
         ·rintro w' ⟨s0,s1,s2,s3,s4,s5,s6,s7,s8,s9,s10,s11,s12,s13⟩
          go_simp
          with_reducible rfl
         rotate_left
         ·simp only [Act.put,sA,sZ,sS,i64_w,i32_w]
          rfl
         refine take_ (i:=28) (N:=some 45) (v:=?_) (a':=?_) #[tt,tt,tt,tt,tt,tt,tt,tt,tt,tt,tt,tt,tt,tt,tt,tt,tt,tt,tt,tt,tt,tt,tt,tt,tt,tt,tt,tt,tt,tt,tt,tt,ff,ff,ff,ff,ff,ff,ff,ff] rfl rfl (take_ofW HT_.out HW_.out (by kernel_rfl)) (fun _ _ _ h => h) (Or.inl ⟨by rfl,?_⟩) hHeld ?_ ?_
         rotate_left
         ·rintro w' ⟨s0,s1,s2,s3,s4,s5,s6,s7,s8,s9,s10,s11,s12,s13⟩
          go_simp
          with_reducible rfl
         rotate_left
         ·simp only [Act.put,sA,sZ,sS,i64_w,i32_w]
          rfl
         refine take_ (i:=32) (N:=some 49) (v:=?_) (a':=?_) #[tt,tt,tt,tt,tt,tt,tt,tt,tt,tt,tt,tt,tt,tt,tt,tt,tt,tt,tt,tt,tt,tt,tt,tt,tt,tt,tt,tt,tt,tt,tt,tt,tt,ff,ff,ff,ff,ff,ff,ff] rfl rfl (take_ofW HT_.out HW_.out (by kernel_rfl)) (fun _ _ _ h => h) (Or.inl ⟨by rfl,?_⟩) hHeld ?_ ?_
         rotate_left
         ·rintro w' ⟨s0,s1,s2,s3,s4,s5,s6,s7,s8,s9,s10,s11,s12,s13⟩
          go_simp
          with_reducible rfl
         rotate_left
         ·simp only [Act.put,sA,sZ,sS,i64_w,i32_w]
          rfl
         refine pure_ (i:=33) (N:=some 50) (v:=?_) (a':=?_) #[tt,tt,tt,tt,tt,tt,tt,tt,tt,tt,tt,tt,tt,tt,tt,tt,tt,tt,tt,tt,tt,tt,tt,tt,tt,tt,tt,tt,tt,tt,tt,tt,tt,tt,ff,ff,ff,ff,ff,ff] rfl rfl (any_of HT_.out (by kernel_rfl)) (fun _ _ _ h => h) (Or.inl ⟨by rfl,?_⟩) ?_ ?_
         rotate_left
         ·intro w'
          go_simp
          with_reducible rfl
         rotate_left
         ·simp only [Act.put,sA,sZ,sS,i64_w,i32_w]
          rfl
         refine pure_ (i:=34) (N:=some 51) (v:=?_) (a':=?_) #[tt,tt,tt,tt,tt,tt,tt,tt,tt,tt,tt,tt,tt,tt,tt,tt,tt,tt,tt,tt,tt,tt,tt,tt,tt,tt,tt,tt,tt,tt,tt,tt,tt,tt,tt,ff,ff,ff,ff,ff] rfl rfl (any_of HT_.out (by kernel_rfl)) (fun _ _ _ h => h) (Or.inl ⟨by rfl,?_⟩) ?_ ?_
         rotate_left
         ·intro w'
          go_simp
          with_reducible rfl
         rotate_left
         ·simp only [Act.put,sA,sZ,sS,i64_w,i32_w]
          rfl
         refine take_ (i:=35) (N:=some 52) (v:=?_) (a':=?_) #[tt,tt,tt,tt,tt,tt,tt,tt,tt,tt,tt,tt,tt,tt,tt,tt,tt,tt,tt,tt,tt,tt,tt,tt,tt,tt,tt,tt,tt,tt,tt,tt,tt,tt,tt,tt,ff,ff,ff,ff] rfl rfl (take_ofW HT_.out HW_.out (by kernel_rfl)) (fun _ _ _ h => h) (Or.inl ⟨by rfl,?_⟩) hHeld ?_ ?_
         rotate_left
         ·rintro w' ⟨s0,s1,s2,s3,s4,s5,s6,s7,s8,s9,s10,s11,s12,s13⟩
          go_simp
          with_reducible rfl
         rotate_left
         ·simp only [Act.put,sA,sZ,sS,i64_w,i32_w]
          rfl
         refine one_ (i:=36) (N:=some 53) #[tt,tt,tt,tt,tt,tt,tt,tt,tt,tt,tt,tt,tt,tt,tt,tt,tt,tt,tt,tt,tt,tt,tt,tt,tt,tt,tt,tt,tt,tt,tt,tt,tt,tt,tt,tt,tt,ff,ff,ff] rfl rfl (one_of HT_.out (by kernel_rfl)) (by decide) (fun K hK => ?_)
         refine goes_ Try.func38 (by kernel_rfl) rfl #[.agg #[.string ((rd_T41 (rd_L5 l0 x6_2) (rd x4_1 x6_2)).f0.f0),.int .u64 ((rd_T41 (rd_L5 l0 x6_2) (rd x4_1 x6_2)).f0.f1),.int .u8 ((rd_T41 (rd_L5 l0 x6_2) (rd x4_1 x6_2)).f0.f2)],.agg #[.string ((rd_T41 (rd_L5 l0 x5_2) (rd x4_1 x5_2)).f0.f0),.int .u64 ((rd_T41 (rd_L5 l0 x5_2) (rd x4_1 x5_2)).f0.f1),.int .u8 ((rd_T41 (rd_L5 l0 x5_2) (rd x4_1 x5_2)).f0.f2)]] (by rfl) rfl rfl (by (try simp only [List.map_toArray,List.map_cons,List.map_nil]);first|done|rfl|(simp only [List.length_drop,List.length_take];rfl)) ?_
         with_reducible refine (ratlineref03_Compare.calls ((rd_T41 (rd_L5 l0 x6_2) (rd x4_1 x6_2)).f0.f0) ((rd_T41 (rd_L5 l0 x6_2) (rd x4_1 x6_2)).f0.f1) ((rd_T41 (rd_L5 l0 x6_2) (rd x4_1 x6_2)).f0.f2) ((rd_T41 (rd_L5 l0 x5_2) (rd x4_1 x5_2)).f0.f0) ((rd_T41 (rd_L5 l0 x5_2) (rd x4_1 x5_2)).f0.f1) ((rd_T41 (rd_L5 l0 x5_2) (rd x4_1 x5_2)).f0.f2) t221 _ A19.out).mono ?_
         rintro e w26 ⟨rfl,hb⟩
         have HS0_:=bC hb hHeld.1
         have HS3_:=bC hb hHeld.2.2.2.1
         have HS9_:=bC hb hHeld.2.2.2.2.2.2.2.2.2.1
         refine ⟨_,rfl,?_⟩
         have n0_:=Aside0.mk (Kd.R_below (by (with_reducible repeat (first|apply zA|apply zN|apply zD));exact HO_3.out) hb)
         have n1_:=Aside0.mk (Kd.R_below (by (with_reducible repeat (first|apply zA|apply zN|apply zD));exact HO_4.out) hb)
         have n2_:=Aside0.mk (below_step (by repeat (first|(with_reducible first|exact HB.out|apply below_alloc|apply pw_below_drewN|apply below_drew1)|exact HB.out)) hb)
         clear HO_3
         clear HO_4
         clear HB
         have HO_3:=n0_
         have HO_4:=n1_
         have HB:=n2_
         clear n0_ n1_ n2_
         (try clear hb)
         (try clear hb2)
         (try clear hk)
         (try clear hi)
         refine hK.out _ _ ⟨HS0_,((HB.out.cell (World.block_lt_of_cell? w _ hw214_0)).trans hw214_0),((HB.out.cell (World.block_lt_of_cell? w _ hw215_0)).trans hw215_0),HS3_,((HB.out.cell (World.block_lt_of_cell? w _ hw217_0)).trans hw217_0),((HB.out.cell (World.block_lt_of_cell? w _ hw217_1)).trans hw217_1),((HB.out.cell (World.block_lt_of_cell? w _ hw217_2)).trans hw217_2),((HB.out.cell (World.block_lt_of_cell? w _ hw217_3)).trans hw217_3),((HB.out.cell (World.block_lt_of_cell? w _ hw218_0)).trans hw218_0),HS9_,((HB.out.cell (World.block_lt_of_cell? w _ hw220_0)).trans hw220_0),((HB.out.cell (World.block_lt_of_cell? w _ hw220_1)).trans hw220_1),((HB.out.cell (World.block_lt_of_cell? w _ hw220_2)).trans hw220_2),((HB.out.cell (World.block_lt_of_cell? w _ hw220_3)).trans hw220_3)⟩ (fun hHeld => ?_)
         clear hK K
         refine norm_ (a':=?_) ?_ ?_
         rotate_left
         ·show Act.put _ (some 53) _ = _
          simp only [Act.put,sA,sZ,sS,i64_w,i32_w]
          rfl
         refine pure_ (i:=37) (N:=some 54) (v:=?_) (a':=?_) #[tt,tt,tt,tt,tt,tt,tt,tt,tt,tt,tt,tt,tt,tt,tt,tt,tt,tt,tt,tt,tt,tt,tt,tt,tt,tt,tt,tt,tt,tt,tt,tt,tt,tt,tt,tt,tt,tt,ff,ff] rfl rfl (any_of HT_.out (by kernel_rfl)) (fun _ _ _ h => h) (Or.inl ⟨by rfl,?_⟩) ?_ ?_
         rotate_left
         ·intro w'
          go_simp
          with_reducible rfl
         rotate_left
         ·simp only [Act.put,sA,sZ,sS,i64_w,i32_w]
          rfl
         refine pure_ (i:=38) (N:=some 55) (v:=?_) (a':=?_) #[tt,tt,tt,tt,tt,tt,tt,tt,tt,tt,tt,tt,tt,tt,tt,tt,tt,tt,tt,tt,tt,tt,tt,tt,tt,tt,tt,tt,tt,tt,tt,tt,tt,tt,tt,tt,tt,tt,tt,ff] rfl rfl (any_of HT_.out (by kernel_rfl)) (fun _ _ _ h => h) (Or.inl ⟨by rfl,?_⟩) ?_ ?_
         rotate_left
         ·intro w'
          go_simp
          with_reducible rfl
         rotate_left
         ·simp only [Act.put,sA,sZ,sS,i64_w,i32_w]
          rfl
         refine pure_ (i:=39) (N:=some 56) (v:=?_) (a':=?_) #[tt,tt,tt,tt,tt,tt,tt,tt,tt,tt,tt,tt,tt,tt,tt,tt,tt,tt,tt,tt,tt,tt,tt,tt,tt,tt,tt,tt,tt,tt,tt,tt,tt,tt,tt,tt,tt,tt,tt,tt] rfl rfl (any_of HT_.out (by kernel_rfl)) (fun _ _ _ h => h) (Or.inl ⟨by rfl,?_⟩) ?_ ?_
         rotate_left
         ·intro w'
          go_simp
          with_reducible rfl
         rotate_left
         ·simp only [Act.put,sA,sZ,sS,i64_w,i32_w]
          rfl
         refine done_ (done_of HT_.out (by kernel_rfl)) ?_
         try go_wp2
         go_roundg k2
         case measure => have:=HK1.out;have:=HK2.out;omega
         case rel => exact ⟨(x5_2),(wrap64 (x6_2 + 1)),(by first|rfl|(simp;done)|(simp [*];done)),(by first|rfl|(simp;done)|(simp [*];done)),H',⟨by have:=HK1.out;have:=HK2.out;omega⟩,⟨by (with_reducible repeat (first|apply zA|apply zN|apply zD));exact HO_3.out⟩,⟨by (with_reducible repeat (first|apply zA|apply zN|apply zD));exact HO_4.out⟩,⟨by repeat (first|(with_reducible first|exact HB.out|apply below_alloc|apply pw_below_drewN|apply below_drew1)|exact HB.out)⟩⟩
      ·rw [if_neg c9] at H
       have c9b0 : decide ((rd x4_1 x6_2) < ((rd_L5 l0 x6_2).length : Int)) = false:=decide_eq_false c9
       clear c9
       have H':=Aside0.mk H
       clear H
       try go_wp2
       have n0_:=Aside0.mk (Kd.R_drew HO_3.out)
       have n1_:=Aside0.mk (Kd.R_drew HO_4.out)
       have n2_:=Aside0.mk (below_drew1 HB.out)
       clear HO_3
       clear HO_4
       clear HB
       have HO_3:=n0_
       have HO_4:=n1_
       have HB:=n2_
       clear n0_ n1_ n2_
       obtain ⟨Ao28,co28,eo28⟩:=Kd.R_slice HO_4.out
       (first|subst eo28|(injection eo28 with f1_ f2_ f3_;have f4_:=f1_.symm;have f5_:=f3_.symm;clear f1_ f2_ f3_;subst f4_;subst f5_))
       have p213 : 0 ≤ (x6_2 : Int):=of_decide_eq_true (by first|(with_reducible assumption)|assumption)
       have q213 : x6_2 < (x4_1.length : Int):=of_decide_eq_true (by first|(with_reducible assumption)|assumption)
       obtain ⟨ad213,e213,hx213_0⟩:=Kd.at_int (Kd.R_reads' HO_4.out).2.2 x6_2 p213 q213
       cases e213
       replace p213:=eq_true p213
       replace q213:=eq_true q213
       have p214 : 0 ≤ (x6_2 : Int):=of_decide_eq_true (by first|(with_reducible assumption)|assumption)
       have q214 : x6_2 < (l0.length : Int):=of_decide_eq_true (by first|(with_reducible assumption)|assumption)
       obtain ⟨ad214,A214_0,c214_0,e214,hx214_0,hl214_0,hi214_0⟩:=at_L5 HR0.out x6_2 p214 q214
       have hw214_0:=hx214_0
       cases e214
       replace hx214_0:=(HB.out.cell (World.block_lt_of_cell? w _ hx214_0)).trans hx214_0
       have HR214_0:=Aside0.mk hi214_0
       have HC214_0:=Aside0.mk hl214_0
       clear hi214_0 hl214_0
       replace p214:=eq_true p214
       replace q214:=eq_true q214
       refine start_ (n:=40) (S:=fun w' => w'.cell? (ad213.add (x6_2).toNat) = some (.int .i64 (rd x4_1 x6_2)) ∧ w'.cell? (ad214.add (x6_2).toNat) = some (.slice A214_0 (rd_L5 l0 x6_2).length c214_0)) (ds:=[]) #[ff,ff,ff,ff,ff,ff,ff,ff,ff,ff,ff,ff,ff,ff,ff,ff,ff,ff,ff,ff,ff,ff,ff,ff,ff,ff,ff,ff,ff,ff,ff,ff,ff,ff,ff,ff,ff,ff,ff,ff] (by kernel_rfl) rfl rfl ⟨hx213_0,((HB.out.cell (World.block_lt_of_cell? w _ hw214_0)).trans hw214_0)⟩ (fun hHeld => ?_);refine with_tabW ratlineref11_All.tab7 ratlineref11_All.bits7 (fun HT_ HW_ => ?_)
       generalize wr.drew = w27 at HO_3 HO_4 HB HR214_0 hx213_0 hx214_0 hHeld ⊢
       refine pure_ (i:=0) (N:=some 17) (v:=?_) (a':=?_) #[tt,ff,ff,ff,ff,ff,ff,ff,ff,ff,ff,ff,ff,ff,ff,ff,ff,ff,ff,ff,ff,ff,ff,ff,ff,ff,ff,ff,ff,ff,ff,ff,ff,ff,ff,ff,ff,ff,ff,ff] rfl rfl (any_of HT_.out (by kernel_rfl)) (fun _ _ _ h => h) (Or.inl ⟨by rfl,?_⟩) ?_ ?_
       rotate_left
       ·intro w'
        go_simp
        with_reducible rfl
       rotate_left
       ·simp only [Act.put,sA,sZ,sS,i64_w,i32_w]
        rfl
       refine pure_ (i:=1) (N:=some 18) (v:=?_) (a':=?_) #[tt,tt,ff,ff,ff,ff,ff,ff,ff,ff,ff,ff,ff,ff,ff,ff,ff,ff,ff,ff,ff,ff,ff,ff,ff,ff,ff,ff,ff,ff,ff,ff,ff,ff,ff,ff,ff,ff,ff,ff] rfl rfl (any_of HT_.out (by kernel_rfl)) (fun _ _ _ h => h) (Or.inl ⟨by rfl,?_⟩) ?_ ?_
       rotate_left
       ·intro w'
        go_simp
        with_reducible rfl
       rotate_left
       ·simp only [Act.put,sA,sZ,sS,i64_w,i32_w]
        rfl
       refine pure_ (i:=2) (N:=some 19) (v:=?_) (a':=?_) #[tt,tt,tt,ff,ff,ff,ff,ff,ff,ff,ff,ff,ff,ff,ff,ff,ff,ff,ff,ff,ff,ff,ff,ff,ff,ff,ff,ff,ff,ff,ff,ff,ff,ff,ff,ff,ff,ff,ff,ff] rfl rfl (any_of HT_.out (by kernel_rfl)) (fun _ _ _ h => h) (Or.inl ⟨by rfl,?_⟩) ?_ ?_
       rotate_left
       ·intro w'
        go_simp
        with_reducible rfl
       rotate_left
       ·simp only [Act.put,sA,sZ,sS,i64_w,i32_w]
        rfl
       refine pure_ (i:=4) (N:=some 21) (v:=?_) (a':=?_) #[tt,tt,tt,ff,tt,ff,ff,ff,ff,ff,ff,ff,ff,ff,ff,ff,ff,ff,ff,ff,ff,ff,ff,ff,ff,ff,ff,ff,ff,ff,ff,ff,ff,ff,ff,ff,ff,ff,ff,ff] rfl rfl (any_of HT_.out (by kernel_rfl)) (fun _ _ _ h => h) (Or.inl ⟨by rfl,?_⟩) ?_ ?_
       rotate_left
       ·intro w'
        go_simp
        with_reducible rfl
       rotate_left
       ·simp only [Act.put,sA,sZ,sS,i64_w,i32_w]
        rfl
       refine pure_ (i:=5) (N:=some 22) (v:=?_) (a':=?_) #[tt,tt,tt,ff,tt,tt,ff,ff,ff,ff,ff,ff,ff,ff,ff,ff,ff,ff,ff,ff,ff,ff,ff,ff,ff,ff,ff,ff,ff,ff,ff,ff,ff,ff,ff,ff,ff,ff,ff,ff] rfl rfl (any_of HT_.out (by kernel_rfl)) (fun _ _ _ h => h) (Or.inl ⟨by rfl,?_⟩) ?_ ?_
       rotate_left
       ·intro w'
        go_simp
        with_reducible rfl
       rotate_left
       ·simp only [Act.put,sA,sZ,sS,i64_w,i32_w]
        rfl
       refine pure_ (i:=6) (N:=some 23) (v:=?_) (a':=?_) #[tt,tt,tt,ff,tt,tt,tt,ff,ff,ff,ff,ff,ff,ff,ff,ff,ff,ff,ff,ff,ff,ff,ff,ff,ff,ff,ff,ff,ff,ff,ff,ff,ff,ff,ff,ff,ff,ff,ff,ff] rfl rfl (any_of HT_.out (by kernel_rfl)) (fun _ _ _ h => h) (Or.inl ⟨by rfl,?_⟩) ?_ ?_
       rotate_left
       ·intro w'
        go_simp
        with_reducible rfl
       rotate_left
       ·simp only [Act.put,sA,sZ,sS,i64_w,i32_w]
        rfl
       refine take_ (i:=3) (N:=some 20) (v:=?_) (a':=?_) #[tt,tt,tt,tt,tt,tt,tt,ff,ff,ff,ff,ff,ff,ff,ff,ff,ff,ff,ff,ff,ff,ff,ff,ff,ff,ff,ff,ff,ff,ff,ff,ff,ff,ff,ff,ff,ff,ff,ff,ff] rfl rfl (take_ofW HT_.out HW_.out (by kernel_rfl)) (fun _ _ _ h => h) (Or.inl ⟨by rfl,?_⟩) hHeld ?_ ?_
       rotate_left
       ·rintro w' ⟨s0,s1⟩
        go_simp
        with_reducible rfl
       rotate_left
       ·simp only [Act.put,sA,sZ,sS,i64_w,i32_w]
        rfl
       refine take_ (i:=7) (N:=some 24) (v:=?_) (a':=?_) #[tt,tt,tt,tt,tt,tt,tt,tt,ff,ff,ff,ff,ff,ff,ff,ff,ff,ff,ff,ff,ff,ff,ff,ff,ff,ff,ff,ff,ff,ff,ff,ff,ff,ff,ff,ff,ff,ff,ff,ff] rfl rfl (take_ofW HT_.out HW_.out (by kernel_rfl)) (fun _ _ _ h => h) (Or.inl ⟨by rfl,?_⟩) hHeld ?_ ?_
       rotate_left
       ·rintro w' ⟨s0,s1⟩
        go_simp
        with_reducible rfl
       rotate_left
       ·simp only [Act.put,sA,sZ,sS,i64_w,i32_w]
        rfl
       refine pure_ (i:=8) (N:=some 25) (v:=?_) (a':=?_) #[tt,tt,tt,tt,tt,tt,tt,tt,tt,ff,ff,ff,ff,ff,ff,ff,ff,ff,ff,ff,ff,ff,ff,ff,ff,ff,ff,ff,ff,ff,ff,ff,ff,ff,ff,ff,ff,ff,ff,ff] rfl rfl (any_of HT_.out (by kernel_rfl)) (fun _ _ _ h => h) (Or.inl ⟨by rfl,?_⟩) ?_ ?_
       rotate_left
       ·intro w'
        go_simp
        with_reducible rfl
       rotate_left
       ·simp only [Act.put,sA,sZ,sS,i64_w,i32_w]
        rfl
       refine pure_ (i:=9) (N:=some 26) (v:=?_) (a':=?_) #[tt,tt,tt,tt,tt,tt,tt,tt,tt,tt,ff,ff,ff,ff,ff,ff,ff,ff,ff,ff,ff,ff,ff,ff,ff,ff,ff,ff,ff,ff,ff,ff,ff,ff,ff,ff,ff,ff,ff,ff] rfl rfl (any_of HT_.out (by kernel_rfl)) (fun _ _ _ h => h) (Or.inl ⟨by rfl,?_⟩) ?_ ?_
       rotate_left
       ·intro w'
        go_simp
        with_reducible rfl
       rotate_left
       ·simp only [Act.put,sA,sZ,sS,i64_w,i32_w]
        rfl
       refine pure_ (i:=10) (N:=some 27) (v:=?_) (a':=?_) #[tt,tt,tt,tt,tt,tt,tt,tt,tt,tt,tt,ff,ff,ff,ff,ff,ff,ff,ff,ff,ff,ff,ff,ff,ff,ff,ff,ff,ff,ff,ff,ff,ff,ff,ff,ff,ff,ff,ff,ff] rfl rfl (any_of HT_.out (by kernel_rfl)) (fun _ _ _ h => h) (Or.inl ⟨by rfl,?_⟩) ?_ ?_
       rotate_left
       ·intro w'
        go_simp
        with_reducible rfl
       rotate_left
       ·simp only [Act.put,sA,sZ,sS,i64_w,i32_w]
        rfl
       refine pure_ (i:=11) (N:=some 28) (v:=undef) (a':=?_) #[tt,tt,tt,tt,tt,tt,tt,tt,tt,tt,tt,tt,ff,ff,ff,ff,ff,ff,ff,ff,ff,ff,ff,ff,ff,ff,ff,ff,ff,ff,ff,ff,ff,ff,ff,ff,ff,ff,ff,ff] rfl rfl (any_of HT_.out (by kernel_rfl)) (fun _ _ _ h => h) (Or.inr ⟨by rfl,rfl⟩) ?_ ?_
       rotate_left
       ·simp only [Act.put,sA,sZ,sS,i64_w,i32_w]
        rfl
       refine pure_ (i:=12) (N:=some 29) (v:=undef) (a':=?_) #[tt,tt,tt,tt,tt,tt,tt,tt,tt,tt,tt,tt,tt,ff,ff,ff,ff,ff,ff,ff,ff,ff,ff,ff,ff,ff,ff,ff,ff,ff,ff,ff,ff,ff,ff,ff,ff,ff,ff,ff] rfl rfl (any_of HT_.out (by kernel_rfl)) (fun _ _ _ h => h) (Or.inr ⟨by rfl,rfl⟩) ?_ ?_
       rotate_left
       ·simp only [Act.put,sA,sZ,sS,i64_w,i32_w]
        rfl
       refine pure_ (i:=13) (N:=some 30) (v:=undef) (a':=?_) #[tt,tt,tt,tt,tt,tt,tt,tt,tt,tt,tt,tt,tt,tt,ff,ff,ff,ff,ff,ff,ff,ff,ff,ff,ff,ff,ff,ff,ff,ff,ff,ff,ff,ff,ff,ff,ff,ff,ff,ff] rfl rfl (any_of HT_.out (by kernel_rfl)) (fun _ _ _ h => h) (Or.inr ⟨by rfl,rfl⟩) ?_ ?_
       rotate_left
       ·simp only [Act.put,sA,sZ,sS,i64_w,i32_w]
        rfl
       refine pure_ (i:=14) (N:=some 31) (v:=undef) (a':=?_) #[tt,tt,tt,tt,tt,tt,tt,tt,tt,tt,tt,tt,tt,tt,tt,ff,ff,ff,ff,ff,ff,ff,ff,ff,ff,ff,ff,ff,ff,ff,ff,ff,ff,ff,ff,ff,ff,ff,ff,ff] rfl rfl (any_of HT_.out (by kernel_rfl)) (fun _ _ _ h => h) (Or.inr ⟨by rfl,rfl⟩) ?_ ?_
       rotate_left
       ·simp only [Act.put,sA,sZ,sS,i64_w,i32_w]
        rfl
       refine pure_ (i:=15) (N:=some 32) (v:=undef) (a':=?_) #[tt,tt,tt,tt,tt,tt,tt,tt,tt,tt,tt,tt,tt,tt,tt,tt,ff,ff,ff,ff,ff,ff,ff,ff,ff,ff,ff,ff,ff,ff,ff,ff,ff,ff,ff,ff,ff,ff,ff,ff] rfl rfl (any_of HT_.out (by kernel_rfl)) (fun _ _ _ h => h) (Or.inr ⟨by rfl,rfl⟩) ?_ ?_
       rotate_left
       ·simp only [Act.put,sA,sZ,sS,i64_w,i32_w]
        rfl
       refine pure_ (i:=16) (N:=some 33) (v:=undef) (a':=?_) #[tt,tt,tt,tt,tt,tt,tt,tt,tt,tt,tt,tt,tt,tt,tt,tt,tt,ff,ff,ff,ff,ff,ff,ff,ff,ff,ff,ff,ff,ff,ff,ff,ff,ff,ff,ff,ff,ff,ff,ff] rfl rfl (any_of HT_.out (by kernel_rfl)) (fun _ _ _ h => h) (Or.inr ⟨by rfl,rfl⟩) ?_ ?_
       rotate_left
       ·simp only [Act.put,sA,sZ,sS,i64_w,i32_w]
        rfl
       refine pure_ (i:=17) (N:=some 34) (v:=undef) (a':=?_) #[tt,tt,tt,tt,tt,tt,tt,tt,tt,tt,tt,tt,tt,tt,tt,tt,tt,tt,ff,ff,ff,ff,ff,ff,ff,ff,ff,ff,ff,ff,ff,ff,ff,ff,ff,ff,ff,ff,ff,ff] rfl rfl (any_of HT_.out (by kernel_rfl)) (fun _ _ _ h => h) (Or.inr ⟨by rfl,rfl⟩) ?_ ?_
       rotate_left
       ·simp only [Act.put,sA,sZ,sS,i64_w,i32_w]
        rfl
       refine pure_ (i:=18) (N:=some 35) (v:=undef) (a':=?_) #[tt,tt,tt,tt,tt,tt,tt,tt,tt,tt,tt,tt,tt,tt,tt,tt,tt,tt,tt,ff,ff,ff,ff,ff,ff,ff,ff,ff,ff,ff,ff,ff,ff,ff,ff,ff,ff,ff,ff,ff] rfl rfl (any_of HT_.out (by kernel_rfl)) (fun _ _ _ h => h) (Or.inr ⟨by rfl,rfl⟩) ?_ ?_
       rotate_left
       ·simp only [Act.put,sA,sZ,sS,i64_w,i32_w]
        rfl
       refine pure_ (i:=19) (N:=some 36) (v:=undef) (a':=?_) #[tt,tt,tt,tt,tt,tt,tt,tt,tt,tt,tt,tt,tt,tt,tt,tt,tt,tt,tt,tt,ff,ff,ff,ff,ff,ff,ff,ff,ff,ff,ff,ff,ff,ff,ff,ff,ff,ff,ff,ff] rfl rfl (any_of HT_.out (by kernel_rfl)) (fun _ _ _ h => h) (Or.inr ⟨by rfl,rfl⟩) ?_ ?_
       rotate_left
       ·simp only [Act.put,sA,sZ,sS,i64_w,i32_w]
        rfl
       refine pure_ (i:=20) (N:=some 37) (v:=undef) (a':=?_) #[tt,tt,tt,tt,tt,tt,tt,tt,tt,tt,tt,tt,tt,tt,tt,tt,tt,tt,tt,tt,tt,ff,ff,ff,ff,ff,ff,ff,ff,ff,ff,ff,ff,ff,ff,ff,ff,ff,ff,ff] rfl rfl (any_of HT_.out (by kernel_rfl)) (fun _ _ _ h => h) (Or.inr ⟨by rfl,rfl⟩) ?_ ?_
       rotate_left
       ·simp only [Act.put,sA,sZ,sS,i64_w,i32_w]
        rfl
       refine pure_ (i:=21) (N:=some 38) (v:=undef) (a':=?_) #[tt,tt,tt,tt,tt,tt,tt,tt,tt,tt,tt,tt,tt,tt,tt,tt,tt,tt,tt,tt,tt,tt,ff,ff,ff,ff,ff,ff,ff,ff,ff,ff,ff,ff,ff,ff,ff,ff,ff,ff] rfl rfl (any_of HT_.out (by kernel_rfl)) (fun _ _ _ h => h) (Or.inr ⟨by rfl,rfl⟩) ?_ ?_
       rotate_left
       ·simp only [Act.put,sA,sZ,sS,i64_w,i32_w]
        rfl
       refine pure_ (i:=22) (N:=some 39) (v:=undef) (a':=?_) #[tt,tt,tt,tt,tt,tt,tt,tt,tt,tt,tt,tt,tt,tt,tt,tt,tt,tt,tt,tt,tt,tt,tt,ff,ff,ff,ff,ff,ff,ff,ff,ff,ff,ff,ff,ff,ff,ff,ff,ff] rfl rfl (any_of HT_.out (by kernel_rfl)) (fun _ _ _ h => h) (Or.inr ⟨by rfl,rfl⟩) ?_ ?_
       rotate_left
       ·simp only [Act.put,sA,sZ,sS,i64_w,i32_w]
        rfl
       refine pure_ (i:=23) (N:=some 40) (v:=undef) (a':=?_) #[tt,tt,tt,tt,tt,tt,tt,tt,tt,tt,tt,tt,tt,tt,tt,tt,tt,tt,tt,tt,tt,tt,tt,tt,ff,ff,ff,ff,ff,ff,ff,ff,ff,ff,ff,ff,ff,ff,ff,ff] rfl rfl (any_of HT_.out (by kernel_rfl)) (fun _ _ _ h => h) (Or.inr ⟨by rfl,rfl⟩) ?_ ?_
       rotate_left
       ·simp only [Act.put,sA,sZ,sS,i64_w,i32_w]
        rfl
       refine pure_ (i:=24) (N:=some 41) (v:=undef) (a':=?_) #[tt,tt,tt,tt,tt,tt,tt,tt,tt,tt,tt,tt,tt,tt,tt,tt,tt,tt,tt,tt,tt,tt,tt,tt,tt,ff,ff,ff,ff,ff,ff,ff,ff,ff,ff,ff,ff,ff,ff,ff] rfl rfl (any_of HT_.out (by kernel_rfl)) (fun _ _ _ h => h) (Or.inr ⟨by rfl,rfl⟩) ?_ ?_
       rotate_left
       ·simp only [Act.put,sA,sZ,sS,i64_w,i32_w]
        rfl
       refine pure_ (i:=25) (N:=some 42) (v:=undef) (a':=?_) #[tt,tt,tt,tt,tt,tt,tt,tt,tt,tt,tt,tt,tt,tt,tt,tt,tt,tt,tt,tt,tt,tt,tt,tt,tt,tt,ff,ff,ff,ff,ff,ff,ff,ff,ff,ff,ff,ff,ff,ff] rfl rfl (any_of HT_.out (by kernel_rfl)) (fun _ _ _ h => h) (Or.inr ⟨by rfl,rfl⟩) ?_ ?_
       rotate_left
       ·simp only [Act.put,sA,sZ,sS,i64_w,i32_w]
        rfl
       refine pure_ (i:=26) (N:=some 43) (v:=undef) (a':=?_) #[tt,tt,tt,tt,tt,tt,tt,tt,tt,tt,tt,tt,tt,tt,tt,tt,tt,tt,tt,tt,tt,tt,tt,tt,tt,tt,tt,ff,ff,ff,ff,ff,ff,ff,ff,ff,ff,ff,ff,ff] rfl rfl (any_of HT_.out (by kernel_rfl)) (fun _ _ _ h => h) (Or.inr ⟨by rfl,rfl⟩) ?_ ?_
       rotate_left
       ·simp only [Act.put,sA,sZ,sS,i64_w,i32_w]
        rfl
       refine pure_ (i:=27) (N:=some 44) (v:=undef) (a':=?_) #[tt,tt,tt,tt,tt,tt,tt,tt,tt,tt,tt,tt,tt,tt,tt,tt,tt,tt,tt,tt,tt,tt,tt,tt,tt,tt,tt,tt,ff,ff,ff,ff,ff,ff,ff,ff,ff,ff,ff,ff] rfl rfl (any_of HT_.out (by kernel_rfl)) (fun _ _ _ h => h) (Or.inr ⟨by rfl,rfl⟩) ?_ ?_
       rotate_left
       ·simp only [Act.put,sA,sZ,sS,i64_w,i32_w]
        rfl
       refine pure_ (i:=28) (N:=some 45) (v:=undef) (a':=?_) #[tt,tt,tt,tt,tt,tt,tt,tt,tt,tt,tt,tt,tt,tt,tt,tt,tt,tt,tt,tt,tt,tt,tt,tt,tt,tt,tt,tt,tt,ff,ff,ff,ff,ff,ff,ff,ff,ff,ff,ff] rfl rfl (any_of HT_.out (by kernel_rfl)) (fun _ _ _ h => h) (Or.inr ⟨by rfl,rfl⟩) ?_ ?_
       rotate_left
       ·simp only [Act.put,sA,sZ,sS,i64_w,i32_w]
        rfl
       refine pure_ (i:=29) (N:=some 46) (v:=undef) (a':=?_) #[tt,tt,tt,tt,tt,tt,tt,tt,tt,tt,tt,tt,tt,tt,tt,tt,tt,tt,tt,tt,tt,tt,tt,tt,tt,tt,tt,tt,tt,tt,ff,ff,ff,ff,ff,ff,ff,ff,ff,ff] rfl rfl (any_of HT_.out (by kernel_rfl)) (fun _ _ _ h => h) (Or.inr ⟨by rfl,rfl⟩) ?_ ?_
       rotate_left
       ·simp only [Act.put,sA,sZ,sS,i64_w,i32_w]
        rfl
       refine pure_ (i:=30) (N:=some 47) (v:=undef) (a':=?_) #[tt,tt,tt,tt,tt,tt,tt,tt,tt,tt,tt,tt,tt,tt,tt,tt,tt,tt,tt,tt,tt,tt,tt,tt,tt,tt,tt,tt,tt,tt,tt,ff,ff,ff,ff,ff,ff,ff,ff,ff] rfl rfl (any_of HT_.out (by kernel_rfl)) (fun _ _ _ h => h) (Or.inr ⟨by rfl,rfl⟩) ?_ ?_
       rotate_left
       ·simp only [Act.put,sA,sZ,sS,i64_w,i32_w]
        rfl
       refine pure_ (i:=31) (N:=some 48) (v:=undef) (a':=?_) #[tt,tt,tt,tt,tt,tt,tt,tt,tt,tt,tt,tt,tt,tt,tt,tt,tt,tt,tt,tt,tt,tt,tt,tt,tt,tt,tt,tt,tt,tt,tt,tt,ff,ff,ff,ff,ff,ff,ff,ff] rfl rfl (any_of HT_.out (by kernel_rfl)) (fun _ _ _ h => h) (Or.inr ⟨by rfl,rfl⟩) ?_ ?_
       rotate_left
       ·simp only [Act.put,sA,sZ,sS,i64_w,i32_w]
        rfl
       refine pure_ (i:=32) (N:=some 49) (v:=undef) (a':=?_) #[tt,tt,tt,tt,tt,tt,tt,tt,tt,tt,tt,tt,tt,tt,tt,tt,tt,tt,tt,tt,tt,tt,tt,tt,tt,tt,tt,tt,tt,tt,tt,tt,tt,ff,ff,ff,ff,ff,ff,ff] rfl rfl (any_of HT_.out (by kernel_rfl)) (fun _ _ _ h => h) (Or.inr ⟨by rfl,rfl⟩) ?_ ?_
       rotate_left
       ·simp only [Act.put,sA,sZ,sS,i64_w,i32_w]
        rfl
       refine pure_ (i:=33) (N:=some 50) (v:=undef) (a':=?_) #[tt,tt,tt,tt,tt,tt,tt,tt,tt,tt,tt,tt,tt,tt,tt,tt,tt,tt,tt,tt,tt,tt,tt,tt,tt,tt,tt,tt,tt,tt,tt,tt,tt,tt,ff,ff,ff,ff,ff,ff] rfl rfl (any_of HT_.out (by kernel_rfl)) (fun _ _ _ h => h) (Or.inr ⟨by rfl,rfl⟩) ?_ ?_
       rotate_left
       ·simp only [Act.put,sA,sZ,sS,i64_w,i32_w]
        rfl
       refine pure_ (i:=34) (N:=some 51) (v:=undef) (a':=?_) #[tt,tt,tt,tt,tt,tt,tt,tt,tt,tt,tt,tt,tt,tt,tt,tt,tt,tt,tt,tt,tt,tt,tt,tt,tt,tt,tt,tt,tt,tt,tt,tt,tt,tt,tt,ff,ff,ff,ff,ff] rfl rfl (any_of HT_.out (by kernel_rfl)) (fun _ _ _ h => h) (Or.inr ⟨by rfl,rfl⟩) ?_ ?_
       rotate_left
       ·simp only [Act.put,sA,sZ,sS,i64_w,i32_w]
        rfl
       refine pure_ (i:=35) (N:=some 52) (v:=undef) (a':=?_) #[tt,tt,tt,tt,tt,tt,tt,tt,tt,tt,tt,tt,tt,tt,tt,tt,tt,tt,tt,tt,tt,tt,tt,tt,tt,tt,tt,tt,tt,tt,tt,tt,tt,tt,tt,tt,ff,ff,ff,ff] rfl rfl (any_of HT_.out (by kernel_rfl)) (fun _ _ _ h => h) (Or.inr ⟨by rfl,rfl⟩) ?_ ?_
       rotate_left
       ·simp only [Act.put,sA,sZ,sS,i64_w,i32_w]
        rfl
       refine pure_ (i:=36) (N:=some 53) (v:=undef) (a':=?_) #[tt,tt,tt,tt,tt,tt,tt,tt,tt,tt,tt,tt,tt,tt,tt,tt,tt,tt,tt,tt,tt,tt,tt,tt,tt,tt,tt,tt,tt,tt,tt,tt,tt,tt,tt,tt,tt,ff,ff,ff] rfl rfl (any_of HT_.out (by kernel_rfl)) (fun _ _ _ h => h) (Or.inr ⟨by rfl,rfl⟩) ?_ ?_
       rotate_left
       ·simp only [Act.put,sA,sZ,sS,i64_w,i32_w]
        rfl
       refine pure_ (i:=37) (N:=some 54) (v:=undef) (a':=?_) #[tt,tt,tt,tt,tt,tt,tt,tt,tt,tt,tt,tt,tt,tt,tt,tt,tt,tt,tt,tt,tt,tt,tt,tt,tt,tt,tt,tt,tt,tt,tt,tt,tt,tt,tt,tt,tt,tt,ff,ff] rfl rfl (any_of HT_.out (by kernel_rfl)) (fun _ _ _ h => h) (Or.inr ⟨by rfl,rfl⟩) ?_ ?_
       rotate_left
       ·simp only [Act.put,sA,sZ,sS,i64_w,i32_w]
        rfl
       refine pure_ (i:=38) (N:=some 55) (v:=undef) (a':=?_) #[tt,tt,tt,tt,tt,tt,tt,tt,tt,tt,tt,tt,tt,tt,tt,tt,tt,tt,tt,tt,tt,tt,tt,tt,tt,tt,tt,tt,tt,tt,tt,tt,tt,tt,tt,tt,tt,tt,tt,ff] rfl rfl (any_of HT_.out (by kernel_rfl)) (fun _ _ _ h => h) (Or.inr ⟨by rfl,rfl⟩) ?_ ?_
       rotate_left
       ·simp only [Act.put,sA,sZ,sS,i64_w,i32_w]
        rfl
       refine pure_ (i:=39) (N:=some 56) (v:=?_) (a':=?_) #[tt,tt,tt,tt,tt,tt,tt,tt,tt,tt,tt,tt,tt,tt,tt,tt,tt,tt,tt,tt,tt,tt,tt,tt,tt,tt,tt,tt,tt,tt,tt,tt,tt,tt,tt,tt,tt,tt,tt,tt] rfl rfl (any_of HT_.out (by kernel_rfl)) (fun _ _ _ h => h) (Or.inl ⟨by rfl,?_⟩) ?_ ?_
       rotate_left
       ·intro w'
        go_simp
        with_reducible rfl
       rotate_left
       ·simp only [Act.put,sA,sZ,sS,i64_w,i32_w]
        rfl
       refine done_ (done_of HT_.out (by kernel_rfl)) ?_
       try go_wp2
       go_roundg k2
       case measure => have:=HK1.out;have:=HK2.out;omega
       case rel => exact ⟨(x5_2),(wrap64 (x6_2 + 1)),(by first|rfl|(simp;done)|(simp [*];done)),(by first|rfl|(simp;done)|(simp [*];done)),H',⟨by have:=HK1.out;have:=HK2.out;omega⟩,⟨by (with_reducible repeat (first|apply zA|apply zN|apply zD));exact HO_3.out⟩,⟨by (with_reducible repeat (first|apply zA|apply zN|apply zD));exact HO_4.out⟩,⟨by repeat (first|(with_reducible first|exact HB.out|apply below_alloc|apply pw_below_drewN|apply below_drew1)|exact HB.out)⟩⟩
     ·rw [if_neg c6] at H
      have c6b0 : decide (x6_2 < (l0.length : Int)) = false:=decide_eq_false c6
      clear c6
      by_cases c29 : x5_2 < 0
      ·rw [if_pos c29] at H
       have c29b0 : decide (x5_2 < 0) = true:=decide_eq_true c29
       clear c29
       obtain rfl:=Option.some.inj H
       go_wp2
       go_ret
       exact ⟨_,by first|rfl|(simp [errW_none,errW_some] <;> rfl)|(simp [*,errW_none,errW_some] <;> rfl),by (with_reducible repeat (first|apply zA|apply zN|apply zD));exact HO_3.out,by repeat (first|(with_reducible first|exact HB.out|apply below_alloc|apply pw_below_drewN|apply below_drew1)|exact HB.out)⟩
      ·rw [if_neg c29] at H
       have c29b0 : decide (x5_2 < 0) = false:=decide_eq_false c29
       clear c29
       by_cases c30 : 0 ≤ x5_2
       rotate_left
       ·rw [if_neg c30] at H
        exact absurd H (by simp)
       rw [if_pos c30] at H
       have c30b0 : decide (0 ≤ x5_2) = true:=decide_eq_true c30
       clear c30
       by_cases c31 : x5_2 < (l0.length : Int)
       rotate_left
       ·rw [if_neg c31] at H
        exact absurd H (by simp)
       rw [if_pos c31] at H
       have c31b0 : decide (x5_2 < (l0.length : Int)) = true:=decide_eq_true c31
       clear c31
       by_cases c32 : x5_2 < (x4_1.length : Int)
       rotate_left
       ·rw [if_neg c32] at H
        exact absurd H (by simp)
       rw [if_pos c32] at H
       have c32b0 : decide (x5_2 < (x4_1.length : Int)) = true:=decide_eq_true c32
       clear c32
       by_cases c33 : 0 ≤ (rd x4_1 x5_2)
       rotate_left
       ·rw [if_neg c33] at H
        exact absurd H (by simp)
       rw [if_pos c33] at H
       have c33b0 : decide (0 ≤ (rd x4_1 x5_2)) = true:=decide_eq_true c33
       clear c33
       by_cases c34 : (rd x4_1 x5_2) < ((rd_L5 l0 x5_2).length : Int)
       rotate_left
       ·rw [if_neg c34] at H
        exact absurd H (by simp)
       rw [if_pos c34] at H
       have c34b0 : decide ((rd x4_1 x5_2) < ((rd_L5 l0 x5_2).length : Int)) = true:=decide_eq_true c34
       clear c34
       obtain ⟨y227,hy227⟩ : ∃ y_ : List Int,y_ = (x4_1.set (x5_2 : Int).toNat (wrap64 ((rd x4_1 x5_2) + 1))):=⟨_,rfl⟩
       replace H : (if (x3_1.length : Int) = 0 then (if x3_1.length < 2932031007402 then (ratlineref11_All.l0 k2 l0 (x3_1 ++ [(⟨(⟨(rd_T41 (rd_L5 l0 x5_2) (rd x4_1 x5_2)).f0.f0,(rd_T41 (rd_L5 l0 x5_2) (rd x4_1 x5_2)).f0.f1,(rd_T41 (rd_L5 l0 x5_2) (rd x4_1 x5_2)).f0.f2⟩ : S39),(rd_T41 (rd_L5 l0 x5_2) (rd x4_1 x5_2)).f1⟩ : S41)]) y227) else (none)) else (if 0 ≤ (wrap64 ((x3_1.length : Int) - 1)) then (if (wrap64 ((x3_1.length : Int) - 1)) < (x3_1.length : Int) then (if (!((((rd_T41 x3_1 (wrap64 ((x3_1.length : Int) - 1))).f0.f0).toList) == (((rd_T41 (rd_L5 l0 x5_2) (rd x4_1 x5_2)).f0.f0).toList)) || (!(((rd_T41 x3_1 (wrap64 ((x3_1.length : Int) - 1))).f0.f1) == ((rd_T41 (rd_L5 l0 x5_2) (rd x4_1 x5_2)).f0.f1)) || (!(((rd_T41 x3_1 (wrap64 ((x3_1.length : Int) - 1))).f0.f2) == ((rd_T41 (rd_L5 l0 x5_2) (rd x4_1 x5_2)).f0.f2))))) = true then (if x3_1.length < 2932031007402 then (ratlineref11_All.l0 k2 l0 (x3_1 ++ [(⟨(⟨(rd_T41 (rd_L5 l0 x5_2) (rd x4_1 x5_2)).f0.f0,(rd_T41 (rd_L5 l0 x5_2) (rd x4_1 x5_2)).f0.f1,(rd_T41 (rd_L5 l0 x5_2) (rd x4_1 x5_2)).f0.f2⟩ : S39),(rd_T41 (rd_L5 l0 x5_2) (rd x4_1 x5_2)).f1⟩ : S41)]) y227) else (none)) else (ratlineref11_All.l0 k2 l0 x3_1 y227)) else (none)) else (none))) = some r:=by first|(rw [hy227];with_reducible exact H)|(have H2_:=(Option.bind_some _ _).symm.trans H;rw [hy227];with_reducible exact H2_)|(have H2_:=(Option.bind_some _ _).symm.trans H;with_reducible exact H2_)|with_reducible exact H|(rw [hy227];exact H)|exact H
       have Ny227:=Aside0.mk hy227
       clear hy227
       by_cases c36 : (x3_1.length : Int) = 0
       ·rw [if_pos c36] at H
        have c36b0 : ((x3_1.length : Int) == 0) = true:=beq_iff_eq.mpr c36
        have c36b1 : ((x3_1.length : Int) != 0) = false:=bne_eq_false_iff_eq.mpr c36
        clear c36
        by_cases c37 : x3_1.length < 2932031007402
        rotate_left
        ·rw [if_neg c37] at H
         exact absurd H (by simp)
        rw [if_pos c37] at H
        have LMc37:=Aside0.mk c37
        clear c37
        obtain ⟨y228,hy228⟩ : ∃ y_ : List (S41),y_ = (x3_1 ++ [(⟨(⟨(rd_T41 (rd_L5 l0 x5_2) (rd x4_1 x5_2)).f0.f0,(rd_T41 (rd_L5 l0 x5_2) (rd x4_1 x5_2)).f0.f1,(rd_T41 (rd_L5 l0 x5_2) (rd x4_1 x5_2)).f0.f2⟩ : S39),(rd_T41 (rd_L5 l0 x5_2) (rd x4_1 x5_2)).f1⟩ : S41)]):=⟨_,rfl⟩
        replace H : (ratlineref11_All.l0 k2 l0 y228 y227) = some r:=by first|(rw [hy228];with_reducible exact H)|(have H2_:=(Option.bind_some _ _).symm.trans H;rw [hy228];with_reducible exact H2_)|(have H2_:=(Option.bind_some _ _).symm.trans H;with_reducible exact H2_)|with_reducible exact H|(rw [hy228];exact H)|exact H
        have Ny228:=Aside0.mk hy228
        clear hy228
        have H':=Aside0.mk H
        clear H
        try go_wp2
        have n0_:=Aside0.mk (Kd.R_drew HO_3.out)
        have n1_:=Aside0.mk (Kd.R_drew HO_4.out)
        have n2_:=Aside0.mk (below_drew1 HB.out)
        clear HO_3
        clear HO_4
        clear HB
        have HO_3:=n0_
        have HO_4:=n1_
        have HB:=n2_
        clear n0_ n1_ n2_
        have p222 : 0 ≤ (x5_2 : Int):=of_decide_eq_true (by first|(with_reducible assumption)|assumption)
        have q222 : x5_2 < (l0.length : Int):=of_decide_eq_true (by first|(with_reducible assumption)|assumption)
        obtain ⟨ad222,A222_0,c222_0,e222,hx222_0,hl222_0,hi222_0⟩:=at_L5 HR0.out x5_2 p222 q222
        have hw222_0:=hx222_0
        cases e222
        replace hx222_0:=(HB.out.cell (World.block_lt_of_cell? w _ hx222_0)).trans hx222_0
        have HR222_0:=Aside0.mk hi222_0
        have HC222_0:=Aside0.mk hl222_0
        clear hi222_0 hl222_0
        replace p222:=eq_true p222
        replace q222:=eq_true q222
        obtain ⟨Ao39,co39,eo39⟩:=Kd.R_slice HO_4.out
        (first|subst eo39|(injection eo39 with f1_ f2_ f3_;have f4_:=f1_.symm;have f5_:=f3_.symm;clear f1_ f2_ f3_;subst f4_;subst f5_))
        have p223 : 0 ≤ (x5_2 : Int):=of_decide_eq_true (by first|(with_reducible assumption)|assumption)
        have q223 : x5_2 < (x4_1.length : Int):=of_decide_eq_true (by first|(with_reducible assumption)|assumption)
        obtain ⟨ad223,e223,hx223_0⟩:=Kd.at_int (Kd.R_reads' HO_4.out).2.2 x5_2 p223 q223
        cases e223
        replace p223:=eq_true p223
        replace q223:=eq_true q223
        have p224 : 0 ≤ ((rd x4_1 x5_2) : Int):=of_decide_eq_true (by first|(with_reducible assumption)|assumption)
        have q224 : (rd x4_1 x5_2) < ((rd_L5 l0 x5_2).length : Int):=of_decide_eq_true (by first|(with_reducible assumption)|assumption)
        obtain ⟨ad224,e224,hx224_0,hx224_1,hx224_2,hx224_3⟩:=at_T41 HR222_0.out (rd x4_1 x5_2) p224 q224
        have hw224_3:=hx224_3
        have hw224_2:=hx224_2
        have hw224_1:=hx224_1
        have hw224_0:=hx224_0
        cases e224
        replace hx224_0:=(HB.out.cell (World.block_lt_of_cell? w _ hx224_0)).trans hx224_0
        replace hx224_1:=(HB.out.cell (World.block_lt_of_cell? w _ hx224_1)).trans hx224_1
        replace hx224_2:=(HB.out.cell (World.block_lt_of_cell? w _ hx224_2)).trans hx224_2
        replace hx224_3:=(HB.out.cell (World.block_lt_of_cell? w _ hx224_3)).trans hx224_3
        replace p224:=eq_true p224
        replace q224:=eq_true q224
        refine start_ (n:=12) (S:=fun w' => w'.cell? (ad222.add (x5_2).toNat) = some (.slice (some ad224) (rd_L5 l0 x5_2).length c222_0) ∧ w'.cell? (ad223.add (x5_2).toNat) = some (.int .i64 (rd x4_1 x5_2)) ∧ w'.cell? (ad224.add (((rd x4_1 x5_2)).toNat * 4)) = some (.string ((rd_T41 (rd_L5 l0 x5_2) (rd x4_1 x5_2)).f0.f0)) ∧ w'.cell? ⟨(ad224.add (((rd x4_1 x5_2)).toNat * 4)).block,(ad224.add (((rd x4_1 x5_2)).toNat * 4)).off + 1,none⟩ = some (.int .u64 ((rd_T41 (rd_L5 l0 x5_2) (rd x4_1 x5_2)).f0.f1)) ∧ w'.cell? ⟨(ad224.add (((rd x4_1 x5_2)).toNat * 4)).block,(ad224.add (((rd x4_1 x5_2)).toNat * 4)).off + 2,none⟩ = some (.int .u8 ((rd_T41 (rd_L5 l0 x5_2) (rd x4_1 x5_2)).f0.f2)) ∧ w'.cell? ⟨(ad224.add (((rd x4_1 x5_2)).toNat * 4)).block,(ad224.add (((rd x4_1 x5_2)).toNat * 4)).off + 3,none⟩ = some (.string ((rd_T41 (rd_L5 l0 x5_2) (rd x4_1 x5_2)).f1))) (ds:=[]) #[ff,ff,ff,ff,ff,ff,ff,ff,ff,ff,ff,ff] (by kernel_rfl) rfl rfl ⟨((HB.out.cell (World.block_lt_of_cell? w _ hw222_0)).trans hw222_0),hx223_0,((HB.out.cell (World.block_lt_of_cell? w _ hw224_0)).trans hw224_0),((HB.out.cell (World.block_lt_of_cell? w _ hw224_1)).trans hw224_1),((HB.out.cell (World.block_lt_of_cell? w _ hw224_2)).trans hw224_2),((HB.out.cell (World.block_lt_of_cell? w _ hw224_3)).trans hw224_3)⟩ (fun hHeld => ?_);refine with_tabW ratlineref11_All.tab11 ratlineref11_All.bits11 (fun HT_ HW_ => ?_)
        generalize wr.drew = w38 at HO_3 HO_4 HB HR222_0 hx222_0 hx223_0 hx224_0 hx224_1 hx224_2 hx224_3 hHeld ⊢
        refine pure_ (i:=0) (N:=some 61) (v:=?_) (a':=?_) #[tt,ff,ff,ff,ff,ff,ff,ff,ff,ff,ff,ff] rfl rfl (any_of HT_.out (by kernel_rfl)) (fun _ _ _ h => h) (Or.inl ⟨by rfl,?_⟩) ?_ ?_
        rotate_left
        ·intro w'
         go_simp
         with_reducible rfl
        rotate_left
        ·simp only [Act.put,sA,sZ,sS,i64_w,i32_w]
         rfl
        refine pure_ (i:=1) (N:=some 62) (v:=?_) (a':=?_) #[tt,tt,ff,ff,ff,ff,ff,ff,ff,ff,ff,ff] rfl rfl (any_of HT_.out (by kernel_rfl)) (fun _ _ _ h => h) (Or.inl ⟨by rfl,?_⟩) ?_ ?_
        rotate_left
        ·intro w'
         go_simp
         with_reducible rfl
        rotate_left
        ·simp only [Act.put,sA,sZ,sS,i64_w,i32_w]
         rfl
        refine pure_ (i:=2) (N:=some 63) (v:=?_) (a':=?_) #[tt,tt,tt,ff,ff,ff,ff,ff,ff,ff,ff,ff] rfl rfl (any_of HT_.out (by kernel_rfl)) (fun _ _ _ h => h) (Or.inl ⟨by rfl,?_⟩) ?_ ?_
        rotate_left
        ·intro w'
         go_simp
         with_reducible rfl
        rotate_left
        ·simp only [Act.put,sA,sZ,sS,i64_w,i32_w]
         rfl
        refine pure_ (i:=4) (N:=some 65) (v:=?_) (a':=?_) #[tt,tt,tt,ff,tt,ff,ff,ff,ff,ff,ff,ff] rfl rfl (any_of HT_.out (by kernel_rfl)) (fun _ _ _ h => h) (Or.inl ⟨by rfl,?_⟩) ?_ ?_
        rotate_left
        ·intro w'
         go_simp
         with_reducible rfl
        rotate_left
        ·simp only [Act.put,sA,sZ,sS,i64_w,i32_w]
         rfl
        refine pure_ (i:=5) (N:=some 66) (v:=?_) (a':=?_) #[tt,tt,tt,ff,tt,tt,ff,ff,ff,ff,ff,ff] rfl rfl (any_of HT_.out (by kernel_rfl)) (fun _ _ _ h => h) (Or.inl ⟨by rfl,?_⟩) ?_ ?_
        rotate_left
        ·intro w'
         go_simp
         with_reducible rfl
        rotate_left
        ·simp only [Act.put,sA,sZ,sS,i64_w,i32_w]
         rfl
        refine pure_ (i:=6) (N:=some 67) (v:=?_) (a':=?_) #[tt,tt,tt,ff,tt,tt,tt,ff,ff,ff,ff,ff] rfl rfl (any_of HT_.out (by kernel_rfl)) (fun _ _ _ h => h) (Or.inl ⟨by rfl,?_⟩) ?_ ?_
        rotate_left
        ·intro w'
         go_simp
         with_reducible rfl
        rotate_left
        ·simp only [Act.put,sA,sZ,sS,i64_w,i32_w]
         rfl
        refine take_ (i:=3) (N:=some 64) (v:=?_) (a':=?_) #[tt,tt,tt,tt,tt,tt,tt,ff,ff,ff,ff,ff] rfl rfl (take_ofW HT_.out HW_.out (by kernel_rfl)) (fun _ _ _ h => h) (Or.inl ⟨by rfl,?_⟩) hHeld ?_ ?_
        rotate_left
        ·rintro w' ⟨s0,s1,s2,s3,s4,s5⟩
         go_simp
         with_reducible rfl
        rotate_left
        ·simp only [Act.put,sA,sZ,sS,i64_w,i32_w]
         rfl
        refine take_ (i:=7) (N:=some 68) (v:=?_) (a':=?_) #[tt,tt,tt,tt,tt,tt,tt,tt,ff,ff,ff,ff] rfl rfl (take_ofW HT_.out HW_.out (by kernel_rfl)) (fun _ _ _ h => h) (Or.inl ⟨by rfl,?_⟩) hHeld ?_ ?_
        rotate_left
        ·rintro w' ⟨s0,s1,s2,s3,s4,s5⟩
         go_simp
         with_reducible rfl
        rotate_left
        ·simp only [Act.put,sA,sZ,sS,i64_w,i32_w]
         rfl
        refine pure_ (i:=8) (N:=some 69) (v:=?_) (a':=?_) #[tt,tt,tt,tt,tt,tt,tt,tt,tt,ff,ff,ff] rfl rfl (any_of HT_.out (by kernel_rfl)) (fun _ _ _ h => h) (Or.inl ⟨by rfl,?_⟩) ?_ ?_
        rotate_left
        ·intro w'
         go_simp
         with_reducible rfl
        rotate_left
        ·simp only [Act.put,sA,sZ,sS,i64_w,i32_w]
         rfl
        refine take_ (i:=9) (N:=some 70) (v:=?_) (a':=?_) #[tt,tt,tt,tt,tt,tt,tt,tt,tt,tt,ff,ff] rfl rfl (take_ofW HT_.out HW_.out (by kernel_rfl)) (fun _ _ _ h => h) (Or.inl ⟨by rfl,?_⟩) hHeld ?_ ?_
        rotate_left
        ·rintro w' ⟨s0,s1,s2,s3,s4,s5⟩
         go_simp
         with_reducible rfl
        rotate_left
        ·simp only [Act.put,sA,sZ,sS,i64_w,i32_w]
         rfl
        refine one_ (i:=10) (N:=some 7) #[tt,tt,tt,tt,tt,tt,tt,tt,tt,tt,tt,ff] rfl rfl (one_of HT_.out (by kernel_rfl)) (by decide) (fun K hK => ?_)
        refine box_step ?hg (N:=7) ?hd (cs:=#[.string (⟨#[]⟩ : BA),.int .u64 0,.int .u8 0,.string (⟨#[]⟩ : BA)]) (t:=41) ?hr ?_;(case hd => rfl);(case hg => rfl);(case hr => first|(go_simp;done)|(go_simp;rfl))
        intro gb225 hg w40 hbox hb
        have HS1_:=bC hb hHeld.2.1
        have n0_:=Aside0.mk (Kd.R_below (Kd.R_elderB (by (with_reducible repeat (first|apply zA|apply zN|apply zD));exact HO_3.out) gb225 (Nat.le_of_eq hg.symm)) hb)
        have n1_:=Aside0.mk (Kd.R_below (by (with_reducible repeat (first|apply zA|apply zN|apply zD));exact HO_4.out) hb)
        have n2_:=Aside0.mk (below_step (by repeat (first|(with_reducible first|exact HB.out|apply below_alloc|apply pw_below_drewN|apply below_drew1)|exact HB.out)) hb)
        have n3_:=Aside0.mk (hbox)
        have n4_:=Aside0.mk ((by rw [hg];exact (below_size (by repeat (first|(with_reducible first|exact HB.out|apply below_alloc|apply pw_below_drewN|apply below_drew1)|exact HB.out))) : w.heap.size ≤ gb225))
        have n5_:=Aside0.mk ((by rw [hg];exact (below_size (by repeat (first|(with_reducible first|exact HB.out|apply below_alloc|apply pw_below_drewN|apply below_drew1)|exact HB.out))) : w.heap.size ≤ gb225))
        clear HO_3
        clear HO_4
        clear HB
        have HO_3:=n0_
        have HO_4:=n1_
        have HB:=n2_
        have BK225:=n3_
        have GW225:=n4_
        have GE225:=n5_
        clear n0_ n1_ n2_ n3_ n4_ n5_
        clear hb hbox hg
        refine hK.out _ _ ⟨((HB.out.cell (World.block_lt_of_cell? w _ hw222_0)).trans hw222_0),HS1_,((HB.out.cell (World.block_lt_of_cell? w _ hw224_0)).trans hw224_0),((HB.out.cell (World.block_lt_of_cell? w _ hw224_1)).trans hw224_1),((HB.out.cell (World.block_lt_of_cell? w _ hw224_2)).trans hw224_2),((HB.out.cell (World.block_lt_of_cell? w _ hw224_3)).trans hw224_3)⟩ (fun hHeld => ?_)
        clear hK K
        refine norm_ (a':=?_) ?_ ?_
        rotate_left
        ·show Act.put _ (some 7) _ = _
         simp only [Act.put,sA,sZ,sS,i64_w,i32_w]
         rfl
        refine one_ (i:=11) (N:=none) #[tt,tt,tt,tt,tt,tt,tt,tt,tt,tt,tt,tt] rfl rfl (one_of HT_.out (by kernel_rfl)) (by decide) (fun K hK => ?_)
        have hs41 : w40.cell? ⟨gb225,0,none⟩ = some (.string (⟨#[]⟩ : BA)):=(blk_cell BK225.out 0).trans rfl
        have hfs41:=blk_frozen BK225.out 0
        have hs42 : w40.cell? ⟨gb225,1,none⟩ = some (.int .u64 0):=(blk_cell BK225.out 1).trans rfl
        have hfs42:=blk_frozen BK225.out 1
        have hs43 : w40.cell? ⟨gb225,2,none⟩ = some (.int .u8 0):=(blk_cell BK225.out 2).trans rfl
        have hfs43:=blk_frozen BK225.out 2
        have hs44 : w40.cell? ⟨gb225,3,none⟩ = some (.string (⟨#[]⟩ : BA)):=(blk_cell BK225.out 3).trans rfl
        have hfs44:=blk_frozen BK225.out 3
        refine skip_ (w1:=?_) (by rfl) rfl ?_ ?_
        rotate_left
        ·go_simp
         rfl
        refine hK.out _ _ ⟨((cell_far (p:=⟨gb225,_,none⟩) (by first|exact Nat.ne_of_lt (Nat.lt_of_lt_of_le (by have:=World.block_lt_of_cell? _ _ hw222_0;first|rwa [add_block] at this|exact this) GW225.out)|(rw [add_block];exact Nat.ne_of_lt (Nat.lt_of_lt_of_le (by have:=World.block_lt_of_cell? _ _ hw222_0;first|rwa [add_block] at this|exact this) GW225.out))|(show (Addr.add _ _).block ≠ _;rw [add_block];exact Nat.ne_of_lt (Nat.lt_of_lt_of_le (by have:=World.block_lt_of_cell? _ _ hw222_0;first|rwa [add_block] at this|exact this) GW225.out))|(dsimp only;exact Nat.ne_of_lt (Nat.lt_of_lt_of_le (by have:=World.block_lt_of_cell? _ _ hw222_0;first|rwa [add_block] at this|exact this) GW225.out))) _).trans (((cell_far (p:=⟨gb225,_,none⟩) (by first|exact Nat.ne_of_lt (Nat.lt_of_lt_of_le (by have:=World.block_lt_of_cell? _ _ hw222_0;first|rwa [add_block] at this|exact this) GW225.out)|(rw [add_block];exact Nat.ne_of_lt (Nat.lt_of_lt_of_le (by have:=World.block_lt_of_cell? _ _ hw222_0;first|rwa [add_block] at this|exact this) GW225.out))|(show (Addr.add _ _).block ≠ _;rw [add_block];exact Nat.ne_of_lt (Nat.lt_of_lt_of_le (by have:=World.block_lt_of_cell? _ _ hw222_0;first|rwa [add_block] at this|exact this) GW225.out))|(dsimp only;exact Nat.ne_of_lt (Nat.lt_of_lt_of_le (by have:=World.block_lt_of_cell? _ _ hw222_0;first|rwa [add_block] at this|exact this) GW225.out))) _).trans (((cell_far (p:=⟨gb225,_,none⟩) (by first|exact Nat.ne_of_lt (Nat.lt_of_lt_of_le (by have:=World.block_lt_of_cell? _ _ hw222_0;first|rwa [add_block] at this|exact this) GW225.out)|(rw [add_block];exact Nat.ne_of_lt (Nat.lt_of_lt_of_le (by have:=World.block_lt_of_cell? _ _ hw222_0;first|rwa [add_block] at this|exact this) GW225.out))|(show (Addr.add _ _).block ≠ _;rw [add_block];exact Nat.ne_of_lt (Nat.lt_of_lt_of_le (by have:=World.block_lt_of_cell? _ _ hw222_0;first|rwa [add_block] at this|exact this) GW225.out))|(dsimp only;exact Nat.ne_of_lt (Nat.lt_of_lt_of_le (by have:=World.block_lt_of_cell? _ _ hw222_0;first|rwa [add_block] at this|exact this) GW225.out))) _).trans (((cell_far (p:=⟨gb225,_,none⟩) (by first|exact Nat.ne_of_lt (Nat.lt_of_lt_of_le (by have:=World.block_lt_of_cell? _ _ hw222_0;first|rwa [add_block] at this|exact this) GW225.out)|(rw [add_block];exact Nat.ne_of_lt (Nat.lt_of_lt_of_le (by have:=World.block_lt_of_cell? _ _ hw222_0;first|rwa [add_block] at this|exact this) GW225.out))|(show (Addr.add _ _).block ≠ _;rw [add_block];exact Nat.ne_of_lt (Nat.lt_of_lt_of_le (by have:=World.block_lt_of_cell? _ _ hw222_0;first|rwa [add_block] at this|exact this) GW225.out))|(dsimp only;exact Nat.ne_of_lt (Nat.lt_of_lt_of_le (by have:=World.block_lt_of_cell? _ _ hw222_0;first|rwa [add_block] at this|exact this) GW225.out))) _).trans (hHeld.1)))))))),((cell_far (p:=⟨gb225,_,none⟩) (by first|exact Kd.own_blk (Kd.R_ne HO_4.out BK225.out (by decide))|(rw [add_block];exact Kd.own_blk (Kd.R_ne HO_4.out BK225.out (by decide)))|(show (Addr.add _ _).block ≠ _;rw [add_block];exact Kd.own_blk (Kd.R_ne HO_4.out BK225.out (by decide)))|(dsimp only;exact Kd.own_blk (Kd.R_ne HO_4.out BK225.out (by decide)))) _).trans (((cell_far (p:=⟨gb225,_,none⟩) (by first|exact Kd.own_blk (Kd.R_ne HO_4.out BK225.out (by decide))|(rw [add_block];exact Kd.own_blk (Kd.R_ne HO_4.out BK225.out (by decide)))|(show (Addr.add _ _).block ≠ _;rw [add_block];exact Kd.own_blk (Kd.R_ne HO_4.out BK225.out (by decide)))|(dsimp only;exact Kd.own_blk (Kd.R_ne HO_4.out BK225.out (by decide)))) _).trans (((cell_far (p:=⟨gb225,_,none⟩) (by first|exact Kd.own_blk (Kd.R_ne HO_4.out BK225.out (by decide))|(rw [add_block];exact Kd.own_blk (Kd.R_ne HO_4.out BK225.out (by decide)))|(show (Addr.add _ _).block ≠ _;rw [add_block];exact Kd.own_blk (Kd.R_ne HO_4.out BK225.out (by decide)))|(dsimp only;exact Kd.own_blk (Kd.R_ne HO_4.out BK225.out (by decide)))) _).trans (((cell_far (p:=⟨gb225,_,none⟩) (by first|exact Kd.own_blk (Kd.R_ne HO_4.out BK225.out (by decide))|(rw [add_block];exact Kd.own_blk (Kd.R_ne HO_4.out BK225.out (by decide)))|(show (Addr.add _ _).block ≠ _;rw [add_block];exact Kd.own_blk (Kd.R_ne HO_4.out BK225.out (by decide)))|(dsimp only;exact Kd.own_blk (Kd.R_ne HO_4.out BK225.out (by decide)))) _).trans (hHeld.2.1)))))))),((cell_far (p:=⟨gb225,_,none⟩) (by first|exact Nat.ne_of_lt (Nat.lt_of_lt_of_le (by have:=World.block_lt_of_cell? _ _ hw224_0;first|rwa [add_block] at this|exact this) GW225.out)|(rw [add_block];exact Nat.ne_of_lt (Nat.lt_of_lt_of_le (by have:=World.block_lt_of_cell? _ _ hw224_0;first|rwa [add_block] at this|exact this) GW225.out))|(show (Addr.add _ _).block ≠ _;rw [add_block];exact Nat.ne_of_lt (Nat.lt_of_lt_of_le (by have:=World.block_lt_of_cell? _ _ hw224_0;first|rwa [add_block] at this|exact this) GW225.out))|(dsimp only;exact Nat.ne_of_lt (Nat.lt_of_lt_of_le (by have:=World.block_lt_of_cell? _ _ hw224_0;first|rwa [add_block] at this|exact this) GW225.out))) _).trans (((cell_far (p:=⟨gb225,_,none⟩) (by first|exact Nat.ne_of_lt (Nat.lt_of_lt_of_le (by have:=World.block_lt_of_cell? _ _ hw224_0;first|rwa [add_block] at this|exact this) GW225.out)|(rw [add_block];exact Nat.ne_of_lt (Nat.lt_of_lt_of_le (by have:=World.block_lt_of_cell? _ _ hw224_0;first|rwa [add_block] at this|exact this) GW225.out))|(show (Addr.add _ _).block ≠ _;rw [add_block];exact Nat.ne_of_lt (Nat.lt_of_lt_of_le (by have:=World.block_lt_of_cell? _ _ hw224_0;first|rwa [add_block] at this|exact this) GW225.out))|(dsimp only;exact Nat.ne_of_lt (Nat.lt_of_lt_of_le (by have:=World.block_lt_of_cell? _ _ hw224_0;first|rwa [add_block] at this|exact this) GW225.out))) _).trans (((cell_far (p:=⟨gb225,_,none⟩) (by first|exact Nat.ne_of_lt (Nat.lt_of_lt_of_le (by have:=World.block_lt_of_cell? _ _ hw224_0;first|rwa [add_block] at this|exact this) GW225.out)|(rw [add_block];exact Nat.ne_of_lt (Nat.lt_of_lt_of_le (by have:=World.block_lt_of_cell? _ _ hw224_0;first|rwa [add_block] at this|exact this) GW225.out))|(show (Addr.add _ _).block ≠ _;rw [add_block];exact Nat.ne_of_lt (Nat.lt_of_lt_of_le (by have:=World.block_lt_of_cell? _ _ hw224_0;first|rwa [add_block] at this|exact this) GW225.out))|(dsimp only;exact Nat.ne_of_lt (Nat.lt_of_lt_of_le (by have:=World.block_lt_of_cell? _ _ hw224_0;first|rwa [add_block] at this|exact this) GW225.out))) _).trans (((cell_far (p:=⟨gb225,_,none⟩) (by first|exact Nat.ne_of_lt (Nat.lt_of_lt_of_le (by have:=World.block_lt_of_cell? _ _ hw224_0;first|rwa [add_block] at this|exact this) GW225.out)|(rw [add_block];exact Nat.ne_of_lt (Nat.lt_of_lt_of_le (by have:=World.block_lt_of_cell? _ _ hw224_0;first|rwa [add_block] at this|exact this) GW225.out))|(show (Addr.add _ _).block ≠ _;rw [add_block];exact Nat.ne_of_lt (Nat.lt_of_lt_of_le (by have:=World.block_lt_of_cell? _ _ hw224_0;first|rwa [add_block] at this|exact this) GW225.out))|(dsimp only;exact Nat.ne_of_lt (Nat.lt_of_lt_of_le (by have:=World.block_lt_of_cell? _ _ hw224_0;first|rwa [add_block] at this|exact this) GW225.out))) _).trans (hHeld.2.2.1)))))))),((cell_far (p:=⟨gb225,_,none⟩) (by first|exact Nat.ne_of_lt (Nat.lt_of_lt_of_le (by have:=World.block_lt_of_cell? _ _ hw224_1;first|rwa [add_block] at this|exact this) GW225.out)|(rw [add_block];exact Nat.ne_of_lt (Nat.lt_of_lt_of_le (by have:=World.block_lt_of_cell? _ _ hw224_1;first|rwa [add_block] at this|exact this) GW225.out))|(show (Addr.add _ _).block ≠ _;rw [add_block];exact Nat.ne_of_lt (Nat.lt_of_lt_of_le (by have:=World.block_lt_of_cell? _ _ hw224_1;first|rwa [add_block] at this|exact this) GW225.out))|(dsimp only;exact Nat.ne_of_lt (Nat.lt_of_lt_of_le (by have:=World.block_lt_of_cell? _ _ hw224_1;first|rwa [add_block] at this|exact this) GW225.out))) _).trans (((cell_far (p:=⟨gb225,_,none⟩) (by first|exact Nat.ne_of_lt (Nat.lt_of_lt_of_le (by have:=World.block_lt_of_cell? _ _ hw224_1;first|rwa [add_block] at this|exact this) GW225.out)|(rw [add_block];exact Nat.ne_of_lt (Nat.lt_of_lt_of_le (by have:=World.block_lt_of_cell? _ _ hw224_1;first|rwa [add_block] at this|exact this) GW225.out))|(show (Addr.add _ _).block ≠ _;rw [add_block];exact Nat.ne_of_lt (Nat.lt_of_lt_of_le (by have:=World.block_lt_of_cell? _ _ hw224_1;first|rwa [add_block] at this|exact this) GW225.out))|(dsimp only;exact Nat.ne_of_lt (Nat.lt_of_lt_of_le (by have:=World.block_lt_of_cell? _ _ hw224_1;first|rwa [add_block] at this|exact this) GW225.out))) _).trans (((cell_far (p:=⟨gb225,_,none⟩) (by first|exact Nat.ne_of_lt (Nat.lt_of_lt_of_le (by have:=World.block_lt_of_cell? _ _ hw224_1;first|rwa [add_block] at this|exact this) GW225.out)|(rw [add_block];exact Nat.ne_of_lt (Nat.lt_of_lt_of_le (by have:=World.block_lt_of_cell? _ _ hw224_1;first|rwa [add_block] at this|exact this) GW225.out))|(show (Addr.add _ _).block ≠ _;rw [add_block];exact Nat.ne_of_lt (Nat.lt_of_lt_of_le (by have:=World.block_lt_of_cell? _ _ hw224_1;first|rwa [add_block] at this|exact this) GW225.out))|(dsimp only;exact Nat.ne_of_lt (Nat.lt_of_lt_of_le (by have:=World.block_lt_of_cell? _ _ hw224_1;first|rwa [add_block] at this|exact this) GW225.out))) _).trans (((cell_far (p:=⟨gb225,_,none⟩) (by first|exact Nat.ne_of_lt (Nat.lt_of_lt_of_le (by have:=World.block_lt_of_cell? _ _ hw224_1;first|rwa [add_block] at this|exact this) GW225.out)|(rw [add_block];exact Nat.ne_of_lt (Nat.lt_of_lt_of_le (by have:=World.block_lt_of_cell? _ _ hw224_1;first|rwa [add_block] at this|exact this) GW225.out))|(show (Addr.add _ _).block ≠ _;rw [add_block];exact Nat.ne_of_lt (Nat.lt_of_lt_of_le (by have:=World.block_lt_of_cell? _ _ hw224_1;first|rwa [add_block] at this|exact this) GW225.out))|(dsimp only;exact Nat.ne_of_lt (Nat.lt_of_lt_of_le (by have:=World.block_lt_of_cell? _ _ hw224_1;first|rwa [add_block] at this|exact this) GW225.out))) _).trans (hHeld.2.2.2.1)))))))),((cell_far (p:=⟨gb225,_,none⟩) (by first|exact Nat.ne_of_lt (Nat.lt_of_lt_of_le (by have:=World.block_lt_of_cell? _ _ hw224_2;first|rwa [add_block] at this|exact this) GW225.out)|(rw [add_block];exact Nat.ne_of_lt (Nat.lt_of_lt_of_le (by have:=World.block_lt_of_cell? _ _ hw224_2;first|rwa [add_block] at this|exact this) GW225.out))|(show (Addr.add _ _).block ≠ _;rw [add_block];exact Nat.ne_of_lt (Nat.lt_of_lt_of_le (by have:=World.block_lt_of_cell? _ _ hw224_2;first|rwa [add_block] at this|exact this) GW225.out))|(dsimp only;exact Nat.ne_of_lt (Nat.lt_of_lt_of_le (by have:=World.block_lt_of_cell? _ _ hw224_2;first|rwa [add_block] at this|exact this) GW225.out))) _).trans (((cell_far (p:=⟨gb225,_,none⟩) (by first|exact Nat.ne_of_lt (Nat.lt_of_lt_of_le (by have:=World.block_lt_of_cell? _ _ hw224_2;first|rwa [add_block] at this|exact this) GW225.out)|(rw [add_block];exact Nat.ne_of_lt (Nat.lt_of_lt_of_le (by have:=World.block_lt_of_cell? _ _ hw224_2;first|rwa [add_block] at this|exact this) GW225.out))|(show (Addr.add _ _).block ≠ _;rw [add_block];exact Nat.ne_of_lt (Nat.lt_of_lt_of_le (by have:=World.block_lt_of_cell? _ _ hw224_2;first|rwa [add_block] at this|exact this) GW225.out))|(dsimp only;exact Nat.ne_of_lt (Nat.lt_of_lt_of_le (by have:=World.block_lt_of_cell? _ _ hw224_2;first|rwa [add_block] at this|exact this) GW225.out))) _).trans (((cell_far (p:=⟨gb225,_,none⟩) (by first|exact Nat.ne_of_lt (Nat.lt_of_lt_of_le (by have:=World.block_lt_of_cell? _ _ hw224_2;first|rwa [add_block] at this|exact this) GW225.out)|(rw [add_block];exact Nat.ne_of_lt (Nat.lt_of_lt_of_le (by have:=World.block_lt_of_cell? _ _ hw224_2;first|rwa [add_block] at this|exact this) GW225.out))|(show (Addr.add _ _).block ≠ _;rw [add_block];exact Nat.ne_of_lt (Nat.lt_of_lt_of_le (by have:=World.block_lt_of_cell? _ _ hw224_2;first|rwa [add_block] at this|exact this) GW225.out))|(dsimp only;exact Nat.ne_of_lt (Nat.lt_of_lt_of_le (by have:=World.block_lt_of_cell? _ _ hw224_2;first|rwa [add_block] at this|exact this) GW225.out))) _).trans (((cell_far (p:=⟨gb225,_,none⟩) (by first|exact Nat.ne_of_lt (Nat.lt_of_lt_of_le (by have:=World.block_lt_of_cell? _ _ hw224_2;first|rwa [add_block] at this|exact this) GW225.out)|(rw [add_block];exact Nat.ne_of_lt (Nat.lt_of_lt_of_le (by have:=World.block_lt_of_cell? _ _ hw224_2;first|rwa [add_block] at this|exact this) GW225.out))|(show (Addr.add _ _).block ≠ _;rw [add_block];exact Nat.ne_of_lt (Nat.lt_of_lt_of_le (by have:=World.block_lt_of_cell? _ _ hw224_2;first|rwa [add_block] at this|exact this) GW225.out))|(dsimp only;exact Nat.ne_of_lt (Nat.lt_of_lt_of_le (by have:=World.block_lt_of_cell? _ _ hw224_2;first|rwa [add_block] at this|exact this) GW225.out))) _).trans (hHeld.2.2.2.2.1)))))))),((cell_far (p:=⟨gb225,_,none⟩) (by first|exact Nat.ne_of_lt (Nat.lt_of_lt_of_le (by have:=World.block_lt_of_cell? _ _ hw224_3;first|rwa [add_block] at this|exact this) GW225.out)|(rw [add_block];exact Nat.ne_of_lt (Nat.lt_of_lt_of_le (by have:=World.block_lt_of_cell? _ _ hw224_3;first|rwa [add_block] at this|exact this) GW225.out))|(show (Addr.add _ _).block ≠ _;rw [add_block];exact Nat.ne_of_lt (Nat.lt_of_lt_of_le (by have:=World.block_lt_of_cell? _ _ hw224_3;first|rwa [add_block] at this|exact this) GW225.out))|(dsimp only;exact Nat.ne_of_lt (Nat.lt_of_lt_of_le (by have:=World.block_lt_of_cell? _ _ hw224_3;first|rwa [add_block] at this|exact this) GW225.out))) _).trans (((cell_far (p:=⟨gb225,_,none⟩) (by first|exact Nat.ne_of_lt (Nat.lt_of_lt_of_le (by have:=World.block_lt_of_cell? _ _ hw224_3;first|rwa [add_block] at this|exact this) GW225.out)|(rw [add_block];exact Nat.ne_of_lt (Nat.lt_of_lt_of_le (by have:=World.block_lt_of_cell? _ _ hw224_3;first|rwa [add_block] at this|exact this) GW225.out))|(show (Addr.add _ _).block ≠ _;rw [add_block];exact Nat.ne_of_lt (Nat.lt_of_lt_of_le (by have:=World.block_lt_of_cell? _ _ hw224_3;first|rwa [add_block] at this|exact this) GW225.out))|(dsimp only;exact Nat.ne_of_lt (Nat.lt_of_lt_of_le (by have:=World.block_lt_of_cell? _ _ hw224_3;first|rwa [add_block] at this|exact this) GW225.out))) _).trans (((cell_far (p:=⟨gb225,_,none⟩) (by first|exact Nat.ne_of_lt (Nat.lt_of_lt_of_le (by have:=World.block_lt_of_cell? _ _ hw224_3;first|rwa [add_block] at this|exact this) GW225.out)|(rw [add_block];exact Nat.ne_of_lt (Nat.lt_of_lt_of_le (by have:=World.block_lt_of_cell? _ _ hw224_3;first|rwa [add_block] at this|exact this) GW225.out))|(show (Addr.add _ _).block ≠ _;rw [add_block];exact Nat.ne_of_lt (Nat.lt_of_lt_of_le (by have:=World.block_lt_of_cell? _ _ hw224_3;first|rwa [add_block] at this|exact this) GW225.out))|(dsimp only;exact Nat.ne_of_lt (Nat.lt_of_lt_of_le (by have:=World.block_lt_of_cell? _ _ hw224_3;first|rwa [add_block] at this|exact this) GW225.out))) _).trans (((cell_far (p:=⟨gb225,_,none⟩) (by first|exact Nat.ne_of_lt (Nat.lt_of_lt_of_le (by have:=World.block_lt_of_cell? _ _ hw224_3;first|rwa [add_block] at this|exact this) GW225.out)|(rw [add_block];exact Nat.ne_of_lt (Nat.lt_of_lt_of_le (by have:=World.block_lt_of_cell? _ _ hw224_3;first|rwa [add_block] at this|exact this) GW225.out))|(show (Addr.add _ _).block ≠ _;rw [add_block];exact Nat.ne_of_lt (Nat.lt_of_lt_of_le (by have:=World.block_lt_of_cell? _ _ hw224_3;first|rwa [add_block] at this|exact this) GW225.out))|(dsimp only;exact Nat.ne_of_lt (Nat.lt_of_lt_of_le (by have:=World.block_lt_of_cell? _ _ hw224_3;first|rwa [add_block] at this|exact this) GW225.out))) _).trans (hHeld.2.2.2.2.2))))))))⟩ (fun hHeld => ?_)
        clear hK K
        refine done_ (done_of HT_.out (by kernel_rfl)) ?_
        have n0_ : Aside0 (Kd.R k41 41 ((((w40.setCell ⟨gb225,0,none⟩ (.string ((rd_T41 (rd_L5 l0 x5_2) (rd x4_1 x5_2)).f0.f0))).setCell ⟨gb225,1,none⟩ (.int .u64 ((rd_T41 (rd_L5 l0 x5_2) (rd x4_1 x5_2)).f0.f1))).setCell ⟨gb225,2,none⟩ (.int .u8 ((rd_T41 (rd_L5 l0 x5_2) (rd x4_1 x5_2)).f0.f2))).setCell ⟨gb225,3,none⟩ (.string ((rd_T41 (rd_L5 l0 x5_2) (rd x4_1 x5_2)).f1))) w.heap.size (fun k_ => k_ ≠ gb225) u3 x3_1):=⟨by (with_reducible repeat (first|apply zA|apply zN|apply zD));exact Kd.R_mono (Kd.R_far (p:=⟨gb225,3,none⟩) (Kd.R_far (p:=⟨gb225,2,none⟩) (Kd.R_far (p:=⟨gb225,1,none⟩) (Kd.R_far (p:=⟨gb225,0,none⟩) (Kd.R_mono HO_3.out (fun k_ hk => (⟨hk,hk.2⟩ : _ ∧ k_ ≠ gb225))) (fun _ hk => hk.2) (.string ((rd_T41 (rd_L5 l0 x5_2) (rd x4_1 x5_2)).f0.f0))) (fun _ hk => hk.2) (.int .u64 ((rd_T41 (rd_L5 l0 x5_2) (rd x4_1 x5_2)).f0.f1))) (fun _ hk => hk.2) (.int .u8 ((rd_T41 (rd_L5 l0 x5_2) (rd x4_1 x5_2)).f0.f2))) (fun _ hk => hk.2) (.string ((rd_T41 (rd_L5 l0 x5_2) (rd x4_1 x5_2)).f1))) (fun _ hk => hk.1.2)⟩
        have n1_ : Aside0 (Kd.R (Kd.int .i64) 3 ((((w40.setCell ⟨gb225,0,none⟩ (.string ((rd_T41 (rd_L5 l0 x5_2) (rd x4_1 x5_2)).f0.f0))).setCell ⟨gb225,1,none⟩ (.int .u64 ((rd_T41 (rd_L5 l0 x5_2) (rd x4_1 x5_2)).f0.f1))).setCell ⟨gb225,2,none⟩ (.int .u8 ((rd_T41 (rd_L5 l0 x5_2) (rd x4_1 x5_2)).f0.f2))).setCell ⟨gb225,3,none⟩ (.string ((rd_T41 (rd_L5 l0 x5_2) (rd x4_1 x5_2)).f1))) w.heap.size (fun _ => True) (.slice (some ad223) x4_1.length co39) x4_1):=⟨by (with_reducible repeat (first|apply zA|apply zN|apply zD));exact Kd.R_mono (Kd.R_far (p:=⟨gb225,3,none⟩) (Kd.R_far (p:=⟨gb225,2,none⟩) (Kd.R_far (p:=⟨gb225,1,none⟩) (Kd.R_far (p:=⟨gb225,0,none⟩) (Kd.R_types HO_4.out BK225.out (by decide)) (fun _ hk => hk.2) (.string ((rd_T41 (rd_L5 l0 x5_2) (rd x4_1 x5_2)).f0.f0))) (fun _ hk => hk.2) (.int .u64 ((rd_T41 (rd_L5 l0 x5_2) (rd x4_1 x5_2)).f0.f1))) (fun _ hk => hk.2) (.int .u8 ((rd_T41 (rd_L5 l0 x5_2) (rd x4_1 x5_2)).f0.f2))) (fun _ hk => hk.2) (.string ((rd_T41 (rd_L5 l0 x5_2) (rd x4_1 x5_2)).f1))) (fun _ hk => trivial)⟩
        have n2_ : Aside0 (((((w40.setCell ⟨gb225,0,none⟩ (.string ((rd_T41 (rd_L5 l0 x5_2) (rd x4_1 x5_2)).f0.f0))).setCell ⟨gb225,1,none⟩ (.int .u64 ((rd_T41 (rd_L5 l0 x5_2) (rd x4_1 x5_2)).f0.f1))).setCell ⟨gb225,2,none⟩ (.int .u8 ((rd_T41 (rd_L5 l0 x5_2) (rd x4_1 x5_2)).f0.f2))).setCell ⟨gb225,3,none⟩ (.string ((rd_T41 (rd_L5 l0 x5_2) (rd x4_1 x5_2)).f1))).heap[gb225]? = some (.cells #[.string ((rd_T41 (rd_L5 l0 x5_2) (rd x4_1 x5_2)).f0.f0),.int .u64 ((rd_T41 (rd_L5 l0 x5_2) (rd x4_1 x5_2)).f0.f1),.int .u8 ((rd_T41 (rd_L5 l0 x5_2) (rd x4_1 x5_2)).f0.f2),.string ((rd_T41 (rd_L5 l0 x5_2) (rd x4_1 x5_2)).f1)] 41 (0,0))):=⟨by (with_reducible repeat (first|refine bN ?_ _|refine bD ?_|refine bA ?_ _));refine blk_put (cs:=#[.string ((rd_T41 (rd_L5 l0 x5_2) (rd x4_1 x5_2)).f0.f0),.int .u64 ((rd_T41 (rd_L5 l0 x5_2) (rd x4_1 x5_2)).f0.f1),.int .u8 ((rd_T41 (rd_L5 l0 x5_2) (rd x4_1 x5_2)).f0.f2),.string (⟨#[]⟩ : BA)]) ?_ 3 _ rfl;(with_reducible repeat (first|refine bN ?_ _|refine bD ?_|refine bA ?_ _));refine blk_put (cs:=#[.string ((rd_T41 (rd_L5 l0 x5_2) (rd x4_1 x5_2)).f0.f0),.int .u64 ((rd_T41 (rd_L5 l0 x5_2) (rd x4_1 x5_2)).f0.f1),.int .u8 0,.string (⟨#[]⟩ : BA)]) ?_ 2 _ rfl;(with_reducible repeat (first|refine bN ?_ _|refine bD ?_|refine bA ?_ _));refine blk_put (cs:=#[.string ((rd_T41 (rd_L5 l0 x5_2) (rd x4_1 x5_2)).f0.f0),.int .u64 0,.int .u8 0,.string (⟨#[]⟩ : BA)]) ?_ 1 _ rfl;(with_reducible repeat (first|refine bN ?_ _|refine bD ?_|refine bA ?_ _));refine blk_put (cs:=#[.string (⟨#[]⟩ : BA),.int .u64 0,.int .u8 0,.string (⟨#[]⟩ : BA)]) ?_ 0 _ rfl;(with_reducible repeat (first|refine bN ?_ _|refine bD ?_|refine bA ?_ _));exact BK225.out⟩
        have n3_ : Aside0 (Below w.heap.size w ((((w40.setCell ⟨gb225,0,none⟩ (.string ((rd_T41 (rd_L5 l0 x5_2) (rd x4_1 x5_2)).f0.f0))).setCell ⟨gb225,1,none⟩ (.int .u64 ((rd_T41 (rd_L5 l0 x5_2) (rd x4_1 x5_2)).f0.f1))).setCell ⟨gb225,2,none⟩ (.int .u8 ((rd_T41 (rd_L5 l0 x5_2) (rd x4_1 x5_2)).f0.f2))).setCell ⟨gb225,3,none⟩ (.string ((rd_T41 (rd_L5 l0 x5_2) (rd x4_1 x5_2)).f1)))):=⟨by repeat (first|(with_reducible first|exact HB.out|apply below_alloc|apply pw_below_drewN|apply below_drew1|refine below_set ?_ GE225.out)|exact HB.out)⟩
        (try clear HO_3)
        (try clear HO_4)
        (try clear BK225)
        (try clear HB)
        generalize ((((w40.setCell ⟨gb225,0,none⟩ (.string ((rd_T41 (rd_L5 l0 x5_2) (rd x4_1 x5_2)).f0.f0))).setCell ⟨gb225,1,none⟩ (.int .u64 ((rd_T41 (rd_L5 l0 x5_2) (rd x4_1 x5_2)).f0.f1))).setCell ⟨gb225,2,none⟩ (.int .u8 ((rd_T41 (rd_L5 l0 x5_2) (rd x4_1 x5_2)).f0.f2))).setCell ⟨gb225,3,none⟩ (.string ((rd_T41 (rd_L5 l0 x5_2) (rd x4_1 x5_2)).f1))) = w45 at n0_ n1_ n2_ n3_ ⊢
        have HO_3:=n0_
        have HO_4:=n1_
        have BK225:=n2_
        have HB:=n3_
        clear n0_ n1_ n2_ n3_
        have p226 : 0 ≤ (x5_2 : Int):=of_decide_eq_true (by first|(with_reducible assumption)|assumption)
        have q226 : x5_2 < (x4_1.length : Int):=of_decide_eq_true (by first|(with_reducible assumption)|assumption)
        obtain ⟨ad226,e226,hx226_0⟩:=Kd.at_int (Kd.R_reads' HO_4.out).2.2 x5_2 p226 q226
        obtain rfl : ad223 = ad226:=(by injection e226)
        replace p226:=eq_true p226
        replace q226:=eq_true q226
        have p35 : 0 ≤ (x5_2 : Int):=of_decide_eq_true (by first|(with_reducible assumption)|assumption)
        have q35 : (x5_2 : Int) < ((x4_1.length : Int) : Int):=of_decide_eq_true (by first|(with_reducible assumption)|assumption)
        obtain ⟨go35,co35,eo35,gb35,gl35,cl35,HG35⟩:=Kd.R_form HO_4.out (by omega)
        (first|cases eo35|(injection eo35 with ea_ en_ ec_;(first|subst ea_|(injection ea_ with ea_;subst ea_));subst ec_;clear en_))
        have GB35:=Aside0.mk gb35
        have GG35:=Aside0.mk HG35
        clear gb35 gl35 HG35
        (first|simp only [add_plain] at hx223_0|skip)
        (first|simp only [add_plain] at hx226_0|skip)
        obtain ⟨hx35_0,hf35_0⟩:=Kd.R_celln 0 HO_4.out (x5_2 : Int) p35 q35
        replace p35:=eq_true p35
        replace q35:=eq_true q35
        obtain ⟨hy46_,hz46_⟩:=Kd.R_celln 0 HO_4.out (x5_2 : Int) (of_decide_eq_true (by first|(with_reducible assumption)|assumption)) (of_decide_eq_true (by first|(with_reducible assumption)|assumption))
        have HP46:=Kd.R_putg HO_4.out (x5_2 : Int) (wrap64 ((rd x4_1 x5_2) + 1))
        try go_wp2_with (first|((with_reducible refine gate_store (t:=3) (p:=78) rfl ?_);refine store_event (t:=3) (p:=78) (v:=?vo_w47) (w1:=(w45.setCell ⟨go35,(x5_2 : Int).toNat,none⟩ (.int .i64 (wrap64 ((rd x4_1 x5_2) + 1))))) ?hg ?ho ?hn ?hr ?_;(case ho => rfl);(case hg => rfl);(case hn => rfl);(case hr => first|(go_simp;done)|(go_simp;rfl));intro w47 hw;have hg : w45.grownBy w47 (some go35):=(by rw [hw];exact HP46.2);have hp_ : Kd.R (Kd.int .i64) 3 w47 w.heap.size (fun _ => True) (.slice (some ⟨go35,0,none⟩) x4_1.length co39) y227:=(by rw [hw,Ny227.out];exact HP46.1);clear HP46;have n0_:=Aside0.mk (Kd.R_over' (v:=(.slice (some ⟨go35,0,none⟩) x4_1.length co39)) (by (with_reducible repeat (first|apply zA|apply zN|apply zD));exact HO_3.out) (Kd.R_typed HO_4.out) (by decide) hg);have n1_:=Aside0.mk (hp_);have n2_:=Aside0.mk (blk_grown (g:=gb225) (o:=.cells #[.string ((rd_T41 (rd_L5 l0 x5_2) (rd x4_1 x5_2)).f0.f0),.int .u64 ((rd_T41 (rd_L5 l0 x5_2) (rd x4_1 x5_2)).f0.f1),.int .u8 ((rd_T41 (rd_L5 l0 x5_2) (rd x4_1 x5_2)).f0.f2),.string ((rd_T41 (rd_L5 l0 x5_2) (rd x4_1 x5_2)).f1)] 41 (0,0)) (by (with_reducible repeat (first|refine bN ?_ _|refine bD ?_|refine bA ?_ _));exact BK225.out) hg (Kd.R_ne HO_4.out BK225.out (by decide)));have n3_:=Aside0.mk ((by rw [hw];exact below_set (HB.out) GB35.out : Below w.heap.size w w47));clear HO_3;clear HO_4;clear BK225;clear HB;have HO_3:=n0_;have HO_4:=n1_;have BK225:=n2_;have HB:=n3_;clear n0_ n1_ n2_ n3_;clear hg hw hp_))
        have n0_:=Aside0.mk (Kd.R_drew HO_3.out)
        have n1_:=Aside0.mk (Kd.R_drew HO_4.out)
        have n2_:=Aside0.mk (blk_drew BK225.out)
        have n3_:=Aside0.mk (below_drew1 HB.out)
        clear HO_3
        clear HO_4
        clear BK225
        clear HB
        have HO_3:=n0_
        have HO_4:=n1_
        have BK225:=n2_
        have HB:=n3_
        clear n0_ n1_ n2_ n3_
        obtain ⟨Ao49,co49,eo49⟩:=Kd.R_slice HO_3.out
        (first|subst eo49|(injection eo49 with f1_ f2_ f3_;have f4_:=f1_.symm;have f5_:=f3_.symm;clear f1_ f2_ f3_;subst f4_;subst f5_))
        refine start_ (n:=15) (S:=fun w' => True) (ds:=[]) #[ff,ff,ff,ff,ff,ff,ff,ff,ff,ff,ff,ff,ff,ff,ff] (by kernel_rfl) rfl rfl trivial (fun hHeld => ?_);refine with_tabW ratlineref11_All.tab13 ratlineref11_All.bits13 (fun HT_ HW_ => ?_)
        generalize w47.drew = w48 at HO_3 HO_4 BK225 HB hHeld ⊢
        refine pure_ (i:=0) (N:=some 79) (v:=?_) (a':=?_) #[tt,ff,ff,ff,ff,ff,ff,ff,ff,ff,ff,ff,ff,ff,ff] rfl rfl (any_of HT_.out (by kernel_rfl)) (fun _ _ _ h => h) (Or.inl ⟨by rfl,?_⟩) ?_ ?_
        rotate_left
        ·intro w'
         go_simp
         with_reducible rfl
        rotate_left
        ·simp only [Act.put,sA,sZ,sS,i64_w,i32_w]
         rfl
        refine pure_ (i:=1) (N:=some 80) (v:=?_) (a':=?_) #[tt,tt,ff,ff,ff,ff,ff,ff,ff,ff,ff,ff,ff,ff,ff] rfl rfl (any_of HT_.out (by kernel_rfl)) (fun _ _ _ h => h) (Or.inl ⟨by rfl,?_⟩) ?_ ?_
        rotate_left
        ·intro w'
         go_simp
         with_reducible rfl
        rotate_left
        ·simp only [Act.put,sA,sZ,sS,i64_w,i32_w]
         rfl
        refine pure_ (i:=2) (N:=some 81) (v:=?_) (a':=?_) #[tt,tt,tt,ff,ff,ff,ff,ff,ff,ff,ff,ff,ff,ff,ff] rfl rfl (any_of HT_.out (by kernel_rfl)) (fun _ _ _ h => h) (Or.inl ⟨by rfl,?_⟩) ?_ ?_
        rotate_left
        ·intro w'
         go_simp
         with_reducible rfl
        rotate_left
        ·simp only [Act.put,sA,sZ,sS,i64_w,i32_w]
         rfl
        refine pure_ (i:=3) (N:=some 82) (v:=?_) (a':=?_) #[tt,tt,tt,tt,ff,ff,ff,ff,ff,ff,ff,ff,ff,ff,ff] rfl rfl (any_of HT_.out (by kernel_rfl)) (fun _ _ _ h => h) (Or.inl ⟨by rfl,?_⟩) ?_ ?_
        rotate_left
        ·intro w'
         go_simp
         with_reducible rfl
        rotate_left
        ·simp only [Act.put,sA,sZ,sS,i64_w,i32_w]
         rfl
        refine pure_ (i:=4) (N:=some 83) (v:=undef) (a':=?_) #[tt,tt,tt,tt,tt,ff,ff,ff,ff,ff,ff,ff,ff,ff,ff] rfl rfl (any_of HT_.out (by kernel_rfl)) (fun _ _ _ h => h) (Or.inr ⟨by rfl,rfl⟩) ?_ ?_
        rotate_left
        ·simp only [Act.put,sA,sZ,sS,i64_w,i32_w]
         rfl
        refine pure_ (i:=5) (N:=some 84) (v:=undef) (a':=?_) #[tt,tt,tt,tt,tt,tt,ff,ff,ff,ff,ff,ff,ff,ff,ff] rfl rfl (any_of HT_.out (by kernel_rfl)) (fun _ _ _ h => h) (Or.inr ⟨by rfl,rfl⟩) ?_ ?_
        rotate_left
        ·simp only [Act.put,sA,sZ,sS,i64_w,i32_w]
         rfl
        refine pure_ (i:=6) (N:=some 85) (v:=undef) (a':=?_) #[tt,tt,tt,tt,tt,tt,tt,ff,ff,ff,ff,ff,ff,ff,ff] rfl rfl (any_of HT_.out (by kernel_rfl)) (fun _ _ _ h => h) (Or.inr ⟨by rfl,rfl⟩) ?_ ?_
        rotate_left
        ·simp only [Act.put,sA,sZ,sS,i64_w,i32_w]
         rfl
        refine pure_ (i:=7) (N:=some 86) (v:=undef) (a':=?_) #[tt,tt,tt,tt,tt,tt,tt,tt,ff,ff,ff,ff,ff,ff,ff] rfl rfl (any_of HT_.out (by kernel_rfl)) (fun _ _ _ h => h) (Or.inr ⟨by rfl,rfl⟩) ?_ ?_
        rotate_left
        ·simp only [Act.put,sA,sZ,sS,i64_w,i32_w]
         rfl
        refine pure_ (i:=8) (N:=some 87) (v:=undef) (a':=?_) #[tt,tt,tt,tt,tt,tt,tt,tt,tt,ff,ff,ff,ff,ff,ff] rfl rfl (any_of HT_.out (by kernel_rfl)) (fun _ _ _ h => h) (Or.inr ⟨by rfl,rfl⟩) ?_ ?_
        rotate_left
        ·simp only [Act.put,sA,sZ,sS,i64_w,i32_w]
         rfl
        refine pure_ (i:=9) (N:=some 88) (v:=undef) (a':=?_) #[tt,tt,tt,tt,tt,tt,tt,tt,tt,tt,ff,ff,ff,ff,ff] rfl rfl (any_of HT_.out (by kernel_rfl)) (fun _ _ _ h => h) (Or.inr ⟨by rfl,rfl⟩) ?_ ?_
        rotate_left
        ·simp only [Act.put,sA,sZ,sS,i64_w,i32_w]
         rfl
        refine pure_ (i:=10) (N:=some 89) (v:=undef) (a':=?_) #[tt,tt,tt,tt,tt,tt,tt,tt,tt,tt,tt,ff,ff,ff,ff] rfl rfl (any_of HT_.out (by kernel_rfl)) (fun _ _ _ h => h) (Or.inr ⟨by rfl,rfl⟩) ?_ ?_
        rotate_left
        ·simp only [Act.put,sA,sZ,sS,i64_w,i32_w]
         rfl
        refine pure_ (i:=11) (N:=some 90) (v:=undef) (a':=?_) #[tt,tt,tt,tt,tt,tt,tt,tt,tt,tt,tt,tt,ff,ff,ff] rfl rfl (any_of HT_.out (by kernel_rfl)) (fun _ _ _ h => h) (Or.inr ⟨by rfl,rfl⟩) ?_ ?_
        rotate_left
        ·simp only [Act.put,sA,sZ,sS,i64_w,i32_w]
         rfl
        refine pure_ (i:=12) (N:=some 91) (v:=undef) (a':=?_) #[tt,tt,tt,tt,tt,tt,tt,tt,tt,tt,tt,tt,tt,ff,ff] rfl rfl (any_of HT_.out (by kernel_rfl)) (fun _ _ _ h => h) (Or.inr ⟨by rfl,rfl⟩) ?_ ?_
        rotate_left
        ·simp only [Act.put,sA,sZ,sS,i64_w,i32_w]
         rfl
        refine pure_ (i:=13) (N:=some 92) (v:=undef) (a':=?_) #[tt,tt,tt,tt,tt,tt,tt,tt,tt,tt,tt,tt,tt,tt,ff] rfl rfl (any_of HT_.out (by kernel_rfl)) (fun _ _ _ h => h) (Or.inr ⟨by rfl,rfl⟩) ?_ ?_
        rotate_left
        ·simp only [Act.put,sA,sZ,sS,i64_w,i32_w]
         rfl
        refine pure_ (i:=14) (N:=some 93) (v:=?_) (a':=?_) #[tt,tt,tt,tt,tt,tt,tt,tt,tt,tt,tt,tt,tt,tt,tt] rfl rfl (any_of HT_.out (by kernel_rfl)) (fun _ _ _ h => h) (Or.inl ⟨by rfl,?_⟩) ?_ ?_
        rotate_left
        ·intro w'
         go_simp
         with_reducible rfl
        rotate_left
        ·simp only [Act.put,sA,sZ,sS,i64_w,i32_w]
         rfl
        refine done_ (done_of HT_.out (by kernel_rfl)) ?_
        have hcz50_0 : w48.cell? ⟨gb225,0,none⟩ = some (.string ((rd_T41 (rd_L5 l0 x5_2) (rd x4_1 x5_2)).f0.f0)):=(blk_cell BK225.out 0).trans rfl
        have hcz50_1 : w48.cell? ⟨gb225,1,none⟩ = some (.int .u64 ((rd_T41 (rd_L5 l0 x5_2) (rd x4_1 x5_2)).f0.f1)):=(blk_cell BK225.out 1).trans rfl
        have hcz50_2 : w48.cell? ⟨gb225,2,none⟩ = some (.int .u8 ((rd_T41 (rd_L5 l0 x5_2) (rd x4_1 x5_2)).f0.f2)):=(blk_cell BK225.out 2).trans rfl
        have hcz50_3 : w48.cell? ⟨gb225,3,none⟩ = some (.string ((rd_T41 (rd_L5 l0 x5_2) (rd x4_1 x5_2)).f1)):=(blk_cell BK225.out 3).trans rfl
        have hfz50_0:=blk_frozen BK225.out 0
        have hfz50_1:=blk_frozen BK225.out 1
        have hfz50_2:=blk_frozen BK225.out 2
        have hfz50_3:=blk_frozen BK225.out 3
        try go_wp2_with (first|((with_reducible refine gate_builtin (b:=.append) (xs:=#[.tmp 94,.tmp 96]) rfl ?_);(try (refine gate_guard (by rfl) ?_;dsimp only));at_builtin;refine Kd.R_append k41 (w0:=w) w.heap.size rfl (.tmp 94) (.tmp 96) 29 41 (.agg #[(.string ⟨#[]⟩),(.int .u64 0),(.int .u8 0),(.string ⟨#[]⟩)]) 48 rfl Try.underlying29 info41 rfl (by decide) (by omega) (.slice Ao49 x3_1.length co49) x3_1 (⟨(⟨(rd_T41 (rd_L5 l0 x5_2) (rd x4_1 x5_2)).f0.f0,(rd_T41 (rd_L5 l0 x5_2) (rd x4_1 x5_2)).f0.f1,(rd_T41 (rd_L5 l0 x5_2) (rd x4_1 x5_2)).f0.f2⟩ : S39),(rd_T41 (rd_L5 l0 x5_2) (rd x4_1 x5_2)).f1⟩ : S41) [.string ((rd_T41 (rd_L5 l0 x5_2) (rd x4_1 x5_2)).f0.f0),.int .u64 ((rd_T41 (rd_L5 l0 x5_2) (rd x4_1 x5_2)).f0.f1),.int .u8 ((rd_T41 (rd_L5 l0 x5_2) (rd x4_1 x5_2)).f0.f2),.string ((rd_T41 (rd_L5 l0 x5_2) (rd x4_1 x5_2)).f1)] (fun k_ => k_ ≠ gb225) (fun _ => False) rfl rfl ?aP (fun _ hk => hk.elim) ?aF ?aO ?aB ?aS ?aL ?_;(case aP => exact k41_mkM _ _ _ (⟨(⟨(rd_T41 (rd_L5 l0 x5_2) (rd x4_1 x5_2)).f0.f0,(rd_T41 (rd_L5 l0 x5_2) (rd x4_1 x5_2)).f0.f1,(rd_T41 (rd_L5 l0 x5_2) (rd x4_1 x5_2)).f0.f2⟩ : S39),(rd_T41 (rd_L5 l0 x5_2) (rd x4_1 x5_2)).f1⟩ : S41));(case aB => exact (by repeat (first|(with_reducible first|exact HB.out|apply below_alloc|apply pw_below_drewN|apply below_drew1|refine below_set ?_ GE225.out)|exact HB.out)));(case aF => exact (fun k_ hk => Kd.freshB (g:=gb225) (o:=.cells #[.string ((rd_T41 (rd_L5 l0 x5_2) (rd x4_1 x5_2)).f0.f0),.int .u64 ((rd_T41 (rd_L5 l0 x5_2) (rd x4_1 x5_2)).f0.f1),.int .u8 ((rd_T41 (rd_L5 l0 x5_2) (rd x4_1 x5_2)).f0.f2),.string ((rd_T41 (rd_L5 l0 x5_2) (rd x4_1 x5_2)).f1)] 41 (0,0)) (by (with_reducible repeat (first|refine bN ?_ _|refine bD ?_|refine bA ?_ _));exact BK225.out) k_ hk));(case aO => exact (by (with_reducible repeat (first|apply zA|apply zN|apply zD));exact HO_3.out));(case aS => exact (below_size (by repeat (first|(with_reducible first|exact HB.out|apply below_alloc|apply pw_below_drewN|apply below_drew1|refine below_set ?_ GE225.out)|exact HB.out))));(case aL => have:=LMc37.out;omega);intro v229 w51 ho hb hg hat;rw [← Ny228.out] at ho;have n0_:=Aside0.mk (Kd.R_over' (by (with_reducible repeat (first|apply zA|apply zN|apply zD));exact HO_4.out) (Kd.R_typed (by (with_reducible repeat (first|apply zA|apply zN|apply zD));exact HO_3.out)) (by decide) hg);have n1_:=Aside0.mk (blk_grown (g:=gb225) (o:=.cells #[.string ((rd_T41 (rd_L5 l0 x5_2) (rd x4_1 x5_2)).f0.f0),.int .u64 ((rd_T41 (rd_L5 l0 x5_2) (rd x4_1 x5_2)).f0.f1),.int .u8 ((rd_T41 (rd_L5 l0 x5_2) (rd x4_1 x5_2)).f0.f2),.string ((rd_T41 (rd_L5 l0 x5_2) (rd x4_1 x5_2)).f1)] 41 (0,0)) (by (with_reducible repeat (first|refine bN ?_ _|refine bD ?_|refine bA ?_ _));exact BK225.out) hg (Kd.R_away HO_3.out (fun _ hk => hk)));have n2_:=Aside0.mk (hb);have n3_:=Aside0.mk (ho);clear HO_4;clear BK225;clear HB;clear HO_3;have HO_4:=n0_;have BK225:=n1_;have HB:=n2_;have HO230:=n3_;clear n0_ n1_ n2_ n3_;clear ho hb hg hat))
        go_roundg k2
        case measure => have:=HK1.out;have:=HK2.out;omega
        case rel => exact ⟨(y228),(y227),H',⟨by have:=HK1.out;have:=HK2.out;omega⟩,⟨by (with_reducible repeat (first|apply zA|apply zN|apply zD));exact Kd.R_mono HO230.out (fun _ hk => trivial)⟩,⟨by (with_reducible repeat (first|apply zA|apply zN|apply zD));exact HO_4.out⟩,⟨by repeat (first|(with_reducible first|exact HB.out|apply below_alloc|apply pw_below_drewN|apply below_drew1|refine below_set ?_ GE225.out)|exact HB.out)⟩⟩
       ·rw [if_neg c36] at H
        have c36b0 : ((x3_1.length : Int) == 0) = false:=beq_eq_false_iff_ne.mpr c36
        have c36b1 : ((x3_1.length : Int) != 0) = true:=bne_iff_ne.mpr c36
        have c36b2 : ¬ (x3_1 = []):=fun h_ => c36 (by rw [h_];rfl)
        obtain ⟨ji52,hji52⟩ : ∃ j_ : Int,(wrap64 ((x3_1.length : Int) - 1)) = j_:=⟨_,rfl⟩
        replace H : (if 0 ≤ (ji52) then (if (ji52) < (x3_1.length : Int) then (if (!((((rd_T41 x3_1 (ji52)).f0.f0).toList) == (((rd_T41 (rd_L5 l0 x5_2) (rd x4_1 x5_2)).f0.f0).toList)) || (!(((rd_T41 x3_1 (ji52)).f0.f1) == ((rd_T41 (rd_L5 l0 x5_2) (rd x4_1 x5_2)).f0.f1)) || (!(((rd_T41 x3_1 (ji52)).f0.f2) == ((rd_T41 (rd_L5 l0 x5_2) (rd x4_1 x5_2)).f0.f2))))) = true then (if x3_1.length < 2932031007402 then (ratlineref11_All.l0 k2 l0 (x3_1 ++ [(⟨(⟨(rd_T41 (rd_L5 l0 x5_2) (rd x4_1 x5_2)).f0.f0,(rd_T41 (rd_L5 l0 x5_2) (rd x4_1 x5_2)).f0.f1,(rd_T41 (rd_L5 l0 x5_2) (rd x4_1 x5_2)).f0.f2⟩ : S39),(rd_T41 (rd_L5 l0 x5_2) (rd x4_1 x5_2)).f1⟩ : S41)]) y227) else (none)) else (ratlineref11_All.l0 k2 l0 x3_1 y227)) else (none)) else (none)) = some r:=by first|(rw [hji52] at H;exact H)|(simp only [hji52] at H ⊢;exact H)
        have hji52w : (IntKind.i64.wrap ((x3_1.length : Int) - 1)) = ji52:=(i64_w _).trans hji52
        by_cases c53 : 0 ≤ (ji52)
        rotate_left
        ·rw [if_neg c53] at H
         exact absurd H (by simp)
        rw [if_pos c53] at H
        have c53b0 : decide (0 ≤ (ji52)) = true:=decide_eq_true c53
        clear c53
        by_cases c54 : (ji52) < (x3_1.length : Int)
        rotate_left
        ·rw [if_neg c54] at H
         exact absurd H (by simp)
        rw [if_pos c54] at H
        have c54b0 : decide ((ji52) < (x3_1.length : Int)) = true:=decide_eq_true c54
        clear c54
        by_cases c55 : (!((((rd_T41 x3_1 (ji52)).f0.f0).toList) == (((rd_T41 (rd_L5 l0 x5_2) (rd x4_1 x5_2)).f0.f0).toList)) || (!(((rd_T41 x3_1 (ji52)).f0.f1) == ((rd_T41 (rd_L5 l0 x5_2) (rd x4_1 x5_2)).f0.f1)) || (!(((rd_T41 x3_1 (ji52)).f0.f2) == ((rd_T41 (rd_L5 l0 x5_2) (rd x4_1 x5_2)).f0.f2))))) = true
        ·rw [if_pos c55] at H
         have c55b0 : (!((((rd_T41 x3_1 (ji52)).f0.f0).toList) == (((rd_T41 (rd_L5 l0 x5_2) (rd x4_1 x5_2)).f0.f0).toList)) || (!(((rd_T41 x3_1 (ji52)).f0.f1) == ((rd_T41 (rd_L5 l0 x5_2) (rd x4_1 x5_2)).f0.f1)) || (!(((rd_T41 x3_1 (ji52)).f0.f2) == ((rd_T41 (rd_L5 l0 x5_2) (rd x4_1 x5_2)).f0.f2))))) = true:=c55
         clear c55
         by_cases c56 : x3_1.length < 2932031007402
         rotate_left
         ·rw [if_neg c56] at H
          exact absurd H (by simp)
         rw [if_pos c56] at H
         have LMc56:=Aside0.mk c56
         clear c56
         obtain ⟨y232,hy232⟩ : ∃ y_ : List (S41),y_ = (x3_1 ++ [(⟨(⟨(rd_T41 (rd_L5 l0 x5_2) (rd x4_1 x5_2)).f0.f0,(rd_T41 (rd_L5 l0 x5_2) (rd x4_1 x5_2)).f0.f1,(rd_T41 (rd_L5 l0 x5_2) (rd x4_1 x5_2)).f0.f2⟩ : S39),(rd_T41 (rd_L5 l0 x5_2) (rd x4_1 x5_2)).f1⟩ : S41)]):=⟨_,rfl⟩
         replace H : (ratlineref11_All.l0 k2 l0 y232 y227) = some r:=by first|(rw [hy232];with_reducible exact H)|(have H2_:=(Option.bind_some _ _).symm.trans H;rw [hy232];with_reducible exact H2_)|(have H2_:=(Option.bind_some _ _).symm.trans H;with_reducible exact H2_)|with_reducible exact H|(rw [hy232];exact H)|exact H
         have Ny232:=Aside0.mk hy232
         clear hy232
         have H':=Aside0.mk H
         clear H
         try go_wp2
         have n0_:=Aside0.mk (Kd.R_drew HO_3.out)
         have n1_:=Aside0.mk (Kd.R_drew HO_4.out)
         have n2_:=Aside0.mk (below_drew1 HB.out)
         clear HO_3
         clear HO_4
         clear HB
         have HO_3:=n0_
         have HO_4:=n1_
         have HB:=n2_
         clear n0_ n1_ n2_
         have p222 : 0 ≤ (x5_2 : Int):=of_decide_eq_true (by first|(with_reducible assumption)|assumption)
         have q222 : x5_2 < (l0.length : Int):=of_decide_eq_true (by first|(with_reducible assumption)|assumption)
         obtain ⟨ad222,A222_0,c222_0,e222,hx222_0,hl222_0,hi222_0⟩:=at_L5 HR0.out x5_2 p222 q222
         have hw222_0:=hx222_0
         cases e222
         replace hx222_0:=(HB.out.cell (World.block_lt_of_cell? w _ hx222_0)).trans hx222_0
         have HR222_0:=Aside0.mk hi222_0
         have HC222_0:=Aside0.mk hl222_0
         clear hi222_0 hl222_0
         replace p222:=eq_true p222
         replace q222:=eq_true q222
         obtain ⟨Ao58,co58,eo58⟩:=Kd.R_slice HO_4.out
         (first|subst eo58|(injection eo58 with f1_ f2_ f3_;have f4_:=f1_.symm;have f5_:=f3_.symm;clear f1_ f2_ f3_;subst f4_;subst f5_))
         have p223 : 0 ≤ (x5_2 : Int):=of_decide_eq_true (by first|(with_reducible assumption)|assumption)
         have q223 : x5_2 < (x4_1.length : Int):=of_decide_eq_true (by first|(with_reducible assumption)|assumption)
         obtain ⟨ad223,e223,hx223_0⟩:=Kd.at_int (Kd.R_reads' HO_4.out).2.2 x5_2 p223 q223
         cases e223
         replace p223:=eq_true p223
         replace q223:=eq_true q223
         have p224 : 0 ≤ ((rd x4_1 x5_2) : Int):=of_decide_eq_true (by first|(with_reducible assumption)|assumption)
         have q224 : (rd x4_1 x5_2) < ((rd_L5 l0 x5_2).length : Int):=of_decide_eq_true (by first|(with_reducible assumption)|assumption)
         obtain ⟨ad224,e224,hx224_0,hx224_1,hx224_2,hx224_3⟩:=at_T41 HR222_0.out (rd x4_1 x5_2) p224 q224
         have hw224_3:=hx224_3
         have hw224_2:=hx224_2
         have hw224_1:=hx224_1
         have hw224_0:=hx224_0
         cases e224
         replace hx224_0:=(HB.out.cell (World.block_lt_of_cell? w _ hx224_0)).trans hx224_0
         replace hx224_1:=(HB.out.cell (World.block_lt_of_cell? w _ hx224_1)).trans hx224_1
         replace hx224_2:=(HB.out.cell (World.block_lt_of_cell? w _ hx224_2)).trans hx224_2
         replace hx224_3:=(HB.out.cell (World.block_lt_of_cell? w _ hx224_3)).trans hx224_3
         replace p224:=eq_true p224
         replace q224:=eq_true q224
         refine start_ (n:=12) (S:=fun w' => w'.cell? (ad222.add (x5_2).toNat) = some (.slice (some ad224) (rd_L5 l0 x5_2).length c222_0) ∧ w'.cell? (ad223.add (x5_2).toNat) = some (.int .i64 (rd x4_1 x5_2)) ∧ w'.cell? (ad224.add (((rd x4_1 x5_2)).toNat * 4)) = some (.string ((rd_T41 (rd_L5 l0 x5_2) (rd x4_1 x5_2)).f0.f0)) ∧ w'.cell? ⟨(ad224.add (((rd x4_1 x5_2)).toNat * 4)).block,(ad224.add (((rd x4_1 x5_2)).toNat * 4)).off + 1,none⟩ = some (.int .u64 ((rd_T41 (rd_L5 l0 x5_2) (rd x4_1 x5_2)).f0.f1)) ∧ w'.cell? ⟨(ad224.add (((rd x4_1 x5_2)).toNat * 4)).block,(ad224.add (((rd x4_1 x5_2)).toNat * 4)).off + 2,none⟩ = some (.int .u8 ((rd_T41 (rd_L5 l0 x5_2) (rd x4_1 x5_2)).f0.f2)) ∧ w'.cell? ⟨(ad224.add (((rd x4_1 x5_2)).toNat * 4)).block,(ad224.add (((rd x4_1 x5_2)).toNat * 4)).off + 3,none⟩ = some (.string ((rd_T41 (rd_L5 l0 x5_2) (rd x4_1 x5_2)).f1))) (ds:=[]) #[ff,ff,ff,ff,ff,ff,ff,ff,ff,ff,ff,ff] (by kernel_rfl) rfl rfl ⟨((HB.out.cell (World.block_lt_of_cell? w _ hw222_0)).trans hw222_0),hx223_0,((HB.out.cell (World.block_lt_of_cell? w _ hw224_0)).trans hw224_0),((HB.out.cell (World.block_lt_of_cell? w _ hw224_1)).trans hw224_1),((HB.out.cell (World.block_lt_of_cell? w _ hw224_2)).trans hw224_2),((HB.out.cell (World.block_lt_of_cell? w _ hw224_3)).trans hw224_3)⟩ (fun hHeld => ?_);refine with_tabW ratlineref11_All.tab11 ratlineref11_All.bits11 (fun HT_ HW_ => ?_)
         generalize wr.drew = w57 at HO_3 HO_4 HB HR222_0 hx222_0 hx223_0 hx224_0 hx224_1 hx224_2 hx224_3 hHeld ⊢
         refine pure_ (i:=0) (N:=some 61) (v:=?_) (a':=?_) #[tt,ff,ff,ff,ff,ff,ff,ff,ff,ff,ff,ff] rfl rfl (any_of HT_.out (by kernel_rfl)) (fun _ _ _ h => h) (Or.inl ⟨by rfl,?_⟩) ?_ ?_
         rotate_left
         ·intro w'
          go_simp
          with_reducible rfl
         rotate_left
         ·simp only [Act.put,sA,sZ,sS,i64_w,i32_w]
          rfl
         refine pure_ (i:=1) (N:=some 62) (v:=?_) (a':=?_) #[tt,tt,ff,ff,ff,ff,ff,ff,ff,ff,ff,ff] rfl rfl (any_of HT_.out (by kernel_rfl)) (fun _ _ _ h => h) (Or.inl ⟨by rfl,?_⟩) ?_ ?_
         rotate_left
         ·intro w'
          go_simp
          with_reducible rfl
         rotate_left
         ·simp only [Act.put,sA,sZ,sS,i64_w,i32_w]
          rfl
         refine pure_ (i:=2) (N:=some 63) (v:=?_) (a':=?_) #[tt,tt,tt,ff,ff,ff,ff,ff,ff,ff,ff,ff] rfl rfl (any_of HT_.out (by kernel_rfl)) (fun _ _ _ h => h) (Or.inl ⟨by rfl,?_⟩) ?_ ?_
         rotate_left
         ·intro w'
          go_simp
          with_reducible rfl
         rotate_left
         ·simp only [Act.put,sA,sZ,sS,i64_w,i32_w]
          rfl
         refine pure_ (i:=4) (N:=some 65) (v:=?_) (a':=?_) #[tt,tt,tt,ff,tt,ff,ff,ff,ff,ff,ff,ff] rfl rfl (any_of HT_.out (by kernel_rfl)) (fun _ _ _ h => h) (Or.inl ⟨by rfl,?_⟩) ?_ ?_
         rotate_left
         ·intro w'
          go_simp
          with_reducible rfl
         rotate_left
         ·simp only [Act.put,sA,sZ,sS,i64_w,i32_w]
          rfl
         refine pure_ (i:=5) (N:=some 66) (v:=?_) (a':=?_) #[tt,tt,tt,ff,tt,tt,ff,ff,ff,ff,ff,ff] rfl rfl (any_of HT_.out (by kernel_rfl)) (fun _ _ _ h => h) (Or.inl ⟨by rfl,?_⟩) ?_ ?_
         rotate_left
         ·intro w'
          go_simp
          with_reducible rfl
         rotate_left
         ·simp only [Act.put,sA,sZ,sS,i64_w,i32_w]
          rfl
         refine pure_ (i:=6) (N:=some 67) (v:=?_) (a':=?_) #[tt,tt,tt,ff,tt,tt,tt,ff,ff,ff,ff,ff] rfl rfl (any_of HT_.out (by kernel_rfl)) (fun _ _ _ h => h) (Or.inl ⟨by rfl,?_⟩) ?_ ?_
         rotate_left
         ·intro w'
          go_simp
          with_reducible rfl
         rotate_left
         ·simp only [Act.put,sA,sZ,sS,i64_w,i32_w]
          rfl
         refine take_ (i:=3) (N:=some 64) (v:=?_) (a':=?_) #[tt,tt,tt,tt,tt,tt,tt,ff,ff,ff,ff,ff] rfl rfl (take_ofW HT_.out HW_.out (by kernel_rfl)) (fun _ _ _ h => h) (Or.inl ⟨by rfl,?_⟩) hHeld ?_ ?_
         rotate_left
         ·rintro w' ⟨s0,s1,s2,s3,s4,s5⟩
          go_simp
          with_reducible rfl
         rotate_left
         ·simp only [Act.put,sA,sZ,sS,i64_w,i32_w]
          rfl
         refine take_ (i:=7) (N:=some 68) (v:=?_) (a':=?_) #[tt,tt,tt,tt,tt,tt,tt,tt,ff,ff,ff,ff] rfl rfl (take_ofW HT_.out HW_.out (by kernel_rfl)) (fun _ _ _ h => h) (Or.inl ⟨by rfl,?_⟩) hHeld ?_ ?_
         rotate_left
         ·rintro w' ⟨s0,s1,s2,s3,s4,s5⟩
          go_simp
          with_reducible rfl
         rotate_left
         ·simp only [Act.put,sA,sZ,sS,i64_w,i32_w]
          rfl
         refine pure_ (i:=8) (N:=some 69) (v:=?_) (a':=?_) #[tt,tt,tt,tt,tt,tt,tt,tt,tt,ff,ff,ff] rfl rfl (any_of HT_.out (by kernel_rfl)) (fun _ _ _ h => h) (Or.inl ⟨by rfl,?_⟩) ?_ ?_
         rotate_left
         ·intro w'
          go_simp
          with_reducible rfl
         rotate_left
         ·simp only [Act.put,sA,sZ,sS,i64_w,i32_w]
          rfl
         refine take_ (i:=9) (N:=some 70) (v:=?_) (a':=?_) #[tt,tt,tt,tt,tt,tt,tt,tt,tt,tt,ff,ff] rfl rfl (take_ofW HT_.out HW_.out (by kernel_rfl)) (fun _ _ _ h => h) (Or.inl ⟨by rfl,?_⟩) hHeld ?_ ?_
         rotate_left
         ·rintro w' ⟨s0,s1,s2,s3,s4,s5⟩
          go_simp
          with_reducible rfl
         rotate_left
         ·simp only [Act.put,sA,sZ,sS,i64_w,i32_w]
          rfl
         refine one_ (i:=10) (N:=some 7) #[tt,tt,tt,tt,tt,tt,tt,tt,tt,tt,tt,ff] rfl rfl (one_of HT_.out (by kernel_rfl)) (by decide) (fun K hK => ?_)
         refine box_step ?hg (N:=7) ?hd (cs:=#[.string (⟨#[]⟩ : BA),.int .u64 0,.int .u8 0,.string (⟨#[]⟩ : BA)]) (t:=41) ?hr ?_;(case hd => rfl);(case hg => rfl);(case hr => first|(go_simp;done)|(go_simp;rfl))
         intro gb225 hg w59 hbox hb
         have HS1_:=bC hb hHeld.2.1
         have n0_:=Aside0.mk (Kd.R_below (Kd.R_elderB (by (with_reducible repeat (first|apply zA|apply zN|apply zD));exact HO_3.out) gb225 (Nat.le_of_eq hg.symm)) hb)
         have n1_:=Aside0.mk (Kd.R_below (by (with_reducible repeat (first|apply zA|apply zN|apply zD));exact HO_4.out) hb)
         have n2_:=Aside0.mk (below_step (by repeat (first|(with_reducible first|exact HB.out|apply below_alloc|apply pw_below_drewN|apply below_drew1)|exact HB.out)) hb)
         have n3_:=Aside0.mk (hbox)
         have n4_:=Aside0.mk ((by rw [hg];exact (below_size (by repeat (first|(with_reducible first|exact HB.out|apply below_alloc|apply pw_below_drewN|apply below_drew1)|exact HB.out))) : w.heap.size ≤ gb225))
         have n5_:=Aside0.mk ((by rw [hg];exact (below_size (by repeat (first|(with_reducible first|exact HB.out|apply below_alloc|apply pw_below_drewN|apply below_drew1)|exact HB.out))) : w.heap.size ≤ gb225))
         clear HO_3
         clear HO_4
         clear HB
         have HO_3:=n0_
         have HO_4:=n1_
         have HB:=n2_
         have BK225:=n3_
         have GW225:=n4_
         have GE225:=n5_
         clear n0_ n1_ n2_ n3_ n4_ n5_
         clear hb hbox hg
         refine hK.out _ _ ⟨((HB.out.cell (World.block_lt_of_cell? w _ hw222_0)).trans hw222_0),HS1_,((HB.out.cell (World.block_lt_of_cell? w _ hw224_0)).trans hw224_0),((HB.out.cell (World.block_lt_of_cell? w _ hw224_1)).trans hw224_1),((HB.out.cell (World.block_lt_of_cell? w _ hw224_2)).trans hw224_2),((HB.out.cell (World.block_lt_of_cell? w _ hw224_3)).trans hw224_3)⟩ (fun hHeld => ?_)
         clear hK K
         refine norm_ (a':=?_) ?_ ?_
         rotate_left
         ·show Act.put _ (some 7) _ = _
          simp only [Act.put,sA,sZ,sS,i64_w,i32_w]
          rfl
         refine one_ (i:=11) (N:=none) #[tt,tt,tt,tt,tt,tt,tt,tt,tt,tt,tt,tt] rfl rfl (one_of HT_.out (by kernel_rfl)) (by decide) (fun K hK => ?_)
         have hs60 : w59.cell? ⟨gb225,0,none⟩ = some (.string (⟨#[]⟩ : BA)):=(blk_cell BK225.out 0).trans rfl
         have hfs60:=blk_frozen BK225.out 0
         have hs61 : w59.cell? ⟨gb225,1,none⟩ = some (.int .u64 0):=(blk_cell BK225.out 1).trans rfl
         have hfs61:=blk_frozen BK225.out 1
         have hs62 : w59.cell? ⟨gb225,2,none⟩ = some (.int .u8 0):=(blk_cell BK225.out 2).trans rfl
         have hfs62:=blk_frozen BK225.out 2
         have hs63 : w59.cell? ⟨gb225,3,none⟩ = some (.string (⟨#[]⟩ : BA)):=(blk_cell BK225.out 3).trans rfl
         have hfs63:=blk_frozen BK225.out 3
         refine skip_ (w1:=?_) (by rfl) rfl ?_ ?_
         rotate_left
         ·go_simp
          rfl
         refine hK.out _ _ ⟨((cell_far (p:=⟨gb225,_,none⟩) (by first|exact Nat.ne_of_lt (Nat.lt_of_lt_of_le (by have:=World.block_lt_of_cell? _ _ hw222_0;first|rwa [add_block] at this|exact this) GW225.out)|(rw [add_block];exact Nat.ne_of_lt (Nat.lt_of_lt_of_le (by have:=World.block_lt_of_cell? _ _ hw222_0;first|rwa [add_block] at this|exact this) GW225.out))|(show (Addr.add _ _).block ≠ _;rw [add_block];exact Nat.ne_of_lt (Nat.lt_of_lt_of_le (by have:=World.block_lt_of_cell? _ _ hw222_0;first|rwa [add_block] at this|exact this) GW225.out))|(dsimp only;exact Nat.ne_of_lt (Nat.lt_of_lt_of_le (by have:=World.block_lt_of_cell? _ _ hw222_0;first|rwa [add_block] at this|exact this) GW225.out))) _).trans (((cell_far (p:=⟨gb225,_,none⟩) (by first|exact Nat.ne_of_lt (Nat.lt_of_lt_of_le (by have:=World.block_lt_of_cell? _ _ hw222_0;first|rwa [add_block] at this|exact this) GW225.out)|(rw [add_block];exact Nat.ne_of_lt (Nat.lt_of_lt_of_le (by have:=World.block_lt_of_cell? _ _ hw222_0;first|rwa [add_block] at this|exact this) GW225.out))|(show (Addr.add _ _).block ≠ _;rw [add_block];exact Nat.ne_of_lt (Nat.lt_of_lt_of_le (by have:=World.block_lt_of_cell? _ _ hw222_0;first|rwa [add_block] at this|exact this) GW225.out))|(dsimp only;exact Nat.ne_of_lt (Nat.lt_of_lt_of_le (by have:=World.block_lt_of_cell? _ _ hw222_0;first|rwa [add_block] at this|exact this) GW225.out))) _).trans (((cell_far (p:=⟨gb225,_,none⟩) (by first|exact Nat.ne_of_lt (Nat.lt_of_lt_of_le (by have:=World.block_lt_of_cell? _ _ hw222_0;first|rwa [add_block] at this|exact this) GW225.out)|(rw [add_block];exact Nat.ne_of_lt (Nat.lt_of_lt_of_le (by have:=World.block_lt_of_cell? _ _ hw222_0;first|rwa [add_block] at this|exact this) GW225.out))|(show (Addr.add _ _).block ≠ _;rw [add_block];exact Nat.ne_of_lt (Nat.lt_of_lt_of_le (by have:=World.block_lt_of_cell? _ _ hw222_0;first|rwa [add_block] at this|exact this) GW225.out))|(dsimp only;exact Nat.ne_of_lt (Nat.lt_of_lt_of_le (by have:=World.block_lt_of_cell? _ _ hw222_0;first|rwa [add_block] at this|exact this) GW225.out))) _).trans (((cell_far (p:=⟨gb225,_,none⟩) (by first|exact Nat.ne_of_lt (Nat.lt_of_lt_of_le (by have:=World.block_lt_of_cell? _ _ hw222_0;first|rwa [add_block] at this|exact this) GW225.out)|(rw [add_block];exact Nat.ne_of_lt (Nat.lt_of_lt_of_le (by have:=World.block_lt_of_cell? _ _ hw222_0;first|rwa [add_block] at this|exact this) GW225.out))|(show (Addr.add _ _).block ≠ _;rw [add_block];exact Nat.ne_of_lt (Nat.lt_of_lt_of_le (by have:=World.block_lt_of_cell? _ _ hw222_0;first|rwa [add_block] at this|exact this) GW225.out))|(dsimp only;exact Nat.ne_of_lt (Nat.lt_of_lt_of_le (by have:=World.block_lt_of_cell? _ _ hw222_0;first|rwa [add_block] at this|exact this) GW225.out))) _).trans (hHeld.1)))))))),((cell_far (p:=⟨gb225,_,none⟩) (by first|exact Kd.own_blk (Kd.R_ne HO_4.out BK225.out (by decide))|(rw [add_block];exact Kd.own_blk (Kd.R_ne HO_4.out BK225.out (by decide)))|(show (Addr.add _ _).block ≠ _;rw [add_block];exact Kd.own_blk (Kd.R_ne HO_4.out BK225.out (by decide)))|(dsimp only;exact Kd.own_blk (Kd.R_ne HO_4.out BK225.out (by decide)))) _).trans (((cell_far (p:=⟨gb225,_,none⟩) (by first|exact Kd.own_blk (Kd.R_ne HO_4.out BK225.out (by decide))|(rw [add_block];exact Kd.own_blk (Kd.R_ne HO_4.out BK225.out (by decide)))|(show (Addr.add _ _).block ≠ _;rw [add_block];exact Kd.own_blk (Kd.R_ne HO_4.out BK225.out (by decide)))|(dsimp only;exact Kd.own_blk (Kd.R_ne HO_4.out BK225.out (by decide)))) _).trans (((cell_far (p:=⟨gb225,_,none⟩) (by first|exact Kd.own_blk (Kd.R_ne HO_4.out BK225.out (by decide))|(rw [add_block];exact Kd.own_blk (Kd.R_ne HO_4.out BK225.out (by decide)))|(show (Addr.add _ _).block ≠ _;rw [add_block];exact Kd.own_blk (Kd.R_ne HO_4.out BK225.out (by decide)))|(dsimp only;exact Kd.own_blk (Kd.R_ne HO_4.out BK225.out (by decide)))) _).trans (((cell_far (p:=⟨gb225,_,none⟩) (by first|exact Kd.own_blk (Kd.R_ne HO_4.out BK225.out (by decide))|(rw [add_block];exact Kd.own_blk (Kd.R_ne HO_4.out BK225.out (by decide)))|(show (Addr.add _ _).block ≠ _;rw [add_block];exact Kd.own_blk (Kd.R_ne HO_4.out BK225.out (by decide)))|(dsimp only;exact Kd.own_blk (Kd.R_ne HO_4.out BK225.out (by decide)))) _).trans (hHeld.2.1)))))))),((cell_far (p:=⟨gb225,_,none⟩) (by first|exact Nat.ne_of_lt (Nat.lt_of_lt_of_le (by have:=World.block_lt_of_cell? _ _ hw224_0;first|rwa [add_block] at this|exact this) GW225.out)|(rw [add_block];exact Nat.ne_of_lt (Nat.lt_of_lt_of_le (by have:=World.block_lt_of_cell? _ _ hw224_0;first|rwa [add_block] at this|exact this) GW225.out))|(show (Addr.add _ _).block ≠ _;rw [add_block];exact Nat.ne_of_lt (Nat.lt_of_lt_of_le (by have:=World.block_lt_of_cell? _ _ hw224_0;first|rwa [add_block] at this|exact this) GW225.out))|(dsimp only;exact Nat.ne_of_lt (Nat.lt_of_lt_of_le (by have:=World.block_lt_of_cell? _ _ hw224_0;first|rwa [add_block] at this|exact this) GW225.out))) _).trans (((cell_far (p:=⟨gb225,_,none⟩) (by first|exact Nat.ne_of_lt (Nat.lt_of_lt_of_le (by have:=World.block_lt_of_cell? _ _ hw224_0;first|rwa [add_block] at this|exact this) GW225.out)|(rw [add_block];exact Nat.ne_of_lt (Nat.lt_of_lt_of_le (by have:=World.block_lt_of_cell? _ _ hw224_0;first|rwa [add_block] at this|exact this) GW225.out))|(show (Addr.add _ _).block ≠ _;rw [add_block];exact Nat.ne_of_lt (Nat.lt_of_lt_of_le (by have:=World.block_lt_of_cell? _ _ hw224_0;first|rwa [add_block] at this|exact this) GW225.out))|(dsimp only;exact Nat.ne_of_lt (Nat.lt_of_lt_of_le (by have:=World.block_lt_of_cell? _ _ hw224_0;first|rwa [add_block] at this|exact this) GW225.out))) _).trans (((cell_far (p:=⟨gb225,_,none⟩) (by first|exact Nat.ne_of_lt (Nat.lt_of_lt_of_le (by have:=World.block_lt_of_cell? _ _ hw224_0;first|rwa [add_block] at this|exact this) GW225.out)|(rw [add_block];exact Nat.ne_of_lt (Nat.lt_of_lt_of_le (by have:=World.block_lt_of_cell? _ _ hw224_0;first|rwa [add_block] at this|exact this) GW225.out))|(show (Addr.add _ _).block ≠ _;rw [add_block];exact Nat.ne_of_lt (Nat.lt_of_lt_of_le (by have:=World.block_lt_of_cell? _ _ hw224_0;first|rwa [add_block] at this|exact this) GW225.out))|(dsimp only;exact Nat.ne_of_lt (Nat.lt_of_lt_of_le (by have:=World.block_lt_of_cell? _ _ hw224_0;first|rwa [add_block] at this|exact this) GW225.out))) _).trans (((cell_far (p:=⟨gb225,_,none⟩) (by first|exact Nat.ne_of_lt (Nat.lt_of_lt_of_le (by have:=World.block_lt_of_cell? _ _ hw224_0;first|rwa [add_block] at this|exact this) GW225.out)|(rw [add_block];exact Nat.ne_of_lt (Nat.lt_of_lt_of_le (by have:=World.block_lt_of_cell? _ _ hw224_0;first|rwa [add_block] at this|exact this) GW225.out))|(show (Addr.add _ _).block ≠ _;rw [add_block];exact Nat.ne_of_lt (Nat.lt_of_lt_of_le (by have:=World.block_lt_of_cell? _ _ hw224_0;first|rwa [add_block] at this|exact this) GW225.out))|(dsimp only;exact Nat.ne_of_lt (Nat.lt_of_lt_of_le (by have:=World.block_lt_of_cell? _ _ hw224_0;first|rwa [add_block] at this|exact this) GW225.out))) _).trans (hHeld.2.2.1)))))))),((cell_far (p:=⟨gb225,_,none⟩) (by first|exact Nat.ne_of_lt (Nat.lt_of_lt_of_le (by have:=World.block_lt_of_cell? _ _ hw224_1;first|rwa [add_block] at this|exact this) GW225.out)|(rw [add_block];exact Nat.ne_of_lt (Nat.lt_of_lt_of_le (by have:=World.block_lt_of_cell? _ _ hw224_1;first|rwa [add_block] at this|exact this) GW225.out))|(show (Addr.add _ _).block ≠ _;rw [add_block];exact Nat.ne_of_lt (Nat.lt_of_lt_of_le (by have:=World.block_lt_of_cell? _ _ hw224_1;first|rwa [add_block] at this|exact this) GW225.out))|(dsimp only;exact Nat.ne_of_lt (Nat.lt_of_lt_of_le (by have:=World.block_lt_of_cell? _ _ hw224_1;first|rwa [add_block] at this|exact this) GW225.out))) _).trans (((cell_far (p:=⟨gb225,_,none⟩) (by first|exact Nat.ne_of_lt (Nat.lt_of_lt_of_le (by have:=World.block_lt_of_cell? _ _ hw224_1;first|rwa [add_block] at this|exact this) GW225.out)|(rw [add_block];exact Nat.ne_of_lt (Nat.lt_of_lt_of_le (by have:=World.block_lt_of_cell? _ _ hw224_1;first|rwa [add_block] at this|exact this) GW225.out))|(show (Addr.add _ _).block ≠ _;rw [add_block];exact Nat.ne_of_lt (Nat.lt_of_lt_of_le (by have:=World.block_lt_of_cell? _ _ hw224_1;first|rwa [add_block] at this|exact this) GW225.out))|(dsimp only;exact Nat.ne_of_lt (Nat.lt_of_lt_of_le (by have:=World.block_lt_of_cell? _ _ hw224_1;first|rwa [add_block] at this|exact this) GW225.out))) _).trans (((cell_far (p:=⟨gb225,_,none⟩) (by first|exact Nat.ne_of_lt (Nat.lt_of_lt_of_le (by have:=World.block_lt_of_cell? _ _ hw224_1;first|rwa [add_block] at this|exact this) GW225.out)|(rw [add_block];exact Nat.ne_of_lt (Nat.lt_of_lt_of_le (by have:=World.block_lt_of_cell? _ _ hw224_1;first|rwa [add_block] at this|exact this) GW225.out))|(show (Addr.add _ _).block ≠ _;rw [add_block];exact Nat.ne_of_lt (Nat.lt_of_lt_of_le (by have:=World.block_lt_of_cell? _ _ hw224_1;first|rwa [add_block] at this|exact this) GW225.out))|(dsimp only;exact Nat.ne_of_lt (Nat.lt_of_lt_of_le (by have:=World.block_lt_of_cell? _ _ hw224_1;first|rwa [add_block] at this|exact this) GW225.out))) _).trans (((cell_far (p:=⟨gb225,_,none⟩) (by first|exact Nat.ne_of_lt (Nat.lt_of_lt_of_le (by have:=World.block_lt_of_cell? _ _ hw224_1;first|rwa [add_block] at this|exact this) GW225.out)|(rw [add_block];exact Nat.ne_of_lt (Nat.lt_of_lt_of_le (by have:=World.block_lt_of_cell? _ _ hw224_1;first|rwa [add_block] at this|exact this) GW225.out))|(show (Addr.add _ _).block ≠ _;rw [add_block];exact Nat.ne_of_lt (Nat.lt_of_lt_of_le (by have:=World.block_lt_of_cell? _ _ hw224_1;first|rwa [add_block] at this|exact this) GW225.out))|(dsimp only;exact Nat.ne_of_lt (Nat.lt_of_lt_of_le (by have:=World.block_lt_of_cell? _ _ hw224_1;first|rwa [add_block] at this|exact this) GW225.out))) _).trans (hHeld.2.2.2.1)))))))),((cell_far (p:=⟨gb225,_,none⟩) (by first|exact Nat.ne_of_lt (Nat.lt_of_lt_of_le (by have:=World.block_lt_of_cell? _ _ hw224_2;first|rwa [add_block] at this|exact this) GW225.out)|(rw [add_block];exact Nat.ne_of_lt (Nat.lt_of_lt_of_le (by have:=World.block_lt_of_cell? _ _ hw224_2;first|rwa [add_block] at this|exact this) GW225.out))|(show (Addr.add _ _).block ≠ _;rw [add_block];exact Nat.ne_of_lt (Nat.lt_of_lt_of_le (by have:=World.block_lt_of_cell? _ _ hw224_2;first|rwa [add_block] at this|exact this) GW225.out))|(dsimp only;exact Nat.ne_of_lt (Nat.lt_of_lt_of_le (by have:=World.block_lt_of_cell? _ _ hw224_2;first|rwa [add_block] at this|exact this) GW225.out))) _).trans (((cell_far (p:=⟨gb225,_,none⟩) (by first|exact Nat.ne_of_lt (Nat.lt_of_lt_of_le (by have:=World.block_lt_of_cell? _ _ hw224_2;first|rwa [add_block] at this|exact this) GW225.out)|(rw [add_block];exact Nat.ne_of_lt (Nat.lt_of_lt_of_le (by have:=World.block_lt_of_cell? _ _ hw224_2;first|rwa [add_block] at this|exact this) GW225.out))|(show (Addr.add _ _).block ≠ _;rw [add_block];exact Nat.ne_of_lt (Nat.lt_of_lt_of_le (by have:=World.block_lt_of_cell? _ _ hw224_2;first|rwa [add_block] at this|exact this) GW225.out))|(dsimp only;exact Nat.ne_of_lt (Nat.lt_of_lt_of_le (by have:=World.block_lt_of_cell? _ _ hw224_2;first|rwa [add_block] at this|exact this) GW225.out))) _).trans (((cell_far (p:=⟨gb225,_,none⟩) (by first|exact Nat.ne_of_lt (Nat.lt_of_lt_of_le (by have:=World.block_lt_of_cell? _ _ hw224_2;first|rwa [add_block] at this|exact this) GW225.out)|(rw [add_block];exact Nat.ne_of_lt (Nat.lt_of_lt_of_le (by have:=World.block_lt_of_cell? _ _ hw224_2;first|rwa [add_block] at this|exact this) GW225.out))|(show (Addr.add _ _).block ≠ _;rw [add_block];exact Nat.ne_of_lt (Nat.lt_of_lt_of_le (by have:=World.block_lt_of_cell? _ _ hw224_2;first|rwa [add_block] at this|exact this) GW225.out))|(dsimp only;exact Nat.ne_of_lt (Nat.lt_of_lt_of_le (by have:=World.block_lt_of_cell? _ _ hw224_2;first|rwa [add_block] at this|exact this) GW225.out))) _).trans (((cell_far (p:=⟨gb225,_,none⟩) (by first|exact Nat.ne_of_lt (Nat.lt_of_lt_of_le (by have:=World.block_lt_of_cell? _ _ hw224_2;first|rwa [add_block] at this|exact this) GW225.out)|(rw [add_block];exact Nat.ne_of_lt (Nat.lt_of_lt_of_le (by have:=World.block_lt_of_cell? _ _ hw224_2;first|rwa [add_block] at this|exact this) GW225.out))|(show (Addr.add _ _).block ≠ _;rw [add_block];exact Nat.ne_of_lt (Nat.lt_of_lt_of_le (by have:=World.block_lt_of_cell? _ _ hw224_2;first|rwa [add_block] at this|exact this) GW225.out))|(dsimp only;exact Nat.ne_of_lt (Nat.lt_of_lt_of_le (by have:=World.block_lt_of_cell? _ _ hw224_2;first|rwa [add_block] at this|exact this) GW225.out))) _).trans (hHeld.2.2.2.2.1)))))))),((cell_far (p:=⟨gb225,_,none⟩) (by first|exact Nat.ne_of_lt (Nat.lt_of_lt_of_le (by have:=World.block_lt_of_cell? _ _ hw224_3;first|rwa [add_block] at this|exact this) GW225.out)|(rw [add_block];exact Nat.ne_of_lt (Nat.lt_of_lt_of_le (by have:=World.block_lt_of_cell? _ _ hw224_3;first|rwa [add_block] at this|exact this) GW225.out))|(show (Addr.add _ _).block ≠ _;rw [add_block];exact Nat.ne_of_lt (Nat.lt_of_lt_of_le (by have:=World.block_lt_of_cell? _ _ hw224_3;first|rwa [add_block] at this|exact this) GW225.out))|(dsimp only;exact Nat.ne_of_lt (Nat.lt_of_lt_of_le (by have:=World.block_lt_of_cell? _ _ hw224_3;first|rwa [add_block] at this|exact this) GW225.out))) _).trans (((cell_far (p:=⟨gb225,_,none⟩) (by first|exact Nat.ne_of_lt (Nat.lt_of_lt_of_le (by have:=World.block_lt_of_cell? _ _ hw224_3;first|rwa [add_block] at this|exact this) GW225.out)|(rw [add_block];exact Nat.ne_of_lt (Nat.lt_of_lt_of_le (by have:=World.block_lt_of_cell? _ _ hw224_3;first|rwa [add_block] at this|exact this) GW225.out))|(show (Addr.add _ _).block ≠ _;rw [add_block];exact Nat.ne_of_lt (Nat.lt_of_lt_of_le (by have:=World.block_lt_of_cell? _ _ hw224_3;first|rwa [add_block] at this|exact this) GW225.out))|(dsimp only;exact Nat.ne_of_lt (Nat.lt_of_lt_of_le (by have:=World.block_lt_of_cell? _ _ hw224_3;first|rwa [add_block] at this|exact this) GW225.out))) _).trans (((cell_far (p:=⟨gb225,_,none⟩) (by first|exact Nat.ne_of_lt (Nat.lt_of_lt_of_le (by have:=World.block_lt_of_cell? _ _ hw224_3;first|rwa [add_block] at this|exact this) GW225.out)|(rw [add_block];exact Nat.ne_of_lt (Nat.lt_of_lt_of_le (by have:=World.block_lt_of_cell? _ _ hw224_3;first|rwa [add_block] at this|exact this) GW225.out))|(show (Addr.add _ _).block ≠ _;rw [add_block];exact Nat.ne_of_lt (Nat.lt_of_lt_of_le (by have:=World.block_lt_of_cell? _ _ hw224_3;first|rwa [add_block] at this|exact this) GW225.out))|(dsimp only;exact Nat.ne_of_lt (Nat.lt_of_lt_of_le (by have:=World.block_lt_of_cell? _ _ hw224_3;first|rwa [add_block] at this|exact this) GW225.out))) _).trans (((cell_far (p:=⟨gb225,_,none⟩) (by first|exact Nat.ne_of_lt (Nat.lt_of_lt_of_le (by have:=World.block_lt_of_cell? _ _ hw224_3;first|rwa [add_block] at this|exact this) GW225.out)|(rw [add_block];exact Nat.ne_of_lt (Nat.lt_of_lt_of_le (by have:=World.block_lt_of_cell? _ _ hw224_3;first|rwa [add_block] at this|exact this) GW225.out))|(show (Addr.add _ _).block ≠ _;rw [add_block];exact Nat.ne_of_lt (Nat.lt_of_lt_of_le (by have:=World.block_lt_of_cell? _ _ hw224_3;first|rwa [add_block] at this|exact this) GW225.out))|(dsimp only;exact Nat.ne_of_lt (Nat.lt_of_lt_of_le (by have:=World.block_lt_of_cell? _ _ hw224_3;first|rwa [add_block] at this|exact this) GW225.out))) _).trans (hHeld.2.2.2.2.2))))))))⟩ (fun hHeld => ?_)
         clear hK K
         refine done_ (done_of HT_.out (by kernel_rfl)) ?_
         have n0_ : Aside0 (Kd.R k41 41 ((((w59.setCell ⟨gb225,0,none⟩ (.string ((rd_T41 (rd_L5 l0 x5_2) (rd x4_1 x5_2)).f0.f0))).setCell ⟨gb225,1,none⟩ (.int .u64 ((rd_T41 (rd_L5 l0 x5_2) (rd x4_1 x5_2)).f0.f1))).setCell ⟨gb225,2,none⟩ (.int .u8 ((rd_T41 (rd_L5 l0 x5_2) (rd x4_1 x5_2)).f0.f2))).setCell ⟨gb225,3,none⟩ (.string ((rd_T41 (rd_L5 l0 x5_2) (rd x4_1 x5_2)).f1))) w.heap.size (fun k_ => k_ ≠ gb225) u3 x3_1):=⟨by (with_reducible repeat (first|apply zA|apply zN|apply zD));exact Kd.R_mono (Kd.R_far (p:=⟨gb225,3,none⟩) (Kd.R_far (p:=⟨gb225,2,none⟩) (Kd.R_far (p:=⟨gb225,1,none⟩) (Kd.R_far (p:=⟨gb225,0,none⟩) (Kd.R_mono HO_3.out (fun k_ hk => (⟨hk,hk.2⟩ : _ ∧ k_ ≠ gb225))) (fun _ hk => hk.2) (.string ((rd_T41 (rd_L5 l0 x5_2) (rd x4_1 x5_2)).f0.f0))) (fun _ hk => hk.2) (.int .u64 ((rd_T41 (rd_L5 l0 x5_2) (rd x4_1 x5_2)).f0.f1))) (fun _ hk => hk.2) (.int .u8 ((rd_T41 (rd_L5 l0 x5_2) (rd x4_1 x5_2)).f0.f2))) (fun _ hk => hk.2) (.string ((rd_T41 (rd_L5 l0 x5_2) (rd x4_1 x5_2)).f1))) (fun _ hk => hk.1.2)⟩
         have n1_ : Aside0 (Kd.R (Kd.int .i64) 3 ((((w59.setCell ⟨gb225,0,none⟩ (.string ((rd_T41 (rd_L5 l0 x5_2) (rd x4_1 x5_2)).f0.f0))).setCell ⟨gb225,1,none⟩ (.int .u64 ((rd_T41 (rd_L5 l0 x5_2) (rd x4_1 x5_2)).f0.f1))).setCell ⟨gb225,2,none⟩ (.int .u8 ((rd_T41 (rd_L5 l0 x5_2) (rd x4_1 x5_2)).f0.f2))).setCell ⟨gb225,3,none⟩ (.string ((rd_T41 (rd_L5 l0 x5_2) (rd x4_1 x5_2)).f1))) w.heap.size (fun _ => True) (.slice (some ad223) x4_1.length co58) x4_1):=⟨by (with_reducible repeat (first|apply zA|apply zN|apply zD));exact Kd.R_mono (Kd.R_far (p:=⟨gb225,3,none⟩) (Kd.R_far (p:=⟨gb225,2,none⟩) (Kd.R_far (p:=⟨gb225,1,none⟩) (Kd.R_far (p:=⟨gb225,0,none⟩) (Kd.R_types HO_4.out BK225.out (by decide)) (fun _ hk => hk.2) (.string ((rd_T41 (rd_L5 l0 x5_2) (rd x4_1 x5_2)).f0.f0))) (fun _ hk => hk.2) (.int .u64 ((rd_T41 (rd_L5 l0 x5_2) (rd x4_1 x5_2)).f0.f1))) (fun _ hk => hk.2) (.int .u8 ((rd_T41 (rd_L5 l0 x5_2) (rd x4_1 x5_2)).f0.f2))) (fun _ hk => hk.2) (.string ((rd_T41 (rd_L5 l0 x5_2) (rd x4_1 x5_2)).f1))) (fun _ hk => trivial)⟩
         have n2_ : Aside0 (((((w59.setCell ⟨gb225,0,none⟩ (.string ((rd_T41 (rd_L5 l0 x5_2) (rd x4_1 x5_2)).f0.f0))).setCell ⟨gb225,1,none⟩ (.int .u64 ((rd_T41 (rd_L5 l0 x5_2) (rd x4_1 x5_2)).f0.f1))).setCell ⟨gb225,2,none⟩ (.int .u8 ((rd_T41 (rd_L5 l0 x5_2) (rd x4_1 x5_2)).f0.f2))).setCell ⟨gb225,3,none⟩ (.string ((rd_T41 (rd_L5 l0 x5_2) (rd x4_1 x5_2)).f1))).heap[gb225]? = some (.cells #[.string ((rd_T41 (rd_L5 l0 x5_2) (rd x4_1 x5_2)).f0.f0),.int .u64 ((rd_T41 (rd_L5 l0 x5_2) (rd x4_1 x5_2)).f0.f1),.int .u8 ((rd_T41 (rd_L5 l0 x5_2) (rd x4_1 x5_2)).f0.f2),.string ((rd_T41 (rd_L5 l0 x5_2) (rd x4_1 x5_2)).f1)] 41 (0,0))):=⟨by (with_reducible repeat (first|refine bN ?_ _|refine bD ?_|refine bA ?_ _));refine blk_put (cs:=#[.string ((rd_T41 (rd_L5 l0 x5_2) (rd x4_1 x5_2)).f0.f0),.int .u64 ((rd_T41 (rd_L5 l0 x5_2) (rd x4_1 x5_2)).f0.f1),.int .u8 ((rd_T41 (rd_L5 l0 x5_2) (rd x4_1 x5_2)).f0.f2),.string (⟨#[]⟩ : BA)]) ?_ 3 _ rfl;(with_reducible repeat (first|refine bN ?_ _|refine bD ?_|refine bA ?_ _));refine blk_put (cs:=#[.string ((rd_T41 (rd_L5 l0 x5_2) (rd x4_1 x5_2)).f0.f0),.int .u64 ((rd_T41 (rd_L5 l0 x5_2) (rd x4_1 x5_2)).f0.f1),.int .u8 0,.string (⟨#[]⟩ : BA)]) ?_ 2 _ rfl;(with_reducible repeat (first|refine bN ?_ _|refine bD ?_|refine bA ?_ _));refine blk_put (cs:=#[.string ((rd_T41 (rd_L5 l0 x5_2) (rd x4_1 x5_2)).f0.f0),.int .u64 0,.int .u8 0,.string (⟨#[]⟩ : BA)]) ?_ 1 _ rfl;(with_reducible repeat (first|refine bN ?_ _|refine bD ?_|refine bA ?_ _));refine blk_put (cs:=#[.string (⟨#[]⟩ : BA),.int .u64 0,.int .u8 0,.string (⟨#[]⟩ : BA)]) ?_ 0 _ rfl;(with_reducible repeat (first|refine bN ?_ _|refine bD ?_|refine bA ?_ _));exact BK225.out⟩
         have n3_ : Aside0 (Below w.heap.size w ((((w59.setCell ⟨gb225,0,none⟩ (.string ((rd_T41 (rd_L5 l0 x5_2) (rd x4_1 x5_2)).f0.f0))).setCell ⟨gb225,1,none⟩ (.int .u64 ((rd_T41 (rd_L5 l0 x5_2) (rd x4_1 x5_2)).f0.f1))).setCell ⟨gb225,2,none⟩ (.int .u8 ((rd_T41 (rd_L5 l0 x5_2) (rd x4_1 x5_2)).f0.f2))).setCell ⟨gb225,3,none⟩ (.string ((rd_T41 (rd_L5 l0 x5_2) (rd x4_1 x5_2)).f1)))):=⟨by repeat (first|(with_reducible first|exact HB.out|apply below_alloc|apply pw_below_drewN|apply below_drew1|refine below_set ?_ GE225.out)|exact HB.out)⟩
         (try clear HO_3)
         (try clear HO_4)
         (try clear BK225)
         (try clear HB)
         generalize ((((w59.setCell ⟨gb225,0,none⟩ (.string ((rd_T41 (rd_L5 l0 x5_2) (rd x4_1 x5_2)).f0.f0))).setCell ⟨gb225,1,none⟩ (.int .u64 ((rd_T41 (rd_L5 l0 x5_2) (rd x4_1 x5_2)).f0.f1))).setCell ⟨gb225,2,none⟩ (.int .u8 ((rd_T41 (rd_L5 l0 x5_2) (rd x4_1 x5_2)).f0.f2))).setCell ⟨gb225,3,none⟩ (.string ((rd_T41 (rd_L5 l0 x5_2) (rd x4_1 x5_2)).f1))) = w64 at n0_ n1_ n2_ n3_ ⊢
         have HO_3:=n0_
         have HO_4:=n1_
         have BK225:=n2_
         have HB:=n3_
         clear n0_ n1_ n2_ n3_
         have p226 : 0 ≤ (x5_2 : Int):=of_decide_eq_true (by first|(with_reducible assumption)|assumption)
         have q226 : x5_2 < (x4_1.length : Int):=of_decide_eq_true (by first|(with_reducible assumption)|assumption)
         obtain ⟨ad226,e226,hx226_0⟩:=Kd.at_int (Kd.R_reads' HO_4.out).2.2 x5_2 p226 q226
         obtain rfl : ad223 = ad226:=(by injection e226)
         replace p226:=eq_true p226
         replace q226:=eq_true q226
         have p35 : 0 ≤ (x5_2 : Int):=of_decide_eq_true (by first|(with_reducible assumption)|assumption)
         have q35 : (x5_2 : Int) < ((x4_1.length : Int) : Int):=of_decide_eq_true (by first|(with_reducible assumption)|assumption)
         obtain ⟨go35,co35,eo35,gb35,gl35,cl35,HG35⟩:=Kd.R_form HO_4.out (by omega)
         (first|cases eo35|(injection eo35 with ea_ en_ ec_;(first|subst ea_|(injection ea_ with ea_;subst ea_));subst ec_;clear en_))
         have GB35:=Aside0.mk gb35
         have GG35:=Aside0.mk HG35
         clear gb35 gl35 HG35
         (first|simp only [add_plain] at hx223_0|skip)
         (first|simp only [add_plain] at hx226_0|skip)
         obtain ⟨hx35_0,hf35_0⟩:=Kd.R_celln 0 HO_4.out (x5_2 : Int) p35 q35
         replace p35:=eq_true p35
         replace q35:=eq_true q35
         obtain ⟨hy65_,hz65_⟩:=Kd.R_celln 0 HO_4.out (x5_2 : Int) (of_decide_eq_true (by first|(with_reducible assumption)|assumption)) (of_decide_eq_true (by first|(with_reducible assumption)|assumption))
         have HP65:=Kd.R_putg HO_4.out (x5_2 : Int) (wrap64 ((rd x4_1 x5_2) + 1))
         try go_wp2_with (first|((with_reducible refine gate_store (t:=3) (p:=78) rfl ?_);refine store_event (t:=3) (p:=78) (v:=?vo_w66) (w1:=(w64.setCell ⟨go35,(x5_2 : Int).toNat,none⟩ (.int .i64 (wrap64 ((rd x4_1 x5_2) + 1))))) ?hg ?ho ?hn ?hr ?_;(case ho => rfl);(case hg => rfl);(case hn => rfl);(case hr => first|(go_simp;done)|(go_simp;rfl));intro w66 hw;have hg : w64.grownBy w66 (some go35):=(by rw [hw];exact HP65.2);have hp_ : Kd.R (Kd.int .i64) 3 w66 w.heap.size (fun _ => True) (.slice (some ⟨go35,0,none⟩) x4_1.length co58) y227:=(by rw [hw,Ny227.out];exact HP65.1);clear HP65;have n0_:=Aside0.mk (Kd.R_over' (v:=(.slice (some ⟨go35,0,none⟩) x4_1.length co58)) (by (with_reducible repeat (first|apply zA|apply zN|apply zD));exact HO_3.out) (Kd.R_typed HO_4.out) (by decide) hg);have n1_:=Aside0.mk (hp_);have n2_:=Aside0.mk (blk_grown (g:=gb225) (o:=.cells #[.string ((rd_T41 (rd_L5 l0 x5_2) (rd x4_1 x5_2)).f0.f0),.int .u64 ((rd_T41 (rd_L5 l0 x5_2) (rd x4_1 x5_2)).f0.f1),.int .u8 ((rd_T41 (rd_L5 l0 x5_2) (rd x4_1 x5_2)).f0.f2),.string ((rd_T41 (rd_L5 l0 x5_2) (rd x4_1 x5_2)).f1)] 41 (0,0)) (by (with_reducible repeat (first|refine bN ?_ _|refine bD ?_|refine bA ?_ _));exact BK225.out) hg (Kd.R_ne HO_4.out BK225.out (by decide)));have n3_:=Aside0.mk ((by rw [hw];exact below_set (HB.out) GB35.out : Below w.heap.size w w66));clear HO_3;clear HO_4;clear BK225;clear HB;have HO_3:=n0_;have HO_4:=n1_;have BK225:=n2_;have HB:=n3_;clear n0_ n1_ n2_ n3_;clear hg hw hp_))
         have n0_:=Aside0.mk (Kd.R_drew HO_3.out)
         have n1_:=Aside0.mk (Kd.R_drew HO_4.out)
         have n2_:=Aside0.mk (blk_drew BK225.out)
         have n3_:=Aside0.mk (below_drew1 HB.out)
         clear HO_3
         clear HO_4
         clear BK225
         clear HB
         have HO_3:=n0_
         have HO_4:=n1_
         have BK225:=n2_
         have HB:=n3_
         clear n0_ n1_ n2_ n3_
         obtain ⟨Ao68,co68,eo68⟩:=Kd.R_slice HO_3.out
         (first|subst eo68|(injection eo68 with f1_ f2_ f3_;have f4_:=f1_.symm;have f5_:=f3_.symm;clear f1_ f2_ f3_;subst f4_;subst f5_))
         have p231 : 0 ≤ ((ji52) : Int):=of_decide_eq_true (by first|(with_reducible assumption)|assumption)
         have q231 : (ji52) < (x3_1.length : Int):=of_decide_eq_true (by first|(with_reducible assumption)|assumption)
         obtain ⟨ad231,e231,hx231_0,hx231_1,hx231_2,hx231_3⟩:=at_T41 (Kd.R_reads' HO_3.out).2.2 (ji52) p231 q231
         cases e231
         replace p231:=eq_true p231
         replace q231:=eq_true q231
         refine start_ (n:=15) (S:=fun w' => w'.cell? ⟨gb225,0,none⟩ = some (.string ((rd_T41 (rd_L5 l0 x5_2) (rd x4_1 x5_2)).f0.f0)) ∧ w'.cell? ⟨gb225,1,none⟩ = some (.int .u64 ((rd_T41 (rd_L5 l0 x5_2) (rd x4_1 x5_2)).f0.f1)) ∧ w'.cell? ⟨gb225,2,none⟩ = some (.int .u8 ((rd_T41 (rd_L5 l0 x5_2) (rd x4_1 x5_2)).f0.f2)) ∧ w'.cell? ⟨gb225,3,none⟩ = some (.string ((rd_T41 (rd_L5 l0 x5_2) (rd x4_1 x5_2)).f1)) ∧ w'.cell? (ad231.add (((ji52)).toNat * 4)) = some (.string ((rd_T41 x3_1 (ji52)).f0.f0)) ∧ w'.cell? ⟨(ad231.add (((ji52)).toNat * 4)).block,(ad231.add (((ji52)).toNat * 4)).off + 1,none⟩ = some (.int .u64 ((rd_T41 x3_1 (ji52)).f0.f1)) ∧ w'.cell? ⟨(ad231.add (((ji52)).toNat * 4)).block,(ad231.add (((ji52)).toNat * 4)).off + 2,none⟩ = some (.int .u8 ((rd_T41 x3_1 (ji52)).f0.f2)) ∧ w'.cell? ⟨(ad231.add (((ji52)).toNat * 4)).block,(ad231.add (((ji52)).toNat * 4)).off + 3,none⟩ = some (.string ((rd_T41 x3_1 (ji52)).f1))) (ds:=[]) #[ff,ff,ff,ff,ff,ff,ff,ff,ff,ff,ff,ff,ff,ff,ff] (by kernel_rfl) rfl rfl ⟨(blk_cell BK225.out 0).trans rfl,(blk_cell BK225.out 1).trans rfl,(blk_cell BK225.out 2).trans rfl,(blk_cell BK225.out 3).trans rfl,hx231_0,hx231_1,hx231_2,hx231_3⟩ (fun hHeld => ?_);refine with_tabW ratlineref11_All.tab13 ratlineref11_All.bits13 (fun HT_ HW_ => ?_)
         generalize w66.drew = w67 at HO_3 HO_4 BK225 HB hx231_0 hx231_1 hx231_2 hx231_3 hHeld ⊢
         refine pure_ (i:=0) (N:=some 79) (v:=?_) (a':=?_) #[tt,ff,ff,ff,ff,ff,ff,ff,ff,ff,ff,ff,ff,ff,ff] rfl rfl (any_of HT_.out (by kernel_rfl)) (fun _ _ _ h => h) (Or.inl ⟨by rfl,?_⟩) ?_ ?_
         rotate_left
         ·intro w'
          go_simp
          with_reducible rfl
         rotate_left
         ·simp only [Act.put,sA,sZ,sS,i64_w,i32_w]
          rfl
         refine pure_ (i:=1) (N:=some 80) (v:=?_) (a':=?_) #[tt,tt,ff,ff,ff,ff,ff,ff,ff,ff,ff,ff,ff,ff,ff] rfl rfl (any_of HT_.out (by kernel_rfl)) (fun _ _ _ h => h) (Or.inl ⟨by rfl,?_⟩) ?_ ?_
         rotate_left
         ·intro w'
          go_simp
          with_reducible rfl
         rotate_left
         ·simp only [Act.put,sA,sZ,sS,i64_w,i32_w]
          rfl
         refine pure_ (i:=2) (N:=some 81) (v:=?_) (a':=?_) #[tt,tt,tt,ff,ff,ff,ff,ff,ff,ff,ff,ff,ff,ff,ff] rfl rfl (any_of HT_.out (by kernel_rfl)) (fun _ _ _ h => h) (Or.inl ⟨by rfl,?_⟩) ?_ ?_
         rotate_left
         ·intro w'
          go_simp
          with_reducible rfl
         rotate_left
         ·simp only [Act.put,sA,sZ,sS,i64_w,i32_w]
          rfl
         refine pure_ (i:=3) (N:=some 82) (v:=?_) (a':=?_) #[tt,tt,tt,tt,ff,ff,ff,ff,ff,ff,ff,ff,ff,ff,ff] rfl rfl (any_of HT_.out (by kernel_rfl)) (fun _ _ _ h => h) (Or.inl ⟨by rfl,?_⟩) ?_ ?_
         rotate_left
         ·intro w'
          go_simp
          with_reducible rfl
         rotate_left
         ·simp only [Act.put,sA,sZ,sS,i64_w,i32_w]
          rfl
         refine pure_ (i:=4) (N:=some 83) (v:=?_) (a':=?_) #[tt,tt,tt,tt,tt,ff,ff,ff,ff,ff,ff,ff,ff,ff,ff] rfl rfl (any_of HT_.out (by kernel_rfl)) (fun _ _ _ h => h) (Or.inl ⟨by rfl,?_⟩) ?_ ?_
         rotate_left
         ·intro w'
          go_simp
          with_reducible rfl
         rotate_left
         ·simp only [Act.put,sA,sZ,sS,i64_w,i32_w]
          rfl
         refine pure_ (i:=5) (N:=some 84) (v:=?_) (a':=?_) #[tt,tt,tt,tt,tt,tt,ff,ff,ff,ff,ff,ff,ff,ff,ff] rfl rfl (any_of HT_.out (by kernel_rfl)) (fun _ _ _ h => h) (Or.inl ⟨by rfl,?_⟩) ?_ ?_
         rotate_left
         ·intro w'
          go_simp
          with_reducible rfl
         rotate_left
         ·simp only [Act.put,sA,sZ,sS,i64_w,i32_w]
          rfl
         refine pure_ (i:=6) (N:=some 85) (v:=?_) (a':=?_) #[tt,tt,tt,tt,tt,tt,tt,ff,ff,ff,ff,ff,ff,ff,ff] rfl rfl (any_of HT_.out (by kernel_rfl)) (fun _ _ _ h => h) (Or.inl ⟨by rfl,?_⟩) ?_ ?_
         rotate_left
         ·intro w'
          go_simp
          with_reducible rfl
         rotate_left
         ·simp only [Act.put,sA,sZ,sS,i64_w,i32_w]
          rfl
         refine pure_ (i:=7) (N:=some 86) (v:=?_) (a':=?_) #[tt,tt,tt,tt,tt,tt,tt,tt,ff,ff,ff,ff,ff,ff,ff] rfl rfl (any_of HT_.out (by kernel_rfl)) (fun _ _ _ h => h) (Or.inl ⟨by rfl,?_⟩) ?_ ?_
         rotate_left
         ·intro w'
          go_simp
          with_reducible rfl
         rotate_left
         ·simp only [Act.put,sA,sZ,sS,i64_w,i32_w]
          rfl
         refine pure_ (i:=8) (N:=some 87) (v:=?_) (a':=?_) #[tt,tt,tt,tt,tt,tt,tt,tt,tt,ff,ff,ff,ff,ff,ff] rfl rfl (any_of HT_.out (by kernel_rfl)) (fun _ _ _ h => h) (Or.inl ⟨by rfl,?_⟩) ?_ ?_
         rotate_left
         ·intro w'
          go_simp
          with_reducible rfl
         rotate_left
         ·simp only [Act.put,sA,sZ,sS,i64_w,i32_w]
          rfl
         refine pure_ (i:=9) (N:=some 88) (v:=?_) (a':=?_) #[tt,tt,tt,tt,tt,tt,tt,tt,tt,tt,ff,ff,ff,ff,ff] rfl rfl (any_of HT_.out (by kernel_rfl)) (fun _ _ _ h => h) (Or.inl ⟨by rfl,?_⟩) ?_ ?_
         rotate_left
         ·intro w'
          go_simp
          with_reducible rfl
         rotate_left
         ·simp only [Act.put,sA,sZ,sS,i64_w,i32_w]
          rfl
         refine pure_ (i:=11) (N:=some 90) (v:=?_) (a':=?_) #[tt,tt,tt,tt,tt,tt,tt,tt,tt,tt,ff,tt,ff,ff,ff] rfl rfl (any_of HT_.out (by kernel_rfl)) (fun _ _ _ h => h) (Or.inl ⟨by rfl,?_⟩) ?_ ?_
         rotate_left
         ·intro w'
          go_simp
          with_reducible rfl
         rotate_left
         ·simp only [Act.put,sA,sZ,sS,i64_w,i32_w]
          rfl
         refine take_ (i:=10) (N:=some 89) (v:=?_) (a':=?_) #[tt,tt,tt,tt,tt,tt,tt,tt,tt,tt,tt,tt,ff,ff,ff] rfl rfl (take_ofW HT_.out HW_.out (by kernel_rfl)) (fun _ _ _ h => h) (Or.inl ⟨by rfl,?_⟩) hHeld ?_ ?_
         rotate_left
         ·rintro w' ⟨s0,s1,s2,s3,s4,s5,s6,s7⟩
          go_simp
          with_reducible rfl
         rotate_left
         ·simp only [Act.put,sA,sZ,sS,i64_w,i32_w]
          rfl
         refine take_ (i:=12) (N:=some 91) (v:=?_) (a':=?_) #[tt,tt,tt,tt,tt,tt,tt,tt,tt,tt,tt,tt,tt,ff,ff] rfl rfl (take_ofW HT_.out HW_.out (by kernel_rfl)) (fun _ _ _ h => h) (Or.inl ⟨by rfl,?_⟩) hHeld ?_ ?_
         rotate_left
         ·rintro w' ⟨s0,s1,s2,s3,s4,s5,s6,s7⟩
          go_simp
          with_reducible rfl
         rotate_left
         ·simp only [Act.put,sA,sZ,sS,i64_w,i32_w]
          rfl
         refine pure_ (i:=13) (N:=some 92) (v:=?_) (a':=?_) #[tt,tt,tt,tt,tt,tt,tt,tt,tt,tt,tt,tt,tt,tt,ff] rfl rfl (any_of HT_.out (by kernel_rfl)) (fun _ _ _ h => h) (Or.inl ⟨by rfl,?_⟩) ?_ ?_
         rotate_left
         ·intro w'
          go_simp
          with_reducible rfl
         rotate_left
         ·simp only [Act.put,sA,sZ,sS,i64_w,i32_w]
          rfl
         refine pure_ (i:=14) (N:=some 93) (v:=?_) (a':=?_) #[tt,tt,tt,tt,tt,tt,tt,tt,tt,tt,tt,tt,tt,tt,tt] rfl rfl (any_of HT_.out (by kernel_rfl)) (fun _ _ _ h => h) (Or.inl ⟨by rfl,?_⟩) ?_ ?_
         rotate_left
         ·intro w'
          go_simp
          with_reducible rfl
         rotate_left
         ·simp only [Act.put,sA,sZ,sS,i64_w,i32_w]
          rfl
         refine done_ (done_of HT_.out (by kernel_rfl)) ?_
         have hcz69_0 : w67.cell? ⟨gb225,0,none⟩ = some (.string ((rd_T41 (rd_L5 l0 x5_2) (rd x4_1 x5_2)).f0.f0)):=(blk_cell BK225.out 0).trans rfl
         have hcz69_1 : w67.cell? ⟨gb225,1,none⟩ = some (.int .u64 ((rd_T41 (rd_L5 l0 x5_2) (rd x4_1 x5_2)).f0.f1)):=(blk_cell BK225.out 1).trans rfl
         have hcz69_2 : w67.cell? ⟨gb225,2,none⟩ = some (.int .u8 ((rd_T41 (rd_L5 l0 x5_2) (rd x4_1 x5_2)).f0.f2)):=(blk_cell BK225.out 2).trans rfl
         have hcz69_3 : w67.cell? ⟨gb225,3,none⟩ = some (.string ((rd_T41 (rd_L5 l0 x5_2) (rd x4_1 x5_2)).f1)):=(blk_cell BK225.out 3).trans rfl
         have hfz69_0:=blk_frozen BK225.out 0
         have hfz69_1:=blk_frozen BK225.out 1
         have hfz69_2:=blk_frozen BK225.out 2
         have hfz69_3:=blk_frozen BK225.out 3
         try go_wp2_with (first|((with_reducible refine gate_builtin (b:=.append) (xs:=#[.tmp 94,.tmp 96]) rfl ?_);(try (refine gate_guard (by rfl) ?_;dsimp only));at_builtin;refine Kd.R_append k41 (w0:=w) w.heap.size rfl (.tmp 94) (.tmp 96) 29 41 (.agg #[(.string ⟨#[]⟩),(.int .u64 0),(.int .u8 0),(.string ⟨#[]⟩)]) 48 rfl Try.underlying29 info41 rfl (by decide) (by omega) (.slice (some ad231) x3_1.length co68) x3_1 (⟨(⟨(rd_T41 (rd_L5 l0 x5_2) (rd x4_1 x5_2)).f0.f0,(rd_T41 (rd_L5 l0 x5_2) (rd x4_1 x5_2)).f0.f1,(rd_T41 (rd_L5 l0 x5_2) (rd x4_1 x5_2)).f0.f2⟩ : S39),(rd_T41 (rd_L5 l0 x5_2) (rd x4_1 x5_2)).f1⟩ : S41) [.string ((rd_T41 (rd_L5 l0 x5_2) (rd x4_1 x5_2)).f0.f0),.int .u64 ((rd_T41 (rd_L5 l0 x5_2) (rd x4_1 x5_2)).f0.f1),.int .u8 ((rd_T41 (rd_L5 l0 x5_2) (rd x4_1 x5_2)).f0.f2),.string ((rd_T41 (rd_L5 l0 x5_2) (rd x4_1 x5_2)).f1)] (fun k_ => k_ ≠ gb225) (fun _ => False) rfl rfl ?aP (fun _ hk => hk.elim) ?aF ?aO ?aB ?aS ?aL ?_;(case aP => exact k41_mkM _ _ _ (⟨(⟨(rd_T41 (rd_L5 l0 x5_2) (rd x4_1 x5_2)).f0.f0,(rd_T41 (rd_L5 l0 x5_2) (rd x4_1 x5_2)).f0.f1,(rd_T41 (rd_L5 l0 x5_2) (rd x4_1 x5_2)).f0.f2⟩ : S39),(rd_T41 (rd_L5 l0 x5_2) (rd x4_1 x5_2)).f1⟩ : S41));(case aB => exact (by repeat (first|(with_reducible first|exact HB.out|apply below_alloc|apply pw_below_drewN|apply below_drew1|refine below_set ?_ GE225.out)|exact HB.out)));(case aF => exact (fun k_ hk => Kd.freshB (g:=gb225) (o:=.cells #[.string ((rd_T41 (rd_L5 l0 x5_2) (rd x4_1 x5_2)).f0.f0),.int .u64 ((rd_T41 (rd_L5 l0 x5_2) (rd x4_1 x5_2)).f0.f1),.int .u8 ((rd_T41 (rd_L5 l0 x5_2) (rd x4_1 x5_2)).f0.f2),.string ((rd_T41 (rd_L5 l0 x5_2) (rd x4_1 x5_2)).f1)] 41 (0,0)) (by (with_reducible repeat (first|refine bN ?_ _|refine bD ?_|refine bA ?_ _));exact BK225.out) k_ hk));(case aO => exact (by (with_reducible repeat (first|apply zA|apply zN|apply zD));exact HO_3.out));(case aS => exact (below_size (by repeat (first|(with_reducible first|exact HB.out|apply below_alloc|apply pw_below_drewN|apply below_drew1|refine below_set ?_ GE225.out)|exact HB.out))));(case aL => have:=LMc56.out;omega);intro v233 w70 ho hb hg hat;rw [← Ny232.out] at ho;have n0_:=Aside0.mk (Kd.R_over' (by (with_reducible repeat (first|apply zA|apply zN|apply zD));exact HO_4.out) (Kd.R_typed (by (with_reducible repeat (first|apply zA|apply zN|apply zD));exact HO_3.out)) (by decide) hg);have n1_:=Aside0.mk (blk_grown (g:=gb225) (o:=.cells #[.string ((rd_T41 (rd_L5 l0 x5_2) (rd x4_1 x5_2)).f0.f0),.int .u64 ((rd_T41 (rd_L5 l0 x5_2) (rd x4_1 x5_2)).f0.f1),.int .u8 ((rd_T41 (rd_L5 l0 x5_2) (rd x4_1 x5_2)).f0.f2),.string ((rd_T41 (rd_L5 l0 x5_2) (rd x4_1 x5_2)).f1)] 41 (0,0)) (by (with_reducible repeat (first|refine bN ?_ _|refine bD ?_|refine bA ?_ _));exact BK225.out) hg (Kd.R_away HO_3.out (fun _ hk => hk)));have n2_:=Aside0.mk (hb);have n3_:=Aside0.mk (ho);clear HO_4;clear BK225;clear HB;clear HO_3;have HO_4:=n0_;have BK225:=n1_;have HB:=n2_;have HO234:=n3_;clear n0_ n1_ n2_ n3_;clear ho hb hg hat))
         go_roundg k2
         case measure => have:=HK1.out;have:=HK2.out;omega
         case rel => exact ⟨(y232),(y227),H',⟨by have:=HK1.out;have:=HK2.out;omega⟩,⟨by (with_reducible repeat (first|apply zA|apply zN|apply zD));exact Kd.R_mono HO234.out (fun _ hk => trivial)⟩,⟨by (with_reducible repeat (first|apply zA|apply zN|apply zD));exact HO_4.out⟩,⟨by repeat (first|(with_reducible first|exact HB.out|apply below_alloc|apply pw_below_drewN|apply below_drew1|refine below_set ?_ GE225.out)|exact HB.out)⟩⟩
        ·rw [if_neg c55] at H
         have c55b0 : (!((((rd_T41 x3_1 (ji52)).f0.f0).toList) == (((rd_T41 (rd_L5 l0 x5_2) (rd x4_1 x5_2)).f0.f0).toList)) || (!(((rd_T41 x3_1 (ji52)).f0.f1) == ((rd_T41 (rd_L5 l0 x5_2) (rd x4_1 x5_2)).f0.f1)) || (!(((rd_T41 x3_1 (ji52)).f0.f2) == ((rd_T41 (rd_L5 l0 x5_2) (rd x4_1 x5_2)).f0.f2))))) = false:=by simpa using c55
         clear c55
         have H':=Aside0.mk H
         clear H
         try go_wp2
         have n0_:=Aside0.mk (Kd.R_drew HO_3.out)
         have n1_:=Aside0.mk (Kd.R_drew HO_4.out)
         have n2_:=Aside0.mk (below_drew1 HB.out)
         clear HO_3
         clear HO_4
         clear HB
         have HO_3:=n0_
         have HO_4:=n1_
         have HB:=n2_
         clear n0_ n1_ n2_
         have p222 : 0 ≤ (x5_2 : Int):=of_decide_eq_true (by first|(with_reducible assumption)|assumption)
         have q222 : x5_2 < (l0.length : Int):=of_decide_eq_true (by first|(with_reducible assumption)|assumption)
         obtain ⟨ad222,A222_0,c222_0,e222,hx222_0,hl222_0,hi222_0⟩:=at_L5 HR0.out x5_2 p222 q222
         have hw222_0:=hx222_0
         cases e222
         replace hx222_0:=(HB.out.cell (World.block_lt_of_cell? w _ hx222_0)).trans hx222_0
         have HR222_0:=Aside0.mk hi222_0
         have HC222_0:=Aside0.mk hl222_0
         clear hi222_0 hl222_0
         replace p222:=eq_true p222
         replace q222:=eq_true q222
         obtain ⟨Ao72,co72,eo72⟩:=Kd.R_slice HO_4.out
         (first|subst eo72|(injection eo72 with f1_ f2_ f3_;have f4_:=f1_.symm;have f5_:=f3_.symm;clear f1_ f2_ f3_;subst f4_;subst f5_))
         have p223 : 0 ≤ (x5_2 : Int):=of_decide_eq_true (by first|(with_reducible assumption)|assumption)
         have q223 : x5_2 < (x4_1.length : Int):=of_decide_eq_true (by first|(with_reducible assumption)|assumption)
         obtain ⟨ad223,e223,hx223_0⟩:=Kd.at_int (Kd.R_reads' HO_4.out).2.2 x5_2 p223 q223
         cases e223
         replace p223:=eq_true p223
         replace q223:=eq_true q223
         have p224 : 0 ≤ ((rd x4_1 x5_2) : Int):=of_decide_eq_true (by first|(with_reducible assumption)|assumption)
         have q224 : (rd x4_1 x5_2) < ((rd_L5 l0 x5_2).length : Int):=of_decide_eq_true (by first|(with_reducible assumption)|assumption)
         obtain ⟨ad224,e224,hx224_0,hx224_1,hx224_2,hx224_3⟩:=at_T41 HR222_0.out (rd x4_1 x5_2) p224 q224
         have hw224_3:=hx224_3
         have hw224_2:=hx224_2
         have hw224_1:=hx224_1
         have hw224_0:=hx224_0
         cases e224
         replace hx224_0:=(HB.out.cell (World.block_lt_of_cell? w _ hx224_0)).trans hx224_0
         replace hx224_1:=(HB.out.cell (World.block_lt_of_cell? w _ hx224_1)).trans hx224_1
         replace hx224_2:=(HB.out.cell (World.block_lt_of_cell? w _ hx224_2)).trans hx224_2
         replace hx224_3:=(HB.out.cell (World.block_lt_of_cell? w _ hx224_3)).trans hx224_3
         replace p224:=eq_true p224
         replace q224:=eq_true q224
         refine start_ (n:=12) (S:=fun w' => w'.cell? (ad222.add (x5_2).toNat) = some (.slice (some ad224) (rd_L5 l0 x5_2).length c222_0) ∧ w'.cell? (ad223.add (x5_2).toNat) = some (.int .i64 (rd x4_1 x5_2)) ∧ w'.cell? (ad224.add (((rd x4_1 x5_2)).toNat * 4)) = some (.string ((rd_T41 (rd_L5 l0 x5_2) (rd x4_1 x5_2)).f0.f0)) ∧ w'.cell? ⟨(ad224.add (((rd x4_1 x5_2)).toNat * 4)).block,(ad224.add (((rd x4_1 x5_2)).toNat * 4)).off + 1,none⟩ = some (.int .u64 ((rd_T41 (rd_L5 l0 x5_2) (rd x4_1 x5_2)).f0.f1)) ∧ w'.cell? ⟨(ad224.add (((rd x4_1 x5_2)).toNat * 4)).block,(ad224.add (((rd x4_1 x5_2)).toNat * 4)).off + 2,none⟩ = some (.int .u8 ((rd_T41 (rd_L5 l0 x5_2) (rd x4_1 x5_2)).f0.f2)) ∧ w'.cell? ⟨(ad224.add (((rd x4_1 x5_2)).toNat * 4)).block,(ad224.add (((rd x4_1 x5_2)).toNat * 4)).off + 3,none⟩ = some (.string ((rd_T41 (rd_L5 l0 x5_2) (rd x4_1 x5_2)).f1))) (ds:=[]) #[ff,ff,ff,ff,ff,ff,ff,ff,ff,ff,ff,ff] (by kernel_rfl) rfl rfl ⟨((HB.out.cell (World.block_lt_of_cell? w _ hw222_0)).trans hw222_0),hx223_0,((HB.out.cell (World.block_lt_of_cell? w _ hw224_0)).trans hw224_0),((HB.out.cell (World.block_lt_of_cell? w _ hw224_1)).trans hw224_1),((HB.out.cell (World.block_lt_of_cell? w _ hw224_2)).trans hw224_2),((HB.out.cell (World.block_lt_of_cell? w _ hw224_3)).trans hw224_3)⟩ (fun hHeld => ?_);refine with_tabW ratlineref11_All.tab11 ratlineref11_All.bits11 (fun HT_ HW_ => ?_)
         generalize wr.drew = w71 at HO_3 HO_4 HB HR222_0 hx222_0 hx223_0 hx224_0 hx224_1 hx224_2 hx224_3 hHeld ⊢
         refine pure_ (i:=0) (N:=some 61) (v:=?_) (a':=?_) #[tt,ff,ff,ff,ff,ff,ff,ff,ff,ff,ff,ff] rfl rfl (any_of HT_.out (by kernel_rfl)) (fun _ _ _ h => h) (Or.inl ⟨by rfl,?_⟩) ?_ ?_
         rotate_left
         ·intro w'
          go_simp
          with_reducible rfl
         rotate_left
         ·simp only [Act.put,sA,sZ,sS,i64_w,i32_w]
          rfl
         refine pure_ (i:=1) (N:=some 62) (v:=?_) (a':=?_) #[tt,tt,ff,ff,ff,ff,ff,ff,ff,ff,ff,ff] rfl rfl (any_of HT_.out (by kernel_rfl)) (fun _ _ _ h => h) (Or.inl ⟨by rfl,?_⟩) ?_ ?_
         rotate_left
         ·intro w'
          go_simp
          with_reducible rfl
         rotate_left
         ·simp only [Act.put,sA,sZ,sS,i64_w,i32_w]
          rfl
         refine pure_ (i:=2) (N:=some 63) (v:=?_) (a':=?_) #[tt,tt,tt,ff,ff,ff,ff,ff,ff,ff,ff,ff] rfl rfl (any_of HT_.out (by kernel_rfl)) (fun _ _ _ h => h) (Or.inl ⟨by rfl,?_⟩) ?_ ?_
         rotate_left
         ·intro w'
          go_simp
          with_reducible rfl
         rotate_left
         ·simp only [Act.put,sA,sZ,sS,i64_w,i32_w]
          rfl
         refine pure_ (i:=4) (N:=some 65) (v:=?_) (a':=?_) #[tt,tt,tt,ff,tt,ff,ff,ff,ff,ff,ff,ff] rfl rfl (any_of HT_.out (by kernel_rfl)) (fun _ _ _ h => h) (Or.inl ⟨by rfl,?_⟩) ?_ ?_
         rotate_left
         ·intro w'
          go_simp
          with_reducible rfl
         rotate_left
         ·simp only [Act.put,sA,sZ,sS,i64_w,i32_w]
          rfl
         refine pure_ (i:=5) (N:=some 66) (v:=?_) (a':=?_) #[tt,tt,tt,ff,tt,tt,ff,ff,ff,ff,ff,ff] rfl rfl (any_of HT_.out (by kernel_rfl)) (fun _ _ _ h => h) (Or.inl ⟨by rfl,?_⟩) ?_ ?_
         rotate_left
         ·intro w'
          go_simp
          with_reducible rfl
         rotate_left
         ·simp only [Act.put,sA,sZ,sS,i64_w,i32_w]
          rfl
         refine pure_ (i:=6) (N:=some 67) (v:=?_) (a':=?_) #[tt,tt,tt,ff,tt,tt,tt,ff,ff,ff,ff,ff] rfl rfl (any_of HT_.out (by kernel_rfl)) (fun _ _ _ h => h) (Or.inl ⟨by rfl,?_⟩) ?_ ?_
         rotate_left
         ·intro w'
          go_simp
          with_reducible rfl
         rotate_left
         ·simp only [Act.put,sA,sZ,sS,i64_w,i32_w]
          rfl
         refine take_ (i:=3) (N:=some 64) (v:=?_) (a':=?_) #[tt,tt,tt,tt,tt,tt,tt,ff,ff,ff,ff,ff] rfl rfl (take_ofW HT_.out HW_.out (by kernel_rfl)) (fun _ _ _ h => h) (Or.inl ⟨by rfl,?_⟩) hHeld ?_ ?_
         rotate_left
         ·rintro w' ⟨s0,s1,s2,s3,s4,s5⟩
          go_simp
          with_reducible rfl
         rotate_left
         ·simp only [Act.put,sA,sZ,sS,i64_w,i32_w]
          rfl
         refine take_ (i:=7) (N:=some 68) (v:=?_) (a':=?_) #[tt,tt,tt,tt,tt,tt,tt,tt,ff,ff,ff,ff] rfl rfl (take_ofW HT_.out HW_.out (by kernel_rfl)) (fun _ _ _ h => h) (Or.inl ⟨by rfl,?_⟩) hHeld ?_ ?_
         rotate_left
         ·rintro w' ⟨s0,s1,s2,s3,s4,s5⟩
          go_simp
          with_reducible rfl
         rotate_left
         ·simp only [Act.put,sA,sZ,sS,i64_w,i32_w]
          rfl
         refine pure_ (i:=8) (N:=some 69) (v:=?_) (a':=?_) #[tt,tt,tt,tt,tt,tt,tt,tt,tt,ff,ff,ff] rfl rfl (any_of HT_.out (by kernel_rfl)) (fun _ _ _ h => h) (Or.inl ⟨by rfl,?_⟩) ?_ ?_
         rotate_left
         ·intro w'
          go_simp
          with_reducible rfl
         rotate_left
         ·simp only [Act.put,sA,sZ,sS,i64_w,i32_w]
          rfl
         refine take_ (i:=9) (N:=some 70) (v:=?_) (a':=?_) #[tt,tt,tt,tt,tt,tt,tt,tt,tt,tt,ff,ff] rfl rfl (take_ofW HT_.out HW_.out (by kernel_rfl)) (fun _ _ _ h => h) (Or.inl ⟨by rfl,?_⟩) hHeld ?_ ?_
         rotate_left
         ·rintro w' ⟨s0,s1,s2,s3,s4,s5⟩
          go_simp
          with_reducible rfl
         rotate_left
         ·simp only [Act.put,sA,sZ,sS,i64_w,i32_w]
          rfl
         refine one_ (i:=10) (N:=some 7) #[tt,tt,tt,tt,tt,tt,tt,tt,tt,tt,tt,ff] rfl rfl (one_of HT_.out (by kernel_rfl)) (by decide) (fun K hK => ?_)
         refine box_step ?hg (N:=7) ?hd (cs:=#[.string (⟨#[]⟩ : BA),.int .u64 0,.int .u8 0,.string (⟨#[]⟩ : BA)]) (t:=41) ?hr ?_;(case hd => rfl);(case hg => rfl);(case hr => first|(go_simp;done)|(go_simp;rfl))
         intro gb225 hg w73 hbox hb
         have HS1_:=bC hb hHeld.2.1
         have n0_:=Aside0.mk (Kd.R_below (Kd.R_elderB (by (with_reducible repeat (first|apply zA|apply zN|apply zD));exact HO_3.out) gb225 (Nat.le_of_eq hg.symm)) hb)
         have n1_:=Aside0.mk (Kd.R_below (by (with_reducible repeat (first|apply zA|apply zN|apply zD));exact HO_4.out) hb)
         have n2_:=Aside0.mk (below_step (by repeat (first|(with_reducible first|exact HB.out|apply below_alloc|apply pw_below_drewN|apply below_drew1)|exact HB.out)) hb)
         have n3_:=Aside0.mk (hbox)
         have n4_:=Aside0.mk ((by rw [hg];exact (below_size (by repeat (first|(with_reducible first|exact HB.out|apply below_alloc|apply pw_below_drewN|apply below_drew1)|exact HB.out))) : w.heap.size ≤ gb225))
         have n5_:=Aside0.mk ((by rw [hg];exact (below_size (by repeat (first|(with_reducible first|exact HB.out|apply below_alloc|apply pw_below_drewN|apply below_drew1)|exact HB.out))) : w.heap.size ≤ gb225))
         clear HO_3
         clear HO_4
         clear HB
         have HO_3:=n0_
         have HO_4:=n1_
         have HB:=n2_
         have BK225:=n3_
         have GW225:=n4_
         have GE225:=n5_
         clear n0_ n1_ n2_ n3_ n4_ n5_
         clear hb hbox hg
         refine hK.out _ _ ⟨((HB.out.cell (World.block_lt_of_cell? w _ hw222_0)).trans hw222_0),HS1_,((HB.out.cell (World.block_lt_of_cell? w _ hw224_0)).trans hw224_0),((HB.out.cell (World.block_lt_of_cell? w _ hw224_1)).trans hw224_1),((HB.out.cell (World.block_lt_of_cell? w _ hw224_2)).trans hw224_2),((HB.out.cell (World.block_lt_of_cell? w _ hw224_3)).trans hw224_3)⟩ (fun hHeld => ?_)
         clear hK K
         refine norm_ (a':=?_) ?_ ?_
         rotate_left
         ·show Act.put _ (some 7) _ = _
          simp only [Act.put,sA,sZ,sS,i64_w,i32_w]
          rfl
         refine one_ (i:=11) (N:=none) #[tt,tt,tt,tt,tt,tt,tt,tt,tt,tt,tt,tt] rfl rfl (one_of HT_.out (by kernel_rfl)) (by decide) (fun K hK => ?_)
         have hs74 : w73.cell? ⟨gb225,0,none⟩ = some (.string (⟨#[]⟩ : BA)):=(blk_cell BK225.out 0).trans rfl
         have hfs74:=blk_frozen BK225.out 0
         have hs75 : w73.cell? ⟨gb225,1,none⟩ = some (.int .u64 0):=(blk_cell BK225.out 1).trans rfl
         have hfs75:=blk_frozen BK225.out 1
         have hs76 : w73.cell? ⟨gb225,2,none⟩ = some (.int .u8 0):=(blk_cell BK225.out 2).trans rfl
         have hfs76:=blk_frozen BK225.out 2
         have hs77 : w73.cell? ⟨gb225,3,none⟩ = some (.string (⟨#[]⟩ : BA)):=(blk_cell BK225.out 3).trans rfl
         have hfs77:=blk_frozen BK225.out 3
         refine skip_ (w1:=?_) (by rfl) rfl ?_ ?_
         rotate_left
         ·go_simp
          rfl
         refine hK.out _ _ ⟨((cell_far (p:=⟨gb225,_,none⟩) (by first|exact Nat.ne_of_lt (Nat.lt_of_lt_of_le (by have:=World.block_lt_of_cell? _ _ hw222_0;first|rwa [add_block] at this|exact this) GW225.out)|(rw [add_block];exact Nat.ne_of_lt (Nat.lt_of_lt_of_le (by have:=World.block_lt_of_cell? _ _ hw222_0;first|rwa [add_block] at this|exact this) GW225.out))|(show (Addr.add _ _).block ≠ _;rw [add_block];exact Nat.ne_of_lt (Nat.lt_of_lt_of_le (by have:=World.block_lt_of_cell? _ _ hw222_0;first|rwa [add_block] at this|exact this) GW225.out))|(dsimp only;exact Nat.ne_of_lt (Nat.lt_of_lt_of_le (by have:=World.block_lt_of_cell? _ _ hw222_0;first|rwa [add_block] at this|exact this) GW225.out))) _).trans (((cell_far (p:=⟨gb225,_,none⟩) (by first|exact Nat.ne_of_lt (Nat.lt_of_lt_of_le (by have:=World.block_lt_of_cell? _ _ hw222_0;first|rwa [add_block] at this|exact this) GW225.out)|(rw [add_block];exact Nat.ne_of_lt (Nat.lt_of_lt_of_le (by have:=World.block_lt_of_cell? _ _ hw222_0;first|rwa [add_block] at this|exact this) GW225.out))|(show (Addr.add _ _).block ≠ _;rw [add_block];exact Nat.ne_of_lt (Nat.lt_of_lt_of_le (by have:=World.block_lt_of_cell? _ _ hw222_0;first|rwa [add_block] at this|exact this) GW225.out))|(dsimp only;exact Nat.ne_of_lt (Nat.lt_of_lt_of_le (by have:=World.block_lt_of_cell? _ _ hw222_0;first|rwa [add_block] at this|exact this) GW225.out))) _).trans (((cell_far (p:=⟨gb225,_,none⟩) (by first|exact Nat.ne_of_lt (Nat.lt_of_lt_of_le (by have:=World.block_lt_of_cell? _ _ hw222_0;first|rwa [add_block] at this|exact this) GW225.out)|(rw [add_block];exact Nat.ne_of_lt (Nat.lt_of_lt_of_le (by have:=World.block_lt_of_cell? _ _ hw222_0;first|rwa [add_block] at this|exact this) GW225.out))|(show (Addr.add _ _).block ≠ _;rw [add_block];exact Nat.ne_of_lt (Nat.lt_of_lt_of_le (by have:=World.block_lt_of_cell? _ _ hw222_0;first|rwa [add_block] at this|exact this) GW225.out))|(dsimp only;exact Nat.ne_of_lt (Nat.lt_of_lt_of_le (by have:=World.block_lt_of_cell? _ _ hw222_0;first|rwa [add_block] at this|exact this) GW225.out))) _).trans (((cell_far (p:=⟨gb225,_,none⟩) (by first|exact Nat.ne_of_lt (Nat.lt_of_lt_of_le (by have:=World.block_lt_of_cell? _ _ hw222_0;first|rwa [add_block] at this|exact this) GW225.out)|(rw [add_block];exact Nat.ne_of_lt (Nat.lt_of_lt_of_le (by have:=World.block_lt_of_cell? _ _ hw222_0;first|rwa [add_block] at this|exact this) GW225.out))|(show (Addr.add _ _).block ≠ _;rw [add_block];exact Nat.ne_of_lt (Nat.lt_of_lt_of_le (by have:=World.block_lt_of_cell? _ _ hw222_0;first|rwa [add_block] at this|exact this) GW225.out))|(dsimp only;exact Nat.ne_of_lt (Nat.lt_of_lt_of_le (by have:=World.block_lt_of_cell? _ _ hw222_0;first|rwa [add_block] at this|exact this) GW225.out))) _).trans (hHeld.1)))))))),((cell_far (p:=⟨gb225,_,none⟩) (by first|exact Kd.own_blk (Kd.R_ne HO_4.out BK225.out (by decide))|(rw [add_block];exact Kd.own_blk (Kd.R_ne HO_4.out BK225.out (by decide)))|(show (Addr.add _ _).block ≠ _;rw [add_block];exact Kd.own_blk (Kd.R_ne HO_4.out BK225.out (by decide)))|(dsimp only;exact Kd.own_blk (Kd.R_ne HO_4.out BK225.out (by decide)))) _).trans (((cell_far (p:=⟨gb225,_,none⟩) (by first|exact Kd.own_blk (Kd.R_ne HO_4.out BK225.out (by decide))|(rw [add_block];exact Kd.own_blk (Kd.R_ne HO_4.out BK225.out (by decide)))|(show (Addr.add _ _).block ≠ _;rw [add_block];exact Kd.own_blk (Kd.R_ne HO_4.out BK225.out (by decide)))|(dsimp only;exact Kd.own_blk (Kd.R_ne HO_4.out BK225.out (by decide)))) _).trans (((cell_far (p:=⟨gb225,_,none⟩) (by first|exact Kd.own_blk (Kd.R_ne HO_4.out BK225.out (by decide))|(rw [add_block];exact Kd.own_blk (Kd.R_ne HO_4.out BK225.out (by decide)))|(show (Addr.add _ _).block ≠ _;rw [add_block];exact Kd.own_blk (Kd.R_ne HO_4.out BK225.out (by decide)))|(dsimp only;exact Kd.own_blk (Kd.R_ne HO_4.out BK225.out (by decide)))) _).trans (((cell_far (p:=⟨gb225,_,none⟩) (by first|exact Kd.own_blk (Kd.R_ne HO_4.out BK225.out (by decide))|(rw [add_block];exact Kd.own_blk (Kd.R_ne HO_4.out BK225.out (by decide)))|(show (Addr.add _ _).block ≠ _;rw [add_block];exact Kd.own_blk (Kd.R_ne HO_4.out BK225.out (by decide)))|(dsimp only;exact Kd.own_blk (Kd.R_ne HO_4.out BK225.out (by decide)))) _).trans (hHeld.2.1)))))))),((cell_far (p:=⟨gb225,_,none⟩) (by first|exact Nat.ne_of_lt (Nat.lt_of_lt_of_le (by have:=World.block_lt_of_cell? _ _ hw224_0;first|rwa [add_block] at this|exact this) GW225.out)|(rw [add_block];exact Nat.ne_of_lt (Nat.lt_of_lt_of_le (by have:=World.block_lt_of_cell? _ _ hw224_0;first|rwa [add_block] at this|exact this) GW225.out))|(show (Addr.add _ _).block ≠ _;rw [add_block];exact Nat.ne_of_lt (Nat.lt_of_lt_of_le (by have:=World.block_lt_of_cell? _ _ hw224_0;first|rwa [add_block] at this|exact this) GW225.out))|(dsimp only;exact Nat.ne_of_lt (Nat.lt_of_lt_of_le (by have:=World.block_lt_of_cell? _ _ hw224_0;first|rwa [add_block] at this|exact this) GW225.out))) _).trans (((cell_far (p:=⟨gb225,_,none⟩) (by first|exact Nat.ne_of_lt (Nat.lt_of_lt_of_le (by have:=World.block_lt_of_cell? _ _ hw224_0;first|rwa [add_block] at this|exact this) GW225.out)|(rw [add_block];exact Nat.ne_of_lt (Nat.lt_of_lt_of_le (by have:=World.block_lt_of_cell? _ _ hw224_0;first|rwa [add_block] at this|exact this) GW225.out))|(show (Addr.add _ _).block ≠ _;rw [add_block];exact Nat.ne_of_lt (Nat.lt_of_lt_of_le (by have:=World.block_lt_of_cell? _ _ hw224_0;first|rwa [add_block] at this|exact this) GW225.out))|(dsimp only;exact Nat.ne_of_lt (Nat.lt_of_lt_of_le (by have:=World.block_lt_of_cell? _ _ hw224_0;first|rwa [add_block] at this|exact this) GW225.out))) _).trans (((cell_far (p:=⟨gb225,_,none⟩) (by first|exact Nat.ne_of_lt (Nat.lt_of_lt_of_le (by have:=World.block_lt_of_cell? _ _ hw224_0;first|rwa [add_block] at this|exact this) GW225.out)|(rw [add_block];exact Nat.ne_of_lt (Nat.lt_of_lt_of_le (by have:=World.block_lt_of_cell? _ _ hw224_0;first|rwa [add_block] at this|exact this) GW225.out))|(show (Addr.add _ _).block ≠ _;rw [add_block];exact Nat.ne_of_lt (Nat.lt_of_lt_of_le (by have:=World.block_lt_of_cell? _ _ hw224_0;first|rwa [add_block] at this|exact this) GW225.out))|(dsimp only;exact Nat.ne_of_lt (Nat.lt_of_lt_of_le (by have:=World.block_lt_of_cell? _ _ hw224_0;first|rwa [add_block] at this|exact this) GW225.out))) _).trans (((cell_far (p:=⟨gb225,_,none⟩) (by first|exact Nat.ne_of_lt (Nat.lt_of_lt_of_le (by have:=World.block_lt_of_cell? _ _ hw224_0;first|rwa [add_block] at this|exact this) GW225.out)|(rw [add_block];exact Nat.ne_of_lt (Nat.lt_of_lt_of_le (by have:=World.block_lt_of_cell? _ _ hw224_0;first|rwa [add_block] at this|exact this) GW225.out))|(show (Addr.add _ _).block ≠ _;rw [add_block];exact Nat.ne_of_lt (Nat.lt_of_lt_of_le (by have:=World.block_lt_of_cell? _ _ hw224_0;first|rwa [add_block] at this|exact this) GW225.out))|(dsimp only;exact Nat.ne_of_lt (Nat.lt_of_lt_of_le (by have:=World.block_lt_of_cell? _ _ hw224_0;first|rwa [add_block] at this|exact this) GW225.out))) _).trans (hHeld.2.2.1)))))))),((cell_far (p:=⟨gb225,_,none⟩) (by first|exact Nat.ne_of_lt (Nat.lt_of_lt_of_le (by have:=World.block_lt_of_cell? _ _ hw224_1;first|rwa [add_block] at this|exact this) GW225.out)|(rw [add_block];exact Nat.ne_of_lt (Nat.lt_of_lt_of_le (by have:=World.block_lt_of_cell? _ _ hw224_1;first|rwa [add_block] at this|exact this) GW225.out))|(show (Addr.add _ _).block ≠ _;rw [add_block];exact Nat.ne_of_lt (Nat.lt_of_lt_of_le (by have:=World.block_lt_of_cell? _ _ hw224_1;first|rwa [add_block] at this|exact this) GW225.out))|(dsimp only;exact Nat.ne_of_lt (Nat.lt_of_lt_of_le (by have:=World.block_lt_of_cell? _ _ hw224_1;first|rwa [add_block] at this|exact this) GW225.out))) _).trans (((cell_far (p:=⟨gb225,_,none⟩) (by first|exact Nat.ne_of_lt (Nat.lt_of_lt_of_le (by have:=World.block_lt_of_cell? _ _ hw224_1;first|rwa [add_block] at this|exact this) GW225.out)|(rw [add_block];exact Nat.ne_of_lt (Nat.lt_of_lt_of_le (by have:=World.block_lt_of_cell? _ _ hw224_1;first|rwa [add_block] at this|exact this) GW225.out))|(show (Addr.add _ _).block ≠ _;rw [add_block];exact Nat.ne_of_lt (Nat.lt_of_lt_of_le (by have:=World.block_lt_of_cell? _ _ hw224_1;first|rwa [add_block] at this|exact this) GW225.out))|(dsimp only;exact Nat.ne_of_lt (Nat.lt_of_lt_of_le (by have:=World.block_lt_of_cell? _ _ hw224_1;first|rwa [add_block] at this|exact this) GW225.out))) _).trans (((cell_far (p:=⟨gb225,_,none⟩) (by first|exact Nat.ne_of_lt (Nat.lt_of_lt_of_le (by have:=World.block_lt_of_cell? _ _ hw224_1;first|rwa [add_block] at this|exact this) GW225.out)|(rw [add_block];exact Nat.ne_of_lt (Nat.lt_of_lt_of_le (by have:=World.block_lt_of_cell? _ _ hw224_1;first|rwa [add_block] at this|exact this) GW225.out))|(show (Addr.add _ _).block ≠ _;rw [add_block];exact Nat.ne_of_lt (Nat.lt_of_lt_of_le (by have:=World.block_lt_of_cell? _ _ hw224_1;first|rwa [add_block] at this|exact this) GW225.out))|(dsimp only;exact Nat.ne_of_lt (Nat.lt_of_lt_of_le (by have:=World.block_lt_of_cell? _ _ hw224_1;first|rwa [add_block] at this|exact this) GW225.out))) _).trans (((cell_far (p:=⟨gb225,_,none⟩) (by first|exact Nat.ne_of_lt (Nat.lt_of_lt_of_le (by have:=World.block_lt_of_cell? _ _ hw224_1;first|rwa [add_block] at this|exact this) GW225.out)|(rw [add_block];exact Nat.ne_of_lt (Nat.lt_of_lt_of_le (by have:=World.block_lt_of_cell? _ _ hw224_1;first|rwa [add_block] at this|exact this) GW225.out))|(show (Addr.add _ _).block ≠ _;rw [add_block];exact Nat.ne_of_lt (Nat.lt_of_lt_of_le (by have:=World.block_lt_of_cell? _ _ hw224_1;first|rwa [add_block] at this|exact this) GW225.out))|(dsimp only;exact Nat.ne_of_lt (Nat.lt_of_lt_of_le (by have:=World.block_lt_of_cell? _ _ hw224_1;first|rwa [add_block] at this|exact this) GW225.out))) _).trans (hHeld.2.2.2.1)))))))),((cell_far (p:=⟨gb225,_,none⟩) (by first|exact Nat.ne_of_lt (Nat.lt_of_lt_of_le (by have:=World.block_lt_of_cell? _ _ hw224_2;first|rwa [add_block] at this|exact this) GW225.out)|(rw [add_block];exact Nat.ne_of_lt (Nat.lt_of_lt_of_le (by have:=World.block_lt_of_cell? _ _ hw224_2;first|rwa [add_block] at this|exact this) GW225.out))|(show (Addr.add _ _).block ≠ _;rw [add_block];exact Nat.ne_of_lt (Nat.lt_of_lt_of_le (by have:=World.block_lt_of_cell? _ _ hw224_2;first|rwa [add_block] at this|exact this) GW225.out))|(dsimp only;exact Nat.ne_of_lt (Nat.lt_of_lt_of_le (by have:=World.block_lt_of_cell? _ _ hw224_2;first|rwa [add_block] at this|exact this) GW225.out))) _).trans (((cell_far (p:=⟨gb225,_,none⟩) (by first|exact Nat.ne_of_lt (Nat.lt_of_lt_of_le (by have:=World.block_lt_of_cell? _ _ hw224_2;first|rwa [add_block] at this|exact this) GW225.out)|(rw [add_block];exact Nat.ne_of_lt (Nat.lt_of_lt_of_le (by have:=World.block_lt_of_cell? _ _ hw224_2;first|rwa [add_block] at this|exact this) GW225.out))|(show (Addr.add _ _).block ≠ _;rw [add_block];exact Nat.ne_of_lt (Nat.lt_of_lt_of_le (by have:=World.block_lt_of_cell? _ _ hw224_2;first|rwa [add_block] at this|exact this) GW225.out))|(dsimp only;exact Nat.ne_of_lt (Nat.lt_of_lt_of_le (by have:=World.block_lt_of_cell? _ _ hw224_2;first|rwa [add_block] at this|exact this) GW225.out))) _).trans (((cell_far (p:=⟨gb225,_,none⟩) (by first|exact Nat.ne_of_lt (Nat.lt_of_lt_of_le (by have:=World.block_lt_of_cell? _ _ hw224_2;first|rwa [add_block] at this|exact this) GW225.out)|(rw [add_block];exact Nat.ne_of_lt (Nat.lt_of_lt_of_le (by have:=World.block_lt_of_cell? _ _ hw224_2;first|rwa [add_block] at this|exact this) GW225.out))|(show (Addr.add _ _).block ≠ _;rw [add_block];exact Nat.ne_of_lt (Nat.lt_of_lt_of_le (by have:=World.block_lt_of_cell? _ _ hw224_2;first|rwa [add_block] at this|exact this) GW225.out))|(dsimp only;exact Nat.ne_of_lt (Nat.lt_of_lt_of_le (by have:=World.block_lt_of_cell? _ _ hw224_2;first|rwa [add_block] at this|exact this) GW225.out))) _).trans (((cell_far (p:=⟨gb225,_,none⟩) (by first|exact Nat.ne_of_lt (Nat.lt_of_lt_of_le (by have:=World.block_lt_of_cell? _ _ hw224_2;first|rwa [add_block] at this|exact this) GW225.out)|(rw [add_block];exact Nat.ne_of_lt (Nat.lt_of_lt_of_le (by have:=World.block_lt_of_cell? _ _ hw224_2;first|rwa [add_block] at this|exact this) GW225.out))|(show (Addr.add _ _).block ≠ _;rw [add_block];exact Nat.ne_of_lt (Nat.lt_of_lt_of_le (by have:=World.block_lt_of_cell? _ _ hw224_2;first|rwa [add_block] at this|exact this) GW225.out))|(dsimp only;exact Nat.ne_of_lt (Nat.lt_of_lt_of_le (by have:=World.block_lt_of_cell? _ _ hw224_2;first|rwa [add_block] at this|exact this) GW225.out))) _).trans (hHeld.2.2.2.2.1)))))))),((cell_far (p:=⟨gb225,_,none⟩) (by first|exact Nat.ne_of_lt (Nat.lt_of_lt_of_le (by have:=World.block_lt_of_cell? _ _ hw224_3;first|rwa [add_block] at this|exact this) GW225.out)|(rw [add_block];exact Nat.ne_of_lt (Nat.lt_of_lt_of_le (by have:=World.block_lt_of_cell? _ _ hw224_3;first|rwa [add_block] at this|exact this) GW225.out))|(show (Addr.add _ _).block ≠ _;rw [add_block];exact Nat.ne_of_lt (Nat.lt_of_lt_of_le (by have:=World.block_lt_of_cell? _ _ hw224_3;first|rwa [add_block] at this|exact this) GW225.out))|(dsimp only;exact Nat.ne_of_lt (Nat.lt_of_lt_of_le (by have:=World.block_lt_of_cell? _ _ hw224_3;first|rwa [add_block] at this|exact this) GW225.out))) _).trans (((cell_far (p:=⟨gb225,_,none⟩) (by first|exact Nat.ne_of_lt (Nat.lt_of_lt_of_le (by have:=World.block_lt_of_cell? _ _ hw224_3;first|rwa [add_block] at this|exact this) GW225.out)|(rw [add_block];exact Nat.ne_of_lt (Nat.lt_of_lt_of_le (by have:=World.block_lt_of_cell? _ _ hw224_3;first|rwa [add_block] at this|exact this) GW225.out))|(show (Addr.add _ _).block ≠ _;rw [add_block];exact Nat.ne_of_lt (Nat.lt_of_lt_of_le (by have:=World.block_lt_of_cell? _ _ hw224_3;first|rwa [add_block] at this|exact this) GW225.out))|(dsimp only;exact Nat.ne_of_lt (Nat.lt_of_lt_of_le (by have:=World.block_lt_of_cell? _ _ hw224_3;first|rwa [add_block] at this|exact this) GW225.out))) _).trans (((cell_far (p:=⟨gb225,_,none⟩) (by first|exact Nat.ne_of_lt (Nat.lt_of_lt_of_le (by have:=World.block_lt_of_cell? _ _ hw224_3;first|rwa [add_block] at this|exact this) GW225.out)|(rw [add_block];exact Nat.ne_of_lt (Nat.lt_of_lt_of_le (by have:=World.block_lt_of_cell? _ _ hw224_3;first|rwa [add_block] at this|exact this) GW225.out))|(show (Addr.add _ _).block ≠ _;rw [add_block];exact Nat.ne_of_lt (Nat.lt_of_lt_of_le (by have:=World.block_lt_of_cell? _ _ hw224_3;first|rwa [add_block] at this|exact this) GW225.out))|(dsimp only;exact Nat.ne_of_lt (Nat.lt_of_lt_of_le (by have:=World.block_lt_of_cell? _ _ hw224_3;first|rwa [add_block] at this|exact this) GW225.out))) _).trans (((cell_far (p:=⟨gb225,_,none⟩) (by first|exact Nat.ne_of_lt (Nat.lt_of_lt_of_le (by have:=World.block_lt_of_cell? _ _ hw224_3;first|rwa [add_block] at this|exact this) GW225.out)|(rw [add_block];exact Nat.ne_of_lt (Nat.lt_of_lt_of_le (by have:=World.block_lt_of_cell? _ _ hw224_3;first|rwa [add_block] at this|exact this) GW225.out))|(show (Addr.add _ _).block ≠ _;rw [add_block];exact Nat.ne_of_lt (Nat.lt_of_lt_of_le (by have:=World.block_lt_of_cell? _ _ hw224_3;first|rwa [add_block] at this|exact this) GW225.out))|(dsimp only;exact Nat.ne_of_lt (Nat.lt_of_lt_of_le (by have:=World.block_lt_of_cell? _ _ hw224_3;first|rwa [add_block] at this|exact this) GW225.out))) _).trans (hHeld.2.2.2.2.2))))))))⟩ (fun hHeld => ?_)
         clear hK K
         refine done_ (done_of HT_.out (by kernel_rfl)) ?_
         have n0_ : Aside0 (Kd.R k41 41 ((((w73.setCell ⟨gb225,0,none⟩ (.string ((rd_T41 (rd_L5 l0 x5_2) (rd x4_1 x5_2)).f0.f0))).setCell ⟨gb225,1,none⟩ (.int .u64 ((rd_T41 (rd_L5 l0 x5_2) (rd x4_1 x5_2)).f0.f1))).setCell ⟨gb225,2,none⟩ (.int .u8 ((rd_T41 (rd_L5 l0 x5_2) (rd x4_1 x5_2)).f0.f2))).setCell ⟨gb225,3,none⟩ (.string ((rd_T41 (rd_L5 l0 x5_2) (rd x4_1 x5_2)).f1))) w.heap.size (fun k_ => k_ ≠ gb225) u3 x3_1):=⟨by (with_reducible repeat (first|apply zA|apply zN|apply zD));exact Kd.R_mono (Kd.R_far (p:=⟨gb225,3,none⟩) (Kd.R_far (p:=⟨gb225,2,none⟩) (Kd.R_far (p:=⟨gb225,1,none⟩) (Kd.R_far (p:=⟨gb225,0,none⟩) (Kd.R_mono HO_3.out (fun k_ hk => (⟨hk,hk.2⟩ : _ ∧ k_ ≠ gb225))) (fun _ hk => hk.2) (.string ((rd_T41 (rd_L5 l0 x5_2) (rd x4_1 x5_2)).f0.f0))) (fun _ hk => hk.2) (.int .u64 ((rd_T41 (rd_L5 l0 x5_2) (rd x4_1 x5_2)).f0.f1))) (fun _ hk => hk.2) (.int .u8 ((rd_T41 (rd_L5 l0 x5_2) (rd x4_1 x5_2)).f0.f2))) (fun _ hk => hk.2) (.string ((rd_T41 (rd_L5 l0 x5_2) (rd x4_1 x5_2)).f1))) (fun _ hk => hk.1.2)⟩
         have n1_ : Aside0 (Kd.R (Kd.int .i64) 3 ((((w73.setCell ⟨gb225,0,none⟩ (.string ((rd_T41 (rd_L5 l0 x5_2) (rd x4_1 x5_2)).f0.f0))).setCell ⟨gb225,1,none⟩ (.int .u64 ((rd_T41 (rd_L5 l0 x5_2) (rd x4_1 x5_2)).f0.f1))).setCell ⟨gb225,2,none⟩ (.int .u8 ((rd_T41 (rd_L5 l0 x5_2) (rd x4_1 x5_2)).f0.f2))).setCell ⟨gb225,3,none⟩ (.string ((rd_T41 (rd_L5 l0 x5_2) (rd x4_1 x5_2)).f1))) w.heap.size (fun _ => True) (.slice (some ad223) x4_1.length co72) x4_1):=⟨by (with_reducible repeat (first|apply zA|apply zN|apply zD));exact Kd.R_mono (Kd.R_far (p:=⟨gb225,3,none⟩) (Kd.R_far (p:=⟨gb225,2,none⟩) (Kd.R_far (p:=⟨gb225,1,none⟩) (Kd.R_far (p:=⟨gb225,0,none⟩) (Kd.R_types HO_4.out BK225.out (by decide)) (fun _ hk => hk.2) (.string ((rd_T41 (rd_L5 l0 x5_2) (rd x4_1 x5_2)).f0.f0))) (fun _ hk => hk.2) (.int .u64 ((rd_T41 (rd_L5 l0 x5_2) (rd x4_1 x5_2)).f0.f1))) (fun _ hk => hk.2) (.int .u8 ((rd_T41 (rd_L5 l0 x5_2) (rd x4_1 x5_2)).f0.f2))) (fun _ hk => hk.2) (.string ((rd_T41 (rd_L5 l0 x5_2) (rd x4_1 x5_2)).f1))) (fun _ hk => trivial)⟩
         have n2_ : Aside0 (((((w73.setCell ⟨gb225,0,none⟩ (.string ((rd_T41 (rd_L5 l0 x5_2) (rd x4_1 x5_2)).f0.f0))).setCell ⟨gb225,1,none⟩ (.int .u64 ((rd_T41 (rd_L5 l0 x5_2) (rd x4_1 x5_2)).f0.f1))).setCell ⟨gb225,2,none⟩ (.int .u8 ((rd_T41 (rd_L5 l0 x5_2) (rd x4_1 x5_2)).f0.f2))).setCell ⟨gb225,3,none⟩ (.string ((rd_T41 (rd_L5 l0 x5_2) (rd x4_1 x5_2)).f1))).heap[gb225]? = some (.cells #[.string ((rd_T41 (rd_L5 l0 x5_2) (rd x4_1 x5_2)).f0.f0),.int .u64 ((rd_T41 (rd_L5 l0 x5_2) (rd x4_1 x5_2)).f0.f1),.int .u8 ((rd_T41 (rd_L5 l0 x5_2) (rd x4_1 x5_2)).f0.f2),.string ((rd_T41 (rd_L5 l0 x5_2) (rd x4_1 x5_2)).f1)] 41 (0,0))):=⟨by (with_reducible repeat (first|refine bN ?_ _|refine bD ?_|refine bA ?_ _));refine blk_put (cs:=#[.string ((rd_T41 (rd_L5 l0 x5_2) (rd x4_1 x5_2)).f0.f0),.int .u64 ((rd_T41 (rd_L5 l0 x5_2) (rd x4_1 x5_2)).f0.f1),.int .u8 ((rd_T41 (rd_L5 l0 x5_2) (rd x4_1 x5_2)).f0.f2),.string (⟨#[]⟩ : BA)]) ?_ 3 _ rfl;(with_reducible repeat (first|refine bN ?_ _|refine bD ?_|refine bA ?_ _));refine blk_put (cs:=#[.string ((rd_T41 (rd_L5 l0 x5_2) (rd x4_1 x5_2)).f0.f0),.int .u64 ((rd_T41 (rd_L5 l0 x5_2) (rd x4_1 x5_2)).f0.f1),.int .u8 0,.string (⟨#[]⟩ : BA)]) ?_ 2 _ rfl;(with_reducible repeat (first|refine bN ?_ _|refine bD ?_|refine bA ?_ _));refine blk_put (cs:=#[.string ((rd_T41 (rd_L5 l0 x5_2) (rd x4_1 x5_2)).f0.f0),.int .u64 0,.int .u8 0,.string (⟨#[]⟩ : BA)]) ?_ 1 _ rfl;(with_reducible repeat (first|refine bN ?_ _|refine bD ?_|refine bA ?_ _));refine blk_put (cs:=#[.string (⟨#[]⟩ : BA),.int .u64 0,.int .u8 0,.string (⟨#[]⟩ : BA)]) ?_ 0 _ rfl;(with_reducible repeat (first|refine bN ?_ _|refine bD ?_|refine bA ?_ _));exact BK225.out⟩
         have n3_ : Aside0 (Below w.heap.size w ((((w73.setCell ⟨gb225,0,none⟩ (.string ((rd_T41 (rd_L5 l0 x5_2) (rd x4_1 x5_2)).f0.f0))).setCell ⟨gb225,1,none⟩ (.int .u64 ((rd_T41 (rd_L5 l0 x5_2) (rd x4_1 x5_2)).f0.f1))).setCell ⟨gb225,2,none⟩ (.int .u8 ((rd_T41 (rd_L5 l0 x5_2) (rd x4_1 x5_2)).f0.f2))).setCell ⟨gb225,3,none⟩ (.string ((rd_T41 (rd_L5 l0 x5_2) (rd x4_1 x5_2)).f1)))):=⟨by repeat (first|(with_reducible first|exact HB.out|apply below_alloc|apply pw_below_drewN|apply below_drew1|refine below_set ?_ GE225.out)|exact HB.out)⟩
         (try clear HO_3)
         (try clear HO_4)
         (try clear BK225)
         (try clear HB)
         generalize ((((w73.setCell ⟨gb225,0,none⟩ (.string ((rd_T41 (rd_L5 l0 x5_2) (rd x4_1 x5_2)).f0.f0))).setCell ⟨gb225,1,none⟩ (.int .u64 ((rd_T41 (rd_L5 l0 x5_2) (rd x4_1 x5_2)).f0.f1))).setCell ⟨gb225,2,none⟩ (.int .u8 ((rd_T41 (rd_L5 l0 x5_2) (rd x4_1 x5_2)).f0.f2))).setCell ⟨gb225,3,none⟩ (.string ((rd_T41 (rd_L5 l0 x5_2) (rd x4_1 x5_2)).f1))) = w78 at n0_ n1_ n2_ n3_ ⊢
         have HO_3:=n0_
         have HO_4:=n1_
         have BK225:=n2_
         have HB:=n3_
         clear n0_ n1_ n2_ n3_
         have p226 : 0 ≤ (x5_2 : Int):=of_decide_eq_true (by first|(with_reducible assumption)|assumption)
         have q226 : x5_2 < (x4_1.length : Int):=of_decide_eq_true (by first|(with_reducible assumption)|assumption)
         obtain ⟨ad226,e226,hx226_0⟩:=Kd.at_int (Kd.R_reads' HO_4.out).2.2 x5_2 p226 q226
         obtain rfl : ad223 = ad226:=(by injection e226)
         replace p226:=eq_true p226
         replace q226:=eq_true q226
         have p35 : 0 ≤ (x5_2 : Int):=of_decide_eq_true (by first|(with_reducible assumption)|assumption)
         have q35 : (x5_2 : Int) < ((x4_1.length : Int) : Int):=of_decide_eq_true (by first|(with_reducible assumption)|assumption)
         obtain ⟨go35,co35,eo35,gb35,gl35,cl35,HG35⟩:=Kd.R_form HO_4.out (by omega)
         (first|cases eo35|(injection eo35 with ea_ en_ ec_;(first|subst ea_|(injection ea_ with ea_;subst ea_));subst ec_;clear en_))
         have GB35:=Aside0.mk gb35
         have GG35:=Aside0.mk HG35
         clear gb35 gl35 HG35
         (first|simp only [add_plain] at hx223_0|skip)
         (first|simp only [add_plain] at hx226_0|skip)
         obtain ⟨hx35_0,hf35_0⟩:=Kd.R_celln 0 HO_4.out (x5_2 : Int) p35 q35
         replace p35:=eq_true p35
         replace q35:=eq_true q35
         obtain ⟨hy79_,hz79_⟩:=Kd.R_celln 0 HO_4.out (x5_2 : Int) (of_decide_eq_true (by first|(with_reducible assumption)|assumption)) (of_decide_eq_true (by first|(with_reducible assumption)|assumption))
         have HP79:=Kd.R_putg HO_4.out (x5_2 : Int) (wrap64 ((rd x4_1 x5_2) + 1))
         try go_wp2_with (first|((with_reducible refine gate_store (t:=3) (p:=78) rfl ?_);refine store_event (t:=3) (p:=78) (v:=?vo_w80) (w1:=(w78.setCell ⟨go35,(x5_2 : Int).toNat,none⟩ (.int .i64 (wrap64 ((rd x4_1 x5_2) + 1))))) ?hg ?ho ?hn ?hr ?_;(case ho => rfl);(case hg => rfl);(case hn => rfl);(case hr => first|(go_simp;done)|(go_simp;rfl));intro w80 hw;have hg : w78.grownBy w80 (some go35):=(by rw [hw];exact HP79.2);have hp_ : Kd.R (Kd.int .i64) 3 w80 w.heap.size (fun _ => True) (.slice (some ⟨go35,0,none⟩) x4_1.length co72) y227:=(by rw [hw,Ny227.out];exact HP79.1);clear HP79;have n0_:=Aside0.mk (Kd.R_over' (v:=(.slice (some ⟨go35,0,none⟩) x4_1.length co72)) (by (with_reducible repeat (first|apply zA|apply zN|apply zD));exact HO_3.out) (Kd.R_typed HO_4.out) (by decide) hg);have n1_:=Aside0.mk (hp_);have n2_:=Aside0.mk (blk_grown (g:=gb225) (o:=.cells #[.string ((rd_T41 (rd_L5 l0 x5_2) (rd x4_1 x5_2)).f0.f0),.int .u64 ((rd_T41 (rd_L5 l0 x5_2) (rd x4_1 x5_2)).f0.f1),.int .u8 ((rd_T41 (rd_L5 l0 x5_2) (rd x4_1 x5_2)).f0.f2),.string ((rd_T41 (rd_L5 l0 x5_2) (rd x4_1 x5_2)).f1)] 41 (0,0)) (by (with_reducible repeat (first|refine bN ?_ _|refine bD ?_|refine bA ?_ _));exact BK225.out) hg (Kd.R_ne HO_4.out BK225.out (by decide)));have n3_:=Aside0.mk ((by rw [hw];exact below_set (HB.out) GB35.out : Below w.heap.size w w80));clear HO_3;clear HO_4;clear BK225;clear HB;have HO_3:=n0_;have HO_4:=n1_;have BK225:=n2_;have HB:=n3_;clear n0_ n1_ n2_ n3_;clear hg hw hp_))
         have n0_:=Aside0.mk (Kd.R_drew HO_3.out)
         have n1_:=Aside0.mk (Kd.R_drew HO_4.out)
         have n2_:=Aside0.mk (blk_drew BK225.out)
         have n3_:=Aside0.mk (below_drew1 HB.out)
         clear HO_3
         clear HO_4
         clear BK225
         clear HB
         have HO_3:=n0_
         have HO_4:=n1_
         have BK225:=n2_
         have HB:=n3_
         clear n0_ n1_ n2_ n3_
         obtain ⟨Ao82,co82,eo82⟩:=Kd.R_slice HO_3.out
         (first|subst eo82|(injection eo82 with f1_ f2_ f3_;have f4_:=f1_.symm;have f5_:=f3_.symm;clear f1_ f2_ f3_;subst f4_;subst f5_))
         have p231 : 0 ≤ ((ji52) : Int):=of_decide_eq_true (by first|(with_reducible assumption)|assumption)
         have q231 : (ji52) < (x3_1.length : Int):=of_decide_eq_true (by first|(with_reducible assumption)|assumption)
         obtain ⟨ad231,e231,hx231_0,hx231_1,hx231_2,hx231_3⟩:=at_T41 (Kd.R_reads' HO_3.out).2.2 (ji52) p231 q231
         cases e231
         replace p231:=eq_true p231
         replace q231:=eq_true q231
         refine start_ (n:=15) (S:=fun w' => w'.cell? ⟨gb225,0,none⟩ = some (.string ((rd_T41 (rd_L5 l0 x5_2) (rd x4_1 x5_2)).f0.f0)) ∧ w'.cell? ⟨gb225,1,none⟩ = some (.int .u64 ((rd_T41 (rd_L5 l0 x5_2) (rd x4_1 x5_2)).f0.f1)) ∧ w'.cell? ⟨gb225,2,none⟩ = some (.int .u8 ((rd_T41 (rd_L5 l0 x5_2) (rd x4_1 x5_2)).f0.f2)) ∧ w'.cell? ⟨gb225,3,none⟩ = some (.string ((rd_T41 (rd_L5 l0 x5_2) (rd x4_1 x5_2)).f1)) ∧ w'.cell? (ad231.add (((ji52)).toNat * 4)) = some (.string ((rd_T41 x3_1 (ji52)).f0.f0)) ∧ w'.cell? ⟨(ad231.add (((ji52)).toNat * 4)).block,(ad231.add (((ji52)).toNat * 4)).off + 1,none⟩ = some (.int .u64 ((rd_T41 x3_1 (ji52)).f0.f1)) ∧ w'.cell? ⟨(ad231.add (((ji52)).toNat * 4)).block,(ad231.add (((ji52)).toNat * 4)).off + 2,none⟩ = some (.int .u8 ((rd_T41 x3_1 (ji52)).f0.f2)) ∧ w'.cell? ⟨(ad231.add (((ji52)).toNat * 4)).block,(ad231.add (((ji52)).toNat * 4)).off + 3,none⟩ = some (.string ((rd_T41 x3_1 (ji52)).f1))) (ds:=[]) #[ff,ff,ff,ff,ff,ff,ff,ff,ff,ff,ff,ff,ff,ff,ff] (by kernel_rfl) rfl rfl ⟨(blk_cell BK225.out 0).trans rfl,(blk_cell BK225.out 1).trans rfl,(blk_cell BK225.out 2).trans rfl,(blk_cell BK225.out 3).trans rfl,hx231_0,hx231_1,hx231_2,hx231_3⟩ (fun hHeld => ?_);refine with_tabW ratlineref11_All.tab13 ratlineref11_All.bits13 (fun HT_ HW_ => ?_)
         generalize w80.drew = w81 at HO_3 HO_4 BK225 HB hx231_0 hx231_1 hx231_2 hx231_3 hHeld ⊢
         refine pure_ (i:=0) (N:=some 79) (v:=?_) (a':=?_) #[tt,ff,ff,ff,ff,ff,ff,ff,ff,ff,ff,ff,ff,ff,ff] rfl rfl (any_of HT_.out (by kernel_rfl)) (fun _ _ _ h => h) (Or.inl ⟨by rfl,?_⟩) ?_ ?_
         rotate_left
         ·intro w'
          go_simp
          with_reducible rfl
         rotate_left
         ·simp only [Act.put,sA,sZ,sS,i64_w,i32_w]
          rfl
         refine pure_ (i:=1) (N:=some 80) (v:=?_) (a':=?_) #[tt,tt,ff,ff,ff,ff,ff,ff,ff,ff,ff,ff,ff,ff,ff] rfl rfl (any_of HT_.out (by kernel_rfl)) (fun _ _ _ h => h) (Or.inl ⟨by rfl,?_⟩) ?_ ?_
         rotate_left
         ·intro w'
          go_simp
          with_reducible rfl
         rotate_left
         ·simp only [Act.put,sA,sZ,sS,i64_w,i32_w]
          rfl
         refine pure_ (i:=2) (N:=some 81) (v:=?_) (a':=?_) #[tt,tt,tt,ff,ff,ff,ff,ff,ff,ff,ff,ff,ff,ff,ff] rfl rfl (any_of HT_.out (by kernel_rfl)) (fun _ _ _ h => h) (Or.inl ⟨by rfl,?_⟩) ?_ ?_
         rotate_left
         ·intro w'
          go_simp
          with_reducible rfl
         rotate_left
         ·simp only [Act.put,sA,sZ,sS,i64_w,i32_w]
          rfl
         refine pure_ (i:=3) (N:=some 82) (v:=?_) (a':=?_) #[tt,tt,tt,tt,ff,ff,ff,ff,ff,ff,ff,ff,ff,ff,ff] rfl rfl (any_of HT_.out (by kernel_rfl)) (fun _ _ _ h => h) (Or.inl ⟨by rfl,?_⟩) ?_ ?_
         rotate_left
         ·intro w'
          go_simp
          with_reducible rfl
         rotate_left
         ·simp only [Act.put,sA,sZ,sS,i64_w,i32_w]
          rfl
         refine pure_ (i:=4) (N:=some 83) (v:=?_) (a':=?_) #[tt,tt,tt,tt,tt,ff,ff,ff,ff,ff,ff,ff,ff,ff,ff] rfl rfl (any_of HT_.out (by kernel_rfl)) (fun _ _ _ h => h) (Or.inl ⟨by rfl,?_⟩) ?_ ?_
         rotate_left
         ·intro w'
          go_simp
          with_reducible rfl
         rotate_left
         ·simp only [Act.put,sA,sZ,sS,i64_w,i32_w]
          rfl
         refine pure_ (i:=5) (N:=some 84) (v:=?_) (a':=?_) #[tt,tt,tt,tt,tt,tt,ff,ff,ff,ff,ff,ff,ff,ff,ff] rfl rfl (any_of HT_.out (by kernel_rfl)) (fun _ _ _ h => h) (Or.inl ⟨by rfl,?_⟩) ?_ ?_
         rotate_left
         ·intro w'
          go_simp
          with_reducible rfl
         rotate_left
         ·simp only [Act.put,sA,sZ,sS,i64_w,i32_w]
          rfl
         refine pure_ (i:=6) (N:=some 85) (v:=?_) (a':=?_) #[tt,tt,tt,tt,tt,tt,tt,ff,ff,ff,ff,ff,ff,ff,ff] rfl rfl (any_of HT_.out (by kernel_rfl)) (fun _ _ _ h => h) (Or.inl ⟨by rfl,?_⟩) ?_ ?_
         rotate_left
         ·intro w'
          go_simp
          with_reducible rfl
         rotate_left
         ·simp only [Act.put,sA,sZ,sS,i64_w,i32_w]
          rfl
         refine pure_ (i:=7) (N:=some 86) (v:=?_) (a':=?_) #[tt,tt,tt,tt,tt,tt,tt,tt,ff,ff,ff,ff,ff,ff,ff] rfl rfl (any_of HT_.out (by kernel_rfl)) (fun _ _ _ h => h) (Or.inl ⟨by rfl,?_⟩) ?_ ?_
         rotate_left
         ·intro w'
          go_simp
          with_reducible rfl
         rotate_left
         ·simp only [Act.put,sA,sZ,sS,i64_w,i32_w]
          rfl
         refine pure_ (i:=8) (N:=some 87) (v:=?_) (a':=?_) #[tt,tt,tt,tt,tt,tt,tt,tt,tt,ff,ff,ff,ff,ff,ff] rfl rfl (any_of HT_.out (by kernel_rfl)) (fun _ _ _ h => h) (Or.inl ⟨by rfl,?_⟩) ?_ ?_
         rotate_left
         ·intro w'
          go_simp
          with_reducible rfl
         rotate_left
         ·simp only [Act.put,sA,sZ,sS,i64_w,i32_w]
          rfl
         refine pure_ (i:=9) (N:=some 88) (v:=?_) (a':=?_) #[tt,tt,tt,tt,tt,tt,tt,tt,tt,tt,ff,ff,ff,ff,ff] rfl rfl (any_of HT_.out (by kernel_rfl)) (fun _ _ _ h => h) (Or.inl ⟨by rfl,?_⟩) ?_ ?_
         rotate_left
         ·intro w'
          go_simp
          with_reducible rfl
         rotate_left
         ·simp only [Act.put,sA,sZ,sS,i64_w,i32_w]
          rfl
         refine pure_ (i:=11) (N:=some 90) (v:=?_) (a':=?_) #[tt,tt,tt,tt,tt,tt,tt,tt,tt,tt,ff,tt,ff,ff,ff] rfl rfl (any_of HT_.out (by kernel_rfl)) (fun _ _ _ h => h) (Or.inl ⟨by rfl,?_⟩) ?_ ?_
         rotate_left
         ·intro w'
          go_simp
          with_reducible rfl
         rotate_left
         ·simp only [Act.put,sA,sZ,sS,i64_w,i32_w]
          rfl
         refine take_ (i:=10) (N:=some 89) (v:=?_) (a':=?_) #[tt,tt,tt,tt,tt,tt,tt,tt,tt,tt,tt,tt,ff,ff,ff] rfl rfl (take_ofW HT_.out HW_.out (by kernel_rfl)) (fun _ _ _ h => h) (Or.inl ⟨by rfl,?_⟩) hHeld ?_ ?_
         rotate_left
         ·rintro w' ⟨s0,s1,s2,s3,s4,s5,s6,s7⟩
          go_simp
          with_reducible rfl
         rotate_left
         ·simp only [Act.put,sA,sZ,sS,i64_w,i32_w]
          rfl
         refine take_ (i:=12) (N:=some 91) (v:=?_) (a':=?_) #[tt,tt,tt,tt,tt,tt,tt,tt,tt,tt,tt,tt,tt,ff,ff] rfl rfl (take_ofW HT_.out HW_.out (by kernel_rfl)) (fun _ _ _ h => h) (Or.inl ⟨by rfl,?_⟩) hHeld ?_ ?_
         rotate_left
         ·rintro w' ⟨s0,s1,s2,s3,s4,s5,s6,s7⟩
          go_simp
          with_reducible rfl
         rotate_left
         ·simp only [Act.put,sA,sZ,sS,i64_w,i32_w]
          rfl
         refine pure_ (i:=13) (N:=some 92) (v:=?_) (a':=?_) #[tt,tt,tt,tt,tt,tt,tt,tt,tt,tt,tt,tt,tt,tt,ff] rfl rfl (any_of HT_.out (by kernel_rfl)) (fun _ _ _ h => h) (Or.inl ⟨by rfl,?_⟩) ?_ ?_
         rotate_left
         ·intro w'
          go_simp
          with_reducible rfl
         rotate_left
         ·simp only [Act.put,sA,sZ,sS,i64_w,i32_w]
          rfl
         refine pure_ (i:=14) (N:=some 93) (v:=?_) (a':=?_) #[tt,tt,tt,tt,tt,tt,tt,tt,tt,tt,tt,tt,tt,tt,tt] rfl rfl (any_of HT_.out (by kernel_rfl)) (fun _ _ _ h => h) (Or.inl ⟨by rfl,?_⟩) ?_ ?_
         rotate_left
         ·intro w'
          go_simp
          with_reducible rfl
         rotate_left
         ·simp only [Act.put,sA,sZ,sS,i64_w,i32_w]
          rfl
         refine done_ (done_of HT_.out (by kernel_rfl)) ?_
         try go_wp2
         go_roundg k2
         case measure => have:=HK1.out;have:=HK2.out;omega
         case rel => exact ⟨(x3_1),(y227),H',⟨by have:=HK1.out;have:=HK2.out;omega⟩,⟨by (with_reducible repeat (first|apply zA|apply zN|apply zD));exact Kd.R_mono HO_3.out (fun _ hk => trivial)⟩,⟨by (with_reducible repeat (first|apply zA|apply zN|apply zD));exact HO_4.out⟩,⟨by repeat (first|(with_reducible first|exact HB.out|apply below_alloc|apply pw_below_drewN|apply below_drew1|refine below_set ?_ GE225.out)|exact HB.out)⟩⟩
end Go.Proofs.Ytojemmipkpckbaa.P

end

section
namespace Go.Proofs.Ytojemmipkpckbaa.P
open Go.RowKit Go.Proofs.YtojemmipkpckbaaG Go.Proofs.YtojemmipkpckbaaW.PrintWords Go.Proofs.YtojemmipkpckbaaW.PrintLast Go.Proofs.YtojemmipkpckbaaW.PrintMore
attribute [local go_sem] str_gtr str_geq str_leq max2_int min2_int max_two min_two max_three min_three max_four min_four   -- for this text's walks alone
set_option linter.unusedVariables false
set_option linter.unusedSimpArgs false

mutual
def ratlineref11_Get.l0 : Nat → ByteArray → Int → List (S41) → Int → Option (ByteArray × Bool)
  | 0, _, _, _, _ => none
  | k + 1, x1, x2, x8, x9 => if x9 < (x8.length : Int) then (if 0 ≤ x9 then (if ((rd_T41 x8 x9).f0.f0).toList = x1.toList then (ratlineref11_Get.j1 k x1 x2 x8 x9 (decide (((rd_T41 x8 x9).f0.f1) ≤ x2))) else (ratlineref11_Get.j1 k x1 x2 x8 x9 false)) else (none)) else (some ((⟨#[]⟩ : ByteArray), false))
def ratlineref11_Get.j1 : Nat → ByteArray → Int → List (S41) → Int → Bool → Option (ByteArray × Bool)
  | 0, _, _, _, _, _ => none
  | k + 1, x1, x2, x8, x9, x35 => if x35 = true then (if 0 ≤ x9 then (if x9 < (x8.length : Int) then (if ((rd_T41 x8 x9).f0.f2) = 1 then (some ((rd_T41 x8 x9).f1, true)) else (some ((⟨#[]⟩ : ByteArray), false))) else (none)) else (none)) else (ratlineref11_Get.l0 k x1 x2 x8 (wrap64 (x9 + 1)))
end
def ratlineref11_Get.f (k : Nat) (l0 : List (List (S41))) (a1 : ByteArray) (a2 : Int) : Option (ByteArray × Bool) := (ratlineref11_All.f k l0).bind fun t235 => (ratlineref11_Get.l0 k a1 a2 t235 0)
set_option maxHeartbeats 8000000 in
set_option maxRecDepth 100000 in
theorem ratlineref11_Get.calls (k : Nat) (A0 : Option Addr) (c0 : Nat) (l0 : List (List (S41))) (a1 : ByteArray) (a2 : Int) (r1 : ByteArray) (r2 : Bool) (w : World) (hr0 : Kd.C (Kd.slice 41 k41) w A0 l0.length l0) (hc0 : l0.length ≤ c0) (h : ratlineref11_Get.f k l0 a1 a2 = some (r1, r2)) :
    Calls Try.prog 17 #[.slice A0 l0.length c0, .string a1, .int .u64 a2] w fun e w' => e = .returned (.tuple #[.string r1, .bool r2]) ∧ Below w.heap.size w w' := by
  have HR0 := Aside0.mk hr0
  have HC0 := Aside0.mk hc0
  clear hr0 hc0
  have HB := Aside0.mk (Below.refl w.heap.size w)
  have H : ((ratlineref11_All.f k l0).bind fun t235 => (ratlineref11_Get.l0 k a1 a2 t235 0)) = some (r1, r2) := h
  clear h
  replace H := Option.bind_eq_some_iff.mp H
  obtain ⟨t235, A40, H⟩ := H
  replace H : (ratlineref11_Get.l0 k a1 a2 t235 0) = some (r1, r2) := H
  have A4 := Aside0.mk A40
  clear A40
  have H' := Aside0.mk H
  clear H
  go_enter Try.func17, Try.ntmps17
  go_wp2_with (first | ((with_reducible refine gate_callee (f := 20) rfl ?_); refine goesL_ (some 11) rfl rfl Try.func20 (by kernel_rfl) rfl #[.slice A0 l0.length c0] rfl (by (try simp only [List.map_toArray, List.map_cons, List.map_nil]); first | done | rfl | (simp only [List.length_drop, List.length_take]; rfl)) ?_; (with_reducible refine (ratlineref11_All.calls k _ _ l0 t235 _ ?side1 ?side2 A4.out).mono ?_); (case side1 => repeat (first | exact HR0.out | (with_reducible refine Kd.C_alloc ?_ _) | (with_reducible refine Kd.C_drewN ?_ _) | (with_reducible refine Kd.C_drew ?_))); (case side2 => exact HC0.out); rintro e w5 ⟨v236, rfl, ho0, hb⟩; refine ⟨_, rfl, ?_⟩; have n0_ := Aside0.mk (Kd.R_lower ho0 (below_size (by repeat (first | (with_reducible first | exact HB.out | apply below_alloc | apply pw_below_drewN | apply below_drew1) | exact HB.out)))); have n1_ := Aside0.mk (below_step (by repeat (first | (with_reducible first | exact HB.out | apply below_alloc | apply pw_below_drewN | apply below_drew1) | exact HB.out)) hb); clear HB; have HO237 := n0_; have HB := n1_; clear n0_ n1_; (try clear hb); (try clear hb2); (try clear hk); (try clear hi); (try clear ho0)))
  go_loopg [9] k (fun kq v9 w' => ∃ (x9_1 : Int), v9 = .int .i64 x9_1 ∧ Aside0 (ratlineref11_Get.l0 kq a1 a2 t235 x9_1 = some (r1, r2)) ∧ Aside0 (kq ≤ k) ∧ Aside0 (Kd.R k41 41 w' w.heap.size (fun _ => True) v236 t235) ∧ Aside0 (Below w.heap.size w w'))
  case atStart => exact ⟨(0), (by first | rfl | (simp; done) | (simp [*]; done)), H', ⟨Nat.le_refl _⟩, ⟨by (with_reducible repeat (first | apply Kd.R_alloc | apply Kd.R_drewN | apply Kd.R_drew)); exact HO237.out⟩, ⟨by repeat (first | (with_reducible first | exact HB.out | apply below_alloc | apply pw_below_drewN | apply below_drew1) | exact HB.out)⟩⟩
  case round =>
    clear H'
    try clear c1
    try clear c2
    try clear p2
    obtain ⟨x9_1, rfl, HA, HK1, HO_8, HB⟩ := hrel
    cases gk with
    | zero => exact absurd HA.out (by simp [ratlineref11_Get.l0])
    | succ k1 =>
      have H := HA.out
      clear HA
      simp only [ratlineref11_Get.l0] at H
      by_cases c6 : x9_1 < (t235.length : Int)
      · rw [if_pos c6] at H
        have c6b0 : decide (x9_1 < (t235.length : Int)) = true := decide_eq_true c6
        clear c6
        have HC7 := Aside0.mk H
        clear H
        obtain ⟨Ao8, co8, eo8⟩ := Kd.R_slice HO_8.out
        subst eo8
        go_upto_region 5 with (fail)
        go_cut [35] (fun v35 wc => ∃ (kq : Nat) (x35_6 : Bool), v35 = .bool x35_6 ∧ Aside0 (ratlineref11_Get.j1 kq a1 a2 t235 x9_1 x35_6 = some (r1, r2)) ∧ Aside0 (kq ≤ k1) ∧ Aside0 (Kd.R k41 41 wc w.heap.size (fun _ => True) (.slice Ao8 t235.length co8) t235) ∧ Aside0 (Below w.heap.size w wc))
        case first =>
          have H := HC7.out
          clear HC7
          by_cases c9 : 0 ≤ x9_1
          · rw [if_pos c9] at H
            have c9b0 : decide (0 ≤ x9_1) = true := decide_eq_true c9
            clear c9
            (first | rw [c9b0] | (simp only [i64_w, i32_w]; rw [c9b0]) | skip)
            by_cases c10 : ((rd_T41 t235 x9_1).f0.f0).toList = a1.toList
            · rw [if_pos c10] at H
              have c10b0 : (((rd_T41 t235 x9_1).f0.f0).toList == a1.toList) = true := beq_iff_eq.mpr c10
              have c10b1 : (((rd_T41 t235 x9_1).f0.f0).toList != a1.toList) = false := bne_eq_false_iff_eq.mpr c10
              clear c10
              have H' := Aside0.mk H
              clear H
              have p238 : 0 ≤ (x9_1 : Int) := of_decide_eq_true (by first | (with_reducible assumption) | assumption)
              have q238 : x9_1 < (t235.length : Int) := of_decide_eq_true (by first | (with_reducible assumption) | assumption)
              obtain ⟨ad238, e238, hx238_0, hx238_1, hx238_2, hx238_3⟩ := at_T41 (Kd.R_reads' HO_8.out).2.2 x9_1 p238 q238
              cases e238
              replace p238 := eq_true p238
              replace q238 := eq_true q238
              have p239 : 0 ≤ (x9_1 : Int) := of_decide_eq_true (by first | (with_reducible assumption) | assumption)
              have q239 : x9_1 < (t235.length : Int) := of_decide_eq_true (by first | (with_reducible assumption) | assumption)
              obtain ⟨ad239, e239, hx239_0, hx239_1, hx239_2, hx239_3⟩ := at_T41 (Kd.R_reads' HO_8.out).2.2 x9_1 p239 q239
              obtain rfl : ad238 = ad239 := (by injection e239)
              replace p239 := eq_true p239
              replace q239 := eq_true q239
              go_wp2
              go_meet
              case rel => exact ⟨_, (decide (((rd_T41 t235 x9_1).f0.f1) ≤ a2)), (by first | rfl | (simp; done) | (simp [*]; done)), H', ⟨by have := HK1.out; first | omega | exact Nat.le_refl _⟩, ⟨by (with_reducible repeat (first | apply Kd.R_alloc | apply Kd.R_drewN | apply Kd.R_drew)); exact HO_8.out⟩, ⟨by repeat (first | (with_reducible first | exact HB.out | apply below_alloc | apply pw_below_drewN | apply below_drew1) | exact HB.out)⟩⟩
            · rw [if_neg c10] at H
              have c10b0 : (((rd_T41 t235 x9_1).f0.f0).toList == a1.toList) = false := beq_eq_false_iff_ne.mpr c10
              have c10b1 : (((rd_T41 t235 x9_1).f0.f0).toList != a1.toList) = true := bne_iff_ne.mpr c10
              have H' := Aside0.mk H
              clear H
              have p238 : 0 ≤ (x9_1 : Int) := of_decide_eq_true (by first | (with_reducible assumption) | assumption)
              have q238 : x9_1 < (t235.length : Int) := of_decide_eq_true (by first | (with_reducible assumption) | assumption)
              obtain ⟨ad238, e238, hx238_0, hx238_1, hx238_2, hx238_3⟩ := at_T41 (Kd.R_reads' HO_8.out).2.2 x9_1 p238 q238
              cases e238
              replace p238 := eq_true p238
              replace q238 := eq_true q238
              go_wp2
              go_meet
              case rel => exact ⟨_, (false), (by first | rfl | (simp; done) | (simp [*]; done)), H', ⟨by have := HK1.out; first | omega | exact Nat.le_refl _⟩, ⟨by (with_reducible repeat (first | apply Kd.R_alloc | apply Kd.R_drewN | apply Kd.R_drew)); exact HO_8.out⟩, ⟨by repeat (first | (with_reducible first | exact HB.out | apply below_alloc | apply pw_below_drewN | apply below_drew1) | exact HB.out)⟩⟩
          · rw [if_neg c9] at H
            exact absurd H (by simp)
        case rest =>
          clear HC7
          try clear c1
          try clear c2
          try clear p2
          try clear q2
          try clear hx2
          try clear c6
          try clear c6b0
          try clear c9
          try clear c9b0
          try clear c10
          try clear c10b0
          try clear c10b1
          try clear hx238_0
          try clear hx238_1
          try clear hx238_2
          try clear hx238_3
          try clear hx239_0
          try clear hx239_1
          try clear hx239_2
          try clear hx239_3
          try clear p2
          try clear p238
          try clear p239
          try clear q238
          try clear q239
          obtain ⟨kq, x35_6, rfl, HA, HJ6, HO_8, HB⟩ := hcut
          cases kq with
          | zero => exact absurd HA.out (by simp [ratlineref11_Get.j1])
          | succ kj6 =>
            have H := HA.out
            clear HA
            simp only [ratlineref11_Get.j1] at H
            by_cases c11 : x35_6 = true
            · subst c11
              have H1 : (if 0 ≤ x9_1 then (if x9_1 < (t235.length : Int) then (if ((rd_T41 t235 x9_1).f0.f2) = 1 then (some ((rd_T41 t235 x9_1).f1, true)) else (some ((⟨#[]⟩ : ByteArray), false))) else (none)) else (none)) = some (r1, r2) := by rw [if_pos rfl] at H; exact H
              clear H
              have H := H1
              clear H1
              by_cases c12 : 0 ≤ x9_1
              · rw [if_pos c12] at H
                have c12b0 : decide (0 ≤ x9_1) = true := decide_eq_true c12
                clear c12
                by_cases c13 : x9_1 < (t235.length : Int)
                · rw [if_pos c13] at H
                  have c13b0 : decide (x9_1 < (t235.length : Int)) = true := decide_eq_true c13
                  clear c13
                  by_cases c14 : ((rd_T41 t235 x9_1).f0.f2) = 1
                  · rw [if_pos c14] at H
                    have c14b0 : (((rd_T41 t235 x9_1).f0.f2) == 1) = true := beq_iff_eq.mpr c14
                    have c14b1 : (((rd_T41 t235 x9_1).f0.f2) != 1) = false := bne_eq_false_iff_eq.mpr c14
                    clear c14
                    simp only [Option.some.injEq, Prod.mk.injEq] at H
                    obtain ⟨rfl, rfl⟩ := H
                    have p240 : 0 ≤ (x9_1 : Int) := of_decide_eq_true (by first | (with_reducible assumption) | assumption)
                    have q240 : x9_1 < (t235.length : Int) := of_decide_eq_true (by first | (with_reducible assumption) | assumption)
                    obtain ⟨ad240, e240, hx240_0, hx240_1, hx240_2, hx240_3⟩ := at_T41 (Kd.R_reads' HO_8.out).2.2 x9_1 p240 q240
                    cases e240
                    replace p240 := eq_true p240
                    replace q240 := eq_true q240
                    have p241 : 0 ≤ (x9_1 : Int) := of_decide_eq_true (by first | (with_reducible assumption) | assumption)
                    have q241 : x9_1 < (t235.length : Int) := of_decide_eq_true (by first | (with_reducible assumption) | assumption)
                    obtain ⟨ad241, e241, hx241_0, hx241_1, hx241_2, hx241_3⟩ := at_T41 (Kd.R_reads' HO_8.out).2.2 x9_1 p241 q241
                    obtain rfl : ad240 = ad241 := (by injection e241)
                    replace p241 := eq_true p241
                    replace q241 := eq_true q241
                    go_wp2
                    go_ret2
                    exact ⟨by first | rfl | (simp [errW_none, errW_some] <;> rfl) | (simp [*, errW_none, errW_some] <;> rfl), by repeat (first | (with_reducible first | exact HB.out | apply below_alloc | apply pw_below_drewN | apply below_drew1) | exact HB.out)⟩
                  · rw [if_neg c14] at H
                    have c14b0 : (((rd_T41 t235 x9_1).f0.f2) == 1) = false := beq_eq_false_iff_ne.mpr c14
                    have c14b1 : (((rd_T41 t235 x9_1).f0.f2) != 1) = true := bne_iff_ne.mpr c14
                    simp only [Option.some.injEq, Prod.mk.injEq] at H
                    obtain ⟨rfl, rfl⟩ := H
                    have p240 : 0 ≤ (x9_1 : Int) := of_decide_eq_true (by first | (with_reducible assumption) | assumption)
                    have q240 : x9_1 < (t235.length : Int) := of_decide_eq_true (by first | (with_reducible assumption) | assumption)
                    obtain ⟨ad240, e240, hx240_0, hx240_1, hx240_2, hx240_3⟩ := at_T41 (Kd.R_reads' HO_8.out).2.2 x9_1 p240 q240
                    cases e240
                    replace p240 := eq_true p240
                    replace q240 := eq_true q240
                    go_wp2
                    go_ret2
                    exact ⟨by first | rfl | (simp [errW_none, errW_some] <;> rfl) | (simp [*, errW_none, errW_some] <;> rfl), by repeat (first | (with_reducible first | exact HB.out | apply below_alloc | apply pw_below_drewN | apply below_drew1) | exact HB.out)⟩
                · rw [if_neg c13] at H
                  exact absurd H (by simp)
              · rw [if_neg c12] at H
                exact absurd H (by simp)
            · replace c11 := Bool.eq_false_iff.mpr c11
              subst c11
              have H1 : (ratlineref11_Get.l0 kj6 a1 a2 t235 (wrap64 (x9_1 + 1))) = some (r1, r2) := by rw [if_neg (show ¬ (false = true) by decide)] at H; exact H
              clear H
              have H := H1
              clear H1
              have H' := Aside0.mk H
              clear H
              go_wp2
              go_roundg kj6
              case measure => have := HK1.out; have := HJ6.out; omega
              case rel => exact ⟨(wrap64 (x9_1 + 1)), (by first | rfl | (simp; done) | (simp [*]; done)), H', ⟨by have := HK1.out; have := HJ6.out; omega⟩, ⟨by (with_reducible repeat (first | apply Kd.R_alloc | apply Kd.R_drewN | apply Kd.R_drew)); exact HO_8.out⟩, ⟨by repeat (first | (with_reducible first | exact HB.out | apply below_alloc | apply pw_below_drewN | apply below_drew1) | exact HB.out)⟩⟩
      · rw [if_neg c6] at H
        have c6b0 : decide (x9_1 < (t235.length : Int)) = false := decide_eq_false c6
        clear c6
        simp only [Option.some.injEq, Prod.mk.injEq] at H
        obtain ⟨rfl, rfl⟩ := H
        obtain ⟨Ao15, co15, eo15⟩ := Kd.R_slice HO_8.out
        subst eo15
        go_wp2
        go_ret2
        exact ⟨by first | rfl | (simp [errW_none, errW_some] <;> rfl) | (simp [*, errW_none, errW_some] <;> rfl), by repeat (first | (with_reducible first | exact HB.out | apply below_alloc | apply pw_below_drewN | apply below_drew1) | exact HB.out)⟩

end Go.Proofs.Ytojemmipkpckbaa.P

end
