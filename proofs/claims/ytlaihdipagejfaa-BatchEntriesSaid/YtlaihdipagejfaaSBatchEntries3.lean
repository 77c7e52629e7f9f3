/- Proved here: what the row of BatchEntries needs, part 3. Conditions: those of each theorem. Written for this claim by programs; what the claim does not use is left out. -/
import Derived.Lib.Strings
import Derived.Test.YtlaihdipagejfaaSBatchEntries2
section
namespace Go.Proofs.Ytlaihdipagejfaa.P
open Go.RowKit Go.Proofs.YtlaihdipagejfaaG Go.Proofs.YtlaihdipagejfaaW.PrintWords Go.Proofs.YtlaihdipagejfaaW.PrintLast Go.Proofs.YtlaihdipagejfaaW.PrintMore
attribute [local go_sem] str_gtr str_geq str_leq max2_int min2_int max_two min_two max_three min_three max_four min_four   -- for this text's walks alone
set_option linter.unusedVariables false
set_option linter.unusedSimpArgs false

attribute [local go_sem high] eqA39
mutual
def ratlinelaw04_BatchEntries.j0 : Nat → List (S43) → List (S43) → Int → Bool → Option (Bool)
 | 0,_,_,_,_ => none
 | k + 1,x0,x1,x2,x20 => if x20 = true then ((ratlinelaw04_awake.f k).bind fun t392 => (some t392)) else ((batch_Entries.f k x0 x2).bind fun t393 => (if (t393.length : Int) = (x0.length : Int) then (ratlinelaw04_BatchEntries.l0 k x0 x1 x2 t393 t393 (t393.length : Int) 0) else (none)))
def ratlinelaw04_BatchEntries.l0 : Nat → List (S43) → List (S43) → Int → List (S41) → List (S41) → Int → Int → Option (Bool)
 | 0,_,_,_,_,_,_,_ => none
 | k + 1,x0,x1,x2,x7,x30,x31,x32 => if x32 < x31 then (if 0 ≤ x32 then (if x32 < (x30.length : Int) then (if x32 < (x0.length : Int) then (if ((rd_T41 x30 x32).f0.f0).toList = ((rd_T43 x0 x32).f1).toList then (if ((rd_T41 x30 x32).f0.f2) = ((rd_T43 x0 x32).f0) then (if ((rd_T41 x30 x32).f1).toList = ((rd_T43 x0 x32).f2).toList then (ratlinelaw04_BatchEntries.j2 k x0 x1 x2 x7 x32 x30 x31 x32 (((rd_T41 x30 x32).f0.f1) != (IntKind.u64.wrap (x2 + (IntKind.u64.wrap (x32))))) ((rd_T41 x30 x32).f0.f0) ((rd_T41 x30 x32).f0.f1) ((rd_T41 x30 x32).f0.f2) ((rd_T41 x30 x32).f1)) else (ratlinelaw04_BatchEntries.j2 k x0 x1 x2 x7 x32 x30 x31 x32 true ((rd_T41 x30 x32).f0.f0) ((rd_T41 x30 x32).f0.f1) ((rd_T41 x30 x32).f0.f2) ((rd_T41 x30 x32).f1))) else (ratlinelaw04_BatchEntries.j2 k x0 x1 x2 x7 x32 x30 x31 x32 true ((rd_T41 x30 x32).f0.f0) ((rd_T41 x30 x32).f0.f1) ((rd_T41 x30 x32).f0.f2) ((rd_T41 x30 x32).f1))) else (ratlinelaw04_BatchEntries.j2 k x0 x1 x2 x7 x32 x30 x31 x32 true ((rd_T41 x30 x32).f0.f0) ((rd_T41 x30 x32).f0.f1) ((rd_T41 x30 x32).f0.f2) ((rd_T41 x30 x32).f1))) else (none)) else (none)) else (none)) else ((some (([] : List (S43)) : List (S43))).bind fun y410 => (if y410.length + x0.length < 3518437208883 then ((some (y410 ++ x0 : List (S43))).bind fun y413 => (if y413.length + x1.length < 3518437208883 then ((batch_Entries.f k (y413 ++ x1) x2).bind fun t419 => ((some (([] : List (S41)) : List (S41))).bind fun y422 => (if y422.length + x7.length < 2932031007402 then ((some (y422 ++ x7 : List (S41))).bind fun y425 => ((batch_Entries.f k x1 (IntKind.u64.wrap (x2 + (IntKind.u64.wrap ((x0.length : Int)))))).bind fun t428 => (if y425.length + t428.length < 2932031007402 then ((ratlinelaw04_Entries.f k t419 (y425 ++ t428)).bind fun t434 => (if t434 = true then ((ratlinelaw04_awake.f k).bind fun t435 => (some t435)) else (none))) else (none)))) else (none)))) else (none))) else (none)))
def ratlinelaw04_BatchEntries.j2 : Nat → List (S43) → List (S43) → Int → List (S41) → Int → List (S41) → Int → Int → Bool → ByteArray → Int → Int → ByteArray → Option (Bool)
 | 0,_,_,_,_,_,_,_,_,_,_,_,_,_ => none
 | k + 1,x0,x1,x2,x7,x8,x30,x31,x32,x76,x398000,x398001,x398002,x398003 => if x76 = true then (none) else (if x2 ≤ 72057594037927875 then ((ikey_Entry.f x398000 x398001 x398002 x398003).bind fun t401 => (if 0 ≤ x8 then (if x8 < (x0.length : Int) then ((batch_Op.f ((rd_T43 x0 x8).f0) ((rd_T43 x0 x8).f1) ((rd_T43 x0 x8).f2)).bind fun t403 => (ratlinelaw04_BatchEntries.j3 k x0 x1 x2 x7 x8 x30 x31 x32 (t401 != t403) x398000 x398001 x398002 x398003)) else (none)) else (none))) else (ratlinelaw04_BatchEntries.j3 k x0 x1 x2 x7 x8 x30 x31 x32 false x398000 x398001 x398002 x398003))
def ratlinelaw04_BatchEntries.j3 : Nat → List (S43) → List (S43) → Int → List (S41) → Int → List (S41) → Int → Int → Bool → ByteArray → Int → Int → ByteArray → Option (Bool)
 | 0,_,_,_,_,_,_,_,_,_,_,_,_,_ => none
 | k + 1,x0,x1,x2,x7,x8,x30,x31,x32,x88,x398000,x398001,x398002,x398003 => if x88 = true then (none) else (if 0 ≤ x8 then (if x8 ≤ (x7.length : Int) then ((some (x7.take (x8 : Int).toNat : List (S41))).bind fun y404 => (ratlinelaw04_BatchEntries.l1 k x0 x1 x2 x7 x30 x31 x32 y404 (y404.length : Int) 0 x398000 x398001 x398002 x398003)) else (none)) else (none))
def ratlinelaw04_BatchEntries.l1 : Nat → List (S43) → List (S43) → Int → List (S41) → List (S41) → Int → Int → List (S41) → Int → Int → ByteArray → Int → Int → ByteArray → Option (Bool)
 | 0,_,_,_,_,_,_,_,_,_,_,_,_,_,_ => none
 | k + 1,x0,x1,x2,x7,x30,x31,x32,x91,x92,x93,x398000,x398001,x398002,x398003 => if x93 < x92 then (if 0 ≤ x93 then (if x93 < (x91.length : Int) then (if ((((rd_T41 x91 x93).f0.f0).toList) == x398000.toList && (((rd_T41 x91 x93).f0.f1) == x398001 && (((rd_T41 x91 x93).f0.f2) == x398002))) = true then (none) else (ratlinelaw04_BatchEntries.l1 k x0 x1 x2 x7 x30 x31 x32 x91 x92 (wrap64 (x93 + 1)) x398000 x398001 x398002 x398003)) else (none)) else (none)) else (ratlinelaw04_BatchEntries.l0 k x0 x1 x2 x7 x30 x31 (wrap64 (x32 + 1)))
end
def ratlinelaw04_BatchEntries.f (k : Nat) (l0 : List (S43)) (l1 : List (S43)) (a2 : Int) : Option (Bool):=(ratlinelaw04_Few.f k l0 60).bind fun t390 => (if t390 = true then ((ratlinelaw04_Few.f k l1 60).bind fun t391 => (ratlinelaw04_BatchEntries.j0 k l0 l1 a2 (!t391))) else (ratlinelaw04_BatchEntries.j0 k l0 l1 a2 true))
def ratlinelaw04_BatchEntries.T9 : Bool × List (List Nat × List Nat):=(true,[([],[]),([0],[0]),([1],[1]),([],[]),([],[]),([3,4],[3,4]),([5],[5]),([6],[6]),([2,7],[2,7]),([8],[8]),([9],[9]),([10,9],[9,10]),([11,9],[9,11]),([9],[9]),([9],[9]),([13,14,9],[9,13,14]),([15,9],[9,15]),([16,9],[9,16]),([12,17,9],[9,12,17]),([9,18],[9,18]),([19,9],[19]),([20],[20]),([21,20],[20,21]),([20],[20]),([20],[20]),([23,24,20],[20,23,24]),([25,20],[20,25]),([26,20],[20,26]),([22,27,20],[20,22,27]),([20,28],[20,28]),([29,20],[29]),([30],[30]),([31,30],[30,31]),([32,30],[30,32]),([30],[30]),([30],[30]),([35,30],[30,35]),([34,36,30],[30,34,36]),([33,37,30],[30,33,37]),([30,38],[30,38])])
def ratlinelaw04_BatchEntries.B9 : List Nat:=[0,1,3,0,0,24,56,120,255,511,1023,2047,4095,1023,1023,25599,58367,123903,262143,524287,1048575,2097151,4194303,2097151,2097151,27262975,60817407,127926271,268435455,536870911,1073741823,2147483647,4294967295,8589934591,2147483647,2147483647,36507222015,122406567935,274877906943,549755813887]
theorem ratlinelaw04_BatchEntries.tab9 : rtab .any (opsOf Try.f4 9) = ratlinelaw04_BatchEntries.T9:=by kernel_rfl
theorem ratlinelaw04_BatchEntries.bits9 : waitsOk ratlinelaw04_BatchEntries.T9.2 ratlinelaw04_BatchEntries.B9 = true:=by kernel_rfl
def ratlinelaw04_BatchEntries.T11 : Bool × List (List Nat × List Nat):=(true,[([],[]),([0],[0]),([1],[1]),([2],[2]),([3,2,2],[2,3]),([2],[2]),([2],[2]),([5,6,2],[2,5,6]),([7,2],[2,7]),([8,4,2],[2,8]),([4,9,2],[2,4,9]),([2,10],[2,10])])
def ratlinelaw04_BatchEntries.B11 : List Nat:=[0,1,3,7,15,7,7,103,231,511,1023,2047]
theorem ratlinelaw04_BatchEntries.tab11 : rtab .any (opsOf Try.f4 11) = ratlinelaw04_BatchEntries.T11:=by kernel_rfl
theorem ratlinelaw04_BatchEntries.bits11 : waitsOk ratlinelaw04_BatchEntries.T11.2 ratlinelaw04_BatchEntries.B11 = true:=by kernel_rfl
set_option maxHeartbeats 8000000 in
set_option maxRecDepth 100000 in
theorem ratlinelaw04_BatchEntries.calls (k : Nat) (A0 : Option Addr) (c0 : Nat) (l0 : List (S43)) (A1 : Option Addr) (c1 : Nat) (l1 : List (S43)) (a2 : Int) (r : Bool) (w : World) (hr0 : Kd.C k43 w A0 l0.length l0) (hc0 : l0.length ≤ c0) (hr1 : Kd.C k43 w A1 l1.length l1) (hc1 : l1.length ≤ c1) (h : ratlinelaw04_BatchEntries.f k l0 l1 a2 = some r) :
  Calls Try.prog 4 #[.slice A0 l0.length c0,.slice A1 l1.length c1,.int .u64 a2] w fun e w' => e = .returned (.bool r) ∧ Below w.heap.size w w':=by
 have hu41:=Try.underlying41
 have hu43:=Try.underlying43
 have hu39:=Try.underlying39
 have HR0:=Aside0.mk hr0
 have HC0:=Aside0.mk hc0
 clear hr0 hc0
 have HR1:=Aside0.mk hr1
 have HC1:=Aside0.mk hc1
 clear hr1 hc1
 have HB:=Aside0.mk (Below.refl w.heap.size w)
 have H : ((ratlinelaw04_Few.f k l0 60).bind fun t390 => (if t390 = true then ((ratlinelaw04_Few.f k l1 60).bind fun t391 => (ratlinelaw04_BatchEntries.j0 k l0 l1 a2 (!t391))) else (ratlinelaw04_BatchEntries.j0 k l0 l1 a2 true))) = some r:=h
 clear h
 have HC4:=Aside0.mk H
 clear H
 go_enter Try.func4,Try.ntmps4
 go_upto_region 1 with (fail)
 go_cut [20] (fun v20 wc => ∃ (kq : Nat) (x20_3 : Bool),v20 = .bool x20_3 ∧ Aside0 (ratlinelaw04_BatchEntries.j0 kq l0 l1 a2 x20_3 = some r) ∧ Aside0 (kq ≤ k) ∧ Aside0 (Below w.heap.size w wc))
 case first =>
  have H:=HC4.out
  clear HC4
  replace H:=Option.bind_eq_some_iff.mp H
  obtain ⟨t390,A50,H⟩:=H
  replace H : (if t390 = true then ((ratlinelaw04_Few.f k l1 60).bind fun t391 => (ratlinelaw04_BatchEntries.j0 k l0 l1 a2 (!t391))) else (ratlinelaw04_BatchEntries.j0 k l0 l1 a2 true)) = some r:=H
  have A5:=Aside0.mk A50
  clear A50
  by_cases c6 : t390 = true
  ·subst c6
   have H1 : ((ratlinelaw04_Few.f k l1 60).bind fun t391 => (ratlinelaw04_BatchEntries.j0 k l0 l1 a2 (!t391))) = some r:=by rw [if_pos rfl] at H;exact H
   clear H
   have H:=H1
   clear H1
   replace H:=Option.bind_eq_some_iff.mp H
   obtain ⟨t391,A70,H⟩:=H
   replace H : (ratlinelaw04_BatchEntries.j0 k l0 l1 a2 (!t391)) = some r:=H
   have A7:=Aside0.mk A70
   clear A70
   have H':=Aside0.mk H
   clear H
   go_wp2_with (first|((with_reducible refine gate_callee (f:=13) rfl ?_);refine goesL_ (some 14) rfl rfl Try.func13 (by kernel_rfl) rfl #[.slice A0 l0.length c0,.int .i64 60] rfl (by (try simp only [List.map_toArray,List.map_cons,List.map_nil]);first|done|rfl|(simp only [List.length_drop,List.length_take];rfl)) ?_;(with_reducible refine (ratlinelaw04_Few.calls k _ _ l0 60 true _ ?side1 ?side2 A5.out).mono ?_);(case side1 => repeat (first|exact (Kd.C_below HR0.out HB.out)|(with_reducible refine Kd.C_alloc ?_ _)|(with_reducible refine Kd.C_drewN ?_ _)|(with_reducible refine Kd.C_drew ?_)));(case side2 => exact HC0.out);rintro e w8 ⟨rfl,hb⟩;refine ⟨_,rfl,?_⟩;have n0_:=Aside0.mk (below_step (by repeat (first|(with_reducible first|exact HB.out|apply below_alloc|apply pw_below_drewN|apply below_drew1)|exact HB.out)) hb);clear HB;have HB:=n0_;clear n0_;(try clear hb);(try clear hb2);(try clear hk);(try clear hi))|(go_at_call 13;(with_reducible refine (ratlinelaw04_Few.calls k _ _ l1 60 t391 _ ?side1 ?side2 A7.out).mono ?_);(case side1 => repeat (first|exact (Kd.C_below HR1.out HB.out)|(with_reducible refine Kd.C_alloc ?_ _)|(with_reducible refine Kd.C_drewN ?_ _)|(with_reducible refine Kd.C_drew ?_)));(case side2 => exact HC1.out);rintro e w9 ⟨rfl,hb⟩;have n0_:=Aside0.mk (below_step (by repeat (first|(with_reducible first|exact HB.out|apply below_alloc|apply pw_below_drewN|apply below_drew1)|exact HB.out)) hb);clear HB;have HB:=n0_;clear n0_;(try clear hb);(try clear hb2);(try clear hk);(try clear hi)))
   go_meet
   case rel => exact ⟨_,(!t391),(by first|rfl|(simp;done)|(simp [*];done)),H',⟨by first|omega|exact Nat.le_refl _⟩,⟨by repeat (first|(with_reducible first|exact HB.out|apply below_alloc|apply pw_below_drewN|apply below_drew1)|exact HB.out)⟩⟩
  ·replace c6:=Bool.eq_false_iff.mpr c6
   subst c6
   have H1 : (ratlinelaw04_BatchEntries.j0 k l0 l1 a2 true) = some r:=by rw [if_neg (show ¬ (false = true) by decide)] at H;exact H
   clear H
   have H:=H1
   clear H1
   have H':=Aside0.mk H
   clear H
   go_wp2_with (first|((with_reducible refine gate_callee (f:=13) rfl ?_);refine goesL_ (some 14) rfl rfl Try.func13 (by kernel_rfl) rfl #[.slice A0 l0.length c0,.int .i64 60] rfl (by (try simp only [List.map_toArray,List.map_cons,List.map_nil]);first|done|rfl|(simp only [List.length_drop,List.length_take];rfl)) ?_;(with_reducible refine (ratlinelaw04_Few.calls k _ _ l0 60 false _ ?side1 ?side2 A5.out).mono ?_);(case side1 => repeat (first|exact (Kd.C_below HR0.out HB.out)|(with_reducible refine Kd.C_alloc ?_ _)|(with_reducible refine Kd.C_drewN ?_ _)|(with_reducible refine Kd.C_drew ?_)));(case side2 => exact HC0.out);rintro e w10 ⟨rfl,hb⟩;refine ⟨_,rfl,?_⟩;have n0_:=Aside0.mk (below_step (by repeat (first|(with_reducible first|exact HB.out|apply below_alloc|apply pw_below_drewN|apply below_drew1)|exact HB.out)) hb);clear HB;have HB:=n0_;clear n0_;(try clear hb);(try clear hb2);(try clear hk);(try clear hi)))
   go_meet
   case rel => exact ⟨_,(true),(by first|rfl|(simp;done)|(simp [*];done)),H',⟨by first|omega|exact Nat.le_refl _⟩,⟨by repeat (first|(with_reducible first|exact HB.out|apply below_alloc|apply pw_below_drewN|apply below_drew1)|exact HB.out)⟩⟩
 case rest =>
  clear HC4
  try clear c1
  try clear p2
  try clear c4
  try clear c6
  obtain ⟨kq,x20_3,rfl,HA,HJ3,HB⟩:=hcut
  cases kq with
  | zero => exact absurd HA.out (by simp [ratlinelaw04_BatchEntries.j0])
  | succ kj3 =>
   have H:=HA.out
   clear HA
   simp only [ratlinelaw04_BatchEntries.j0] at H
   by_cases c11 : x20_3 = true
   ·subst c11
    have H1 : ((ratlinelaw04_awake.f kj3).bind fun t392 => (some t392)) = some r:=by rw [if_pos rfl] at H;exact H
    clear H
    have H:=H1
    clear H1
    replace H:=Option.bind_eq_some_iff.mp H
    obtain ⟨t392,A120,H⟩:=H
    replace H : (some t392) = some r:=H
    have A12:=Aside0.mk A120
    clear A120
    obtain rfl:=Option.some.inj H
    go_wp2_with (first|(go_at_call 14;(with_reducible refine (ratlinelaw04_awake.calls kj3  t392 _ A12.out).mono ?_);rintro e w13 ⟨rfl,hb⟩;have n0_:=Aside0.mk (below_step (by repeat (first|(with_reducible first|exact HB.out|apply below_alloc|apply pw_below_drewN|apply below_drew1)|exact HB.out)) hb);clear HB;have HB:=n0_;clear n0_;(try clear hb);(try clear hb2);(try clear hk);(try clear hi);(try apply_assumption)))
    go_ret
    exact ⟨by first|rfl|(simp [errW_none,errW_some] <;> rfl)|(simp [*,errW_none,errW_some] <;> rfl),by repeat (first|(with_reducible first|exact HB.out|apply below_alloc|apply pw_below_drewN|apply below_drew1)|exact HB.out)⟩
   ·replace c11:=Bool.eq_false_iff.mpr c11
    subst c11
    have H1 : ((batch_Entries.f kj3 l0 a2).bind fun t393 => (if (t393.length : Int) = (l0.length : Int) then (ratlinelaw04_BatchEntries.l0 kj3 l0 l1 a2 t393 t393 (t393.length : Int) 0) else (none))) = some r:=by rw [if_neg (show ¬ (false = true) by decide)] at H;exact H
    clear H
    have H:=H1
    clear H1
    replace H:=Option.bind_eq_some_iff.mp H
    obtain ⟨t393,A140,H⟩:=H
    replace H : (if (t393.length : Int) = (l0.length : Int) then (ratlinelaw04_BatchEntries.l0 kj3 l0 l1 a2 t393 t393 (t393.length : Int) 0) else (none)) = some r:=H
    have A14:=Aside0.mk A140
    clear A140
    by_cases c15 : (t393.length : Int) = (l0.length : Int)
    ·rw [if_pos c15] at H
     have c15b0 : ((t393.length : Int) == (l0.length : Int)) = true:=beq_iff_eq.mpr c15
     have c15b1 : ((t393.length : Int) != (l0.length : Int)) = false:=bne_eq_false_iff_eq.mpr c15
     have c15b2 : (t393.length == l0.length) = true:=by first|simpa using c15|(simp at c15 ⊢;omega)
     clear c15
     have H':=Aside0.mk H
     clear H
     go_wp2_with (first|((with_reducible refine gate_callee (f:=20) rfl ?_);refine goesL_ (some 24) rfl rfl Try.func20 (by kernel_rfl) rfl #[.slice A0 l0.length c0,.int .u64 a2] rfl (by (try simp only [List.map_toArray,List.map_cons,List.map_nil]);first|done|rfl|(simp only [List.length_drop,List.length_take];rfl)) ?_;(with_reducible refine (batch_Entries.calls kj3 _ _ l0 a2 t393 _ ?side1 ?side2 A14.out).mono ?_);(case side1 => repeat (first|exact (Kd.C_below HR0.out HB.out)|(with_reducible refine Kd.C_alloc ?_ _)|(with_reducible refine Kd.C_drewN ?_ _)|(with_reducible refine Kd.C_drew ?_)));(case side2 => exact HC0.out);rintro e w16 ⟨v394,rfl,ho0,hb⟩;refine ⟨_,rfl,?_⟩;have n0_:=Aside0.mk (Kd.R_lower ho0 (below_size (by repeat (first|(with_reducible first|exact HB.out|apply below_alloc|apply pw_below_drewN|apply below_drew1)|exact HB.out))));have n1_:=Aside0.mk (below_step (by repeat (first|(with_reducible first|exact HB.out|apply below_alloc|apply pw_below_drewN|apply below_drew1)|exact HB.out)) hb);clear HB;have HO395:=n0_;have HB:=n1_;clear n0_ n1_;(try clear hb);(try clear hb2);(try clear hk);(try clear hi);(try clear ho0);obtain ⟨Ao17,co17,eo17⟩:=Kd.R_slice HO395.out;subst eo17))
     go_loopg [32] kj3 (fun kq v32 w' => ∃ (x32_2 : Int),v32 = .int .i64 x32_2 ∧ Aside0 (ratlinelaw04_BatchEntries.l0 kq l0 l1 a2 t393 t393 (t393.length : Int) x32_2 = some r) ∧ Aside0 (kq ≤ kj3) ∧ Aside0 (Kd.R k41 41 w' w.heap.size (fun _ => True) (.slice Ao17 t393.length co17) t393) ∧ Aside0 (Kd.R k41 41 w' w.heap.size (fun _ => True) (.slice Ao17 t393.length co17) t393) ∧ Aside0 (Below w.heap.size w w'))
     case atStart => exact ⟨(0),(by first|rfl|(simp;done)|(simp [*];done)),H',⟨Nat.le_refl _⟩,⟨by (with_reducible repeat (first|apply zA|apply zN|apply zD));exact HO395.out⟩,⟨by (with_reducible repeat (first|apply zA|apply zN|apply zD));exact HO395.out⟩,⟨by repeat (first|(with_reducible first|exact HB.out|apply below_alloc|apply pw_below_drewN|apply below_drew1)|exact HB.out)⟩⟩
     case round =>
      clear H'
      try clear c1
      try clear c2
      try clear p2
      try clear c4
      try clear c6
      try clear c11
      try clear c13
      try clear c15
      try clear c15b0
      try clear c15b1
      try clear c15b2
      try clear p2
      obtain ⟨x32_2,rfl,HA,HK2,HO_7,HO_30,HB⟩:=hrel
      cases gk with
      | zero => exact absurd HA.out (by simp [ratlinelaw04_BatchEntries.l0])
      | succ k2 =>
       have H:=HA.out
       clear HA
       simp only [ratlinelaw04_BatchEntries.l0] at H
       by_cases c18 : x32_2 < (t393.length : Int)
       ·rw [if_pos c18] at H
        have c18b0 : decide (x32_2 < (t393.length : Int)) = true:=decide_eq_true c18
        clear c18
        by_cases c19 : 0 ≤ x32_2
        ·rw [if_pos c19] at H
         have c19b0 : decide (0 ≤ x32_2) = true:=decide_eq_true c19
         clear c19
         by_cases c20 : x32_2 < (t393.length : Int)
         ·rw [if_pos c20] at H
          have c20b0 : decide (x32_2 < (t393.length : Int)) = true:=decide_eq_true c20
          clear c20
          have HC21:=Aside0.mk H
          clear H
          have p396 : 0 ≤ (x32_2 : Int):=of_decide_eq_true (by first|(with_reducible assumption)|assumption)
          have q396 : x32_2 < (t393.length : Int):=of_decide_eq_true (by first|(with_reducible assumption)|assumption)
          obtain ⟨ad396,e396,hx396_0,hx396_1,hx396_2,hx396_3⟩:=at_T41 (Kd.R_reads' HO_30.out).2.2 x32_2 p396 q396
          cases e396
          replace p396:=eq_true p396
          replace q396:=eq_true q396
          go_upto_region 9 with (first|((with_reducible refine gate_dst (N:=9) rfl ?_);refine box_event ?hg (N:=9) ?hd (cs:=#[.string (⟨#[]⟩ : ByteArray),.int .u64 0,.int .u8 0,.string (⟨#[]⟩ : ByteArray)]) (t:=41) ?hr ?_;(case hd => rfl);(case hg => rfl);(case hr => first|(go_simp;done)|(go_simp;rfl));intro gb397 hg w22 hbox hb;have n0_:=Aside0.mk (Kd.R_below (Kd.R_elderB (by (with_reducible repeat (first|apply zA|apply zN|apply zD));exact HO_7.out) gb397 (Nat.le_of_eq hg.symm)) hb);have n1_:=Aside0.mk (Kd.R_below (Kd.R_elderB (by (with_reducible repeat (first|apply zA|apply zN|apply zD));exact HO_30.out) gb397 (Nat.le_of_eq hg.symm)) hb);have n2_:=Aside0.mk (below_step (by repeat (first|(with_reducible first|exact HB.out|apply below_alloc|apply pw_below_drewN|apply below_drew1)|exact HB.out)) hb);have n3_:=Aside0.mk (hbox);have n4_:=Aside0.mk ((by rw [hg];exact (below_size (by repeat (first|(with_reducible first|exact HB.out|apply below_alloc|apply pw_below_drewN|apply below_drew1)|exact HB.out))) : w.heap.size ≤ gb397));have n5_:=Aside0.mk ((by rw [hg];exact (below_size (by repeat (first|(with_reducible first|exact HB.out|apply below_alloc|apply pw_below_drewN|apply below_drew1)|exact HB.out))) : w.heap.size ≤ gb397));clear HO_7;clear HO_30;clear HB;have HO_7:=n0_;have HO_30:=n1_;have HB:=n2_;have BK397:=n3_;have GW397:=n4_;have GE397:=n5_;clear n0_ n1_ n2_ n3_ n4_ n5_;clear hb hbox hg;have hcz23_0 : w22.cell? ⟨gb397,0,none⟩ = some (.string (⟨#[]⟩ : ByteArray)):=(blk_cell BK397.out 0).trans rfl;have hcz23_1 : w22.cell? ⟨gb397,1,none⟩ = some (.int .u64 0):=(blk_cell BK397.out 1).trans rfl;have hcz23_2 : w22.cell? ⟨gb397,2,none⟩ = some (.int .u8 0):=(blk_cell BK397.out 2).trans rfl;have hcz23_3 : w22.cell? ⟨gb397,3,none⟩ = some (.string (⟨#[]⟩ : ByteArray)):=(blk_cell BK397.out 3).trans rfl;have hfz23_0:=blk_frozen BK397.out 0;have hfz23_1:=blk_frozen BK397.out 1;have hfz23_2:=blk_frozen BK397.out 2;have hfz23_3:=blk_frozen BK397.out 3))
          (try simp only [Act.put,sA,sZ,sS])
          go_cut [76] (fun v76 wc => ∃ (kq : Nat) (x76_20 : Bool),v76 = .bool x76_20 ∧ Aside0 (ratlinelaw04_BatchEntries.j2 kq l0 l1 a2 t393 x32_2 t393 (t393.length : Int) x32_2 x76_20 ((rd_T41 t393 x32_2).f0.f0) ((rd_T41 t393 x32_2).f0.f1) ((rd_T41 t393 x32_2).f0.f2) ((rd_T41 t393 x32_2).f1) = some r) ∧ Aside0 (kq ≤ k2) ∧ Aside0 (Kd.R k41 41 wc w.heap.size (fun k_ => k_ ≠ gb397) (.slice (some ad396) t393.length co17) t393) ∧ Aside0 (Kd.R k41 41 wc w.heap.size (fun k_ => k_ ≠ gb397) (.slice (some ad396) t393.length co17) t393) ∧ Aside0 (wc.heap[gb397]? = some (.cells #[.string ((rd_T41 t393 x32_2).f0.f0),.int .u64 ((rd_T41 t393 x32_2).f0.f1),.int .u8 ((rd_T41 t393 x32_2).f0.f2),.string ((rd_T41 t393 x32_2).f1)] 41 (0,0))) ∧ Aside0 (Below w.heap.size w wc))
          case first =>
           have H:=HC21.out
           clear HC21
           by_cases c24 : x32_2 < (l0.length : Int)
           ·rw [if_pos c24] at H
            have c24b0 : decide (x32_2 < (l0.length : Int)) = true:=decide_eq_true c24
            clear c24
            (first|rw [c24b0]|(simp only [i64_w,i32_w];rw [c24b0])|skip)
            by_cases c25 : ((rd_T41 t393 x32_2).f0.f0).toList = ((rd_T43 l0 x32_2).f1).toList
            ·rw [if_pos c25] at H
             have c25b0 : (((rd_T41 t393 x32_2).f0.f0).toList == ((rd_T43 l0 x32_2).f1).toList) = true:=beq_iff_eq.mpr c25
             have c25b1 : (((rd_T41 t393 x32_2).f0.f0).toList != ((rd_T43 l0 x32_2).f1).toList) = false:=bne_eq_false_iff_eq.mpr c25
             clear c25
             by_cases c26 : ((rd_T41 t393 x32_2).f0.f2) = ((rd_T43 l0 x32_2).f0)
             ·rw [if_pos c26] at H
              have c26b0 : (((rd_T41 t393 x32_2).f0.f2) == ((rd_T43 l0 x32_2).f0)) = true:=beq_iff_eq.mpr c26
              have c26b1 : (((rd_T41 t393 x32_2).f0.f2) != ((rd_T43 l0 x32_2).f0)) = false:=bne_eq_false_iff_eq.mpr c26
              clear c26
              by_cases c27 : ((rd_T41 t393 x32_2).f1).toList = ((rd_T43 l0 x32_2).f2).toList
              ·rw [if_pos c27] at H
               have c27b0 : (((rd_T41 t393 x32_2).f1).toList == ((rd_T43 l0 x32_2).f2).toList) = true:=beq_iff_eq.mpr c27
               have c27b1 : (((rd_T41 t393 x32_2).f1).toList != ((rd_T43 l0 x32_2).f2).toList) = false:=bne_eq_false_iff_eq.mpr c27
               clear c27
               have H':=Aside0.mk H
               clear H
               try go_wp2
               have n0_ : Aside0 (Kd.R k41 41 ((((w22.setCell ⟨gb397,0,none⟩ (.string ((rd_T41 t393 x32_2).f0.f0))).setCell ⟨gb397,1,none⟩ (.int .u64 ((rd_T41 t393 x32_2).f0.f1))).setCell ⟨gb397,2,none⟩ (.int .u8 ((rd_T41 t393 x32_2).f0.f2))).setCell ⟨gb397,3,none⟩ (.string ((rd_T41 t393 x32_2).f1))) w.heap.size (fun k_ => k_ ≠ gb397) (.slice (some ad396) t393.length co17) t393):=⟨by (with_reducible repeat (first|apply zA|apply zN|apply zD));exact Kd.R_mono (Kd.R_far (p:=⟨gb397,3,none⟩) (Kd.R_far (p:=⟨gb397,2,none⟩) (Kd.R_far (p:=⟨gb397,1,none⟩) (Kd.R_far (p:=⟨gb397,0,none⟩) (Kd.R_mono HO_7.out (fun k_ hk => (⟨hk,hk.2⟩ : _ ∧ k_ ≠ gb397))) (fun _ hk => hk.2) (.string ((rd_T41 t393 x32_2).f0.f0))) (fun _ hk => hk.2) (.int .u64 ((rd_T41 t393 x32_2).f0.f1))) (fun _ hk => hk.2) (.int .u8 ((rd_T41 t393 x32_2).f0.f2))) (fun _ hk => hk.2) (.string ((rd_T41 t393 x32_2).f1))) (fun _ hk => hk.1.2)⟩
               have n1_ : Aside0 (Kd.R k41 41 ((((w22.setCell ⟨gb397,0,none⟩ (.string ((rd_T41 t393 x32_2).f0.f0))).setCell ⟨gb397,1,none⟩ (.int .u64 ((rd_T41 t393 x32_2).f0.f1))).setCell ⟨gb397,2,none⟩ (.int .u8 ((rd_T41 t393 x32_2).f0.f2))).setCell ⟨gb397,3,none⟩ (.string ((rd_T41 t393 x32_2).f1))) w.heap.size (fun k_ => k_ ≠ gb397) (.slice (some ad396) t393.length co17) t393):=⟨by (with_reducible repeat (first|apply zA|apply zN|apply zD));exact Kd.R_mono (Kd.R_far (p:=⟨gb397,3,none⟩) (Kd.R_far (p:=⟨gb397,2,none⟩) (Kd.R_far (p:=⟨gb397,1,none⟩) (Kd.R_far (p:=⟨gb397,0,none⟩) (Kd.R_mono HO_30.out (fun k_ hk => (⟨hk,hk.2⟩ : _ ∧ k_ ≠ gb397))) (fun _ hk => hk.2) (.string ((rd_T41 t393 x32_2).f0.f0))) (fun _ hk => hk.2) (.int .u64 ((rd_T41 t393 x32_2).f0.f1))) (fun _ hk => hk.2) (.int .u8 ((rd_T41 t393 x32_2).f0.f2))) (fun _ hk => hk.2) (.string ((rd_T41 t393 x32_2).f1))) (fun _ hk => hk.1.2)⟩
               have n2_ : Aside0 (((((w22.setCell ⟨gb397,0,none⟩ (.string ((rd_T41 t393 x32_2).f0.f0))).setCell ⟨gb397,1,none⟩ (.int .u64 ((rd_T41 t393 x32_2).f0.f1))).setCell ⟨gb397,2,none⟩ (.int .u8 ((rd_T41 t393 x32_2).f0.f2))).setCell ⟨gb397,3,none⟩ (.string ((rd_T41 t393 x32_2).f1))).heap[gb397]? = some (.cells #[.string ((rd_T41 t393 x32_2).f0.f0),.int .u64 ((rd_T41 t393 x32_2).f0.f1),.int .u8 ((rd_T41 t393 x32_2).f0.f2),.string ((rd_T41 t393 x32_2).f1)] 41 (0,0))):=⟨by (with_reducible repeat (first|refine bN ?_ _|refine bD ?_|refine bA ?_ _));refine blk_put (cs:=#[.string ((rd_T41 t393 x32_2).f0.f0),.int .u64 ((rd_T41 t393 x32_2).f0.f1),.int .u8 ((rd_T41 t393 x32_2).f0.f2),.string (⟨#[]⟩ : ByteArray)]) ?_ 3 _ rfl;(with_reducible repeat (first|refine bN ?_ _|refine bD ?_|refine bA ?_ _));refine blk_put (cs:=#[.string ((rd_T41 t393 x32_2).f0.f0),.int .u64 ((rd_T41 t393 x32_2).f0.f1),.int .u8 0,.string (⟨#[]⟩ : ByteArray)]) ?_ 2 _ rfl;(with_reducible repeat (first|refine bN ?_ _|refine bD ?_|refine bA ?_ _));refine blk_put (cs:=#[.string ((rd_T41 t393 x32_2).f0.f0),.int .u64 0,.int .u8 0,.string (⟨#[]⟩ : ByteArray)]) ?_ 1 _ rfl;(with_reducible repeat (first|refine bN ?_ _|refine bD ?_|refine bA ?_ _));refine blk_put (cs:=#[.string (⟨#[]⟩ : ByteArray),.int .u64 0,.int .u8 0,.string (⟨#[]⟩ : ByteArray)]) ?_ 0 _ rfl;(with_reducible repeat (first|refine bN ?_ _|refine bD ?_|refine bA ?_ _));exact BK397.out⟩
               have n3_ : Aside0 (Below w.heap.size w ((((w22.setCell ⟨gb397,0,none⟩ (.string ((rd_T41 t393 x32_2).f0.f0))).setCell ⟨gb397,1,none⟩ (.int .u64 ((rd_T41 t393 x32_2).f0.f1))).setCell ⟨gb397,2,none⟩ (.int .u8 ((rd_T41 t393 x32_2).f0.f2))).setCell ⟨gb397,3,none⟩ (.string ((rd_T41 t393 x32_2).f1)))):=⟨by repeat (first|(with_reducible first|exact HB.out|apply below_alloc|apply pw_below_drewN|apply below_drew1|refine below_set ?_ GE397.out)|exact HB.out)⟩
               (try clear HO_7)
               (try clear HO_30)
               (try clear BK397)
               (try clear HB)
               generalize ((((w22.setCell ⟨gb397,0,none⟩ (.string ((rd_T41 t393 x32_2).f0.f0))).setCell ⟨gb397,1,none⟩ (.int .u64 ((rd_T41 t393 x32_2).f0.f1))).setCell ⟨gb397,2,none⟩ (.int .u8 ((rd_T41 t393 x32_2).f0.f2))).setCell ⟨gb397,3,none⟩ (.string ((rd_T41 t393 x32_2).f1))) = w28 at n0_ n1_ n2_ n3_ ⊢
               have HO_7:=n0_
               have HO_30:=n1_
               have BK397:=n2_
               have HB:=n3_
               clear n0_ n1_ n2_ n3_
               have n0_:=Aside0.mk (Kd.R_drew HO_7.out)
               have n1_:=Aside0.mk (Kd.R_drew HO_30.out)
               have n2_:=Aside0.mk (blk_drew BK397.out)
               have n3_:=Aside0.mk (below_drew1 HB.out)
               clear HO_7
               clear HO_30
               clear BK397
               clear HB
               have HO_7:=n0_
               have HO_30:=n1_
               have BK397:=n2_
               have HB:=n3_
               clear n0_ n1_ n2_ n3_
               have p398 : 0 ≤ (x32_2 : Int):=of_decide_eq_true (by first|(with_reducible assumption)|assumption)
               have q398 : x32_2 < (l0.length : Int):=of_decide_eq_true (by first|(with_reducible assumption)|assumption)
               obtain ⟨ad398,e398,hx398_0,hx398_1,hx398_2⟩:=at_T43 HR0.out x32_2 p398 q398
               have hw398_2:=hx398_2
               have hw398_1:=hx398_1
               have hw398_0:=hx398_0
               cases e398
               replace hx398_0:=(HB.out.cell (World.block_lt_of_cell? w _ hx398_0)).trans hx398_0
               replace hx398_1:=(HB.out.cell (World.block_lt_of_cell? w _ hx398_1)).trans hx398_1
               replace hx398_2:=(HB.out.cell (World.block_lt_of_cell? w _ hx398_2)).trans hx398_2
               replace p398:=eq_true p398
               replace q398:=eq_true q398
               have p399 : 0 ≤ (x32_2 : Int):=of_decide_eq_true (by first|(with_reducible assumption)|assumption)
               have q399 : x32_2 < (l0.length : Int):=of_decide_eq_true (by first|(with_reducible assumption)|assumption)
               obtain ⟨ad399,e399,hx399_0,hx399_1,hx399_2⟩:=at_T43 HR0.out x32_2 p399 q399
               have hw399_2:=hx399_2
               have hw399_1:=hx399_1
               have hw399_0:=hx399_0
               obtain rfl : ad398 = ad399:=(by injection e399)
               replace hx399_0:=(HB.out.cell (World.block_lt_of_cell? w _ hx399_0)).trans hx399_0
               replace hx399_1:=(HB.out.cell (World.block_lt_of_cell? w _ hx399_1)).trans hx399_1
               replace hx399_2:=(HB.out.cell (World.block_lt_of_cell? w _ hx399_2)).trans hx399_2
               replace p399:=eq_true p399
               replace q399:=eq_true q399
               have p400 : 0 ≤ (x32_2 : Int):=of_decide_eq_true (by first|(with_reducible assumption)|assumption)
               have q400 : x32_2 < (l0.length : Int):=of_decide_eq_true (by first|(with_reducible assumption)|assumption)
               obtain ⟨ad400,e400,hx400_0,hx400_1,hx400_2⟩:=at_T43 HR0.out x32_2 p400 q400
               have hw400_2:=hx400_2
               have hw400_1:=hx400_1
               have hw400_0:=hx400_0
               obtain rfl : ad398 = ad400:=(by injection e400)
               replace hx400_0:=(HB.out.cell (World.block_lt_of_cell? w _ hx400_0)).trans hx400_0
               replace hx400_1:=(HB.out.cell (World.block_lt_of_cell? w _ hx400_1)).trans hx400_1
               replace hx400_2:=(HB.out.cell (World.block_lt_of_cell? w _ hx400_2)).trans hx400_2
               replace p400:=eq_true p400
               replace q400:=eq_true q400
               refine start_ (n:=40) (S:=fun w' => w'.cell? ⟨gb397,0,none⟩ = some (.string ((rd_T41 t393 x32_2).f0.f0)) ∧ w'.cell? ⟨gb397,1,none⟩ = some (.int .u64 ((rd_T41 t393 x32_2).f0.f1)) ∧ w'.cell? ⟨gb397,2,none⟩ = some (.int .u8 ((rd_T41 t393 x32_2).f0.f2)) ∧ w'.cell? ⟨gb397,3,none⟩ = some (.string ((rd_T41 t393 x32_2).f1)) ∧ w'.cell? (ad398.add ((x32_2).toNat * 3)) = some (.int .u8 ((rd_T43 l0 x32_2).f0)) ∧ w'.cell? ⟨(ad398.add ((x32_2).toNat * 3)).block,(ad398.add ((x32_2).toNat * 3)).off + 1,none⟩ = some (.string ((rd_T43 l0 x32_2).f1)) ∧ w'.cell? ⟨(ad398.add ((x32_2).toNat * 3)).block,(ad398.add ((x32_2).toNat * 3)).off + 2,none⟩ = some (.string ((rd_T43 l0 x32_2).f2)) ∧ w'.cell? (ad398.add ((x32_2).toNat * 3)) = some (.int .u8 ((rd_T43 l0 x32_2).f0)) ∧ w'.cell? ⟨(ad398.add ((x32_2).toNat * 3)).block,(ad398.add ((x32_2).toNat * 3)).off + 1,none⟩ = some (.string ((rd_T43 l0 x32_2).f1)) ∧ w'.cell? ⟨(ad398.add ((x32_2).toNat * 3)).block,(ad398.add ((x32_2).toNat * 3)).off + 2,none⟩ = some (.string ((rd_T43 l0 x32_2).f2)) ∧ w'.cell? (ad398.add ((x32_2).toNat * 3)) = some (.int .u8 ((rd_T43 l0 x32_2).f0)) ∧ w'.cell? ⟨(ad398.add ((x32_2).toNat * 3)).block,(ad398.add ((x32_2).toNat * 3)).off + 1,none⟩ = some (.string ((rd_T43 l0 x32_2).f1)) ∧ w'.cell? ⟨(ad398.add ((x32_2).toNat * 3)).block,(ad398.add ((x32_2).toNat * 3)).off + 2,none⟩ = some (.string ((rd_T43 l0 x32_2).f2))) (ds:=[]) #[false,false,false,false,false,false,false,false,false,false,false,false,false,false,false,false,false,false,false,false,false,false,false,false,false,false,false,false,false,false,false,false,false,false,false,false,false,false,false,false] (by kernel_rfl) rfl rfl ⟨(blk_cell BK397.out 0).trans rfl,(blk_cell BK397.out 1).trans rfl,(blk_cell BK397.out 2).trans rfl,(blk_cell BK397.out 3).trans rfl,((HB.out.cell (World.block_lt_of_cell? w _ hw398_0)).trans hw398_0),((HB.out.cell (World.block_lt_of_cell? w _ hw398_1)).trans hw398_1),((HB.out.cell (World.block_lt_of_cell? w _ hw398_2)).trans hw398_2),((HB.out.cell (World.block_lt_of_cell? w _ hw399_0)).trans hw399_0),((HB.out.cell (World.block_lt_of_cell? w _ hw399_1)).trans hw399_1),((HB.out.cell (World.block_lt_of_cell? w _ hw399_2)).trans hw399_2),((HB.out.cell (World.block_lt_of_cell? w _ hw400_0)).trans hw400_0),((HB.out.cell (World.block_lt_of_cell? w _ hw400_1)).trans hw400_1),((HB.out.cell (World.block_lt_of_cell? w _ hw400_2)).trans hw400_2)⟩ (fun hHeld => ?_);refine with_tabW ratlinelaw04_BatchEntries.tab9 ratlinelaw04_BatchEntries.bits9 (fun HT_ HW_ => ?_)
               generalize w28.drew = w29 at HO_7 HO_30 BK397 HB hx398_0 hx398_1 hx398_2 hx399_0 hx399_1 hx399_2 hx400_0 hx400_1 hx400_2 hHeld ⊢
               refine pure_ (i:=0) (N:=some 37) (v:=?_) (a':=?_) #[true,false,false,false,false,false,false,false,false,false,false,false,false,false,false,false,false,false,false,false,false,false,false,false,false,false,false,false,false,false,false,false,false,false,false,false,false,false,false,false] rfl rfl (any_of HT_.out (by kernel_rfl)) (fun _ _ _ h => h) (Or.inl ⟨by rfl,?_⟩) ?_ ?_
               rotate_left
               ·intro w'
                go_simp
                with_reducible rfl
               rotate_left
               ·simp only [Act.put,sA,sZ,sS,i64_w,i32_w]
                rfl
               refine pure_ (i:=1) (N:=some 38) (v:=?_) (a':=?_) #[true,true,false,false,false,false,false,false,false,false,false,false,false,false,false,false,false,false,false,false,false,false,false,false,false,false,false,false,false,false,false,false,false,false,false,false,false,false,false,false] rfl rfl (any_of HT_.out (by kernel_rfl)) (fun _ _ _ h => h) (Or.inl ⟨by rfl,?_⟩) ?_ ?_
               rotate_left
               ·intro w'
                go_simp
                with_reducible rfl
               rotate_left
               ·simp only [Act.put,sA,sZ,sS,i64_w,i32_w]
                rfl
               refine pure_ (i:=3) (N:=some 40) (v:=?_) (a':=?_) #[true,true,false,true,false,false,false,false,false,false,false,false,false,false,false,false,false,false,false,false,false,false,false,false,false,false,false,false,false,false,false,false,false,false,false,false,false,false,false,false] rfl rfl (any_of HT_.out (by kernel_rfl)) (fun _ _ _ h => h) (Or.inl ⟨by rfl,?_⟩) ?_ ?_
               rotate_left
               ·intro w'
                go_simp
                with_reducible rfl
               rotate_left
               ·simp only [Act.put,sA,sZ,sS,i64_w,i32_w]
                rfl
               refine pure_ (i:=4) (N:=some 41) (v:=?_) (a':=?_) #[true,true,false,true,true,false,false,false,false,false,false,false,false,false,false,false,false,false,false,false,false,false,false,false,false,false,false,false,false,false,false,false,false,false,false,false,false,false,false,false] rfl rfl (any_of HT_.out (by kernel_rfl)) (fun _ _ _ h => h) (Or.inl ⟨by rfl,?_⟩) ?_ ?_
               rotate_left
               ·intro w'
                go_simp
                with_reducible rfl
               rotate_left
               ·simp only [Act.put,sA,sZ,sS,i64_w,i32_w]
                rfl
               refine pure_ (i:=5) (N:=some 42) (v:=?_) (a':=?_) #[true,true,false,true,true,true,false,false,false,false,false,false,false,false,false,false,false,false,false,false,false,false,false,false,false,false,false,false,false,false,false,false,false,false,false,false,false,false,false,false] rfl rfl (any_of HT_.out (by kernel_rfl)) (fun _ _ _ h => h) (Or.inl ⟨by rfl,?_⟩) ?_ ?_
               rotate_left
               ·intro w'
                go_simp
                with_reducible rfl
               rotate_left
               ·simp only [Act.put,sA,sZ,sS,i64_w,i32_w]
                rfl
               refine pure_ (i:=6) (N:=some 43) (v:=?_) (a':=?_) #[true,true,false,true,true,true,true,false,false,false,false,false,false,false,false,false,false,false,false,false,false,false,false,false,false,false,false,false,false,false,false,false,false,false,false,false,false,false,false,false] rfl rfl (any_of HT_.out (by kernel_rfl)) (fun _ _ _ h => h) (Or.inl ⟨by rfl,?_⟩) ?_ ?_
               rotate_left
               ·intro w'
                go_simp
                with_reducible rfl
               rotate_left
               ·simp only [Act.put,sA,sZ,sS,i64_w,i32_w]
                rfl
               refine take_ (i:=2) (N:=some 39) (v:=?_) (a':=?_) #[true,true,true,true,true,true,true,false,false,false,false,false,false,false,false,false,false,false,false,false,false,false,false,false,false,false,false,false,false,false,false,false,false,false,false,false,false,false,false,false] rfl rfl (take_ofW HT_.out HW_.out (by kernel_rfl)) (fun _ _ _ h => h) (Or.inl ⟨by rfl,?_⟩) hHeld ?_ ?_
               rotate_left
               ·rintro w' ⟨s0,s1,s2,s3,s4,s5,s6,s7,s8,s9,s10,s11,s12⟩
                go_simp
                with_reducible rfl
               rotate_left
               ·simp only [Act.put,sA,sZ,sS,i64_w,i32_w]
                rfl
               refine take_ (i:=7) (N:=some 44) (v:=?_) (a':=?_) #[true,true,true,true,true,true,true,true,false,false,false,false,false,false,false,false,false,false,false,false,false,false,false,false,false,false,false,false,false,false,false,false,false,false,false,false,false,false,false,false] rfl rfl (take_ofW HT_.out HW_.out (by kernel_rfl)) (fun _ _ _ h => h) (Or.inl ⟨by rfl,?_⟩) hHeld ?_ ?_
               rotate_left
               ·rintro w' ⟨s0,s1,s2,s3,s4,s5,s6,s7,s8,s9,s10,s11,s12⟩
                go_simp
                with_reducible rfl
               rotate_left
               ·simp only [Act.put,sA,sZ,sS,i64_w,i32_w]
                rfl
               refine pure_ (i:=8) (N:=some 45) (v:=?_) (a':=?_) #[true,true,true,true,true,true,true,true,true,false,false,false,false,false,false,false,false,false,false,false,false,false,false,false,false,false,false,false,false,false,false,false,false,false,false,false,false,false,false,false] rfl rfl (any_of HT_.out (by kernel_rfl)) (fun _ _ _ h => h) (Or.inl ⟨by rfl,?_⟩) ?_ ?_
               rotate_left
               ·intro w'
                go_simp
                with_reducible rfl
               rotate_left
               ·simp only [Act.put,sA,sZ,sS,i64_w,i32_w]
                rfl
               refine pure_ (i:=9) (N:=some 46) (v:=?_) (a':=?_) #[true,true,true,true,true,true,true,true,true,true,false,false,false,false,false,false,false,false,false,false,false,false,false,false,false,false,false,false,false,false,false,false,false,false,false,false,false,false,false,false] rfl rfl (any_of HT_.out (by kernel_rfl)) (fun _ _ _ h => h) (Or.inl ⟨by rfl,?_⟩) ?_ ?_
               rotate_left
               ·intro w'
                go_simp
                with_reducible rfl
               rotate_left
               ·simp only [Act.put,sA,sZ,sS,i64_w,i32_w]
                rfl
               refine pure_ (i:=10) (N:=some 47) (v:=?_) (a':=?_) #[true,true,true,true,true,true,true,true,true,true,true,false,false,false,false,false,false,false,false,false,false,false,false,false,false,false,false,false,false,false,false,false,false,false,false,false,false,false,false,false] rfl rfl (any_of HT_.out (by kernel_rfl)) (fun _ _ _ h => h) (Or.inl ⟨by rfl,?_⟩) ?_ ?_
               rotate_left
               ·intro w'
                go_simp
                with_reducible rfl
               rotate_left
               ·simp only [Act.put,sA,sZ,sS,i64_w,i32_w]
                rfl
               refine pure_ (i:=11) (N:=some 48) (v:=?_) (a':=?_) #[true,true,true,true,true,true,true,true,true,true,true,true,false,false,false,false,false,false,false,false,false,false,false,false,false,false,false,false,false,false,false,false,false,false,false,false,false,false,false,false] rfl rfl (any_of HT_.out (by kernel_rfl)) (fun _ _ _ h => h) (Or.inl ⟨by rfl,?_⟩) ?_ ?_
               rotate_left
               ·intro w'
                go_simp
                with_reducible rfl
               rotate_left
               ·simp only [Act.put,sA,sZ,sS,i64_w,i32_w]
                rfl
               refine pure_ (i:=13) (N:=some 50) (v:=?_) (a':=?_) #[true,true,true,true,true,true,true,true,true,true,true,true,false,true,false,false,false,false,false,false,false,false,false,false,false,false,false,false,false,false,false,false,false,false,false,false,false,false,false,false] rfl rfl (any_of HT_.out (by kernel_rfl)) (fun _ _ _ h => h) (Or.inl ⟨by rfl,?_⟩) ?_ ?_
               rotate_left
               ·intro w'
                go_simp
                with_reducible rfl
               rotate_left
               ·simp only [Act.put,sA,sZ,sS,i64_w,i32_w]
                rfl
               refine pure_ (i:=14) (N:=some 51) (v:=?_) (a':=?_) #[true,true,true,true,true,true,true,true,true,true,true,true,false,true,true,false,false,false,false,false,false,false,false,false,false,false,false,false,false,false,false,false,false,false,false,false,false,false,false,false] rfl rfl (any_of HT_.out (by kernel_rfl)) (fun _ _ _ h => h) (Or.inl ⟨by rfl,?_⟩) ?_ ?_
               rotate_left
               ·intro w'
                go_simp
                with_reducible rfl
               rotate_left
               ·simp only [Act.put,sA,sZ,sS,i64_w,i32_w]
                rfl
               refine pure_ (i:=15) (N:=some 52) (v:=?_) (a':=?_) #[true,true,true,true,true,true,true,true,true,true,true,true,false,true,true,true,false,false,false,false,false,false,false,false,false,false,false,false,false,false,false,false,false,false,false,false,false,false,false,false] rfl rfl (any_of HT_.out (by kernel_rfl)) (fun _ _ _ h => h) (Or.inl ⟨by rfl,?_⟩) ?_ ?_
               rotate_left
               ·intro w'
                go_simp
                with_reducible rfl
               rotate_left
               ·simp only [Act.put,sA,sZ,sS,i64_w,i32_w]
                rfl
               refine pure_ (i:=16) (N:=some 53) (v:=?_) (a':=?_) #[true,true,true,true,true,true,true,true,true,true,true,true,false,true,true,true,true,false,false,false,false,false,false,false,false,false,false,false,false,false,false,false,false,false,false,false,false,false,false,false] rfl rfl (any_of HT_.out (by kernel_rfl)) (fun _ _ _ h => h) (Or.inl ⟨by rfl,?_⟩) ?_ ?_
               rotate_left
               ·intro w'
                go_simp
                with_reducible rfl
               rotate_left
               ·simp only [Act.put,sA,sZ,sS,i64_w,i32_w]
                rfl
               refine take_ (i:=12) (N:=some 49) (v:=?_) (a':=?_) #[true,true,true,true,true,true,true,true,true,true,true,true,true,true,true,true,true,false,false,false,false,false,false,false,false,false,false,false,false,false,false,false,false,false,false,false,false,false,false,false] rfl rfl (take_ofW HT_.out HW_.out (by kernel_rfl)) (fun _ _ _ h => h) (Or.inl ⟨by rfl,?_⟩) hHeld ?_ ?_
               rotate_left
               ·rintro w' ⟨s0,s1,s2,s3,s4,s5,s6,s7,s8,s9,s10,s11,s12⟩
                go_simp
                with_reducible rfl
               rotate_left
               ·simp only [Act.put,sA,sZ,sS,i64_w,i32_w]
                rfl
               refine take_ (i:=17) (N:=some 54) (v:=?_) (a':=?_) #[true,true,true,true,true,true,true,true,true,true,true,true,true,true,true,true,true,true,false,false,false,false,false,false,false,false,false,false,false,false,false,false,false,false,false,false,false,false,false,false] rfl rfl (take_ofW HT_.out HW_.out (by kernel_rfl)) (fun _ _ _ h => h) (Or.inl ⟨by rfl,?_⟩) hHeld ?_ ?_
               rotate_left
               ·rintro w' ⟨s0,s1,s2,s3,s4,s5,s6,s7,s8,s9,s10,s11,s12⟩
                go_simp
                with_reducible rfl
               rotate_left
               ·simp only [Act.put,sA,sZ,sS,i64_w,i32_w]
                rfl
               refine pure_ (i:=18) (N:=some 55) (v:=?_) (a':=?_) #[true,true,true,true,true,true,true,true,true,true,true,true,true,true,true,true,true,true,true,false,false,false,false,false,false,false,false,false,false,false,false,false,false,false,false,false,false,false,false,false] rfl rfl (any_of HT_.out (by kernel_rfl)) (fun _ _ _ h => h) (Or.inl ⟨by rfl,?_⟩) ?_ ?_
               rotate_left
               ·intro w'
                go_simp
                with_reducible rfl
               rotate_left
               ·simp only [Act.put,sA,sZ,sS,i64_w,i32_w]
                rfl
               refine pure_ (i:=19) (N:=some 56) (v:=?_) (a':=?_) #[true,true,true,true,true,true,true,true,true,true,true,true,true,true,true,true,true,true,true,true,false,false,false,false,false,false,false,false,false,false,false,false,false,false,false,false,false,false,false,false] rfl rfl (any_of HT_.out (by kernel_rfl)) (fun _ _ _ h => h) (Or.inl ⟨by rfl,?_⟩) ?_ ?_
               rotate_left
               ·intro w'
                go_simp
                with_reducible rfl
               rotate_left
               ·simp only [Act.put,sA,sZ,sS,i64_w,i32_w]
                rfl
               refine pure_ (i:=20) (N:=some 57) (v:=?_) (a':=?_) #[true,true,true,true,true,true,true,true,true,true,true,true,true,true,true,true,true,true,true,true,true,false,false,false,false,false,false,false,false,false,false,false,false,false,false,false,false,false,false,false] rfl rfl (any_of HT_.out (by kernel_rfl)) (fun _ _ _ h => h) (Or.inl ⟨by rfl,?_⟩) ?_ ?_
               rotate_left
               ·intro w'
                go_simp
                with_reducible rfl
               rotate_left
               ·simp only [Act.put,sA,sZ,sS,i64_w,i32_w]
                rfl
               refine pure_ (i:=21) (N:=some 58) (v:=?_) (a':=?_) #[true,true,true,true,true,true,true,true,true,true,true,true,true,true,true,true,true,true,true,true,true,true,false,false,false,false,false,false,false,false,false,false,false,false,false,false,false,false,false,false] rfl rfl (any_of HT_.out (by kernel_rfl)) (fun _ _ _ h => h) (Or.inl ⟨by rfl,?_⟩) ?_ ?_
               rotate_left
               ·intro w'
                go_simp
                with_reducible rfl
               rotate_left
               ·simp only [Act.put,sA,sZ,sS,i64_w,i32_w]
                rfl
               refine pure_ (i:=23) (N:=some 60) (v:=?_) (a':=?_) #[true,true,true,true,true,true,true,true,true,true,true,true,true,true,true,true,true,true,true,true,true,true,false,true,false,false,false,false,false,false,false,false,false,false,false,false,false,false,false,false] rfl rfl (any_of HT_.out (by kernel_rfl)) (fun _ _ _ h => h) (Or.inl ⟨by rfl,?_⟩) ?_ ?_
               rotate_left
               ·intro w'
                go_simp
                with_reducible rfl
               rotate_left
               ·simp only [Act.put,sA,sZ,sS,i64_w,i32_w]
                rfl
               refine pure_ (i:=24) (N:=some 61) (v:=?_) (a':=?_) #[true,true,true,true,true,true,true,true,true,true,true,true,true,true,true,true,true,true,true,true,true,true,false,true,true,false,false,false,false,false,false,false,false,false,false,false,false,false,false,false] rfl rfl (any_of HT_.out (by kernel_rfl)) (fun _ _ _ h => h) (Or.inl ⟨by rfl,?_⟩) ?_ ?_
               rotate_left
               ·intro w'
                go_simp
                with_reducible rfl
               rotate_left
               ·simp only [Act.put,sA,sZ,sS,i64_w,i32_w]
                rfl
               refine pure_ (i:=25) (N:=some 62) (v:=?_) (a':=?_) #[true,true,true,true,true,true,true,true,true,true,true,true,true,true,true,true,true,true,true,true,true,true,false,true,true,true,false,false,false,false,false,false,false,false,false,false,false,false,false,false] rfl rfl (any_of HT_.out (by kernel_rfl)) (fun _ _ _ h => h) (Or.inl ⟨by rfl,?_⟩) ?_ ?_
               rotate_left
               ·intro w'
                go_simp
                with_reducible rfl
               rotate_left
               ·simp only [Act.put,sA,sZ,sS,i64_w,i32_w]
                rfl
               refine pure_ (i:=26) (N:=some 63) (v:=?_) (a':=?_) #[true,true,true,true,true,true,true,true,true,true,true,true,true,true,true,true,true,true,true,true,true,true,false,true,true,true,true,false,false,false,false,false,false,false,false,false,false,false,false,false] rfl rfl (any_of HT_.out (by kernel_rfl)) (fun _ _ _ h => h) (Or.inl ⟨by rfl,?_⟩) ?_ ?_
               rotate_left
               ·intro w'
                go_simp
                with_reducible rfl
               rotate_left
               ·simp only [Act.put,sA,sZ,sS,i64_w,i32_w]
                rfl
               refine take_ (i:=22) (N:=some 59) (v:=?_) (a':=?_) #[true,true,true,true,true,true,true,true,true,true,true,true,true,true,true,true,true,true,true,true,true,true,true,true,true,true,true,false,false,false,false,false,false,false,false,false,false,false,false,false] rfl rfl (take_ofW HT_.out HW_.out (by kernel_rfl)) (fun _ _ _ h => h) (Or.inl ⟨by rfl,?_⟩) hHeld ?_ ?_
               rotate_left
               ·rintro w' ⟨s0,s1,s2,s3,s4,s5,s6,s7,s8,s9,s10,s11,s12⟩
                go_simp
                with_reducible rfl
               rotate_left
               ·simp only [Act.put,sA,sZ,sS,i64_w,i32_w]
                rfl
               refine take_ (i:=27) (N:=some 64) (v:=?_) (a':=?_) #[true,true,true,true,true,true,true,true,true,true,true,true,true,true,true,true,true,true,true,true,true,true,true,true,true,true,true,true,false,false,false,false,false,false,false,false,false,false,false,false] rfl rfl (take_ofW HT_.out HW_.out (by kernel_rfl)) (fun _ _ _ h => h) (Or.inl ⟨by rfl,?_⟩) hHeld ?_ ?_
               rotate_left
               ·rintro w' ⟨s0,s1,s2,s3,s4,s5,s6,s7,s8,s9,s10,s11,s12⟩
                go_simp
                with_reducible rfl
               rotate_left
               ·simp only [Act.put,sA,sZ,sS,i64_w,i32_w]
                rfl
               refine pure_ (i:=28) (N:=some 65) (v:=?_) (a':=?_) #[true,true,true,true,true,true,true,true,true,true,true,true,true,true,true,true,true,true,true,true,true,true,true,true,true,true,true,true,true,false,false,false,false,false,false,false,false,false,false,false] rfl rfl (any_of HT_.out (by kernel_rfl)) (fun _ _ _ h => h) (Or.inl ⟨by rfl,?_⟩) ?_ ?_
               rotate_left
               ·intro w'
                go_simp
                with_reducible rfl
               rotate_left
               ·simp only [Act.put,sA,sZ,sS,i64_w,i32_w]
                rfl
               refine pure_ (i:=29) (N:=some 66) (v:=?_) (a':=?_) #[true,true,true,true,true,true,true,true,true,true,true,true,true,true,true,true,true,true,true,true,true,true,true,true,true,true,true,true,true,true,false,false,false,false,false,false,false,false,false,false] rfl rfl (any_of HT_.out (by kernel_rfl)) (fun _ _ _ h => h) (Or.inl ⟨by rfl,?_⟩) ?_ ?_
               rotate_left
               ·intro w'
                go_simp
                with_reducible rfl
               rotate_left
               ·simp only [Act.put,sA,sZ,sS,i64_w,i32_w]
                rfl
               refine pure_ (i:=30) (N:=some 67) (v:=?_) (a':=?_) #[true,true,true,true,true,true,true,true,true,true,true,true,true,true,true,true,true,true,true,true,true,true,true,true,true,true,true,true,true,true,true,false,false,false,false,false,false,false,false,false] rfl rfl (any_of HT_.out (by kernel_rfl)) (fun _ _ _ h => h) (Or.inl ⟨by rfl,?_⟩) ?_ ?_
               rotate_left
               ·intro w'
                go_simp
                with_reducible rfl
               rotate_left
               ·simp only [Act.put,sA,sZ,sS,i64_w,i32_w]
                rfl
               refine pure_ (i:=31) (N:=some 68) (v:=?_) (a':=?_) #[true,true,true,true,true,true,true,true,true,true,true,true,true,true,true,true,true,true,true,true,true,true,true,true,true,true,true,true,true,true,true,true,false,false,false,false,false,false,false,false] rfl rfl (any_of HT_.out (by kernel_rfl)) (fun _ _ _ h => h) (Or.inl ⟨by rfl,?_⟩) ?_ ?_
               rotate_left
               ·intro w'
                go_simp
                with_reducible rfl
               rotate_left
               ·simp only [Act.put,sA,sZ,sS,i64_w,i32_w]
                rfl
               refine pure_ (i:=32) (N:=some 69) (v:=?_) (a':=?_) #[true,true,true,true,true,true,true,true,true,true,true,true,true,true,true,true,true,true,true,true,true,true,true,true,true,true,true,true,true,true,true,true,true,false,false,false,false,false,false,false] rfl rfl (any_of HT_.out (by kernel_rfl)) (fun _ _ _ h => h) (Or.inl ⟨by rfl,?_⟩) ?_ ?_
               rotate_left
               ·intro w'
                go_simp
                with_reducible rfl
               rotate_left
               ·simp only [Act.put,sA,sZ,sS,i64_w,i32_w]
                rfl
               refine pure_ (i:=34) (N:=some 71) (v:=?_) (a':=?_) #[true,true,true,true,true,true,true,true,true,true,true,true,true,true,true,true,true,true,true,true,true,true,true,true,true,true,true,true,true,true,true,true,true,false,true,false,false,false,false,false] rfl rfl (any_of HT_.out (by kernel_rfl)) (fun _ _ _ h => h) (Or.inl ⟨by rfl,?_⟩) ?_ ?_
               rotate_left
               ·intro w'
                go_simp
                with_reducible rfl
               rotate_left
               ·simp only [Act.put,sA,sZ,sS,i64_w,i32_w]
                rfl
               refine pure_ (i:=35) (N:=some 72) (v:=?_) (a':=?_) #[true,true,true,true,true,true,true,true,true,true,true,true,true,true,true,true,true,true,true,true,true,true,true,true,true,true,true,true,true,true,true,true,true,false,true,true,false,false,false,false] rfl rfl (any_of HT_.out (by kernel_rfl)) (fun _ _ _ h => h) (Or.inl ⟨by rfl,?_⟩) ?_ ?_
               rotate_left
               ·intro w'
                go_simp
                with_reducible rfl
               rotate_left
               ·simp only [Act.put,sA,sZ,sS,i64_w,i32_w]
                rfl
               refine pure_ (i:=36) (N:=some 73) (v:=?_) (a':=?_) #[true,true,true,true,true,true,true,true,true,true,true,true,true,true,true,true,true,true,true,true,true,true,true,true,true,true,true,true,true,true,true,true,true,false,true,true,true,false,false,false] rfl rfl (any_of HT_.out (by kernel_rfl)) (fun _ _ _ h => h) (Or.inl ⟨by rfl,?_⟩) ?_ ?_
               rotate_left
               ·intro w'
                go_simp
                with_reducible rfl
               rotate_left
               ·simp only [Act.put,sA,sZ,sS,i64_w,i32_w]
                rfl
               refine pure_ (i:=37) (N:=some 74) (v:=?_) (a':=?_) #[true,true,true,true,true,true,true,true,true,true,true,true,true,true,true,true,true,true,true,true,true,true,true,true,true,true,true,true,true,true,true,true,true,false,true,true,true,true,false,false] rfl rfl (any_of HT_.out (by kernel_rfl)) (fun _ _ _ h => h) (Or.inl ⟨by rfl,?_⟩) ?_ ?_
               rotate_left
               ·intro w'
                go_simp
                with_reducible rfl
               rotate_left
               ·simp only [Act.put,sA,sZ,sS,i64_w,i32_w]
                rfl
               refine take_ (i:=33) (N:=some 70) (v:=?_) (a':=?_) #[true,true,true,true,true,true,true,true,true,true,true,true,true,true,true,true,true,true,true,true,true,true,true,true,true,true,true,true,true,true,true,true,true,true,true,true,true,true,false,false] rfl rfl (take_ofW HT_.out HW_.out (by kernel_rfl)) (fun _ _ _ h => h) (Or.inl ⟨by rfl,?_⟩) hHeld ?_ ?_
               rotate_left
               ·rintro w' ⟨s0,s1,s2,s3,s4,s5,s6,s7,s8,s9,s10,s11,s12⟩
                go_simp
                with_reducible rfl
               rotate_left
               ·simp only [Act.put,sA,sZ,sS,i64_w,i32_w]
                rfl
               refine pure_ (i:=38) (N:=some 75) (v:=?_) (a':=?_) #[true,true,true,true,true,true,true,true,true,true,true,true,true,true,true,true,true,true,true,true,true,true,true,true,true,true,true,true,true,true,true,true,true,true,true,true,true,true,true,false] rfl rfl (any_of HT_.out (by kernel_rfl)) (fun _ _ _ h => h) (Or.inl ⟨by rfl,?_⟩) ?_ ?_
               rotate_left
               ·intro w'
                go_simp
                with_reducible rfl
               rotate_left
               ·simp only [Act.put,sA,sZ,sS,i64_w,i32_w]
                rfl
               refine pure_ (i:=39) (N:=some 76) (v:=?_) (a':=?_) #[true,true,true,true,true,true,true,true,true,true,true,true,true,true,true,true,true,true,true,true,true,true,true,true,true,true,true,true,true,true,true,true,true,true,true,true,true,true,true,true] rfl rfl (any_of HT_.out (by kernel_rfl)) (fun _ _ _ h => h) (Or.inl ⟨by rfl,?_⟩) ?_ ?_
               rotate_left
               ·intro w'
                go_simp
                with_reducible rfl
               rotate_left
               ·simp only [Act.put,sA,sZ,sS,i64_w,i32_w]
                rfl
               refine done_ (done_of HT_.out (by kernel_rfl)) ?_
               try go_wp2
               go_meet
               case rel => exact ⟨_,((((rd_T41 t393 x32_2).f0.f1) != (IntKind.u64.wrap (a2 + (IntKind.u64.wrap (x32_2)))))),(by first|rfl|(simp;done)|(simp [*];done)),H',⟨by have:=HJ3.out;have:=HK2.out;first|omega|exact Nat.le_refl _⟩,⟨by (with_reducible repeat (first|apply zA|apply zN|apply zD));exact HO_7.out⟩,⟨by (with_reducible repeat (first|apply zA|apply zN|apply zD));exact HO_30.out⟩,⟨by (with_reducible repeat (first|refine bN ?_ _|refine bD ?_|refine bA ?_ _));exact BK397.out⟩,⟨by repeat (first|(with_reducible first|exact HB.out|apply below_alloc|apply pw_below_drewN|apply below_drew1|refine below_set ?_ GE397.out)|exact HB.out)⟩⟩
              ·rw [if_neg c27] at H
               have c27b0 : (((rd_T41 t393 x32_2).f1).toList == ((rd_T43 l0 x32_2).f2).toList) = false:=beq_eq_false_iff_ne.mpr c27
               have c27b1 : (((rd_T41 t393 x32_2).f1).toList != ((rd_T43 l0 x32_2).f2).toList) = true:=bne_iff_ne.mpr c27
               have H':=Aside0.mk H
               clear H
               try go_wp2
               have n0_ : Aside0 (Kd.R k41 41 ((((w22.setCell ⟨gb397,0,none⟩ (.string ((rd_T41 t393 x32_2).f0.f0))).setCell ⟨gb397,1,none⟩ (.int .u64 ((rd_T41 t393 x32_2).f0.f1))).setCell ⟨gb397,2,none⟩ (.int .u8 ((rd_T41 t393 x32_2).f0.f2))).setCell ⟨gb397,3,none⟩ (.string ((rd_T41 t393 x32_2).f1))) w.heap.size (fun k_ => k_ ≠ gb397) (.slice (some ad396) t393.length co17) t393):=⟨by (with_reducible repeat (first|apply zA|apply zN|apply zD));exact Kd.R_mono (Kd.R_far (p:=⟨gb397,3,none⟩) (Kd.R_far (p:=⟨gb397,2,none⟩) (Kd.R_far (p:=⟨gb397,1,none⟩) (Kd.R_far (p:=⟨gb397,0,none⟩) (Kd.R_mono HO_7.out (fun k_ hk => (⟨hk,hk.2⟩ : _ ∧ k_ ≠ gb397))) (fun _ hk => hk.2) (.string ((rd_T41 t393 x32_2).f0.f0))) (fun _ hk => hk.2) (.int .u64 ((rd_T41 t393 x32_2).f0.f1))) (fun _ hk => hk.2) (.int .u8 ((rd_T41 t393 x32_2).f0.f2))) (fun _ hk => hk.2) (.string ((rd_T41 t393 x32_2).f1))) (fun _ hk => hk.1.2)⟩
               have n1_ : Aside0 (Kd.R k41 41 ((((w22.setCell ⟨gb397,0,none⟩ (.string ((rd_T41 t393 x32_2).f0.f0))).setCell ⟨gb397,1,none⟩ (.int .u64 ((rd_T41 t393 x32_2).f0.f1))).setCell ⟨gb397,2,none⟩ (.int .u8 ((rd_T41 t393 x32_2).f0.f2))).setCell ⟨gb397,3,none⟩ (.string ((rd_T41 t393 x32_2).f1))) w.heap.size (fun k_ => k_ ≠ gb397) (.slice (some ad396) t393.length co17) t393):=⟨by (with_reducible repeat (first|apply zA|apply zN|apply zD));exact Kd.R_mono (Kd.R_far (p:=⟨gb397,3,none⟩) (Kd.R_far (p:=⟨gb397,2,none⟩) (Kd.R_far (p:=⟨gb397,1,none⟩) (Kd.R_far (p:=⟨gb397,0,none⟩) (Kd.R_mono HO_30.out (fun k_ hk => (⟨hk,hk.2⟩ : _ ∧ k_ ≠ gb397))) (fun _ hk => hk.2) (.string ((rd_T41 t393 x32_2).f0.f0))) (fun _ hk => hk.2) (.int .u64 ((rd_T41 t393 x32_2).f0.f1))) (fun _ hk => hk.2) (.int .u8 ((rd_T41 t393 x32_2).f0.f2))) (fun _ hk => hk.2) (.string ((rd_T41 t393 x32_2).f1))) (fun _ hk => hk.1.2)⟩
               have n2_ : Aside0 (((((w22.setCell ⟨gb397,0,none⟩ (.string ((rd_T41 t393 x32_2).f0.f0))).setCell ⟨gb397,1,none⟩ (.int .u64 ((rd_T41 t393 x32_2).f0.f1))).setCell ⟨gb397,2,none⟩ (.int .u8 ((rd_T41 t393 x32_2).f0.f2))).setCell ⟨gb397,3,none⟩ (.string ((rd_T41 t393 x32_2).f1))).heap[gb397]? = some (.cells #[.string ((rd_T41 t393 x32_2).f0.f0),.int .u64 ((rd_T41 t393 x32_2).f0.f1),.int .u8 ((rd_T41 t393 x32_2).f0.f2),.string ((rd_T41 t393 x32_2).f1)] 41 (0,0))):=⟨by (with_reducible repeat (first|refine bN ?_ _|refine bD ?_|refine bA ?_ _));refine blk_put (cs:=#[.string ((rd_T41 t393 x32_2).f0.f0),.int .u64 ((rd_T41 t393 x32_2).f0.f1),.int .u8 ((rd_T41 t393 x32_2).f0.f2),.string (⟨#[]⟩ : ByteArray)]) ?_ 3 _ rfl;(with_reducible repeat (first|refine bN ?_ _|refine bD ?_|refine bA ?_ _));refine blk_put (cs:=#[.string ((rd_T41 t393 x32_2).f0.f0),.int .u64 ((rd_T41 t393 x32_2).f0.f1),.int .u8 0,.string (⟨#[]⟩ : ByteArray)]) ?_ 2 _ rfl;(with_reducible repeat (first|refine bN ?_ _|refine bD ?_|refine bA ?_ _));refine blk_put (cs:=#[.string ((rd_T41 t393 x32_2).f0.f0),.int .u64 0,.int .u8 0,.string (⟨#[]⟩ : ByteArray)]) ?_ 1 _ rfl;(with_reducible repeat (first|refine bN ?_ _|refine bD ?_|refine bA ?_ _));refine blk_put (cs:=#[.string (⟨#[]⟩ : ByteArray),.int .u64 0,.int .u8 0,.string (⟨#[]⟩ : ByteArray)]) ?_ 0 _ rfl;(with_reducible repeat (first|refine bN ?_ _|refine bD ?_|refine bA ?_ _));exact BK397.out⟩
               have n3_ : Aside0 (Below w.heap.size w ((((w22.setCell ⟨gb397,0,none⟩ (.string ((rd_T41 t393 x32_2).f0.f0))).setCell ⟨gb397,1,none⟩ (.int .u64 ((rd_T41 t393 x32_2).f0.f1))).setCell ⟨gb397,2,none⟩ (.int .u8 ((rd_T41 t393 x32_2).f0.f2))).setCell ⟨gb397,3,none⟩ (.string ((rd_T41 t393 x32_2).f1)))):=⟨by repeat (first|(with_reducible first|exact HB.out|apply below_alloc|apply pw_below_drewN|apply below_drew1|refine below_set ?_ GE397.out)|exact HB.out)⟩
               (try clear HO_7)
               (try clear HO_30)
               (try clear BK397)
               (try clear HB)
               generalize ((((w22.setCell ⟨gb397,0,none⟩ (.string ((rd_T41 t393 x32_2).f0.f0))).setCell ⟨gb397,1,none⟩ (.int .u64 ((rd_T41 t393 x32_2).f0.f1))).setCell ⟨gb397,2,none⟩ (.int .u8 ((rd_T41 t393 x32_2).f0.f2))).setCell ⟨gb397,3,none⟩ (.string ((rd_T41 t393 x32_2).f1))) = w30 at n0_ n1_ n2_ n3_ ⊢
               have HO_7:=n0_
               have HO_30:=n1_
               have BK397:=n2_
               have HB:=n3_
               clear n0_ n1_ n2_ n3_
               have n0_:=Aside0.mk (Kd.R_drew HO_7.out)
               have n1_:=Aside0.mk (Kd.R_drew HO_30.out)
               have n2_:=Aside0.mk (blk_drew BK397.out)
               have n3_:=Aside0.mk (below_drew1 HB.out)
               clear HO_7
               clear HO_30
               clear BK397
               clear HB
               have HO_7:=n0_
               have HO_30:=n1_
               have BK397:=n2_
               have HB:=n3_
               clear n0_ n1_ n2_ n3_
               have p398 : 0 ≤ (x32_2 : Int):=of_decide_eq_true (by first|(with_reducible assumption)|assumption)
               have q398 : x32_2 < (l0.length : Int):=of_decide_eq_true (by first|(with_reducible assumption)|assumption)
               obtain ⟨ad398,e398,hx398_0,hx398_1,hx398_2⟩:=at_T43 HR0.out x32_2 p398 q398
               have hw398_2:=hx398_2
               have hw398_1:=hx398_1
               have hw398_0:=hx398_0
               cases e398
               replace hx398_0:=(HB.out.cell (World.block_lt_of_cell? w _ hx398_0)).trans hx398_0
               replace hx398_1:=(HB.out.cell (World.block_lt_of_cell? w _ hx398_1)).trans hx398_1
               replace hx398_2:=(HB.out.cell (World.block_lt_of_cell? w _ hx398_2)).trans hx398_2
               replace p398:=eq_true p398
               replace q398:=eq_true q398
               have p399 : 0 ≤ (x32_2 : Int):=of_decide_eq_true (by first|(with_reducible assumption)|assumption)
               have q399 : x32_2 < (l0.length : Int):=of_decide_eq_true (by first|(with_reducible assumption)|assumption)
               obtain ⟨ad399,e399,hx399_0,hx399_1,hx399_2⟩:=at_T43 HR0.out x32_2 p399 q399
               have hw399_2:=hx399_2
               have hw399_1:=hx399_1
               have hw399_0:=hx399_0
               obtain rfl : ad398 = ad399:=(by injection e399)
               replace hx399_0:=(HB.out.cell (World.block_lt_of_cell? w _ hx399_0)).trans hx399_0
               replace hx399_1:=(HB.out.cell (World.block_lt_of_cell? w _ hx399_1)).trans hx399_1
               replace hx399_2:=(HB.out.cell (World.block_lt_of_cell? w _ hx399_2)).trans hx399_2
               replace p399:=eq_true p399
               replace q399:=eq_true q399
               have p400 : 0 ≤ (x32_2 : Int):=of_decide_eq_true (by first|(with_reducible assumption)|assumption)
               have q400 : x32_2 < (l0.length : Int):=of_decide_eq_true (by first|(with_reducible assumption)|assumption)
               obtain ⟨ad400,e400,hx400_0,hx400_1,hx400_2⟩:=at_T43 HR0.out x32_2 p400 q400
               have hw400_2:=hx400_2
               have hw400_1:=hx400_1
               have hw400_0:=hx400_0
               obtain rfl : ad398 = ad400:=(by injection e400)
               replace hx400_0:=(HB.out.cell (World.block_lt_of_cell? w _ hx400_0)).trans hx400_0
               replace hx400_1:=(HB.out.cell (World.block_lt_of_cell? w _ hx400_1)).trans hx400_1
               replace hx400_2:=(HB.out.cell (World.block_lt_of_cell? w _ hx400_2)).trans hx400_2
               replace p400:=eq_true p400
               replace q400:=eq_true q400
               refine start_ (n:=40) (S:=fun w' => w'.cell? ⟨gb397,0,none⟩ = some (.string ((rd_T41 t393 x32_2).f0.f0)) ∧ w'.cell? ⟨gb397,1,none⟩ = some (.int .u64 ((rd_T41 t393 x32_2).f0.f1)) ∧ w'.cell? ⟨gb397,2,none⟩ = some (.int .u8 ((rd_T41 t393 x32_2).f0.f2)) ∧ w'.cell? ⟨gb397,3,none⟩ = some (.string ((rd_T41 t393 x32_2).f1)) ∧ w'.cell? (ad398.add ((x32_2).toNat * 3)) = some (.int .u8 ((rd_T43 l0 x32_2).f0)) ∧ w'.cell? ⟨(ad398.add ((x32_2).toNat * 3)).block,(ad398.add ((x32_2).toNat * 3)).off + 1,none⟩ = some (.string ((rd_T43 l0 x32_2).f1)) ∧ w'.cell? ⟨(ad398.add ((x32_2).toNat * 3)).block,(ad398.add ((x32_2).toNat * 3)).off + 2,none⟩ = some (.string ((rd_T43 l0 x32_2).f2)) ∧ w'.cell? (ad398.add ((x32_2).toNat * 3)) = some (.int .u8 ((rd_T43 l0 x32_2).f0)) ∧ w'.cell? ⟨(ad398.add ((x32_2).toNat * 3)).block,(ad398.add ((x32_2).toNat * 3)).off + 1,none⟩ = some (.string ((rd_T43 l0 x32_2).f1)) ∧ w'.cell? ⟨(ad398.add ((x32_2).toNat * 3)).block,(ad398.add ((x32_2).toNat * 3)).off + 2,none⟩ = some (.string ((rd_T43 l0 x32_2).f2)) ∧ w'.cell? (ad398.add ((x32_2).toNat * 3)) = some (.int .u8 ((rd_T43 l0 x32_2).f0)) ∧ w'.cell? ⟨(ad398.add ((x32_2).toNat * 3)).block,(ad398.add ((x32_2).toNat * 3)).off + 1,none⟩ = some (.string ((rd_T43 l0 x32_2).f1)) ∧ w'.cell? ⟨(ad398.add ((x32_2).toNat * 3)).block,(ad398.add ((x32_2).toNat * 3)).off + 2,none⟩ = some (.string ((rd_T43 l0 x32_2).f2))) (ds:=[]) #[false,false,false,false,false,false,false,false,false,false,false,false,false,false,false,false,false,false,false,false,false,false,false,false,false,false,false,false,false,false,false,false,false,false,false,false,false,false,false,false] (by kernel_rfl) rfl rfl ⟨(blk_cell BK397.out 0).trans rfl,(blk_cell BK397.out 1).trans rfl,(blk_cell BK397.out 2).trans rfl,(blk_cell BK397.out 3).trans rfl,((HB.out.cell (World.block_lt_of_cell? w _ hw398_0)).trans hw398_0),((HB.out.cell (World.block_lt_of_cell? w _ hw398_1)).trans hw398_1),((HB.out.cell (World.block_lt_of_cell? w _ hw398_2)).trans hw398_2),((HB.out.cell (World.block_lt_of_cell? w _ hw399_0)).trans hw399_0),((HB.out.cell (World.block_lt_of_cell? w _ hw399_1)).trans hw399_1),((HB.out.cell (World.block_lt_of_cell? w _ hw399_2)).trans hw399_2),((HB.out.cell (World.block_lt_of_cell? w _ hw400_0)).trans hw400_0),((HB.out.cell (World.block_lt_of_cell? w _ hw400_1)).trans hw400_1),((HB.out.cell (World.block_lt_of_cell? w _ hw400_2)).trans hw400_2)⟩ (fun hHeld => ?_);refine with_tabW ratlinelaw04_BatchEntries.tab9 ratlinelaw04_BatchEntries.bits9 (fun HT_ HW_ => ?_)
               generalize w30.drew = w31 at HO_7 HO_30 BK397 HB hx398_0 hx398_1 hx398_2 hx399_0 hx399_1 hx399_2 hx400_0 hx400_1 hx400_2 hHeld ⊢
               refine pure_ (i:=0) (N:=some 37) (v:=?_) (a':=?_) #[true,false,false,false,false,false,false,false,false,false,false,false,false,false,false,false,false,false,false,false,false,false,false,false,false,false,false,false,false,false,false,false,false,false,false,false,false,false,false,false] rfl rfl (any_of HT_.out (by kernel_rfl)) (fun _ _ _ h => h) (Or.inl ⟨by rfl,?_⟩) ?_ ?_
               rotate_left
               ·intro w'
                go_simp
                with_reducible rfl
               rotate_left
               ·simp only [Act.put,sA,sZ,sS,i64_w,i32_w]
                rfl
               refine pure_ (i:=1) (N:=some 38) (v:=?_) (a':=?_) #[true,true,false,false,false,false,false,false,false,false,false,false,false,false,false,false,false,false,false,false,false,false,false,false,false,false,false,false,false,false,false,false,false,false,false,false,false,false,false,false] rfl rfl (any_of HT_.out (by kernel_rfl)) (fun _ _ _ h => h) (Or.inl ⟨by rfl,?_⟩) ?_ ?_
               rotate_left
               ·intro w'
                go_simp
                with_reducible rfl
               rotate_left
               ·simp only [Act.put,sA,sZ,sS,i64_w,i32_w]
                rfl
               refine pure_ (i:=3) (N:=some 40) (v:=?_) (a':=?_) #[true,true,false,true,false,false,false,false,false,false,false,false,false,false,false,false,false,false,false,false,false,false,false,false,false,false,false,false,false,false,false,false,false,false,false,false,false,false,false,false] rfl rfl (any_of HT_.out (by kernel_rfl)) (fun _ _ _ h => h) (Or.inl ⟨by rfl,?_⟩) ?_ ?_
               rotate_left
               ·intro w'
                go_simp
                with_reducible rfl
               rotate_left
               ·simp only [Act.put,sA,sZ,sS,i64_w,i32_w]
                rfl
               refine pure_ (i:=4) (N:=some 41) (v:=?_) (a':=?_) #[true,true,false,true,true,false,false,false,false,false,false,false,false,false,false,false,false,false,false,false,false,false,false,false,false,false,false,false,false,false,false,false,false,false,false,false,false,false,false,false] rfl rfl (any_of HT_.out (by kernel_rfl)) (fun _ _ _ h => h) (Or.inl ⟨by rfl,?_⟩) ?_ ?_
               rotate_left
               ·intro w'
                go_simp
                with_reducible rfl
               rotate_left
               ·simp only [Act.put,sA,sZ,sS,i64_w,i32_w]
                rfl
               refine pure_ (i:=5) (N:=some 42) (v:=?_) (a':=?_) #[true,true,false,true,true,true,false,false,false,false,false,false,false,false,false,false,false,false,false,false,false,false,false,false,false,false,false,false,false,false,false,false,false,false,false,false,false,false,false,false] rfl rfl (any_of HT_.out (by kernel_rfl)) (fun _ _ _ h => h) (Or.inl ⟨by rfl,?_⟩) ?_ ?_
               rotate_left
               ·intro w'
                go_simp
                with_reducible rfl
               rotate_left
               ·simp only [Act.put,sA,sZ,sS,i64_w,i32_w]
                rfl
               refine pure_ (i:=6) (N:=some 43) (v:=?_) (a':=?_) #[true,true,false,true,true,true,true,false,false,false,false,false,false,false,false,false,false,false,false,false,false,false,false,false,false,false,false,false,false,false,false,false,false,false,false,false,false,false,false,false] rfl rfl (any_of HT_.out (by kernel_rfl)) (fun _ _ _ h => h) (Or.inl ⟨by rfl,?_⟩) ?_ ?_
               rotate_left
               ·intro w'
                go_simp
                with_reducible rfl
               rotate_left
               ·simp only [Act.put,sA,sZ,sS,i64_w,i32_w]
                rfl
               refine take_ (i:=2) (N:=some 39) (v:=?_) (a':=?_) #[true,true,true,true,true,true,true,false,false,false,false,false,false,false,false,false,false,false,false,false,false,false,false,false,false,false,false,false,false,false,false,false,false,false,false,false,false,false,false,false] rfl rfl (take_ofW HT_.out HW_.out (by kernel_rfl)) (fun _ _ _ h => h) (Or.inl ⟨by rfl,?_⟩) hHeld ?_ ?_
               rotate_left
               ·rintro w' ⟨s0,s1,s2,s3,s4,s5,s6,s7,s8,s9,s10,s11,s12⟩
                go_simp
                with_reducible rfl
               rotate_left
               ·simp only [Act.put,sA,sZ,sS,i64_w,i32_w]
                rfl
               refine take_ (i:=7) (N:=some 44) (v:=?_) (a':=?_) #[true,true,true,true,true,true,true,true,false,false,false,false,false,false,false,false,false,false,false,false,false,false,false,false,false,false,false,false,false,false,false,false,false,false,false,false,false,false,false,false] rfl rfl (take_ofW HT_.out HW_.out (by kernel_rfl)) (fun _ _ _ h => h) (Or.inl ⟨by rfl,?_⟩) hHeld ?_ ?_
               rotate_left
               ·rintro w' ⟨s0,s1,s2,s3,s4,s5,s6,s7,s8,s9,s10,s11,s12⟩
                go_simp
                with_reducible rfl
               rotate_left
               ·simp only [Act.put,sA,sZ,sS,i64_w,i32_w]
                rfl
               refine pure_ (i:=8) (N:=some 45) (v:=?_) (a':=?_) #[true,true,true,true,true,true,true,true,true,false,false,false,false,false,false,false,false,false,false,false,false,false,false,false,false,false,false,false,false,false,false,false,false,false,false,false,false,false,false,false] rfl rfl (any_of HT_.out (by kernel_rfl)) (fun _ _ _ h => h) (Or.inl ⟨by rfl,?_⟩) ?_ ?_
               rotate_left
               ·intro w'
                go_simp
                with_reducible rfl
               rotate_left
               ·simp only [Act.put,sA,sZ,sS,i64_w,i32_w]
                rfl
               refine pure_ (i:=9) (N:=some 46) (v:=?_) (a':=?_) #[true,true,true,true,true,true,true,true,true,true,false,false,false,false,false,false,false,false,false,false,false,false,false,false,false,false,false,false,false,false,false,false,false,false,false,false,false,false,false,false] rfl rfl (any_of HT_.out (by kernel_rfl)) (fun _ _ _ h => h) (Or.inl ⟨by rfl,?_⟩) ?_ ?_
               rotate_left
               ·intro w'
                go_simp
                with_reducible rfl
               rotate_left
               ·simp only [Act.put,sA,sZ,sS,i64_w,i32_w]
                rfl
               refine pure_ (i:=10) (N:=some 47) (v:=?_) (a':=?_) #[true,true,true,true,true,true,true,true,true,true,true,false,false,false,false,false,false,false,false,false,false,false,false,false,false,false,false,false,false,false,false,false,false,false,false,false,false,false,false,false] rfl rfl (any_of HT_.out (by kernel_rfl)) (fun _ _ _ h => h) (Or.inl ⟨by rfl,?_⟩) ?_ ?_
               rotate_left
               ·intro w'
                go_simp
                with_reducible rfl
               rotate_left
               ·simp only [Act.put,sA,sZ,sS,i64_w,i32_w]
                rfl
               refine pure_ (i:=11) (N:=some 48) (v:=?_) (a':=?_) #[true,true,true,true,true,true,true,true,true,true,true,true,false,false,false,false,false,false,false,false,false,false,false,false,false,false,false,false,false,false,false,false,false,false,false,false,false,false,false,false] rfl rfl (any_of HT_.out (by kernel_rfl)) (fun _ _ _ h => h) (Or.inl ⟨by rfl,?_⟩) ?_ ?_
               rotate_left
               ·intro w'
                go_simp
                with_reducible rfl
               rotate_left
               ·simp only [Act.put,sA,sZ,sS,i64_w,i32_w]
                rfl
               refine pure_ (i:=13) (N:=some 50) (v:=?_) (a':=?_) #[true,true,true,true,true,true,true,true,true,true,true,true,false,true,false,false,false,false,false,false,false,false,false,false,false,false,false,false,false,false,false,false,false,false,false,false,false,false,false,false] rfl rfl (any_of HT_.out (by kernel_rfl)) (fun _ _ _ h => h) (Or.inl ⟨by rfl,?_⟩) ?_ ?_
               rotate_left
               ·intro w'
                go_simp
                with_reducible rfl
               rotate_left
               ·simp only [Act.put,sA,sZ,sS,i64_w,i32_w]
                rfl
               refine pure_ (i:=14) (N:=some 51) (v:=?_) (a':=?_) #[true,true,true,true,true,true,true,true,true,true,true,true,false,true,true,false,false,false,false,false,false,false,false,false,false,false,false,false,false,false,false,false,false,false,false,false,false,false,false,false] rfl rfl (any_of HT_.out (by kernel_rfl)) (fun _ _ _ h => h) (Or.inl ⟨by rfl,?_⟩) ?_ ?_
               rotate_left
               ·intro w'
                go_simp
                with_reducible rfl
               rotate_left
               ·simp only [Act.put,sA,sZ,sS,i64_w,i32_w]
                rfl
               refine pure_ (i:=15) (N:=some 52) (v:=?_) (a':=?_) #[true,true,true,true,true,true,true,true,true,true,true,true,false,true,true,true,false,false,false,false,false,false,false,false,false,false,false,false,false,false,false,false,false,false,false,false,false,false,false,false] rfl rfl (any_of HT_.out (by kernel_rfl)) (fun _ _ _ h => h) (Or.inl ⟨by rfl,?_⟩) ?_ ?_
               rotate_left
               ·intro w'
                go_simp
                with_reducible rfl
               rotate_left
               ·simp only [Act.put,sA,sZ,sS,i64_w,i32_w]
                rfl
               refine pure_ (i:=16) (N:=some 53) (v:=?_) (a':=?_) #[true,true,true,true,true,true,true,true,true,true,true,true,false,true,true,true,true,false,false,false,false,false,false,false,false,false,false,false,false,false,false,false,false,false,false,false,false,false,false,false] rfl rfl (any_of HT_.out (by kernel_rfl)) (fun _ _ _ h => h) (Or.inl ⟨by rfl,?_⟩) ?_ ?_
               rotate_left
               ·intro w'
                go_simp
                with_reducible rfl
               rotate_left
               ·simp only [Act.put,sA,sZ,sS,i64_w,i32_w]
                rfl
               refine take_ (i:=12) (N:=some 49) (v:=?_) (a':=?_) #[true,true,true,true,true,true,true,true,true,true,true,true,true,true,true,true,true,false,false,false,false,false,false,false,false,false,false,false,false,false,false,false,false,false,false,false,false,false,false,false] rfl rfl (take_ofW HT_.out HW_.out (by kernel_rfl)) (fun _ _ _ h => h) (Or.inl ⟨by rfl,?_⟩) hHeld ?_ ?_
               rotate_left
               ·rintro w' ⟨s0,s1,s2,s3,s4,s5,s6,s7,s8,s9,s10,s11,s12⟩
                go_simp
                with_reducible rfl
               rotate_left
               ·simp only [Act.put,sA,sZ,sS,i64_w,i32_w]
                rfl
               refine take_ (i:=17) (N:=some 54) (v:=?_) (a':=?_) #[true,true,true,true,true,true,true,true,true,true,true,true,true,true,true,true,true,true,false,false,false,false,false,false,false,false,false,false,false,false,false,false,false,false,false,false,false,false,false,false] rfl rfl (take_ofW HT_.out HW_.out (by kernel_rfl)) (fun _ _ _ h => h) (Or.inl ⟨by rfl,?_⟩) hHeld ?_ ?_
               rotate_left
               ·rintro w' ⟨s0,s1,s2,s3,s4,s5,s6,s7,s8,s9,s10,s11,s12⟩
                go_simp
                with_reducible rfl
               rotate_left
               ·simp only [Act.put,sA,sZ,sS,i64_w,i32_w]
                rfl
               refine pure_ (i:=18) (N:=some 55) (v:=?_) (a':=?_) #[true,true,true,true,true,true,true,true,true,true,true,true,true,true,true,true,true,true,true,false,false,false,false,false,false,false,false,false,false,false,false,false,false,false,false,false,false,false,false,false] rfl rfl (any_of HT_.out (by kernel_rfl)) (fun _ _ _ h => h) (Or.inl ⟨by rfl,?_⟩) ?_ ?_
               rotate_left
               ·intro w'
                go_simp
                with_reducible rfl
               rotate_left
               ·simp only [Act.put,sA,sZ,sS,i64_w,i32_w]
                rfl
               refine pure_ (i:=19) (N:=some 56) (v:=?_) (a':=?_) #[true,true,true,true,true,true,true,true,true,true,true,true,true,true,true,true,true,true,true,true,false,false,false,false,false,false,false,false,false,false,false,false,false,false,false,false,false,false,false,false] rfl rfl (any_of HT_.out (by kernel_rfl)) (fun _ _ _ h => h) (Or.inl ⟨by rfl,?_⟩) ?_ ?_
               rotate_left
               ·intro w'
                go_simp
                with_reducible rfl
               rotate_left
               ·simp only [Act.put,sA,sZ,sS,i64_w,i32_w]
                rfl
               refine pure_ (i:=20) (N:=some 57) (v:=?_) (a':=?_) #[true,true,true,true,true,true,true,true,true,true,true,true,true,true,true,true,true,true,true,true,true,false,false,false,false,false,false,false,false,false,false,false,false,false,false,false,false,false,false,false] rfl rfl (any_of HT_.out (by kernel_rfl)) (fun _ _ _ h => h) (Or.inl ⟨by rfl,?_⟩) ?_ ?_
               rotate_left
               ·intro w'
                go_simp
                with_reducible rfl
               rotate_left
               ·simp only [Act.put,sA,sZ,sS,i64_w,i32_w]
                rfl
               refine pure_ (i:=21) (N:=some 58) (v:=?_) (a':=?_) #[true,true,true,true,true,true,true,true,true,true,true,true,true,true,true,true,true,true,true,true,true,true,false,false,false,false,false,false,false,false,false,false,false,false,false,false,false,false,false,false] rfl rfl (any_of HT_.out (by kernel_rfl)) (fun _ _ _ h => h) (Or.inl ⟨by rfl,?_⟩) ?_ ?_
               rotate_left
               ·intro w'
                go_simp
                with_reducible rfl
               rotate_left
               ·simp only [Act.put,sA,sZ,sS,i64_w,i32_w]
                rfl
               refine pure_ (i:=23) (N:=some 60) (v:=?_) (a':=?_) #[true,true,true,true,true,true,true,true,true,true,true,true,true,true,true,true,true,true,true,true,true,true,false,true,false,false,false,false,false,false,false,false,false,false,false,false,false,false,false,false] rfl rfl (any_of HT_.out (by kernel_rfl)) (fun _ _ _ h => h) (Or.inl ⟨by rfl,?_⟩) ?_ ?_
               rotate_left
               ·intro w'
                go_simp
                with_reducible rfl
               rotate_left
               ·simp only [Act.put,sA,sZ,sS,i64_w,i32_w]
                rfl
               refine pure_ (i:=24) (N:=some 61) (v:=?_) (a':=?_) #[true,true,true,true,true,true,true,true,true,true,true,true,true,true,true,true,true,true,true,true,true,true,false,true,true,false,false,false,false,false,false,false,false,false,false,false,false,false,false,false] rfl rfl (any_of HT_.out (by kernel_rfl)) (fun _ _ _ h => h) (Or.inl ⟨by rfl,?_⟩) ?_ ?_
               rotate_left
               ·intro w'
                go_simp
                with_reducible rfl
               rotate_left
               ·simp only [Act.put,sA,sZ,sS,i64_w,i32_w]
                rfl
               refine pure_ (i:=25) (N:=some 62) (v:=?_) (a':=?_) #[true,true,true,true,true,true,true,true,true,true,true,true,true,true,true,true,true,true,true,true,true,true,false,true,true,true,false,false,false,false,false,false,false,false,false,false,false,false,false,false] rfl rfl (any_of HT_.out (by kernel_rfl)) (fun _ _ _ h => h) (Or.inl ⟨by rfl,?_⟩) ?_ ?_
               rotate_left
               ·intro w'
                go_simp
                with_reducible rfl
               rotate_left
               ·simp only [Act.put,sA,sZ,sS,i64_w,i32_w]
                rfl
               refine pure_ (i:=26) (N:=some 63) (v:=?_) (a':=?_) #[true,true,true,true,true,true,true,true,true,true,true,true,true,true,true,true,true,true,true,true,true,true,false,true,true,true,true,false,false,false,false,false,false,false,false,false,false,false,false,false] rfl rfl (any_of HT_.out (by kernel_rfl)) (fun _ _ _ h => h) (Or.inl ⟨by rfl,?_⟩) ?_ ?_
               rotate_left
               ·intro w'
                go_simp
                with_reducible rfl
               rotate_left
               ·simp only [Act.put,sA,sZ,sS,i64_w,i32_w]
                rfl
               refine take_ (i:=22) (N:=some 59) (v:=?_) (a':=?_) #[true,true,true,true,true,true,true,true,true,true,true,true,true,true,true,true,true,true,true,true,true,true,true,true,true,true,true,false,false,false,false,false,false,false,false,false,false,false,false,false] rfl rfl (take_ofW HT_.out HW_.out (by kernel_rfl)) (fun _ _ _ h => h) (Or.inl ⟨by rfl,?_⟩) hHeld ?_ ?_
               rotate_left
               ·rintro w' ⟨s0,s1,s2,s3,s4,s5,s6,s7,s8,s9,s10,s11,s12⟩
                go_simp
                with_reducible rfl
               rotate_left
               ·simp only [Act.put,sA,sZ,sS,i64_w,i32_w]
                rfl
               refine take_ (i:=27) (N:=some 64) (v:=?_) (a':=?_) #[true,true,true,true,true,true,true,true,true,true,true,true,true,true,true,true,true,true,true,true,true,true,true,true,true,true,true,true,false,false,false,false,false,false,false,false,false,false,false,false] rfl rfl (take_ofW HT_.out HW_.out (by kernel_rfl)) (fun _ _ _ h => h) (Or.inl ⟨by rfl,?_⟩) hHeld ?_ ?_
               rotate_left
               ·rintro w' ⟨s0,s1,s2,s3,s4,s5,s6,s7,s8,s9,s10,s11,s12⟩
                go_simp
                with_reducible rfl
               rotate_left
               ·simp only [Act.put,sA,sZ,sS,i64_w,i32_w]
                rfl
               refine pure_ (i:=28) (N:=some 65) (v:=?_) (a':=?_) #[true,true,true,true,true,true,true,true,true,true,true,true,true,true,true,true,true,true,true,true,true,true,true,true,true,true,true,true,true,false,false,false,false,false,false,false,false,false,false,false] rfl rfl (any_of HT_.out (by kernel_rfl)) (fun _ _ _ h => h) (Or.inl ⟨by rfl,?_⟩) ?_ ?_
               rotate_left
               ·intro w'
                go_simp
                with_reducible rfl
               rotate_left
               ·simp only [Act.put,sA,sZ,sS,i64_w,i32_w]
                rfl
               refine pure_ (i:=29) (N:=some 66) (v:=?_) (a':=?_) #[true,true,true,true,true,true,true,true,true,true,true,true,true,true,true,true,true,true,true,true,true,true,true,true,true,true,true,true,true,true,false,false,false,false,false,false,false,false,false,false] rfl rfl (any_of HT_.out (by kernel_rfl)) (fun _ _ _ h => h) (Or.inl ⟨by rfl,?_⟩) ?_ ?_
               rotate_left
               ·intro w'
                go_simp
                with_reducible rfl
               rotate_left
               ·simp only [Act.put,sA,sZ,sS,i64_w,i32_w]
                rfl
               refine pure_ (i:=30) (N:=some 67) (v:=?_) (a':=?_) #[true,true,true,true,true,true,true,true,true,true,true,true,true,true,true,true,true,true,true,true,true,true,true,true,true,true,true,true,true,true,true,false,false,false,false,false,false,false,false,false] rfl rfl (any_of HT_.out (by kernel_rfl)) (fun _ _ _ h => h) (Or.inl ⟨by rfl,?_⟩) ?_ ?_
               rotate_left
               ·intro w'
                go_simp
                with_reducible rfl
               rotate_left
               ·simp only [Act.put,sA,sZ,sS,i64_w,i32_w]
                rfl
               refine pure_ (i:=31) (N:=some 68) (v:=undef) (a':=?_) #[true,true,true,true,true,true,true,true,true,true,true,true,true,true,true,true,true,true,true,true,true,true,true,true,true,true,true,true,true,true,true,true,false,false,false,false,false,false,false,false] rfl rfl (any_of HT_.out (by kernel_rfl)) (fun _ _ _ h => h) (Or.inr ⟨by rfl,rfl⟩) ?_ ?_
               rotate_left
               ·simp only [Act.put,sA,sZ,sS,i64_w,i32_w]
                rfl
               refine pure_ (i:=32) (N:=some 69) (v:=undef) (a':=?_) #[true,true,true,true,true,true,true,true,true,true,true,true,true,true,true,true,true,true,true,true,true,true,true,true,true,true,true,true,true,true,true,true,true,false,false,false,false,false,false,false] rfl rfl (any_of HT_.out (by kernel_rfl)) (fun _ _ _ h => h) (Or.inr ⟨by rfl,rfl⟩) ?_ ?_
               rotate_left
               ·simp only [Act.put,sA,sZ,sS,i64_w,i32_w]
                rfl
               refine pure_ (i:=33) (N:=some 70) (v:=undef) (a':=?_) #[true,true,true,true,true,true,true,true,true,true,true,true,true,true,true,true,true,true,true,true,true,true,true,true,true,true,true,true,true,true,true,true,true,true,false,false,false,false,false,false] rfl rfl (any_of HT_.out (by kernel_rfl)) (fun _ _ _ h => h) (Or.inr ⟨by rfl,rfl⟩) ?_ ?_
               rotate_left
               ·simp only [Act.put,sA,sZ,sS,i64_w,i32_w]
                rfl
               refine pure_ (i:=34) (N:=some 71) (v:=undef) (a':=?_) #[true,true,true,true,true,true,true,true,true,true,true,true,true,true,true,true,true,true,true,true,true,true,true,true,true,true,true,true,true,true,true,true,true,true,true,false,false,false,false,false] rfl rfl (any_of HT_.out (by kernel_rfl)) (fun _ _ _ h => h) (Or.inr ⟨by rfl,rfl⟩) ?_ ?_
               rotate_left
               ·simp only [Act.put,sA,sZ,sS,i64_w,i32_w]
                rfl
               refine pure_ (i:=35) (N:=some 72) (v:=undef) (a':=?_) #[true,true,true,true,true,true,true,true,true,true,true,true,true,true,true,true,true,true,true,true,true,true,true,true,true,true,true,true,true,true,true,true,true,true,true,true,false,false,false,false] rfl rfl (any_of HT_.out (by kernel_rfl)) (fun _ _ _ h => h) (Or.inr ⟨by rfl,rfl⟩) ?_ ?_
               rotate_left
               ·simp only [Act.put,sA,sZ,sS,i64_w,i32_w]
                rfl
               refine pure_ (i:=36) (N:=some 73) (v:=undef) (a':=?_) #[true,true,true,true,true,true,true,true,true,true,true,true,true,true,true,true,true,true,true,true,true,true,true,true,true,true,true,true,true,true,true,true,true,true,true,true,true,false,false,false] rfl rfl (any_of HT_.out (by kernel_rfl)) (fun _ _ _ h => h) (Or.inr ⟨by rfl,rfl⟩) ?_ ?_
               rotate_left
               ·simp only [Act.put,sA,sZ,sS,i64_w,i32_w]
                rfl
               refine pure_ (i:=37) (N:=some 74) (v:=undef) (a':=?_) #[true,true,true,true,true,true,true,true,true,true,true,true,true,true,true,true,true,true,true,true,true,true,true,true,true,true,true,true,true,true,true,true,true,true,true,true,true,true,false,false] rfl rfl (any_of HT_.out (by kernel_rfl)) (fun _ _ _ h => h) (Or.inr ⟨by rfl,rfl⟩) ?_ ?_
               rotate_left
               ·simp only [Act.put,sA,sZ,sS,i64_w,i32_w]
                rfl
               refine pure_ (i:=38) (N:=some 75) (v:=undef) (a':=?_) #[true,true,true,true,true,true,true,true,true,true,true,true,true,true,true,true,true,true,true,true,true,true,true,true,true,true,true,true,true,true,true,true,true,true,true,true,true,true,true,false] rfl rfl (any_of HT_.out (by kernel_rfl)) (fun _ _ _ h => h) (Or.inr ⟨by rfl,rfl⟩) ?_ ?_
               rotate_left
               ·simp only [Act.put,sA,sZ,sS,i64_w,i32_w]
                rfl
               refine pure_ (i:=39) (N:=some 76) (v:=?_) (a':=?_) #[true,true,true,true,true,true,true,true,true,true,true,true,true,true,true,true,true,true,true,true,true,true,true,true,true,true,true,true,true,true,true,true,true,true,true,true,true,true,true,true] rfl rfl (any_of HT_.out (by kernel_rfl)) (fun _ _ _ h => h) (Or.inl ⟨by rfl,?_⟩) ?_ ?_
               rotate_left
               ·intro w'
                go_simp
                with_reducible rfl
               rotate_left
               ·simp only [Act.put,sA,sZ,sS,i64_w,i32_w]
                rfl
               refine done_ (done_of HT_.out (by kernel_rfl)) ?_
               try go_wp2
               go_meet
               case rel => exact ⟨_,(true),(by first|rfl|(simp;done)|(simp [*];done)),H',⟨by have:=HJ3.out;have:=HK2.out;first|omega|exact Nat.le_refl _⟩,⟨by (with_reducible repeat (first|apply zA|apply zN|apply zD));exact HO_7.out⟩,⟨by (with_reducible repeat (first|apply zA|apply zN|apply zD));exact HO_30.out⟩,⟨by (with_reducible repeat (first|refine bN ?_ _|refine bD ?_|refine bA ?_ _));exact BK397.out⟩,⟨by repeat (first|(with_reducible first|exact HB.out|apply below_alloc|apply pw_below_drewN|apply below_drew1|refine below_set ?_ GE397.out)|exact HB.out)⟩⟩
             ·rw [if_neg c26] at H
              have c26b0 : (((rd_T41 t393 x32_2).f0.f2) == ((rd_T43 l0 x32_2).f0)) = false:=beq_eq_false_iff_ne.mpr c26
              have c26b1 : (((rd_T41 t393 x32_2).f0.f2) != ((rd_T43 l0 x32_2).f0)) = true:=bne_iff_ne.mpr c26
              have H':=Aside0.mk H
              clear H
              try go_wp2
              have n0_ : Aside0 (Kd.R k41 41 ((((w22.setCell ⟨gb397,0,none⟩ (.string ((rd_T41 t393 x32_2).f0.f0))).setCell ⟨gb397,1,none⟩ (.int .u64 ((rd_T41 t393 x32_2).f0.f1))).setCell ⟨gb397,2,none⟩ (.int .u8 ((rd_T41 t393 x32_2).f0.f2))).setCell ⟨gb397,3,none⟩ (.string ((rd_T41 t393 x32_2).f1))) w.heap.size (fun k_ => k_ ≠ gb397) (.slice (some ad396) t393.length co17) t393):=⟨by (with_reducible repeat (first|apply zA|apply zN|apply zD));exact Kd.R_mono (Kd.R_far (p:=⟨gb397,3,none⟩) (Kd.R_far (p:=⟨gb397,2,none⟩) (Kd.R_far (p:=⟨gb397,1,none⟩) (Kd.R_far (p:=⟨gb397,0,none⟩) (Kd.R_mono HO_7.out (fun k_ hk => (⟨hk,hk.2⟩ : _ ∧ k_ ≠ gb397))) (fun _ hk => hk.2) (.string ((rd_T41 t393 x32_2).f0.f0))) (fun _ hk => hk.2) (.int .u64 ((rd_T41 t393 x32_2).f0.f1))) (fun _ hk => hk.2) (.int .u8 ((rd_T41 t393 x32_2).f0.f2))) (fun _ hk => hk.2) (.string ((rd_T41 t393 x32_2).f1))) (fun _ hk => hk.1.2)⟩
              have n1_ : Aside0 (Kd.R k41 41 ((((w22.setCell ⟨gb397,0,none⟩ (.string ((rd_T41 t393 x32_2).f0.f0))).setCell ⟨gb397,1,none⟩ (.int .u64 ((rd_T41 t393 x32_2).f0.f1))).setCell ⟨gb397,2,none⟩ (.int .u8 ((rd_T41 t393 x32_2).f0.f2))).setCell ⟨gb397,3,none⟩ (.string ((rd_T41 t393 x32_2).f1))) w.heap.size (fun k_ => k_ ≠ gb397) (.slice (some ad396) t393.length co17) t393):=⟨by (with_reducible repeat (first|apply zA|apply zN|apply zD));exact Kd.R_mono (Kd.R_far (p:=⟨gb397,3,none⟩) (Kd.R_far (p:=⟨gb397,2,none⟩) (Kd.R_far (p:=⟨gb397,1,none⟩) (Kd.R_far (p:=⟨gb397,0,none⟩) (Kd.R_mono HO_30.out (fun k_ hk => (⟨hk,hk.2⟩ : _ ∧ k_ ≠ gb397))) (fun _ hk => hk.2) (.string ((rd_T41 t393 x32_2).f0.f0))) (fun _ hk => hk.2) (.int .u64 ((rd_T41 t393 x32_2).f0.f1))) (fun _ hk => hk.2) (.int .u8 ((rd_T41 t393 x32_2).f0.f2))) (fun _ hk => hk.2) (.string ((rd_T41 t393 x32_2).f1))) (fun _ hk => hk.1.2)⟩
              have n2_ : Aside0 (((((w22.setCell ⟨gb397,0,none⟩ (.string ((rd_T41 t393 x32_2).f0.f0))).setCell ⟨gb397,1,none⟩ (.int .u64 ((rd_T41 t393 x32_2).f0.f1))).setCell ⟨gb397,2,none⟩ (.int .u8 ((rd_T41 t393 x32_2).f0.f2))).setCell ⟨gb397,3,none⟩ (.string ((rd_T41 t393 x32_2).f1))).heap[gb397]? = some (.cells #[.string ((rd_T41 t393 x32_2).f0.f0),.int .u64 ((rd_T41 t393 x32_2).f0.f1),.int .u8 ((rd_T41 t393 x32_2).f0.f2),.string ((rd_T41 t393 x32_2).f1)] 41 (0,0))):=⟨by (with_reducible repeat (first|refine bN ?_ _|refine bD ?_|refine bA ?_ _));refine blk_put (cs:=#[.string ((rd_T41 t393 x32_2).f0.f0),.int .u64 ((rd_T41 t393 x32_2).f0.f1),.int .u8 ((rd_T41 t393 x32_2).f0.f2),.string (⟨#[]⟩ : ByteArray)]) ?_ 3 _ rfl;(with_reducible repeat (first|refine bN ?_ _|refine bD ?_|refine bA ?_ _));refine blk_put (cs:=#[.string ((rd_T41 t393 x32_2).f0.f0),.int .u64 ((rd_T41 t393 x32_2).f0.f1),.int .u8 0,.string (⟨#[]⟩ : ByteArray)]) ?_ 2 _ rfl;(with_reducible repeat (first|refine bN ?_ _|refine bD ?_|refine bA ?_ _));refine blk_put (cs:=#[.string ((rd_T41 t393 x32_2).f0.f0),.int .u64 0,.int .u8 0,.string (⟨#[]⟩ : ByteArray)]) ?_ 1 _ rfl;(with_reducible repeat (first|refine bN ?_ _|refine bD ?_|refine bA ?_ _));refine blk_put (cs:=#[.string (⟨#[]⟩ : ByteArray),.int .u64 0,.int .u8 0,.string (⟨#[]⟩ : ByteArray)]) ?_ 0 _ rfl;(with_reducible repeat (first|refine bN ?_ _|refine bD ?_|refine bA ?_ _));exact BK397.out⟩
              have n3_ : Aside0 (Below w.heap.size w ((((w22.setCell ⟨gb397,0,none⟩ (.string ((rd_T41 t393 x32_2).f0.f0))).setCell ⟨gb397,1,none⟩ (.int .u64 ((rd_T41 t393 x32_2).f0.f1))).setCell ⟨gb397,2,none⟩ (.int .u8 ((rd_T41 t393 x32_2).f0.f2))).setCell ⟨gb397,3,none⟩ (.string ((rd_T41 t393 x32_2).f1)))):=⟨by repeat (first|(with_reducible first|exact HB.out|apply below_alloc|apply pw_below_drewN|apply below_drew1|refine below_set ?_ GE397.out)|exact HB.out)⟩
              (try clear HO_7)
              (try clear HO_30)
              (try clear BK397)
              (try clear HB)
              generalize ((((w22.setCell ⟨gb397,0,none⟩ (.string ((rd_T41 t393 x32_2).f0.f0))).setCell ⟨gb397,1,none⟩ (.int .u64 ((rd_T41 t393 x32_2).f0.f1))).setCell ⟨gb397,2,none⟩ (.int .u8 ((rd_T41 t393 x32_2).f0.f2))).setCell ⟨gb397,3,none⟩ (.string ((rd_T41 t393 x32_2).f1))) = w32 at n0_ n1_ n2_ n3_ ⊢
              have HO_7:=n0_
              have HO_30:=n1_
              have BK397:=n2_
              have HB:=n3_
              clear n0_ n1_ n2_ n3_
              have n0_:=Aside0.mk (Kd.R_drew HO_7.out)
              have n1_:=Aside0.mk (Kd.R_drew HO_30.out)
              have n2_:=Aside0.mk (blk_drew BK397.out)
              have n3_:=Aside0.mk (below_drew1 HB.out)
              clear HO_7
              clear HO_30
              clear BK397
              clear HB
              have HO_7:=n0_
              have HO_30:=n1_
              have BK397:=n2_
              have HB:=n3_
              clear n0_ n1_ n2_ n3_
              have p398 : 0 ≤ (x32_2 : Int):=of_decide_eq_true (by first|(with_reducible assumption)|assumption)
              have q398 : x32_2 < (l0.length : Int):=of_decide_eq_true (by first|(with_reducible assumption)|assumption)
              obtain ⟨ad398,e398,hx398_0,hx398_1,hx398_2⟩:=at_T43 HR0.out x32_2 p398 q398
              have hw398_2:=hx398_2
              have hw398_1:=hx398_1
              have hw398_0:=hx398_0
              cases e398
              replace hx398_0:=(HB.out.cell (World.block_lt_of_cell? w _ hx398_0)).trans hx398_0
              replace hx398_1:=(HB.out.cell (World.block_lt_of_cell? w _ hx398_1)).trans hx398_1
              replace hx398_2:=(HB.out.cell (World.block_lt_of_cell? w _ hx398_2)).trans hx398_2
              replace p398:=eq_true p398
              replace q398:=eq_true q398
              have p399 : 0 ≤ (x32_2 : Int):=of_decide_eq_true (by first|(with_reducible assumption)|assumption)
              have q399 : x32_2 < (l0.length : Int):=of_decide_eq_true (by first|(with_reducible assumption)|assumption)
              obtain ⟨ad399,e399,hx399_0,hx399_1,hx399_2⟩:=at_T43 HR0.out x32_2 p399 q399
              have hw399_2:=hx399_2
              have hw399_1:=hx399_1
              have hw399_0:=hx399_0
              obtain rfl : ad398 = ad399:=(by injection e399)
              replace hx399_0:=(HB.out.cell (World.block_lt_of_cell? w _ hx399_0)).trans hx399_0
              replace hx399_1:=(HB.out.cell (World.block_lt_of_cell? w _ hx399_1)).trans hx399_1
              replace hx399_2:=(HB.out.cell (World.block_lt_of_cell? w _ hx399_2)).trans hx399_2
              replace p399:=eq_true p399
              replace q399:=eq_true q399
              refine start_ (n:=40) (S:=fun w' => w'.cell? ⟨gb397,0,none⟩ = some (.string ((rd_T41 t393 x32_2).f0.f0)) ∧ w'.cell? ⟨gb397,1,none⟩ = some (.int .u64 ((rd_T41 t393 x32_2).f0.f1)) ∧ w'.cell? ⟨gb397,2,none⟩ = some (.int .u8 ((rd_T41 t393 x32_2).f0.f2)) ∧ w'.cell? ⟨gb397,3,none⟩ = some (.string ((rd_T41 t393 x32_2).f1)) ∧ w'.cell? (ad398.add ((x32_2).toNat * 3)) = some (.int .u8 ((rd_T43 l0 x32_2).f0)) ∧ w'.cell? ⟨(ad398.add ((x32_2).toNat * 3)).block,(ad398.add ((x32_2).toNat * 3)).off + 1,none⟩ = some (.string ((rd_T43 l0 x32_2).f1)) ∧ w'.cell? ⟨(ad398.add ((x32_2).toNat * 3)).block,(ad398.add ((x32_2).toNat * 3)).off + 2,none⟩ = some (.string ((rd_T43 l0 x32_2).f2)) ∧ w'.cell? (ad398.add ((x32_2).toNat * 3)) = some (.int .u8 ((rd_T43 l0 x32_2).f0)) ∧ w'.cell? ⟨(ad398.add ((x32_2).toNat * 3)).block,(ad398.add ((x32_2).toNat * 3)).off + 1,none⟩ = some (.string ((rd_T43 l0 x32_2).f1)) ∧ w'.cell? ⟨(ad398.add ((x32_2).toNat * 3)).block,(ad398.add ((x32_2).toNat * 3)).off + 2,none⟩ = some (.string ((rd_T43 l0 x32_2).f2))) (ds:=[]) #[false,false,false,false,false,false,false,false,false,false,false,false,false,false,false,false,false,false,false,false,false,false,false,false,false,false,false,false,false,false,false,false,false,false,false,false,false,false,false,false] (by kernel_rfl) rfl rfl ⟨(blk_cell BK397.out 0).trans rfl,(blk_cell BK397.out 1).trans rfl,(blk_cell BK397.out 2).trans rfl,(blk_cell BK397.out 3).trans rfl,((HB.out.cell (World.block_lt_of_cell? w _ hw398_0)).trans hw398_0),((HB.out.cell (World.block_lt_of_cell? w _ hw398_1)).trans hw398_1),((HB.out.cell (World.block_lt_of_cell? w _ hw398_2)).trans hw398_2),((HB.out.cell (World.block_lt_of_cell? w _ hw399_0)).trans hw399_0),((HB.out.cell (World.block_lt_of_cell? w _ hw399_1)).trans hw399_1),((HB.out.cell (World.block_lt_of_cell? w _ hw399_2)).trans hw399_2)⟩ (fun hHeld => ?_);refine with_tabW ratlinelaw04_BatchEntries.tab9 ratlinelaw04_BatchEntries.bits9 (fun HT_ HW_ => ?_)
              generalize w32.drew = w33 at HO_7 HO_30 BK397 HB hx398_0 hx398_1 hx398_2 hx399_0 hx399_1 hx399_2 hHeld ⊢
              refine pure_ (i:=0) (N:=some 37) (v:=?_) (a':=?_) #[true,false,false,false,false,false,false,false,false,false,false,false,false,false,false,false,false,false,false,false,false,false,false,false,false,false,false,false,false,false,false,false,false,false,false,false,false,false,false,false] rfl rfl (any_of HT_.out (by kernel_rfl)) (fun _ _ _ h => h) (Or.inl ⟨by rfl,?_⟩) ?_ ?_
              rotate_left
              ·intro w'
               go_simp
               with_reducible rfl
              rotate_left
              ·simp only [Act.put,sA,sZ,sS,i64_w,i32_w]
               rfl
              refine pure_ (i:=1) (N:=some 38) (v:=?_) (a':=?_) #[true,true,false,false,false,false,false,false,false,false,false,false,false,false,false,false,false,false,false,false,false,false,false,false,false,false,false,false,false,false,false,false,false,false,false,false,false,false,false,false] rfl rfl (any_of HT_.out (by kernel_rfl)) (fun _ _ _ h => h) (Or.inl ⟨by rfl,?_⟩) ?_ ?_
              rotate_left
              ·intro w'
               go_simp
               with_reducible rfl
              rotate_left
              ·simp only [Act.put,sA,sZ,sS,i64_w,i32_w]
               rfl
              refine pure_ (i:=3) (N:=some 40) (v:=?_) (a':=?_) #[true,true,false,true,false,false,false,false,false,false,false,false,false,false,false,false,false,false,false,false,false,false,false,false,false,false,false,false,false,false,false,false,false,false,false,false,false,false,false,false] rfl rfl (any_of HT_.out (by kernel_rfl)) (fun _ _ _ h => h) (Or.inl ⟨by rfl,?_⟩) ?_ ?_
              rotate_left
              ·intro w'
               go_simp
               with_reducible rfl
              rotate_left
              ·simp only [Act.put,sA,sZ,sS,i64_w,i32_w]
               rfl
              refine pure_ (i:=4) (N:=some 41) (v:=?_) (a':=?_) #[true,true,false,true,true,false,false,false,false,false,false,false,false,false,false,false,false,false,false,false,false,false,false,false,false,false,false,false,false,false,false,false,false,false,false,false,false,false,false,false] rfl rfl (any_of HT_.out (by kernel_rfl)) (fun _ _ _ h => h) (Or.inl ⟨by rfl,?_⟩) ?_ ?_
              rotate_left
              ·intro w'
               go_simp
               with_reducible rfl
              rotate_left
              ·simp only [Act.put,sA,sZ,sS,i64_w,i32_w]
               rfl
              refine pure_ (i:=5) (N:=some 42) (v:=?_) (a':=?_) #[true,true,false,true,true,true,false,false,false,false,false,false,false,false,false,false,false,false,false,false,false,false,false,false,false,false,false,false,false,false,false,false,false,false,false,false,false,false,false,false] rfl rfl (any_of HT_.out (by kernel_rfl)) (fun _ _ _ h => h) (Or.inl ⟨by rfl,?_⟩) ?_ ?_
              rotate_left
              ·intro w'
               go_simp
               with_reducible rfl
              rotate_left
              ·simp only [Act.put,sA,sZ,sS,i64_w,i32_w]
               rfl
              refine pure_ (i:=6) (N:=some 43) (v:=?_) (a':=?_) #[true,true,false,true,true,true,true,false,false,false,false,false,false,false,false,false,false,false,false,false,false,false,false,false,false,false,false,false,false,false,false,false,false,false,false,false,false,false,false,false] rfl rfl (any_of HT_.out (by kernel_rfl)) (fun _ _ _ h => h) (Or.inl ⟨by rfl,?_⟩) ?_ ?_
              rotate_left
              ·intro w'
               go_simp
               with_reducible rfl
              rotate_left
              ·simp only [Act.put,sA,sZ,sS,i64_w,i32_w]
               rfl
              refine take_ (i:=2) (N:=some 39) (v:=?_) (a':=?_) #[true,true,true,true,true,true,true,false,false,false,false,false,false,false,false,false,false,false,false,false,false,false,false,false,false,false,false,false,false,false,false,false,false,false,false,false,false,false,false,false] rfl rfl (take_ofW HT_.out HW_.out (by kernel_rfl)) (fun _ _ _ h => h) (Or.inl ⟨by rfl,?_⟩) hHeld ?_ ?_
              rotate_left
              ·rintro w' ⟨s0,s1,s2,s3,s4,s5,s6,s7,s8,s9⟩
               go_simp
               with_reducible rfl
              rotate_left
              ·simp only [Act.put,sA,sZ,sS,i64_w,i32_w]
               rfl
              refine take_ (i:=7) (N:=some 44) (v:=?_) (a':=?_) #[true,true,true,true,true,true,true,true,false,false,false,false,false,false,false,false,false,false,false,false,false,false,false,false,false,false,false,false,false,false,false,false,false,false,false,false,false,false,false,false] rfl rfl (take_ofW HT_.out HW_.out (by kernel_rfl)) (fun _ _ _ h => h) (Or.inl ⟨by rfl,?_⟩) hHeld ?_ ?_
              rotate_left
              ·rintro w' ⟨s0,s1,s2,s3,s4,s5,s6,s7,s8,s9⟩
               go_simp
               with_reducible rfl
              rotate_left
              ·simp only [Act.put,sA,sZ,sS,i64_w,i32_w]
               rfl
              refine pure_ (i:=8) (N:=some 45) (v:=?_) (a':=?_) #[true,true,true,true,true,true,true,true,true,false,false,false,false,false,false,false,false,false,false,false,false,false,false,false,false,false,false,false,false,false,false,false,false,false,false,false,false,false,false,false] rfl rfl (any_of HT_.out (by kernel_rfl)) (fun _ _ _ h => h) (Or.inl ⟨by rfl,?_⟩) ?_ ?_
              rotate_left
              ·intro w'
               go_simp
               with_reducible rfl
              rotate_left
              ·simp only [Act.put,sA,sZ,sS,i64_w,i32_w]
               rfl
              refine pure_ (i:=9) (N:=some 46) (v:=?_) (a':=?_) #[true,true,true,true,true,true,true,true,true,true,false,false,false,false,false,false,false,false,false,false,false,false,false,false,false,false,false,false,false,false,false,false,false,false,false,false,false,false,false,false] rfl rfl (any_of HT_.out (by kernel_rfl)) (fun _ _ _ h => h) (Or.inl ⟨by rfl,?_⟩) ?_ ?_
              rotate_left
              ·intro w'
               go_simp
               with_reducible rfl
              rotate_left
              ·simp only [Act.put,sA,sZ,sS,i64_w,i32_w]
               rfl
              refine pure_ (i:=10) (N:=some 47) (v:=?_) (a':=?_) #[true,true,true,true,true,true,true,true,true,true,true,false,false,false,false,false,false,false,false,false,false,false,false,false,false,false,false,false,false,false,false,false,false,false,false,false,false,false,false,false] rfl rfl (any_of HT_.out (by kernel_rfl)) (fun _ _ _ h => h) (Or.inl ⟨by rfl,?_⟩) ?_ ?_
              rotate_left
              ·intro w'
               go_simp
               with_reducible rfl
              rotate_left
              ·simp only [Act.put,sA,sZ,sS,i64_w,i32_w]
               rfl
              refine pure_ (i:=11) (N:=some 48) (v:=?_) (a':=?_) #[true,true,true,true,true,true,true,true,true,true,true,true,false,false,false,false,false,false,false,false,false,false,false,false,false,false,false,false,false,false,false,false,false,false,false,false,false,false,false,false] rfl rfl (any_of HT_.out (by kernel_rfl)) (fun _ _ _ h => h) (Or.inl ⟨by rfl,?_⟩) ?_ ?_
              rotate_left
              ·intro w'
               go_simp
               with_reducible rfl
              rotate_left
              ·simp only [Act.put,sA,sZ,sS,i64_w,i32_w]
               rfl
              refine pure_ (i:=13) (N:=some 50) (v:=?_) (a':=?_) #[true,true,true,true,true,true,true,true,true,true,true,true,false,true,false,false,false,false,false,false,false,false,false,false,false,false,false,false,false,false,false,false,false,false,false,false,false,false,false,false] rfl rfl (any_of HT_.out (by kernel_rfl)) (fun _ _ _ h => h) (Or.inl ⟨by rfl,?_⟩) ?_ ?_
              rotate_left
              ·intro w'
               go_simp
               with_reducible rfl
              rotate_left
              ·simp only [Act.put,sA,sZ,sS,i64_w,i32_w]
               rfl
              refine pure_ (i:=14) (N:=some 51) (v:=?_) (a':=?_) #[true,true,true,true,true,true,true,true,true,true,true,true,false,true,true,false,false,false,false,false,false,false,false,false,false,false,false,false,false,false,false,false,false,false,false,false,false,false,false,false] rfl rfl (any_of HT_.out (by kernel_rfl)) (fun _ _ _ h => h) (Or.inl ⟨by rfl,?_⟩) ?_ ?_
              rotate_left
              ·intro w'
               go_simp
               with_reducible rfl
              rotate_left
              ·simp only [Act.put,sA,sZ,sS,i64_w,i32_w]
               rfl
              refine pure_ (i:=15) (N:=some 52) (v:=?_) (a':=?_) #[true,true,true,true,true,true,true,true,true,true,true,true,false,true,true,true,false,false,false,false,false,false,false,false,false,false,false,false,false,false,false,false,false,false,false,false,false,false,false,false] rfl rfl (any_of HT_.out (by kernel_rfl)) (fun _ _ _ h => h) (Or.inl ⟨by rfl,?_⟩) ?_ ?_
              rotate_left
              ·intro w'
               go_simp
               with_reducible rfl
              rotate_left
              ·simp only [Act.put,sA,sZ,sS,i64_w,i32_w]
               rfl
              refine pure_ (i:=16) (N:=some 53) (v:=?_) (a':=?_) #[true,true,true,true,true,true,true,true,true,true,true,true,false,true,true,true,true,false,false,false,false,false,false,false,false,false,false,false,false,false,false,false,false,false,false,false,false,false,false,false] rfl rfl (any_of HT_.out (by kernel_rfl)) (fun _ _ _ h => h) (Or.inl ⟨by rfl,?_⟩) ?_ ?_
              rotate_left
              ·intro w'
               go_simp
               with_reducible rfl
              rotate_left
              ·simp only [Act.put,sA,sZ,sS,i64_w,i32_w]
               rfl
              refine take_ (i:=12) (N:=some 49) (v:=?_) (a':=?_) #[true,true,true,true,true,true,true,true,true,true,true,true,true,true,true,true,true,false,false,false,false,false,false,false,false,false,false,false,false,false,false,false,false,false,false,false,false,false,false,false] rfl rfl (take_ofW HT_.out HW_.out (by kernel_rfl)) (fun _ _ _ h => h) (Or.inl ⟨by rfl,?_⟩) hHeld ?_ ?_
              rotate_left
              ·rintro w' ⟨s0,s1,s2,s3,s4,s5,s6,s7,s8,s9⟩
               go_simp
               with_reducible rfl
              rotate_left
              ·simp only [Act.put,sA,sZ,sS,i64_w,i32_w]
               rfl
              refine take_ (i:=17) (N:=some 54) (v:=?_) (a':=?_) #[true,true,true,true,true,true,true,true,true,true,true,true,true,true,true,true,true,true,false,false,false,false,false,false,false,false,false,false,false,false,false,false,false,false,false,false,false,false,false,false] rfl rfl (take_ofW HT_.out HW_.out (by kernel_rfl)) (fun _ _ _ h => h) (Or.inl ⟨by rfl,?_⟩) hHeld ?_ ?_
              rotate_left
              ·rintro w' ⟨s0,s1,s2,s3,s4,s5,s6,s7,s8,s9⟩
               go_simp
               with_reducible rfl
              rotate_left
              ·simp only [Act.put,sA,sZ,sS,i64_w,i32_w]
               rfl
              refine pure_ (i:=18) (N:=some 55) (v:=?_) (a':=?_) #[true,true,true,true,true,true,true,true,true,true,true,true,true,true,true,true,true,true,true,false,false,false,false,false,false,false,false,false,false,false,false,false,false,false,false,false,false,false,false,false] rfl rfl (any_of HT_.out (by kernel_rfl)) (fun _ _ _ h => h) (Or.inl ⟨by rfl,?_⟩) ?_ ?_
              rotate_left
              ·intro w'
               go_simp
               with_reducible rfl
              rotate_left
              ·simp only [Act.put,sA,sZ,sS,i64_w,i32_w]
               rfl
              refine pure_ (i:=19) (N:=some 56) (v:=?_) (a':=?_) #[true,true,true,true,true,true,true,true,true,true,true,true,true,true,true,true,true,true,true,true,false,false,false,false,false,false,false,false,false,false,false,false,false,false,false,false,false,false,false,false] rfl rfl (any_of HT_.out (by kernel_rfl)) (fun _ _ _ h => h) (Or.inl ⟨by rfl,?_⟩) ?_ ?_
              rotate_left
              ·intro w'
               go_simp
               with_reducible rfl
              rotate_left
              ·simp only [Act.put,sA,sZ,sS,i64_w,i32_w]
               rfl
              refine pure_ (i:=20) (N:=some 57) (v:=?_) (a':=?_) #[true,true,true,true,true,true,true,true,true,true,true,true,true,true,true,true,true,true,true,true,true,false,false,false,false,false,false,false,false,false,false,false,false,false,false,false,false,false,false,false] rfl rfl (any_of HT_.out (by kernel_rfl)) (fun _ _ _ h => h) (Or.inl ⟨by rfl,?_⟩) ?_ ?_
              rotate_left
              ·intro w'
               go_simp
               with_reducible rfl
              rotate_left
              ·simp only [Act.put,sA,sZ,sS,i64_w,i32_w]
               rfl
              refine pure_ (i:=21) (N:=some 58) (v:=undef) (a':=?_) #[true,true,true,true,true,true,true,true,true,true,true,true,true,true,true,true,true,true,true,true,true,true,false,false,false,false,false,false,false,false,false,false,false,false,false,false,false,false,false,false] rfl rfl (any_of HT_.out (by kernel_rfl)) (fun _ _ _ h => h) (Or.inr ⟨by rfl,rfl⟩) ?_ ?_
              rotate_left
              ·simp only [Act.put,sA,sZ,sS,i64_w,i32_w]
               rfl
              refine pure_ (i:=22) (N:=some 59) (v:=undef) (a':=?_) #[true,true,true,true,true,true,true,true,true,true,true,true,true,true,true,true,true,true,true,true,true,true,true,false,false,false,false,false,false,false,false,false,false,false,false,false,false,false,false,false] rfl rfl (any_of HT_.out (by kernel_rfl)) (fun _ _ _ h => h) (Or.inr ⟨by rfl,rfl⟩) ?_ ?_
              rotate_left
              ·simp only [Act.put,sA,sZ,sS,i64_w,i32_w]
               rfl
              refine pure_ (i:=23) (N:=some 60) (v:=undef) (a':=?_) #[true,true,true,true,true,true,true,true,true,true,true,true,true,true,true,true,true,true,true,true,true,true,true,true,false,false,false,false,false,false,false,false,false,false,false,false,false,false,false,false] rfl rfl (any_of HT_.out (by kernel_rfl)) (fun _ _ _ h => h) (Or.inr ⟨by rfl,rfl⟩) ?_ ?_
              rotate_left
              ·simp only [Act.put,sA,sZ,sS,i64_w,i32_w]
               rfl
              refine pure_ (i:=24) (N:=some 61) (v:=undef) (a':=?_) #[true,true,true,true,true,true,true,true,true,true,true,true,true,true,true,true,true,true,true,true,true,true,true,true,true,false,false,false,false,false,false,false,false,false,false,false,false,false,false,false] rfl rfl (any_of HT_.out (by kernel_rfl)) (fun _ _ _ h => h) (Or.inr ⟨by rfl,rfl⟩) ?_ ?_
              rotate_left
              ·simp only [Act.put,sA,sZ,sS,i64_w,i32_w]
               rfl
              refine pure_ (i:=25) (N:=some 62) (v:=undef) (a':=?_) #[true,true,true,true,true,true,true,true,true,true,true,true,true,true,true,true,true,true,true,true,true,true,true,true,true,true,false,false,false,false,false,false,false,false,false,false,false,false,false,false] rfl rfl (any_of HT_.out (by kernel_rfl)) (fun _ _ _ h => h) (Or.inr ⟨by rfl,rfl⟩) ?_ ?_
              rotate_left
              ·simp only [Act.put,sA,sZ,sS,i64_w,i32_w]
               rfl
              refine pure_ (i:=26) (N:=some 63) (v:=undef) (a':=?_) #[true,true,true,true,true,true,true,true,true,true,true,true,true,true,true,true,true,true,true,true,true,true,true,true,true,true,true,false,false,false,false,false,false,false,false,false,false,false,false,false] rfl rfl (any_of HT_.out (by kernel_rfl)) (fun _ _ _ h => h) (Or.inr ⟨by rfl,rfl⟩) ?_ ?_
              rotate_left
              ·simp only [Act.put,sA,sZ,sS,i64_w,i32_w]
               rfl
              refine pure_ (i:=27) (N:=some 64) (v:=undef) (a':=?_) #[true,true,true,true,true,true,true,true,true,true,true,true,true,true,true,true,true,true,true,true,true,true,true,true,true,true,true,true,false,false,false,false,false,false,false,false,false,false,false,false] rfl rfl (any_of HT_.out (by kernel_rfl)) (fun _ _ _ h => h) (Or.inr ⟨by rfl,rfl⟩) ?_ ?_
              rotate_left
              ·simp only [Act.put,sA,sZ,sS,i64_w,i32_w]
               rfl
              refine pure_ (i:=28) (N:=some 65) (v:=undef) (a':=?_) #[true,true,true,true,true,true,true,true,true,true,true,true,true,true,true,true,true,true,true,true,true,true,true,true,true,true,true,true,true,false,false,false,false,false,false,false,false,false,false,false] rfl rfl (any_of HT_.out (by kernel_rfl)) (fun _ _ _ h => h) (Or.inr ⟨by rfl,rfl⟩) ?_ ?_
              rotate_left
              ·simp only [Act.put,sA,sZ,sS,i64_w,i32_w]
               rfl
              refine pure_ (i:=29) (N:=some 66) (v:=?_) (a':=?_) #[true,true,true,true,true,true,true,true,true,true,true,true,true,true,true,true,true,true,true,true,true,true,true,true,true,true,true,true,true,true,false,false,false,false,false,false,false,false,false,false] rfl rfl (any_of HT_.out (by kernel_rfl)) (fun _ _ _ h => h) (Or.inl ⟨by rfl,?_⟩) ?_ ?_
              rotate_left
              ·intro w'
               go_simp
               with_reducible rfl
              rotate_left
              ·simp only [Act.put,sA,sZ,sS,i64_w,i32_w]
               rfl
              refine pure_ (i:=30) (N:=some 67) (v:=?_) (a':=?_) #[true,true,true,true,true,true,true,true,true,true,true,true,true,true,true,true,true,true,true,true,true,true,true,true,true,true,true,true,true,true,true,false,false,false,false,false,false,false,false,false] rfl rfl (any_of HT_.out (by kernel_rfl)) (fun _ _ _ h => h) (Or.inl ⟨by rfl,?_⟩) ?_ ?_
              rotate_left
              ·intro w'
               go_simp
               with_reducible rfl
              rotate_left
              ·simp only [Act.put,sA,sZ,sS,i64_w,i32_w]
               rfl
              refine pure_ (i:=31) (N:=some 68) (v:=undef) (a':=?_) #[true,true,true,true,true,true,true,true,true,true,true,true,true,true,true,true,true,true,true,true,true,true,true,true,true,true,true,true,true,true,true,true,false,false,false,false,false,false,false,false] rfl rfl (any_of HT_.out (by kernel_rfl)) (fun _ _ _ h => h) (Or.inr ⟨by rfl,rfl⟩) ?_ ?_
              rotate_left
              ·simp only [Act.put,sA,sZ,sS,i64_w,i32_w]
               rfl
              refine pure_ (i:=32) (N:=some 69) (v:=undef) (a':=?_) #[true,true,true,true,true,true,true,true,true,true,true,true,true,true,true,true,true,true,true,true,true,true,true,true,true,true,true,true,true,true,true,true,true,false,false,false,false,false,false,false] rfl rfl (any_of HT_.out (by kernel_rfl)) (fun _ _ _ h => h) (Or.inr ⟨by rfl,rfl⟩) ?_ ?_
              rotate_left
              ·simp only [Act.put,sA,sZ,sS,i64_w,i32_w]
               rfl
              refine pure_ (i:=33) (N:=some 70) (v:=undef) (a':=?_) #[true,true,true,true,true,true,true,true,true,true,true,true,true,true,true,true,true,true,true,true,true,true,true,true,true,true,true,true,true,true,true,true,true,true,false,false,false,false,false,false] rfl rfl (any_of HT_.out (by kernel_rfl)) (fun _ _ _ h => h) (Or.inr ⟨by rfl,rfl⟩) ?_ ?_
              rotate_left
              ·simp only [Act.put,sA,sZ,sS,i64_w,i32_w]
               rfl
              refine pure_ (i:=34) (N:=some 71) (v:=undef) (a':=?_) #[true,true,true,true,true,true,true,true,true,true,true,true,true,true,true,true,true,true,true,true,true,true,true,true,true,true,true,true,true,true,true,true,true,true,true,false,false,false,false,false] rfl rfl (any_of HT_.out (by kernel_rfl)) (fun _ _ _ h => h) (Or.inr ⟨by rfl,rfl⟩) ?_ ?_
              rotate_left
              ·simp only [Act.put,sA,sZ,sS,i64_w,i32_w]
               rfl
              refine pure_ (i:=35) (N:=some 72) (v:=undef) (a':=?_) #[true,true,true,true,true,true,true,true,true,true,true,true,true,true,true,true,true,true,true,true,true,true,true,true,true,true,true,true,true,true,true,true,true,true,true,true,false,false,false,false] rfl rfl (any_of HT_.out (by kernel_rfl)) (fun _ _ _ h => h) (Or.inr ⟨by rfl,rfl⟩) ?_ ?_
              rotate_left
              ·simp only [Act.put,sA,sZ,sS,i64_w,i32_w]
               rfl
              refine pure_ (i:=36) (N:=some 73) (v:=undef) (a':=?_) #[true,true,true,true,true,true,true,true,true,true,true,true,true,true,true,true,true,true,true,true,true,true,true,true,true,true,true,true,true,true,true,true,true,true,true,true,true,false,false,false] rfl rfl (any_of HT_.out (by kernel_rfl)) (fun _ _ _ h => h) (Or.inr ⟨by rfl,rfl⟩) ?_ ?_
              rotate_left
              ·simp only [Act.put,sA,sZ,sS,i64_w,i32_w]
               rfl
              refine pure_ (i:=37) (N:=some 74) (v:=undef) (a':=?_) #[true,true,true,true,true,true,true,true,true,true,true,true,true,true,true,true,true,true,true,true,true,true,true,true,true,true,true,true,true,true,true,true,true,true,true,true,true,true,false,false] rfl rfl (any_of HT_.out (by kernel_rfl)) (fun _ _ _ h => h) (Or.inr ⟨by rfl,rfl⟩) ?_ ?_
              rotate_left
              ·simp only [Act.put,sA,sZ,sS,i64_w,i32_w]
               rfl
              refine pure_ (i:=38) (N:=some 75) (v:=undef) (a':=?_) #[true,true,true,true,true,true,true,true,true,true,true,true,true,true,true,true,true,true,true,true,true,true,true,true,true,true,true,true,true,true,true,true,true,true,true,true,true,true,true,false] rfl rfl (any_of HT_.out (by kernel_rfl)) (fun _ _ _ h => h) (Or.inr ⟨by rfl,rfl⟩) ?_ ?_
              rotate_left
              ·simp only [Act.put,sA,sZ,sS,i64_w,i32_w]
               rfl
              refine pure_ (i:=39) (N:=some 76) (v:=?_) (a':=?_) #[true,true,true,true,true,true,true,true,true,true,true,true,true,true,true,true,true,true,true,true,true,true,true,true,true,true,true,true,true,true,true,true,true,true,true,true,true,true,true,true] rfl rfl (any_of HT_.out (by kernel_rfl)) (fun _ _ _ h => h) (Or.inl ⟨by rfl,?_⟩) ?_ ?_
              rotate_left
              ·intro w'
               go_simp
               with_reducible rfl
              rotate_left
              ·simp only [Act.put,sA,sZ,sS,i64_w,i32_w]
               rfl
              refine done_ (done_of HT_.out (by kernel_rfl)) ?_
              try go_wp2
              go_meet
              case rel => exact ⟨_,(true),(by first|rfl|(simp;done)|(simp [*];done)),H',⟨by have:=HJ3.out;have:=HK2.out;first|omega|exact Nat.le_refl _⟩,⟨by (with_reducible repeat (first|apply zA|apply zN|apply zD));exact HO_7.out⟩,⟨by (with_reducible repeat (first|apply zA|apply zN|apply zD));exact HO_30.out⟩,⟨by (with_reducible repeat (first|refine bN ?_ _|refine bD ?_|refine bA ?_ _));exact BK397.out⟩,⟨by repeat (first|(with_reducible first|exact HB.out|apply below_alloc|apply pw_below_drewN|apply below_drew1|refine below_set ?_ GE397.out)|exact HB.out)⟩⟩
            ·rw [if_neg c25] at H
             have c25b0 : (((rd_T41 t393 x32_2).f0.f0).toList == ((rd_T43 l0 x32_2).f1).toList) = false:=beq_eq_false_iff_ne.mpr c25
             have c25b1 : (((rd_T41 t393 x32_2).f0.f0).toList != ((rd_T43 l0 x32_2).f1).toList) = true:=bne_iff_ne.mpr c25
             have H':=Aside0.mk H
             clear H
             try go_wp2
             have n0_ : Aside0 (Kd.R k41 41 ((((w22.setCell ⟨gb397,0,none⟩ (.string ((rd_T41 t393 x32_2).f0.f0))).setCell ⟨gb397,1,none⟩ (.int .u64 ((rd_T41 t393 x32_2).f0.f1))).setCell ⟨gb397,2,none⟩ (.int .u8 ((rd_T41 t393 x32_2).f0.f2))).setCell ⟨gb397,3,none⟩ (.string ((rd_T41 t393 x32_2).f1))) w.heap.size (fun k_ => k_ ≠ gb397) (.slice (some ad396) t393.length co17) t393):=⟨by (with_reducible repeat (first|apply zA|apply zN|apply zD));exact Kd.R_mono (Kd.R_far (p:=⟨gb397,3,none⟩) (Kd.R_far (p:=⟨gb397,2,none⟩) (Kd.R_far (p:=⟨gb397,1,none⟩) (Kd.R_far (p:=⟨gb397,0,none⟩) (Kd.R_mono HO_7.out (fun k_ hk => (⟨hk,hk.2⟩ : _ ∧ k_ ≠ gb397))) (fun _ hk => hk.2) (.string ((rd_T41 t393 x32_2).f0.f0))) (fun _ hk => hk.2) (.int .u64 ((rd_T41 t393 x32_2).f0.f1))) (fun _ hk => hk.2) (.int .u8 ((rd_T41 t393 x32_2).f0.f2))) (fun _ hk => hk.2) (.string ((rd_T41 t393 x32_2).f1))) (fun _ hk => hk.1.2)⟩
             have n1_ : Aside0 (Kd.R k41 41 ((((w22.setCell ⟨gb397,0,none⟩ (.string ((rd_T41 t393 x32_2).f0.f0))).setCell ⟨gb397,1,none⟩ (.int .u64 ((rd_T41 t393 x32_2).f0.f1))).setCell ⟨gb397,2,none⟩ (.int .u8 ((rd_T41 t393 x32_2).f0.f2))).setCell ⟨gb397,3,none⟩ (.string ((rd_T41 t393 x32_2).f1))) w.heap.size (fun k_ => k_ ≠ gb397) (.slice (some ad396) t393.length co17) t393):=⟨by (with_reducible repeat (first|apply zA|apply zN|apply zD));exact Kd.R_mono (Kd.R_far (p:=⟨gb397,3,none⟩) (Kd.R_far (p:=⟨gb397,2,none⟩) (Kd.R_far (p:=⟨gb397,1,none⟩) (Kd.R_far (p:=⟨gb397,0,none⟩) (Kd.R_mono HO_30.out (fun k_ hk => (⟨hk,hk.2⟩ : _ ∧ k_ ≠ gb397))) (fun _ hk => hk.2) (.string ((rd_T41 t393 x32_2).f0.f0))) (fun _ hk => hk.2) (.int .u64 ((rd_T41 t393 x32_2).f0.f1))) (fun _ hk => hk.2) (.int .u8 ((rd_T41 t393 x32_2).f0.f2))) (fun _ hk => hk.2) (.string ((rd_T41 t393 x32_2).f1))) (fun _ hk => hk.1.2)⟩
             have n2_ : Aside0 (((((w22.setCell ⟨gb397,0,none⟩ (.string ((rd_T41 t393 x32_2).f0.f0))).setCell ⟨gb397,1,none⟩ (.int .u64 ((rd_T41 t393 x32_2).f0.f1))).setCell ⟨gb397,2,none⟩ (.int .u8 ((rd_T41 t393 x32_2).f0.f2))).setCell ⟨gb397,3,none⟩ (.string ((rd_T41 t393 x32_2).f1))).heap[gb397]? = some (.cells #[.string ((rd_T41 t393 x32_2).f0.f0),.int .u64 ((rd_T41 t393 x32_2).f0.f1),.int .u8 ((rd_T41 t393 x32_2).f0.f2),.string ((rd_T41 t393 x32_2).f1)] 41 (0,0))):=⟨by (with_reducible repeat (first|refine bN ?_ _|refine bD ?_|refine bA ?_ _));refine blk_put (cs:=#[.string ((rd_T41 t393 x32_2).f0.f0),.int .u64 ((rd_T41 t393 x32_2).f0.f1),.int .u8 ((rd_T41 t393 x32_2).f0.f2),.string (⟨#[]⟩ : ByteArray)]) ?_ 3 _ rfl;(with_reducible repeat (first|refine bN ?_ _|refine bD ?_|refine bA ?_ _));refine blk_put (cs:=#[.string ((rd_T41 t393 x32_2).f0.f0),.int .u64 ((rd_T41 t393 x32_2).f0.f1),.int .u8 0,.string (⟨#[]⟩ : ByteArray)]) ?_ 2 _ rfl;(with_reducible repeat (first|refine bN ?_ _|refine bD ?_|refine bA ?_ _));refine blk_put (cs:=#[.string ((rd_T41 t393 x32_2).f0.f0),.int .u64 0,.int .u8 0,.string (⟨#[]⟩ : ByteArray)]) ?_ 1 _ rfl;(with_reducible repeat (first|refine bN ?_ _|refine bD ?_|refine bA ?_ _));refine blk_put (cs:=#[.string (⟨#[]⟩ : ByteArray),.int .u64 0,.int .u8 0,.string (⟨#[]⟩ : ByteArray)]) ?_ 0 _ rfl;(with_reducible repeat (first|refine bN ?_ _|refine bD ?_|refine bA ?_ _));exact BK397.out⟩
             have n3_ : Aside0 (Below w.heap.size w ((((w22.setCell ⟨gb397,0,none⟩ (.string ((rd_T41 t393 x32_2).f0.f0))).setCell ⟨gb397,1,none⟩ (.int .u64 ((rd_T41 t393 x32_2).f0.f1))).setCell ⟨gb397,2,none⟩ (.int .u8 ((rd_T41 t393 x32_2).f0.f2))).setCell ⟨gb397,3,none⟩ (.string ((rd_T41 t393 x32_2).f1)))):=⟨by repeat (first|(with_reducible first|exact HB.out|apply below_alloc|apply pw_below_drewN|apply below_drew1|refine below_set ?_ GE397.out)|exact HB.out)⟩
             (try clear HO_7)
             (try clear HO_30)
             (try clear BK397)
             (try clear HB)
             generalize ((((w22.setCell ⟨gb397,0,none⟩ (.string ((rd_T41 t393 x32_2).f0.f0))).setCell ⟨gb397,1,none⟩ (.int .u64 ((rd_T41 t393 x32_2).f0.f1))).setCell ⟨gb397,2,none⟩ (.int .u8 ((rd_T41 t393 x32_2).f0.f2))).setCell ⟨gb397,3,none⟩ (.string ((rd_T41 t393 x32_2).f1))) = w34 at n0_ n1_ n2_ n3_ ⊢
             have HO_7:=n0_
             have HO_30:=n1_
             have BK397:=n2_
             have HB:=n3_
             clear n0_ n1_ n2_ n3_
             have n0_:=Aside0.mk (Kd.R_drew HO_7.out)
             have n1_:=Aside0.mk (Kd.R_drew HO_30.out)
             have n2_:=Aside0.mk (blk_drew BK397.out)
             have n3_:=Aside0.mk (below_drew1 HB.out)
             clear HO_7
             clear HO_30
             clear BK397
             clear HB
             have HO_7:=n0_
             have HO_30:=n1_
             have BK397:=n2_
             have HB:=n3_
             clear n0_ n1_ n2_ n3_
             have p398 : 0 ≤ (x32_2 : Int):=of_decide_eq_true (by first|(with_reducible assumption)|assumption)
             have q398 : x32_2 < (l0.length : Int):=of_decide_eq_true (by first|(with_reducible assumption)|assumption)
             obtain ⟨ad398,e398,hx398_0,hx398_1,hx398_2⟩:=at_T43 HR0.out x32_2 p398 q398
             have hw398_2:=hx398_2
             have hw398_1:=hx398_1
             have hw398_0:=hx398_0
             cases e398
             replace hx398_0:=(HB.out.cell (World.block_lt_of_cell? w _ hx398_0)).trans hx398_0
             replace hx398_1:=(HB.out.cell (World.block_lt_of_cell? w _ hx398_1)).trans hx398_1
             replace hx398_2:=(HB.out.cell (World.block_lt_of_cell? w _ hx398_2)).trans hx398_2
             replace p398:=eq_true p398
             replace q398:=eq_true q398
             refine start_ (n:=40) (S:=fun w' => w'.cell? ⟨gb397,0,none⟩ = some (.string ((rd_T41 t393 x32_2).f0.f0)) ∧ w'.cell? ⟨gb397,1,none⟩ = some (.int .u64 ((rd_T41 t393 x32_2).f0.f1)) ∧ w'.cell? ⟨gb397,2,none⟩ = some (.int .u8 ((rd_T41 t393 x32_2).f0.f2)) ∧ w'.cell? ⟨gb397,3,none⟩ = some (.string ((rd_T41 t393 x32_2).f1)) ∧ w'.cell? (ad398.add ((x32_2).toNat * 3)) = some (.int .u8 ((rd_T43 l0 x32_2).f0)) ∧ w'.cell? ⟨(ad398.add ((x32_2).toNat * 3)).block,(ad398.add ((x32_2).toNat * 3)).off + 1,none⟩ = some (.string ((rd_T43 l0 x32_2).f1)) ∧ w'.cell? ⟨(ad398.add ((x32_2).toNat * 3)).block,(ad398.add ((x32_2).toNat * 3)).off + 2,none⟩ = some (.string ((rd_T43 l0 x32_2).f2))) (ds:=[]) #[false,false,false,false,false,false,false,false,false,false,false,false,false,false,false,false,false,false,false,false,false,false,false,false,false,false,false,false,false,false,false,false,false,false,false,false,false,false,false,false] (by kernel_rfl) rfl rfl ⟨(blk_cell BK397.out 0).trans rfl,(blk_cell BK397.out 1).trans rfl,(blk_cell BK397.out 2).trans rfl,(blk_cell BK397.out 3).trans rfl,((HB.out.cell (World.block_lt_of_cell? w _ hw398_0)).trans hw398_0),((HB.out.cell (World.block_lt_of_cell? w _ hw398_1)).trans hw398_1),((HB.out.cell (World.block_lt_of_cell? w _ hw398_2)).trans hw398_2)⟩ (fun hHeld => ?_);refine with_tabW ratlinelaw04_BatchEntries.tab9 ratlinelaw04_BatchEntries.bits9 (fun HT_ HW_ => ?_)
             generalize w34.drew = w35 at HO_7 HO_30 BK397 HB hx398_0 hx398_1 hx398_2 hHeld ⊢
             refine pure_ (i:=0) (N:=some 37) (v:=?_) (a':=?_) #[true,false,false,false,false,false,false,false,false,false,false,false,false,false,false,false,false,false,false,false,false,false,false,false,false,false,false,false,false,false,false,false,false,false,false,false,false,false,false,false] rfl rfl (any_of HT_.out (by kernel_rfl)) (fun _ _ _ h => h) (Or.inl ⟨by rfl,?_⟩) ?_ ?_
             rotate_left
             ·intro w'
              go_simp
              with_reducible rfl
             rotate_left
             ·simp only [Act.put,sA,sZ,sS,i64_w,i32_w]
              rfl
             refine pure_ (i:=1) (N:=some 38) (v:=?_) (a':=?_) #[true,true,false,false,false,false,false,false,false,false,false,false,false,false,false,false,false,false,false,false,false,false,false,false,false,false,false,false,false,false,false,false,false,false,false,false,false,false,false,false] rfl rfl (any_of HT_.out (by kernel_rfl)) (fun _ _ _ h => h) (Or.inl ⟨by rfl,?_⟩) ?_ ?_
             rotate_left
             ·intro w'
              go_simp
              with_reducible rfl
             rotate_left
             ·simp only [Act.put,sA,sZ,sS,i64_w,i32_w]
              rfl
             refine pure_ (i:=3) (N:=some 40) (v:=?_) (a':=?_) #[true,true,false,true,false,false,false,false,false,false,false,false,false,false,false,false,false,false,false,false,false,false,false,false,false,false,false,false,false,false,false,false,false,false,false,false,false,false,false,false] rfl rfl (any_of HT_.out (by kernel_rfl)) (fun _ _ _ h => h) (Or.inl ⟨by rfl,?_⟩) ?_ ?_
             rotate_left
             ·intro w'
              go_simp
              with_reducible rfl
             rotate_left
             ·simp only [Act.put,sA,sZ,sS,i64_w,i32_w]
              rfl
             refine pure_ (i:=4) (N:=some 41) (v:=?_) (a':=?_) #[true,true,false,true,true,false,false,false,false,false,false,false,false,false,false,false,false,false,false,false,false,false,false,false,false,false,false,false,false,false,false,false,false,false,false,false,false,false,false,false] rfl rfl (any_of HT_.out (by kernel_rfl)) (fun _ _ _ h => h) (Or.inl ⟨by rfl,?_⟩) ?_ ?_
             rotate_left
             ·intro w'
              go_simp
              with_reducible rfl
             rotate_left
             ·simp only [Act.put,sA,sZ,sS,i64_w,i32_w]
              rfl
             refine pure_ (i:=5) (N:=some 42) (v:=?_) (a':=?_) #[true,true,false,true,true,true,false,false,false,false,false,false,false,false,false,false,false,false,false,false,false,false,false,false,false,false,false,false,false,false,false,false,false,false,false,false,false,false,false,false] rfl rfl (any_of HT_.out (by kernel_rfl)) (fun _ _ _ h => h) (Or.inl ⟨by rfl,?_⟩) ?_ ?_
             rotate_left
             ·intro w'
              go_simp
              with_reducible rfl
             rotate_left
             ·simp only [Act.put,sA,sZ,sS,i64_w,i32_w]
              rfl
             refine pure_ (i:=6) (N:=some 43) (v:=?_) (a':=?_) #[true,true,false,true,true,true,true,false,false,false,false,false,false,false,false,false,false,false,false,false,false,false,false,false,false,false,false,false,false,false,false,false,false,false,false,false,false,false,false,false] rfl rfl (any_of HT_.out (by kernel_rfl)) (fun _ _ _ h => h) (Or.inl ⟨by rfl,?_⟩) ?_ ?_
             rotate_left
             ·intro w'
              go_simp
              with_reducible rfl
             rotate_left
             ·simp only [Act.put,sA,sZ,sS,i64_w,i32_w]
              rfl
             refine take_ (i:=2) (N:=some 39) (v:=?_) (a':=?_) #[true,true,true,true,true,true,true,false,false,false,false,false,false,false,false,false,false,false,false,false,false,false,false,false,false,false,false,false,false,false,false,false,false,false,false,false,false,false,false,false] rfl rfl (take_ofW HT_.out HW_.out (by kernel_rfl)) (fun _ _ _ h => h) (Or.inl ⟨by rfl,?_⟩) hHeld ?_ ?_
             rotate_left
             ·rintro w' ⟨s0,s1,s2,s3,s4,s5,s6⟩
              go_simp
              with_reducible rfl
             rotate_left
             ·simp only [Act.put,sA,sZ,sS,i64_w,i32_w]
              rfl
             refine take_ (i:=7) (N:=some 44) (v:=?_) (a':=?_) #[true,true,true,true,true,true,true,true,false,false,false,false,false,false,false,false,false,false,false,false,false,false,false,false,false,false,false,false,false,false,false,false,false,false,false,false,false,false,false,false] rfl rfl (take_ofW HT_.out HW_.out (by kernel_rfl)) (fun _ _ _ h => h) (Or.inl ⟨by rfl,?_⟩) hHeld ?_ ?_
             rotate_left
             ·rintro w' ⟨s0,s1,s2,s3,s4,s5,s6⟩
              go_simp
              with_reducible rfl
             rotate_left
             ·simp only [Act.put,sA,sZ,sS,i64_w,i32_w]
              rfl
             refine pure_ (i:=8) (N:=some 45) (v:=?_) (a':=?_) #[true,true,true,true,true,true,true,true,true,false,false,false,false,false,false,false,false,false,false,false,false,false,false,false,false,false,false,false,false,false,false,false,false,false,false,false,false,false,false,false] rfl rfl (any_of HT_.out (by kernel_rfl)) (fun _ _ _ h => h) (Or.inl ⟨by rfl,?_⟩) ?_ ?_
             rotate_left
             ·intro w'
              go_simp
              with_reducible rfl
             rotate_left
             ·simp only [Act.put,sA,sZ,sS,i64_w,i32_w]
              rfl
             refine pure_ (i:=9) (N:=some 46) (v:=?_) (a':=?_) #[true,true,true,true,true,true,true,true,true,true,false,false,false,false,false,false,false,false,false,false,false,false,false,false,false,false,false,false,false,false,false,false,false,false,false,false,false,false,false,false] rfl rfl (any_of HT_.out (by kernel_rfl)) (fun _ _ _ h => h) (Or.inl ⟨by rfl,?_⟩) ?_ ?_
             rotate_left
             ·intro w'
              go_simp
              with_reducible rfl
             rotate_left
             ·simp only [Act.put,sA,sZ,sS,i64_w,i32_w]
              rfl
             refine pure_ (i:=10) (N:=some 47) (v:=undef) (a':=?_) #[true,true,true,true,true,true,true,true,true,true,true,false,false,false,false,false,false,false,false,false,false,false,false,false,false,false,false,false,false,false,false,false,false,false,false,false,false,false,false,false] rfl rfl (any_of HT_.out (by kernel_rfl)) (fun _ _ _ h => h) (Or.inr ⟨by rfl,rfl⟩) ?_ ?_
             rotate_left
             ·simp only [Act.put,sA,sZ,sS,i64_w,i32_w]
              rfl
             refine pure_ (i:=11) (N:=some 48) (v:=undef) (a':=?_) #[true,true,true,true,true,true,true,true,true,true,true,true,false,false,false,false,false,false,false,false,false,false,false,false,false,false,false,false,false,false,false,false,false,false,false,false,false,false,false,false] rfl rfl (any_of HT_.out (by kernel_rfl)) (fun _ _ _ h => h) (Or.inr ⟨by rfl,rfl⟩) ?_ ?_
             rotate_left
             ·simp only [Act.put,sA,sZ,sS,i64_w,i32_w]
              rfl
             refine pure_ (i:=12) (N:=some 49) (v:=undef) (a':=?_) #[true,true,true,true,true,true,true,true,true,true,true,true,true,false,false,false,false,false,false,false,false,false,false,false,false,false,false,false,false,false,false,false,false,false,false,false,false,false,false,false] rfl rfl (any_of HT_.out (by kernel_rfl)) (fun _ _ _ h => h) (Or.inr ⟨by rfl,rfl⟩) ?_ ?_
             rotate_left
             ·simp only [Act.put,sA,sZ,sS,i64_w,i32_w]
              rfl
             refine pure_ (i:=13) (N:=some 50) (v:=undef) (a':=?_) #[true,true,true,true,true,true,true,true,true,true,true,true,true,true,false,false,false,false,false,false,false,false,false,false,false,false,false,false,false,false,false,false,false,false,false,false,false,false,false,false] rfl rfl (any_of HT_.out (by kernel_rfl)) (fun _ _ _ h => h) (Or.inr ⟨by rfl,rfl⟩) ?_ ?_
             rotate_left
             ·simp only [Act.put,sA,sZ,sS,i64_w,i32_w]
              rfl
             refine pure_ (i:=14) (N:=some 51) (v:=undef) (a':=?_) #[true,true,true,true,true,true,true,true,true,true,true,true,true,true,true,false,false,false,false,false,false,false,false,false,false,false,false,false,false,false,false,false,false,false,false,false,false,false,false,false] rfl rfl (any_of HT_.out (by kernel_rfl)) (fun _ _ _ h => h) (Or.inr ⟨by rfl,rfl⟩) ?_ ?_
             rotate_left
             ·simp only [Act.put,sA,sZ,sS,i64_w,i32_w]
              rfl
             refine pure_ (i:=15) (N:=some 52) (v:=undef) (a':=?_) #[true,true,true,true,true,true,true,true,true,true,true,true,true,true,true,true,false,false,false,false,false,false,false,false,false,false,false,false,false,false,false,false,false,false,false,false,false,false,false,false] rfl rfl (any_of HT_.out (by kernel_rfl)) (fun _ _ _ h => h) (Or.inr ⟨by rfl,rfl⟩) ?_ ?_
             rotate_left
             ·simp only [Act.put,sA,sZ,sS,i64_w,i32_w]
              rfl
             refine pure_ (i:=16) (N:=some 53) (v:=undef) (a':=?_) #[true,true,true,true,true,true,true,true,true,true,true,true,true,true,true,true,true,false,false,false,false,false,false,false,false,false,false,false,false,false,false,false,false,false,false,false,false,false,false,false] rfl rfl (any_of HT_.out (by kernel_rfl)) (fun _ _ _ h => h) (Or.inr ⟨by rfl,rfl⟩) ?_ ?_
             rotate_left
             ·simp only [Act.put,sA,sZ,sS,i64_w,i32_w]
              rfl
             refine pure_ (i:=17) (N:=some 54) (v:=undef) (a':=?_) #[true,true,true,true,true,true,true,true,true,true,true,true,true,true,true,true,true,true,false,false,false,false,false,false,false,false,false,false,false,false,false,false,false,false,false,false,false,false,false,false] rfl rfl (any_of HT_.out (by kernel_rfl)) (fun _ _ _ h => h) (Or.inr ⟨by rfl,rfl⟩) ?_ ?_
             rotate_left
             ·simp only [Act.put,sA,sZ,sS,i64_w,i32_w]
              rfl
             refine pure_ (i:=18) (N:=some 55) (v:=undef) (a':=?_) #[true,true,true,true,true,true,true,true,true,true,true,true,true,true,true,true,true,true,true,false,false,false,false,false,false,false,false,false,false,false,false,false,false,false,false,false,false,false,false,false] rfl rfl (any_of HT_.out (by kernel_rfl)) (fun _ _ _ h => h) (Or.inr ⟨by rfl,rfl⟩) ?_ ?_
             rotate_left
             ·simp only [Act.put,sA,sZ,sS,i64_w,i32_w]
              rfl
             refine pure_ (i:=19) (N:=some 56) (v:=?_) (a':=?_) #[true,true,true,true,true,true,true,true,true,true,true,true,true,true,true,true,true,true,true,true,false,false,false,false,false,false,false,false,false,false,false,false,false,false,false,false,false,false,false,false] rfl rfl (any_of HT_.out (by kernel_rfl)) (fun _ _ _ h => h) (Or.inl ⟨by rfl,?_⟩) ?_ ?_
             rotate_left
             ·intro w'
              go_simp
              with_reducible rfl
             rotate_left
             ·simp only [Act.put,sA,sZ,sS,i64_w,i32_w]
              rfl
             refine pure_ (i:=20) (N:=some 57) (v:=?_) (a':=?_) #[true,true,true,true,true,true,true,true,true,true,true,true,true,true,true,true,true,true,true,true,true,false,false,false,false,false,false,false,false,false,false,false,false,false,false,false,false,false,false,false] rfl rfl (any_of HT_.out (by kernel_rfl)) (fun _ _ _ h => h) (Or.inl ⟨by rfl,?_⟩) ?_ ?_
             rotate_left
             ·intro w'
              go_simp
              with_reducible rfl
             rotate_left
             ·simp only [Act.put,sA,sZ,sS,i64_w,i32_w]
              rfl
             refine pure_ (i:=21) (N:=some 58) (v:=undef) (a':=?_) #[true,true,true,true,true,true,true,true,true,true,true,true,true,true,true,true,true,true,true,true,true,true,false,false,false,false,false,false,false,false,false,false,false,false,false,false,false,false,false,false] rfl rfl (any_of HT_.out (by kernel_rfl)) (fun _ _ _ h => h) (Or.inr ⟨by rfl,rfl⟩) ?_ ?_
             rotate_left
             ·simp only [Act.put,sA,sZ,sS,i64_w,i32_w]
              rfl
             refine pure_ (i:=22) (N:=some 59) (v:=undef) (a':=?_) #[true,true,true,true,true,true,true,true,true,true,true,true,true,true,true,true,true,true,true,true,true,true,true,false,false,false,false,false,false,false,false,false,false,false,false,false,false,false,false,false] rfl rfl (any_of HT_.out (by kernel_rfl)) (fun _ _ _ h => h) (Or.inr ⟨by rfl,rfl⟩) ?_ ?_
             rotate_left
             ·simp only [Act.put,sA,sZ,sS,i64_w,i32_w]
              rfl
             refine pure_ (i:=23) (N:=some 60) (v:=undef) (a':=?_) #[true,true,true,true,true,true,true,true,true,true,true,true,true,true,true,true,true,true,true,true,true,true,true,true,false,false,false,false,false,false,false,false,false,false,false,false,false,false,false,false] rfl rfl (any_of HT_.out (by kernel_rfl)) (fun _ _ _ h => h) (Or.inr ⟨by rfl,rfl⟩) ?_ ?_
             rotate_left
             ·simp only [Act.put,sA,sZ,sS,i64_w,i32_w]
              rfl
             refine pure_ (i:=24) (N:=some 61) (v:=undef) (a':=?_) #[true,true,true,true,true,true,true,true,true,true,true,true,true,true,true,true,true,true,true,true,true,true,true,true,true,false,false,false,false,false,false,false,false,false,false,false,false,false,false,false] rfl rfl (any_of HT_.out (by kernel_rfl)) (fun _ _ _ h => h) (Or.inr ⟨by rfl,rfl⟩) ?_ ?_
             rotate_left
             ·simp only [Act.put,sA,sZ,sS,i64_w,i32_w]
              rfl
             refine pure_ (i:=25) (N:=some 62) (v:=undef) (a':=?_) #[true,true,true,true,true,true,true,true,true,true,true,true,true,true,true,true,true,true,true,true,true,true,true,true,true,true,false,false,false,false,false,false,false,false,false,false,false,false,false,false] rfl rfl (any_of HT_.out (by kernel_rfl)) (fun _ _ _ h => h) (Or.inr ⟨by rfl,rfl⟩) ?_ ?_
             rotate_left
             ·simp only [Act.put,sA,sZ,sS,i64_w,i32_w]
              rfl
             refine pure_ (i:=26) (N:=some 63) (v:=undef) (a':=?_) #[true,true,true,true,true,true,true,true,true,true,true,true,true,true,true,true,true,true,true,true,true,true,true,true,true,true,true,false,false,false,false,false,false,false,false,false,false,false,false,false] rfl rfl (any_of HT_.out (by kernel_rfl)) (fun _ _ _ h => h) (Or.inr ⟨by rfl,rfl⟩) ?_ ?_
             rotate_left
             ·simp only [Act.put,sA,sZ,sS,i64_w,i32_w]
              rfl
             refine pure_ (i:=27) (N:=some 64) (v:=undef) (a':=?_) #[true,true,true,true,true,true,true,true,true,true,true,true,true,true,true,true,true,true,true,true,true,true,true,true,true,true,true,true,false,false,false,false,false,false,false,false,false,false,false,false] rfl rfl (any_of HT_.out (by kernel_rfl)) (fun _ _ _ h => h) (Or.inr ⟨by rfl,rfl⟩) ?_ ?_
             rotate_left
             ·simp only [Act.put,sA,sZ,sS,i64_w,i32_w]
              rfl
             refine pure_ (i:=28) (N:=some 65) (v:=undef) (a':=?_) #[true,true,true,true,true,true,true,true,true,true,true,true,true,true,true,true,true,true,true,true,true,true,true,true,true,true,true,true,true,false,false,false,false,false,false,false,false,false,false,false] rfl rfl (any_of HT_.out (by kernel_rfl)) (fun _ _ _ h => h) (Or.inr ⟨by rfl,rfl⟩) ?_ ?_
             rotate_left
             ·simp only [Act.put,sA,sZ,sS,i64_w,i32_w]
              rfl
             refine pure_ (i:=29) (N:=some 66) (v:=?_) (a':=?_) #[true,true,true,true,true,true,true,true,true,true,true,true,true,true,true,true,true,true,true,true,true,true,true,true,true,true,true,true,true,true,false,false,false,false,false,false,false,false,false,false] rfl rfl (any_of HT_.out (by kernel_rfl)) (fun _ _ _ h => h) (Or.inl ⟨by rfl,?_⟩) ?_ ?_
             rotate_left
             ·intro w'
              go_simp
              with_reducible rfl
             rotate_left
             ·simp only [Act.put,sA,sZ,sS,i64_w,i32_w]
              rfl
             refine pure_ (i:=30) (N:=some 67) (v:=?_) (a':=?_) #[true,true,true,true,true,true,true,true,true,true,true,true,true,true,true,true,true,true,true,true,true,true,true,true,true,true,true,true,true,true,true,false,false,false,false,false,false,false,false,false] rfl rfl (any_of HT_.out (by kernel_rfl)) (fun _ _ _ h => h) (Or.inl ⟨by rfl,?_⟩) ?_ ?_
             rotate_left
             ·intro w'
              go_simp
              with_reducible rfl
             rotate_left
             ·simp only [Act.put,sA,sZ,sS,i64_w,i32_w]
              rfl
             refine pure_ (i:=31) (N:=some 68) (v:=undef) (a':=?_) #[true,true,true,true,true,true,true,true,true,true,true,true,true,true,true,true,true,true,true,true,true,true,true,true,true,true,true,true,true,true,true,true,false,false,false,false,false,false,false,false] rfl rfl (any_of HT_.out (by kernel_rfl)) (fun _ _ _ h => h) (Or.inr ⟨by rfl,rfl⟩) ?_ ?_
             rotate_left
             ·simp only [Act.put,sA,sZ,sS,i64_w,i32_w]
              rfl
             refine pure_ (i:=32) (N:=some 69) (v:=undef) (a':=?_) #[true,true,true,true,true,true,true,true,true,true,true,true,true,true,true,true,true,true,true,true,true,true,true,true,true,true,true,true,true,true,true,true,true,false,false,false,false,false,false,false] rfl rfl (any_of HT_.out (by kernel_rfl)) (fun _ _ _ h => h) (Or.inr ⟨by rfl,rfl⟩) ?_ ?_
             rotate_left
             ·simp only [Act.put,sA,sZ,sS,i64_w,i32_w]
              rfl
             refine pure_ (i:=33) (N:=some 70) (v:=undef) (a':=?_) #[true,true,true,true,true,true,true,true,true,true,true,true,true,true,true,true,true,true,true,true,true,true,true,true,true,true,true,true,true,true,true,true,true,true,false,false,false,false,false,false] rfl rfl (any_of HT_.out (by kernel_rfl)) (fun _ _ _ h => h) (Or.inr ⟨by rfl,rfl⟩) ?_ ?_
             rotate_left
             ·simp only [Act.put,sA,sZ,sS,i64_w,i32_w]
              rfl
             refine pure_ (i:=34) (N:=some 71) (v:=undef) (a':=?_) #[true,true,true,true,true,true,true,true,true,true,true,true,true,true,true,true,true,true,true,true,true,true,true,true,true,true,true,true,true,true,true,true,true,true,true,false,false,false,false,false] rfl rfl (any_of HT_.out (by kernel_rfl)) (fun _ _ _ h => h) (Or.inr ⟨by rfl,rfl⟩) ?_ ?_
             rotate_left
             ·simp only [Act.put,sA,sZ,sS,i64_w,i32_w]
              rfl
             refine pure_ (i:=35) (N:=some 72) (v:=undef) (a':=?_) #[true,true,true,true,true,true,true,true,true,true,true,true,true,true,true,true,true,true,true,true,true,true,true,true,true,true,true,true,true,true,true,true,true,true,true,true,false,false,false,false] rfl rfl (any_of HT_.out (by kernel_rfl)) (fun _ _ _ h => h) (Or.inr ⟨by rfl,rfl⟩) ?_ ?_
             rotate_left
             ·simp only [Act.put,sA,sZ,sS,i64_w,i32_w]
              rfl
             refine pure_ (i:=36) (N:=some 73) (v:=undef) (a':=?_) #[true,true,true,true,true,true,true,true,true,true,true,true,true,true,true,true,true,true,true,true,true,true,true,true,true,true,true,true,true,true,true,true,true,true,true,true,true,false,false,false] rfl rfl (any_of HT_.out (by kernel_rfl)) (fun _ _ _ h => h) (Or.inr ⟨by rfl,rfl⟩) ?_ ?_
             rotate_left
             ·simp only [Act.put,sA,sZ,sS,i64_w,i32_w]
              rfl
             refine pure_ (i:=37) (N:=some 74) (v:=undef) (a':=?_) #[true,true,true,true,true,true,true,true,true,true,true,true,true,true,true,true,true,true,true,true,true,true,true,true,true,true,true,true,true,true,true,true,true,true,true,true,true,true,false,false] rfl rfl (any_of HT_.out (by kernel_rfl)) (fun _ _ _ h => h) (Or.inr ⟨by rfl,rfl⟩) ?_ ?_
             rotate_left
             ·simp only [Act.put,sA,sZ,sS,i64_w,i32_w]
              rfl
             refine pure_ (i:=38) (N:=some 75) (v:=undef) (a':=?_) #[true,true,true,true,true,true,true,true,true,true,true,true,true,true,true,true,true,true,true,true,true,true,true,true,true,true,true,true,true,true,true,true,true,true,true,true,true,true,true,false] rfl rfl (any_of HT_.out (by kernel_rfl)) (fun _ _ _ h => h) (Or.inr ⟨by rfl,rfl⟩) ?_ ?_
             rotate_left
             ·simp only [Act.put,sA,sZ,sS,i64_w,i32_w]
              rfl
             refine pure_ (i:=39) (N:=some 76) (v:=?_) (a':=?_) #[true,true,true,true,true,true,true,true,true,true,true,true,true,true,true,true,true,true,true,true,true,true,true,true,true,true,true,true,true,true,true,true,true,true,true,true,true,true,true,true] rfl rfl (any_of HT_.out (by kernel_rfl)) (fun _ _ _ h => h) (Or.inl ⟨by rfl,?_⟩) ?_ ?_
             rotate_left
             ·intro w'
              go_simp
              with_reducible rfl
             rotate_left
             ·simp only [Act.put,sA,sZ,sS,i64_w,i32_w]
              rfl
             refine done_ (done_of HT_.out (by kernel_rfl)) ?_
             try go_wp2
             go_meet
             case rel => exact ⟨_,(true),(by first|rfl|(simp;done)|(simp [*];done)),H',⟨by have:=HJ3.out;have:=HK2.out;first|omega|exact Nat.le_refl _⟩,⟨by (with_reducible repeat (first|apply zA|apply zN|apply zD));exact HO_7.out⟩,⟨by (with_reducible repeat (first|apply zA|apply zN|apply zD));exact HO_30.out⟩,⟨by (with_reducible repeat (first|refine bN ?_ _|refine bD ?_|refine bA ?_ _));exact BK397.out⟩,⟨by repeat (first|(with_reducible first|exact HB.out|apply below_alloc|apply pw_below_drewN|apply below_drew1|refine below_set ?_ GE397.out)|exact HB.out)⟩⟩
           ·rw [if_neg c24] at H
            exact absurd H (by simp)
          case rest =>
           clear HC21
           try clear c2
           try clear p2
           try clear p3
           try clear q3
           try clear hx3
           try clear c24
           try clear c25
           try clear c25b0
           try clear c25b1
           try clear c26
           try clear c26b0
           try clear c26b1
           try clear hx398_0
           try clear hx398_1
           try clear hx398_2
           try clear hx399_0
           try clear hx399_1
           try clear hx399_2
           try clear p398
           try clear p399
           try clear q398
           try clear q399
           obtain ⟨kq,x76_20,rfl,HA,HJ20,HO_7,HO_30,BK397,HB⟩:=hcut
           cases kq with
           | zero => exact absurd HA.out (by simp [ratlinelaw04_BatchEntries.j2])
           | succ kj20 =>
            have H:=HA.out
            clear HA
            simp only [ratlinelaw04_BatchEntries.j2] at H
            by_cases c36 : x76_20 = true
            ·subst c36
             have H1 : (none) = some r:=by rw [if_pos rfl] at H;exact H
             clear H
             have H:=H1
             clear H1
             exact absurd H (by simp)
            ·replace c36:=Bool.eq_false_iff.mpr c36
             subst c36
             have H1 : (if a2 ≤ 72057594037927875 then ((ikey_Entry.f ((rd_T41 t393 x32_2).f0.f0) ((rd_T41 t393 x32_2).f0.f1) ((rd_T41 t393 x32_2).f0.f2) ((rd_T41 t393 x32_2).f1)).bind fun t401 => (if 0 ≤ x32_2 then (if x32_2 < (l0.length : Int) then ((batch_Op.f ((rd_T43 l0 x32_2).f0) ((rd_T43 l0 x32_2).f1) ((rd_T43 l0 x32_2).f2)).bind fun t403 => (ratlinelaw04_BatchEntries.j3 kj20 l0 l1 a2 t393 x32_2 t393 (t393.length : Int) x32_2 (t401 != t403) ((rd_T41 t393 x32_2).f0.f0) ((rd_T41 t393 x32_2).f0.f1) ((rd_T41 t393 x32_2).f0.f2) ((rd_T41 t393 x32_2).f1))) else (none)) else (none))) else (ratlinelaw04_BatchEntries.j3 kj20 l0 l1 a2 t393 x32_2 t393 (t393.length : Int) x32_2 false ((rd_T41 t393 x32_2).f0.f0) ((rd_T41 t393 x32_2).f0.f1) ((rd_T41 t393 x32_2).f0.f2) ((rd_T41 t393 x32_2).f1))) = some r:=by rw [if_neg (show ¬ (false = true) by decide)] at H;exact H
             clear H
             have H:=H1
             clear H1
             have HC37:=Aside0.mk H
             clear H
             go_upto_region 11 with (fail)
             go_cut [88] (fun v88 wc => ∃ (kq : Nat) (x88_36 : Bool),v88 = .bool x88_36 ∧ Aside0 (ratlinelaw04_BatchEntries.j3 kq l0 l1 a2 t393 x32_2 t393 (t393.length : Int) x32_2 x88_36 ((rd_T41 t393 x32_2).f0.f0) ((rd_T41 t393 x32_2).f0.f1) ((rd_T41 t393 x32_2).f0.f2) ((rd_T41 t393 x32_2).f1) = some r) ∧ Aside0 (kq ≤ kj20) ∧ Aside0 (Kd.R k41 41 wc w.heap.size (fun k_ => k_ ≠ gb397) (.slice (some ad396) t393.length co17) t393) ∧ Aside0 (Kd.R k41 41 wc w.heap.size (fun k_ => k_ ≠ gb397) (.slice (some ad396) t393.length co17) t393) ∧ Aside0 (wc.heap[gb397]? = some (.cells #[.string ((rd_T41 t393 x32_2).f0.f0),.int .u64 ((rd_T41 t393 x32_2).f0.f1),.int .u8 ((rd_T41 t393 x32_2).f0.f2),.string ((rd_T41 t393 x32_2).f1)] 41 (0,0))) ∧ Aside0 (Below w.heap.size w wc))
             case first =>
              have H:=HC37.out
              clear HC37
              by_cases c38 : a2 ≤ 72057594037927875
              ·rw [if_pos c38] at H
               have c38b0 : decide (a2 ≤ 72057594037927875) = true:=decide_eq_true c38
               clear c38
               (first|rw [c38b0]|(simp only [i64_w,i32_w];rw [c38b0])|skip)
               replace H:=Option.bind_eq_some_iff.mp H
               obtain ⟨t401,A390,H⟩:=H
               replace H : (if 0 ≤ x32_2 then (if x32_2 < (l0.length : Int) then ((batch_Op.f ((rd_T43 l0 x32_2).f0) ((rd_T43 l0 x32_2).f1) ((rd_T43 l0 x32_2).f2)).bind fun t403 => (ratlinelaw04_BatchEntries.j3 kj20 l0 l1 a2 t393 x32_2 t393 (t393.length : Int) x32_2 (t401 != t403) ((rd_T41 t393 x32_2).f0.f0) ((rd_T41 t393 x32_2).f0.f1) ((rd_T41 t393 x32_2).f0.f2) ((rd_T41 t393 x32_2).f1))) else (none)) else (none)) = some r:=H
               have A39:=Aside0.mk A390
               clear A390
               by_cases c40 : 0 ≤ x32_2
               ·rw [if_pos c40] at H
                have c40b0 : decide (0 ≤ x32_2) = true:=decide_eq_true c40
                clear c40
                by_cases c41 : x32_2 < (l0.length : Int)
                ·rw [if_pos c41] at H
                 have c41b0 : decide (x32_2 < (l0.length : Int)) = true:=decide_eq_true c41
                 clear c41
                 replace H:=Option.bind_eq_some_iff.mp H
                 obtain ⟨t403,A420,H⟩:=H
                 replace H : (ratlinelaw04_BatchEntries.j3 kj20 l0 l1 a2 t393 x32_2 t393 (t393.length : Int) x32_2 (t401 != t403) ((rd_T41 t393 x32_2).f0.f0) ((rd_T41 t393 x32_2).f0.f1) ((rd_T41 t393 x32_2).f0.f2) ((rd_T41 t393 x32_2).f1)) = some r:=H
                 have A42:=Aside0.mk A420
                 clear A420
                 have H':=Aside0.mk H
                 clear H
                 try go_wp2
                 have n0_:=Aside0.mk (Kd.R_drew HO_7.out)
                 have n1_:=Aside0.mk (Kd.R_drew HO_30.out)
                 have n2_:=Aside0.mk (blk_drew BK397.out)
                 have n3_:=Aside0.mk (below_drew1 HB.out)
                 clear HO_7
                 clear HO_30
                 clear BK397
                 clear HB
                 have HO_7:=n0_
                 have HO_30:=n1_
                 have BK397:=n2_
                 have HB:=n3_
                 clear n0_ n1_ n2_ n3_
                 have p402 : 0 ≤ (x32_2 : Int):=of_decide_eq_true (by first|(with_reducible assumption)|assumption)
                 have q402 : x32_2 < (l0.length : Int):=of_decide_eq_true (by first|(with_reducible assumption)|assumption)
                 obtain ⟨ad402,e402,hx402_0,hx402_1,hx402_2⟩:=at_T43 HR0.out x32_2 p402 q402
                 have hw402_2:=hx402_2
                 have hw402_1:=hx402_1
                 have hw402_0:=hx402_0
                 cases e402
                 replace hx402_0:=(HB.out.cell (World.block_lt_of_cell? w _ hx402_0)).trans hx402_0
                 replace hx402_1:=(HB.out.cell (World.block_lt_of_cell? w _ hx402_1)).trans hx402_1
                 replace hx402_2:=(HB.out.cell (World.block_lt_of_cell? w _ hx402_2)).trans hx402_2
                 replace p402:=eq_true p402
                 replace q402:=eq_true q402
                 refine start_ (n:=12) (S:=fun w' => w'.cell? ⟨gb397,0,none⟩ = some (.string ((rd_T41 t393 x32_2).f0.f0)) ∧ w'.cell? ⟨gb397,1,none⟩ = some (.int .u64 ((rd_T41 t393 x32_2).f0.f1)) ∧ w'.cell? ⟨gb397,2,none⟩ = some (.int .u8 ((rd_T41 t393 x32_2).f0.f2)) ∧ w'.cell? ⟨gb397,3,none⟩ = some (.string ((rd_T41 t393 x32_2).f1)) ∧ w'.cell? (ad402.add ((x32_2).toNat * 3)) = some (.int .u8 ((rd_T43 l0 x32_2).f0)) ∧ w'.cell? ⟨(ad402.add ((x32_2).toNat * 3)).block,(ad402.add ((x32_2).toNat * 3)).off + 1,none⟩ = some (.string ((rd_T43 l0 x32_2).f1)) ∧ w'.cell? ⟨(ad402.add ((x32_2).toNat * 3)).block,(ad402.add ((x32_2).toNat * 3)).off + 2,none⟩ = some (.string ((rd_T43 l0 x32_2).f2))) (ds:=[]) #[false,false,false,false,false,false,false,false,false,false,false,false] (by kernel_rfl) rfl rfl ⟨(blk_cell BK397.out 0).trans rfl,(blk_cell BK397.out 1).trans rfl,(blk_cell BK397.out 2).trans rfl,(blk_cell BK397.out 3).trans rfl,((HB.out.cell (World.block_lt_of_cell? w _ hw402_0)).trans hw402_0),((HB.out.cell (World.block_lt_of_cell? w _ hw402_1)).trans hw402_1),((HB.out.cell (World.block_lt_of_cell? w _ hw402_2)).trans hw402_2)⟩ (fun hHeld => ?_);refine with_tabW ratlinelaw04_BatchEntries.tab11 ratlinelaw04_BatchEntries.bits11 (fun HT_ HW_ => ?_)
                 generalize wc.drew = w43 at HO_7 HO_30 BK397 HB hx402_0 hx402_1 hx402_2 hHeld ⊢
                 refine pure_ (i:=0) (N:=some 77) (v:=?_) (a':=?_) #[true,false,false,false,false,false,false,false,false,false,false,false] rfl rfl (any_of HT_.out (by kernel_rfl)) (fun _ _ _ h => h) (Or.inl ⟨by rfl,?_⟩) ?_ ?_
                 rotate_left
                 ·intro w'
                  go_simp
                  with_reducible rfl
                 rotate_left
                 ·simp only [Act.put,sA,sZ,sS,i64_w,i32_w]
                  rfl
                 refine pure_ (i:=1) (N:=some 78) (v:=?_) (a':=?_) #[true,true,false,false,false,false,false,false,false,false,false,false] rfl rfl (any_of HT_.out (by kernel_rfl)) (fun _ _ _ h => h) (Or.inl ⟨by rfl,?_⟩) ?_ ?_
                 rotate_left
                 ·intro w'
                  go_simp
                  with_reducible rfl
                 rotate_left
                 ·simp only [Act.put,sA,sZ,sS,i64_w,i32_w]
                  rfl
                 refine pure_ (i:=2) (N:=some 79) (v:=?_) (a':=?_) #[true,true,true,false,false,false,false,false,false,false,false,false] rfl rfl (any_of HT_.out (by kernel_rfl)) (fun _ _ _ h => h) (Or.inl ⟨by rfl,?_⟩) ?_ ?_
                 rotate_left
                 ·intro w'
                  go_simp
                  with_reducible rfl
                 rotate_left
                 ·simp only [Act.put,sA,sZ,sS,i64_w,i32_w]
                  rfl
                 refine pure_ (i:=5) (N:=some 82) (v:=?_) (a':=?_) #[true,true,true,false,false,true,false,false,false,false,false,false] rfl rfl (any_of HT_.out (by kernel_rfl)) (fun _ _ _ h => h) (Or.inl ⟨by rfl,?_⟩) ?_ ?_
                 rotate_left
                 ·intro w'
                  go_simp
                  with_reducible rfl
                 rotate_left
                 ·simp only [Act.put,sA,sZ,sS,i64_w,i32_w]
                  rfl
                 refine pure_ (i:=6) (N:=some 83) (v:=?_) (a':=?_) #[true,true,true,false,false,true,true,false,false,false,false,false] rfl rfl (any_of HT_.out (by kernel_rfl)) (fun _ _ _ h => h) (Or.inl ⟨by rfl,?_⟩) ?_ ?_
                 rotate_left
                 ·intro w'
                  go_simp
                  with_reducible rfl
                 rotate_left
                 ·simp only [Act.put,sA,sZ,sS,i64_w,i32_w]
                  rfl
                 refine pure_ (i:=7) (N:=some 84) (v:=?_) (a':=?_) #[true,true,true,false,false,true,true,true,false,false,false,false] rfl rfl (any_of HT_.out (by kernel_rfl)) (fun _ _ _ h => h) (Or.inl ⟨by rfl,?_⟩) ?_ ?_
                 rotate_left
                 ·intro w'
                  go_simp
                  with_reducible rfl
                 rotate_left
                 ·simp only [Act.put,sA,sZ,sS,i64_w,i32_w]
                  rfl
                 refine take_ (i:=3) (N:=some 80) (v:=?_) (a':=?_) #[true,true,true,true,false,true,true,true,false,false,false,false] rfl rfl (take_ofW HT_.out HW_.out (by kernel_rfl)) (fun _ _ _ h => h) (Or.inl ⟨by rfl,?_⟩) hHeld ?_ ?_
                 rotate_left
                 ·rintro w' ⟨s0,s1,s2,s3,s4,s5,s6⟩
                  go_simp
                  with_reducible rfl
                 rotate_left
                 ·simp only [Act.put,sA,sZ,sS,i64_w,i32_w]
                  rfl
                 refine take_ (i:=8) (N:=some 85) (v:=?_) (a':=?_) #[true,true,true,true,false,true,true,true,true,false,false,false] rfl rfl (take_ofW HT_.out HW_.out (by kernel_rfl)) (fun _ _ _ h => h) (Or.inl ⟨by rfl,?_⟩) hHeld ?_ ?_
                 rotate_left
                 ·rintro w' ⟨s0,s1,s2,s3,s4,s5,s6⟩
                  go_simp
                  with_reducible rfl
                 rotate_left
                 ·simp only [Act.put,sA,sZ,sS,i64_w,i32_w]
                  rfl
                 refine one_ (i:=4) (N:=some 81) #[true,true,true,true,true,true,true,true,true,false,false,false] rfl rfl (one_of HT_.out (by kernel_rfl)) (by decide) (fun K hK => ?_)
                 refine goes_ Try.func21 (by kernel_rfl) rfl #[.agg #[.string ((rd_T41 t393 x32_2).f0.f0),.int .u64 ((rd_T41 t393 x32_2).f0.f1),.int .u8 ((rd_T41 t393 x32_2).f0.f2),.string ((rd_T41 t393 x32_2).f1)]] (by rfl) rfl rfl (by (try simp only [List.map_toArray,List.map_cons,List.map_nil]);first|done|rfl|(simp only [List.length_drop,List.length_take];rfl)) ?_
                 with_reducible refine (ikey_Entry.calls ((rd_T41 t393 x32_2).f0.f0) ((rd_T41 t393 x32_2).f0.f1) ((rd_T41 t393 x32_2).f0.f2) ((rd_T41 t393 x32_2).f1) t401 _ A39.out).mono ?_
                 rintro e w44 ⟨rfl,hb⟩
                 refine ⟨_,rfl,?_⟩
                 have n0_:=Aside0.mk (Kd.R_below (by (with_reducible repeat (first|apply zA|apply zN|apply zD));exact HO_7.out) hb)
                 have n1_:=Aside0.mk (Kd.R_below (by (with_reducible repeat (first|apply zA|apply zN|apply zD));exact HO_30.out) hb)
                 have n2_:=Aside0.mk (blk_below (g:=gb397) (o:=.cells #[.string ((rd_T41 t393 x32_2).f0.f0),.int .u64 ((rd_T41 t393 x32_2).f0.f1),.int .u8 ((rd_T41 t393 x32_2).f0.f2),.string ((rd_T41 t393 x32_2).f1)] 41 (0,0)) (by (with_reducible repeat (first|refine bN ?_ _|refine bD ?_|refine bA ?_ _));exact BK397.out) hb)
                 have n3_:=Aside0.mk (below_step (by repeat (first|(with_reducible first|exact HB.out|apply below_alloc|apply pw_below_drewN|apply below_drew1|refine below_set ?_ GE397.out)|exact HB.out)) hb)
                 clear HO_7
                 clear HO_30
                 clear BK397
                 clear HB
                 have HO_7:=n0_
                 have HO_30:=n1_
                 have BK397:=n2_
                 have HB:=n3_
                 clear n0_ n1_ n2_ n3_
                 (try clear hb)
                 (try clear hb2)
                 (try clear hk)
                 (try clear hi)
                 refine hK.out _ _ ⟨(blk_cell BK397.out 0).trans rfl,(blk_cell BK397.out 1).trans rfl,(blk_cell BK397.out 2).trans rfl,(blk_cell BK397.out 3).trans rfl,((HB.out.cell (World.block_lt_of_cell? w _ hw402_0)).trans hw402_0),((HB.out.cell (World.block_lt_of_cell? w _ hw402_1)).trans hw402_1),((HB.out.cell (World.block_lt_of_cell? w _ hw402_2)).trans hw402_2)⟩ (fun hHeld => ?_)
                 clear hK K
                 refine norm_ (a':=?_) ?_ ?_
                 rotate_left
                 ·show Act.put _ (some 81) _ = _
                  simp only [Act.put,sA,sZ,sS,i64_w,i32_w]
                  rfl
                 refine one_ (i:=9) (N:=some 86) #[true,true,true,true,true,true,true,true,true,true,false,false] rfl rfl (one_of HT_.out (by kernel_rfl)) (by decide) (fun K hK => ?_)
                 refine goes_ Try.func22 (by kernel_rfl) rfl #[.agg #[.int .u8 ((rd_T43 l0 x32_2).f0),.string ((rd_T43 l0 x32_2).f1),.string ((rd_T43 l0 x32_2).f2)]] (by rfl) rfl rfl (by (try simp only [List.map_toArray,List.map_cons,List.map_nil]);first|done|rfl|(simp only [List.length_drop,List.length_take];rfl)) ?_
                 with_reducible refine (batch_Op.calls ((rd_T43 l0 x32_2).f0) ((rd_T43 l0 x32_2).f1) ((rd_T43 l0 x32_2).f2) t403 _ A42.out).mono ?_
                 rintro e w45 ⟨rfl,hb⟩
                 refine ⟨_,rfl,?_⟩
                 have n0_:=Aside0.mk (Kd.R_below (by (with_reducible repeat (first|apply zA|apply zN|apply zD));exact HO_7.out) hb)
                 have n1_:=Aside0.mk (Kd.R_below (by (with_reducible repeat (first|apply zA|apply zN|apply zD));exact HO_30.out) hb)
                 have n2_:=Aside0.mk (blk_below (g:=gb397) (o:=.cells #[.string ((rd_T41 t393 x32_2).f0.f0),.int .u64 ((rd_T41 t393 x32_2).f0.f1),.int .u8 ((rd_T41 t393 x32_2).f0.f2),.string ((rd_T41 t393 x32_2).f1)] 41 (0,0)) (by (with_reducible repeat (first|refine bN ?_ _|refine bD ?_|refine bA ?_ _));exact BK397.out) hb)
                 have n3_:=Aside0.mk (below_step (by repeat (first|(with_reducible first|exact HB.out|apply below_alloc|apply pw_below_drewN|apply below_drew1|refine below_set ?_ GE397.out)|exact HB.out)) hb)
                 clear HO_7
                 clear HO_30
                 clear BK397
                 clear HB
                 have HO_7:=n0_
                 have HO_30:=n1_
                 have BK397:=n2_
                 have HB:=n3_
                 clear n0_ n1_ n2_ n3_
                 (try clear hb)
                 (try clear hb2)
                 (try clear hk)
                 (try clear hi)
                 refine hK.out _ _ ⟨(blk_cell BK397.out 0).trans rfl,(blk_cell BK397.out 1).trans rfl,(blk_cell BK397.out 2).trans rfl,(blk_cell BK397.out 3).trans rfl,((HB.out.cell (World.block_lt_of_cell? w _ hw402_0)).trans hw402_0),((HB.out.cell (World.block_lt_of_cell? w _ hw402_1)).trans hw402_1),((HB.out.cell (World.block_lt_of_cell? w _ hw402_2)).trans hw402_2)⟩ (fun hHeld => ?_)
                 clear hK K
                 refine norm_ (a':=?_) ?_ ?_
                 rotate_left
                 ·show Act.put _ (some 86) _ = _
                  simp only [Act.put,sA,sZ,sS,i64_w,i32_w]
                  rfl
                 refine pure_ (i:=10) (N:=some 87) (v:=?_) (a':=?_) #[true,true,true,true,true,true,true,true,true,true,true,false] rfl rfl (any_of HT_.out (by kernel_rfl)) (fun _ _ _ h => h) (Or.inl ⟨by rfl,?_⟩) ?_ ?_
                 rotate_left
                 ·intro w'
                  go_simp
                  with_reducible rfl
                 rotate_left
                 ·simp only [Act.put,sA,sZ,sS,i64_w,i32_w]
                  rfl
                 refine pure_ (i:=11) (N:=some 88) (v:=?_) (a':=?_) #[true,true,true,true,true,true,true,true,true,true,true,true] rfl rfl (any_of HT_.out (by kernel_rfl)) (fun _ _ _ h => h) (Or.inl ⟨by rfl,?_⟩) ?_ ?_
                 rotate_left
                 ·intro w'
                  go_simp
                  with_reducible rfl
                 rotate_left
                 ·simp only [Act.put,sA,sZ,sS,i64_w,i32_w]
                  rfl
                 refine done_ (done_of HT_.out (by kernel_rfl)) ?_
                 try go_wp2
                 go_meet
                 case rel => exact ⟨_,((t401 != t403)),(by first|rfl|(simp;done)|(simp [*];done)),H',⟨by have:=HJ3.out;have:=HK2.out;have:=HJ20.out;first|omega|exact Nat.le_refl _⟩,⟨by (with_reducible repeat (first|apply zA|apply zN|apply zD));exact HO_7.out⟩,⟨by (with_reducible repeat (first|apply zA|apply zN|apply zD));exact HO_30.out⟩,⟨by (with_reducible repeat (first|refine bN ?_ _|refine bD ?_|refine bA ?_ _));exact BK397.out⟩,⟨by repeat (first|(with_reducible first|exact HB.out|apply below_alloc|apply pw_below_drewN|apply below_drew1|refine below_set ?_ GE397.out)|exact HB.out)⟩⟩
                ·rw [if_neg c41] at H
                 exact absurd H (by simp)
               ·rw [if_neg c40] at H
                exact absurd H (by simp)
              ·rw [if_neg c38] at H
               have c38b0 : decide (a2 ≤ 72057594037927875) = false:=decide_eq_false c38
               clear c38
               (first|rw [c38b0]|(simp only [i64_w,i32_w];rw [c38b0])|skip)
               have H':=Aside0.mk H
               clear H
               try go_wp2
               have n0_:=Aside0.mk (Kd.R_drew HO_7.out)
               have n1_:=Aside0.mk (Kd.R_drew HO_30.out)
               have n2_:=Aside0.mk (blk_drew BK397.out)
               have n3_:=Aside0.mk (below_drew1 HB.out)
               clear HO_7
               clear HO_30
               clear BK397
               clear HB
               have HO_7:=n0_
               have HO_30:=n1_
               have BK397:=n2_
               have HB:=n3_
               clear n0_ n1_ n2_ n3_
               refine start_ (n:=12) (S:=fun w' => True) (ds:=[]) #[false,false,false,false,false,false,false,false,false,false,false,false] (by kernel_rfl) rfl rfl trivial (fun hHeld => ?_);refine with_tabW ratlinelaw04_BatchEntries.tab11 ratlinelaw04_BatchEntries.bits11 (fun HT_ HW_ => ?_)
               generalize wc.drew = w46 at HO_7 HO_30 BK397 HB hHeld ⊢
               refine pure_ (i:=0) (N:=some 77) (v:=?_) (a':=?_) #[true,false,false,false,false,false,false,false,false,false,false,false] rfl rfl (any_of HT_.out (by kernel_rfl)) (fun _ _ _ h => h) (Or.inl ⟨by rfl,?_⟩) ?_ ?_
               rotate_left
               ·intro w'
                go_simp
                with_reducible rfl
               rotate_left
               ·simp only [Act.put,sA,sZ,sS,i64_w,i32_w]
                rfl
               refine pure_ (i:=1) (N:=some 78) (v:=?_) (a':=?_) #[true,true,false,false,false,false,false,false,false,false,false,false] rfl rfl (any_of HT_.out (by kernel_rfl)) (fun _ _ _ h => h) (Or.inl ⟨by rfl,?_⟩) ?_ ?_
               rotate_left
               ·intro w'
                go_simp
                with_reducible rfl
               rotate_left
               ·simp only [Act.put,sA,sZ,sS,i64_w,i32_w]
                rfl
               refine pure_ (i:=2) (N:=some 79) (v:=?_) (a':=?_) #[true,true,true,false,false,false,false,false,false,false,false,false] rfl rfl (any_of HT_.out (by kernel_rfl)) (fun _ _ _ h => h) (Or.inl ⟨by rfl,?_⟩) ?_ ?_
               rotate_left
               ·intro w'
                go_simp
                with_reducible rfl
               rotate_left
               ·simp only [Act.put,sA,sZ,sS,i64_w,i32_w]
                rfl
               refine pure_ (i:=3) (N:=some 80) (v:=undef) (a':=?_) #[true,true,true,true,false,false,false,false,false,false,false,false] rfl rfl (any_of HT_.out (by kernel_rfl)) (fun _ _ _ h => h) (Or.inr ⟨by rfl,rfl⟩) ?_ ?_
               rotate_left
               ·simp only [Act.put,sA,sZ,sS,i64_w,i32_w]
                rfl
               refine pure_ (i:=4) (N:=some 81) (v:=undef) (a':=?_) #[true,true,true,true,true,false,false,false,false,false,false,false] rfl rfl (any_of HT_.out (by kernel_rfl)) (fun _ _ _ h => h) (Or.inr ⟨by rfl,rfl⟩) ?_ ?_
               rotate_left
               ·simp only [Act.put,sA,sZ,sS,i64_w,i32_w]
                rfl
               refine pure_ (i:=5) (N:=some 82) (v:=undef) (a':=?_) #[true,true,true,true,true,true,false,false,false,false,false,false] rfl rfl (any_of HT_.out (by kernel_rfl)) (fun _ _ _ h => h) (Or.inr ⟨by rfl,rfl⟩) ?_ ?_
               rotate_left
               ·simp only [Act.put,sA,sZ,sS,i64_w,i32_w]
                rfl
               refine pure_ (i:=6) (N:=some 83) (v:=undef) (a':=?_) #[true,true,true,true,true,true,true,false,false,false,false,false] rfl rfl (any_of HT_.out (by kernel_rfl)) (fun _ _ _ h => h) (Or.inr ⟨by rfl,rfl⟩) ?_ ?_
               rotate_left
               ·simp only [Act.put,sA,sZ,sS,i64_w,i32_w]
                rfl
               refine pure_ (i:=7) (N:=some 84) (v:=undef) (a':=?_) #[true,true,true,true,true,true,true,true,false,false,false,false] rfl rfl (any_of HT_.out (by kernel_rfl)) (fun _ _ _ h => h) (Or.inr ⟨by rfl,rfl⟩) ?_ ?_
               rotate_left
               ·simp only [Act.put,sA,sZ,sS,i64_w,i32_w]
                rfl
               refine pure_ (i:=8) (N:=some 85) (v:=undef) (a':=?_) #[true,true,true,true,true,true,true,true,true,false,false,false] rfl rfl (any_of HT_.out (by kernel_rfl)) (fun _ _ _ h => h) (Or.inr ⟨by rfl,rfl⟩) ?_ ?_
               rotate_left
               ·simp only [Act.put,sA,sZ,sS,i64_w,i32_w]
                rfl
               refine pure_ (i:=9) (N:=some 86) (v:=undef) (a':=?_) #[true,true,true,true,true,true,true,true,true,true,false,false] rfl rfl (any_of HT_.out (by kernel_rfl)) (fun _ _ _ h => h) (Or.inr ⟨by rfl,rfl⟩) ?_ ?_
               rotate_left
               ·simp only [Act.put,sA,sZ,sS,i64_w,i32_w]
                rfl
               refine pure_ (i:=10) (N:=some 87) (v:=undef) (a':=?_) #[true,true,true,true,true,true,true,true,true,true,true,false] rfl rfl (any_of HT_.out (by kernel_rfl)) (fun _ _ _ h => h) (Or.inr ⟨by rfl,rfl⟩) ?_ ?_
               rotate_left
               ·simp only [Act.put,sA,sZ,sS,i64_w,i32_w]
                rfl
               refine pure_ (i:=11) (N:=some 88) (v:=?_) (a':=?_) #[true,true,true,true,true,true,true,true,true,true,true,true] rfl rfl (any_of HT_.out (by kernel_rfl)) (fun _ _ _ h => h) (Or.inl ⟨by rfl,?_⟩) ?_ ?_
               rotate_left
               ·intro w'
                go_simp
                with_reducible rfl
               rotate_left
               ·simp only [Act.put,sA,sZ,sS,i64_w,i32_w]
                rfl
               refine done_ (done_of HT_.out (by kernel_rfl)) ?_
               try go_wp2
               go_meet
               case rel => exact ⟨_,(false),(by first|rfl|(simp;done)|(simp [*];done)),H',⟨by have:=HJ3.out;have:=HK2.out;have:=HJ20.out;first|omega|exact Nat.le_refl _⟩,⟨by (with_reducible repeat (first|apply zA|apply zN|apply zD));exact HO_7.out⟩,⟨by (with_reducible repeat (first|apply zA|apply zN|apply zD));exact HO_30.out⟩,⟨by (with_reducible repeat (first|refine bN ?_ _|refine bD ?_|refine bA ?_ _));exact BK397.out⟩,⟨by repeat (first|(with_reducible first|exact HB.out|apply below_alloc|apply pw_below_drewN|apply below_drew1|refine below_set ?_ GE397.out)|exact HB.out)⟩⟩
             case rest =>
              clear HC37
              try clear c2
              try clear p2
              try clear c3
              try clear p3
              try clear q3
              try clear hx3
              try clear c4
              try clear p4
              try clear q4
              try clear hx4
              try clear c21
              try clear c22
              try clear c24
              try clear c25
              try clear c25b0
              try clear c25b1
              try clear c26
              try clear c26b0
              try clear c26b1
              try clear c36
              try clear c38
              try clear c38b0
              try clear p39
              try clear q39
              try clear hx39
              try clear c40
              try clear c40b0
              try clear p40
              try clear q40
              try clear hx40
              try clear c41
              try clear c41b0
              try clear hx398_0
              try clear hx398_1
              try clear hx398_2
              try clear hx399_0
              try clear hx399_1
              try clear hx399_2
              try clear hx402_0
              try clear hx402_1
              try clear hx402_2
              try clear p2
              try clear p3
              try clear p398
              try clear p399
              try clear p402
              try clear q3
              try clear q398
              try clear q399
              try clear q402
              obtain ⟨kq,x88_36,rfl,HA,HJ36,HO_7,HO_30,BK397,HB⟩:=hcut
              cases kq with
              | zero => exact absurd HA.out (by simp [ratlinelaw04_BatchEntries.j3])
              | succ kj36 =>
               have H:=HA.out
               clear HA
               simp only [ratlinelaw04_BatchEntries.j3] at H
               by_cases c47 : x88_36 = true
               ·subst c47
                have H1 : (none) = some r:=by rw [if_pos rfl] at H;exact H
                clear H
                have H:=H1
                clear H1
                exact absurd H (by simp)
               ·replace c47:=Bool.eq_false_iff.mpr c47
                subst c47
                have H1 : (if 0 ≤ x32_2 then (if x32_2 ≤ (t393.length : Int) then ((some (t393.take (x32_2 : Int).toNat : List (S41))).bind fun y404 => (ratlinelaw04_BatchEntries.l1 kj36 l0 l1 a2 t393 t393 (t393.length : Int) x32_2 y404 (y404.length : Int) 0 ((rd_T41 t393 x32_2).f0.f0) ((rd_T41 t393 x32_2).f0.f1) ((rd_T41 t393 x32_2).f0.f2) ((rd_T41 t393 x32_2).f1))) else (none)) else (none)) = some r:=by rw [if_neg (show ¬ (false = true) by decide)] at H;exact H
                clear H
                have H:=H1
                clear H1
                by_cases c48 : 0 ≤ x32_2
                ·rw [if_pos c48] at H
                 have c48b0:=eq_true c48
                 have c48b1 : decide (0 ≤ x32_2) = true:=decide_eq_true c48
                 clear c48
                 by_cases c49 : x32_2 ≤ (t393.length : Int)
                 ·rw [if_pos c49] at H
                  have c49b0:=eq_true c49
                  have c49b1 : decide (x32_2 ≤ (t393.length : Int)) = true:=decide_eq_true c49
                  clear c49
                  obtain ⟨y404,hy404⟩ : ∃ y_ : List (S41),y_ = (t393.take (x32_2 : Int).toNat):=⟨_,rfl⟩
                  replace H : (ratlinelaw04_BatchEntries.l1 kj36 l0 l1 a2 t393 t393 (t393.length : Int) x32_2 y404 (y404.length : Int) 0 ((rd_T41 t393 x32_2).f0.f0) ((rd_T41 t393 x32_2).f0.f1) ((rd_T41 t393 x32_2).f0.f2) ((rd_T41 t393 x32_2).f1)) = some r:=by first|(rw [hy404];with_reducible exact H)|(have H2_:=(Option.bind_some _ _).symm.trans H;rw [hy404];with_reducible exact H2_)|(have H2_:=(Option.bind_some _ _).symm.trans H;with_reducible exact H2_)|with_reducible exact H|(rw [hy404];exact H)|exact H
                  have Ny404:=Aside0.mk hy404
                  clear hy404
                  have H':=Aside0.mk H
                  clear H
                  have q50 : (x32_2 : Int) ≤ ((t393.length : Int) : Int):=of_decide_eq_true (by first|(with_reducible assumption)|assumption)
                  obtain ⟨i050,hi050,_,hsz50,_⟩:=info_parts info41
                  have hroom50 : t393.length ≤ co17:=(Kd.R_reads' HO_7.out).2.1
                  have hC50 : Kd.C k41 _ (some ad396) t393.length t393:=(Kd.R_reads' HO_7.out).2.2
                  have hcut50:=cut_to (P:=Try.prog) 36 41 .i64 Try.underlying36 hi050 (some ad396) t393.length co17 x32_2 (of_decide_eq_true (by first|(with_reducible assumption)|assumption)) q50 hroom50
                  have hr50:=Kd.C_take (m:=(x32_2 : Int).toNat) hC50 (by omega)
                  have hy50 : y404.length = (x32_2 : Int).toNat:=(by rw [Ny404.out,List.length_take];omega)
                  rw [← Ny404.out] at hr50
                  rw [← hy50] at hcut50
                  have HR407:=Aside0.mk hr50
                  have HC407:=Aside0.mk (show y404.length ≤ co17 from by omega)
                  clear hr50 hC50 hroom50 hi050 hsz50
                  have KY50:=Aside0.mk hy50
                  clear hy50
                  have KL50:=Aside0.mk (show (x32_2 : Int).toNat ≤ t393.length from by omega)
                  replace q50:=eq_true q50
                  go_wp2
                  go_loopg [93] kj36 (fun kq v93 w' => ∃ (x93_5 : Int),v93 = .int .i64 x93_5 ∧ Aside0 (ratlinelaw04_BatchEntries.l1 kq l0 l1 a2 t393 t393 (t393.length : Int) x32_2 y404 (y404.length : Int) x93_5 ((rd_T41 t393 x32_2).f0.f0) ((rd_T41 t393 x32_2).f0.f1) ((rd_T41 t393 x32_2).f0.f2) ((rd_T41 t393 x32_2).f1) = some r) ∧ Aside0 (kq ≤ kj36) ∧ Aside0 (Kd.R k41 41 w' w.heap.size (fun k_ => k_ ≠ gb397) (.slice (some ad396) t393.length co17) t393) ∧ Aside0 (Kd.R k41 41 w' w.heap.size (fun k_ => k_ ≠ gb397) (.slice (some ad396) t393.length co17) t393) ∧ Aside0 (w'.heap[gb397]? = some (.cells #[.string ((rd_T41 t393 x32_2).f0.f0),.int .u64 ((rd_T41 t393 x32_2).f0.f1),.int .u8 ((rd_T41 t393 x32_2).f0.f2),.string ((rd_T41 t393 x32_2).f1)] 41 (0,0))) ∧ Aside0 (Below w.heap.size w w'))
                  case atStart => exact ⟨(0),(by first|rfl|(simp;done)|(simp [*];done)),H',⟨Nat.le_refl _⟩,⟨by (with_reducible repeat (first|apply zA|apply zN|apply zD));exact HO_7.out⟩,⟨by (with_reducible repeat (first|apply zA|apply zN|apply zD));exact HO_30.out⟩,⟨by (with_reducible repeat (first|refine bN ?_ _|refine bD ?_|refine bA ?_ _));exact BK397.out⟩,⟨by repeat (first|(with_reducible first|exact HB.out|apply below_alloc|apply pw_below_drewN|apply below_drew1|refine below_set ?_ GE397.out)|exact HB.out)⟩⟩
                  case round =>
                   clear H'
                   try clear c2
                   try clear p2
                   try clear c3
                   try clear p3
                   try clear q3
                   try clear hx3
                   try clear c4
                   try clear p4
                   try clear q4
                   try clear hx4
                   try clear q5
                   try clear c21
                   try clear c22
                   try clear c24
                   try clear c25
                   try clear c25b0
                   try clear c25b1
                   try clear c26
                   try clear c26b0
                   try clear c26b1
                   try clear c36
                   try clear c38
                   try clear c38b0
                   try clear p39
                   try clear q39
                   try clear hx39
                   try clear c40
                   try clear c40b0
                   try clear p40
                   try clear q40
                   try clear hx40
                   try clear c41
                   try clear c41b0
                   try clear c47
                   try clear c48
                   try clear c48b0
                   try clear c48b1
                   try clear c49
                   try clear c49b0
                   try clear c49b1
                   try clear q50
                   try clear hx398_0
                   try clear hx398_1
                   try clear hx398_2
                   try clear hx399_0
                   try clear hx399_1
                   try clear hx399_2
                   try clear hx402_0
                   try clear hx402_1
                   try clear hx402_2
                   try clear p2
                   try clear p3
                   try clear p39
                   try clear p398
                   try clear p399
                   try clear p4
                   try clear p40
                   try clear p402
                   try clear q3
                   try clear q39
                   try clear q398
                   try clear q399
                   try clear q4
                   try clear q40
                   try clear q402
                   try clear q50
                   obtain ⟨x93_5,rfl,HA,HK5,HO_7,HO_30,BK397,HB⟩:=hrel
                   have HR407:=Aside0.mk (by have hr_:=Kd.C_take (m:=(x32_2 : Int).toNat) (Kd.R_reads' HO_7.out).2.2 (by have h_:=KL50.out;omega);rw [← Ny404.out] at hr_;exact hr_)
                   cases gk with
                   | zero => exact absurd HA.out (by simp [ratlinelaw04_BatchEntries.l1])
                   | succ k5 =>
                    have H:=HA.out
                    clear HA
                    simp only [ratlinelaw04_BatchEntries.l1] at H
                    by_cases c51 : x93_5 < (y404.length : Int)
                    ·rw [if_pos c51] at H
                     have c51b0 : decide (x93_5 < (y404.length : Int)) = true:=decide_eq_true c51
                     clear c51
                     by_cases c52 : 0 ≤ x93_5
                     ·rw [if_pos c52] at H
                      have c52b0 : decide (0 ≤ x93_5) = true:=decide_eq_true c52
                      clear c52
                      by_cases c53 : x93_5 < (y404.length : Int)
                      ·rw [if_pos c53] at H
                       have c53b0 : decide (x93_5 < (y404.length : Int)) = true:=decide_eq_true c53
                       clear c53
                       by_cases c54 : ((((rd_T41 y404 x93_5).f0.f0).toList) == ((rd_T41 t393 x32_2).f0.f0).toList && (((rd_T41 y404 x93_5).f0.f1) == ((rd_T41 t393 x32_2).f0.f1) && (((rd_T41 y404 x93_5).f0.f2) == ((rd_T41 t393 x32_2).f0.f2)))) = true
                       ·rw [if_pos c54] at H
                        exact absurd H (by simp)
                       ·rw [if_neg c54] at H
                        have c54b0 : ((((rd_T41 y404 x93_5).f0.f0).toList) == ((rd_T41 t393 x32_2).f0.f0).toList && (((rd_T41 y404 x93_5).f0.f1) == ((rd_T41 t393 x32_2).f0.f1) && (((rd_T41 y404 x93_5).f0.f2) == ((rd_T41 t393 x32_2).f0.f2)))) = false:=by simpa using c54
                        (try (have c54b1 : decide ((((rd_T41 y404 x93_5).f0.f0).toList) = ((rd_T41 t393 x32_2).f0.f0).toList && (((rd_T41 y404 x93_5).f0.f1) == ((rd_T41 t393 x32_2).f0.f1) && (((rd_T41 y404 x93_5).f0.f2) == ((rd_T41 t393 x32_2).f0.f2)))) = false:=by simpa using c54))
                        (try (have c54b2 : ((((rd_T41 y404 x93_5).f0.f0).toList) == ((rd_T41 t393 x32_2).f0.f0).toList && (((rd_T41 y404 x93_5).f0.f1) == ((rd_T41 t393 x32_2).f0.f1) && (((rd_T41 y404 x93_5).f0.f2) == ((rd_T41 t393 x32_2).f0.f2)))) = false:=by simpa using c54))
                        (try (have c54b3 : ¬ ((((rd_T41 y404 x93_5).f0.f0).toList) = ((rd_T41 t393 x32_2).f0.f0).toList && (((rd_T41 y404 x93_5).f0.f1) == ((rd_T41 t393 x32_2).f0.f1) && (((rd_T41 y404 x93_5).f0.f2) == ((rd_T41 t393 x32_2).f0.f2)))):=by simpa using c54))
                        clear c54
                        have H':=Aside0.mk H
                        clear H
                        have p408 : 0 ≤ (x93_5 : Int):=of_decide_eq_true (by first|(with_reducible assumption)|assumption)
                        have q408 : x93_5 < (y404.length : Int):=of_decide_eq_true (by first|(with_reducible assumption)|assumption)
                        obtain ⟨ad408,e408,hx408_0,hx408_1,hx408_2,hx408_3⟩:=at_T41 HR407.out x93_5 p408 q408
                        obtain rfl : ad396 = ad408:=(by injection e408)
                        (try (replace hx408_0:=(HB.out.cell (World.block_lt_of_cell? w _ hx408_0)).trans hx408_0))
                        (try (replace hx408_1:=(HB.out.cell (World.block_lt_of_cell? w _ hx408_1)).trans hx408_1))
                        (try (replace hx408_2:=(HB.out.cell (World.block_lt_of_cell? w _ hx408_2)).trans hx408_2))
                        (try (replace hx408_3:=(HB.out.cell (World.block_lt_of_cell? w _ hx408_3)).trans hx408_3))
                        replace p408:=eq_true p408
                        replace q408:=eq_true q408
                        go_wp2_with (first|((with_reducible refine gate_dst (N:=11) rfl ?_);refine box_event ?hg (N:=11) ?hd (cs:=#[.string (⟨#[]⟩ : ByteArray),.int .u64 0,.int .u8 0,.string (⟨#[]⟩ : ByteArray)]) (t:=41) ?hr ?_;(case hd => rfl);(case hg => rfl);(case hr => first|(go_simp;done)|(go_simp;rfl));intro gb409 hg w55 hbox hb;have n0_:=Aside0.mk (Kd.R_below (Kd.R_elderB (by (with_reducible repeat (first|apply zA|apply zN|apply zD));exact HO_7.out) gb409 (Nat.le_of_eq hg.symm)) hb);have n1_:=Aside0.mk (Kd.R_below (Kd.R_elderB (by (with_reducible repeat (first|apply zA|apply zN|apply zD));exact HO_30.out) gb409 (Nat.le_of_eq hg.symm)) hb);have n2_:=Aside0.mk (blk_below (g:=gb397) (o:=.cells #[.string ((rd_T41 t393 x32_2).f0.f0),.int .u64 ((rd_T41 t393 x32_2).f0.f1),.int .u8 ((rd_T41 t393 x32_2).f0.f2),.string ((rd_T41 t393 x32_2).f1)] 41 (0,0)) (by (with_reducible repeat (first|refine bN ?_ _|refine bD ?_|refine bA ?_ _));exact BK397.out) hb);have n3_:=Aside0.mk (below_step (by repeat (first|(with_reducible first|exact HB.out|apply below_alloc|apply pw_below_drewN|apply below_drew1|refine below_set ?_ GE397.out)|exact HB.out)) hb);have n4_:=Aside0.mk (hbox);have n5_:=Aside0.mk ((by rw [hg];exact (below_size (by repeat (first|(with_reducible first|exact HB.out|apply below_alloc|apply pw_below_drewN|apply below_drew1|refine below_set ?_ GE397.out)|exact HB.out))) : w.heap.size ≤ gb409));have n6_:=Aside0.mk ((by rw [hg];exact (below_size (by repeat (first|(with_reducible first|exact HB.out|apply below_alloc|apply pw_below_drewN|apply below_drew1|refine below_set ?_ GE397.out)|exact HB.out))) : w.heap.size ≤ gb409));have n7_:=Aside0.mk ((by rw [hg];exact Nat.ne_of_lt (blk_lt (g:=gb397) (o:=.cells #[.string ((rd_T41 t393 x32_2).f0.f0),.int .u64 ((rd_T41 t393 x32_2).f0.f1),.int .u8 ((rd_T41 t393 x32_2).f0.f2),.string ((rd_T41 t393 x32_2).f1)] 41 (0,0)) (by (with_reducible repeat (first|refine bN ?_ _|refine bD ?_|refine bA ?_ _));exact BK397.out)) : gb397 ≠ gb409));have n8_:=Aside0.mk ((by rw [hg];exact Nat.ne_of_gt (blk_lt (g:=gb397) (o:=.cells #[.string ((rd_T41 t393 x32_2).f0.f0),.int .u64 ((rd_T41 t393 x32_2).f0.f1),.int .u8 ((rd_T41 t393 x32_2).f0.f2),.string ((rd_T41 t393 x32_2).f1)] 41 (0,0)) (by (with_reducible repeat (first|refine bN ?_ _|refine bD ?_|refine bA ?_ _));exact BK397.out)) : gb409 ≠ gb397));clear HO_7;clear HO_30;clear BK397;clear HB;have HO_7:=n0_;have HO_30:=n1_;have BK397:=n2_;have HB:=n3_;have BK409:=n4_;have GW409:=n5_;have GE409:=n6_;have NB397_409:=n7_;have NB409_397:=n8_;clear n0_ n1_ n2_ n3_ n4_ n5_ n6_ n7_ n8_;clear hb hbox hg;have hnb56:=NB409_397.out;have hnc56:=NB397_409.out;have hcz57_0 : w55.cell? ⟨gb409,0,none⟩ = some (.string (⟨#[]⟩ : ByteArray)):=(blk_cell BK409.out 0).trans rfl;have hcz57_1 : w55.cell? ⟨gb409,1,none⟩ = some (.int .u64 0):=(blk_cell BK409.out 1).trans rfl;have hcz57_2 : w55.cell? ⟨gb409,2,none⟩ = some (.int .u8 0):=(blk_cell BK409.out 2).trans rfl;have hcz57_3 : w55.cell? ⟨gb409,3,none⟩ = some (.string (⟨#[]⟩ : ByteArray)):=(blk_cell BK409.out 3).trans rfl;have hfz57_0:=blk_frozen BK409.out 0;have hfz57_1:=blk_frozen BK409.out 1;have hfz57_2:=blk_frozen BK409.out 2;have hfz57_3:=blk_frozen BK409.out 3;have hcz58_0 : w55.cell? ⟨gb397,0,none⟩ = some (.string ((rd_T41 t393 x32_2).f0.f0)):=(blk_cell BK397.out 0).trans rfl;have hcz58_1 : w55.cell? ⟨gb397,1,none⟩ = some (.int .u64 ((rd_T41 t393 x32_2).f0.f1)):=(blk_cell BK397.out 1).trans rfl;have hcz58_2 : w55.cell? ⟨gb397,2,none⟩ = some (.int .u8 ((rd_T41 t393 x32_2).f0.f2)):=(blk_cell BK397.out 2).trans rfl;have hcz58_3 : w55.cell? ⟨gb397,3,none⟩ = some (.string ((rd_T41 t393 x32_2).f1)):=(blk_cell BK397.out 3).trans rfl;have hfz58_0:=blk_frozen BK397.out 0;have hfz58_1:=blk_frozen BK397.out 1;have hfz58_2:=blk_frozen BK397.out 2;have hfz58_3:=blk_frozen BK397.out 3))
                        go_roundg k5
                        case measure => have:=HJ3.out;have:=HK2.out;have:=HJ20.out;have:=HJ36.out;have:=HK5.out;omega
                        case rel => exact ⟨(wrap64 (x93_5 + 1)),(by first|rfl|(simp;done)|(simp [*];done)),H',⟨by have:=HJ3.out;have:=HK2.out;have:=HJ20.out;have:=HJ36.out;have:=HK5.out;omega⟩,⟨by (with_reducible repeat (first|apply zA|apply zN|apply zD));exact Kd.R_mono (Kd.R_far (p:=⟨gb409,3,none⟩) (Kd.R_far (p:=⟨gb409,2,none⟩) (Kd.R_far (p:=⟨gb409,1,none⟩) (Kd.R_far (p:=⟨gb409,0,none⟩) (Kd.R_mono HO_7.out (fun k_ hk => (⟨hk,hk.2⟩ : _ ∧ k_ ≠ gb409))) (fun _ hk => hk.2) (.string ((rd_T41 y404 x93_5).f0.f0))) (fun _ hk => hk.2) (.int .u64 ((rd_T41 y404 x93_5).f0.f1))) (fun _ hk => hk.2) (.int .u8 ((rd_T41 y404 x93_5).f0.f2))) (fun _ hk => hk.2) (.string ((rd_T41 y404 x93_5).f1))) (fun _ hk => hk.1.1)⟩,⟨by (with_reducible repeat (first|apply zA|apply zN|apply zD));exact Kd.R_mono (Kd.R_far (p:=⟨gb409,3,none⟩) (Kd.R_far (p:=⟨gb409,2,none⟩) (Kd.R_far (p:=⟨gb409,1,none⟩) (Kd.R_far (p:=⟨gb409,0,none⟩) (Kd.R_mono HO_30.out (fun k_ hk => (⟨hk,hk.2⟩ : _ ∧ k_ ≠ gb409))) (fun _ hk => hk.2) (.string ((rd_T41 y404 x93_5).f0.f0))) (fun _ hk => hk.2) (.int .u64 ((rd_T41 y404 x93_5).f0.f1))) (fun _ hk => hk.2) (.int .u8 ((rd_T41 y404 x93_5).f0.f2))) (fun _ hk => hk.2) (.string ((rd_T41 y404 x93_5).f1))) (fun _ hk => hk.1.1)⟩,⟨by (with_reducible repeat (first|refine bN ?_ _|refine bD ?_|refine bA ?_ _));refine blk_far ?_ NB397_409.out _;(with_reducible repeat (first|refine bN ?_ _|refine bD ?_|refine bA ?_ _));refine blk_far ?_ NB397_409.out _;(with_reducible repeat (first|refine bN ?_ _|refine bD ?_|refine bA ?_ _));refine blk_far ?_ NB397_409.out _;(with_reducible repeat (first|refine bN ?_ _|refine bD ?_|refine bA ?_ _));refine blk_far ?_ NB397_409.out _;(with_reducible repeat (first|refine bN ?_ _|refine bD ?_|refine bA ?_ _));exact BK397.out⟩,⟨by repeat (first|(with_reducible first|exact HB.out|apply below_alloc|apply pw_below_drewN|apply below_drew1|refine below_set ?_ GE397.out|refine below_set ?_ GE409.out)|exact HB.out)⟩⟩
                      ·rw [if_neg c53] at H
                       exact absurd H (by simp)
                     ·rw [if_neg c52] at H
                      exact absurd H (by simp)
                    ·rw [if_neg c51] at H
                     have c51b0 : decide (x93_5 < (y404.length : Int)) = false:=decide_eq_false c51
                     clear c51
                     have H':=Aside0.mk H
                     clear H
                     go_wp2
                     go_roundg k5
                     case measure => have:=HJ3.out;have:=HK2.out;have:=HJ20.out;have:=HJ36.out;have:=HK5.out;omega
                     case rel => exact ⟨(wrap64 (x32_2 + 1)),(by first|rfl|(simp;done)|(simp [*];done)),H',⟨by have:=HJ3.out;have:=HK2.out;have:=HJ20.out;have:=HJ36.out;have:=HK5.out;omega⟩,⟨by (with_reducible repeat (first|apply zA|apply zN|apply zD));exact Kd.R_mono HO_7.out (fun _ hk => trivial)⟩,⟨by (with_reducible repeat (first|apply zA|apply zN|apply zD));exact Kd.R_mono HO_30.out (fun _ hk => trivial)⟩,⟨by repeat (first|(with_reducible first|exact HB.out|apply below_alloc|apply pw_below_drewN|apply below_drew1|refine below_set ?_ GE397.out)|exact HB.out)⟩⟩
                 ·rw [if_neg c49] at H
                  exact absurd H (by simp)
                ·rw [if_neg c48] at H
                 exact absurd H (by simp)
         ·rw [if_neg c20] at H
          exact absurd H (by simp)
        ·rw [if_neg c19] at H
         exact absurd H (by simp)
       ·rw [if_neg c18] at H
        have c18b0 : decide (x32_2 < (t393.length : Int)) = false:=decide_eq_false c18
        clear c18
        obtain ⟨y410,hy410⟩ : ∃ y_ : List (S43),y_ = (([] : List (S43))):=⟨_,rfl⟩
        replace H : (if y410.length + l0.length < 3518437208883 then ((some (y410 ++ l0 : List (S43))).bind fun y413 => (if y413.length + l1.length < 3518437208883 then ((batch_Entries.f k2 (y413 ++ l1) a2).bind fun t419 => ((some (([] : List (S41)) : List (S41))).bind fun y422 => (if y422.length + t393.length < 2932031007402 then ((some (y422 ++ t393 : List (S41))).bind fun y425 => ((batch_Entries.f k2 l1 (IntKind.u64.wrap (a2 + (IntKind.u64.wrap ((l0.length : Int)))))).bind fun t428 => (if y425.length + t428.length < 2932031007402 then ((ratlinelaw04_Entries.f k2 t419 (y425 ++ t428)).bind fun t434 => (if t434 = true then ((ratlinelaw04_awake.f k2).bind fun t435 => (some t435)) else (none))) else (none)))) else (none)))) else (none))) else (none)) = some r:=by first|(rw [hy410];with_reducible exact H)|(have H2_:=(Option.bind_some _ _).symm.trans H;rw [hy410];with_reducible exact H2_)|(have H2_:=(Option.bind_some _ _).symm.trans H;with_reducible exact H2_)|with_reducible exact H|(rw [hy410];exact H)|exact H
        have Ny410:=Aside0.mk hy410
        clear hy410
        by_cases c59 : y410.length + l0.length < 3518437208883
        ·rw [if_pos c59] at H
         have LMc59:=Aside0.mk c59
         clear c59
         obtain ⟨y413,hy413⟩ : ∃ y_ : List (S43),y_ = (y410 ++ l0):=⟨_,rfl⟩
         replace H : (if y413.length + l1.length < 3518437208883 then ((batch_Entries.f k2 (y413 ++ l1) a2).bind fun t419 => ((some (([] : List (S41)) : List (S41))).bind fun y422 => (if y422.length + t393.length < 2932031007402 then ((some (y422 ++ t393 : List (S41))).bind fun y425 => ((batch_Entries.f k2 l1 (IntKind.u64.wrap (a2 + (IntKind.u64.wrap ((l0.length : Int)))))).bind fun t428 => (if y425.length + t428.length < 2932031007402 then ((ratlinelaw04_Entries.f k2 t419 (y425 ++ t428)).bind fun t434 => (if t434 = true then ((ratlinelaw04_awake.f k2).bind fun t435 => (some t435)) else (none))) else (none)))) else (none)))) else (none)) = some r:=by first|(rw [hy413];with_reducible exact H)|(have H2_:=(Option.bind_some _ _).symm.trans H;rw [hy413];with_reducible exact H2_)|(have H2_:=(Option.bind_some _ _).symm.trans H;with_reducible exact H2_)|with_reducible exact H|(rw [hy413];exact H)|exact H
         have Ny413:=Aside0.mk hy413
         clear hy413
         by_cases c60 : y413.length + l1.length < 3518437208883
         ·rw [if_pos c60] at H
          have LMc60:=Aside0.mk c60
          clear c60
          obtain ⟨y416,hy416⟩ : ∃ y_ : List (S43),y_ = (y413 ++ l1):=⟨_,rfl⟩
          replace H : ((batch_Entries.f k2 y416 a2).bind fun t419 => ((some (([] : List (S41)) : List (S41))).bind fun y422 => (if y422.length + t393.length < 2932031007402 then ((some (y422 ++ t393 : List (S41))).bind fun y425 => ((batch_Entries.f k2 l1 (IntKind.u64.wrap (a2 + (IntKind.u64.wrap ((l0.length : Int)))))).bind fun t428 => (if y425.length + t428.length < 2932031007402 then ((ratlinelaw04_Entries.f k2 t419 (y425 ++ t428)).bind fun t434 => (if t434 = true then ((ratlinelaw04_awake.f k2).bind fun t435 => (some t435)) else (none))) else (none)))) else (none)))) = some r:=by first|(rw [hy416];with_reducible exact H)|(have H2_:=(Option.bind_some _ _).symm.trans H;rw [hy416];with_reducible exact H2_)|(have H2_:=(Option.bind_some _ _).symm.trans H;with_reducible exact H2_)|with_reducible exact H|(rw [hy416];exact H)|exact H
          have Ny416:=Aside0.mk hy416
          clear hy416
          replace H:=Option.bind_eq_some_iff.mp H
          obtain ⟨t419,A610,H⟩:=H
          replace H : ((some (([] : List (S41)) : List (S41))).bind fun y422 => (if y422.length + t393.length < 2932031007402 then ((some (y422 ++ t393 : List (S41))).bind fun y425 => ((batch_Entries.f k2 l1 (IntKind.u64.wrap (a2 + (IntKind.u64.wrap ((l0.length : Int)))))).bind fun t428 => (if y425.length + t428.length < 2932031007402 then ((ratlinelaw04_Entries.f k2 t419 (y425 ++ t428)).bind fun t434 => (if t434 = true then ((ratlinelaw04_awake.f k2).bind fun t435 => (some t435)) else (none))) else (none)))) else (none))) = some r:=H
          have A61:=Aside0.mk A610
          clear A610
          obtain ⟨y422,hy422⟩ : ∃ y_ : List (S41),y_ = (([] : List (S41))):=⟨_,rfl⟩
          replace H : (if y422.length + t393.length < 2932031007402 then ((some (y422 ++ t393 : List (S41))).bind fun y425 => ((batch_Entries.f k2 l1 (IntKind.u64.wrap (a2 + (IntKind.u64.wrap ((l0.length : Int)))))).bind fun t428 => (if y425.length + t428.length < 2932031007402 then ((ratlinelaw04_Entries.f k2 t419 (y425 ++ t428)).bind fun t434 => (if t434 = true then ((ratlinelaw04_awake.f k2).bind fun t435 => (some t435)) else (none))) else (none)))) else (none)) = some r:=by first|(rw [hy422];with_reducible exact H)|(have H2_:=(Option.bind_some _ _).symm.trans H;rw [hy422];with_reducible exact H2_)|(have H2_:=(Option.bind_some _ _).symm.trans H;with_reducible exact H2_)|with_reducible exact H|(rw [hy422];exact H)|exact H
          have Ny422:=Aside0.mk hy422
          clear hy422
          by_cases c62 : y422.length + t393.length < 2932031007402
          ·rw [if_pos c62] at H
           have LMc62:=Aside0.mk c62
           clear c62
           obtain ⟨y425,hy425⟩ : ∃ y_ : List (S41),y_ = (y422 ++ t393):=⟨_,rfl⟩
           replace H : ((batch_Entries.f k2 l1 (IntKind.u64.wrap (a2 + (IntKind.u64.wrap ((l0.length : Int)))))).bind fun t428 => (if y425.length + t428.length < 2932031007402 then ((ratlinelaw04_Entries.f k2 t419 (y425 ++ t428)).bind fun t434 => (if t434 = true then ((ratlinelaw04_awake.f k2).bind fun t435 => (some t435)) else (none))) else (none))) = some r:=by first|(rw [hy425];with_reducible exact H)|(have H2_:=(Option.bind_some _ _).symm.trans H;rw [hy425];with_reducible exact H2_)|(have H2_:=(Option.bind_some _ _).symm.trans H;with_reducible exact H2_)|with_reducible exact H|(rw [hy425];exact H)|exact H
           have Ny425:=Aside0.mk hy425
           clear hy425
           replace H:=Option.bind_eq_some_iff.mp H
           obtain ⟨t428,A630,H⟩:=H
           replace H : (if y425.length + t428.length < 2932031007402 then ((ratlinelaw04_Entries.f k2 t419 (y425 ++ t428)).bind fun t434 => (if t434 = true then ((ratlinelaw04_awake.f k2).bind fun t435 => (some t435)) else (none))) else (none)) = some r:=H
           have A63:=Aside0.mk A630
           clear A630
           by_cases c64 : y425.length + t428.length < 2932031007402
           ·rw [if_pos c64] at H
            have LMc64:=Aside0.mk c64
            clear c64
            obtain ⟨y431,hy431⟩ : ∃ y_ : List (S41),y_ = (y425 ++ t428):=⟨_,rfl⟩
            replace H : ((ratlinelaw04_Entries.f k2 t419 y431).bind fun t434 => (if t434 = true then ((ratlinelaw04_awake.f k2).bind fun t435 => (some t435)) else (none))) = some r:=by first|(rw [hy431];with_reducible exact H)|(have H2_:=(Option.bind_some _ _).symm.trans H;rw [hy431];with_reducible exact H2_)|(have H2_:=(Option.bind_some _ _).symm.trans H;with_reducible exact H2_)|with_reducible exact H|(rw [hy431];exact H)|exact H
            have Ny431:=Aside0.mk hy431
            clear hy431
            replace H:=Option.bind_eq_some_iff.mp H
            obtain ⟨t434,A650,H⟩:=H
            replace H : (if t434 = true then ((ratlinelaw04_awake.f k2).bind fun t435 => (some t435)) else (none)) = some r:=H
            have A65:=Aside0.mk A650
            clear A650
            by_cases c66 : t434 = true
            ·subst c66
             have H1 : ((ratlinelaw04_awake.f k2).bind fun t435 => (some t435)) = some r:=by rw [if_pos rfl] at H;exact H
             clear H
             have H:=H1
             clear H1
             replace H:=Option.bind_eq_some_iff.mp H
             obtain ⟨t435,A670,H⟩:=H
             replace H : (some t435) = some r:=H
             have A67:=Aside0.mk A670
             clear A670
             obtain rfl:=Option.some.inj H
             go_wp2_with (first|((with_reducible refine gate_dst (N:=104) rfl ?_);refine Kd.R_lit k43 _ 43 ?hg (N:=104) ?hd (xs:=([] : List (S43))) (inner:=[]) (ok:=fun _ => True) (okp:=fun _ => True) ?hr ?hp (fun _ hk => hk) trivial (Below.refl _ _) (Nat.le_refl _) (by simp) ?_;(case hd => rfl);(case hg => rfl);(case hr => first|(go_simp;done)|(go_simp;rfl));(case hp => exact (Reps.none _ _));intro v411 w68 ho69 hb hg_ hnew_;clear hg_ hnew_;(first|rw [← Ny410.out] at ho69|(simp only [Int.reduceToNat] at ho69;rw [← Ny410.out] at ho69));have n0_:=Aside0.mk (Kd.R_below (by (with_reducible repeat (first|apply zA|apply zN|apply zD));exact HO_7.out) hb);have n1_:=Aside0.mk (Kd.R_below (by (with_reducible repeat (first|apply zA|apply zN|apply zD));exact HO_30.out) hb);have n2_:=Aside0.mk (Kd.R_lower ho69 (below_size (by repeat (first|(with_reducible first|exact HB.out|apply below_alloc|apply pw_below_drewN|apply below_drew1)|exact HB.out))));have n3_:=Aside0.mk (below_step (by repeat (first|(with_reducible first|exact HB.out|apply below_alloc|apply pw_below_drewN|apply below_drew1)|exact HB.out)) hb);clear HO_7;clear HO_30;clear HB;have HO_7:=n0_;have HO_30:=n1_;have HO412:=n2_;have HB:=n3_;clear n0_ n1_ n2_ n3_;clear hb ho69)|((with_reducible refine gate_builtin (b:=.append) (xs:=#[.tmp 104,.tmp 105]) rfl ?_);at_builtin;refine Kd.R_append_rows k43 (w0:=w) w.heap.size rfl (.tmp 104) (.tmp 105) 22 43 (.agg #[(.int .u8 0),(.string ⟨#[]⟩),(.string ⟨#[]⟩)]) 40 rfl Try.underlying22 info43 rfl (by decide) (by omega) v411 y410 l0 _ _ _ (fun _ => True) (fun _ => False) rfl rfl ?aO ?aR (fun _ _ h => h) (fun _ h => h.elim) ?aF ?aB ?aS ?aL ?_;(case aR => repeat (first|exact (Kd.C_below HR0.out HB.out)|(with_reducible refine Kd.C_alloc ?_ _)|(with_reducible refine Kd.C_drewN ?_ _)|(with_reducible refine Kd.C_drew ?_)));(case aB => exact (by repeat (first|(with_reducible first|exact HB.out|apply below_alloc|apply pw_below_drewN|apply below_drew1)|exact HB.out)));(case aF => exact (fun _ _ => trivial));(case aO => exact (by (with_reducible repeat (first|apply zA|apply zN|apply zD));exact HO412.out));(case aS => exact (below_size (by repeat (first|(with_reducible first|exact HB.out|apply below_alloc|apply pw_below_drewN|apply below_drew1)|exact HB.out))));(case aL => have:=LMc59.out;omega);intro v414 w70 ho hb hg hat;rw [← Ny413.out] at ho;have n0_:=Aside0.mk (Kd.R_over' (by (with_reducible repeat (first|apply zA|apply zN|apply zD));exact HO_7.out) (Kd.R_typed (by (with_reducible repeat (first|apply zA|apply zN|apply zD));exact HO412.out)) (by decide) hg);have n1_:=Aside0.mk (Kd.R_over' (by (with_reducible repeat (first|apply zA|apply zN|apply zD));exact HO_30.out) (Kd.R_typed (by (with_reducible repeat (first|apply zA|apply zN|apply zD));exact HO412.out)) (by decide) hg);have n2_:=Aside0.mk (hb);have n3_:=Aside0.mk (ho);clear HO_7;clear HO_30;clear HB;clear HO412;have HO_7:=n0_;have HO_30:=n1_;have HB:=n2_;have HO415:=n3_;clear n0_ n1_ n2_ n3_;clear ho hb hg hat)|((with_reducible refine gate_builtin (b:=.append) (xs:=#[.tmp 106,.tmp 107]) rfl ?_);at_builtin;refine Kd.R_append_rows k43 (w0:=w) w.heap.size rfl (.tmp 106) (.tmp 107) 22 43 (.agg #[(.int .u8 0),(.string ⟨#[]⟩),(.string ⟨#[]⟩)]) 40 rfl Try.underlying22 info43 rfl (by decide) (by omega) v414 y413 l1 _ _ _ (fun _ => True) (fun _ => False) rfl rfl ?aO ?aR (fun _ _ h => h) (fun _ h => h.elim) ?aF ?aB ?aS ?aL ?_;(case aR => repeat (first|exact (Kd.C_below HR1.out HB.out)|(with_reducible refine Kd.C_alloc ?_ _)|(with_reducible refine Kd.C_drewN ?_ _)|(with_reducible refine Kd.C_drew ?_)));(case aB => exact (by repeat (first|(with_reducible first|exact HB.out|apply below_alloc|apply pw_below_drewN|apply below_drew1)|exact HB.out)));(case aF => exact (fun _ _ => trivial));(case aO => exact (by (with_reducible repeat (first|apply zA|apply zN|apply zD));exact HO415.out));(case aS => exact (below_size (by repeat (first|(with_reducible first|exact HB.out|apply below_alloc|apply pw_below_drewN|apply below_drew1)|exact HB.out))));(case aL => have:=LMc60.out;omega);intro v417 w71 ho hb hg hat;rw [← Ny416.out] at ho;have n0_:=Aside0.mk (Kd.R_over' (by (with_reducible repeat (first|apply zA|apply zN|apply zD));exact HO_7.out) (Kd.R_typed (by (with_reducible repeat (first|apply zA|apply zN|apply zD));exact HO415.out)) (by decide) hg);have n1_:=Aside0.mk (Kd.R_over' (by (with_reducible repeat (first|apply zA|apply zN|apply zD));exact HO_30.out) (Kd.R_typed (by (with_reducible repeat (first|apply zA|apply zN|apply zD));exact HO415.out)) (by decide) hg);have n2_:=Aside0.mk (hb);have n3_:=Aside0.mk (ho);clear HO_7;clear HO_30;clear HB;clear HO415;have HO_7:=n0_;have HO_30:=n1_;have HB:=n2_;have HO418:=n3_;clear n0_ n1_ n2_ n3_;clear ho hb hg hat;obtain ⟨Ao72,co72,eo72⟩:=Kd.R_slice HO418.out;subst eo72)|((with_reducible refine gate_callee (f:=20) rfl ?_);refine goesL_ (some 110) rfl rfl Try.func20 (by kernel_rfl) rfl #[.slice Ao72 y416.length co72,.int .u64 a2] rfl (by (try simp only [List.map_toArray,List.map_cons,List.map_nil]);first|done|rfl|(simp only [List.length_drop,List.length_take];rfl)) ?_;(with_reducible refine (batch_Entries.calls k2 _ _ y416 a2 t419 _ ?side1 ?side2 A61.out).mono ?_);(case side1 => repeat (first|exact (Kd.R_reads' HO418.out).2.2|(with_reducible refine Kd.C_alloc ?_ _)|(with_reducible refine Kd.C_drewN ?_ _)|(with_reducible refine Kd.C_drew ?_)));(case side2 => exact (Kd.R_reads' HO418.out).2.1);rintro e w73 ⟨v420,rfl,ho0,hb⟩;refine ⟨_,rfl,?_⟩;have n0_:=Aside0.mk (Kd.R_elder' (by (with_reducible repeat (first|apply zA|apply zN|apply zD));exact HO_7.out) (Kd.R_base ho0) hb);have n1_:=Aside0.mk (Kd.R_elder' (by (with_reducible repeat (first|apply zA|apply zN|apply zD));exact HO_30.out) (Kd.R_base ho0) hb);have n2_:=Aside0.mk (Kd.R_below (by (with_reducible repeat (first|apply zA|apply zN|apply zD));exact HO418.out) hb);have n3_:=Aside0.mk (Kd.R_lower (Kd.R_new' (Kd.R_new' ho0 (Kd.R_lt (by (with_reducible repeat (first|apply zA|apply zN|apply zD));exact HO_7.out))) (Kd.R_lt (by (with_reducible repeat (first|apply zA|apply zN|apply zD));exact HO_30.out))) (below_size (by repeat (first|(with_reducible first|exact HB.out|apply below_alloc|apply pw_below_drewN|apply below_drew1)|exact HB.out))));have n4_:=Aside0.mk (below_step (by repeat (first|(with_reducible first|exact HB.out|apply below_alloc|apply pw_below_drewN|apply below_drew1)|exact HB.out)) hb);clear HO_7;clear HO_30;clear HO418;clear HB;have HO_7:=n0_;have HO_30:=n1_;have HO418:=n2_;have HO421:=n3_;have HB:=n4_;clear n0_ n1_ n2_ n3_ n4_;(try clear hb);(try clear hb2);(try clear hk);(try clear hi);(try clear ho0))|((with_reducible refine gate_dst (N:=112) rfl ?_);refine Kd.R_lit k41 _ 41 ?hg (N:=112) ?hd (xs:=([] : List (S41))) (inner:=[]) (ok:=fun _ => True) (okp:=fun _ => True) ?hr ?hp (fun _ hk => hk) trivial (Below.refl _ _) (Nat.le_refl _) (by simp) ?_;(case hd => rfl);(case hg => rfl);(case hr => first|(go_simp;done)|(go_simp;rfl));(case hp => exact (Reps.none _ _));intro v423 w74 ho75 hb hg_ hnew_;clear hg_ hnew_;(first|rw [← Ny422.out] at ho75|(simp only [Int.reduceToNat] at ho75;rw [← Ny422.out] at ho75));have n0_:=Aside0.mk (Kd.R_elder' (by (with_reducible repeat (first|apply zA|apply zN|apply zD));exact HO_7.out) (Kd.R_base ho75) hb);have n1_:=Aside0.mk (Kd.R_elder' (by (with_reducible repeat (first|apply zA|apply zN|apply zD));exact HO_30.out) (Kd.R_base ho75) hb);have n2_:=Aside0.mk (Kd.R_below (by (with_reducible repeat (first|apply zA|apply zN|apply zD));exact HO418.out) hb);have n3_:=Aside0.mk (Kd.R_elder' (by (with_reducible repeat (first|apply zA|apply zN|apply zD));exact HO421.out) (Kd.R_base ho75) hb);have n4_:=Aside0.mk (Kd.R_lower (Kd.R_new' (Kd.R_new' (Kd.R_new' ho75 (Kd.R_lt (by (with_reducible repeat (first|apply zA|apply zN|apply zD));exact HO_7.out))) (Kd.R_lt (by (with_reducible repeat (first|apply zA|apply zN|apply zD));exact HO_30.out))) (Kd.R_lt (by (with_reducible repeat (first|apply zA|apply zN|apply zD));exact HO421.out))) (below_size (by repeat (first|(with_reducible first|exact HB.out|apply below_alloc|apply pw_below_drewN|apply below_drew1)|exact HB.out))));have n5_:=Aside0.mk (below_step (by repeat (first|(with_reducible first|exact HB.out|apply below_alloc|apply pw_below_drewN|apply below_drew1)|exact HB.out)) hb);clear HO_7;clear HO_30;clear HO418;clear HO421;clear HB;have HO_7:=n0_;have HO_30:=n1_;have HO418:=n2_;have HO421:=n3_;have HO424:=n4_;have HB:=n5_;clear n0_ n1_ n2_ n3_ n4_ n5_;clear hb ho75)|((with_reducible refine gate_builtin (b:=.append) (xs:=#[.tmp 112,.tmp 113]) rfl ?_);at_builtin;refine Kd.R_append_rows k41 (w0:=w) w.heap.size rfl (.tmp 112) (.tmp 113) 36 41 (.agg #[(.string ⟨#[]⟩),(.int .u64 0),(.int .u8 0),(.string ⟨#[]⟩)]) 48 rfl Try.underlying36 info41 rfl (by decide) (by omega) v423 y422 t393 _ _ _ (fun k_ => nB k_ Ao17 t393.length co17 ∧ nB k_ Ao17 t393.length co17 ∧ some k_ ≠ (v420 : Value).ownBlock) (fun _ => False) rfl rfl ?aO ?aR (fun _ _ h => h) (fun _ h => h.elim) ?aF ?aB ?aS ?aL ?_;(case aR => repeat (first|exact (Kd.R_reads' HO_7.out).2.2|(with_reducible refine Kd.C_alloc ?_ _)|(with_reducible refine Kd.C_drewN ?_ _)|(with_reducible refine Kd.C_drew ?_)));(case aB => exact (by repeat (first|(with_reducible first|exact HB.out|apply below_alloc|apply pw_below_drewN|apply below_drew1)|exact HB.out)));(case aF => exact (fun k_ hk => ⟨Kd.fresh' (Kd.R_lt (by (with_reducible repeat (first|apply zA|apply zN|apply zD));exact HO_7.out)) k_ hk,Kd.fresh' (Kd.R_lt (by (with_reducible repeat (first|apply zA|apply zN|apply zD));exact HO_30.out)) k_ hk,Kd.fresh' (Kd.R_lt (by (with_reducible repeat (first|apply zA|apply zN|apply zD));exact HO421.out)) k_ hk⟩));(case aO => exact (by (with_reducible repeat (first|apply zA|apply zN|apply zD));exact Kd.R_mono HO424.out (fun _ hk => ⟨hk.1.1.2,⟨hk.1.2,hk.2⟩⟩)));(case aS => exact (below_size (by repeat (first|(with_reducible first|exact HB.out|apply below_alloc|apply pw_below_drewN|apply below_drew1)|exact HB.out))));(case aL => have:=LMc62.out;omega);intro v426 w76 ho hb hg hat;rw [← Ny425.out] at ho;have n0_:=Aside0.mk (Kd.R_after (ok:=(fun k_ => some k_ ≠ (v420 : Value).ownBlock)) (by (with_reducible repeat (first|apply zA|apply zN|apply zD));exact Kd.R_mono HO_7.out (fun _ hk => ⟨hk.1.2,hk.2⟩)) hg hat);have n1_:=Aside0.mk (Kd.R_after (ok:=(fun k_ => some k_ ≠ (v420 : Value).ownBlock)) (by (with_reducible repeat (first|apply zA|apply zN|apply zD));exact Kd.R_mono HO_30.out (fun _ hk => ⟨hk.1.2,hk.2⟩)) hg hat);have n2_:=Aside0.mk (Kd.R_over' (by (with_reducible repeat (first|apply zA|apply zN|apply zD));exact HO418.out) (Kd.R_typed (by (with_reducible repeat (first|apply zA|apply zN|apply zD));exact HO424.out)) (by decide) hg);have n3_:=Aside0.mk (Kd.R_after (ok:=(fun k_ => nB k_ Ao17 t393.length co17 ∧ nB k_ Ao17 t393.length co17)) (by (with_reducible repeat (first|apply zA|apply zN|apply zD));exact Kd.R_mono HO421.out (fun _ hk => ⟨⟨hk.1.1.2,hk.1.2⟩,hk.2⟩)) hg hat);have n4_:=Aside0.mk (hb);have n5_:=Aside0.mk (ho);clear HO_7;clear HO_30;clear HO418;clear HO421;clear HB;clear HO424;have HO_7:=n0_;have HO_30:=n1_;have HO418:=n2_;have HO421:=n3_;have HB:=n4_;have HO427:=n5_;clear n0_ n1_ n2_ n3_ n4_ n5_;clear ho hb hg hat)|((with_reducible refine gate_callee (f:=20) rfl ?_);refine goesL_ (some 121) rfl rfl Try.func20 (by kernel_rfl) rfl #[.slice A1 l1.length c1,.int .u64 (IntKind.u64.wrap (a2 + (IntKind.u64.wrap ((l0.length : Int)))))] rfl (by (try simp only [List.map_toArray,List.map_cons,List.map_nil]);first|done|rfl|(simp only [List.length_drop,List.length_take];rfl)) ?_;(with_reducible refine (batch_Entries.calls k2 _ _ l1 (IntKind.u64.wrap (a2 + (IntKind.u64.wrap ((l0.length : Int))))) t428 _ ?side1 ?side2 A63.out).mono ?_);(case side1 => repeat (first|exact (Kd.C_below HR1.out HB.out)|(with_reducible refine Kd.C_alloc ?_ _)|(with_reducible refine Kd.C_drewN ?_ _)|(with_reducible refine Kd.C_drew ?_)));(case side2 => exact HC1.out);rintro e w77 ⟨v429,rfl,ho0,hb⟩;refine ⟨_,rfl,?_⟩;have n0_:=Aside0.mk (Kd.R_elder' (by (with_reducible repeat (first|apply zA|apply zN|apply zD));exact HO_7.out) (Kd.R_base ho0) hb);have n1_:=Aside0.mk (Kd.R_elder' (by (with_reducible repeat (first|apply zA|apply zN|apply zD));exact HO_30.out) (Kd.R_base ho0) hb);have n2_:=Aside0.mk (Kd.R_below (by (with_reducible repeat (first|apply zA|apply zN|apply zD));exact HO418.out) hb);have n3_:=Aside0.mk (Kd.R_elder' (by (with_reducible repeat (first|apply zA|apply zN|apply zD));exact HO421.out) (Kd.R_base ho0) hb);have n4_:=Aside0.mk (Kd.R_elder' (by (with_reducible repeat (first|apply zA|apply zN|apply zD));exact HO427.out) (Kd.R_base ho0) hb);have n5_:=Aside0.mk (Kd.R_lower (Kd.R_new' (Kd.R_new' (Kd.R_new' (Kd.R_new' ho0 (Kd.R_lt (by (with_reducible repeat (first|apply zA|apply zN|apply zD));exact HO_7.out))) (Kd.R_lt (by (with_reducible repeat (first|apply zA|apply zN|apply zD));exact HO_30.out))) (Kd.R_lt (by (with_reducible repeat (first|apply zA|apply zN|apply zD));exact HO421.out))) (Kd.R_lt (by (with_reducible repeat (first|apply zA|apply zN|apply zD));exact HO427.out))) (below_size (by repeat (first|(with_reducible first|exact HB.out|apply below_alloc|apply pw_below_drewN|apply below_drew1)|exact HB.out))));have n6_:=Aside0.mk (below_step (by repeat (first|(with_reducible first|exact HB.out|apply below_alloc|apply pw_below_drewN|apply below_drew1)|exact HB.out)) hb);clear HO_7;clear HO_30;clear HO418;clear HO421;clear HO427;clear HB;have HO_7:=n0_;have HO_30:=n1_;have HO418:=n2_;have HO421:=n3_;have HO427:=n4_;have HO430:=n5_;have HB:=n6_;clear n0_ n1_ n2_ n3_ n4_ n5_ n6_;(try clear hb);(try clear hb2);(try clear hk);(try clear hi);(try clear ho0);obtain ⟨Ao79,co79,eo79⟩:=Kd.R_slice HO430.out;subst eo79)|((with_reducible refine gate_builtin (b:=.append) (xs:=#[.tmp 114,.tmp 121]) rfl ?_);at_builtin;refine Kd.R_append_rows k41 (w0:=w) w.heap.size rfl (.tmp 114) (.tmp 121) 36 41 (.agg #[(.string ⟨#[]⟩),(.int .u64 0),(.int .u8 0),(.string ⟨#[]⟩)]) 48 rfl Try.underlying36 info41 rfl (by decide) (by omega) v426 y425 t428 _ _ _ (fun k_ => nB k_ Ao17 t393.length co17 ∧ nB k_ Ao17 t393.length co17 ∧ some k_ ≠ (v420 : Value).ownBlock ∧ nB k_ Ao79 t428.length co79) (fun _ => False) rfl rfl ?aO ?aR (fun _ _ h => h) (fun _ h => h.elim) ?aF ?aB ?aS ?aL ?_;(case aR => repeat (first|exact (Kd.R_reads' HO430.out).2.2|(with_reducible refine Kd.C_alloc ?_ _)|(with_reducible refine Kd.C_drewN ?_ _)|(with_reducible refine Kd.C_drew ?_)));(case aB => exact (by repeat (first|(with_reducible first|exact HB.out|apply below_alloc|apply pw_below_drewN|apply below_drew1)|exact HB.out)));(case aF => exact (fun k_ hk => ⟨Kd.fresh' (Kd.R_lt (by (with_reducible repeat (first|apply zA|apply zN|apply zD));exact HO_7.out)) k_ hk,Kd.fresh' (Kd.R_lt (by (with_reducible repeat (first|apply zA|apply zN|apply zD));exact HO_30.out)) k_ hk,Kd.fresh' (Kd.R_lt (by (with_reducible repeat (first|apply zA|apply zN|apply zD));exact HO421.out)) k_ hk,Kd.fresh' (Kd.R_lt (by (with_reducible repeat (first|apply zA|apply zN|apply zD));exact HO430.out)) k_ hk⟩));(case aO => exact (by (with_reducible repeat (first|apply zA|apply zN|apply zD));exact Kd.R_mono HO427.out (fun _ hk => ⟨hk.1.1,⟨hk.1.2.1,⟨hk.1.2.2,hk.2⟩⟩⟩)));(case aS => exact (below_size (by repeat (first|(with_reducible first|exact HB.out|apply below_alloc|apply pw_below_drewN|apply below_drew1)|exact HB.out))));(case aL => have:=LMc64.out;omega);intro v432 w78 ho hb hg hat;rw [← Ny431.out] at ho;have n0_:=Aside0.mk (Kd.R_after (ok:=(fun k_ => some k_ ≠ (v420 : Value).ownBlock ∧ nB k_ Ao79 t428.length co79)) (by (with_reducible repeat (first|apply zA|apply zN|apply zD));exact Kd.R_mono HO_7.out (fun _ hk => ⟨⟨hk.1.1,hk.2⟩,hk.1.2⟩)) hg hat);have n1_:=Aside0.mk (Kd.R_after (ok:=(fun k_ => some k_ ≠ (v420 : Value).ownBlock ∧ nB k_ Ao79 t428.length co79)) (by (with_reducible repeat (first|apply zA|apply zN|apply zD));exact Kd.R_mono HO_30.out (fun _ hk => ⟨⟨hk.1.1,hk.2⟩,hk.1.2⟩)) hg hat);have n2_:=Aside0.mk (Kd.R_over' (by (with_reducible repeat (first|apply zA|apply zN|apply zD));exact HO418.out) (Kd.R_typed (by (with_reducible repeat (first|apply zA|apply zN|apply zD));exact HO427.out)) (by decide) hg);have n3_:=Aside0.mk (Kd.R_after (ok:=(fun k_ => nB k_ Ao17 t393.length co17 ∧ nB k_ Ao17 t393.length co17 ∧ nB k_ Ao79 t428.length co79)) (by (with_reducible repeat (first|apply zA|apply zN|apply zD));exact Kd.R_mono HO421.out (fun _ hk => ⟨⟨hk.1.1.1,⟨hk.1.1.2,hk.2⟩⟩,hk.1.2⟩)) hg hat);have n4_:=Aside0.mk (Kd.R_after (ok:=(fun k_ => nB k_ Ao17 t393.length co17 ∧ nB k_ Ao17 t393.length co17 ∧ some k_ ≠ (v420 : Value).ownBlock)) (by (with_reducible repeat (first|apply zA|apply zN|apply zD));exact Kd.R_mono HO430.out (fun _ hk => ⟨⟨hk.1.1.1.2,⟨hk.1.1.2,hk.1.2⟩⟩,hk.2⟩)) hg hat);have n5_:=Aside0.mk (hb);have n6_:=Aside0.mk (ho);clear HO_7;clear HO_30;clear HO418;clear HO421;clear HO430;clear HB;clear HO427;have HO_7:=n0_;have HO_30:=n1_;have HO418:=n2_;have HO421:=n3_;have HO430:=n4_;have HB:=n5_;have HO433:=n6_;clear n0_ n1_ n2_ n3_ n4_ n5_ n6_;clear ho hb hg hat;obtain ⟨Ao80,co80,eo80⟩:=Kd.R_slice HO421.out;subst eo80;obtain ⟨Ao81,co81,eo81⟩:=Kd.R_slice HO433.out;subst eo81)|((with_reducible refine gate_callee (f:=23) rfl ?_);refine goesL_ (some 123) rfl rfl Try.func23 (by kernel_rfl) rfl #[.slice Ao80 t419.length co80,.slice Ao81 y431.length co81] rfl (by (try simp only [List.map_toArray,List.map_cons,List.map_nil]);first|done|rfl|(simp only [List.length_drop,List.length_take];rfl)) ?_;(with_reducible refine (ratlinelaw04_Entries.calls k2 _ _ t419 _ _ y431 true _ ?side1 ?side2 ?side3 ?side4 A65.out).mono ?_);(case side1 => repeat (first|exact (Kd.R_reads' HO421.out).2.2|(with_reducible refine Kd.C_alloc ?_ _)|(with_reducible refine Kd.C_drewN ?_ _)|(with_reducible refine Kd.C_drew ?_)));(case side2 => exact (Kd.R_reads' HO421.out).2.1);(case side3 => repeat (first|exact (Kd.R_reads' HO433.out).2.2|(with_reducible refine Kd.C_alloc ?_ _)|(with_reducible refine Kd.C_drewN ?_ _)|(with_reducible refine Kd.C_drew ?_)));(case side4 => exact (Kd.R_reads' HO433.out).2.1);rintro e w' ⟨rfl,⟨nd,rfl⟩⟩;refine ⟨_,rfl,?_⟩)|(go_at_call 14;(with_reducible refine (ratlinelaw04_awake.calls k2  t435 _ A67.out).mono ?_);rintro e w82 ⟨rfl,hb⟩;have n0_:=Aside0.mk (Kd.R_below (by (with_reducible repeat (first|apply zA|apply zN|apply zD));exact HO_7.out) hb);have n1_:=Aside0.mk (Kd.R_below (by (with_reducible repeat (first|apply zA|apply zN|apply zD));exact HO_30.out) hb);have n2_:=Aside0.mk (Kd.R_below (by (with_reducible repeat (first|apply zA|apply zN|apply zD));exact HO418.out) hb);have n3_:=Aside0.mk (Kd.R_below (by (with_reducible repeat (first|apply zA|apply zN|apply zD));exact HO421.out) hb);have n4_:=Aside0.mk (Kd.R_below (by (with_reducible repeat (first|apply zA|apply zN|apply zD));exact HO430.out) hb);have n5_:=Aside0.mk (Kd.R_below (by (with_reducible repeat (first|apply zA|apply zN|apply zD));exact HO433.out) hb);have n6_:=Aside0.mk (below_step (by repeat (first|(with_reducible first|exact HB.out|apply below_alloc|apply pw_below_drewN|apply below_drew1)|exact HB.out)) hb);clear HO_7;clear HO_30;clear HO418;clear HO421;clear HO430;clear HO433;clear HB;have HO_7:=n0_;have HO_30:=n1_;have HO418:=n2_;have HO421:=n3_;have HO430:=n4_;have HO433:=n5_;have HB:=n6_;clear n0_ n1_ n2_ n3_ n4_ n5_ n6_;(try clear hb);(try clear hb2);(try clear hk);(try clear hi)))
             go_ret
             exact ⟨by first|rfl|(simp [errW_none,errW_some] <;> rfl)|(simp [*,errW_none,errW_some] <;> rfl),by repeat (first|(with_reducible first|exact HB.out|apply below_alloc|apply pw_below_drewN|apply below_drew1)|exact HB.out)⟩
            ·replace c66:=Bool.eq_false_iff.mpr c66
             subst c66
             have H1 : (none) = some r:=by rw [if_neg (show ¬ (false = true) by decide)] at H;exact H
             clear H
             have H:=H1
             clear H1
             exact absurd H (by simp)
           ·rw [if_neg c64] at H
            exact absurd H (by simp)
          ·rw [if_neg c62] at H
           exact absurd H (by simp)
         ·rw [if_neg c60] at H
          exact absurd H (by simp)
        ·rw [if_neg c59] at H
         exact absurd H (by simp)
    ·rw [if_neg c15] at H
     exact absurd H (by simp)

end Go.Proofs.Ytlaihdipagejfaa.P

end

section
set_option linter.unusedVariables false
namespace Go.Proofs.YtlaihdipagejfaaL
open Go Go.RowKit Go.Proofs.YtlaihdipagejfaaG Go.Proofs.YtlaihdipagejfaaW.PrintWords

theorem bind1 {α δ : Type} {o : Option α} {a : α} {f : α → Option δ} {r : Option δ} (h : o = some a) (k : f a = r) : o.bind f = r := by
  rw [h]
  exact k
/-- Bytes. -/
def By (l : List Int) : Prop := ∀ c ∈ l, 0 ≤ c ∧ c < 256
theorem By.nil : By [] := fun c h => by cases h
theorem By.cons {c : Int} {l : List Int} (h0 : 0 ≤ c) (h1 : c < 256) (h : By l) : By (c :: l) := fun d hd => by
  rcases List.mem_cons.1 hd with rfl | hd
  · exact ⟨h0, h1⟩
  · exact h d hd
theorem By.append {a b : List Int} (ha : By a) (hb : By b) : By (a ++ b) := fun c h => (List.mem_append.1 h).elim (ha c) (hb c)
theorem By.right {a b : List Int} (h : By (a ++ b)) : By b := fun c hc => h c (List.mem_append_right _ hc)
theorem By.take {l : List Int} (h : By l) (n : Nat) : By (l.take n) := fun c hc => h c (List.mem_of_mem_take hc)
theorem By.drop {l : List Int} (h : By l) (n : Nat) : By (l.drop n) := fun c hc => h c (List.mem_of_mem_drop hc)
theorem By.tail {c : Int} {l : List Int} (h : By (c :: l)) : By l := fun d hd => h d (List.mem_cons_of_mem _ hd)
theorem By.head {c : Int} {l : List Int} (h : By (c :: l)) : 0 ≤ c ∧ c < 256 := h c (List.mem_cons_self ..)
theorem vint_small {x : Nat} (h : ¬ 127 < x) : vint x = [(x : Int)] := by rw [vint, dif_neg h]
theorem vint_big {x : Nat} (h : 127 < x) : vint x = ((x % 128 + 128 : Nat) : Int) :: vint (x / 128) := by rw [vint, dif_pos h]
theorem vint_pos (x : Nat) : 0 < (vint x).length := by
  by_cases h : 127 < x
  · rw [vint_big h]; simp
  · rw [vint_small h]; simp
theorem vint_by (x : Nat) : By (vint x) := by
  induction x using Nat.strongRecOn with
  | ind x ih =>
    by_cases h : 127 < x
    · rw [vint_big h]
      exact .cons (by omega) (by omega) (ih _ (by omega))
    · rw [vint_small h]
      exact .cons (by omega) (by omega) .nil
theorem val7_vint (x : Nat) : val7 (vint x) = x := by
  induction x using Nat.strongRecOn with
  | ind x ih =>
    by_cases h : 127 < x
    · rw [vint_big h, val7, ih _ (by omega)]; omega
    · rw [vint_small h, val7, val7]; omega
theorem vint_inj {x y : Nat} (h : vint x = vint y) : x = y := by rw [← val7_vint x, h, val7_vint]
theorem findIdx_vint (x : Nat) (rest : List Int) : (vint x ++ rest).findIdx (· < 128) = (vint x).length - 1 := by
  induction x using Nat.strongRecOn with
  | ind x ih =>
    by_cases h : 127 < x
    · have hp := vint_pos (x / 128)
      rw [vint_big h, List.cons_append, List.findIdx_cons, ih _ (by omega)]
      have : decide ((((x % 128 + 128 : Nat) : Int)) < 128) = false := decide_eq_false (by omega)
      rw [this]
      simp only [cond_false, List.length_cons]
      omega
    · rw [vint_small h, List.cons_append, List.findIdx_cons]
      have : decide ((x : Int) < 128) = true := decide_eq_true (by omega)
      rw [this]
      simp
theorem vint_last (x : Nat) (rest : List Int) (hx : 0 < x) : (vint x ++ rest).getD ((vint x).length - 1) 0 ≠ 0 := by
  induction x using Nat.strongRecOn with
  | ind x ih =>
    by_cases h : 127 < x
    · have hp := vint_pos (x / 128)
      have := ih (x / 128) (by omega) (by omega)
      rw [vint_big h, List.cons_append, List.length_cons]
      obtain ⟨m, hm⟩ : ∃ m, (vint (x / 128)).length = m + 1 := ⟨_, (Nat.succ_pred_eq_of_pos hp).symm⟩
      rw [hm] at this ⊢
      simpa using this
    · rw [vint_small h]; simp; omega
theorem vint_top (m : Nat) (hm : m ≤ 128) (rest : List Int) : ∀ n x, x < 128 ^ n * m → (vint x).length = n + 1 → (vint x ++ rest).getD n 0 < m := by
  intro n
  induction n with
  | zero =>
    intro x hx hl
    have h : ¬ 127 < x := by simp at hx; omega
    rw [vint_small h]
    simp at hx ⊢
    omega
  | succ n ih =>
    intro x hx hl
    by_cases h : 127 < x
    · rw [vint_big h] at hl ⊢
      have hl' : (vint (x / 128)).length = n + 1 := by simpa using hl
      have := ih (x / 128) (by rw [Nat.pow_succ] at hx; rw [Nat.div_lt_iff_lt_mul (by omega)]; calc x < 128 ^ n * 128 * m := hx
        _ = 128 ^ n * m * 128 := by rw [Nat.mul_assoc, Nat.mul_comm 128 m, ← Nat.mul_assoc]) hl'
      simpa using this
    · rw [vint_small h] at hl
      simp at hl
theorem takeOk_vint (x : Nat) (rest : List Int) (hx : x < 18446744073709551616) : takeOk (vint x ++ rest) = true := by
  have hp := vint_pos x
  have hl := vint_len10 hx
  unfold takeOk
  rw [findIdx_vint]
  have h1 : (vint x).length - 1 < (vint x ++ rest).length := by rw [List.length_append]; omega
  have h3 : ¬ (0 < (vint x).length - 1 ∧ (vint x ++ rest).getD ((vint x).length - 1) 0 = 0) := by
    rintro ⟨h0, h⟩
    refine vint_last x rest ?_ h
    rcases Nat.eq_zero_or_pos x with rfl | h'
    · rw [vint_small (by omega)] at h0; simp at h0
    · exact h'
  have h4 : ¬ ((vint x).length - 1 = 9 ∧ 1 < (vint x ++ rest).getD 9 0) := by
    rintro ⟨h0, h⟩
    have := vint_top 2 (by omega) rest 9 x (by have : (128 : Nat) ^ 9 * 2 = 18446744073709551616 := by decide
                                               omega) (by omega)
    omega
  simp only [h1, decide_true, Bool.true_and, Bool.and_eq_true, Bool.not_eq_true', Bool.and_eq_false_iff, decide_eq_false_iff_not, decide_eq_true_eq]
  refine ⟨⟨by omega, ?_⟩, ?_⟩
  · by_cases h0 : 0 < (vint x).length - 1
    · exact .inr (fun h => h3 ⟨h0, h⟩)
    · exact .inl h0
  · by_cases h0 : (vint x).length - 1 = 9
    · exact .inr (fun h => h4 ⟨h0, h⟩)
    · exact .inl h0

/-- What is put is taken. -/
theorem take_vint (x : Nat) (rest : List Int) (hx : x < 18446744073709551616) (hr : By rest) (hl : rest.length + 10 < 140737488355328) :
    nums_Take.f (vint x ++ rest) = some ((x : Int), rest, true) := by
  have hp := vint_pos x
  have hl10 := vint_len10 hx
  unfold nums_Take.f
  rw [if_pos ⟨(vint_by x).append hr, by rw [List.length_append]; omega⟩, if_pos (takeOk_vint x rest hx), findIdx_vint]
  have e : (vint x).length - 1 + 1 = (vint x).length := by omega
  rw [e, List.take_left, List.drop_left, val7_vint]

theorem val7_pos : ∀ (l : List Int) (i : Nat), By l → l.findIdx (· < 128) = i → i < l.length → l.getD i 0 ≠ 0 → 0 < val7 (l.take (i + 1))
  | [], i, _, _, hl, _ => by simp at hl
  | c :: cs, i, hb, hi, hl, h0 => by
    have hc := hb.head
    rw [List.findIdx_cons] at hi
    by_cases h : c < 128
    · rw [decide_eq_true h] at hi
      simp at hi
      subst hi
      simp at h0
      simp [val7]
      omega
    · rw [decide_eq_false h] at hi
      simp at hi
      subst hi
      have := val7_pos cs _ hb.tail rfl (by simpa using hl) (by simpa using h0)
      rw [List.take_succ_cons, val7]
      omega
theorem vint_back : ∀ (l : List Int) (i : Nat), By l → l.findIdx (· < 128) = i → i < l.length → (0 < i → l.getD i 0 ≠ 0) → vint (val7 (l.take (i + 1))) = l.take (i + 1)
  | [], i, _, _, hl, _ => by simp at hl
  | c :: cs, i, hb, hi, hl, h0 => by
    have hc := hb.head
    rw [List.findIdx_cons] at hi
    by_cases h : c < 128
    · rw [decide_eq_true h] at hi
      simp at hi
      subst hi
      have e : val7 (List.take (0 + 1) (c :: cs)) = c.toNat := by simp [val7]; omega
      rw [e, vint_small (by omega)]
      simp
      omega
    · rw [decide_eq_false h] at hi
      simp at hi
      subst hi
      have hl' : cs.findIdx (· < 128) < cs.length := by simpa using hl
      have h0' : cs.getD (cs.findIdx (· < 128)) 0 ≠ 0 := by simpa using h0 (by omega)
      have ih := vint_back cs _ hb.tail rfl hl' (fun _ => h0')
      have hp := val7_pos cs _ hb.tail rfl hl' h0'
      rw [List.take_succ_cons, val7]
      rw [vint_big (by omega)]
      have e1 : ((c % 128).toNat + 128 * val7 (cs.take (cs.findIdx (· < 128) + 1))) / 128 = val7 (cs.take (cs.findIdx (· < 128) + 1)) := by omega
      have e2 : ((((c % 128).toNat + 128 * val7 (cs.take (cs.findIdx (· < 128) + 1))) % 128 + 128 : Nat) : Int) = c := by omega
      rw [e1, ih, e2]

/-- What is taken is put as it stood; or nothing is taken. -/
theorem take_cases (l : List Int) (hb : By l) (hl : l.length < 140737488355328) :
    (∃ (x : Nat) (rest : List Int), x < 18446744073709551616 ∧ l = vint x ++ rest ∧ nums_Take.f l = some ((x : Int), rest, true)) ∨
    (nums_Take.f l = some (0, [], false) ∧ ∀ (x : Nat) (rest : List Int), x < 18446744073709551616 → l ≠ vint x ++ rest) := by
  have hf : nums_Take.f l = some (if takeOk l = true then ((val7 (l.take (l.findIdx (· < 128) + 1)) : Int), l.drop (l.findIdx (· < 128) + 1), true) else (0, [], false)) := by
    unfold nums_Take.f
    rw [if_pos ⟨hb, hl⟩]
  by_cases ho : takeOk l = true
  · left
    rw [hf, if_pos ho]
    simp only [takeOk, Bool.and_eq_true, decide_eq_true_eq, Bool.not_eq_true', Bool.and_eq_false_iff, decide_eq_false_iff_not] at ho
    obtain ⟨⟨⟨h1, h2⟩, h3⟩, h4⟩ := ho
    have hback := vint_back l _ hb rfl h1 (fun h => by rcases h3 with h' | h'; exact absurd h h'; exact h')
    refine ⟨_, _, ?_, ?_, rfl⟩
    · have e1 : l.take (l.findIdx (· < 128) + 1) = l.take (l.findIdx (· < 128)) ++ [l.getD (l.findIdx (· < 128)) 0] := by
        rw [List.take_succ_eq_append_getElem h1, List.getD_eq_getElem?_getD, List.getElem?_eq_getElem h1]; rfl
      have hlen : (l.take (l.findIdx (· < 128))).length = l.findIdx (· < 128) := by rw [List.length_take]; omega
      have hlt := val7_lt (l.take (l.findIdx (· < 128)))
      rw [e1, val7_snoc, hlen]
      rw [hlen] at hlt
      generalize l.findIdx (· < 128) = i at *
      have hi9 : i ≤ 9 := by omega
      have e9 : (128 : Nat) ^ 9 * 2 = 18446744073709551616 := by decide
      by_cases hi : i = 9
      · subst hi
        have hm : l.getD 9 0 ∈ l := by rw [List.getD_eq_getElem?_getD, List.getElem?_eq_getElem h1]; exact List.getElem_mem h1
        have hm0 := (hb _ hm).1
        have hd : (l.getD 9 0 % 128).toNat ≤ 1 := by
          rcases h4 with h' | h'
          · exact absurd rfl h'
          · omega
        have : (l.getD 9 0 % 128).toNat * 128 ^ 9 ≤ 1 * 128 ^ 9 := Nat.mul_le_mul hd (Nat.le_refl _)
        omega
      · have hd : (l.getD i 0 % 128).toNat ≤ 127 := by omega
        have : (l.getD i 0 % 128).toNat * 128 ^ i ≤ 127 * 128 ^ i := Nat.mul_le_mul hd (Nat.le_refl _)
        have h8 : (128 : Nat) ^ i ≤ 128 ^ 8 := Nat.pow_le_pow_right (by omega) (by omega)
        have e8 : (128 : Nat) ^ 8 = 72057594037927936 := by decide
        omega
    · rw [hback, List.take_append_drop]
  · right
    rw [hf, if_neg ho]
    refine ⟨rfl, fun x rest hx e => ho ?_⟩
    rw [e]
    exact takeOk_vint x rest hx
theorem vint_append_inj {x y : Nat} {a b : List Int} (hx : x < 18446744073709551616) (hy : y < 18446744073709551616) (h : vint x ++ a = vint y ++ b) : x = y ∧ a = b := by
  have h1 := findIdx_vint x a
  have h2 := findIdx_vint y b
  rw [h] at h1
  have hp := vint_pos x
  have hq := vint_pos y
  have hl : (vint x).length = (vint y).length := by omega
  have h3 := List.append_inj h hl
  exact ⟨vint_inj h3.1, h3.2⟩
end Go.Proofs.YtlaihdipagejfaaL

end

section
set_option linter.unusedVariables false
namespace Go.Proofs.YtlaihdipagejfaaL
open Go Go.RowKit Go.Proofs.YtlaihdipagejfaaG Go.Proofs.Ytlaihdipagejfaa.P Go.Proofs.YtlaihdipagejfaaW.PrintWords Go.Proofs.YtlaihdipagejfaaW.PrintMore

theorem toList_data (s : ByteArray) : s.toList = s.data.toList := Lib.toList_data s
theorem ba_ext {s t : ByteArray} (h : s.toList = t.toList) : s = t := by
  rw [toList_data, toList_data] at h
  cases s; cases t
  simpa using h
theorem str_bytes (s : ByteArray) : strOfNums (bytesOf s) = s := by
  refine ba_ext ?_
  rw [toList_data, strOfNums_data, bytesOf, List.map_map, toList_data]
  conv => rhs; rw [← List.map_id s.data.toList]
  refine List.map_congr_left (fun b _ => ?_)
  simp
theorem bytes_str {l : List Int} (h : By l) : bytesOf (strOfNums l) = l := by
  rw [bytesOf, strOfNums_data, List.map_map]
  conv => rhs; rw [← List.map_id l]
  refine List.map_congr_left (fun c hc => ?_)
  have := h c hc
  simp only [Function.comp, UInt8.toNat_ofNat', id]
  omega
theorem bytesOf_by (s : ByteArray) : By (bytesOf s) := by
  intro c hc
  obtain ⟨b, _, rfl⟩ := List.mem_map.1 hc
  have := b.toNat_lt
  omega
theorem str_inj {a b : List Int} (ha : By a) (hb : By b) (h : strOfNums a = strOfNums b) : a = b := by rw [← bytes_str ha, h, bytes_str hb]

theorem same_f {a b : List Int} (ha : By a) (hb : By b) : ratlinelaw02_Same.f a b = some (decide (a = b)) := by
  unfold ratlinelaw02_Same.f
  by_cases h : a = b
  · subst h; simp
  · have : (strOfNums a).toList ≠ (strOfNums b).toList := fun e => h (str_inj ha hb (ba_ext e))
    rw [decide_eq_false h, beq_eq_false_iff_ne.2 this]
theorem put_f {l : List Int} {x : Nat} (hx : x < 18446744073709551616) (hl : l.length + 10 < 140737488355328) : nums_Put.f l (x : Int) = some (l ++ vint x) := by
  unfold nums_Put.f
  rw [if_pos ⟨by omega, by omega, hl⟩, Int.toNat_natCast]
theorem wrap_u64_nat {x : Nat} (hx : x < 18446744073709551616) : IntKind.u64.wrap (x : Int) = (x : Int) := by rw [IntKind.wrap_u64]; omega
theorem putText_f {l : List Int} {s : ByteArray} (hl : l.length + 10 + s.size < 140737488355328) : nums_PutText.f l s = some (l ++ vint s.size ++ bytesOf s) := by
  have := vint_len10 (x := s.size) (by omega)
  unfold nums_PutText.f
  rw [wrap_u64_nat (by omega), put_f (by omega) (by omega)]
  simp only [Option.bind_some]
  rw [if_pos (by rw [List.length_append]; omega)]
theorem clone_f {l : List Int} (hl : l.length < 140737488355328) : slices_Clone_byte_byte.f l = some l := by
  unfold slices_Clone_byte_byte.f
  rw [if_pos hl]
theorem mx_eq (a b : Int) : mx a b = max a b := by unfold mx; split <;> omega

/-- The text that bytes say. -/
theorem takeText_yes (s : ByteArray) (rest : List Int) (most : Int) (hm : most ≤ 9223372036854775807) (hr : By rest) (hl : s.size + rest.length + 20 < 140737488355328) (h : (s.size : Int) ≤ most) :
    nums_TakeText.f (vint s.size ++ (bytesOf s ++ rest)) most = some (s, rest, true) := by
  have hbl := bytesOf_length s
  unfold nums_TakeText.f
  rw [take_vint s.size _ (by omega) ((bytesOf_by s).append hr) (by rw [List.length_append]; omega)]
  simp only [Option.bind_some, if_true]
  have e1 : IntKind.u64.wrap (mx most 0) = most := by rw [mx_eq, IntKind.wrap_u64]; omega
  have e2 : IntKind.u64.wrap (((bytesOf s ++ rest).length : Nat) : Int) = ((s.size + rest.length : Nat) : Int) := by rw [List.length_append, hbl]; exact wrap_u64_nat (by omega)
  rw [e1, e2, if_neg (by omega), if_neg (by omega), if_neg (by omega), if_pos (by omega), if_pos (by rw [List.length_append]; omega), Int.toNat_natCast]
  have e3 : (bytesOf s ++ rest).drop s.size = rest := by rw [← hbl, List.drop_left]
  have e4 : (bytesOf s ++ rest).take s.size = bytesOf s := by rw [← hbl, List.take_left]
  rw [e3, e4, clone_f (by omega)]
  simp only [Option.bind_some, str_bytes]
theorem takeText_cases (l : List Int) (most : Int) (hm : most ≤ 9223372036854775807) (hb : By l) (hl : l.length + 20 < 140737488355328) :
    (∃ (s : ByteArray) (rest : List Int), (s.size : Int) ≤ most ∧ l = vint s.size ++ (bytesOf s ++ rest) ∧ nums_TakeText.f l most = some (s, rest, true)) ∨
    (nums_TakeText.f l most = some (⟨#[]⟩, [], false) ∧ ∀ (s : ByteArray) (rest : List Int), (s.size : Int) ≤ most → l ≠ vint s.size ++ (bytesOf s ++ rest)) := by
  rcases take_cases l hb (by omega) with ⟨x, rest, hx, he, hf⟩ | ⟨hf, hno⟩
  · by_cases h : (x : Int) ≤ most ∧ x ≤ rest.length
    · left
      have hr : By rest := By.right (he ▸ hb)
      have hsz : (strOfNums (rest.take x)).size = x := by rw [strOfNums_size, List.length_take]; omega
      have hl2 : l.length = (vint x).length + rest.length := by rw [he, List.length_append]
      have e0 : rest = bytesOf (strOfNums (rest.take x)) ++ rest.drop x := by rw [bytes_str (hr.take x), List.take_append_drop]
      have e1 : l = vint (strOfNums (rest.take x)).size ++ (bytesOf (strOfNums (rest.take x)) ++ rest.drop x) := by rw [hsz, ← e0]; exact he
      refine ⟨strOfNums (rest.take x), rest.drop x, by rw [hsz]; exact h.1, e1, ?_⟩
      have := takeText_yes (strOfNums (rest.take x)) (rest.drop x) most hm (hr.drop x) (by rw [hsz, List.length_drop]; omega) (by rw [hsz]; exact h.1)
      rw [← e1] at this
      exact this
    · right
      refine ⟨?_, fun s rest' hs e => h ?_⟩
      · have hl2 : l.length = (vint x).length + rest.length := by rw [he, List.length_append]
        unfold nums_TakeText.f
        rw [hf]
        simp only [Option.bind_some, if_true]
        have e2 : IntKind.u64.wrap ((rest.length : Nat) : Int) = (rest.length : Int) := wrap_u64_nat (by omega)
        have e1 : IntKind.u64.wrap (mx most 0) = max most 0 := by rw [mx_eq, IntKind.wrap_u64]; omega
        rw [e1, e2]
        by_cases c1 : (x : Int) > max most 0
        · rw [if_pos c1]
        · rw [if_neg c1]
          by_cases c2 : most < 0
          · rw [if_pos c2]
          · rw [if_neg c2, if_pos (by omega)]
      · rw [he] at e
        obtain ⟨rfl, rfl⟩ := vint_append_inj hx (by have : l.length = (vint s.size).length + (s.size + rest'.length) := by rw [he, e, List.length_append, List.length_append, bytesOf_length]
                                                    omega) e
        exact ⟨hs, by rw [List.length_append, bytesOf_length]; omega⟩
  · right
    refine ⟨?_, fun s rest' hs e => hno s.size (bytesOf s ++ rest') ?_ e⟩
    · unfold nums_TakeText.f
      rw [hf]
      simp
    · have : l.length = (vint s.size).length + (s.size + rest'.length) := by rw [e, List.length_append, List.length_append, bytesOf_length]
      omega
end Go.Proofs.YtlaihdipagejfaaL

end

section
set_option linter.unusedVariables false
namespace Go.Proofs.YtlaihdipagejfaaL
open Go Go.RowKit Go.Proofs.YtlaihdipagejfaaG Go.Proofs.Ytlaihdipagejfaa.P Go.Proofs.YtlaihdipagejfaaW.PrintWords Go.Proofs.YtlaihdipagejfaaW.PrintMore

abbrev Ik := S39
abbrev En := S41
def lt (a b : ByteArray) : Prop := Op.bytesLess a.toList b.toList = true
instance (a b : ByteArray) : Decidable (lt a b) := inferInstanceAs (Decidable (_ = true))
theorem lt_asymm {a b : ByteArray} (h : lt a b) : ¬ lt b a := by
  unfold lt at *
  rw [← bytesLess_gtr, h]
  simp
theorem lt_irrefl (a : ByteArray) : ¬ lt a a := fun h => lt_asymm h h
theorem ba_eq_iff {a b : ByteArray} : a.toList = b.toList ↔ a = b := ⟨ba_ext, fun h => by rw [h]⟩
theorem ba_nil_iff {a : ByteArray} : a.toList = [] ↔ a.size = 0 := by
  rw [toList_data]
  exact ⟨fun h => by show a.data.size = 0; rw [← Array.length_toList, h]; rfl, fun h => List.eq_nil_of_length_eq_zero (by rw [Array.length_toList]; exact h)⟩

def RightI (x : Ik) : Prop := 1 ≤ x.f0.size ∧ x.f0.size ≤ 64 ∧ x.f1 ≤ 72057594037927935 ∧ x.f2 ≤ 1
instance (x : Ik) : Decidable (RightI x) := inferInstanceAs (Decidable (_ ∧ _))
theorem right_f (x : Ik) : ikey_Right.f x.f0 x.f1 x.f2 = some (decide (RightI x)) := by
  unfold ikey_Right.f
  by_cases h0 : x.f0.size = 0
  · rw [if_pos (ba_nil_iff.2 h0), decide_eq_false (show ¬ RightI x from fun h => by have := h.1; omega)]
  · rw [if_neg (fun h => h0 (ba_nil_iff.1 h))]
    by_cases h1 : (x.f0.size : Int) ≤ 64
    · rw [if_pos h1]
      by_cases h2 : x.f1 ≤ 72057594037927935
      · rw [if_pos h2]
        congr 1
        exact decide_eq_decide.2 ⟨fun h => ⟨by omega, by omega, h2, h⟩, fun h => h.2.2.2⟩
      · rw [if_neg h2, decide_eq_false (show ¬ RightI x from fun h => h2 h.2.2.1)]
    · rw [if_neg h1, decide_eq_false (show ¬ RightI x from fun h => h1 (by have := h.2.1; omega))]
def EntryI (x : Ik) (v : ByteArray) : Prop := RightI x ∧ (v.size : Int) ≤ (if x.f2 = 0 then 0 else 256)
theorem entry_f (x : Ik) (v : ByteArray) : ikey_Entry.f x.f0 x.f1 x.f2 v = some (decide (RightI x) && decide ((v.size : Int) ≤ (if x.f2 = 0 then 0 else 256))) := by
  unfold ikey_Entry.f
  rw [right_f]
  by_cases h : RightI x
  · by_cases h2 : x.f2 = 0
    · simp [h, h2]
    · simp [h, h2]
  · by_cases h2 : x.f2 = 0
    · simp [h, h2]
    · simp [h, h2]

end Go.Proofs.YtlaihdipagejfaaL

end

section
set_option linter.unusedVariables false
namespace Go.Proofs.YtlaihdipagejfaaL
open Go Go.RowKit Go.Proofs.YtlaihdipagejfaaW.PrintWords
section
variable {α β γ δ ε ζ : Type} {r : α}
theorem ev_some (r : α) : Ev (fun _ => some r) r := Ev.now r
theorem ev_bind {o : Option β} {a : β} {f : Nat → β → Option α} (h : o = some a) (k : Ev (fun n => f n a) r) : Ev (fun n => o.bind (f n)) r := Ev.bind (g := fun _ => o) (by rw [h]; exact Ev.now a) k
theorem ev_call {g : Nat → Option β} {a : β} {f : Nat → β → Option α} (h : Ev g a) (k : Ev (fun n => f n a) r) : Ev (fun n => (g n).bind (f n)) r := Ev.bind h k
theorem ev_bind2 {o : Option (β × γ)} {a : β} {b : γ} {f : Nat → β × γ → Option α} (h : o = some (a, b)) (k : ∀ t, t.1 = a → t.2 = b → Ev (fun n => f n t) r) : Ev (fun n => o.bind (f n)) r := ev_bind h (k _ rfl rfl)
theorem ev_call2 {g : Nat → Option (β × γ)} {a : β} {b : γ} {f : Nat → β × γ → Option α} (h : Ev g (a, b)) (k : ∀ t, t.1 = a → t.2 = b → Ev (fun n => f n t) r) : Ev (fun n => (g n).bind (f n)) r := Ev.bind h (k _ rfl rfl)
theorem ev_pos {c : Prop} [Decidable c] {a b : Nat → Option α} (h : c) (k : Ev a r) : Ev (fun n => if c then a n else b n) r := k.congr (fun n => if_pos h)
theorem ev_neg {c : Prop} [Decidable c] {a b : Nat → Option α} (h : ¬ c) (k : Ev b r) : Ev (fun n => if c then a n else b n) r := k.congr (fun n => if_neg h)
/-- One round of what has rounds. -/
theorem ev_step {g f : Nat → Option α} (h : ∀ k, g (k + 1) = f k) (k : Ev f r) : Ev g r := Ev.step h k
end
theorem up1 {a : Nat} (h : a < 9223372036854775800) : wrap64 ((a : Int) + 1) = ((a + 1 : Nat) : Int) := by unfold wrap64; omega
theorem getD_at {α : Type} {l : List α} {z : α} {j : Nat} (h : j < l.length) : l.getD ((j : Int)).toNat z = l[j] := by
  rw [Int.toNat_natCast, List.getD_eq_getElem?_getD, List.getElem?_eq_getElem h]
  rfl
end Go.Proofs.YtlaihdipagejfaaL

end

section
set_option linter.unusedVariables false
namespace Go.Proofs.YtlaihdipagejfaaL
open Go Go.RowKit Go.Proofs.YtlaihdipagejfaaG Go.Proofs.Ytlaihdipagejfaa.P Go.Proofs.YtlaihdipagejfaaW.PrintWords Go.Proofs.YtlaihdipagejfaaW.PrintMore

abbrev OpS := S43
instance : DecidableEq OpS := fun x y => decidable_of_iff (x.f0 = y.f0 ∧ x.f1 = y.f1 ∧ x.f2 = y.f2) (by cases x; cases y; simp)
instance : DecidableEq Ik := fun x y => decidable_of_iff (x.f0 = y.f0 ∧ x.f1 = y.f1 ∧ x.f2 = y.f2) (by cases x; cases y; simp)
instance : DecidableEq En := fun x y => decidable_of_iff (x.f0 = y.f0 ∧ x.f1 = y.f1) (by cases x; cases y; simp)
theorem rd_op (l : List OpS) {j : Nat} (h : j < l.length) : rd_T43 l (j : Int) = l[j] := getD_at h
theorem rd_ent (l : List En) {j : Nat} (h : j < l.length) : rd_T41 l (j : Int) = l[j] := getD_at h

def OpI (o : OpS) : Prop := EntryI ⟨o.f1, 0, o.f0⟩ o.f2
instance (x : Ik) (v : ByteArray) : Decidable (EntryI x v) := inferInstanceAs (Decidable (_ ∧ _))
instance (o : OpS) : Decidable (OpI o) := inferInstanceAs (Decidable (EntryI _ _))
theorem op_f (o : OpS) : batch_Op.f o.f0 o.f1 o.f2 = some (decide (OpI o)) := by
  unfold batch_Op.f
  refine bind1 (entry_f ⟨o.f1, 0, o.f0⟩ o.f2) ?_
  congr 1
  rw [Bool.eq_iff_iff, Bool.and_eq_true, decide_eq_true_eq, decide_eq_true_eq, decide_eq_true_eq]
  exact Iff.rfl
theorem bad_f : ∀ l : List OpS, batch_bad l = some (!decide (∀ o ∈ l, OpI o))
  | [] => by simp [batch_bad]
  | o :: l => by
    rw [batch_bad, op_f, bad_f l, Option.bind_some]
    by_cases h : OpI o
    · simp [h]
    · simp [h]
def FewI (l : List OpS) (a : Int) : Prop := 0 < l.length ∧ (l.length : Int) ≤ a ∧ ∀ o ∈ l, OpI o
instance (l : List OpS) (a : Int) : Decidable (FewI l a) := inferInstanceAs (Decidable (_ ∧ _ ∧ _))
theorem bfew_f (l : List OpS) (a : Int) : batch_few.f l a = some (decide (FewI l a)) := by
  unfold batch_few.f
  by_cases h : 0 < l.length ∧ (l.length : Int) ≤ a
  · rw [if_pos h, bad_f, Option.bind_some, Bool.not_not]
    congr 1
    exact decide_eq_decide.2 ⟨fun q => ⟨h.1, h.2, q⟩, fun q => q.2.2⟩
  · rw [if_neg h, decide_eq_false (fun q : FewI l a => h ⟨q.1, q.2.1⟩)]

def WfO (o : OpS) : Prop := 0 ≤ o.f0 ∧ o.f0 < 256
def formO (o : OpS) : List Int := o.f0 :: (vint o.f1.size ++ (bytesOf o.f1 ++ (if o.f0 = 1 then vint o.f2.size ++ bytesOf o.f2 else [])))
def formL (l : List OpS) : List Int := l.flatMap formO
def formG (l : List OpS) : List Int := vint l.length ++ formL l
theorem formL_cons (o : OpS) (l : List OpS) : formL (o :: l) = formO o ++ formL l := rfl
theorem formL_nil : formL [] = [] := rfl
theorem op_sizes {o : OpS} (h : OpI o) : 1 ≤ o.f1.size ∧ o.f1.size ≤ 64 ∧ o.f0 ≤ 1 ∧ o.f2.size ≤ 256 ∧ (o.f0 = 0 → o.f2 = ⟨#[]⟩) := by
  obtain ⟨⟨h1, h2, _, h3⟩, h4⟩ := h
  refine ⟨h1, h2, h3, ?_, fun e => ?_⟩
  · simp only at h4
    split at h4 <;> omega
  · simp only [e, if_true] at h4
    exact ba_ext (by rw [ba_nil_iff.2 (by omega)]; exact (ba_nil_iff.2 (by rfl)).symm)
theorem formO_by {o : OpS} (hw : WfO o) : By (formO o) := by
  unfold formO
  refine .cons hw.1 hw.2 ((vint_by _).append ((bytesOf_by _).append ?_))
  split
  · exact (vint_by _).append (bytesOf_by _)
  · exact .nil
theorem formL_by {l : List OpS} (hw : ∀ o ∈ l, WfO o) : By (formL l) := fun c hc => by
  obtain ⟨o, ho, hc⟩ := List.mem_flatMap.1 hc
  exact formO_by (hw o ho) c hc
theorem formG_by {l : List OpS} (hw : ∀ o ∈ l, WfO o) : By (formG l) := (vint_by _).append (formL_by hw)
theorem formO_len {o : OpS} (h : OpI o) : (formO o).length ≤ 341 := by
  obtain ⟨h1, h2, _, h4, _⟩ := op_sizes h
  have v1 := vint_len10 (x := o.f1.size) (by omega)
  have v2 := vint_len10 (x := o.f2.size) (by omega)
  unfold formO
  rw [List.length_cons, List.length_append, List.length_append, bytesOf_length]
  split
  · rw [List.length_append, bytesOf_length]; omega
  · simp; omega
theorem formL_len {l : List OpS} (h : ∀ o ∈ l, OpI o) : (formL l).length ≤ 341 * l.length := by
  induction l with
  | nil => simp [formL]
  | cons o l ih =>
    have h1 := formO_len (h o (List.mem_cons_self ..))
    have h2 := ih (fun q hq => h q (List.mem_cons_of_mem _ hq))
    rw [formL_cons, List.length_append, List.length_cons]; omega
/-- No form of a right op begins with another one. -/
theorem formO_inj {o p : OpS} {a b : List Int} (ho : OpI o) (hp : OpI p) (wo : WfO o) (wp : WfO p) (h : formO o ++ a = formO p ++ b) : o = p ∧ a = b := by
  obtain ⟨_, o2, o3, o4, o5⟩ := op_sizes ho
  obtain ⟨_, p2, p3, p4, p5⟩ := op_sizes hp
  obtain ⟨o6, _⟩ := wo
  obtain ⟨p6, _⟩ := wp
  unfold formO at h
  simp only [List.cons_append, List.cons.injEq, List.append_assoc] at h
  obtain ⟨e0, h⟩ := h
  obtain ⟨e1, h⟩ := vint_append_inj (by omega) (by omega) h
  obtain ⟨e2, h⟩ := List.append_inj h (by rw [bytesOf_length, bytesOf_length, e1])
  have e2 : o.f1 = p.f1 := by rw [← str_bytes o.f1, e2, str_bytes]
  by_cases hk : o.f0 = 1
  · rw [if_pos hk, if_pos (e0 ▸ hk)] at h
    simp only [List.append_assoc] at h
    obtain ⟨e3, h⟩ := vint_append_inj (by omega) (by omega) h
    obtain ⟨e4, h⟩ := List.append_inj h (by rw [bytesOf_length, bytesOf_length, e3])
    have e4 : o.f2 = p.f2 := by rw [← str_bytes o.f2, e4, str_bytes]
    refine ⟨?_, h⟩
    cases o; cases p; simp_all
  · rw [if_neg hk, if_neg (e0 ▸ hk)] at h
    have e4 : o.f2 = p.f2 := by rw [o5 (by omega), p5 (by omega)]
    refine ⟨?_, h⟩
    cases o; cases p; simp_all
theorem formL_inj : ∀ {l m : List OpS} {a b : List Int}, (∀ o ∈ l, OpI o ∧ WfO o) → (∀ o ∈ m, OpI o ∧ WfO o) → l.length = m.length → formL l ++ a = formL m ++ b → l = m ∧ a = b
  | [], [], a, b, _, _, _, h => ⟨rfl, h⟩
  | [], _ :: _, _, _, _, _, hl, _ => by simp at hl
  | _ :: _, [], _, _, _, _, hl, _ => by simp at hl
  | o :: l, p :: m, a, b, h1, h2, hl, h => by
    rw [formL_cons, formL_cons, List.append_assoc, List.append_assoc] at h
    obtain ⟨q1, q2⟩ := h1 o (List.mem_cons_self ..)
    obtain ⟨q3, q4⟩ := h2 p (List.mem_cons_self ..)
    obtain ⟨e1, h'⟩ := formO_inj q1 q3 q2 q4 h
    obtain ⟨e2, h'⟩ := formL_inj (fun x hx => h1 x (List.mem_cons_of_mem _ hx)) (fun x hx => h2 x (List.mem_cons_of_mem _ hx)) (by simpa using hl) h'
    exact ⟨by rw [e1, e2], h'⟩
theorem formG_inj {l m : List OpS} {a b : List Int} (hl : FewI l 128) (hm : FewI m 128) (wl : ∀ o ∈ l, WfO o) (wm : ∀ o ∈ m, WfO o) (h : formG l ++ a = formG m ++ b) : l = m ∧ a = b := by
  unfold formG at h
  rw [List.append_assoc, List.append_assoc] at h
  have := hl.2.1
  have := hm.2.1
  obtain ⟨e, h⟩ := vint_append_inj (by omega) (by omega) h
  exact formL_inj (fun o ho => ⟨hl.2.2 o ho, wl o ho⟩) (fun o ho => ⟨hm.2.2 o ho, wm o ho⟩) e h

def ShortO (o : OpS) : Prop := o.f1.size ≤ 70 ∧ o.f2.size ≤ 300
instance (e : OpS) : Decidable (ShortO e) := inferInstanceAs (Decidable (_ ∧ _))
theorem ofew_loop (l : List OpS) (most : Int) (hl : l.length < 9223372036854775800) :
    ∀ (m j : Nat), j + m = l.length → Ev (fun k => ratlinelaw04_Few.l0 k l most l (l.length : Int) (j : Int)) (decide (∀ e ∈ l.drop j, ShortO e) && decide ((l.length : Int) ≤ most)) := by
  intro m
  induction m with
  | zero =>
    intro j hj
    obtain rfl : j = l.length := by omega
    refine ev_step (fun k => by rw [ratlinelaw04_Few.l0, if_neg (Int.lt_irrefl _)]) ?_
    rw [List.drop_length]
    simpa using ev_some _
  | succ m ih =>
    intro j hj
    have hlt : j < l.length := by omega
    refine ev_step (fun k => by rw [ratlinelaw04_Few.l0, if_pos (by omega), if_pos (by omega), if_pos (by omega), rd_op l hlt, up1 (by omega)]) ?_
    rw [List.drop_eq_getElem_cons hlt]
    by_cases h1 : ((l[j].f1.size : Nat) : Int) > 70
    · refine ev_pos h1 ?_
      rw [decide_eq_false (fun h => by have := (h l[j] (List.mem_cons_self ..)).1; omega)]
      exact ev_some _
    · refine ev_neg h1 ?_
      by_cases h2 : ((l[j].f2.size : Nat) : Int) > 300
      · refine ev_pos h2 ?_
        rw [decide_eq_false (fun h => by have := (h l[j] (List.mem_cons_self ..)).2; omega)]
        exact ev_some _
      · refine ev_neg h2 ?_
        have e0 : (∀ e ∈ l[j] :: l.drop (j + 1), ShortO e) ↔ ∀ e ∈ l.drop (j + 1), ShortO e := ⟨fun h e he => h e (List.mem_cons_of_mem _ he), fun h e he => by
          rcases List.mem_cons.1 he with rfl | he
          · exact ⟨by omega, by omega⟩
          · exact h e he⟩
        rw [decide_eq_decide.2 e0]
        exact ih (j + 1) (by omega)
theorem ofew_f (l : List OpS) (most : Int) (hl : l.length < 9223372036854775800) : Ev (fun k => ratlinelaw04_Few.f k l most) (decide (∀ e ∈ l, ShortO e) && decide ((l.length : Int) ≤ most)) := by
  have := ofew_loop l most hl l.length 0 (by omega)
  rwa [List.drop_zero] at this
theorem same_loop (a b : List OpS) (hl : a.length = b.length) (hm : a.length < 9223372036854775800) :
    ∀ (m j : Nat), j + m = a.length → Ev (fun k => ratlinelaw04_Same.l0 k a b (a.length : Int) (j : Int)) (decide (a.drop j = b.drop j)) := by
  intro m
  induction m with
  | zero =>
    intro j hj
    obtain rfl : j = a.length := by omega
    refine ev_step (fun k => by rw [ratlinelaw04_Same.l0, if_neg (Int.lt_irrefl _)]) ?_
    rw [List.drop_length, hl, List.drop_length]
    simpa using ev_some _
  | succ m ih =>
    intro j hj
    have ha : j < a.length := by omega
    have hb : j < b.length := by omega
    refine ev_step (fun k => by rw [ratlinelaw04_Same.l0, if_pos (by omega), if_pos (by omega), if_pos (by omega), if_pos (by omega), rd_op a ha, rd_op b hb, up1 (by omega)]) ?_
    rw [List.drop_eq_getElem_cons ha, List.drop_eq_getElem_cons hb]
    by_cases h : a[j] = b[j]
    · refine ev_neg (by rw [h]; simp) ?_
      rw [show decide (a[j] :: a.drop (j + 1) = b[j] :: b.drop (j + 1)) = decide (a.drop (j + 1) = b.drop (j + 1)) from decide_eq_decide.2 ⟨fun q => (List.cons.inj q).2, fun q => by rw [h, q]⟩]
      exact ih (j + 1) (by omega)
    · refine ev_pos ?_ ?_
      · generalize a[j] = x at *
        generalize b[j] = y at *
        cases x; cases y
        simp only [S43.mk.injEq] at h
        simp only [Bool.or_eq_true, Bool.not_eq_true', beq_eq_false_iff_ne, ne_eq, ba_eq_iff]
        simp only [not_and] at h
        exact Classical.byCases (fun q => .inr (Classical.byCases (fun q2 => .inr (h q q2)) (fun q2 => .inl q2))) (fun q => .inl q)
      · rw [decide_eq_false (fun q => h (List.cons.inj q).1)]
        exact ev_some _
theorem osame_f (a b : List OpS) (hm : a.length < 9223372036854775800) : Ev (fun k => ratlinelaw04_Same.f k a b) (decide (a = b)) := by
  unfold ratlinelaw04_Same.f
  by_cases hl : a.length = b.length
  · refine ev_pos (by omega) ?_
    have := same_loop a b hl hm a.length 0 (by omega)
    rwa [List.drop_zero, List.drop_zero] at this
  · refine ev_neg (by omega) ?_
    rw [decide_eq_false (fun e => hl (by rw [e]))]
    exact ev_some _
end Go.Proofs.YtlaihdipagejfaaL

end

section
set_option linter.unusedVariables false
namespace Go.Proofs.YtlaihdipagejfaaL
open Go Go.RowKit Go.Proofs.YtlaihdipagejfaaG Go.Proofs.Ytlaihdipagejfaa.P Go.Proofs.YtlaihdipagejfaaW.PrintWords Go.Proofs.YtlaihdipagejfaaW.PrintMore

theorem putO {o : OpS} (h : OpI o) {l : List Int} (hl : l.length + 1000 < 140737488355328) : ∃ t, nums_PutText.f (l ++ [o.f0]) o.f1 = some t ∧ (o.f0 = 1 → nums_PutText.f t o.f2 = some (l ++ formO o)) ∧ (o.f0 ≠ 1 → t = l ++ formO o) := by
  obtain ⟨h1, h2, _, h4, _⟩ := op_sizes h
  have v1 := vint_len10 (x := o.f1.size) (by omega)
  refine ⟨_, putText_f (by rw [List.length_append, List.length_singleton]; omega), fun hk => ?_, fun hk => ?_⟩
  · rw [putText_f (by simp only [List.length_append, List.length_singleton, bytesOf_length]; omega), formO, if_pos hk]
    simp only [List.append_assoc, List.cons_append, List.nil_append]
  · rw [formO, if_neg hk]
    simp only [List.append_assoc, List.cons_append, List.nil_append, List.append_nil]
theorem bytes_loop (l : List OpS) (h : ∀ o ∈ l, OpI o) (hl : l.length ≤ 200) :
    ∀ (m j : Nat) (acc : List Int), j + m = l.length → acc.length + 341 * m ≤ 1000000 → Ev (fun k => batch_Bytes.l0 k acc l (l.length : Int) (j : Int)) (acc ++ formL (l.drop j), 0) := by
  intro m
  induction m with
  | zero =>
    intro j acc hj ha
    obtain rfl : j = l.length := by omega
    refine ev_step (fun k => by rw [batch_Bytes.l0, if_neg (Int.lt_irrefl _)]) ?_
    rw [List.drop_length, formL_nil, List.append_nil]
    exact ev_some _
  | succ m ih =>
    intro j acc hj ha
    have hlt : j < l.length := by omega
    have ho := h l[j] (List.getElem_mem hlt)
    obtain ⟨t, h1, h2, h3⟩ := putO ho (l := acc) (by omega)
    refine ev_step (fun k => by rw [batch_Bytes.l0, if_pos (by omega), if_pos (by omega), if_pos (by omega), if_pos (by omega), rd_op l hlt, up1 (by omega)]) ?_
    refine ev_bind h1 ?_
    have hlen := formO_len ho
    have := ih (j + 1) (acc ++ formO l[j]) (by omega) (by rw [List.length_append]; omega)
    rw [List.drop_eq_getElem_cons hlt, formL_cons, ← List.append_assoc]
    by_cases hk : l[j].f0 = 1
    · refine ev_pos hk (ev_bind (h2 hk) this)
    · refine ev_neg hk ?_
      rw [h3 hk]
      exact this
theorem bytes_f (l : List OpS) : Ev (fun k => batch_Bytes.f k l) (if FewI l 128 then (formG l, 0) else ([], 40)) := by
  unfold batch_Bytes.f
  refine ev_bind (bfew_f l 128) ?_
  by_cases h : FewI l 128
  · rw [decide_eq_true h, if_pos h]
    refine ev_pos rfl ?_
    have h2 := h.2.1
    have h3 := vint_len10 (x := l.length) (by omega)
    refine ev_bind (a := vint l.length) ?_ ?_
    · rw [wrap_u64_nat (by omega), put_f (by omega) (by simp)]; rfl
    · have := bytes_loop l h.2.2 (by omega) l.length 0 (vint l.length) (by omega) (by omega)
      rwa [List.drop_zero] at this
  · rw [decide_eq_false h, if_neg h]
    exact ev_neg (by decide) (ev_some _)

/-- An op that may be is taken. -/
theorem op_form {o : OpS} (h : OpI o) (hw : WfO o) {rest : List Int} (hr : By rest) (hl : rest.length + 1000 < 140737488355328) : opF (formO o ++ rest) false = some (o, rest, false) := by
  obtain ⟨h1, h2, h3, h4, h5⟩ := op_sizes h
  unfold opF formO
  rw [List.cons_append]
  simp only [kindF, Bool.not_true, Bool.or_false]
  by_cases hk : o.f0 = 1
  · have e1 := takeText_yes o.f1 (vint o.f2.size ++ (bytesOf o.f2 ++ rest)) 64 (by omega) ((vint_by _).append ((bytesOf_by _).append hr)) (by
      have := vint_len10 (x := o.f2.size) (by omega)
      rw [List.length_append, List.length_append, bytesOf_length]; omega) (by omega)
    have e2 := takeText_yes o.f2 rest 256 (by omega) hr (by omega) (by omega)
    simp only [if_pos hk, List.append_assoc]
    rw [e1]
    show (nums_TakeText.f (vint o.f2.size ++ (bytesOf o.f2 ++ rest)) 256).bind _ = _
    rw [e2]
    rfl
  · have e1 := takeText_yes o.f1 rest 64 (by omega) hr (by omega) (by omega)
    have e3 : o.f2 = ⟨#[]⟩ := h5 (by have := hw.1; omega)
    simp only [if_neg hk, List.append_assoc, List.append_nil]
    rw [e1]
    show some (_, _, _) = _
    cases o
    simp only at e3
    subst e3
    rfl
/-- What is taken as an op, whatever stands there. -/
theorem op_cases (l : List Int) (bad : Bool) (hb : By l) (hl : l.length + 20 < 140737488355328) :
    ∃ (o : OpS) (rest : List Int) (bad1 : Bool), opF l bad = some (o, rest, bad1) ∧ By rest ∧ rest.length ≤ l.length ∧ (bad1 = false → bad = false ∧ WfO o ∧ (OpI o → l = formO o ++ rest)) := by
  have h0 : ∀ most : Int, most ≤ 9223372036854775807 → ∀ (q : List Int), By q → q.length ≤ l.length → ∃ (s : ByteArray) (rest : List Int) (ok : Bool), nums_TakeText.f q most = some (s, rest, ok) ∧ By rest ∧ rest.length ≤ q.length ∧ (ok = true → q = vint s.size ++ (bytesOf s ++ rest)) := by
    intro most hm q hq hql
    rcases takeText_cases q most hm hq (by omega) with ⟨s, rest, hs, he, hf⟩ | ⟨hf, _⟩
    · exact ⟨s, rest, true, hf, By.right (By.right (he ▸ hq)), by rw [he, List.length_append, List.length_append]; omega, fun _ => he⟩
    · exact ⟨_, _, _, hf, .nil, by simp, fun h => by cases h⟩
  have hk2 : By (kindF l).2.1 ∧ (kindF l).2.1.length ≤ l.length ∧ ((kindF l).2.2 = true → l = (kindF l).1 :: (kindF l).2.1) := by
    cases l with
    | nil => exact ⟨.nil, by simp [kindF], fun h => by simp [kindF] at h⟩
    | cons c r => exact ⟨hb.tail, by simp [kindF], fun _ => rfl⟩
  obtain ⟨hk2, hk3, hk4⟩ := hk2
  obtain ⟨s, r1, ok1, hf1, hb1, hl1, he1⟩ := h0 64 (by omega) _ hk2 hk3
  unfold opF
  rw [hf1, Option.bind_some]
  by_cases hk : (kindF l).1 = 1
  · simp only [if_pos hk]
    obtain ⟨s2, r2, ok2, hf2, hb2, hl2, he2⟩ := h0 256 (by omega) r1 hb1 (by omega)
    rw [hf2, Option.bind_some]
    refine ⟨_, _, _, rfl, hb2, by show r2.length ≤ _; omega, fun hbad => ?_⟩
    simp only [Bool.or_eq_false_iff, Bool.not_eq_false'] at hbad
    obtain ⟨⟨⟨q1, q2⟩, q3⟩, q4⟩ := hbad
    refine ⟨q1, ⟨by show 0 ≤ (kindF l).1; omega, by show (kindF l).1 < 256; omega⟩, fun _ => ?_⟩
    have e := hk4 q2
    rw [he1 q3, he2 q4] at e
    rw [formO]
    simp only [if_pos hk, List.cons_append, List.append_assoc]
    exact e
  · simp only [if_neg hk]
    refine ⟨_, _, _, rfl, hb1, by show r1.length ≤ _; omega, fun hbad => ?_⟩
    simp only [Bool.or_eq_false_iff, Bool.not_eq_false'] at hbad
    obtain ⟨⟨q1, q2⟩, q3⟩ := hbad
    have e := hk4 q2
    refine ⟨q1, ?_, fun _ => ?_⟩
    · show 0 ≤ (kindF l).1 ∧ (kindF l).1 < 256
      rw [e] at hb
      exact hb.head
    · rw [he1 q3] at e
      rw [formO]
      simp only [if_neg hk, List.cons_append, List.append_assoc, List.append_nil]
      exact e
theorem wrap_down {n : Nat} (h : n < 18446744073709551616) : IntKind.u64.wrap (((n + 1 : Nat) : Int) - 1) = (n : Int) := by rw [IntKind.wrap_u64]; omega
theorem parse_down : ∀ (ops : List OpS) (m n : Nat) (out : List OpS) (rest : List Int), (∀ o ∈ ops, OpI o ∧ WfO o) → By rest → rest.length + 400 * ops.length + 2000 < 140737488355328 → n < 18446744073709551616 → ops.length ≤ n → ops.length ≤ m →
    parseL m (n : Int) out (formL ops ++ rest) false = parseL (m - ops.length) ((n - ops.length : Nat) : Int) (out ++ ops) rest false
  | [], m, n, out, rest, _, _, _, _, _, _ => by rw [formL_nil, List.nil_append, List.append_nil]; rfl
  | o :: ops, m, n, out, rest, h, hr, hl, hn, h1, h2 => by
    obtain ⟨ho, hw⟩ := h o (List.mem_cons_self ..)
    have hs : ∀ q ∈ ops, OpI q ∧ WfO q := fun q hq => h q (List.mem_cons_of_mem _ hq)
    rw [List.length_cons] at hl h1 h2
    obtain ⟨m, rfl⟩ : ∃ q, m = q + 1 := ⟨m - 1, by omega⟩
    obtain ⟨n, rfl⟩ : ∃ q, n = q + 1 := ⟨n - 1, by omega⟩
    have hfl := formL_len (fun q hq => (hs q hq).1)
    rw [parseL, if_pos (by omega), if_neg (by decide), formL_cons, List.append_assoc, op_form ho hw ((formL_by (fun q hq => (hs q hq).2)).append hr) (by rw [List.length_append]; omega), Option.bind_some, wrap_down (by omega)]
    rw [parse_down ops m n (out ++ [o]) rest hs hr (by omega) (by omega) (by omega) (by omega)]
    rw [show m + 1 - (o :: ops).length = m - ops.length from by simp, show n + 1 - (o :: ops).length = n - ops.length from by simp, List.append_assoc, List.singleton_append]
/-- A group's bytes are parsed. -/
theorem parse_form {l : List OpS} (h : FewI l 128) (hw : ∀ o ∈ l, WfO o) : batch_Parse.f (formG l) = some (l, 0) := by
  have h1 := h.2.1
  have h2 := h.1
  have hlen := formL_len h.2.2
  unfold batch_Parse.f formG
  rw [take_vint l.length _ (by omega) (formL_by hw) (by omega), Option.bind_some]
  have := parse_down l 129 l.length [] [] (fun o ho => ⟨h.2.2 o ho, hw o ho⟩) .nil (by simp; omega) (by omega) (Nat.le_refl _) (by omega)
  rw [List.append_nil, Nat.sub_self, List.nil_append] at this
  show (parseL 129 (l.length : Int) [] (formL l) false).bind _ = _
  rw [this]
  have h3 : parseL (129 - l.length) ((0 : Nat) : Int) l [] false = some (l, [], false) := by
    cases 129 - l.length with
    | zero => rfl
    | succ m => rw [parseL, if_neg (by omega)]
  rw [h3, Option.bind_some, if_neg (show ¬ false = true from by decide), if_neg (show ¬ 0 < ([] : List Int).length from by decide), bfew_f, Option.bind_some, decide_eq_true h, if_pos rfl]
/-- What was parsed stood there. -/
theorem parse_up : ∀ (m n : Nat) (out : List OpS) (b : List Int) (bad : Bool), By b → b.length + 20 < 140737488355328 → n < 18446744073709551616 → ∃ (out' : List OpS) (b' : List Int) (bad' : Bool), parseL m (n : Int) out b bad = some (out', b', bad') ∧
    (bad' = false → bad = false ∧ ∃ ops, out' = out ++ ops ∧ (∀ o ∈ ops, WfO o) ∧ ops.length ≤ m ∧ (ops.length = n ∨ ops.length = m) ∧ ((∀ o ∈ ops, OpI o) → b = formL ops ++ b'))
  | 0, n, out, b, bad, hb, hl, hn => ⟨out, b, bad, rfl, fun h => ⟨h, [], by simp, (fun o ho => by cases ho), Nat.le_refl _, .inr rfl, fun _ => rfl⟩⟩
  | m + 1, 0, out, b, bad, hb, hl, hn => ⟨out, b, bad, by rw [parseL, if_neg (by omega)], fun h => ⟨h, [], by simp, (fun o ho => by cases ho), Nat.zero_le _, .inl rfl, fun _ => rfl⟩⟩
  | m + 1, n + 1, out, b, true, hb, hl, hn => ⟨out, b, true, by rw [parseL, if_pos (by omega), if_pos rfl], fun h => by cases h⟩
  | m + 1, n + 1, out, b, false, hb, hl, hn => by
    obtain ⟨o, rest, bad1, hf, hr, hrl, hs⟩ := op_cases b false hb hl
    obtain ⟨out', b', bad', hp, hq⟩ := parse_up m n (out ++ [o]) rest bad1 hr (by omega) (by omega)
    refine ⟨out', b', bad', by rw [parseL, if_pos (by omega), if_neg (by decide), hf, Option.bind_some, wrap_down (by omega)]; exact hp, fun hbad => ⟨rfl, ?_⟩⟩
    obtain ⟨q1, ops, q2, q3, q4, q5, q6⟩ := hq hbad
    obtain ⟨_, s1, s2⟩ := hs q1
    refine ⟨o :: ops, by rw [q2, List.append_assoc, List.singleton_append], fun p hp => ?_, by simp; omega, by simp only [List.length_cons]; omega, fun hops => ?_⟩
    · rcases List.mem_cons.1 hp with rfl | hp
      · exact s1
      · exact q3 p hp
    · rw [formL_cons, List.append_assoc, ← q6 (fun p hp => hops p (List.mem_cons_of_mem _ hp))]
      exact s2 (hops o (List.mem_cons_self ..))
theorem parse_cases (l : List Int) (hb : By l) (hl : l.length + 20 < 140737488355328) :
    (∃ ops, FewI ops 128 ∧ (∀ o ∈ ops, WfO o) ∧ l = formG ops ∧ batch_Parse.f l = some (ops, 0)) ∨ (batch_Parse.f l = some ([], 40) ∧ ∀ ops, FewI ops 128 → (∀ o ∈ ops, WfO o) → l ≠ formG ops) := by
  have key : (∃ ops, FewI ops 128 ∧ (∀ o ∈ ops, WfO o) ∧ l = formG ops) ∨ batch_Parse.f l = some ([], 40) := by
    rcases take_cases l hb (by omega) with ⟨x, rest, hx, he, hf⟩ | ⟨hf, _⟩
    · have hr : By rest := By.right (he ▸ hb)
      have hrl : rest.length ≤ l.length := by rw [he, List.length_append]; omega
      obtain ⟨out, b, bad, hp, hs⟩ := parse_up 129 x [] rest false hr (by omega) hx
      unfold batch_Parse.f
      rw [hf, Option.bind_some]
      show _ ∨ (parseL 129 (x : Int) [] rest false).bind _ = _
      rw [hp, Option.bind_some]
      cases bad with
      | true => exact .inr (if_pos rfl)
      | false =>
        rw [if_neg (show ¬ false = true from by decide)]
        by_cases hbl : 0 < b.length
        · exact .inr (if_pos hbl)
        · rw [if_neg hbl, bfew_f, Option.bind_some]
          obtain rfl : b = [] := List.eq_nil_of_length_eq_zero (by omega)
          obtain ⟨_, ops, q2, q3, q4, q5, q6⟩ := hs rfl
          rw [List.nil_append] at q2
          subst q2
          by_cases hfew : FewI out 128
          · refine .inl ⟨out, hfew, q3, ?_⟩
            have := hfew.2.1
            have e := q6 hfew.2.2
            rw [List.append_nil] at e
            rw [he, formG, e, show out.length = x from by omega]
          · exact .inr (by rw [decide_eq_false hfew, if_neg (by decide)])
    · right
      unfold batch_Parse.f
      rw [hf, Option.bind_some]
      show (parseL 129 0 [] [] true).bind _ = _
      rw [show parseL 129 0 [] [] true = some ([], [], true) from rfl, Option.bind_some]
      exact if_pos rfl
  rcases key with ⟨ops, h1, h2, rfl⟩ | h
  · exact .inl ⟨ops, h1, h2, rfl, parse_form h1 h2⟩
  · refine .inr ⟨h, fun ops h1 h2 e => ?_⟩
    rw [e, parse_form h1 h2] at h
    simp at h

def entO (first : Int) (o : OpS) (j : Nat) : En := ⟨⟨o.f1, IntKind.u64.wrap (first + (j : Int)), o.f0⟩, o.f2⟩
def entL (first : Int) (l : List OpS) : List En := l.mapIdx fun j o => entO first o j
theorem entL_length (first : Int) (l : List OpS) : (entL first l).length = l.length := by simp [entL]
theorem entL_at (first : Int) (l : List OpS) {j : Nat} (h : j < l.length) : (entL first l)[j]'(by rw [entL_length]; exact h) = entO first l[j] j := by simp [entL]
theorem ent_loop (l : List OpS) (first : Int) (hl : l.length ≤ 1000) :
    ∀ (m j : Nat), j + m = l.length → Ev (fun k => batch_Entries.l0 k first ((entL first l).take j) l (l.length : Int) (j : Int)) (entL first l) := by
  intro m
  induction m with
  | zero =>
    intro j hj
    obtain rfl : j = l.length := by omega
    refine ev_step (fun k => by rw [batch_Entries.l0, if_neg (Int.lt_irrefl _)]) ?_
    rw [List.take_of_length_le (by rw [entL_length]; omega)]
    exact ev_some _
  | succ m ih =>
    intro j hj
    have hlt : j < l.length := by omega
    have hlt2 : j < (entL first l).length := by rw [entL_length]; exact hlt
    refine ev_step (fun k => by rw [batch_Entries.l0, if_pos (by omega), if_pos (by omega), if_pos (by omega), if_pos (by rw [List.length_take]; omega), rd_op l hlt, up1 (by omega), wrap_u64_nat (by omega)]) ?_
    have := ih (j + 1) (by omega)
    rw [List.take_succ_eq_append_getElem hlt2, entL_at first l hlt] at this
    exact this
theorem entries_f (l : List OpS) (first : Int) (hl : l.length ≤ 1000) : Ev (fun k => batch_Entries.f k l first) (entL first l) := by
  have := ent_loop l first hl l.length 0 (by omega)
  rwa [List.take_zero] at this
theorem esame_loop (a b : List En) (hl : a.length = b.length) (hm : a.length < 9223372036854775800) :
    ∀ (m j : Nat), j + m = a.length → Ev (fun k => ratlinelaw04_Entries.l0 k a b (a.length : Int) (j : Int)) (decide (a.drop j = b.drop j)) := by
  intro m
  induction m with
  | zero =>
    intro j hj
    obtain rfl : j = a.length := by omega
    refine ev_step (fun k => by rw [ratlinelaw04_Entries.l0, if_neg (Int.lt_irrefl _)]) ?_
    rw [List.drop_length, hl, List.drop_length]
    simpa using ev_some _
  | succ m ih =>
    intro j hj
    have ha : j < a.length := by omega
    have hb : j < b.length := by omega
    refine ev_step (fun k => by rw [ratlinelaw04_Entries.l0, if_pos (by omega), if_pos (by omega), if_pos (by omega), if_pos (by omega), rd_ent a ha, rd_ent b hb, up1 (by omega)]) ?_
    rw [List.drop_eq_getElem_cons ha, List.drop_eq_getElem_cons hb]
    by_cases h : a[j] = b[j]
    · refine ev_neg (by rw [h]; simp) ?_
      rw [show decide (a[j] :: a.drop (j + 1) = b[j] :: b.drop (j + 1)) = decide (a.drop (j + 1) = b.drop (j + 1)) from decide_eq_decide.2 ⟨fun q => (List.cons.inj q).2, fun q => by rw [h, q]⟩]
      exact ih (j + 1) (by omega)
    · refine ev_pos ?_ ?_
      · generalize a[j] = x at *
        generalize b[j] = y at *
        obtain ⟨⟨x0, x1, x2⟩, x3⟩ := x
        obtain ⟨⟨y0, y1, y2⟩, y3⟩ := y
        simp only [S41.mk.injEq, S39.mk.injEq] at h
        simp only [Bool.or_eq_true, Bool.not_eq_true', beq_eq_false_iff_ne, ne_eq, ba_eq_iff]
        exact Classical.byCases (fun q : x3 = y3 => .inl (Classical.byCases (fun q1 : x0 = y0 => .inr (Classical.byCases (fun q2 : x1 = y1 => .inr (fun q3 => h ⟨⟨q1, q2, q3⟩, q⟩)) .inl)) .inl)) .inr
      · rw [decide_eq_false (fun q => h (List.cons.inj q).1)]
        exact ev_some _
theorem esame_f (a b : List En) (hm : a.length < 9223372036854775800) : Ev (fun k => ratlinelaw04_Entries.f k a b) (decide (a = b)) := by
  unfold ratlinelaw04_Entries.f
  by_cases hl : a.length = b.length
  · refine ev_pos (by omega) ?_
    have := esame_loop a b hl hm a.length 0 (by omega)
    rwa [List.drop_zero, List.drop_zero] at this
  · refine ev_neg (by omega) ?_
    rw [decide_eq_false (fun e => hl (by rw [e]))]
    exact ev_some _
end Go.Proofs.YtlaihdipagejfaaL

end
