/- Proved here: functions of the program return what the Lean functions beside them say,or a law of the program holds. Conditions: those of each theorem. Written for this claim by a program: the printer of the kit,with some contracts given. -/
import Derived.Test.YtojemmipkpckbaaPx0
import Derived.Test.YtojemmipkpckbaaPx8
import Derived.Test.YtojemmipkpckbaaPx12
import Derived.Test.YtojemmipkpckbaaPx13
import Derived.Test.YtojemmipkpckbaaPx14
namespace Go.Proofs.Ytojemmipkpckbaa.P
open Go.RowKit Go.Proofs.YtojemmipkpckbaaG Go.Proofs.YtojemmipkpckbaaW.PrintWords Go.Proofs.YtojemmipkpckbaaW.PrintLast Go.Proofs.YtojemmipkpckbaaW.PrintMore
attribute [local go_sem] str_gtr str_geq str_leq max2_int min2_int max_two min_two max_three min_three max_four min_four   -- for this text's walks alone
set_option linter.unusedVariables false
set_option linter.unusedSimpArgs false

/-! ### ratlinelaw03_IkeyRight: function 11 -/
mutual
def ratlinelaw03_IkeyRight.j0 : Nat → ByteArray → Int → ByteArray → Bool → Option (Bool)
 | 0,_,_,_,_ => none
 | k + 1,x0,x1,x2,x19 => if x19 = true then ((ratlinelaw03_awake.f k).bind fun t242 => (some t242)) else (if x0.size + 1 ≤ 9223372036854775807 then (if 0 ≤ (mn (wrap64 ((x0.size : Int) + 1)) 64) then (if (mn (wrap64 ((x0.size : Int) + 1)) 64) ≤ ((x0 ++ (⟨#[120]⟩ : ByteArray)).size : Int) then (if 0 ≤ (mn (x2.size : Int) 256) then (if (mn (x2.size : Int) 256) ≤ (x2.size : Int) then ((ratlinelaw03_one.f ((x0 ++ (⟨#[120]⟩ : ByteArray)).extract 0 ((mn (wrap64 ((x0.size : Int) + 1)) 64) : Int).toNat) (mn x1 72057594037927935) 1).bind fun bt243 => (if 0 ≤ (wrap64 (65 - (((x0 ++ (⟨#[120]⟩ : ByteArray)).extract 0 ((mn (wrap64 ((x0.size : Int) + 1)) 64) : Int).toNat).size : Int))) then (if (wrap64 (65 - (((x0 ++ (⟨#[120]⟩ : ByteArray)).extract 0 ((mn (wrap64 ((x0.size : Int) + 1)) 64) : Int).toNat).size : Int)) : Int).toNat ≤ 281474976710656 then ((some (List.replicate (wrap64 (65 - (((x0 ++ (⟨#[120]⟩ : ByteArray)).extract 0 ((mn (wrap64 ((x0.size : Int) + 1)) 64) : Int).toNat).size : Int)) : Int).toNat 0 : List Int)).bind fun y250 => (if ((x0 ++ (⟨#[120]⟩ : ByteArray)).extract 0 ((mn (wrap64 ((x0.size : Int) + 1)) 64) : Int).toNat).size + (strOfNums y250).size ≤ 9223372036854775807 then ((ikey_Right.f bt243.1 bt243.2.1 bt243.2.2).bind fun t253 => (if t253 = true then ((ikey_Right.f (((x0 ++ (⟨#[120]⟩ : ByteArray)).extract 0 ((mn (wrap64 ((x0.size : Int) + 1)) 64) : Int).toNat) ++ (strOfNums y250)) bt243.2.1 bt243.2.2).bind fun t254 => (if t254 = true then (ratlinelaw03_IkeyRight.j1 k (x2.extract 0 ((mn (x2.size : Int) 256) : Int).toNat) true bt243.1 bt243.2.1 bt243.2.2 (((x0 ++ (⟨#[120]⟩ : ByteArray)).extract 0 ((mn (wrap64 ((x0.size : Int) + 1)) 64) : Int).toNat) ++ (strOfNums y250)) bt243.2.1 bt243.2.2) else ((ikey_Right.f bt243.1 (mx x1 72057594037927936) bt243.2.2).bind fun t255 => (if t255 = true then (ratlinelaw03_IkeyRight.j1 k (x2.extract 0 ((mn (x2.size : Int) 256) : Int).toNat) true bt243.1 bt243.2.1 bt243.2.2 (((x0 ++ (⟨#[120]⟩ : ByteArray)).extract 0 ((mn (wrap64 ((x0.size : Int) + 1)) 64) : Int).toNat) ++ (strOfNums y250)) bt243.2.1 bt243.2.2) else ((ikey_Right.f bt243.1 bt243.2.1 2).bind fun t256 => (if t256 = true then (ratlinelaw03_IkeyRight.j1 k (x2.extract 0 ((mn (x2.size : Int) 256) : Int).toNat) true bt243.1 bt243.2.1 bt243.2.2 (((x0 ++ (⟨#[120]⟩ : ByteArray)).extract 0 ((mn (wrap64 ((x0.size : Int) + 1)) 64) : Int).toNat) ++ (strOfNums y250)) bt243.2.1 bt243.2.2) else ((ratlinelaw03_one.f (⟨#[]⟩ : ByteArray) bt243.2.1 1).bind fun bt257 => ((ikey_Right.f bt257.1 bt257.2.1 bt257.2.2).bind fun t260 => (ratlinelaw03_IkeyRight.j1 k (x2.extract 0 ((mn (x2.size : Int) 256) : Int).toNat) t260 bt243.1 bt243.2.1 bt243.2.2 (((x0 ++ (⟨#[120]⟩ : ByteArray)).extract 0 ((mn (wrap64 ((x0.size : Int) + 1)) 64) : Int).toNat) ++ (strOfNums y250)) bt243.2.1 bt243.2.2))))))))) else (ratlinelaw03_IkeyRight.j1 k (x2.extract 0 ((mn (x2.size : Int) 256) : Int).toNat) true bt243.1 bt243.2.1 bt243.2.2 (((x0 ++ (⟨#[120]⟩ : ByteArray)).extract 0 ((mn (wrap64 ((x0.size : Int) + 1)) 64) : Int).toNat) ++ (strOfNums y250)) bt243.2.1 bt243.2.2))) else (none))) else (none)) else (none))) else (none)) else (none)) else (none)) else (none)) else (none))
def ratlinelaw03_IkeyRight.j1 : Nat → ByteArray → Bool → ByteArray → Int → Int → ByteArray → Int → Int → Option (Bool)
 | 0,_,_,_,_,_,_,_,_ => none
 | k + 1,x2,x72,x247000,x247001,x247002,x248000,x248001,x248002 => if x72 = true then (none) else ((ikey_Entry.f x247000 x247001 x247002 x2).bind fun t262 => (if t262 = true then (if 0 ≤ (wrap64 (257 - (x2.size : Int))) then (if (wrap64 (257 - (x2.size : Int)) : Int).toNat ≤ 281474976710656 then ((some (List.replicate (wrap64 (257 - (x2.size : Int)) : Int).toNat 0 : List Int)).bind fun y263 => (if x2.size + (strOfNums y263).size ≤ 9223372036854775807 then ((ikey_Entry.f x247000 x247001 x247002 (x2 ++ (strOfNums y263))).bind fun t266 => (if t266 = true then (none) else ((ikey_Entry.f x247000 x247001 0 (⟨#[]⟩ : ByteArray)).bind fun t267 => (if t267 = true then ((ikey_Entry.f x247000 x247001 0 x2).bind fun t268 => (if (t268 == (x2.toList == ([] : List UInt8))) = true then ((ikey_Entry.f x248000 x248001 x248002 (⟨#[]⟩ : ByteArray)).bind fun t269 => (if t269 = true then (none) else ((ratlinelaw03_awake.f k).bind fun t270 => (some t270)))) else (none))) else (none))))) else (none))) else (none)) else (none)) else (none)))
end
def ratlinelaw03_IkeyRight.f (k : Nat) (a0 : ByteArray) (a1 : Int) (a2 : ByteArray) : Option (Bool):=if (a0.size : Int) > 300 then (ratlinelaw03_IkeyRight.j0 k a0 a1 a2 true) else (ratlinelaw03_IkeyRight.j0 k a0 a1 a2 (decide ((a2.size : Int) > 600)))
theorem ratlinelaw03_IkeyRight.mono_l : ∀ k,(∀ y0 y1 y2 y3,LeO (ratlinelaw03_IkeyRight.j0 k y0 y1 y2 y3) (ratlinelaw03_IkeyRight.j0 (k + 1) y0 y1 y2 y3)) ∧ (∀ y0 y1 y2 y3 y4 y5 y6 y7,LeO (ratlinelaw03_IkeyRight.j1 k y0 y1 y2 y3 y4 y5 y6 y7) (ratlinelaw03_IkeyRight.j1 (k + 1) y0 y1 y2 y3 y4 y5 y6 y7))
 | 0 => ⟨fun _ _ _ _ r h => by simp [ratlinelaw03_IkeyRight.j0] at h,fun _ _ _ _ _ _ _ _ r h => by simp [ratlinelaw03_IkeyRight.j1] at h⟩
 | k + 1 => by
  obtain ⟨ih0,ih1⟩:=ratlinelaw03_IkeyRight.mono_l k
  refine ⟨?_,?_⟩
  ·intro y0 y1 y2 y3
   unfold ratlinelaw03_IkeyRight.j0
   repeat' first
   | (with_reducible exact ih0 _ _ _ _)
   | (with_reducible exact ih1 _ _ _ _ _ _ _ _)
   | (with_reducible exact ratlinelaw03_awake.mono _)
   | (with_reducible exact LeO.refl _)
   | (with_reducible exact LeO.none _)
   | (with_reducible refine LeO.ite ?_ ?_)
   | (with_reducible refine LeO.bind ?_ (fun _ => ?_))
   | exact ih0 _ _ _ _
   | exact ih1 _ _ _ _ _ _ _ _
   | exact ratlinelaw03_awake.mono _
   | exact LeO.none _
   | refine LeO.ite ?_ ?_
   | refine LeO.bind ?_ (fun _ => ?_)
  ·intro y0 y1 y2 y3 y4 y5 y6 y7
   unfold ratlinelaw03_IkeyRight.j1
   repeat' first
   | (with_reducible exact ih0 _ _ _ _)
   | (with_reducible exact ih1 _ _ _ _ _ _ _ _)
   | (with_reducible exact ratlinelaw03_awake.mono _)
   | (with_reducible exact LeO.refl _)
   | (with_reducible exact LeO.none _)
   | (with_reducible refine LeO.ite ?_ ?_)
   | (with_reducible refine LeO.bind ?_ (fun _ => ?_))
   | exact ih0 _ _ _ _
   | exact ih1 _ _ _ _ _ _ _ _
   | exact ratlinelaw03_awake.mono _
   | exact LeO.none _
   | refine LeO.ite ?_ ?_
   | refine LeO.bind ?_ (fun _ => ?_)
theorem ratlinelaw03_IkeyRight.mono : ∀ a0 a1 a2 k,LeO (ratlinelaw03_IkeyRight.f k a0 a1 a2) (ratlinelaw03_IkeyRight.f (k + 1) a0 a1 a2):=by
 intro a0 a1 a2 k
 obtain ⟨ih0,ih1⟩:=ratlinelaw03_IkeyRight.mono_l k
 unfold ratlinelaw03_IkeyRight.f
 repeat' first
   | (with_reducible exact ih0 _ _ _ _)
   | (with_reducible exact ih1 _ _ _ _ _ _ _ _)
   | (with_reducible exact ratlinelaw03_awake.mono _)
   | (with_reducible exact LeO.refl _)
   | (with_reducible exact LeO.none _)
   | (with_reducible refine LeO.ite ?_ ?_)
   | (with_reducible refine LeO.bind ?_ (fun _ => ?_))
   | exact ih0 _ _ _ _
   | exact ih1 _ _ _ _ _ _ _ _
   | exact ratlinelaw03_awake.mono _
   | exact LeO.none _
   | refine LeO.ite ?_ ?_
   | refine LeO.bind ?_ (fun _ => ?_)
def ratlinelaw03_IkeyRight.T3 : Bool × List (List Nat × List Nat):=(true,[([],[]),([0],[0]),([],[]),([2],[2]),([3],[3]),([4],[4]),([1,5],[1,5]),([],[]),([],[]),([8],[8]),([9],[9]),([7,10],[7,10]),([6,0,1,2,3,4,5,6],[0,2,6]),([11,12,0,1,2,3,4,5,6,7,8,9,10,11,12],[7,8,11])])
def ratlinelaw03_IkeyRight.B3 : List Nat:=[0,1,0,4,12,28,63,0,0,256,768,1920,127,8191]
theorem ratlinelaw03_IkeyRight.tab3 : rtab .any (opsOf Try.f11 3) = ratlinelaw03_IkeyRight.T3:=by kernel_rfl
theorem ratlinelaw03_IkeyRight.bits3 : waitsOk ratlinelaw03_IkeyRight.T3.2 ratlinelaw03_IkeyRight.B3 = true:=by kernel_rfl
def ratlinelaw03_IkeyRight.T5 : Bool × List (List Nat × List Nat):=(true,[([],[]),([],[]),([],[]),([],[]),([],[]),([],[]),([3,0,0,3,4,5],[0,3]),([4,1,6,0,1,3,4,5,6],[1,4]),([5,2,7,0,1,2,3,4,5,6,7],[2,5])])
def ratlinelaw03_IkeyRight.B5 : List Nat:=[0,0,0,0,0,0,57,123,255]
theorem ratlinelaw03_IkeyRight.tab5 : rtab .any (opsOf Try.f11 5) = ratlinelaw03_IkeyRight.T5:=by kernel_rfl
theorem ratlinelaw03_IkeyRight.bits5 : waitsOk ratlinelaw03_IkeyRight.T5.2 ratlinelaw03_IkeyRight.B5 = true:=by kernel_rfl
def ratlinelaw03_IkeyRight.T13 : Bool × List (List Nat × List Nat):=(true,[([],[]),([],[]),([0,1],[0,1]),([2],[2]),([3,3],[3]),([4],[4]),([4],[4]),([4],[4]),([7,4],[4,7]),([8,4],[4,8]),([9,9,4],[4,9]),([10,4],[4,10]),([6,11,4],[4,6,11]),([5,12,4],[4,5,12]),([13,4,4],[4,13]),([14,4],[4,14]),([4,15],[4,15]),([16,14],[16]),([17],[17]),([18,17],[17,18]),([19,17,17],[17,19]),([17,20],[17,20]),([21,20],[21]),([22],[22]),([22],[22]),([23,24,22],[22,23,24]),([25,22,22],[22,25]),([22],[22]),([27,22],[22,27]),([26,28,22],[22,26,28]),([22,29],[22,29]),([30,26],[30]),([31],[31]),([32,31],[31,32]),([33,31,31],[31,33]),([34,31],[31,34]),([31,35],[31,35]),([36,34],[36]),([37,37],[37]),([37,38],[37,38]),([39,38,0,1,2,3,4,5,6,7,8,9,10,11,12,13,14,15,16,17,18,19,20,21,22,23,24,25,26,27,28,29,30,31,32,33,34,35,36,37,38,39],[39])])
def ratlinelaw03_IkeyRight.B13 : List Nat:=[0,0,3,7,15,31,31,31,159,415,927,1951,4063,8191,16383,32767,65535,131071,262143,524287,1048575,2097151,4194303,8388607,8388607,33554431,67108863,8388607,142606335,536870911,1073741823,2147483647,4294967295,8589934591,17179869183,34359738367,68719476735,137438953471,274877906943,549755813887,1099511627775]
theorem ratlinelaw03_IkeyRight.tab13 : rtab .any (opsOf Try.f11 13) = ratlinelaw03_IkeyRight.T13:=by kernel_rfl
theorem ratlinelaw03_IkeyRight.bits13 : waitsOk ratlinelaw03_IkeyRight.T13.2 ratlinelaw03_IkeyRight.B13 = true:=by kernel_rfl
set_option maxHeartbeats 8000000 in
set_option maxRecDepth 100000 in
theorem ratlinelaw03_IkeyRight.calls (k : Nat) (a0 : ByteArray) (a1 : Int) (a2 : ByteArray) (r : Bool) (w : World) (h : ratlinelaw03_IkeyRight.f k a0 a1 a2 = some r) :
  Calls Try.prog 11 #[.string a0,.int .u64 a1,.string a2] w fun e w' => e = .returned (.bool r) ∧ Below w.heap.size w w':=by
 have hu39:=Try.underlying39
 have hu41:=Try.underlying41
 have HB:=Aside0.mk (Below.refl w.heap.size w)
 have H : (if (a0.size : Int) > 300 then (ratlinelaw03_IkeyRight.j0 k a0 a1 a2 true) else (ratlinelaw03_IkeyRight.j0 k a0 a1 a2 (decide ((a2.size : Int) > 600)))) = some r:=h
 clear h
 have HC4:=Aside0.mk H
 clear H
 go_enter Try.func11,Try.ntmps11
 go_upto_region 1 with (fail)
 go_cut [19] (fun v19 wc => ∃ (kq : Nat) (x19_3 : Bool),v19 = .bool x19_3 ∧ Aside0 (ratlinelaw03_IkeyRight.j0 kq a0 a1 a2 x19_3 = some r) ∧ Aside0 (kq ≤ k) ∧ Aside0 (Below w.heap.size w wc))
 case first =>
  have H:=HC4.out
  clear HC4
  by_cases c5 : (a0.size : Int) > 300
  ·rw [if_pos c5] at H
   have c5b0 : decide (300 < (a0.size : Int)) = true:=decide_eq_true c5
   have c5b1 : decide (300 < a0.size) = true:=decide_eq_true (by omega)
   clear c5
   (first|rw [c5b0]|(simp only [i64_w,i32_w];rw [c5b0])|skip)
   have H':=Aside0.mk H
   clear H
   go_wp2
   go_meet
   case rel => exact ⟨_,(true),(by first|rfl|(simp;done)|(simp [*];done)),H',⟨by first|omega|exact Nat.le_refl _⟩,⟨by repeat (first|(with_reducible first|exact HB.out|apply below_alloc|apply pw_below_drewN|apply below_drew1)|exact HB.out)⟩⟩
  ·rw [if_neg c5] at H
   have c5b0 : decide (300 < (a0.size : Int)) = false:=decide_eq_false c5
   have c5b1 : decide (300 < a0.size) = false:=decide_eq_false (by omega)
   clear c5
   (first|rw [c5b0]|(simp only [i64_w,i32_w];rw [c5b0])|skip)
   have H':=Aside0.mk H
   clear H
   go_wp2
   go_meet
   case rel => exact ⟨_,(decide ((a2.size : Int) > 600)),(by first|rfl|(simp;done)|(simp [*];done)),H',⟨by first|omega|exact Nat.le_refl _⟩,⟨by repeat (first|(with_reducible first|exact HB.out|apply below_alloc|apply pw_below_drewN|apply below_drew1)|exact HB.out)⟩⟩
 case rest =>
  clear HC4
  try clear c1
  try clear p2
  try clear c5
  try clear c5b0
  try clear c5b1
  obtain ⟨kq,x19_3,rfl,HA,HJ3,HB⟩:=hcut
  cases kq with
  | zero => exact absurd HA.out (by simp [ratlinelaw03_IkeyRight.j0])
  | succ kj3 =>
   have H:=HA.out
   clear HA
   simp only [ratlinelaw03_IkeyRight.j0] at H
   by_cases c6 : x19_3 = true
   ·subst c6
    have H1 : ((ratlinelaw03_awake.f kj3).bind fun t242 => (some t242)) = some r:=by rw [if_pos rfl] at H;exact H
    clear H
    have H:=H1
    clear H1
    replace H:=Option.bind_eq_some_iff.mp H
    obtain ⟨t242,A70,H⟩:=H
    replace H : (some t242) = some r:=H
    have A7:=Aside0.mk A70
    clear A70
    obtain rfl:=Option.some.inj H
    go_wp2_with (first|(go_at_call 26;(with_reducible refine (ratlinelaw03_awake.calls kj3  t242 _ A7.out).mono ?_);rintro e w8 ⟨rfl,hb⟩;have n0_:=Aside0.mk (below_step (by repeat (first|(with_reducible first|exact HB.out|apply below_alloc|apply pw_below_drewN|apply below_drew1)|exact HB.out)) hb);clear HB;have HB:=n0_;clear n0_;(try clear hb);(try clear hb2);(try clear hk);(try clear hi);(try apply_assumption)))
    go_ret
    exact ⟨by first|rfl|(simp [errW_none,errW_some] <;> rfl)|(simp [*,errW_none,errW_some] <;> rfl),by repeat (first|(with_reducible first|exact HB.out|apply below_alloc|apply pw_below_drewN|apply below_drew1)|exact HB.out)⟩
   ·replace c6:=Bool.eq_false_iff.mpr c6
    subst c6
    have H1 : (if a0.size + 1 ≤ 9223372036854775807 then (if 0 ≤ (mn (wrap64 ((a0.size : Int) + 1)) 64) then (if (mn (wrap64 ((a0.size : Int) + 1)) 64) ≤ ((a0 ++ (⟨#[120]⟩ : ByteArray)).size : Int) then (if 0 ≤ (mn (a2.size : Int) 256) then (if (mn (a2.size : Int) 256) ≤ (a2.size : Int) then ((ratlinelaw03_one.f ((a0 ++ (⟨#[120]⟩ : ByteArray)).extract 0 ((mn (wrap64 ((a0.size : Int) + 1)) 64) : Int).toNat) (mn a1 72057594037927935) 1).bind fun bt243 => (if 0 ≤ (wrap64 (65 - (((a0 ++ (⟨#[120]⟩ : ByteArray)).extract 0 ((mn (wrap64 ((a0.size : Int) + 1)) 64) : Int).toNat).size : Int))) then (if (wrap64 (65 - (((a0 ++ (⟨#[120]⟩ : ByteArray)).extract 0 ((mn (wrap64 ((a0.size : Int) + 1)) 64) : Int).toNat).size : Int)) : Int).toNat ≤ 281474976710656 then ((some (List.replicate (wrap64 (65 - (((a0 ++ (⟨#[120]⟩ : ByteArray)).extract 0 ((mn (wrap64 ((a0.size : Int) + 1)) 64) : Int).toNat).size : Int)) : Int).toNat 0 : List Int)).bind fun y250 => (if ((a0 ++ (⟨#[120]⟩ : ByteArray)).extract 0 ((mn (wrap64 ((a0.size : Int) + 1)) 64) : Int).toNat).size + (strOfNums y250).size ≤ 9223372036854775807 then ((ikey_Right.f bt243.1 bt243.2.1 bt243.2.2).bind fun t253 => (if t253 = true then ((ikey_Right.f (((a0 ++ (⟨#[120]⟩ : ByteArray)).extract 0 ((mn (wrap64 ((a0.size : Int) + 1)) 64) : Int).toNat) ++ (strOfNums y250)) bt243.2.1 bt243.2.2).bind fun t254 => (if t254 = true then (ratlinelaw03_IkeyRight.j1 kj3 (a2.extract 0 ((mn (a2.size : Int) 256) : Int).toNat) true bt243.1 bt243.2.1 bt243.2.2 (((a0 ++ (⟨#[120]⟩ : ByteArray)).extract 0 ((mn (wrap64 ((a0.size : Int) + 1)) 64) : Int).toNat) ++ (strOfNums y250)) bt243.2.1 bt243.2.2) else ((ikey_Right.f bt243.1 (mx a1 72057594037927936) bt243.2.2).bind fun t255 => (if t255 = true then (ratlinelaw03_IkeyRight.j1 kj3 (a2.extract 0 ((mn (a2.size : Int) 256) : Int).toNat) true bt243.1 bt243.2.1 bt243.2.2 (((a0 ++ (⟨#[120]⟩ : ByteArray)).extract 0 ((mn (wrap64 ((a0.size : Int) + 1)) 64) : Int).toNat) ++ (strOfNums y250)) bt243.2.1 bt243.2.2) else ((ikey_Right.f bt243.1 bt243.2.1 2).bind fun t256 => (if t256 = true then (ratlinelaw03_IkeyRight.j1 kj3 (a2.extract 0 ((mn (a2.size : Int) 256) : Int).toNat) true bt243.1 bt243.2.1 bt243.2.2 (((a0 ++ (⟨#[120]⟩ : ByteArray)).extract 0 ((mn (wrap64 ((a0.size : Int) + 1)) 64) : Int).toNat) ++ (strOfNums y250)) bt243.2.1 bt243.2.2) else ((ratlinelaw03_one.f (⟨#[]⟩ : ByteArray) bt243.2.1 1).bind fun bt257 => ((ikey_Right.f bt257.1 bt257.2.1 bt257.2.2).bind fun t260 => (ratlinelaw03_IkeyRight.j1 kj3 (a2.extract 0 ((mn (a2.size : Int) 256) : Int).toNat) t260 bt243.1 bt243.2.1 bt243.2.2 (((a0 ++ (⟨#[120]⟩ : ByteArray)).extract 0 ((mn (wrap64 ((a0.size : Int) + 1)) 64) : Int).toNat) ++ (strOfNums y250)) bt243.2.1 bt243.2.2))))))))) else (ratlinelaw03_IkeyRight.j1 kj3 (a2.extract 0 ((mn (a2.size : Int) 256) : Int).toNat) true bt243.1 bt243.2.1 bt243.2.2 (((a0 ++ (⟨#[120]⟩ : ByteArray)).extract 0 ((mn (wrap64 ((a0.size : Int) + 1)) 64) : Int).toNat) ++ (strOfNums y250)) bt243.2.1 bt243.2.2))) else (none))) else (none)) else (none))) else (none)) else (none)) else (none)) else (none)) else (none)) = some r:=by rw [if_neg (show ¬ (false = true) by decide)] at H;exact H
    clear H
    have H:=H1
    clear H1
    by_cases c9 : a0.size + 1 ≤ 9223372036854775807
    ·rw [if_pos c9] at H
     have c9b0:=eq_true c9
     have c9b1 : decide (a0.size + 1 ≤ 9223372036854775807) = true:=decide_eq_true c9
     try have c9b2 : (9223372036854775807 < a0.size + 1) = False:=eq_false (Nat.not_lt.2 c9)
     obtain ⟨ji10,hji10⟩ : ∃ j_ : Int,(mn (wrap64 ((a0.size : Int) + 1)) 64) = j_:=⟨_,rfl⟩
     replace H : (if 0 ≤ (ji10) then (if (ji10) ≤ ((a0 ++ (⟨#[120]⟩ : ByteArray)).size : Int) then (if 0 ≤ (mn (a2.size : Int) 256) then (if (mn (a2.size : Int) 256) ≤ (a2.size : Int) then ((ratlinelaw03_one.f ((a0 ++ (⟨#[120]⟩ : ByteArray)).extract 0 ((ji10) : Int).toNat) (mn a1 72057594037927935) 1).bind fun bt243 => (if 0 ≤ (wrap64 (65 - (((a0 ++ (⟨#[120]⟩ : ByteArray)).extract 0 ((ji10) : Int).toNat).size : Int))) then (if (wrap64 (65 - (((a0 ++ (⟨#[120]⟩ : ByteArray)).extract 0 ((ji10) : Int).toNat).size : Int)) : Int).toNat ≤ 281474976710656 then ((some (List.replicate (wrap64 (65 - (((a0 ++ (⟨#[120]⟩ : ByteArray)).extract 0 ((ji10) : Int).toNat).size : Int)) : Int).toNat 0 : List Int)).bind fun y250 => (if ((a0 ++ (⟨#[120]⟩ : ByteArray)).extract 0 ((ji10) : Int).toNat).size + (strOfNums y250).size ≤ 9223372036854775807 then ((ikey_Right.f bt243.1 bt243.2.1 bt243.2.2).bind fun t253 => (if t253 = true then ((ikey_Right.f (((a0 ++ (⟨#[120]⟩ : ByteArray)).extract 0 ((ji10) : Int).toNat) ++ (strOfNums y250)) bt243.2.1 bt243.2.2).bind fun t254 => (if t254 = true then (ratlinelaw03_IkeyRight.j1 kj3 (a2.extract 0 ((mn (a2.size : Int) 256) : Int).toNat) true bt243.1 bt243.2.1 bt243.2.2 (((a0 ++ (⟨#[120]⟩ : ByteArray)).extract 0 ((ji10) : Int).toNat) ++ (strOfNums y250)) bt243.2.1 bt243.2.2) else ((ikey_Right.f bt243.1 (mx a1 72057594037927936) bt243.2.2).bind fun t255 => (if t255 = true then (ratlinelaw03_IkeyRight.j1 kj3 (a2.extract 0 ((mn (a2.size : Int) 256) : Int).toNat) true bt243.1 bt243.2.1 bt243.2.2 (((a0 ++ (⟨#[120]⟩ : ByteArray)).extract 0 ((ji10) : Int).toNat) ++ (strOfNums y250)) bt243.2.1 bt243.2.2) else ((ikey_Right.f bt243.1 bt243.2.1 2).bind fun t256 => (if t256 = true then (ratlinelaw03_IkeyRight.j1 kj3 (a2.extract 0 ((mn (a2.size : Int) 256) : Int).toNat) true bt243.1 bt243.2.1 bt243.2.2 (((a0 ++ (⟨#[120]⟩ : ByteArray)).extract 0 ((ji10) : Int).toNat) ++ (strOfNums y250)) bt243.2.1 bt243.2.2) else ((ratlinelaw03_one.f (⟨#[]⟩ : ByteArray) bt243.2.1 1).bind fun bt257 => ((ikey_Right.f bt257.1 bt257.2.1 bt257.2.2).bind fun t260 => (ratlinelaw03_IkeyRight.j1 kj3 (a2.extract 0 ((mn (a2.size : Int) 256) : Int).toNat) t260 bt243.1 bt243.2.1 bt243.2.2 (((a0 ++ (⟨#[120]⟩ : ByteArray)).extract 0 ((ji10) : Int).toNat) ++ (strOfNums y250)) bt243.2.1 bt243.2.2))))))))) else (ratlinelaw03_IkeyRight.j1 kj3 (a2.extract 0 ((mn (a2.size : Int) 256) : Int).toNat) true bt243.1 bt243.2.1 bt243.2.2 (((a0 ++ (⟨#[120]⟩ : ByteArray)).extract 0 ((ji10) : Int).toNat) ++ (strOfNums y250)) bt243.2.1 bt243.2.2))) else (none))) else (none)) else (none))) else (none)) else (none)) else (none)) else (none)) = some r:=by first|(rw [hji10] at H;exact H)|(simp only [hji10] at H ⊢;exact H)
     have hji10_ : (if 64 < (wrap64 ((a0.size : Int) + 1)) then 64 else (wrap64 ((a0.size : Int) + 1))) = ji10:=hji10
     by_cases c11 : 0 ≤ (ji10)
     ·rw [if_pos c11] at H
      have c11b0:=eq_true c11
      have c11b1 : decide (0 ≤ (ji10)) = true:=decide_eq_true c11
      clear c11
      by_cases c12 : (ji10) ≤ ((a0 ++ (⟨#[120]⟩ : ByteArray)).size : Int)
      ·rw [if_pos c12] at H
       have c12b0:=eq_true c12
       have c12z : ((ji10) ≤ (a0.size : Int) + 1) = True:=eq_true (by have h_:=c12;rw [ByteArray.size_append] at h_;have e_ : (⟨#[120]⟩ : ByteArray).size = 1:=rfl;omega)
       have c12b1 : decide ((ji10) ≤ ((a0 ++ (⟨#[120]⟩ : ByteArray)).size : Int)) = true:=decide_eq_true c12
       obtain ⟨ji13,hji13⟩ : ∃ j_ : Int,(mn (a2.size : Int) 256) = j_:=⟨_,rfl⟩
       replace H : (if 0 ≤ (ji13) then (if (ji13) ≤ (a2.size : Int) then ((ratlinelaw03_one.f ((a0 ++ (⟨#[120]⟩ : ByteArray)).extract 0 ((ji10) : Int).toNat) (mn a1 72057594037927935) 1).bind fun bt243 => (if 0 ≤ (wrap64 (65 - (((a0 ++ (⟨#[120]⟩ : ByteArray)).extract 0 ((ji10) : Int).toNat).size : Int))) then (if (wrap64 (65 - (((a0 ++ (⟨#[120]⟩ : ByteArray)).extract 0 ((ji10) : Int).toNat).size : Int)) : Int).toNat ≤ 281474976710656 then ((some (List.replicate (wrap64 (65 - (((a0 ++ (⟨#[120]⟩ : ByteArray)).extract 0 ((ji10) : Int).toNat).size : Int)) : Int).toNat 0 : List Int)).bind fun y250 => (if ((a0 ++ (⟨#[120]⟩ : ByteArray)).extract 0 ((ji10) : Int).toNat).size + (strOfNums y250).size ≤ 9223372036854775807 then ((ikey_Right.f bt243.1 bt243.2.1 bt243.2.2).bind fun t253 => (if t253 = true then ((ikey_Right.f (((a0 ++ (⟨#[120]⟩ : ByteArray)).extract 0 ((ji10) : Int).toNat) ++ (strOfNums y250)) bt243.2.1 bt243.2.2).bind fun t254 => (if t254 = true then (ratlinelaw03_IkeyRight.j1 kj3 (a2.extract 0 ((ji13) : Int).toNat) true bt243.1 bt243.2.1 bt243.2.2 (((a0 ++ (⟨#[120]⟩ : ByteArray)).extract 0 ((ji10) : Int).toNat) ++ (strOfNums y250)) bt243.2.1 bt243.2.2) else ((ikey_Right.f bt243.1 (mx a1 72057594037927936) bt243.2.2).bind fun t255 => (if t255 = true then (ratlinelaw03_IkeyRight.j1 kj3 (a2.extract 0 ((ji13) : Int).toNat) true bt243.1 bt243.2.1 bt243.2.2 (((a0 ++ (⟨#[120]⟩ : ByteArray)).extract 0 ((ji10) : Int).toNat) ++ (strOfNums y250)) bt243.2.1 bt243.2.2) else ((ikey_Right.f bt243.1 bt243.2.1 2).bind fun t256 => (if t256 = true then (ratlinelaw03_IkeyRight.j1 kj3 (a2.extract 0 ((ji13) : Int).toNat) true bt243.1 bt243.2.1 bt243.2.2 (((a0 ++ (⟨#[120]⟩ : ByteArray)).extract 0 ((ji10) : Int).toNat) ++ (strOfNums y250)) bt243.2.1 bt243.2.2) else ((ratlinelaw03_one.f (⟨#[]⟩ : ByteArray) bt243.2.1 1).bind fun bt257 => ((ikey_Right.f bt257.1 bt257.2.1 bt257.2.2).bind fun t260 => (ratlinelaw03_IkeyRight.j1 kj3 (a2.extract 0 ((ji13) : Int).toNat) t260 bt243.1 bt243.2.1 bt243.2.2 (((a0 ++ (⟨#[120]⟩ : ByteArray)).extract 0 ((ji10) : Int).toNat) ++ (strOfNums y250)) bt243.2.1 bt243.2.2))))))))) else (ratlinelaw03_IkeyRight.j1 kj3 (a2.extract 0 ((ji13) : Int).toNat) true bt243.1 bt243.2.1 bt243.2.2 (((a0 ++ (⟨#[120]⟩ : ByteArray)).extract 0 ((ji10) : Int).toNat) ++ (strOfNums y250)) bt243.2.1 bt243.2.2))) else (none))) else (none)) else (none))) else (none)) else (none)) = some r:=by first|(rw [hji13] at H;exact H)|(simp only [hji13] at H ⊢;exact H)
       have hji13_ : (if 256 < (a2.size : Int) then 256 else (a2.size : Int)) = ji13:=hji13
       by_cases c14 : 0 ≤ (ji13)
       ·rw [if_pos c14] at H
        have c14b0:=eq_true c14
        have c14b1 : decide (0 ≤ (ji13)) = true:=decide_eq_true c14
        clear c14
        by_cases c15 : (ji13) ≤ (a2.size : Int)
        ·rw [if_pos c15] at H
         have c15b0:=eq_true c15
         have c15b1 : decide ((ji13) ≤ (a2.size : Int)) = true:=decide_eq_true c15
         clear c15
         obtain ⟨ji16,hji16⟩ : ∃ j_ : Int,(mn a1 72057594037927935) = j_:=⟨_,rfl⟩
         replace H : ((ratlinelaw03_one.f ((a0 ++ (⟨#[120]⟩ : ByteArray)).extract 0 ((ji10) : Int).toNat) (ji16) 1).bind fun bt243 => (if 0 ≤ (wrap64 (65 - (((a0 ++ (⟨#[120]⟩ : ByteArray)).extract 0 ((ji10) : Int).toNat).size : Int))) then (if (wrap64 (65 - (((a0 ++ (⟨#[120]⟩ : ByteArray)).extract 0 ((ji10) : Int).toNat).size : Int)) : Int).toNat ≤ 281474976710656 then ((some (List.replicate (wrap64 (65 - (((a0 ++ (⟨#[120]⟩ : ByteArray)).extract 0 ((ji10) : Int).toNat).size : Int)) : Int).toNat 0 : List Int)).bind fun y250 => (if ((a0 ++ (⟨#[120]⟩ : ByteArray)).extract 0 ((ji10) : Int).toNat).size + (strOfNums y250).size ≤ 9223372036854775807 then ((ikey_Right.f bt243.1 bt243.2.1 bt243.2.2).bind fun t253 => (if t253 = true then ((ikey_Right.f (((a0 ++ (⟨#[120]⟩ : ByteArray)).extract 0 ((ji10) : Int).toNat) ++ (strOfNums y250)) bt243.2.1 bt243.2.2).bind fun t254 => (if t254 = true then (ratlinelaw03_IkeyRight.j1 kj3 (a2.extract 0 ((ji13) : Int).toNat) true bt243.1 bt243.2.1 bt243.2.2 (((a0 ++ (⟨#[120]⟩ : ByteArray)).extract 0 ((ji10) : Int).toNat) ++ (strOfNums y250)) bt243.2.1 bt243.2.2) else ((ikey_Right.f bt243.1 (mx a1 72057594037927936) bt243.2.2).bind fun t255 => (if t255 = true then (ratlinelaw03_IkeyRight.j1 kj3 (a2.extract 0 ((ji13) : Int).toNat) true bt243.1 bt243.2.1 bt243.2.2 (((a0 ++ (⟨#[120]⟩ : ByteArray)).extract 0 ((ji10) : Int).toNat) ++ (strOfNums y250)) bt243.2.1 bt243.2.2) else ((ikey_Right.f bt243.1 bt243.2.1 2).bind fun t256 => (if t256 = true then (ratlinelaw03_IkeyRight.j1 kj3 (a2.extract 0 ((ji13) : Int).toNat) true bt243.1 bt243.2.1 bt243.2.2 (((a0 ++ (⟨#[120]⟩ : ByteArray)).extract 0 ((ji10) : Int).toNat) ++ (strOfNums y250)) bt243.2.1 bt243.2.2) else ((ratlinelaw03_one.f (⟨#[]⟩ : ByteArray) bt243.2.1 1).bind fun bt257 => ((ikey_Right.f bt257.1 bt257.2.1 bt257.2.2).bind fun t260 => (ratlinelaw03_IkeyRight.j1 kj3 (a2.extract 0 ((ji13) : Int).toNat) t260 bt243.1 bt243.2.1 bt243.2.2 (((a0 ++ (⟨#[120]⟩ : ByteArray)).extract 0 ((ji10) : Int).toNat) ++ (strOfNums y250)) bt243.2.1 bt243.2.2))))))))) else (ratlinelaw03_IkeyRight.j1 kj3 (a2.extract 0 ((ji13) : Int).toNat) true bt243.1 bt243.2.1 bt243.2.2 (((a0 ++ (⟨#[120]⟩ : ByteArray)).extract 0 ((ji10) : Int).toNat) ++ (strOfNums y250)) bt243.2.1 bt243.2.2))) else (none))) else (none)) else (none))) = some r:=by first|(rw [hji16] at H;exact H)|(simp only [hji16] at H ⊢;exact H)
         have hji16_ : (if 72057594037927935 < a1 then 72057594037927935 else a1) = ji16:=hji16
         replace H:=Option.bind_eq_some_iff.mp H
         obtain ⟨⟨t243,t244,t245⟩,A170,H⟩:=H
         replace H : (if 0 ≤ (wrap64 (65 - (((a0 ++ (⟨#[120]⟩ : ByteArray)).extract 0 ((ji10) : Int).toNat).size : Int))) then (if (wrap64 (65 - (((a0 ++ (⟨#[120]⟩ : ByteArray)).extract 0 ((ji10) : Int).toNat).size : Int)) : Int).toNat ≤ 281474976710656 then ((some (List.replicate (wrap64 (65 - (((a0 ++ (⟨#[120]⟩ : ByteArray)).extract 0 ((ji10) : Int).toNat).size : Int)) : Int).toNat 0 : List Int)).bind fun y250 => (if ((a0 ++ (⟨#[120]⟩ : ByteArray)).extract 0 ((ji10) : Int).toNat).size + (strOfNums y250).size ≤ 9223372036854775807 then ((ikey_Right.f t243 t244 t245).bind fun t253 => (if t253 = true then ((ikey_Right.f (((a0 ++ (⟨#[120]⟩ : ByteArray)).extract 0 ((ji10) : Int).toNat) ++ (strOfNums y250)) t244 t245).bind fun t254 => (if t254 = true then (ratlinelaw03_IkeyRight.j1 kj3 (a2.extract 0 ((ji13) : Int).toNat) true t243 t244 t245 (((a0 ++ (⟨#[120]⟩ : ByteArray)).extract 0 ((ji10) : Int).toNat) ++ (strOfNums y250)) t244 t245) else ((ikey_Right.f t243 (mx a1 72057594037927936) t245).bind fun t255 => (if t255 = true then (ratlinelaw03_IkeyRight.j1 kj3 (a2.extract 0 ((ji13) : Int).toNat) true t243 t244 t245 (((a0 ++ (⟨#[120]⟩ : ByteArray)).extract 0 ((ji10) : Int).toNat) ++ (strOfNums y250)) t244 t245) else ((ikey_Right.f t243 t244 2).bind fun t256 => (if t256 = true then (ratlinelaw03_IkeyRight.j1 kj3 (a2.extract 0 ((ji13) : Int).toNat) true t243 t244 t245 (((a0 ++ (⟨#[120]⟩ : ByteArray)).extract 0 ((ji10) : Int).toNat) ++ (strOfNums y250)) t244 t245) else ((ratlinelaw03_one.f (⟨#[]⟩ : ByteArray) t244 1).bind fun bt257 => ((ikey_Right.f bt257.1 bt257.2.1 bt257.2.2).bind fun t260 => (ratlinelaw03_IkeyRight.j1 kj3 (a2.extract 0 ((ji13) : Int).toNat) t260 t243 t244 t245 (((a0 ++ (⟨#[120]⟩ : ByteArray)).extract 0 ((ji10) : Int).toNat) ++ (strOfNums y250)) t244 t245))))))))) else (ratlinelaw03_IkeyRight.j1 kj3 (a2.extract 0 ((ji13) : Int).toNat) true t243 t244 t245 (((a0 ++ (⟨#[120]⟩ : ByteArray)).extract 0 ((ji10) : Int).toNat) ++ (strOfNums y250)) t244 t245))) else (none))) else (none)) else (none)) = some r:=H
         have A17:=Aside0.mk A170
         clear A170
         obtain ⟨ji18,hji18⟩ : ∃ j_ : Int,(wrap64 (65 - (((a0 ++ (⟨#[120]⟩ : ByteArray)).extract 0 ((ji10) : Int).toNat).size : Int))) = j_:=⟨_,rfl⟩
         (try (have hji18m : (wrap64 (65 - max ji10 0)) = ji18:=by (rw [← hji18];rw [show (max ji10 0 : Int) = (((a0 ++ (⟨#[120]⟩ : ByteArray)).extract 0 ((ji10) : Int).toNat).size : Int) from by (rw [ByteArray.size_extract];have h_:=of_eq_true c12b0;omega)])))
         (try (have hji18mw : IntKind.i64.wrap ((65 - max ji10 0)) = ji18:=(i64_w _).trans hji18m))
         replace H : (if 0 ≤ (ji18) then (if (ji18 : Int).toNat ≤ 281474976710656 then ((some (List.replicate (ji18 : Int).toNat 0 : List Int)).bind fun y250 => (if ((a0 ++ (⟨#[120]⟩ : ByteArray)).extract 0 ((ji10) : Int).toNat).size + (strOfNums y250).size ≤ 9223372036854775807 then ((ikey_Right.f t243 t244 t245).bind fun t253 => (if t253 = true then ((ikey_Right.f (((a0 ++ (⟨#[120]⟩ : ByteArray)).extract 0 ((ji10) : Int).toNat) ++ (strOfNums y250)) t244 t245).bind fun t254 => (if t254 = true then (ratlinelaw03_IkeyRight.j1 kj3 (a2.extract 0 ((ji13) : Int).toNat) true t243 t244 t245 (((a0 ++ (⟨#[120]⟩ : ByteArray)).extract 0 ((ji10) : Int).toNat) ++ (strOfNums y250)) t244 t245) else ((ikey_Right.f t243 (mx a1 72057594037927936) t245).bind fun t255 => (if t255 = true then (ratlinelaw03_IkeyRight.j1 kj3 (a2.extract 0 ((ji13) : Int).toNat) true t243 t244 t245 (((a0 ++ (⟨#[120]⟩ : ByteArray)).extract 0 ((ji10) : Int).toNat) ++ (strOfNums y250)) t244 t245) else ((ikey_Right.f t243 t244 2).bind fun t256 => (if t256 = true then (ratlinelaw03_IkeyRight.j1 kj3 (a2.extract 0 ((ji13) : Int).toNat) true t243 t244 t245 (((a0 ++ (⟨#[120]⟩ : ByteArray)).extract 0 ((ji10) : Int).toNat) ++ (strOfNums y250)) t244 t245) else ((ratlinelaw03_one.f (⟨#[]⟩ : ByteArray) t244 1).bind fun bt257 => ((ikey_Right.f bt257.1 bt257.2.1 bt257.2.2).bind fun t260 => (ratlinelaw03_IkeyRight.j1 kj3 (a2.extract 0 ((ji13) : Int).toNat) t260 t243 t244 t245 (((a0 ++ (⟨#[120]⟩ : ByteArray)).extract 0 ((ji10) : Int).toNat) ++ (strOfNums y250)) t244 t245))))))))) else (ratlinelaw03_IkeyRight.j1 kj3 (a2.extract 0 ((ji13) : Int).toNat) true t243 t244 t245 (((a0 ++ (⟨#[120]⟩ : ByteArray)).extract 0 ((ji10) : Int).toNat) ++ (strOfNums y250)) t244 t245))) else (none))) else (none)) else (none)) = some r:=by first|(rw [hji18] at H;exact H)|(simp only [hji18] at H ⊢;exact H)
         (try rw [hji18] at A17)
         have hji18w : (IntKind.i64.wrap (65 - (((a0 ++ (⟨#[120]⟩ : ByteArray)).extract 0 ((ji10) : Int).toNat).size : Int))) = ji18:=(i64_w _).trans hji18
         by_cases c19 : 0 ≤ (ji18)
         ·rw [if_pos c19] at H
          have c19b0:=eq_true c19
          have c19b1 : decide (0 ≤ (ji18)) = true:=decide_eq_true c19
          clear c19
          by_cases c20 : (ji18 : Int).toNat ≤ 281474976710656
          ·rw [if_pos c20] at H
           have c20b0:=eq_true c20
           have c20b1 : decide ((ji18 : Int).toNat ≤ 281474976710656) = true:=decide_eq_true c20
           clear c20
           obtain ⟨y250,hy250⟩ : ∃ y_ : List Int,y_ = (List.replicate (ji18 : Int).toNat 0):=⟨_,rfl⟩
           replace H : (if ((a0 ++ (⟨#[120]⟩ : ByteArray)).extract 0 ((ji10) : Int).toNat).size + (strOfNums y250).size ≤ 9223372036854775807 then ((ikey_Right.f t243 t244 t245).bind fun t253 => (if t253 = true then ((ikey_Right.f (((a0 ++ (⟨#[120]⟩ : ByteArray)).extract 0 ((ji10) : Int).toNat) ++ (strOfNums y250)) t244 t245).bind fun t254 => (if t254 = true then (ratlinelaw03_IkeyRight.j1 kj3 (a2.extract 0 ((ji13) : Int).toNat) true t243 t244 t245 (((a0 ++ (⟨#[120]⟩ : ByteArray)).extract 0 ((ji10) : Int).toNat) ++ (strOfNums y250)) t244 t245) else ((ikey_Right.f t243 (mx a1 72057594037927936) t245).bind fun t255 => (if t255 = true then (ratlinelaw03_IkeyRight.j1 kj3 (a2.extract 0 ((ji13) : Int).toNat) true t243 t244 t245 (((a0 ++ (⟨#[120]⟩ : ByteArray)).extract 0 ((ji10) : Int).toNat) ++ (strOfNums y250)) t244 t245) else ((ikey_Right.f t243 t244 2).bind fun t256 => (if t256 = true then (ratlinelaw03_IkeyRight.j1 kj3 (a2.extract 0 ((ji13) : Int).toNat) true t243 t244 t245 (((a0 ++ (⟨#[120]⟩ : ByteArray)).extract 0 ((ji10) : Int).toNat) ++ (strOfNums y250)) t244 t245) else ((ratlinelaw03_one.f (⟨#[]⟩ : ByteArray) t244 1).bind fun bt257 => ((ikey_Right.f bt257.1 bt257.2.1 bt257.2.2).bind fun t260 => (ratlinelaw03_IkeyRight.j1 kj3 (a2.extract 0 ((ji13) : Int).toNat) t260 t243 t244 t245 (((a0 ++ (⟨#[120]⟩ : ByteArray)).extract 0 ((ji10) : Int).toNat) ++ (strOfNums y250)) t244 t245))))))))) else (ratlinelaw03_IkeyRight.j1 kj3 (a2.extract 0 ((ji13) : Int).toNat) true t243 t244 t245 (((a0 ++ (⟨#[120]⟩ : ByteArray)).extract 0 ((ji10) : Int).toNat) ++ (strOfNums y250)) t244 t245))) else (none)) = some r:=by first|(rw [hy250];with_reducible exact H)|(have H2_:=(Option.bind_some _ _).symm.trans H;rw [hy250];with_reducible exact H2_)|(have H2_:=(Option.bind_some _ _).symm.trans H;with_reducible exact H2_)|with_reducible exact H|(rw [hy250];exact H)|exact H
           have Ny250:=Aside0.mk hy250
           clear hy250
           by_cases c21 : ((a0 ++ (⟨#[120]⟩ : ByteArray)).extract 0 ((ji10) : Int).toNat).size + (strOfNums y250).size ≤ 9223372036854775807
           ·rw [if_pos c21] at H
            have c21b0:=eq_true c21
            (try (have c21e : (9223372036854775807 < (ji10 : Int).toNat + (strOfNums y250).size) = False:=eq_false (by have h_:=c21;rw [ByteArray.size_extract] at h_;have h2_:=of_eq_true c12b0;omega)))
            have c21b1 : decide (((a0 ++ (⟨#[120]⟩ : ByteArray)).extract 0 ((ji10) : Int).toNat).size + (strOfNums y250).size ≤ 9223372036854775807) = true:=decide_eq_true c21
            try have c21b2 : (9223372036854775807 < ((a0 ++ (⟨#[120]⟩ : ByteArray)).extract 0 ((ji10) : Int).toNat).size + (strOfNums y250).size) = False:=eq_false (Nat.not_lt.2 c21)
            obtain ⟨ji22,hji22⟩ : ∃ j_ : Int,(mx a1 72057594037927936) = j_:=⟨_,rfl⟩
            replace H : ((ikey_Right.f t243 t244 t245).bind fun t253 => (if t253 = true then ((ikey_Right.f (((a0 ++ (⟨#[120]⟩ : ByteArray)).extract 0 ((ji10) : Int).toNat) ++ (strOfNums y250)) t244 t245).bind fun t254 => (if t254 = true then (ratlinelaw03_IkeyRight.j1 kj3 (a2.extract 0 ((ji13) : Int).toNat) true t243 t244 t245 (((a0 ++ (⟨#[120]⟩ : ByteArray)).extract 0 ((ji10) : Int).toNat) ++ (strOfNums y250)) t244 t245) else ((ikey_Right.f t243 (ji22) t245).bind fun t255 => (if t255 = true then (ratlinelaw03_IkeyRight.j1 kj3 (a2.extract 0 ((ji13) : Int).toNat) true t243 t244 t245 (((a0 ++ (⟨#[120]⟩ : ByteArray)).extract 0 ((ji10) : Int).toNat) ++ (strOfNums y250)) t244 t245) else ((ikey_Right.f t243 t244 2).bind fun t256 => (if t256 = true then (ratlinelaw03_IkeyRight.j1 kj3 (a2.extract 0 ((ji13) : Int).toNat) true t243 t244 t245 (((a0 ++ (⟨#[120]⟩ : ByteArray)).extract 0 ((ji10) : Int).toNat) ++ (strOfNums y250)) t244 t245) else ((ratlinelaw03_one.f (⟨#[]⟩ : ByteArray) t244 1).bind fun bt257 => ((ikey_Right.f bt257.1 bt257.2.1 bt257.2.2).bind fun t260 => (ratlinelaw03_IkeyRight.j1 kj3 (a2.extract 0 ((ji13) : Int).toNat) t260 t243 t244 t245 (((a0 ++ (⟨#[120]⟩ : ByteArray)).extract 0 ((ji10) : Int).toNat) ++ (strOfNums y250)) t244 t245))))))))) else (ratlinelaw03_IkeyRight.j1 kj3 (a2.extract 0 ((ji13) : Int).toNat) true t243 t244 t245 (((a0 ++ (⟨#[120]⟩ : ByteArray)).extract 0 ((ji10) : Int).toNat) ++ (strOfNums y250)) t244 t245))) = some r:=by first|(rw [hji22] at H;exact H)|(simp only [hji22] at H ⊢;exact H)
            (try rw [hji22] at A17)
            have hji22_ : (if a1 < 72057594037927936 then 72057594037927936 else a1) = ji22:=hji22
            have HC23:=Aside0.mk H
            clear H
            try go_wp2
            have n0_:=Aside0.mk (below_drew1 HB.out)
            clear HB
            have HB:=n0_
            clear n0_
            refine start_ (n:=14) (S:=fun w' => True) (ds:=[]) #[false,false,false,false,false,false,false,false,false,false,false,false,false,false] (by kernel_rfl) rfl rfl trivial (fun hHeld => ?_);refine with_tabW ratlinelaw03_IkeyRight.tab3 ratlinelaw03_IkeyRight.bits3 (fun HT_ HW_ => ?_)
            generalize wc.drew = w24 at HB hHeld ⊢
            refine pure_ (i:=0) (N:=some 21) (v:=?_) (a':=?_) #[true,false,false,false,false,false,false,false,false,false,false,false,false,false] rfl rfl (any_of HT_.out (by kernel_rfl)) (fun _ _ _ h => h) (Or.inl ⟨by rfl,?_⟩) ?_ ?_
            rotate_left
            ·intro w'
             go_simp
             (try simp only [hji18m,hji18mw])
             with_reducible rfl
            rotate_left
            ·simp only [Act.put,sA,sZ,sS,i64_w,i32_w]
             rfl
            refine pure_ (i:=1) (N:=some 22) (v:=?_) (a':=?_) #[true,true,false,false,false,false,false,false,false,false,false,false,false,false] rfl rfl (any_of HT_.out (by kernel_rfl)) (fun _ _ _ h => h) (Or.inl ⟨by rfl,?_⟩) ?_ ?_
            rotate_left
            ·intro w'
             go_simp
             (try simp only [hji18m,hji18mw])
             with_reducible rfl
            rotate_left
            ·simp only [Act.put,sA,sZ,sS,i64_w,i32_w]
             rfl
            refine pure_ (i:=2) (N:=some 23) (v:=?_) (a':=?_) #[true,true,true,false,false,false,false,false,false,false,false,false,false,false] rfl rfl (any_of HT_.out (by kernel_rfl)) (fun _ _ _ h => h) (Or.inl ⟨by rfl,?_⟩) ?_ ?_
            rotate_left
            ·intro w'
             go_simp
             (try simp only [hji18m,hji18mw])
             with_reducible rfl
            rotate_left
            ·simp only [Act.put,sA,sZ,sS,i64_w,i32_w]
             rfl
            refine pure_ (i:=3) (N:=some 24) (v:=?_) (a':=?_) #[true,true,true,true,false,false,false,false,false,false,false,false,false,false] rfl rfl (any_of HT_.out (by kernel_rfl)) (fun _ _ _ h => h) (Or.inl ⟨by rfl,?_⟩) ?_ ?_
            rotate_left
            ·intro w'
             go_simp
             (try simp only [hji18m,hji18mw])
             with_reducible rfl
            rotate_left
            ·simp only [Act.put,sA,sZ,sS,i64_w,i32_w]
             rfl
            refine pure_ (i:=4) (N:=some 25) (v:=?_) (a':=?_) #[true,true,true,true,true,false,false,false,false,false,false,false,false,false] rfl rfl (any_of HT_.out (by kernel_rfl)) (fun _ _ _ h => h) (Or.inl ⟨by rfl,?_⟩) ?_ ?_
            rotate_left
            ·intro w'
             go_simp
             (try simp only [hji18m,hji18mw])
             with_reducible rfl
            rotate_left
            ·simp only [Act.put,sA,sZ,sS,i64_w,i32_w]
             rfl
            refine pure_ (i:=5) (N:=some 26) (v:=?_) (a':=?_) #[true,true,true,true,true,true,false,false,false,false,false,false,false,false] rfl rfl (any_of HT_.out (by kernel_rfl)) (fun _ _ _ h => h) (Or.inl ⟨by rfl,?_⟩) ?_ ?_
            rotate_left
            ·intro w'
             go_simp
             (try simp only [hji18m,hji18mw])
             with_reducible rfl
            rotate_left
            ·simp only [Act.put,sA,sZ,sS,i64_w,i32_w]
             rfl
            refine pure_ (i:=6) (N:=some 27) (v:=?_) (a':=?_) #[true,true,true,true,true,true,true,false,false,false,false,false,false,false] rfl rfl (any_of HT_.out (by kernel_rfl)) (fun _ _ _ h => h) (Or.inl ⟨by rfl,?_⟩) ?_ ?_
            rotate_left
            ·intro w'
             go_simp
             (try simp only [hji18m,hji18mw])
             with_reducible rfl
            rotate_left
            ·simp only [Act.put,sA,sZ,sS,i64_w,i32_w]
             rfl
            refine pure_ (i:=7) (N:=some 28) (v:=?_) (a':=?_) #[true,true,true,true,true,true,true,true,false,false,false,false,false,false] rfl rfl (any_of HT_.out (by kernel_rfl)) (fun _ _ _ h => h) (Or.inl ⟨by rfl,?_⟩) ?_ ?_
            rotate_left
            ·intro w'
             go_simp
             (try simp only [hji18m,hji18mw])
             with_reducible rfl
            rotate_left
            ·simp only [Act.put,sA,sZ,sS,i64_w,i32_w]
             rfl
            refine pure_ (i:=8) (N:=some 29) (v:=?_) (a':=?_) #[true,true,true,true,true,true,true,true,true,false,false,false,false,false] rfl rfl (any_of HT_.out (by kernel_rfl)) (fun _ _ _ h => h) (Or.inl ⟨by rfl,?_⟩) ?_ ?_
            rotate_left
            ·intro w'
             go_simp
             (try simp only [hji18m,hji18mw])
             with_reducible rfl
            rotate_left
            ·simp only [Act.put,sA,sZ,sS,i64_w,i32_w]
             rfl
            refine pure_ (i:=9) (N:=some 30) (v:=?_) (a':=?_) #[true,true,true,true,true,true,true,true,true,true,false,false,false,false] rfl rfl (any_of HT_.out (by kernel_rfl)) (fun _ _ _ h => h) (Or.inl ⟨by rfl,?_⟩) ?_ ?_
            rotate_left
            ·intro w'
             go_simp
             (try simp only [hji18m,hji18mw])
             with_reducible rfl
            rotate_left
            ·simp only [Act.put,sA,sZ,sS,i64_w,i32_w]
             rfl
            refine pure_ (i:=10) (N:=some 31) (v:=?_) (a':=?_) #[true,true,true,true,true,true,true,true,true,true,true,false,false,false] rfl rfl (any_of HT_.out (by kernel_rfl)) (fun _ _ _ h => h) (Or.inl ⟨by rfl,?_⟩) ?_ ?_
            rotate_left
            ·intro w'
             go_simp
             (try simp only [hji18m,hji18mw])
             with_reducible rfl
            rotate_left
            ·simp only [Act.put,sA,sZ,sS,i64_w,i32_w]
             rfl
            refine pure_ (i:=11) (N:=some 32) (v:=?_) (a':=?_) #[true,true,true,true,true,true,true,true,true,true,true,true,false,false] rfl rfl (any_of HT_.out (by kernel_rfl)) (fun _ _ _ h => h) (Or.inl ⟨by rfl,?_⟩) ?_ ?_
            rotate_left
            ·intro w'
             go_simp
             (try simp only [hji18m,hji18mw])
             with_reducible rfl
            rotate_left
            ·simp only [Act.put,sA,sZ,sS,i64_w,i32_w]
             rfl
            refine pure_ (i:=12) (N:=some 0) (v:=?_) (a':=?_) #[true,true,true,true,true,true,true,true,true,true,true,true,true,false] rfl rfl (any_of HT_.out (by kernel_rfl)) (fun _ _ _ h => h) (Or.inl ⟨by rfl,?_⟩) ?_ ?_
            rotate_left
            ·intro w'
             go_simp
             (try simp only [hji18m,hji18mw])
             with_reducible rfl
            rotate_left
            ·simp only [Act.put,sA,sZ,sS,i64_w,i32_w]
             rfl
            refine pure_ (i:=13) (N:=some 2) (v:=?_) (a':=?_) #[true,true,true,true,true,true,true,true,true,true,true,true,true,true] rfl rfl (any_of HT_.out (by kernel_rfl)) (fun _ _ _ h => h) (Or.inl ⟨by rfl,?_⟩) ?_ ?_
            rotate_left
            ·intro w'
             go_simp
             (try simp only [hji18m,hji18mw])
             with_reducible rfl
            rotate_left
            ·simp only [Act.put,sA,sZ,sS,i64_w,i32_w]
             rfl
            refine done_ (done_of HT_.out (by kernel_rfl)) ?_
            try go_wp2_with (first|((with_reducible refine gate_callee (f:=33) rfl ?_);refine goesL_ (some 36) rfl rfl Try.func33 (by kernel_rfl) rfl #[.string ((a0 ++ (⟨#[120]⟩ : ByteArray)).extract 0 ((ji10) : Int).toNat),.int .u64 ji16,.int .u8 1] rfl (by (try simp only [List.map_toArray,List.map_cons,List.map_nil]);first|done|(simp only [hji10,hji16];rfl)|rfl|(simp only [List.length_drop,List.length_take];rfl)) ?_;(with_reducible refine (ratlinelaw03_one.calls ((a0 ++ (⟨#[120]⟩ : ByteArray)).extract 0 ((ji10) : Int).toNat) ji16 1 t243 t244 t245 _ A17.out).mono ?_);rintro e w25 ⟨rfl,hb⟩;refine ⟨_,rfl,?_⟩;have n0_:=Aside0.mk (below_step (by repeat (first|(with_reducible first|exact HB.out|apply below_alloc|apply pw_below_drewN|apply below_drew1)|exact HB.out)) hb);clear HB;have HB:=n0_;clear n0_;(try clear hb);(try clear hb2);(try clear hk);(try clear hi))|((with_reducible refine gate_dst (N:=7) rfl ?_);(try (refine gate_guard (by rfl) ?_;dsimp only));refine box_event ?hg (N:=7) ?hd (cs:=#[.string (⟨#[]⟩ : ByteArray),.int .u64 0,.int .u8 0]) (t:=39) ?hr ?_;(case hd => rfl);(case hg => rfl);(case hr => first|(go_simp;done)|(go_simp;rfl));intro gb246 hg w26 hbox hb;have n0_:=Aside0.mk (below_step (by repeat (first|(with_reducible first|exact HB.out|apply below_alloc|apply pw_below_drewN|apply below_drew1)|exact HB.out)) hb);have n1_:=Aside0.mk (hbox);have n2_:=Aside0.mk ((by rw [hg];exact (below_size (by repeat (first|(with_reducible first|exact HB.out|apply below_alloc|apply pw_below_drewN|apply below_drew1)|exact HB.out))) : w.heap.size ≤ gb246));have n3_:=Aside0.mk ((by rw [hg];exact (below_size (by repeat (first|(with_reducible first|exact HB.out|apply below_alloc|apply pw_below_drewN|apply below_drew1)|exact HB.out))) : w.heap.size ≤ gb246));clear HB;have HB:=n0_;have BK246:=n1_;have GW246:=n2_;have GE246:=n3_;clear n0_ n1_ n2_ n3_;clear hb hbox hg;have hcz27_0 : w26.cell? ⟨gb246,0,none⟩ = some (.string (⟨#[]⟩ : ByteArray)):=(blk_cell BK246.out 0).trans rfl;have hcz27_1 : w26.cell? ⟨gb246,1,none⟩ = some (.int .u64 0):=(blk_cell BK246.out 1).trans rfl;have hcz27_2 : w26.cell? ⟨gb246,2,none⟩ = some (.int .u8 0):=(blk_cell BK246.out 2).trans rfl;have hfz27_0:=blk_frozen BK246.out 0;have hfz27_1:=blk_frozen BK246.out 1;have hfz27_2:=blk_frozen BK246.out 2))
            have n0_ : Aside0 ((((w26.setCell ⟨gb246,0,none⟩ (.string t243)).setCell ⟨gb246,1,none⟩ (.int .u64 t244)).setCell ⟨gb246,2,none⟩ (.int .u8 t245)).heap[gb246]? = some (.cells #[.string t243,.int .u64 t244,.int .u8 t245] 39 (0,0))):=⟨by (with_reducible repeat (first|refine bN ?_ _|refine bD ?_|refine bA ?_ _));refine blk_put (cs:=#[.string t243,.int .u64 t244,.int .u8 0]) ?_ 2 _ rfl;(with_reducible repeat (first|refine bN ?_ _|refine bD ?_|refine bA ?_ _));refine blk_put (cs:=#[.string t243,.int .u64 0,.int .u8 0]) ?_ 1 _ rfl;(with_reducible repeat (first|refine bN ?_ _|refine bD ?_|refine bA ?_ _));refine blk_put (cs:=#[.string (⟨#[]⟩ : ByteArray),.int .u64 0,.int .u8 0]) ?_ 0 _ rfl;(with_reducible repeat (first|refine bN ?_ _|refine bD ?_|refine bA ?_ _));exact BK246.out⟩
            have n1_ : Aside0 (Below w.heap.size w (((w26.setCell ⟨gb246,0,none⟩ (.string t243)).setCell ⟨gb246,1,none⟩ (.int .u64 t244)).setCell ⟨gb246,2,none⟩ (.int .u8 t245))):=⟨by repeat (first|(with_reducible first|exact HB.out|apply below_alloc|apply pw_below_drewN|apply below_drew1|refine below_set ?_ GE246.out)|exact HB.out)⟩
            (try clear BK246)
            (try clear HB)
            generalize (((w26.setCell ⟨gb246,0,none⟩ (.string t243)).setCell ⟨gb246,1,none⟩ (.int .u64 t244)).setCell ⟨gb246,2,none⟩ (.int .u8 t245)) = w28 at n0_ n1_ ⊢
            have BK246:=n0_
            have HB:=n1_
            clear n0_ n1_
            have n0_:=Aside0.mk (blk_drew BK246.out)
            have n1_:=Aside0.mk (below_drew1 HB.out)
            clear BK246
            clear HB
            have BK246:=n0_
            have HB:=n1_
            clear n0_ n1_
            refine start_ (n:=9) (S:=fun w' => w'.cell? ⟨gb246,0,none⟩ = some (.string t243) ∧ w'.cell? ⟨gb246,1,none⟩ = some (.int .u64 t244) ∧ w'.cell? ⟨gb246,2,none⟩ = some (.int .u8 t245)) (ds:=[]) #[false,false,false,false,false,false,false,false,false] (by kernel_rfl) rfl rfl ⟨(blk_cell BK246.out 0).trans rfl,(blk_cell BK246.out 1).trans rfl,(blk_cell BK246.out 2).trans rfl⟩ (fun hHeld => ?_);refine with_tabW ratlinelaw03_IkeyRight.tab5 ratlinelaw03_IkeyRight.bits5 (fun HT_ HW_ => ?_)
            generalize w28.drew = w29 at BK246 HB hHeld ⊢
            refine take_ (i:=0) (N:=some 37) (v:=?_) (a':=?_) #[true,false,false,false,false,false,false,false,false] rfl rfl (take_ofW HT_.out HW_.out (by kernel_rfl)) (fun _ _ _ h => h) (Or.inl ⟨by rfl,?_⟩) hHeld ?_ ?_
            rotate_left
            ·rintro w' ⟨s0,s1,s2⟩
             go_simp
             with_reducible rfl
            rotate_left
            ·simp only [Act.put,sA,sZ,sS,i64_w,i32_w]
             rfl
            refine take_ (i:=1) (N:=some 38) (v:=?_) (a':=?_) #[true,true,false,false,false,false,false,false,false] rfl rfl (take_ofW HT_.out HW_.out (by kernel_rfl)) (fun _ _ _ h => h) (Or.inl ⟨by rfl,?_⟩) hHeld ?_ ?_
            rotate_left
            ·rintro w' ⟨s0,s1,s2⟩
             go_simp
             with_reducible rfl
            rotate_left
            ·simp only [Act.put,sA,sZ,sS,i64_w,i32_w]
             rfl
            refine take_ (i:=2) (N:=some 39) (v:=?_) (a':=?_) #[true,true,true,false,false,false,false,false,false] rfl rfl (take_ofW HT_.out HW_.out (by kernel_rfl)) (fun _ _ _ h => h) (Or.inl ⟨by rfl,?_⟩) hHeld ?_ ?_
            rotate_left
            ·rintro w' ⟨s0,s1,s2⟩
             go_simp
             with_reducible rfl
            rotate_left
            ·simp only [Act.put,sA,sZ,sS,i64_w,i32_w]
             rfl
            refine join_ (σ:=Nat × Nat × Nat) 3 #[true,true,true,true,true,true,false,false,false] (fun s_ => [(8,.pointer (some ⟨s_.1,0,none⟩)),(9,.pointer (some ⟨s_.2.1,0,none⟩)),(10,.pointer (some ⟨s_.2.2,0,none⟩))]) (fun s_ w' => (w'.cell? ⟨gb246,0,none⟩ = some (.string t243) ∧ w'.cell? ⟨gb246,1,none⟩ = some (.int .u64 t244) ∧ w'.cell? ⟨gb246,2,none⟩ = some (.int .u8 t245)) ∧ (w'.heap[gb246]? = some (.cells #[.string t243,.int .u64 t244,.int .u8 t245] 39 (0,0))) ∧ (w'.heap[s_.1]? = some (.cells #[.string (⟨#[]⟩ : ByteArray),.int .u64 0,.int .u8 0] 39 (0,0))) ∧ (w'.heap[s_.2.1]? = some (.cells #[.string (⟨#[]⟩ : ByteArray),.int .u64 0,.int .u8 0] 39 (0,0))) ∧ (w'.heap[s_.2.2]? = some (.cells #[.string (⟨#[]⟩ : ByteArray),.int .u64 0,.int .u8 0] 39 (0,0))) ∧ (w.heap.size ≤ s_.1) ∧ (w.heap.size ≤ s_.1) ∧ (gb246 ≠ s_.1) ∧ (s_.1 ≠ gb246) ∧ (s_.2.1 ≠ s_.1) ∧ (s_.1 ≠ s_.2.1) ∧ (s_.2.2 ≠ s_.1) ∧ (s_.1 ≠ s_.2.2) ∧ (w.heap.size ≤ s_.2.1) ∧ (w.heap.size ≤ s_.2.1) ∧ (gb246 ≠ s_.2.1) ∧ (s_.2.1 ≠ gb246) ∧ (s_.2.2 ≠ s_.2.1) ∧ (s_.2.1 ≠ s_.2.2) ∧ (w.heap.size ≤ s_.2.2) ∧ (w.heap.size ≤ s_.2.2) ∧ (gb246 ≠ s_.2.2) ∧ (s_.2.2 ≠ gb246) ∧ (Below w.heap.size w w')) ?_ ?_
            rotate_left
            ·intro hJ3_4_5
             refine join_ (σ:=Nat × Nat) 4 #[true,true,true,true,true,false,false,false,false] (fun s_ => [(8,.pointer (some ⟨s_.1,0,none⟩)),(9,.pointer (some ⟨s_.2,0,none⟩))]) (fun s_ w' => (w'.cell? ⟨gb246,0,none⟩ = some (.string t243) ∧ w'.cell? ⟨gb246,1,none⟩ = some (.int .u64 t244) ∧ w'.cell? ⟨gb246,2,none⟩ = some (.int .u8 t245)) ∧ (w'.heap[gb246]? = some (.cells #[.string t243,.int .u64 t244,.int .u8 t245] 39 (0,0))) ∧ (w'.heap[s_.1]? = some (.cells #[.string (⟨#[]⟩ : ByteArray),.int .u64 0,.int .u8 0] 39 (0,0))) ∧ (w'.heap[s_.2]? = some (.cells #[.string (⟨#[]⟩ : ByteArray),.int .u64 0,.int .u8 0] 39 (0,0))) ∧ (w.heap.size ≤ s_.1) ∧ (w.heap.size ≤ s_.1) ∧ (gb246 ≠ s_.1) ∧ (s_.1 ≠ gb246) ∧ (s_.2 ≠ s_.1) ∧ (s_.1 ≠ s_.2) ∧ (w.heap.size ≤ s_.2) ∧ (w.heap.size ≤ s_.2) ∧ (gb246 ≠ s_.2) ∧ (s_.2 ≠ gb246) ∧ (Below w.heap.size w w')) ?_ ?_
             rotate_left
             ·intro hJ3_4
              refine join_ (σ:=Nat × Nat) 4 #[true,true,true,true,false,true,false,false,false] (fun s_ => [(8,.pointer (some ⟨s_.1,0,none⟩)),(10,.pointer (some ⟨s_.2,0,none⟩))]) (fun s_ w' => (w'.cell? ⟨gb246,0,none⟩ = some (.string t243) ∧ w'.cell? ⟨gb246,1,none⟩ = some (.int .u64 t244) ∧ w'.cell? ⟨gb246,2,none⟩ = some (.int .u8 t245)) ∧ (w'.heap[gb246]? = some (.cells #[.string t243,.int .u64 t244,.int .u8 t245] 39 (0,0))) ∧ (w'.heap[s_.1]? = some (.cells #[.string (⟨#[]⟩ : ByteArray),.int .u64 0,.int .u8 0] 39 (0,0))) ∧ (w'.heap[s_.2]? = some (.cells #[.string (⟨#[]⟩ : ByteArray),.int .u64 0,.int .u8 0] 39 (0,0))) ∧ (w.heap.size ≤ s_.1) ∧ (w.heap.size ≤ s_.1) ∧ (gb246 ≠ s_.1) ∧ (s_.1 ≠ gb246) ∧ (s_.2 ≠ s_.1) ∧ (s_.1 ≠ s_.2) ∧ (w.heap.size ≤ s_.2) ∧ (w.heap.size ≤ s_.2) ∧ (gb246 ≠ s_.2) ∧ (s_.2 ≠ gb246) ∧ (Below w.heap.size w w')) ?_ ?_
              rotate_left
              ·intro hJ3_5
               refine join_ (σ:=Nat × Nat) 4 #[true,true,true,false,true,true,false,false,false] (fun s_ => [(9,.pointer (some ⟨s_.1,0,none⟩)),(10,.pointer (some ⟨s_.2,0,none⟩))]) (fun s_ w' => (w'.cell? ⟨gb246,0,none⟩ = some (.string t243) ∧ w'.cell? ⟨gb246,1,none⟩ = some (.int .u64 t244) ∧ w'.cell? ⟨gb246,2,none⟩ = some (.int .u8 t245)) ∧ (w'.heap[gb246]? = some (.cells #[.string t243,.int .u64 t244,.int .u8 t245] 39 (0,0))) ∧ (w'.heap[s_.1]? = some (.cells #[.string (⟨#[]⟩ : ByteArray),.int .u64 0,.int .u8 0] 39 (0,0))) ∧ (w'.heap[s_.2]? = some (.cells #[.string (⟨#[]⟩ : ByteArray),.int .u64 0,.int .u8 0] 39 (0,0))) ∧ (w.heap.size ≤ s_.1) ∧ (w.heap.size ≤ s_.1) ∧ (gb246 ≠ s_.1) ∧ (s_.1 ≠ gb246) ∧ (s_.2 ≠ s_.1) ∧ (s_.1 ≠ s_.2) ∧ (w.heap.size ≤ s_.2) ∧ (w.heap.size ≤ s_.2) ∧ (gb246 ≠ s_.2) ∧ (s_.2 ≠ gb246) ∧ (Below w.heap.size w w')) ?_ ?_
               rotate_left
               ·intro hJ4_5
                refine join_ (σ:=Nat) 5 #[true,true,true,true,false,false,false,false,false] (fun s_ => [(8,.pointer (some ⟨s_,0,none⟩))]) (fun s_ w' => (w'.cell? ⟨gb246,0,none⟩ = some (.string t243) ∧ w'.cell? ⟨gb246,1,none⟩ = some (.int .u64 t244) ∧ w'.cell? ⟨gb246,2,none⟩ = some (.int .u8 t245)) ∧ (w'.heap[gb246]? = some (.cells #[.string t243,.int .u64 t244,.int .u8 t245] 39 (0,0))) ∧ (w'.heap[s_]? = some (.cells #[.string (⟨#[]⟩ : ByteArray),.int .u64 0,.int .u8 0] 39 (0,0))) ∧ (w.heap.size ≤ s_) ∧ (w.heap.size ≤ s_) ∧ (gb246 ≠ s_) ∧ (s_ ≠ gb246) ∧ (Below w.heap.size w w')) ?_ ?_
                rotate_left
                ·intro hJ3
                 refine join_ (σ:=Nat) 5 #[true,true,true,false,true,false,false,false,false] (fun s_ => [(9,.pointer (some ⟨s_,0,none⟩))]) (fun s_ w' => (w'.cell? ⟨gb246,0,none⟩ = some (.string t243) ∧ w'.cell? ⟨gb246,1,none⟩ = some (.int .u64 t244) ∧ w'.cell? ⟨gb246,2,none⟩ = some (.int .u8 t245)) ∧ (w'.heap[gb246]? = some (.cells #[.string t243,.int .u64 t244,.int .u8 t245] 39 (0,0))) ∧ (w'.heap[s_]? = some (.cells #[.string (⟨#[]⟩ : ByteArray),.int .u64 0,.int .u8 0] 39 (0,0))) ∧ (w.heap.size ≤ s_) ∧ (w.heap.size ≤ s_) ∧ (gb246 ≠ s_) ∧ (s_ ≠ gb246) ∧ (Below w.heap.size w w')) ?_ ?_
                 rotate_left
                 ·intro hJ4
                  refine join_ (σ:=Nat) 5 #[true,true,true,false,false,true,false,false,false] (fun s_ => [(10,.pointer (some ⟨s_,0,none⟩))]) (fun s_ w' => (w'.cell? ⟨gb246,0,none⟩ = some (.string t243) ∧ w'.cell? ⟨gb246,1,none⟩ = some (.int .u64 t244) ∧ w'.cell? ⟨gb246,2,none⟩ = some (.int .u8 t245)) ∧ (w'.heap[gb246]? = some (.cells #[.string t243,.int .u64 t244,.int .u8 t245] 39 (0,0))) ∧ (w'.heap[s_]? = some (.cells #[.string (⟨#[]⟩ : ByteArray),.int .u64 0,.int .u8 0] 39 (0,0))) ∧ (w.heap.size ≤ s_) ∧ (w.heap.size ≤ s_) ∧ (gb246 ≠ s_) ∧ (s_ ≠ gb246) ∧ (Below w.heap.size w w')) ?_ ?_
                  rotate_left
                  ·intro hJ5
                   refine three_ (i:=3) (j:=4) (k:=5) (Ni:=some 8) (Nj:=some 9) (Nk:=some 10) #[true,true,true,true,false,false,false,false,false] #[true,true,true,false,true,false,false,false,false] #[true,true,true,false,false,true,false,false,false] rfl rfl rfl rfl rfl rfl (three_of HT_.out (by kernel_rfl)) (by decide) (by decide) (by decide) (fun K hK => ?_) (fun K hK => ?_) (fun K hK => ?_)
                   ·skip
                    refine box_step ?hg (N:=8) ?hd (cs:=#[.string (⟨#[]⟩ : ByteArray),.int .u64 0,.int .u8 0]) (t:=39) ?hr ?_;(case hd => rfl);(case hg => rfl);(case hr => first|(go_simp;done)|(go_simp;rfl))
                    intro gb247 hg w30 hbox hb
                    have n0_:=Aside0.mk (blk_below (g:=gb246) (o:=.cells #[.string t243,.int .u64 t244,.int .u8 t245] 39 (0,0)) (by (with_reducible repeat (first|refine bN ?_ _|refine bD ?_|refine bA ?_ _));exact BK246.out) hb)
                    have n1_:=Aside0.mk (below_step (by repeat (first|(with_reducible first|exact HB.out|apply below_alloc|apply pw_below_drewN|apply below_drew1|refine below_set ?_ GE246.out)|exact HB.out)) hb)
                    have n2_:=Aside0.mk (hbox)
                    have n3_:=Aside0.mk ((by rw [hg];exact (below_size (by repeat (first|(with_reducible first|exact HB.out|apply below_alloc|apply pw_below_drewN|apply below_drew1|refine below_set ?_ GE246.out)|exact HB.out))) : w.heap.size ≤ gb247))
                    have n4_:=Aside0.mk ((by rw [hg];exact (below_size (by repeat (first|(with_reducible first|exact HB.out|apply below_alloc|apply pw_below_drewN|apply below_drew1|refine below_set ?_ GE246.out)|exact HB.out))) : w.heap.size ≤ gb247))
                    have n5_:=Aside0.mk ((by rw [hg];exact Nat.ne_of_lt (blk_lt (g:=gb246) (o:=.cells #[.string t243,.int .u64 t244,.int .u8 t245] 39 (0,0)) (by (with_reducible repeat (first|refine bN ?_ _|refine bD ?_|refine bA ?_ _));exact BK246.out)) : gb246 ≠ gb247))
                    have n6_:=Aside0.mk ((by rw [hg];exact Nat.ne_of_gt (blk_lt (g:=gb246) (o:=.cells #[.string t243,.int .u64 t244,.int .u8 t245] 39 (0,0)) (by (with_reducible repeat (first|refine bN ?_ _|refine bD ?_|refine bA ?_ _));exact BK246.out)) : gb247 ≠ gb246))
                    clear BK246
                    clear HB
                    have BK246:=n0_
                    have HB:=n1_
                    have BK247:=n2_
                    have GW247:=n3_
                    have GE247:=n4_
                    have NB246_247:=n5_
                    have NB247_246:=n6_
                    clear n0_ n1_ n2_ n3_ n4_ n5_ n6_
                    clear hb hbox hg
                    refine hK.out _ _ ⟨(blk_cell BK246.out 0).trans rfl,(blk_cell BK246.out 1).trans rfl,(blk_cell BK246.out 2).trans rfl⟩ (fun hHeld => ?_)
                    clear hK K
                    refine norm_ (a':=?_) ?_ ?_
                    rotate_left
                    ·show Act.put _ (some 8) _ = _
                     simp only [Act.put,sA,sZ,sS,i64_w,i32_w]
                     rfl
                    exact norm_ (by first|(simp only [putAll,Act.put,sA,sZ,sS];done)|(simp only [putAll,Act.put,sA,sZ,sS];rfl)) (hJ3 (gb247) _ ⟨hHeld,(by (with_reducible repeat (first|refine bN ?_ _|refine bD ?_|refine bA ?_ _));exact BK246.out),(by (with_reducible repeat (first|refine bN ?_ _|refine bD ?_|refine bA ?_ _));exact BK247.out),GW247.out,GE247.out,NB246_247.out,NB247_246.out,(by repeat (first|(with_reducible first|exact HB.out|apply below_alloc|apply pw_below_drewN|apply below_drew1|refine below_set ?_ GE246.out|refine below_set ?_ GE247.out)|exact HB.out))⟩)
                   ·skip
                    refine box_step ?hg (N:=9) ?hd (cs:=#[.string (⟨#[]⟩ : ByteArray),.int .u64 0,.int .u8 0]) (t:=39) ?hr ?_;(case hd => rfl);(case hg => rfl);(case hr => first|(go_simp;done)|(go_simp;rfl))
                    intro gb248 hg w30 hbox hb
                    have n0_:=Aside0.mk (blk_below (g:=gb246) (o:=.cells #[.string t243,.int .u64 t244,.int .u8 t245] 39 (0,0)) (by (with_reducible repeat (first|refine bN ?_ _|refine bD ?_|refine bA ?_ _));exact BK246.out) hb)
                    have n1_:=Aside0.mk (below_step (by repeat (first|(with_reducible first|exact HB.out|apply below_alloc|apply pw_below_drewN|apply below_drew1|refine below_set ?_ GE246.out)|exact HB.out)) hb)
                    have n2_:=Aside0.mk (hbox)
                    have n3_:=Aside0.mk ((by rw [hg];exact (below_size (by repeat (first|(with_reducible first|exact HB.out|apply below_alloc|apply pw_below_drewN|apply below_drew1|refine below_set ?_ GE246.out)|exact HB.out))) : w.heap.size ≤ gb248))
                    have n4_:=Aside0.mk ((by rw [hg];exact (below_size (by repeat (first|(with_reducible first|exact HB.out|apply below_alloc|apply pw_below_drewN|apply below_drew1|refine below_set ?_ GE246.out)|exact HB.out))) : w.heap.size ≤ gb248))
                    have n5_:=Aside0.mk ((by rw [hg];exact Nat.ne_of_lt (blk_lt (g:=gb246) (o:=.cells #[.string t243,.int .u64 t244,.int .u8 t245] 39 (0,0)) (by (with_reducible repeat (first|refine bN ?_ _|refine bD ?_|refine bA ?_ _));exact BK246.out)) : gb246 ≠ gb248))
                    have n6_:=Aside0.mk ((by rw [hg];exact Nat.ne_of_gt (blk_lt (g:=gb246) (o:=.cells #[.string t243,.int .u64 t244,.int .u8 t245] 39 (0,0)) (by (with_reducible repeat (first|refine bN ?_ _|refine bD ?_|refine bA ?_ _));exact BK246.out)) : gb248 ≠ gb246))
                    clear BK246
                    clear HB
                    have BK246:=n0_
                    have HB:=n1_
                    have BK248:=n2_
                    have GW248:=n3_
                    have GE248:=n4_
                    have NB246_248:=n5_
                    have NB248_246:=n6_
                    clear n0_ n1_ n2_ n3_ n4_ n5_ n6_
                    clear hb hbox hg
                    refine hK.out _ _ ⟨(blk_cell BK246.out 0).trans rfl,(blk_cell BK246.out 1).trans rfl,(blk_cell BK246.out 2).trans rfl⟩ (fun hHeld => ?_)
                    clear hK K
                    refine norm_ (a':=?_) ?_ ?_
                    rotate_left
                    ·show Act.put _ (some 9) _ = _
                     simp only [Act.put,sA,sZ,sS,i64_w,i32_w]
                     rfl
                    exact norm_ (by first|(simp only [putAll,Act.put,sA,sZ,sS];done)|(simp only [putAll,Act.put,sA,sZ,sS];rfl)) (hJ4 (gb248) _ ⟨hHeld,(by (with_reducible repeat (first|refine bN ?_ _|refine bD ?_|refine bA ?_ _));exact BK246.out),(by (with_reducible repeat (first|refine bN ?_ _|refine bD ?_|refine bA ?_ _));exact BK248.out),GW248.out,GE248.out,NB246_248.out,NB248_246.out,(by repeat (first|(with_reducible first|exact HB.out|apply below_alloc|apply pw_below_drewN|apply below_drew1|refine below_set ?_ GE246.out|refine below_set ?_ GE248.out)|exact HB.out))⟩)
                   ·skip
                    refine box_step ?hg (N:=10) ?hd (cs:=#[.string (⟨#[]⟩ : ByteArray),.int .u64 0,.int .u8 0]) (t:=39) ?hr ?_;(case hd => rfl);(case hg => rfl);(case hr => first|(go_simp;done)|(go_simp;rfl))
                    intro gb249 hg w30 hbox hb
                    have n0_:=Aside0.mk (blk_below (g:=gb246) (o:=.cells #[.string t243,.int .u64 t244,.int .u8 t245] 39 (0,0)) (by (with_reducible repeat (first|refine bN ?_ _|refine bD ?_|refine bA ?_ _));exact BK246.out) hb)
                    have n1_:=Aside0.mk (below_step (by repeat (first|(with_reducible first|exact HB.out|apply below_alloc|apply pw_below_drewN|apply below_drew1|refine below_set ?_ GE246.out)|exact HB.out)) hb)
                    have n2_:=Aside0.mk (hbox)
                    have n3_:=Aside0.mk ((by rw [hg];exact (below_size (by repeat (first|(with_reducible first|exact HB.out|apply below_alloc|apply pw_below_drewN|apply below_drew1|refine below_set ?_ GE246.out)|exact HB.out))) : w.heap.size ≤ gb249))
                    have n4_:=Aside0.mk ((by rw [hg];exact (below_size (by repeat (first|(with_reducible first|exact HB.out|apply below_alloc|apply pw_below_drewN|apply below_drew1|refine below_set ?_ GE246.out)|exact HB.out))) : w.heap.size ≤ gb249))
                    have n5_:=Aside0.mk ((by rw [hg];exact Nat.ne_of_lt (blk_lt (g:=gb246) (o:=.cells #[.string t243,.int .u64 t244,.int .u8 t245] 39 (0,0)) (by (with_reducible repeat (first|refine bN ?_ _|refine bD ?_|refine bA ?_ _));exact BK246.out)) : gb246 ≠ gb249))
                    have n6_:=Aside0.mk ((by rw [hg];exact Nat.ne_of_gt (blk_lt (g:=gb246) (o:=.cells #[.string t243,.int .u64 t244,.int .u8 t245] 39 (0,0)) (by (with_reducible repeat (first|refine bN ?_ _|refine bD ?_|refine bA ?_ _));exact BK246.out)) : gb249 ≠ gb246))
                    clear BK246
                    clear HB
                    have BK246:=n0_
                    have HB:=n1_
                    have BK249:=n2_
                    have GW249:=n3_
                    have GE249:=n4_
                    have NB246_249:=n5_
                    have NB249_246:=n6_
                    clear n0_ n1_ n2_ n3_ n4_ n5_ n6_
                    clear hb hbox hg
                    refine hK.out _ _ ⟨(blk_cell BK246.out 0).trans rfl,(blk_cell BK246.out 1).trans rfl,(blk_cell BK246.out 2).trans rfl⟩ (fun hHeld => ?_)
                    clear hK K
                    refine norm_ (a':=?_) ?_ ?_
                    rotate_left
                    ·show Act.put _ (some 10) _ = _
                     simp only [Act.put,sA,sZ,sS,i64_w,i32_w]
                     rfl
                    exact norm_ (by first|(simp only [putAll,Act.put,sA,sZ,sS];done)|(simp only [putAll,Act.put,sA,sZ,sS];rfl)) (hJ5 (gb249) _ ⟨hHeld,(by (with_reducible repeat (first|refine bN ?_ _|refine bD ?_|refine bA ?_ _));exact BK246.out),(by (with_reducible repeat (first|refine bN ?_ _|refine bD ?_|refine bA ?_ _));exact BK249.out),GW249.out,GE249.out,NB246_249.out,NB249_246.out,(by repeat (first|(with_reducible first|exact HB.out|apply below_alloc|apply pw_below_drewN|apply below_drew1|refine below_set ?_ GE246.out|refine below_set ?_ GE249.out)|exact HB.out))⟩)
                  ·skip
                   rintro gb249 w31 ⟨hS_,h0_,h1_,h2_,h3_,h4_,h5_,h6_⟩
                   have n0_ : Aside0 (w31.heap[gb246]? = some (.cells #[.string t243,.int .u64 t244,.int .u8 t245] 39 (0,0))):=⟨h0_⟩
                   have n1_ : Aside0 (w31.heap[gb249]? = some (.cells #[.string (⟨#[]⟩ : ByteArray),.int .u64 0,.int .u8 0] 39 (0,0))):=⟨h1_⟩
                   have n2_ : Aside0 (w.heap.size ≤ gb249):=⟨h2_⟩
                   have n3_ : Aside0 (w.heap.size ≤ gb249):=⟨h3_⟩
                   have n4_ : Aside0 (gb246 ≠ gb249):=⟨h4_⟩
                   have n5_ : Aside0 (gb249 ≠ gb246):=⟨h5_⟩
                   have n6_ : Aside0 (Below w.heap.size w w31):=⟨h6_⟩
                   clear BK246
                   clear HB
                   clear h0_ h1_ h2_ h3_ h4_ h5_ h6_
                   have BK246:=n0_
                   have BK249:=n1_
                   have GW249:=n2_
                   have GE249:=n3_
                   have NB246_249:=n4_
                   have NB249_246:=n5_
                   have HB:=n6_
                   clear n0_ n1_ n2_ n3_ n4_ n5_ n6_
                   have hHeld : w31.cell? ⟨gb246,0,none⟩ = some (.string t243) ∧ w31.cell? ⟨gb246,1,none⟩ = some (.int .u64 t244) ∧ w31.cell? ⟨gb246,2,none⟩ = some (.int .u8 t245):=hS_
                   refine norm_ (a':=?_) ?_ ?_
                   rotate_left
                   ·simp only [putAll,Act.put,sA,sZ,sS]
                    rfl
                   refine two_ (i:=3) (j:=4) (Ni:=some 8) (Nj:=some 9) #[true,true,true,true,false,true,false,false,false] #[true,true,true,false,true,true,false,false,false] rfl rfl rfl rfl (two_of HT_.out (by kernel_rfl)) (by decide) (by decide) (fun K hK => ?_) (fun K hK => ?_)
                   ·skip
                    refine box_step ?hg (N:=8) ?hd (cs:=#[.string (⟨#[]⟩ : ByteArray),.int .u64 0,.int .u8 0]) (t:=39) ?hr ?_;(case hd => rfl);(case hg => rfl);(case hr => first|(go_simp;done)|(go_simp;rfl))
                    intro gb247 hg w32 hbox hb
                    have n0_:=Aside0.mk (blk_below (g:=gb246) (o:=.cells #[.string t243,.int .u64 t244,.int .u8 t245] 39 (0,0)) (by (with_reducible repeat (first|refine bN ?_ _|refine bD ?_|refine bA ?_ _));exact BK246.out) hb)
                    have n1_:=Aside0.mk (blk_below (g:=gb249) (o:=.cells #[.string (⟨#[]⟩ : ByteArray),.int .u64 0,.int .u8 0] 39 (0,0)) (by (with_reducible repeat (first|refine bN ?_ _|refine bD ?_|refine bA ?_ _));exact BK249.out) hb)
                    have n2_:=Aside0.mk (below_step (by repeat (first|(with_reducible first|exact HB.out|apply below_alloc|apply pw_below_drewN|apply below_drew1|refine below_set ?_ GE246.out|refine below_set ?_ GE249.out)|exact HB.out)) hb)
                    have n3_:=Aside0.mk (hbox)
                    have n4_:=Aside0.mk ((by rw [hg];exact (below_size (by repeat (first|(with_reducible first|exact HB.out|apply below_alloc|apply pw_below_drewN|apply below_drew1|refine below_set ?_ GE246.out|refine below_set ?_ GE249.out)|exact HB.out))) : w.heap.size ≤ gb247))
                    have n5_:=Aside0.mk ((by rw [hg];exact (below_size (by repeat (first|(with_reducible first|exact HB.out|apply below_alloc|apply pw_below_drewN|apply below_drew1|refine below_set ?_ GE246.out|refine below_set ?_ GE249.out)|exact HB.out))) : w.heap.size ≤ gb247))
                    have n6_:=Aside0.mk ((by rw [hg];exact Nat.ne_of_lt (blk_lt (g:=gb246) (o:=.cells #[.string t243,.int .u64 t244,.int .u8 t245] 39 (0,0)) (by (with_reducible repeat (first|refine bN ?_ _|refine bD ?_|refine bA ?_ _));exact BK246.out)) : gb246 ≠ gb247))
                    have n7_:=Aside0.mk ((by rw [hg];exact Nat.ne_of_gt (blk_lt (g:=gb246) (o:=.cells #[.string t243,.int .u64 t244,.int .u8 t245] 39 (0,0)) (by (with_reducible repeat (first|refine bN ?_ _|refine bD ?_|refine bA ?_ _));exact BK246.out)) : gb247 ≠ gb246))
                    have n8_:=Aside0.mk ((by rw [hg];exact Nat.ne_of_lt (blk_lt (g:=gb249) (o:=.cells #[.string (⟨#[]⟩ : ByteArray),.int .u64 0,.int .u8 0] 39 (0,0)) (by (with_reducible repeat (first|refine bN ?_ _|refine bD ?_|refine bA ?_ _));exact BK249.out)) : gb249 ≠ gb247))
                    have n9_:=Aside0.mk ((by rw [hg];exact Nat.ne_of_gt (blk_lt (g:=gb249) (o:=.cells #[.string (⟨#[]⟩ : ByteArray),.int .u64 0,.int .u8 0] 39 (0,0)) (by (with_reducible repeat (first|refine bN ?_ _|refine bD ?_|refine bA ?_ _));exact BK249.out)) : gb247 ≠ gb249))
                    clear BK246
                    clear BK249
                    clear HB
                    have BK246:=n0_
                    have BK249:=n1_
                    have HB:=n2_
                    have BK247:=n3_
                    have GW247:=n4_
                    have GE247:=n5_
                    have NB246_247:=n6_
                    have NB247_246:=n7_
                    have NB249_247:=n8_
                    have NB247_249:=n9_
                    clear n0_ n1_ n2_ n3_ n4_ n5_ n6_ n7_ n8_ n9_
                    clear hb hbox hg
                    refine hK.out _ _ ⟨(blk_cell BK246.out 0).trans rfl,(blk_cell BK246.out 1).trans rfl,(blk_cell BK246.out 2).trans rfl⟩ (fun hHeld => ?_)
                    clear hK K
                    refine norm_ (a':=?_) ?_ ?_
                    rotate_left
                    ·show Act.put _ (some 8) _ = _
                     simp only [Act.put,sA,sZ,sS,i64_w,i32_w]
                     rfl
                    exact norm_ (by first|(simp only [putAll,Act.put,sA,sZ,sS];done)|(simp only [putAll,Act.put,sA,sZ,sS];rfl)) (hJ3_5 (gb247,gb249) _ ⟨hHeld,(by (with_reducible repeat (first|refine bN ?_ _|refine bD ?_|refine bA ?_ _));exact BK246.out),(by (with_reducible repeat (first|refine bN ?_ _|refine bD ?_|refine bA ?_ _));exact BK247.out),(by (with_reducible repeat (first|refine bN ?_ _|refine bD ?_|refine bA ?_ _));exact BK249.out),GW247.out,GE247.out,NB246_247.out,NB247_246.out,NB249_247.out,NB247_249.out,GW249.out,GE249.out,NB246_249.out,NB249_246.out,(by repeat (first|(with_reducible first|exact HB.out|apply below_alloc|apply pw_below_drewN|apply below_drew1|refine below_set ?_ GE246.out|refine below_set ?_ GE249.out|refine below_set ?_ GE247.out)|exact HB.out))⟩)
                   ·skip
                    refine box_step ?hg (N:=9) ?hd (cs:=#[.string (⟨#[]⟩ : ByteArray),.int .u64 0,.int .u8 0]) (t:=39) ?hr ?_;(case hd => rfl);(case hg => rfl);(case hr => first|(go_simp;done)|(go_simp;rfl))
                    intro gb248 hg w32 hbox hb
                    have n0_:=Aside0.mk (blk_below (g:=gb246) (o:=.cells #[.string t243,.int .u64 t244,.int .u8 t245] 39 (0,0)) (by (with_reducible repeat (first|refine bN ?_ _|refine bD ?_|refine bA ?_ _));exact BK246.out) hb)
                    have n1_:=Aside0.mk (blk_below (g:=gb249) (o:=.cells #[.string (⟨#[]⟩ : ByteArray),.int .u64 0,.int .u8 0] 39 (0,0)) (by (with_reducible repeat (first|refine bN ?_ _|refine bD ?_|refine bA ?_ _));exact BK249.out) hb)
                    have n2_:=Aside0.mk (below_step (by repeat (first|(with_reducible first|exact HB.out|apply below_alloc|apply pw_below_drewN|apply below_drew1|refine below_set ?_ GE246.out|refine below_set ?_ GE249.out)|exact HB.out)) hb)
                    have n3_:=Aside0.mk (hbox)
                    have n4_:=Aside0.mk ((by rw [hg];exact (below_size (by repeat (first|(with_reducible first|exact HB.out|apply below_alloc|apply pw_below_drewN|apply below_drew1|refine below_set ?_ GE246.out|refine below_set ?_ GE249.out)|exact HB.out))) : w.heap.size ≤ gb248))
                    have n5_:=Aside0.mk ((by rw [hg];exact (below_size (by repeat (first|(with_reducible first|exact HB.out|apply below_alloc|apply pw_below_drewN|apply below_drew1|refine below_set ?_ GE246.out|refine below_set ?_ GE249.out)|exact HB.out))) : w.heap.size ≤ gb248))
                    have n6_:=Aside0.mk ((by rw [hg];exact Nat.ne_of_lt (blk_lt (g:=gb246) (o:=.cells #[.string t243,.int .u64 t244,.int .u8 t245] 39 (0,0)) (by (with_reducible repeat (first|refine bN ?_ _|refine bD ?_|refine bA ?_ _));exact BK246.out)) : gb246 ≠ gb248))
                    have n7_:=Aside0.mk ((by rw [hg];exact Nat.ne_of_gt (blk_lt (g:=gb246) (o:=.cells #[.string t243,.int .u64 t244,.int .u8 t245] 39 (0,0)) (by (with_reducible repeat (first|refine bN ?_ _|refine bD ?_|refine bA ?_ _));exact BK246.out)) : gb248 ≠ gb246))
                    have n8_:=Aside0.mk ((by rw [hg];exact Nat.ne_of_lt (blk_lt (g:=gb249) (o:=.cells #[.string (⟨#[]⟩ : ByteArray),.int .u64 0,.int .u8 0] 39 (0,0)) (by (with_reducible repeat (first|refine bN ?_ _|refine bD ?_|refine bA ?_ _));exact BK249.out)) : gb249 ≠ gb248))
                    have n9_:=Aside0.mk ((by rw [hg];exact Nat.ne_of_gt (blk_lt (g:=gb249) (o:=.cells #[.string (⟨#[]⟩ : ByteArray),.int .u64 0,.int .u8 0] 39 (0,0)) (by (with_reducible repeat (first|refine bN ?_ _|refine bD ?_|refine bA ?_ _));exact BK249.out)) : gb248 ≠ gb249))
                    clear BK246
                    clear BK249
                    clear HB
                    have BK246:=n0_
                    have BK249:=n1_
                    have HB:=n2_
                    have BK248:=n3_
                    have GW248:=n4_
                    have GE248:=n5_
                    have NB246_248:=n6_
                    have NB248_246:=n7_
                    have NB249_248:=n8_
                    have NB248_249:=n9_
                    clear n0_ n1_ n2_ n3_ n4_ n5_ n6_ n7_ n8_ n9_
                    clear hb hbox hg
                    refine hK.out _ _ ⟨(blk_cell BK246.out 0).trans rfl,(blk_cell BK246.out 1).trans rfl,(blk_cell BK246.out 2).trans rfl⟩ (fun hHeld => ?_)
                    clear hK K
                    refine norm_ (a':=?_) ?_ ?_
                    rotate_left
                    ·show Act.put _ (some 9) _ = _
                     simp only [Act.put,sA,sZ,sS,i64_w,i32_w]
                     rfl
                    exact norm_ (by first|(simp only [putAll,Act.put,sA,sZ,sS];done)|(simp only [putAll,Act.put,sA,sZ,sS];rfl)) (hJ4_5 (gb248,gb249) _ ⟨hHeld,(by (with_reducible repeat (first|refine bN ?_ _|refine bD ?_|refine bA ?_ _));exact BK246.out),(by (with_reducible repeat (first|refine bN ?_ _|refine bD ?_|refine bA ?_ _));exact BK248.out),(by (with_reducible repeat (first|refine bN ?_ _|refine bD ?_|refine bA ?_ _));exact BK249.out),GW248.out,GE248.out,NB246_248.out,NB248_246.out,NB249_248.out,NB248_249.out,GW249.out,GE249.out,NB246_249.out,NB249_246.out,(by repeat (first|(with_reducible first|exact HB.out|apply below_alloc|apply pw_below_drewN|apply below_drew1|refine below_set ?_ GE246.out|refine below_set ?_ GE249.out|refine below_set ?_ GE248.out)|exact HB.out))⟩)
                 ·skip
                  rintro gb248 w31 ⟨hS_,h0_,h1_,h2_,h3_,h4_,h5_,h6_⟩
                  have n0_ : Aside0 (w31.heap[gb246]? = some (.cells #[.string t243,.int .u64 t244,.int .u8 t245] 39 (0,0))):=⟨h0_⟩
                  have n1_ : Aside0 (w31.heap[gb248]? = some (.cells #[.string (⟨#[]⟩ : ByteArray),.int .u64 0,.int .u8 0] 39 (0,0))):=⟨h1_⟩
                  have n2_ : Aside0 (w.heap.size ≤ gb248):=⟨h2_⟩
                  have n3_ : Aside0 (w.heap.size ≤ gb248):=⟨h3_⟩
                  have n4_ : Aside0 (gb246 ≠ gb248):=⟨h4_⟩
                  have n5_ : Aside0 (gb248 ≠ gb246):=⟨h5_⟩
                  have n6_ : Aside0 (Below w.heap.size w w31):=⟨h6_⟩
                  clear BK246
                  clear HB
                  clear h0_ h1_ h2_ h3_ h4_ h5_ h6_
                  have BK246:=n0_
                  have BK248:=n1_
                  have GW248:=n2_
                  have GE248:=n3_
                  have NB246_248:=n4_
                  have NB248_246:=n5_
                  have HB:=n6_
                  clear n0_ n1_ n2_ n3_ n4_ n5_ n6_
                  have hHeld : w31.cell? ⟨gb246,0,none⟩ = some (.string t243) ∧ w31.cell? ⟨gb246,1,none⟩ = some (.int .u64 t244) ∧ w31.cell? ⟨gb246,2,none⟩ = some (.int .u8 t245):=hS_
                  refine norm_ (a':=?_) ?_ ?_
                  rotate_left
                  ·simp only [putAll,Act.put,sA,sZ,sS]
                   rfl
                  refine two_ (i:=3) (j:=5) (Ni:=some 8) (Nj:=some 10) #[true,true,true,true,true,false,false,false,false] #[true,true,true,false,true,true,false,false,false] rfl rfl rfl rfl (two_of HT_.out (by kernel_rfl)) (by decide) (by decide) (fun K hK => ?_) (fun K hK => ?_)
                  ·skip
                   refine box_step ?hg (N:=8) ?hd (cs:=#[.string (⟨#[]⟩ : ByteArray),.int .u64 0,.int .u8 0]) (t:=39) ?hr ?_;(case hd => rfl);(case hg => rfl);(case hr => first|(go_simp;done)|(go_simp;rfl))
                   intro gb247 hg w32 hbox hb
                   have n0_:=Aside0.mk (blk_below (g:=gb246) (o:=.cells #[.string t243,.int .u64 t244,.int .u8 t245] 39 (0,0)) (by (with_reducible repeat (first|refine bN ?_ _|refine bD ?_|refine bA ?_ _));exact BK246.out) hb)
                   have n1_:=Aside0.mk (blk_below (g:=gb248) (o:=.cells #[.string (⟨#[]⟩ : ByteArray),.int .u64 0,.int .u8 0] 39 (0,0)) (by (with_reducible repeat (first|refine bN ?_ _|refine bD ?_|refine bA ?_ _));exact BK248.out) hb)
                   have n2_:=Aside0.mk (below_step (by repeat (first|(with_reducible first|exact HB.out|apply below_alloc|apply pw_below_drewN|apply below_drew1|refine below_set ?_ GE246.out|refine below_set ?_ GE248.out)|exact HB.out)) hb)
                   have n3_:=Aside0.mk (hbox)
                   have n4_:=Aside0.mk ((by rw [hg];exact (below_size (by repeat (first|(with_reducible first|exact HB.out|apply below_alloc|apply pw_below_drewN|apply below_drew1|refine below_set ?_ GE246.out|refine below_set ?_ GE248.out)|exact HB.out))) : w.heap.size ≤ gb247))
                   have n5_:=Aside0.mk ((by rw [hg];exact (below_size (by repeat (first|(with_reducible first|exact HB.out|apply below_alloc|apply pw_below_drewN|apply below_drew1|refine below_set ?_ GE246.out|refine below_set ?_ GE248.out)|exact HB.out))) : w.heap.size ≤ gb247))
                   have n6_:=Aside0.mk ((by rw [hg];exact Nat.ne_of_lt (blk_lt (g:=gb246) (o:=.cells #[.string t243,.int .u64 t244,.int .u8 t245] 39 (0,0)) (by (with_reducible repeat (first|refine bN ?_ _|refine bD ?_|refine bA ?_ _));exact BK246.out)) : gb246 ≠ gb247))
                   have n7_:=Aside0.mk ((by rw [hg];exact Nat.ne_of_gt (blk_lt (g:=gb246) (o:=.cells #[.string t243,.int .u64 t244,.int .u8 t245] 39 (0,0)) (by (with_reducible repeat (first|refine bN ?_ _|refine bD ?_|refine bA ?_ _));exact BK246.out)) : gb247 ≠ gb246))
                   have n8_:=Aside0.mk ((by rw [hg];exact Nat.ne_of_lt (blk_lt (g:=gb248) (o:=.cells #[.string (⟨#[]⟩ : ByteArray),.int .u64 0,.int .u8 0] 39 (0,0)) (by (with_reducible repeat (first|refine bN ?_ _|refine bD ?_|refine bA ?_ _));exact BK248.out)) : gb248 ≠ gb247))
                   have n9_:=Aside0.mk ((by rw [hg];exact Nat.ne_of_gt (blk_lt (g:=gb248) (o:=.cells #[.string (⟨#[]⟩ : ByteArray),.int .u64 0,.int .u8 0] 39 (0,0)) (by (with_reducible repeat (first|refine bN ?_ _|refine bD ?_|refine bA ?_ _));exact BK248.out)) : gb247 ≠ gb248))
                   clear BK246
                   clear BK248
                   clear HB
                   have BK246:=n0_
                   have BK248:=n1_
                   have HB:=n2_
                   have BK247:=n3_
                   have GW247:=n4_
                   have GE247:=n5_
                   have NB246_247:=n6_
                   have NB247_246:=n7_
                   have NB248_247:=n8_
                   have NB247_248:=n9_
                   clear n0_ n1_ n2_ n3_ n4_ n5_ n6_ n7_ n8_ n9_
                   clear hb hbox hg
                   refine hK.out _ _ ⟨(blk_cell BK246.out 0).trans rfl,(blk_cell BK246.out 1).trans rfl,(blk_cell BK246.out 2).trans rfl⟩ (fun hHeld => ?_)
                   clear hK K
                   refine norm_ (a':=?_) ?_ ?_
                   rotate_left
                   ·show Act.put _ (some 8) _ = _
                    simp only [Act.put,sA,sZ,sS,i64_w,i32_w]
                    rfl
                   exact norm_ (by first|(simp only [putAll,Act.put,sA,sZ,sS];done)|(simp only [putAll,Act.put,sA,sZ,sS];rfl)) (hJ3_4 (gb247,gb248) _ ⟨hHeld,(by (with_reducible repeat (first|refine bN ?_ _|refine bD ?_|refine bA ?_ _));exact BK246.out),(by (with_reducible repeat (first|refine bN ?_ _|refine bD ?_|refine bA ?_ _));exact BK247.out),(by (with_reducible repeat (first|refine bN ?_ _|refine bD ?_|refine bA ?_ _));exact BK248.out),GW247.out,GE247.out,NB246_247.out,NB247_246.out,NB248_247.out,NB247_248.out,GW248.out,GE248.out,NB246_248.out,NB248_246.out,(by repeat (first|(with_reducible first|exact HB.out|apply below_alloc|apply pw_below_drewN|apply below_drew1|refine below_set ?_ GE246.out|refine below_set ?_ GE248.out|refine below_set ?_ GE247.out)|exact HB.out))⟩)
                  ·skip
                   refine box_step ?hg (N:=10) ?hd (cs:=#[.string (⟨#[]⟩ : ByteArray),.int .u64 0,.int .u8 0]) (t:=39) ?hr ?_;(case hd => rfl);(case hg => rfl);(case hr => first|(go_simp;done)|(go_simp;rfl))
                   intro gb249 hg w32 hbox hb
                   have n0_:=Aside0.mk (blk_below (g:=gb246) (o:=.cells #[.string t243,.int .u64 t244,.int .u8 t245] 39 (0,0)) (by (with_reducible repeat (first|refine bN ?_ _|refine bD ?_|refine bA ?_ _));exact BK246.out) hb)
                   have n1_:=Aside0.mk (blk_below (g:=gb248) (o:=.cells #[.string (⟨#[]⟩ : ByteArray),.int .u64 0,.int .u8 0] 39 (0,0)) (by (with_reducible repeat (first|refine bN ?_ _|refine bD ?_|refine bA ?_ _));exact BK248.out) hb)
                   have n2_:=Aside0.mk (below_step (by repeat (first|(with_reducible first|exact HB.out|apply below_alloc|apply pw_below_drewN|apply below_drew1|refine below_set ?_ GE246.out|refine below_set ?_ GE248.out)|exact HB.out)) hb)
                   have n3_:=Aside0.mk (hbox)
                   have n4_:=Aside0.mk ((by rw [hg];exact (below_size (by repeat (first|(with_reducible first|exact HB.out|apply below_alloc|apply pw_below_drewN|apply below_drew1|refine below_set ?_ GE246.out|refine below_set ?_ GE248.out)|exact HB.out))) : w.heap.size ≤ gb249))
                   have n5_:=Aside0.mk ((by rw [hg];exact (below_size (by repeat (first|(with_reducible first|exact HB.out|apply below_alloc|apply pw_below_drewN|apply below_drew1|refine below_set ?_ GE246.out|refine below_set ?_ GE248.out)|exact HB.out))) : w.heap.size ≤ gb249))
                   have n6_:=Aside0.mk ((by rw [hg];exact Nat.ne_of_lt (blk_lt (g:=gb246) (o:=.cells #[.string t243,.int .u64 t244,.int .u8 t245] 39 (0,0)) (by (with_reducible repeat (first|refine bN ?_ _|refine bD ?_|refine bA ?_ _));exact BK246.out)) : gb246 ≠ gb249))
                   have n7_:=Aside0.mk ((by rw [hg];exact Nat.ne_of_gt (blk_lt (g:=gb246) (o:=.cells #[.string t243,.int .u64 t244,.int .u8 t245] 39 (0,0)) (by (with_reducible repeat (first|refine bN ?_ _|refine bD ?_|refine bA ?_ _));exact BK246.out)) : gb249 ≠ gb246))
                   have n8_:=Aside0.mk ((by rw [hg];exact Nat.ne_of_lt (blk_lt (g:=gb248) (o:=.cells #[.string (⟨#[]⟩ : ByteArray),.int .u64 0,.int .u8 0] 39 (0,0)) (by (with_reducible repeat (first|refine bN ?_ _|refine bD ?_|refine bA ?_ _));exact BK248.out)) : gb248 ≠ gb249))
                   have n9_:=Aside0.mk ((by rw [hg];exact Nat.ne_of_gt (blk_lt (g:=gb248) (o:=.cells #[.string (⟨#[]⟩ : ByteArray),.int .u64 0,.int .u8 0] 39 (0,0)) (by (with_reducible repeat (first|refine bN ?_ _|refine bD ?_|refine bA ?_ _));exact BK248.out)) : gb249 ≠ gb248))
                   clear BK246
                   clear BK248
                   clear HB
                   have BK246:=n0_
                   have BK248:=n1_
                   have HB:=n2_
                   have BK249:=n3_
                   have GW249:=n4_
                   have GE249:=n5_
                   have NB246_249:=n6_
                   have NB249_246:=n7_
                   have NB248_249:=n8_
                   have NB249_248:=n9_
                   clear n0_ n1_ n2_ n3_ n4_ n5_ n6_ n7_ n8_ n9_
                   clear hb hbox hg
                   refine hK.out _ _ ⟨(blk_cell BK246.out 0).trans rfl,(blk_cell BK246.out 1).trans rfl,(blk_cell BK246.out 2).trans rfl⟩ (fun hHeld => ?_)
                   clear hK K
                   refine norm_ (a':=?_) ?_ ?_
                   rotate_left
                   ·show Act.put _ (some 10) _ = _
                    simp only [Act.put,sA,sZ,sS,i64_w,i32_w]
                    rfl
                   exact norm_ (by first|(simp only [putAll,Act.put,sA,sZ,sS];done)|(simp only [putAll,Act.put,sA,sZ,sS];rfl)) (hJ4_5 (gb248,gb249) _ ⟨hHeld,(by (with_reducible repeat (first|refine bN ?_ _|refine bD ?_|refine bA ?_ _));exact BK246.out),(by (with_reducible repeat (first|refine bN ?_ _|refine bD ?_|refine bA ?_ _));exact BK248.out),(by (with_reducible repeat (first|refine bN ?_ _|refine bD ?_|refine bA ?_ _));exact BK249.out),GW248.out,GE248.out,NB246_248.out,NB248_246.out,NB249_248.out,NB248_249.out,GW249.out,GE249.out,NB246_249.out,NB249_246.out,(by repeat (first|(with_reducible first|exact HB.out|apply below_alloc|apply pw_below_drewN|apply below_drew1|refine below_set ?_ GE246.out|refine below_set ?_ GE248.out|refine below_set ?_ GE249.out)|exact HB.out))⟩)
                ·skip
                 rintro gb247 w31 ⟨hS_,h0_,h1_,h2_,h3_,h4_,h5_,h6_⟩
                 have n0_ : Aside0 (w31.heap[gb246]? = some (.cells #[.string t243,.int .u64 t244,.int .u8 t245] 39 (0,0))):=⟨h0_⟩
                 have n1_ : Aside0 (w31.heap[gb247]? = some (.cells #[.string (⟨#[]⟩ : ByteArray),.int .u64 0,.int .u8 0] 39 (0,0))):=⟨h1_⟩
                 have n2_ : Aside0 (w.heap.size ≤ gb247):=⟨h2_⟩
                 have n3_ : Aside0 (w.heap.size ≤ gb247):=⟨h3_⟩
                 have n4_ : Aside0 (gb246 ≠ gb247):=⟨h4_⟩
                 have n5_ : Aside0 (gb247 ≠ gb246):=⟨h5_⟩
                 have n6_ : Aside0 (Below w.heap.size w w31):=⟨h6_⟩
                 clear BK246
                 clear HB
                 clear h0_ h1_ h2_ h3_ h4_ h5_ h6_
                 have BK246:=n0_
                 have BK247:=n1_
                 have GW247:=n2_
                 have GE247:=n3_
                 have NB246_247:=n4_
                 have NB247_246:=n5_
                 have HB:=n6_
                 clear n0_ n1_ n2_ n3_ n4_ n5_ n6_
                 have hHeld : w31.cell? ⟨gb246,0,none⟩ = some (.string t243) ∧ w31.cell? ⟨gb246,1,none⟩ = some (.int .u64 t244) ∧ w31.cell? ⟨gb246,2,none⟩ = some (.int .u8 t245):=hS_
                 refine norm_ (a':=?_) ?_ ?_
                 rotate_left
                 ·simp only [putAll,Act.put,sA,sZ,sS]
                  rfl
                 refine two_ (i:=4) (j:=5) (Ni:=some 9) (Nj:=some 10) #[true,true,true,true,true,false,false,false,false] #[true,true,true,true,false,true,false,false,false] rfl rfl rfl rfl (two_of HT_.out (by kernel_rfl)) (by decide) (by decide) (fun K hK => ?_) (fun K hK => ?_)
                 ·skip
                  refine box_step ?hg (N:=9) ?hd (cs:=#[.string (⟨#[]⟩ : ByteArray),.int .u64 0,.int .u8 0]) (t:=39) ?hr ?_;(case hd => rfl);(case hg => rfl);(case hr => first|(go_simp;done)|(go_simp;rfl))
                  intro gb248 hg w32 hbox hb
                  have n0_:=Aside0.mk (blk_below (g:=gb246) (o:=.cells #[.string t243,.int .u64 t244,.int .u8 t245] 39 (0,0)) (by (with_reducible repeat (first|refine bN ?_ _|refine bD ?_|refine bA ?_ _));exact BK246.out) hb)
                  have n1_:=Aside0.mk (blk_below (g:=gb247) (o:=.cells #[.string (⟨#[]⟩ : ByteArray),.int .u64 0,.int .u8 0] 39 (0,0)) (by (with_reducible repeat (first|refine bN ?_ _|refine bD ?_|refine bA ?_ _));exact BK247.out) hb)
                  have n2_:=Aside0.mk (below_step (by repeat (first|(with_reducible first|exact HB.out|apply below_alloc|apply pw_below_drewN|apply below_drew1|refine below_set ?_ GE246.out|refine below_set ?_ GE247.out)|exact HB.out)) hb)
                  have n3_:=Aside0.mk (hbox)
                  have n4_:=Aside0.mk ((by rw [hg];exact (below_size (by repeat (first|(with_reducible first|exact HB.out|apply below_alloc|apply pw_below_drewN|apply below_drew1|refine below_set ?_ GE246.out|refine below_set ?_ GE247.out)|exact HB.out))) : w.heap.size ≤ gb248))
                  have n5_:=Aside0.mk ((by rw [hg];exact (below_size (by repeat (first|(with_reducible first|exact HB.out|apply below_alloc|apply pw_below_drewN|apply below_drew1|refine below_set ?_ GE246.out|refine below_set ?_ GE247.out)|exact HB.out))) : w.heap.size ≤ gb248))
                  have n6_:=Aside0.mk ((by rw [hg];exact Nat.ne_of_lt (blk_lt (g:=gb246) (o:=.cells #[.string t243,.int .u64 t244,.int .u8 t245] 39 (0,0)) (by (with_reducible repeat (first|refine bN ?_ _|refine bD ?_|refine bA ?_ _));exact BK246.out)) : gb246 ≠ gb248))
                  have n7_:=Aside0.mk ((by rw [hg];exact Nat.ne_of_gt (blk_lt (g:=gb246) (o:=.cells #[.string t243,.int .u64 t244,.int .u8 t245] 39 (0,0)) (by (with_reducible repeat (first|refine bN ?_ _|refine bD ?_|refine bA ?_ _));exact BK246.out)) : gb248 ≠ gb246))
                  have n8_:=Aside0.mk ((by rw [hg];exact Nat.ne_of_lt (blk_lt (g:=gb247) (o:=.cells #[.string (⟨#[]⟩ : ByteArray),.int .u64 0,.int .u8 0] 39 (0,0)) (by (with_reducible repeat (first|refine bN ?_ _|refine bD ?_|refine bA ?_ _));exact BK247.out)) : gb247 ≠ gb248))
                  have n9_:=Aside0.mk ((by rw [hg];exact Nat.ne_of_gt (blk_lt (g:=gb247) (o:=.cells #[.string (⟨#[]⟩ : ByteArray),.int .u64 0,.int .u8 0] 39 (0,0)) (by (with_reducible repeat (first|refine bN ?_ _|refine bD ?_|refine bA ?_ _));exact BK247.out)) : gb248 ≠ gb247))
                  clear BK246
                  clear BK247
                  clear HB
                  have BK246:=n0_
                  have BK247:=n1_
                  have HB:=n2_
                  have BK248:=n3_
                  have GW248:=n4_
                  have GE248:=n5_
                  have NB246_248:=n6_
                  have NB248_246:=n7_
                  have NB247_248:=n8_
                  have NB248_247:=n9_
                  clear n0_ n1_ n2_ n3_ n4_ n5_ n6_ n7_ n8_ n9_
                  clear hb hbox hg
                  refine hK.out _ _ ⟨(blk_cell BK246.out 0).trans rfl,(blk_cell BK246.out 1).trans rfl,(blk_cell BK246.out 2).trans rfl⟩ (fun hHeld => ?_)
                  clear hK K
                  refine norm_ (a':=?_) ?_ ?_
                  rotate_left
                  ·show Act.put _ (some 9) _ = _
                   simp only [Act.put,sA,sZ,sS,i64_w,i32_w]
                   rfl
                  exact norm_ (by first|(simp only [putAll,Act.put,sA,sZ,sS];done)|(simp only [putAll,Act.put,sA,sZ,sS];rfl)) (hJ3_4 (gb247,gb248) _ ⟨hHeld,(by (with_reducible repeat (first|refine bN ?_ _|refine bD ?_|refine bA ?_ _));exact BK246.out),(by (with_reducible repeat (first|refine bN ?_ _|refine bD ?_|refine bA ?_ _));exact BK247.out),(by (with_reducible repeat (first|refine bN ?_ _|refine bD ?_|refine bA ?_ _));exact BK248.out),GW247.out,GE247.out,NB246_247.out,NB247_246.out,NB248_247.out,NB247_248.out,GW248.out,GE248.out,NB246_248.out,NB248_246.out,(by repeat (first|(with_reducible first|exact HB.out|apply below_alloc|apply pw_below_drewN|apply below_drew1|refine below_set ?_ GE246.out|refine below_set ?_ GE247.out|refine below_set ?_ GE248.out)|exact HB.out))⟩)
                 ·skip
                  refine box_step ?hg (N:=10) ?hd (cs:=#[.string (⟨#[]⟩ : ByteArray),.int .u64 0,.int .u8 0]) (t:=39) ?hr ?_;(case hd => rfl);(case hg => rfl);(case hr => first|(go_simp;done)|(go_simp;rfl))
                  intro gb249 hg w32 hbox hb
                  have n0_:=Aside0.mk (blk_below (g:=gb246) (o:=.cells #[.string t243,.int .u64 t244,.int .u8 t245] 39 (0,0)) (by (with_reducible repeat (first|refine bN ?_ _|refine bD ?_|refine bA ?_ _));exact BK246.out) hb)
                  have n1_:=Aside0.mk (blk_below (g:=gb247) (o:=.cells #[.string (⟨#[]⟩ : ByteArray),.int .u64 0,.int .u8 0] 39 (0,0)) (by (with_reducible repeat (first|refine bN ?_ _|refine bD ?_|refine bA ?_ _));exact BK247.out) hb)
                  have n2_:=Aside0.mk (below_step (by repeat (first|(with_reducible first|exact HB.out|apply below_alloc|apply pw_below_drewN|apply below_drew1|refine below_set ?_ GE246.out|refine below_set ?_ GE247.out)|exact HB.out)) hb)
                  have n3_:=Aside0.mk (hbox)
                  have n4_:=Aside0.mk ((by rw [hg];exact (below_size (by repeat (first|(with_reducible first|exact HB.out|apply below_alloc|apply pw_below_drewN|apply below_drew1|refine below_set ?_ GE246.out|refine below_set ?_ GE247.out)|exact HB.out))) : w.heap.size ≤ gb249))
                  have n5_:=Aside0.mk ((by rw [hg];exact (below_size (by repeat (first|(with_reducible first|exact HB.out|apply below_alloc|apply pw_below_drewN|apply below_drew1|refine below_set ?_ GE246.out|refine below_set ?_ GE247.out)|exact HB.out))) : w.heap.size ≤ gb249))
                  have n6_:=Aside0.mk ((by rw [hg];exact Nat.ne_of_lt (blk_lt (g:=gb246) (o:=.cells #[.string t243,.int .u64 t244,.int .u8 t245] 39 (0,0)) (by (with_reducible repeat (first|refine bN ?_ _|refine bD ?_|refine bA ?_ _));exact BK246.out)) : gb246 ≠ gb249))
                  have n7_:=Aside0.mk ((by rw [hg];exact Nat.ne_of_gt (blk_lt (g:=gb246) (o:=.cells #[.string t243,.int .u64 t244,.int .u8 t245] 39 (0,0)) (by (with_reducible repeat (first|refine bN ?_ _|refine bD ?_|refine bA ?_ _));exact BK246.out)) : gb249 ≠ gb246))
                  have n8_:=Aside0.mk ((by rw [hg];exact Nat.ne_of_lt (blk_lt (g:=gb247) (o:=.cells #[.string (⟨#[]⟩ : ByteArray),.int .u64 0,.int .u8 0] 39 (0,0)) (by (with_reducible repeat (first|refine bN ?_ _|refine bD ?_|refine bA ?_ _));exact BK247.out)) : gb247 ≠ gb249))
                  have n9_:=Aside0.mk ((by rw [hg];exact Nat.ne_of_gt (blk_lt (g:=gb247) (o:=.cells #[.string (⟨#[]⟩ : ByteArray),.int .u64 0,.int .u8 0] 39 (0,0)) (by (with_reducible repeat (first|refine bN ?_ _|refine bD ?_|refine bA ?_ _));exact BK247.out)) : gb249 ≠ gb247))
                  clear BK246
                  clear BK247
                  clear HB
                  have BK246:=n0_
                  have BK247:=n1_
                  have HB:=n2_
                  have BK249:=n3_
                  have GW249:=n4_
                  have GE249:=n5_
                  have NB246_249:=n6_
                  have NB249_246:=n7_
                  have NB247_249:=n8_
                  have NB249_247:=n9_
                  clear n0_ n1_ n2_ n3_ n4_ n5_ n6_ n7_ n8_ n9_
                  clear hb hbox hg
                  refine hK.out _ _ ⟨(blk_cell BK246.out 0).trans rfl,(blk_cell BK246.out 1).trans rfl,(blk_cell BK246.out 2).trans rfl⟩ (fun hHeld => ?_)
                  clear hK K
                  refine norm_ (a':=?_) ?_ ?_
                  rotate_left
                  ·show Act.put _ (some 10) _ = _
                   simp only [Act.put,sA,sZ,sS,i64_w,i32_w]
                   rfl
                  exact norm_ (by first|(simp only [putAll,Act.put,sA,sZ,sS];done)|(simp only [putAll,Act.put,sA,sZ,sS];rfl)) (hJ3_5 (gb247,gb249) _ ⟨hHeld,(by (with_reducible repeat (first|refine bN ?_ _|refine bD ?_|refine bA ?_ _));exact BK246.out),(by (with_reducible repeat (first|refine bN ?_ _|refine bD ?_|refine bA ?_ _));exact BK247.out),(by (with_reducible repeat (first|refine bN ?_ _|refine bD ?_|refine bA ?_ _));exact BK249.out),GW247.out,GE247.out,NB246_247.out,NB247_246.out,NB249_247.out,NB247_249.out,GW249.out,GE249.out,NB246_249.out,NB249_246.out,(by repeat (first|(with_reducible first|exact HB.out|apply below_alloc|apply pw_below_drewN|apply below_drew1|refine below_set ?_ GE246.out|refine below_set ?_ GE247.out|refine below_set ?_ GE249.out)|exact HB.out))⟩)
               ·skip
                rintro ⟨gb248,gb249⟩ w32 ⟨hS_,h0_,h1_,h2_,h3_,h4_,h5_,h6_,h7_,h8_,h9_,h10_,h11_,h12_,h13_⟩
                have n0_ : Aside0 (w32.heap[gb246]? = some (.cells #[.string t243,.int .u64 t244,.int .u8 t245] 39 (0,0))):=⟨h0_⟩
                have n1_ : Aside0 (w32.heap[gb248]? = some (.cells #[.string (⟨#[]⟩ : ByteArray),.int .u64 0,.int .u8 0] 39 (0,0))):=⟨h1_⟩
                have n2_ : Aside0 (w32.heap[gb249]? = some (.cells #[.string (⟨#[]⟩ : ByteArray),.int .u64 0,.int .u8 0] 39 (0,0))):=⟨h2_⟩
                have n3_ : Aside0 (w.heap.size ≤ gb248):=⟨h3_⟩
                have n4_ : Aside0 (w.heap.size ≤ gb248):=⟨h4_⟩
                have n5_ : Aside0 (gb246 ≠ gb248):=⟨h5_⟩
                have n6_ : Aside0 (gb248 ≠ gb246):=⟨h6_⟩
                have n7_ : Aside0 (gb249 ≠ gb248):=⟨h7_⟩
                have n8_ : Aside0 (gb248 ≠ gb249):=⟨h8_⟩
                have n9_ : Aside0 (w.heap.size ≤ gb249):=⟨h9_⟩
                have n10_ : Aside0 (w.heap.size ≤ gb249):=⟨h10_⟩
                have n11_ : Aside0 (gb246 ≠ gb249):=⟨h11_⟩
                have n12_ : Aside0 (gb249 ≠ gb246):=⟨h12_⟩
                have n13_ : Aside0 (Below w.heap.size w w32):=⟨h13_⟩
                clear BK246
                clear HB
                clear h0_ h1_ h2_ h3_ h4_ h5_ h6_ h7_ h8_ h9_ h10_ h11_ h12_ h13_
                have BK246:=n0_
                have BK248:=n1_
                have BK249:=n2_
                have GW248:=n3_
                have GE248:=n4_
                have NB246_248:=n5_
                have NB248_246:=n6_
                have NB249_248:=n7_
                have NB248_249:=n8_
                have GW249:=n9_
                have GE249:=n10_
                have NB246_249:=n11_
                have NB249_246:=n12_
                have HB:=n13_
                clear n0_ n1_ n2_ n3_ n4_ n5_ n6_ n7_ n8_ n9_ n10_ n11_ n12_ n13_
                have hHeld : w32.cell? ⟨gb246,0,none⟩ = some (.string t243) ∧ w32.cell? ⟨gb246,1,none⟩ = some (.int .u64 t244) ∧ w32.cell? ⟨gb246,2,none⟩ = some (.int .u8 t245):=hS_
                refine norm_ (a':=?_) ?_ ?_
                rotate_left
                ·simp only [putAll,Act.put,sA,sZ,sS]
                 rfl
                refine one_ (i:=3) (N:=some 8) #[true,true,true,true,true,true,false,false,false] rfl rfl (one_of HT_.out (by kernel_rfl)) (by decide) (fun K hK => ?_)
                refine box_step ?hg (N:=8) ?hd (cs:=#[.string (⟨#[]⟩ : ByteArray),.int .u64 0,.int .u8 0]) (t:=39) ?hr ?_;(case hd => rfl);(case hg => rfl);(case hr => first|(go_simp;done)|(go_simp;rfl))
                intro gb247 hg w33 hbox hb
                have n0_:=Aside0.mk (blk_below (g:=gb246) (o:=.cells #[.string t243,.int .u64 t244,.int .u8 t245] 39 (0,0)) (by (with_reducible repeat (first|refine bN ?_ _|refine bD ?_|refine bA ?_ _));exact BK246.out) hb)
                have n1_:=Aside0.mk (blk_below (g:=gb248) (o:=.cells #[.string (⟨#[]⟩ : ByteArray),.int .u64 0,.int .u8 0] 39 (0,0)) (by (with_reducible repeat (first|refine bN ?_ _|refine bD ?_|refine bA ?_ _));exact BK248.out) hb)
                have n2_:=Aside0.mk (blk_below (g:=gb249) (o:=.cells #[.string (⟨#[]⟩ : ByteArray),.int .u64 0,.int .u8 0] 39 (0,0)) (by (with_reducible repeat (first|refine bN ?_ _|refine bD ?_|refine bA ?_ _));exact BK249.out) hb)
                have n3_:=Aside0.mk (below_step (by repeat (first|(with_reducible first|exact HB.out|apply below_alloc|apply pw_below_drewN|apply below_drew1|refine below_set ?_ GE246.out|refine below_set ?_ GE248.out|refine below_set ?_ GE249.out)|exact HB.out)) hb)
                have n4_:=Aside0.mk (hbox)
                have n5_:=Aside0.mk ((by rw [hg];exact (below_size (by repeat (first|(with_reducible first|exact HB.out|apply below_alloc|apply pw_below_drewN|apply below_drew1|refine below_set ?_ GE246.out|refine below_set ?_ GE248.out|refine below_set ?_ GE249.out)|exact HB.out))) : w.heap.size ≤ gb247))
                have n6_:=Aside0.mk ((by rw [hg];exact (below_size (by repeat (first|(with_reducible first|exact HB.out|apply below_alloc|apply pw_below_drewN|apply below_drew1|refine below_set ?_ GE246.out|refine below_set ?_ GE248.out|refine below_set ?_ GE249.out)|exact HB.out))) : w.heap.size ≤ gb247))
                have n7_:=Aside0.mk ((by rw [hg];exact Nat.ne_of_lt (blk_lt (g:=gb246) (o:=.cells #[.string t243,.int .u64 t244,.int .u8 t245] 39 (0,0)) (by (with_reducible repeat (first|refine bN ?_ _|refine bD ?_|refine bA ?_ _));exact BK246.out)) : gb246 ≠ gb247))
                have n8_:=Aside0.mk ((by rw [hg];exact Nat.ne_of_gt (blk_lt (g:=gb246) (o:=.cells #[.string t243,.int .u64 t244,.int .u8 t245] 39 (0,0)) (by (with_reducible repeat (first|refine bN ?_ _|refine bD ?_|refine bA ?_ _));exact BK246.out)) : gb247 ≠ gb246))
                have n9_:=Aside0.mk ((by rw [hg];exact Nat.ne_of_lt (blk_lt (g:=gb248) (o:=.cells #[.string (⟨#[]⟩ : ByteArray),.int .u64 0,.int .u8 0] 39 (0,0)) (by (with_reducible repeat (first|refine bN ?_ _|refine bD ?_|refine bA ?_ _));exact BK248.out)) : gb248 ≠ gb247))
                have n10_:=Aside0.mk ((by rw [hg];exact Nat.ne_of_gt (blk_lt (g:=gb248) (o:=.cells #[.string (⟨#[]⟩ : ByteArray),.int .u64 0,.int .u8 0] 39 (0,0)) (by (with_reducible repeat (first|refine bN ?_ _|refine bD ?_|refine bA ?_ _));exact BK248.out)) : gb247 ≠ gb248))
                have n11_:=Aside0.mk ((by rw [hg];exact Nat.ne_of_lt (blk_lt (g:=gb249) (o:=.cells #[.string (⟨#[]⟩ : ByteArray),.int .u64 0,.int .u8 0] 39 (0,0)) (by (with_reducible repeat (first|refine bN ?_ _|refine bD ?_|refine bA ?_ _));exact BK249.out)) : gb249 ≠ gb247))
                have n12_:=Aside0.mk ((by rw [hg];exact Nat.ne_of_gt (blk_lt (g:=gb249) (o:=.cells #[.string (⟨#[]⟩ : ByteArray),.int .u64 0,.int .u8 0] 39 (0,0)) (by (with_reducible repeat (first|refine bN ?_ _|refine bD ?_|refine bA ?_ _));exact BK249.out)) : gb247 ≠ gb249))
                clear BK246
                clear BK248
                clear BK249
                clear HB
                have BK246:=n0_
                have BK248:=n1_
                have BK249:=n2_
                have HB:=n3_
                have BK247:=n4_
                have GW247:=n5_
                have GE247:=n6_
                have NB246_247:=n7_
                have NB247_246:=n8_
                have NB248_247:=n9_
                have NB247_248:=n10_
                have NB249_247:=n11_
                have NB247_249:=n12_
                clear n0_ n1_ n2_ n3_ n4_ n5_ n6_ n7_ n8_ n9_ n10_ n11_ n12_
                clear hb hbox hg
                refine hK.out _ _ ⟨(blk_cell BK246.out 0).trans rfl,(blk_cell BK246.out 1).trans rfl,(blk_cell BK246.out 2).trans rfl⟩ (fun hHeld => ?_)
                clear hK K
                refine norm_ (a':=?_) ?_ ?_
                rotate_left
                ·show Act.put _ (some 8) _ = _
                 simp only [Act.put,sA,sZ,sS,i64_w,i32_w]
                 rfl
                exact norm_ (by first|(simp only [putAll,Act.put,sA,sZ,sS];done)|(simp only [putAll,Act.put,sA,sZ,sS];rfl)) (hJ3_4_5 (gb247,gb248,gb249) _ ⟨hHeld,(by (with_reducible repeat (first|refine bN ?_ _|refine bD ?_|refine bA ?_ _));exact BK246.out),(by (with_reducible repeat (first|refine bN ?_ _|refine bD ?_|refine bA ?_ _));exact BK247.out),(by (with_reducible repeat (first|refine bN ?_ _|refine bD ?_|refine bA ?_ _));exact BK248.out),(by (with_reducible repeat (first|refine bN ?_ _|refine bD ?_|refine bA ?_ _));exact BK249.out),GW247.out,GE247.out,NB246_247.out,NB247_246.out,NB248_247.out,NB247_248.out,NB249_247.out,NB247_249.out,GW248.out,GE248.out,NB246_248.out,NB248_246.out,NB249_248.out,NB248_249.out,GW249.out,GE249.out,NB246_249.out,NB249_246.out,(by repeat (first|(with_reducible first|exact HB.out|apply below_alloc|apply pw_below_drewN|apply below_drew1|refine below_set ?_ GE246.out|refine below_set ?_ GE248.out|refine below_set ?_ GE249.out|refine below_set ?_ GE247.out)|exact HB.out))⟩)
              ·skip
               rintro ⟨gb247,gb249⟩ w32 ⟨hS_,h0_,h1_,h2_,h3_,h4_,h5_,h6_,h7_,h8_,h9_,h10_,h11_,h12_,h13_⟩
               have n0_ : Aside0 (w32.heap[gb246]? = some (.cells #[.string t243,.int .u64 t244,.int .u8 t245] 39 (0,0))):=⟨h0_⟩
               have n1_ : Aside0 (w32.heap[gb247]? = some (.cells #[.string (⟨#[]⟩ : ByteArray),.int .u64 0,.int .u8 0] 39 (0,0))):=⟨h1_⟩
               have n2_ : Aside0 (w32.heap[gb249]? = some (.cells #[.string (⟨#[]⟩ : ByteArray),.int .u64 0,.int .u8 0] 39 (0,0))):=⟨h2_⟩
               have n3_ : Aside0 (w.heap.size ≤ gb247):=⟨h3_⟩
               have n4_ : Aside0 (w.heap.size ≤ gb247):=⟨h4_⟩
               have n5_ : Aside0 (gb246 ≠ gb247):=⟨h5_⟩
               have n6_ : Aside0 (gb247 ≠ gb246):=⟨h6_⟩
               have n7_ : Aside0 (gb249 ≠ gb247):=⟨h7_⟩
               have n8_ : Aside0 (gb247 ≠ gb249):=⟨h8_⟩
               have n9_ : Aside0 (w.heap.size ≤ gb249):=⟨h9_⟩
               have n10_ : Aside0 (w.heap.size ≤ gb249):=⟨h10_⟩
               have n11_ : Aside0 (gb246 ≠ gb249):=⟨h11_⟩
               have n12_ : Aside0 (gb249 ≠ gb246):=⟨h12_⟩
               have n13_ : Aside0 (Below w.heap.size w w32):=⟨h13_⟩
               clear BK246
               clear HB
               clear h0_ h1_ h2_ h3_ h4_ h5_ h6_ h7_ h8_ h9_ h10_ h11_ h12_ h13_
               have BK246:=n0_
               have BK247:=n1_
               have BK249:=n2_
               have GW247:=n3_
               have GE247:=n4_
               have NB246_247:=n5_
               have NB247_246:=n6_
               have NB249_247:=n7_
               have NB247_249:=n8_
               have GW249:=n9_
               have GE249:=n10_
               have NB246_249:=n11_
               have NB249_246:=n12_
               have HB:=n13_
               clear n0_ n1_ n2_ n3_ n4_ n5_ n6_ n7_ n8_ n9_ n10_ n11_ n12_ n13_
               have hHeld : w32.cell? ⟨gb246,0,none⟩ = some (.string t243) ∧ w32.cell? ⟨gb246,1,none⟩ = some (.int .u64 t244) ∧ w32.cell? ⟨gb246,2,none⟩ = some (.int .u8 t245):=hS_
               refine norm_ (a':=?_) ?_ ?_
               rotate_left
               ·simp only [putAll,Act.put,sA,sZ,sS]
                rfl
               refine one_ (i:=4) (N:=some 9) #[true,true,true,true,true,true,false,false,false] rfl rfl (one_of HT_.out (by kernel_rfl)) (by decide) (fun K hK => ?_)
               refine box_step ?hg (N:=9) ?hd (cs:=#[.string (⟨#[]⟩ : ByteArray),.int .u64 0,.int .u8 0]) (t:=39) ?hr ?_;(case hd => rfl);(case hg => rfl);(case hr => first|(go_simp;done)|(go_simp;rfl))
               intro gb248 hg w33 hbox hb
               have n0_:=Aside0.mk (blk_below (g:=gb246) (o:=.cells #[.string t243,.int .u64 t244,.int .u8 t245] 39 (0,0)) (by (with_reducible repeat (first|refine bN ?_ _|refine bD ?_|refine bA ?_ _));exact BK246.out) hb)
               have n1_:=Aside0.mk (blk_below (g:=gb247) (o:=.cells #[.string (⟨#[]⟩ : ByteArray),.int .u64 0,.int .u8 0] 39 (0,0)) (by (with_reducible repeat (first|refine bN ?_ _|refine bD ?_|refine bA ?_ _));exact BK247.out) hb)
               have n2_:=Aside0.mk (blk_below (g:=gb249) (o:=.cells #[.string (⟨#[]⟩ : ByteArray),.int .u64 0,.int .u8 0] 39 (0,0)) (by (with_reducible repeat (first|refine bN ?_ _|refine bD ?_|refine bA ?_ _));exact BK249.out) hb)
               have n3_:=Aside0.mk (below_step (by repeat (first|(with_reducible first|exact HB.out|apply below_alloc|apply pw_below_drewN|apply below_drew1|refine below_set ?_ GE246.out|refine below_set ?_ GE247.out|refine below_set ?_ GE249.out)|exact HB.out)) hb)
               have n4_:=Aside0.mk (hbox)
               have n5_:=Aside0.mk ((by rw [hg];exact (below_size (by repeat (first|(with_reducible first|exact HB.out|apply below_alloc|apply pw_below_drewN|apply below_drew1|refine below_set ?_ GE246.out|refine below_set ?_ GE247.out|refine below_set ?_ GE249.out)|exact HB.out))) : w.heap.size ≤ gb248))
               have n6_:=Aside0.mk ((by rw [hg];exact (below_size (by repeat (first|(with_reducible first|exact HB.out|apply below_alloc|apply pw_below_drewN|apply below_drew1|refine below_set ?_ GE246.out|refine below_set ?_ GE247.out|refine below_set ?_ GE249.out)|exact HB.out))) : w.heap.size ≤ gb248))
               have n7_:=Aside0.mk ((by rw [hg];exact Nat.ne_of_lt (blk_lt (g:=gb246) (o:=.cells #[.string t243,.int .u64 t244,.int .u8 t245] 39 (0,0)) (by (with_reducible repeat (first|refine bN ?_ _|refine bD ?_|refine bA ?_ _));exact BK246.out)) : gb246 ≠ gb248))
               have n8_:=Aside0.mk ((by rw [hg];exact Nat.ne_of_gt (blk_lt (g:=gb246) (o:=.cells #[.string t243,.int .u64 t244,.int .u8 t245] 39 (0,0)) (by (with_reducible repeat (first|refine bN ?_ _|refine bD ?_|refine bA ?_ _));exact BK246.out)) : gb248 ≠ gb246))
               have n9_:=Aside0.mk ((by rw [hg];exact Nat.ne_of_lt (blk_lt (g:=gb247) (o:=.cells #[.string (⟨#[]⟩ : ByteArray),.int .u64 0,.int .u8 0] 39 (0,0)) (by (with_reducible repeat (first|refine bN ?_ _|refine bD ?_|refine bA ?_ _));exact BK247.out)) : gb247 ≠ gb248))
               have n10_:=Aside0.mk ((by rw [hg];exact Nat.ne_of_gt (blk_lt (g:=gb247) (o:=.cells #[.string (⟨#[]⟩ : ByteArray),.int .u64 0,.int .u8 0] 39 (0,0)) (by (with_reducible repeat (first|refine bN ?_ _|refine bD ?_|refine bA ?_ _));exact BK247.out)) : gb248 ≠ gb247))
               have n11_:=Aside0.mk ((by rw [hg];exact Nat.ne_of_lt (blk_lt (g:=gb249) (o:=.cells #[.string (⟨#[]⟩ : ByteArray),.int .u64 0,.int .u8 0] 39 (0,0)) (by (with_reducible repeat (first|refine bN ?_ _|refine bD ?_|refine bA ?_ _));exact BK249.out)) : gb249 ≠ gb248))
               have n12_:=Aside0.mk ((by rw [hg];exact Nat.ne_of_gt (blk_lt (g:=gb249) (o:=.cells #[.string (⟨#[]⟩ : ByteArray),.int .u64 0,.int .u8 0] 39 (0,0)) (by (with_reducible repeat (first|refine bN ?_ _|refine bD ?_|refine bA ?_ _));exact BK249.out)) : gb248 ≠ gb249))
               clear BK246
               clear BK247
               clear BK249
               clear HB
               have BK246:=n0_
               have BK247:=n1_
               have BK249:=n2_
               have HB:=n3_
               have BK248:=n4_
               have GW248:=n5_
               have GE248:=n6_
               have NB246_248:=n7_
               have NB248_246:=n8_
               have NB247_248:=n9_
               have NB248_247:=n10_
               have NB249_248:=n11_
               have NB248_249:=n12_
               clear n0_ n1_ n2_ n3_ n4_ n5_ n6_ n7_ n8_ n9_ n10_ n11_ n12_
               clear hb hbox hg
               refine hK.out _ _ ⟨(blk_cell BK246.out 0).trans rfl,(blk_cell BK246.out 1).trans rfl,(blk_cell BK246.out 2).trans rfl⟩ (fun hHeld => ?_)
               clear hK K
               refine norm_ (a':=?_) ?_ ?_
               rotate_left
               ·show Act.put _ (some 9) _ = _
                simp only [Act.put,sA,sZ,sS,i64_w,i32_w]
                rfl
               exact norm_ (by first|(simp only [putAll,Act.put,sA,sZ,sS];done)|(simp only [putAll,Act.put,sA,sZ,sS];rfl)) (hJ3_4_5 (gb247,gb248,gb249) _ ⟨hHeld,(by (with_reducible repeat (first|refine bN ?_ _|refine bD ?_|refine bA ?_ _));exact BK246.out),(by (with_reducible repeat (first|refine bN ?_ _|refine bD ?_|refine bA ?_ _));exact BK247.out),(by (with_reducible repeat (first|refine bN ?_ _|refine bD ?_|refine bA ?_ _));exact BK248.out),(by (with_reducible repeat (first|refine bN ?_ _|refine bD ?_|refine bA ?_ _));exact BK249.out),GW247.out,GE247.out,NB246_247.out,NB247_246.out,NB248_247.out,NB247_248.out,NB249_247.out,NB247_249.out,GW248.out,GE248.out,NB246_248.out,NB248_246.out,NB249_248.out,NB248_249.out,GW249.out,GE249.out,NB246_249.out,NB249_246.out,(by repeat (first|(with_reducible first|exact HB.out|apply below_alloc|apply pw_below_drewN|apply below_drew1|refine below_set ?_ GE246.out|refine below_set ?_ GE247.out|refine below_set ?_ GE249.out|refine below_set ?_ GE248.out)|exact HB.out))⟩)
             ·skip
              rintro ⟨gb247,gb248⟩ w32 ⟨hS_,h0_,h1_,h2_,h3_,h4_,h5_,h6_,h7_,h8_,h9_,h10_,h11_,h12_,h13_⟩
              have n0_ : Aside0 (w32.heap[gb246]? = some (.cells #[.string t243,.int .u64 t244,.int .u8 t245] 39 (0,0))):=⟨h0_⟩
              have n1_ : Aside0 (w32.heap[gb247]? = some (.cells #[.string (⟨#[]⟩ : ByteArray),.int .u64 0,.int .u8 0] 39 (0,0))):=⟨h1_⟩
              have n2_ : Aside0 (w32.heap[gb248]? = some (.cells #[.string (⟨#[]⟩ : ByteArray),.int .u64 0,.int .u8 0] 39 (0,0))):=⟨h2_⟩
              have n3_ : Aside0 (w.heap.size ≤ gb247):=⟨h3_⟩
              have n4_ : Aside0 (w.heap.size ≤ gb247):=⟨h4_⟩
              have n5_ : Aside0 (gb246 ≠ gb247):=⟨h5_⟩
              have n6_ : Aside0 (gb247 ≠ gb246):=⟨h6_⟩
              have n7_ : Aside0 (gb248 ≠ gb247):=⟨h7_⟩
              have n8_ : Aside0 (gb247 ≠ gb248):=⟨h8_⟩
              have n9_ : Aside0 (w.heap.size ≤ gb248):=⟨h9_⟩
              have n10_ : Aside0 (w.heap.size ≤ gb248):=⟨h10_⟩
              have n11_ : Aside0 (gb246 ≠ gb248):=⟨h11_⟩
              have n12_ : Aside0 (gb248 ≠ gb246):=⟨h12_⟩
              have n13_ : Aside0 (Below w.heap.size w w32):=⟨h13_⟩
              clear BK246
              clear HB
              clear h0_ h1_ h2_ h3_ h4_ h5_ h6_ h7_ h8_ h9_ h10_ h11_ h12_ h13_
              have BK246:=n0_
              have BK247:=n1_
              have BK248:=n2_
              have GW247:=n3_
              have GE247:=n4_
              have NB246_247:=n5_
              have NB247_246:=n6_
              have NB248_247:=n7_
              have NB247_248:=n8_
              have GW248:=n9_
              have GE248:=n10_
              have NB246_248:=n11_
              have NB248_246:=n12_
              have HB:=n13_
              clear n0_ n1_ n2_ n3_ n4_ n5_ n6_ n7_ n8_ n9_ n10_ n11_ n12_ n13_
              have hHeld : w32.cell? ⟨gb246,0,none⟩ = some (.string t243) ∧ w32.cell? ⟨gb246,1,none⟩ = some (.int .u64 t244) ∧ w32.cell? ⟨gb246,2,none⟩ = some (.int .u8 t245):=hS_
              refine norm_ (a':=?_) ?_ ?_
              rotate_left
              ·simp only [putAll,Act.put,sA,sZ,sS]
               rfl
              refine one_ (i:=5) (N:=some 10) #[true,true,true,true,true,true,false,false,false] rfl rfl (one_of HT_.out (by kernel_rfl)) (by decide) (fun K hK => ?_)
              refine box_step ?hg (N:=10) ?hd (cs:=#[.string (⟨#[]⟩ : ByteArray),.int .u64 0,.int .u8 0]) (t:=39) ?hr ?_;(case hd => rfl);(case hg => rfl);(case hr => first|(go_simp;done)|(go_simp;rfl))
              intro gb249 hg w33 hbox hb
              have n0_:=Aside0.mk (blk_below (g:=gb246) (o:=.cells #[.string t243,.int .u64 t244,.int .u8 t245] 39 (0,0)) (by (with_reducible repeat (first|refine bN ?_ _|refine bD ?_|refine bA ?_ _));exact BK246.out) hb)
              have n1_:=Aside0.mk (blk_below (g:=gb247) (o:=.cells #[.string (⟨#[]⟩ : ByteArray),.int .u64 0,.int .u8 0] 39 (0,0)) (by (with_reducible repeat (first|refine bN ?_ _|refine bD ?_|refine bA ?_ _));exact BK247.out) hb)
              have n2_:=Aside0.mk (blk_below (g:=gb248) (o:=.cells #[.string (⟨#[]⟩ : ByteArray),.int .u64 0,.int .u8 0] 39 (0,0)) (by (with_reducible repeat (first|refine bN ?_ _|refine bD ?_|refine bA ?_ _));exact BK248.out) hb)
              have n3_:=Aside0.mk (below_step (by repeat (first|(with_reducible first|exact HB.out|apply below_alloc|apply pw_below_drewN|apply below_drew1|refine below_set ?_ GE246.out|refine below_set ?_ GE247.out|refine below_set ?_ GE248.out)|exact HB.out)) hb)
              have n4_:=Aside0.mk (hbox)
              have n5_:=Aside0.mk ((by rw [hg];exact (below_size (by repeat (first|(with_reducible first|exact HB.out|apply below_alloc|apply pw_below_drewN|apply below_drew1|refine below_set ?_ GE246.out|refine below_set ?_ GE247.out|refine below_set ?_ GE248.out)|exact HB.out))) : w.heap.size ≤ gb249))
              have n6_:=Aside0.mk ((by rw [hg];exact (below_size (by repeat (first|(with_reducible first|exact HB.out|apply below_alloc|apply pw_below_drewN|apply below_drew1|refine below_set ?_ GE246.out|refine below_set ?_ GE247.out|refine below_set ?_ GE248.out)|exact HB.out))) : w.heap.size ≤ gb249))
              have n7_:=Aside0.mk ((by rw [hg];exact Nat.ne_of_lt (blk_lt (g:=gb246) (o:=.cells #[.string t243,.int .u64 t244,.int .u8 t245] 39 (0,0)) (by (with_reducible repeat (first|refine bN ?_ _|refine bD ?_|refine bA ?_ _));exact BK246.out)) : gb246 ≠ gb249))
              have n8_:=Aside0.mk ((by rw [hg];exact Nat.ne_of_gt (blk_lt (g:=gb246) (o:=.cells #[.string t243,.int .u64 t244,.int .u8 t245] 39 (0,0)) (by (with_reducible repeat (first|refine bN ?_ _|refine bD ?_|refine bA ?_ _));exact BK246.out)) : gb249 ≠ gb246))
              have n9_:=Aside0.mk ((by rw [hg];exact Nat.ne_of_lt (blk_lt (g:=gb247) (o:=.cells #[.string (⟨#[]⟩ : ByteArray),.int .u64 0,.int .u8 0] 39 (0,0)) (by (with_reducible repeat (first|refine bN ?_ _|refine bD ?_|refine bA ?_ _));exact BK247.out)) : gb247 ≠ gb249))
              have n10_:=Aside0.mk ((by rw [hg];exact Nat.ne_of_gt (blk_lt (g:=gb247) (o:=.cells #[.string (⟨#[]⟩ : ByteArray),.int .u64 0,.int .u8 0] 39 (0,0)) (by (with_reducible repeat (first|refine bN ?_ _|refine bD ?_|refine bA ?_ _));exact BK247.out)) : gb249 ≠ gb247))
              have n11_:=Aside0.mk ((by rw [hg];exact Nat.ne_of_lt (blk_lt (g:=gb248) (o:=.cells #[.string (⟨#[]⟩ : ByteArray),.int .u64 0,.int .u8 0] 39 (0,0)) (by (with_reducible repeat (first|refine bN ?_ _|refine bD ?_|refine bA ?_ _));exact BK248.out)) : gb248 ≠ gb249))
              have n12_:=Aside0.mk ((by rw [hg];exact Nat.ne_of_gt (blk_lt (g:=gb248) (o:=.cells #[.string (⟨#[]⟩ : ByteArray),.int .u64 0,.int .u8 0] 39 (0,0)) (by (with_reducible repeat (first|refine bN ?_ _|refine bD ?_|refine bA ?_ _));exact BK248.out)) : gb249 ≠ gb248))
              clear BK246
              clear BK247
              clear BK248
              clear HB
              have BK246:=n0_
              have BK247:=n1_
              have BK248:=n2_
              have HB:=n3_
              have BK249:=n4_
              have GW249:=n5_
              have GE249:=n6_
              have NB246_249:=n7_
              have NB249_246:=n8_
              have NB247_249:=n9_
              have NB249_247:=n10_
              have NB248_249:=n11_
              have NB249_248:=n12_
              clear n0_ n1_ n2_ n3_ n4_ n5_ n6_ n7_ n8_ n9_ n10_ n11_ n12_
              clear hb hbox hg
              refine hK.out _ _ ⟨(blk_cell BK246.out 0).trans rfl,(blk_cell BK246.out 1).trans rfl,(blk_cell BK246.out 2).trans rfl⟩ (fun hHeld => ?_)
              clear hK K
              refine norm_ (a':=?_) ?_ ?_
              rotate_left
              ·show Act.put _ (some 10) _ = _
               simp only [Act.put,sA,sZ,sS,i64_w,i32_w]
               rfl
              exact norm_ (by first|(simp only [putAll,Act.put,sA,sZ,sS];done)|(simp only [putAll,Act.put,sA,sZ,sS];rfl)) (hJ3_4_5 (gb247,gb248,gb249) _ ⟨hHeld,(by (with_reducible repeat (first|refine bN ?_ _|refine bD ?_|refine bA ?_ _));exact BK246.out),(by (with_reducible repeat (first|refine bN ?_ _|refine bD ?_|refine bA ?_ _));exact BK247.out),(by (with_reducible repeat (first|refine bN ?_ _|refine bD ?_|refine bA ?_ _));exact BK248.out),(by (with_reducible repeat (first|refine bN ?_ _|refine bD ?_|refine bA ?_ _));exact BK249.out),GW247.out,GE247.out,NB246_247.out,NB247_246.out,NB248_247.out,NB247_248.out,NB249_247.out,NB247_249.out,GW248.out,GE248.out,NB246_248.out,NB248_246.out,NB249_248.out,NB248_249.out,GW249.out,GE249.out,NB246_249.out,NB249_246.out,(by repeat (first|(with_reducible first|exact HB.out|apply below_alloc|apply pw_below_drewN|apply below_drew1|refine below_set ?_ GE246.out|refine below_set ?_ GE247.out|refine below_set ?_ GE248.out|refine below_set ?_ GE249.out)|exact HB.out))⟩)
            rintro ⟨gb247,gb248,gb249⟩ w33 ⟨hS_,h0_,h1_,h2_,h3_,h4_,h5_,h6_,h7_,h8_,h9_,h10_,h11_,h12_,h13_,h14_,h15_,h16_,h17_,h18_,h19_,h20_,h21_,h22_⟩
            have n0_ : Aside0 (w33.heap[gb246]? = some (.cells #[.string t243,.int .u64 t244,.int .u8 t245] 39 (0,0))):=⟨h0_⟩
            have n1_ : Aside0 (w33.heap[gb247]? = some (.cells #[.string (⟨#[]⟩ : ByteArray),.int .u64 0,.int .u8 0] 39 (0,0))):=⟨h1_⟩
            have n2_ : Aside0 (w33.heap[gb248]? = some (.cells #[.string (⟨#[]⟩ : ByteArray),.int .u64 0,.int .u8 0] 39 (0,0))):=⟨h2_⟩
            have n3_ : Aside0 (w33.heap[gb249]? = some (.cells #[.string (⟨#[]⟩ : ByteArray),.int .u64 0,.int .u8 0] 39 (0,0))):=⟨h3_⟩
            have n4_ : Aside0 (w.heap.size ≤ gb247):=⟨h4_⟩
            have n5_ : Aside0 (w.heap.size ≤ gb247):=⟨h5_⟩
            have n6_ : Aside0 (gb246 ≠ gb247):=⟨h6_⟩
            have n7_ : Aside0 (gb247 ≠ gb246):=⟨h7_⟩
            have n8_ : Aside0 (gb248 ≠ gb247):=⟨h8_⟩
            have n9_ : Aside0 (gb247 ≠ gb248):=⟨h9_⟩
            have n10_ : Aside0 (gb249 ≠ gb247):=⟨h10_⟩
            have n11_ : Aside0 (gb247 ≠ gb249):=⟨h11_⟩
            have n12_ : Aside0 (w.heap.size ≤ gb248):=⟨h12_⟩
            have n13_ : Aside0 (w.heap.size ≤ gb248):=⟨h13_⟩
            have n14_ : Aside0 (gb246 ≠ gb248):=⟨h14_⟩
            have n15_ : Aside0 (gb248 ≠ gb246):=⟨h15_⟩
            have n16_ : Aside0 (gb249 ≠ gb248):=⟨h16_⟩
            have n17_ : Aside0 (gb248 ≠ gb249):=⟨h17_⟩
            have n18_ : Aside0 (w.heap.size ≤ gb249):=⟨h18_⟩
            have n19_ : Aside0 (w.heap.size ≤ gb249):=⟨h19_⟩
            have n20_ : Aside0 (gb246 ≠ gb249):=⟨h20_⟩
            have n21_ : Aside0 (gb249 ≠ gb246):=⟨h21_⟩
            have n22_ : Aside0 (Below w.heap.size w w33):=⟨h22_⟩
            clear BK246
            clear HB
            clear h0_ h1_ h2_ h3_ h4_ h5_ h6_ h7_ h8_ h9_ h10_ h11_ h12_ h13_ h14_ h15_ h16_ h17_ h18_ h19_ h20_ h21_ h22_
            have BK246:=n0_
            have BK247:=n1_
            have BK248:=n2_
            have BK249:=n3_
            have GW247:=n4_
            have GE247:=n5_
            have NB246_247:=n6_
            have NB247_246:=n7_
            have NB248_247:=n8_
            have NB247_248:=n9_
            have NB249_247:=n10_
            have NB247_249:=n11_
            have GW248:=n12_
            have GE248:=n13_
            have NB246_248:=n14_
            have NB248_246:=n15_
            have NB249_248:=n16_
            have NB248_249:=n17_
            have GW249:=n18_
            have GE249:=n19_
            have NB246_249:=n20_
            have NB249_246:=n21_
            have HB:=n22_
            clear n0_ n1_ n2_ n3_ n4_ n5_ n6_ n7_ n8_ n9_ n10_ n11_ n12_ n13_ n14_ n15_ n16_ n17_ n18_ n19_ n20_ n21_ n22_
            have hHeld : w33.cell? ⟨gb246,0,none⟩ = some (.string t243) ∧ w33.cell? ⟨gb246,1,none⟩ = some (.int .u64 t244) ∧ w33.cell? ⟨gb246,2,none⟩ = some (.int .u8 t245):=hS_
            refine norm_ (a':=?_) ?_ ?_
            rotate_left
            ·simp only [putAll,Act.put,sA,sZ,sS]
             rfl
            refine one_ (i:=6) (N:=none) #[true,true,true,true,true,true,true,false,false] rfl rfl (one_of HT_.out (by kernel_rfl)) (by decide) (fun K hK => ?_)
            have hs34 : w33.cell? ⟨gb247,0,none⟩ = some (.string (⟨#[]⟩ : ByteArray)):=(blk_cell BK247.out 0).trans rfl
            have hfs34:=blk_frozen BK247.out 0
            have hns34_0:=NB246_247.out
            have hns34_2:=NB248_247.out
            have hns34_3:=NB249_247.out
            have hms34_0:=NB247_246.out
            have hms34_2:=NB247_248.out
            have hms34_3:=NB247_249.out
            have hs35 : w33.cell? ⟨gb247,1,none⟩ = some (.int .u64 0):=(blk_cell BK247.out 1).trans rfl
            have hfs35:=blk_frozen BK247.out 1
            have hns35_0:=NB246_247.out
            have hns35_2:=NB248_247.out
            have hns35_3:=NB249_247.out
            have hms35_0:=NB247_246.out
            have hms35_2:=NB247_248.out
            have hms35_3:=NB247_249.out
            have hs36 : w33.cell? ⟨gb247,2,none⟩ = some (.int .u8 0):=(blk_cell BK247.out 2).trans rfl
            have hfs36:=blk_frozen BK247.out 2
            have hns36_0:=NB246_247.out
            have hns36_2:=NB248_247.out
            have hns36_3:=NB249_247.out
            have hms36_0:=NB247_246.out
            have hms36_2:=NB247_248.out
            have hms36_3:=NB247_249.out
            refine skip_ (w1:=?_) (by rfl) rfl ?_ ?_
            rotate_left
            ·go_simp
             rfl
            refine hK.out _ _ ⟨((cell_far (p:=⟨gb247,_,none⟩) NB246_247.out _).trans (((cell_far (p:=⟨gb247,_,none⟩) NB246_247.out _).trans (((cell_far (p:=⟨gb247,_,none⟩) NB246_247.out _).trans (hHeld.1)))))),((cell_far (p:=⟨gb247,_,none⟩) NB246_247.out _).trans (((cell_far (p:=⟨gb247,_,none⟩) NB246_247.out _).trans (((cell_far (p:=⟨gb247,_,none⟩) NB246_247.out _).trans (hHeld.2.1)))))),((cell_far (p:=⟨gb247,_,none⟩) NB246_247.out _).trans (((cell_far (p:=⟨gb247,_,none⟩) NB246_247.out _).trans (((cell_far (p:=⟨gb247,_,none⟩) NB246_247.out _).trans (hHeld.2.2))))))⟩ (fun hHeld => ?_)
            clear hK K
            refine one_ (i:=7) (N:=none) #[true,true,true,true,true,true,true,true,false] rfl rfl (one_of HT_.out (by kernel_rfl)) (by decide) (fun K hK => ?_)
            have hs37 : w33.cell? ⟨gb248,0,none⟩ = some (.string (⟨#[]⟩ : ByteArray)):=(blk_cell BK248.out 0).trans rfl
            have hfs37:=blk_frozen BK248.out 0
            have hns37_0:=NB246_248.out
            have hns37_1:=NB247_248.out
            have hns37_3:=NB249_248.out
            have hms37_0:=NB248_246.out
            have hms37_1:=NB248_247.out
            have hms37_3:=NB248_249.out
            have hs38 : w33.cell? ⟨gb248,1,none⟩ = some (.int .u64 0):=(blk_cell BK248.out 1).trans rfl
            have hfs38:=blk_frozen BK248.out 1
            have hns38_0:=NB246_248.out
            have hns38_1:=NB247_248.out
            have hns38_3:=NB249_248.out
            have hms38_0:=NB248_246.out
            have hms38_1:=NB248_247.out
            have hms38_3:=NB248_249.out
            have hs39 : w33.cell? ⟨gb248,2,none⟩ = some (.int .u8 0):=(blk_cell BK248.out 2).trans rfl
            have hfs39:=blk_frozen BK248.out 2
            have hns39_0:=NB246_248.out
            have hns39_1:=NB247_248.out
            have hns39_3:=NB249_248.out
            have hms39_0:=NB248_246.out
            have hms39_1:=NB248_247.out
            have hms39_3:=NB248_249.out
            refine skip_ (w1:=?_) (by rfl) rfl ?_ ?_
            rotate_left
            ·go_simp
             rfl
            refine hK.out _ _ ⟨((cell_far (p:=⟨gb248,_,none⟩) NB246_248.out _).trans (((cell_far (p:=⟨gb248,_,none⟩) NB246_248.out _).trans (((cell_far (p:=⟨gb248,_,none⟩) NB246_248.out _).trans (hHeld.1)))))),((cell_far (p:=⟨gb248,_,none⟩) NB246_248.out _).trans (((cell_far (p:=⟨gb248,_,none⟩) NB246_248.out _).trans (((cell_far (p:=⟨gb248,_,none⟩) NB246_248.out _).trans (hHeld.2.1)))))),((cell_far (p:=⟨gb248,_,none⟩) NB246_248.out _).trans (((cell_far (p:=⟨gb248,_,none⟩) NB246_248.out _).trans (((cell_far (p:=⟨gb248,_,none⟩) NB246_248.out _).trans (hHeld.2.2))))))⟩ (fun hHeld => ?_)
            clear hK K
            refine one_ (i:=8) (N:=none) #[true,true,true,true,true,true,true,true,true] rfl rfl (one_of HT_.out (by kernel_rfl)) (by decide) (fun K hK => ?_)
            have hs40 : w33.cell? ⟨gb249,0,none⟩ = some (.string (⟨#[]⟩ : ByteArray)):=(blk_cell BK249.out 0).trans rfl
            have hfs40:=blk_frozen BK249.out 0
            have hns40_0:=NB246_249.out
            have hns40_1:=NB247_249.out
            have hns40_2:=NB248_249.out
            have hms40_0:=NB249_246.out
            have hms40_1:=NB249_247.out
            have hms40_2:=NB249_248.out
            have hs41 : w33.cell? ⟨gb249,1,none⟩ = some (.int .u64 0):=(blk_cell BK249.out 1).trans rfl
            have hfs41:=blk_frozen BK249.out 1
            have hns41_0:=NB246_249.out
            have hns41_1:=NB247_249.out
            have hns41_2:=NB248_249.out
            have hms41_0:=NB249_246.out
            have hms41_1:=NB249_247.out
            have hms41_2:=NB249_248.out
            have hs42 : w33.cell? ⟨gb249,2,none⟩ = some (.int .u8 0):=(blk_cell BK249.out 2).trans rfl
            have hfs42:=blk_frozen BK249.out 2
            have hns42_0:=NB246_249.out
            have hns42_1:=NB247_249.out
            have hns42_2:=NB248_249.out
            have hms42_0:=NB249_246.out
            have hms42_1:=NB249_247.out
            have hms42_2:=NB249_248.out
            refine skip_ (w1:=?_) (by rfl) rfl ?_ ?_
            rotate_left
            ·go_simp
             rfl
            refine hK.out _ _ ⟨((cell_far (p:=⟨gb249,_,none⟩) NB246_249.out _).trans (((cell_far (p:=⟨gb249,_,none⟩) NB246_249.out _).trans (((cell_far (p:=⟨gb249,_,none⟩) NB246_249.out _).trans (hHeld.1)))))),((cell_far (p:=⟨gb249,_,none⟩) NB246_249.out _).trans (((cell_far (p:=⟨gb249,_,none⟩) NB246_249.out _).trans (((cell_far (p:=⟨gb249,_,none⟩) NB246_249.out _).trans (hHeld.2.1)))))),((cell_far (p:=⟨gb249,_,none⟩) NB246_249.out _).trans (((cell_far (p:=⟨gb249,_,none⟩) NB246_249.out _).trans (((cell_far (p:=⟨gb249,_,none⟩) NB246_249.out _).trans (hHeld.2.2))))))⟩ (fun hHeld => ?_)
            clear hK K
            refine done_ (done_of HT_.out (by kernel_rfl)) ?_
            go_upto_region 9 with (first|(rw [hji18m])|((with_reducible refine gate_dst (N:=44) rfl ?_);(try (refine gate_guard (by rfl) ?_;dsimp only));refine Kd.R_make (Kd.int .u8) _ 5 rfl (N:=44) rfl 44 _ _ rfl ji18 rfl rfl Try.underlying44 (.int .u8 0) 1 info5 rfl (by decide) (by omega) 0 (ok:=fun _ => True) (okp:=fun _ => True) rfl (fun _ hk => hk) trivial (of_decide_eq_true (by first|(with_reducible assumption)|assumption)) (Nat.le_trans (Nat.mul_le_mul_right _ (of_decide_eq_true (by first|(with_reducible assumption)|assumption) : ji18.toNat ≤ 281474976710656)) (by omega)) (Below.refl _ _) (Nat.le_refl _) ?_;intro v251 w43 ho44 hb hg_ hnew_;clear hg_ hnew_;(first|rw [← Ny250.out] at ho44|(simp only [Int.reduceToNat] at ho44;rw [← Ny250.out] at ho44));have n0_:=Aside0.mk (Kd.R_lower ho44 (below_size (by repeat (first|(with_reducible first|exact HB.out|apply below_alloc|apply pw_below_drewN|apply below_drew1|refine below_set ?_ GE246.out|refine below_set ?_ GE247.out|refine below_set ?_ GE248.out|refine below_set ?_ GE249.out)|exact HB.out))));have n1_:=Aside0.mk (blk_below (g:=gb246) (o:=.cells #[.string t243,.int .u64 t244,.int .u8 t245] 39 (0,0)) (by (with_reducible repeat (first|refine bN ?_ _|refine bD ?_|refine bA ?_ _));refine blk_far ?_ NB246_249.out _;(with_reducible repeat (first|refine bN ?_ _|refine bD ?_|refine bA ?_ _));refine blk_far ?_ NB246_249.out _;(with_reducible repeat (first|refine bN ?_ _|refine bD ?_|refine bA ?_ _));refine blk_far ?_ NB246_249.out _;(with_reducible repeat (first|refine bN ?_ _|refine bD ?_|refine bA ?_ _));refine blk_far ?_ NB246_248.out _;(with_reducible repeat (first|refine bN ?_ _|refine bD ?_|refine bA ?_ _));refine blk_far ?_ NB246_248.out _;(with_reducible repeat (first|refine bN ?_ _|refine bD ?_|refine bA ?_ _));refine blk_far ?_ NB246_248.out _;(with_reducible repeat (first|refine bN ?_ _|refine bD ?_|refine bA ?_ _));refine blk_far ?_ NB246_247.out _;(with_reducible repeat (first|refine bN ?_ _|refine bD ?_|refine bA ?_ _));refine blk_far ?_ NB246_247.out _;(with_reducible repeat (first|refine bN ?_ _|refine bD ?_|refine bA ?_ _));refine blk_far ?_ NB246_247.out _;(with_reducible repeat (first|refine bN ?_ _|refine bD ?_|refine bA ?_ _));exact BK246.out) hb);have n2_:=Aside0.mk (blk_below (g:=gb247) (o:=.cells #[.string t243,.int .u64 t244,.int .u8 t245] 39 (0,0)) (by (with_reducible repeat (first|refine bN ?_ _|refine bD ?_|refine bA ?_ _));refine blk_far ?_ NB247_249.out _;(with_reducible repeat (first|refine bN ?_ _|refine bD ?_|refine bA ?_ _));refine blk_far ?_ NB247_249.out _;(with_reducible repeat (first|refine bN ?_ _|refine bD ?_|refine bA ?_ _));refine blk_far ?_ NB247_249.out _;(with_reducible repeat (first|refine bN ?_ _|refine bD ?_|refine bA ?_ _));refine blk_far ?_ NB247_248.out _;(with_reducible repeat (first|refine bN ?_ _|refine bD ?_|refine bA ?_ _));refine blk_far ?_ NB247_248.out _;(with_reducible repeat (first|refine bN ?_ _|refine bD ?_|refine bA ?_ _));refine blk_far ?_ NB247_248.out _;(with_reducible repeat (first|refine bN ?_ _|refine bD ?_|refine bA ?_ _));refine blk_put (cs:=#[.string t243,.int .u64 t244,.int .u8 0]) ?_ 2 _ rfl;(with_reducible repeat (first|refine bN ?_ _|refine bD ?_|refine bA ?_ _));refine blk_put (cs:=#[.string t243,.int .u64 0,.int .u8 0]) ?_ 1 _ rfl;(with_reducible repeat (first|refine bN ?_ _|refine bD ?_|refine bA ?_ _));refine blk_put (cs:=#[.string (⟨#[]⟩ : ByteArray),.int .u64 0,.int .u8 0]) ?_ 0 _ rfl;(with_reducible repeat (first|refine bN ?_ _|refine bD ?_|refine bA ?_ _));exact BK247.out) hb);have n3_:=Aside0.mk (blk_below (g:=gb248) (o:=.cells #[.string t243,.int .u64 t244,.int .u8 t245] 39 (0,0)) (by (with_reducible repeat (first|refine bN ?_ _|refine bD ?_|refine bA ?_ _));refine blk_far ?_ NB248_249.out _;(with_reducible repeat (first|refine bN ?_ _|refine bD ?_|refine bA ?_ _));refine blk_far ?_ NB248_249.out _;(with_reducible repeat (first|refine bN ?_ _|refine bD ?_|refine bA ?_ _));refine blk_far ?_ NB248_249.out _;(with_reducible repeat (first|refine bN ?_ _|refine bD ?_|refine bA ?_ _));refine blk_put (cs:=#[.string t243,.int .u64 t244,.int .u8 0]) ?_ 2 _ rfl;(with_reducible repeat (first|refine bN ?_ _|refine bD ?_|refine bA ?_ _));refine blk_put (cs:=#[.string t243,.int .u64 0,.int .u8 0]) ?_ 1 _ rfl;(with_reducible repeat (first|refine bN ?_ _|refine bD ?_|refine bA ?_ _));refine blk_put (cs:=#[.string (⟨#[]⟩ : ByteArray),.int .u64 0,.int .u8 0]) ?_ 0 _ rfl;(with_reducible repeat (first|refine bN ?_ _|refine bD ?_|refine bA ?_ _));refine blk_far ?_ NB248_247.out _;(with_reducible repeat (first|refine bN ?_ _|refine bD ?_|refine bA ?_ _));refine blk_far ?_ NB248_247.out _;(with_reducible repeat (first|refine bN ?_ _|refine bD ?_|refine bA ?_ _));refine blk_far ?_ NB248_247.out _;(with_reducible repeat (first|refine bN ?_ _|refine bD ?_|refine bA ?_ _));exact BK248.out) hb);have n4_:=Aside0.mk (blk_below (g:=gb249) (o:=.cells #[.string t243,.int .u64 t244,.int .u8 t245] 39 (0,0)) (by (with_reducible repeat (first|refine bN ?_ _|refine bD ?_|refine bA ?_ _));refine blk_put (cs:=#[.string t243,.int .u64 t244,.int .u8 0]) ?_ 2 _ rfl;(with_reducible repeat (first|refine bN ?_ _|refine bD ?_|refine bA ?_ _));refine blk_put (cs:=#[.string t243,.int .u64 0,.int .u8 0]) ?_ 1 _ rfl;(with_reducible repeat (first|refine bN ?_ _|refine bD ?_|refine bA ?_ _));refine blk_put (cs:=#[.string (⟨#[]⟩ : ByteArray),.int .u64 0,.int .u8 0]) ?_ 0 _ rfl;(with_reducible repeat (first|refine bN ?_ _|refine bD ?_|refine bA ?_ _));refine blk_far ?_ NB249_248.out _;(with_reducible repeat (first|refine bN ?_ _|refine bD ?_|refine bA ?_ _));refine blk_far ?_ NB249_248.out _;(with_reducible repeat (first|refine bN ?_ _|refine bD ?_|refine bA ?_ _));refine blk_far ?_ NB249_248.out _;(with_reducible repeat (first|refine bN ?_ _|refine bD ?_|refine bA ?_ _));refine blk_far ?_ NB249_247.out _;(with_reducible repeat (first|refine bN ?_ _|refine bD ?_|refine bA ?_ _));refine blk_far ?_ NB249_247.out _;(with_reducible repeat (first|refine bN ?_ _|refine bD ?_|refine bA ?_ _));refine blk_far ?_ NB249_247.out _;(with_reducible repeat (first|refine bN ?_ _|refine bD ?_|refine bA ?_ _));exact BK249.out) hb);have n5_:=Aside0.mk (below_step (by repeat (first|(with_reducible first|exact HB.out|apply below_alloc|apply pw_below_drewN|apply below_drew1|refine below_set ?_ GE246.out|refine below_set ?_ GE247.out|refine below_set ?_ GE248.out|refine below_set ?_ GE249.out)|exact HB.out)) hb);clear BK246;clear BK247;clear BK248;clear BK249;clear HB;have HO252:=n0_;have BK246:=n1_;have BK247:=n2_;have BK248:=n3_;have BK249:=n4_;have HB:=n5_;clear n0_ n1_ n2_ n3_ n4_ n5_;clear hb ho44;have hcv45:=own_string (P:=Try.prog) Try.underlying44 Try.underlying5 Try.underlying9 (Kd.own_of_R HO252.out);have hnb46:=NB247_246.out;have hnc46:=NB246_247.out;have hnb47:=NB247_248.out;have hnc47:=NB248_247.out;have hnb48:=NB247_249.out;have hnc48:=NB249_247.out;have hcz49_0 : w43.cell? ⟨gb247,0,none⟩ = some (.string t243):=(blk_cell BK247.out 0).trans rfl;have hcz49_1 : w43.cell? ⟨gb247,1,none⟩ = some (.int .u64 t244):=(blk_cell BK247.out 1).trans rfl;have hcz49_2 : w43.cell? ⟨gb247,2,none⟩ = some (.int .u8 t245):=(blk_cell BK247.out 2).trans rfl;have hfz49_0:=blk_frozen BK247.out 0;have hfz49_1:=blk_frozen BK247.out 1;have hfz49_2:=blk_frozen BK247.out 2;have hnb50:=NB248_246.out;have hnc50:=NB246_248.out;have hnb51:=NB248_249.out;have hnc51:=NB249_248.out;have hcz52_0 : w43.cell? ⟨gb248,0,none⟩ = some (.string t243):=(blk_cell BK248.out 0).trans rfl;have hcz52_1 : w43.cell? ⟨gb248,1,none⟩ = some (.int .u64 t244):=(blk_cell BK248.out 1).trans rfl;have hcz52_2 : w43.cell? ⟨gb248,2,none⟩ = some (.int .u8 t245):=(blk_cell BK248.out 2).trans rfl;have hfz52_0:=blk_frozen BK248.out 0;have hfz52_1:=blk_frozen BK248.out 1;have hfz52_2:=blk_frozen BK248.out 2;have hnb53:=NB249_246.out;have hnc53:=NB246_249.out;have hcz54_0 : w43.cell? ⟨gb249,0,none⟩ = some (.string t243):=(blk_cell BK249.out 0).trans rfl;have hcz54_1 : w43.cell? ⟨gb249,1,none⟩ = some (.int .u64 t244):=(blk_cell BK249.out 1).trans rfl;have hcz54_2 : w43.cell? ⟨gb249,2,none⟩ = some (.int .u8 t245):=(blk_cell BK249.out 2).trans rfl;have hfz54_0:=blk_frozen BK249.out 0;have hfz54_1:=blk_frozen BK249.out 1;have hfz54_2:=blk_frozen BK249.out 2))
            (try simp only [Act.put,sA,sZ,sS])
            go_cut [72] (fun v72 wc => ∃ (kq : Nat) (x72_22 : Bool),v72 = .bool x72_22 ∧ Aside0 (ratlinelaw03_IkeyRight.j1 kq (a2.extract 0 ((ji13) : Int).toNat) x72_22 t243 t244 t245 (((a0 ++ (⟨#[120]⟩ : ByteArray)).extract 0 ((ji10) : Int).toNat) ++ (strOfNums y250)) t244 t245 = some r) ∧ Aside0 (kq ≤ kj3) ∧ Aside0 (wc.heap[gb246]? = some (.cells #[.string t243,.int .u64 t244,.int .u8 t245] 39 (0,0))) ∧ Aside0 (wc.heap[gb247]? = some (.cells #[.string (((a0 ++ (⟨#[120]⟩ : ByteArray)).extract 0 ((ji10) : Int).toNat) ++ (strOfNums y250)),.int .u64 t244,.int .u8 t245] 39 (0,0))) ∧ Aside0 (wc.heap[gb248]? = some (.cells #[.string t243,.int .u64 ji22,.int .u8 t245] 39 (0,0))) ∧ Aside0 (wc.heap[gb249]? = some (.cells #[.string t243,.int .u64 t244,.int .u8 2] 39 (0,0))) ∧ Aside0 (Below w.heap.size w wc))
            case first =>
             have H:=HC23.out
             clear HC23
             replace H:=Option.bind_eq_some_iff.mp H
             obtain ⟨t253,A550,H⟩:=H
             replace H : (if t253 = true then ((ikey_Right.f (((a0 ++ (⟨#[120]⟩ : ByteArray)).extract 0 ((ji10) : Int).toNat) ++ (strOfNums y250)) t244 t245).bind fun t254 => (if t254 = true then (ratlinelaw03_IkeyRight.j1 kj3 (a2.extract 0 ((ji13) : Int).toNat) true t243 t244 t245 (((a0 ++ (⟨#[120]⟩ : ByteArray)).extract 0 ((ji10) : Int).toNat) ++ (strOfNums y250)) t244 t245) else ((ikey_Right.f t243 (ji22) t245).bind fun t255 => (if t255 = true then (ratlinelaw03_IkeyRight.j1 kj3 (a2.extract 0 ((ji13) : Int).toNat) true t243 t244 t245 (((a0 ++ (⟨#[120]⟩ : ByteArray)).extract 0 ((ji10) : Int).toNat) ++ (strOfNums y250)) t244 t245) else ((ikey_Right.f t243 t244 2).bind fun t256 => (if t256 = true then (ratlinelaw03_IkeyRight.j1 kj3 (a2.extract 0 ((ji13) : Int).toNat) true t243 t244 t245 (((a0 ++ (⟨#[120]⟩ : ByteArray)).extract 0 ((ji10) : Int).toNat) ++ (strOfNums y250)) t244 t245) else ((ratlinelaw03_one.f (⟨#[]⟩ : ByteArray) t244 1).bind fun bt257 => ((ikey_Right.f bt257.1 bt257.2.1 bt257.2.2).bind fun t260 => (ratlinelaw03_IkeyRight.j1 kj3 (a2.extract 0 ((ji13) : Int).toNat) t260 t243 t244 t245 (((a0 ++ (⟨#[120]⟩ : ByteArray)).extract 0 ((ji10) : Int).toNat) ++ (strOfNums y250)) t244 t245))))))))) else (ratlinelaw03_IkeyRight.j1 kj3 (a2.extract 0 ((ji13) : Int).toNat) true t243 t244 t245 (((a0 ++ (⟨#[120]⟩ : ByteArray)).extract 0 ((ji10) : Int).toNat) ++ (strOfNums y250)) t244 t245)) = some r:=H
             have A55:=Aside0.mk A550
             clear A550
             by_cases c56 : t253 = true
             ·subst c56
              have H1 : ((ikey_Right.f (((a0 ++ (⟨#[120]⟩ : ByteArray)).extract 0 ((ji10) : Int).toNat) ++ (strOfNums y250)) t244 t245).bind fun t254 => (if t254 = true then (ratlinelaw03_IkeyRight.j1 kj3 (a2.extract 0 ((ji13) : Int).toNat) true t243 t244 t245 (((a0 ++ (⟨#[120]⟩ : ByteArray)).extract 0 ((ji10) : Int).toNat) ++ (strOfNums y250)) t244 t245) else ((ikey_Right.f t243 (ji22) t245).bind fun t255 => (if t255 = true then (ratlinelaw03_IkeyRight.j1 kj3 (a2.extract 0 ((ji13) : Int).toNat) true t243 t244 t245 (((a0 ++ (⟨#[120]⟩ : ByteArray)).extract 0 ((ji10) : Int).toNat) ++ (strOfNums y250)) t244 t245) else ((ikey_Right.f t243 t244 2).bind fun t256 => (if t256 = true then (ratlinelaw03_IkeyRight.j1 kj3 (a2.extract 0 ((ji13) : Int).toNat) true t243 t244 t245 (((a0 ++ (⟨#[120]⟩ : ByteArray)).extract 0 ((ji10) : Int).toNat) ++ (strOfNums y250)) t244 t245) else ((ratlinelaw03_one.f (⟨#[]⟩ : ByteArray) t244 1).bind fun bt257 => ((ikey_Right.f bt257.1 bt257.2.1 bt257.2.2).bind fun t260 => (ratlinelaw03_IkeyRight.j1 kj3 (a2.extract 0 ((ji13) : Int).toNat) t260 t243 t244 t245 (((a0 ++ (⟨#[120]⟩ : ByteArray)).extract 0 ((ji10) : Int).toNat) ++ (strOfNums y250)) t244 t245))))))))) = some r:=by rw [if_pos rfl] at H;exact H
              clear H
              have H:=H1
              clear H1
              replace H:=Option.bind_eq_some_iff.mp H
              obtain ⟨t254,A570,H⟩:=H
              replace H : (if t254 = true then (ratlinelaw03_IkeyRight.j1 kj3 (a2.extract 0 ((ji13) : Int).toNat) true t243 t244 t245 (((a0 ++ (⟨#[120]⟩ : ByteArray)).extract 0 ((ji10) : Int).toNat) ++ (strOfNums y250)) t244 t245) else ((ikey_Right.f t243 (ji22) t245).bind fun t255 => (if t255 = true then (ratlinelaw03_IkeyRight.j1 kj3 (a2.extract 0 ((ji13) : Int).toNat) true t243 t244 t245 (((a0 ++ (⟨#[120]⟩ : ByteArray)).extract 0 ((ji10) : Int).toNat) ++ (strOfNums y250)) t244 t245) else ((ikey_Right.f t243 t244 2).bind fun t256 => (if t256 = true then (ratlinelaw03_IkeyRight.j1 kj3 (a2.extract 0 ((ji13) : Int).toNat) true t243 t244 t245 (((a0 ++ (⟨#[120]⟩ : ByteArray)).extract 0 ((ji10) : Int).toNat) ++ (strOfNums y250)) t244 t245) else ((ratlinelaw03_one.f (⟨#[]⟩ : ByteArray) t244 1).bind fun bt257 => ((ikey_Right.f bt257.1 bt257.2.1 bt257.2.2).bind fun t260 => (ratlinelaw03_IkeyRight.j1 kj3 (a2.extract 0 ((ji13) : Int).toNat) t260 t243 t244 t245 (((a0 ++ (⟨#[120]⟩ : ByteArray)).extract 0 ((ji10) : Int).toNat) ++ (strOfNums y250)) t244 t245)))))))) = some r:=H
              have A57:=Aside0.mk A570
              clear A570
              by_cases c58 : t254 = true
              ·subst c58
               have H1 : (ratlinelaw03_IkeyRight.j1 kj3 (a2.extract 0 ((ji13) : Int).toNat) true t243 t244 t245 (((a0 ++ (⟨#[120]⟩ : ByteArray)).extract 0 ((ji10) : Int).toNat) ++ (strOfNums y250)) t244 t245) = some r:=by rw [if_pos rfl] at H;exact H
               clear H
               have H:=H1
               clear H1
               have H':=Aside0.mk H
               clear H
               have hnb59:=NB246_247.out
               have hnc59:=NB247_246.out
               have hnb60:=NB246_248.out
               have hnc60:=NB248_246.out
               have hnb61:=NB246_249.out
               have hnc61:=NB249_246.out
               have hcz62_0 : w43.cell? ⟨gb246,0,none⟩ = some (.string t243):=(blk_cell BK246.out 0).trans rfl
               have hcz62_1 : w43.cell? ⟨gb246,1,none⟩ = some (.int .u64 t244):=(blk_cell BK246.out 1).trans rfl
               have hcz62_2 : w43.cell? ⟨gb246,2,none⟩ = some (.int .u8 t245):=(blk_cell BK246.out 2).trans rfl
               have hfz62_0:=blk_frozen BK246.out 0
               have hfz62_1:=blk_frozen BK246.out 1
               have hfz62_2:=blk_frozen BK246.out 2
               go_wp2_with (first|((with_reducible refine gate_callee (f:=29) rfl ?_);refine goesL_ (some 53) rfl rfl Try.func29 (by kernel_rfl) rfl #[.agg #[.string t243,.int .u64 t244,.int .u8 t245]] rfl (by (try simp only [List.map_toArray,List.map_cons,List.map_nil]);first|done|rfl|(simp only [List.length_drop,List.length_take];rfl)) ?_;(with_reducible refine (ikey_Right.calls t243 t244 t245 true _ A55.out).mono ?_);rintro e w63 ⟨rfl,hb⟩;refine ⟨_,rfl,?_⟩;have n0_:=Aside0.mk (Kd.R_below (by (with_reducible repeat (first|apply zA|apply zN|apply zD));exact (Kd.R_mono (Kd.R_mono (Kd.R_mono (Kd.R_far (p:=⟨gb249,2,none⟩) (Kd.R_far (p:=⟨gb248,1,none⟩) (Kd.R_far (p:=⟨gb247,0,none⟩) (Kd.R_types (Kd.R_types (Kd.R_types HO252.out BK247.out (by decide)) BK248.out (by decide)) BK249.out (by decide)) (fun _ hk => hk.1.1.2) (.string (((a0 ++ (⟨#[120]⟩ : ByteArray)).extract 0 ((ji10) : Int).toNat) ++ (strOfNums y250)))) (fun _ hk => hk.1.2) (.int .u64 ji22)) (fun _ hk => hk.2) (.int .u8 2)) (fun _ h_ => h_.1)) (fun _ h_ => h_.1)) (fun _ h_ => h_.1))) hb);have n1_:=Aside0.mk (blk_below (g:=gb246) (o:=.cells #[.string t243,.int .u64 t244,.int .u8 t245] 39 (0,0)) (by (with_reducible repeat (first|refine bN ?_ _|refine bD ?_|refine bA ?_ _));refine blk_far ?_ NB246_249.out _;(with_reducible repeat (first|refine bN ?_ _|refine bD ?_|refine bA ?_ _));refine blk_far ?_ NB246_248.out _;(with_reducible repeat (first|refine bN ?_ _|refine bD ?_|refine bA ?_ _));refine blk_far ?_ NB246_247.out _;(with_reducible repeat (first|refine bN ?_ _|refine bD ?_|refine bA ?_ _));exact BK246.out) hb);have n2_:=Aside0.mk (blk_below (g:=gb247) (o:=.cells #[.string (((a0 ++ (⟨#[120]⟩ : ByteArray)).extract 0 ((ji10) : Int).toNat) ++ (strOfNums y250)),.int .u64 t244,.int .u8 t245] 39 (0,0)) (by (with_reducible repeat (first|refine bN ?_ _|refine bD ?_|refine bA ?_ _));refine blk_far ?_ NB247_249.out _;(with_reducible repeat (first|refine bN ?_ _|refine bD ?_|refine bA ?_ _));refine blk_far ?_ NB247_248.out _;(with_reducible repeat (first|refine bN ?_ _|refine bD ?_|refine bA ?_ _));refine blk_put (cs:=#[.string t243,.int .u64 t244,.int .u8 t245]) ?_ 0 _ rfl;(with_reducible repeat (first|refine bN ?_ _|refine bD ?_|refine bA ?_ _));exact BK247.out) hb);have n3_:=Aside0.mk (blk_below (g:=gb248) (o:=.cells #[.string t243,.int .u64 ji22,.int .u8 t245] 39 (0,0)) (by (with_reducible repeat (first|refine bN ?_ _|refine bD ?_|refine bA ?_ _));refine blk_far ?_ NB248_249.out _;(with_reducible repeat (first|refine bN ?_ _|refine bD ?_|refine bA ?_ _));refine blk_put (cs:=#[.string t243,.int .u64 t244,.int .u8 t245]) ?_ 1 _ rfl;(with_reducible repeat (first|refine bN ?_ _|refine bD ?_|refine bA ?_ _));refine blk_far ?_ NB248_247.out _;(with_reducible repeat (first|refine bN ?_ _|refine bD ?_|refine bA ?_ _));exact BK248.out) hb);have n4_:=Aside0.mk (blk_below (g:=gb249) (o:=.cells #[.string t243,.int .u64 t244,.int .u8 2] 39 (0,0)) (by (with_reducible repeat (first|refine bN ?_ _|refine bD ?_|refine bA ?_ _));refine blk_put (cs:=#[.string t243,.int .u64 t244,.int .u8 t245]) ?_ 2 _ rfl;(with_reducible repeat (first|refine bN ?_ _|refine bD ?_|refine bA ?_ _));refine blk_far ?_ NB249_248.out _;(with_reducible repeat (first|refine bN ?_ _|refine bD ?_|refine bA ?_ _));refine blk_far ?_ NB249_247.out _;(with_reducible repeat (first|refine bN ?_ _|refine bD ?_|refine bA ?_ _));exact BK249.out) hb);have n5_:=Aside0.mk (below_step (by repeat (first|(with_reducible first|exact HB.out|apply below_alloc|apply pw_below_drewN|apply below_drew1|refine below_set ?_ GE246.out|refine below_set ?_ GE247.out|refine below_set ?_ GE248.out|refine below_set ?_ GE249.out)|exact HB.out)) hb);clear HO252;clear BK246;clear BK247;clear BK248;clear BK249;clear HB;have HO252:=n0_;have BK246:=n1_;have BK247:=n2_;have BK248:=n3_;have BK249:=n4_;have HB:=n5_;clear n0_ n1_ n2_ n3_ n4_ n5_;(try clear hb);(try clear hb2);(try clear hk);(try clear hi);have hnb64:=NB247_248.out;have hnc64:=NB248_247.out;have hnb65:=NB247_249.out;have hnc65:=NB249_247.out;have hcz66_0 : w63.cell? ⟨gb247,0,none⟩ = some (.string (((a0 ++ (⟨#[120]⟩ : ByteArray)).extract 0 ((ji10) : Int).toNat) ++ (strOfNums y250))):=(blk_cell BK247.out 0).trans rfl;have hcz66_1 : w63.cell? ⟨gb247,1,none⟩ = some (.int .u64 t244):=(blk_cell BK247.out 1).trans rfl;have hcz66_2 : w63.cell? ⟨gb247,2,none⟩ = some (.int .u8 t245):=(blk_cell BK247.out 2).trans rfl;have hfz66_0:=blk_frozen BK247.out 0;have hfz66_1:=blk_frozen BK247.out 1;have hfz66_2:=blk_frozen BK247.out 2)|(go_at_call 29;(with_reducible refine (ikey_Right.calls (((a0 ++ (⟨#[120]⟩ : ByteArray)).extract 0 ((ji10) : Int).toNat) ++ (strOfNums y250)) t244 t245 true _ A57.out).mono ?_);rintro e w67 ⟨rfl,hb⟩;have n0_:=Aside0.mk (Kd.R_below (by (with_reducible repeat (first|apply zA|apply zN|apply zD));exact HO252.out) hb);have n1_:=Aside0.mk (blk_below (g:=gb246) (o:=.cells #[.string t243,.int .u64 t244,.int .u8 t245] 39 (0,0)) (by (with_reducible repeat (first|refine bN ?_ _|refine bD ?_|refine bA ?_ _));exact BK246.out) hb);have n2_:=Aside0.mk (blk_below (g:=gb247) (o:=.cells #[.string (((a0 ++ (⟨#[120]⟩ : ByteArray)).extract 0 ((ji10) : Int).toNat) ++ (strOfNums y250)),.int .u64 t244,.int .u8 t245] 39 (0,0)) (by (with_reducible repeat (first|refine bN ?_ _|refine bD ?_|refine bA ?_ _));exact BK247.out) hb);have n3_:=Aside0.mk (blk_below (g:=gb248) (o:=.cells #[.string t243,.int .u64 ji22,.int .u8 t245] 39 (0,0)) (by (with_reducible repeat (first|refine bN ?_ _|refine bD ?_|refine bA ?_ _));exact BK248.out) hb);have n4_:=Aside0.mk (blk_below (g:=gb249) (o:=.cells #[.string t243,.int .u64 t244,.int .u8 2] 39 (0,0)) (by (with_reducible repeat (first|refine bN ?_ _|refine bD ?_|refine bA ?_ _));exact BK249.out) hb);have n5_:=Aside0.mk (below_step (by repeat (first|(with_reducible first|exact HB.out|apply below_alloc|apply pw_below_drewN|apply below_drew1|refine below_set ?_ GE246.out|refine below_set ?_ GE247.out|refine below_set ?_ GE248.out|refine below_set ?_ GE249.out)|exact HB.out)) hb);clear HO252;clear BK246;clear BK247;clear BK248;clear BK249;clear HB;have HO252:=n0_;have BK246:=n1_;have BK247:=n2_;have BK248:=n3_;have BK249:=n4_;have HB:=n5_;clear n0_ n1_ n2_ n3_ n4_ n5_;(try clear hb);(try clear hb2);(try clear hk);(try clear hi)))
               go_meet
               case rel => exact ⟨_,(true),(by first|rfl|(simp;done)|(simp [*];done)),H',⟨by have:=HJ3.out;first|omega|exact Nat.le_refl _⟩,⟨by (with_reducible repeat (first|refine bN ?_ _|refine bD ?_|refine bA ?_ _));exact BK246.out⟩,⟨by (with_reducible repeat (first|refine bN ?_ _|refine bD ?_|refine bA ?_ _));exact BK247.out⟩,⟨by (with_reducible repeat (first|refine bN ?_ _|refine bD ?_|refine bA ?_ _));exact BK248.out⟩,⟨by (with_reducible repeat (first|refine bN ?_ _|refine bD ?_|refine bA ?_ _));exact BK249.out⟩,⟨by repeat (first|(with_reducible first|exact HB.out|apply below_alloc|apply pw_below_drewN|apply below_drew1|refine below_set ?_ GE246.out|refine below_set ?_ GE247.out|refine below_set ?_ GE248.out|refine below_set ?_ GE249.out)|exact HB.out)⟩⟩
              ·replace c58:=Bool.eq_false_iff.mpr c58
               subst c58
               have H1 : ((ikey_Right.f t243 (ji22) t245).bind fun t255 => (if t255 = true then (ratlinelaw03_IkeyRight.j1 kj3 (a2.extract 0 ((ji13) : Int).toNat) true t243 t244 t245 (((a0 ++ (⟨#[120]⟩ : ByteArray)).extract 0 ((ji10) : Int).toNat) ++ (strOfNums y250)) t244 t245) else ((ikey_Right.f t243 t244 2).bind fun t256 => (if t256 = true then (ratlinelaw03_IkeyRight.j1 kj3 (a2.extract 0 ((ji13) : Int).toNat) true t243 t244 t245 (((a0 ++ (⟨#[120]⟩ : ByteArray)).extract 0 ((ji10) : Int).toNat) ++ (strOfNums y250)) t244 t245) else ((ratlinelaw03_one.f (⟨#[]⟩ : ByteArray) t244 1).bind fun bt257 => ((ikey_Right.f bt257.1 bt257.2.1 bt257.2.2).bind fun t260 => (ratlinelaw03_IkeyRight.j1 kj3 (a2.extract 0 ((ji13) : Int).toNat) t260 t243 t244 t245 (((a0 ++ (⟨#[120]⟩ : ByteArray)).extract 0 ((ji10) : Int).toNat) ++ (strOfNums y250)) t244 t245))))))) = some r:=by rw [if_neg (show ¬ (false = true) by decide)] at H;exact H
               clear H
               have H:=H1
               clear H1
               replace H:=Option.bind_eq_some_iff.mp H
               obtain ⟨t255,A680,H⟩:=H
               replace H : (if t255 = true then (ratlinelaw03_IkeyRight.j1 kj3 (a2.extract 0 ((ji13) : Int).toNat) true t243 t244 t245 (((a0 ++ (⟨#[120]⟩ : ByteArray)).extract 0 ((ji10) : Int).toNat) ++ (strOfNums y250)) t244 t245) else ((ikey_Right.f t243 t244 2).bind fun t256 => (if t256 = true then (ratlinelaw03_IkeyRight.j1 kj3 (a2.extract 0 ((ji13) : Int).toNat) true t243 t244 t245 (((a0 ++ (⟨#[120]⟩ : ByteArray)).extract 0 ((ji10) : Int).toNat) ++ (strOfNums y250)) t244 t245) else ((ratlinelaw03_one.f (⟨#[]⟩ : ByteArray) t244 1).bind fun bt257 => ((ikey_Right.f bt257.1 bt257.2.1 bt257.2.2).bind fun t260 => (ratlinelaw03_IkeyRight.j1 kj3 (a2.extract 0 ((ji13) : Int).toNat) t260 t243 t244 t245 (((a0 ++ (⟨#[120]⟩ : ByteArray)).extract 0 ((ji10) : Int).toNat) ++ (strOfNums y250)) t244 t245)))))) = some r:=H
               have A68:=Aside0.mk A680
               clear A680
               by_cases c69 : t255 = true
               ·subst c69
                have H1 : (ratlinelaw03_IkeyRight.j1 kj3 (a2.extract 0 ((ji13) : Int).toNat) true t243 t244 t245 (((a0 ++ (⟨#[120]⟩ : ByteArray)).extract 0 ((ji10) : Int).toNat) ++ (strOfNums y250)) t244 t245) = some r:=by rw [if_pos rfl] at H;exact H
                clear H
                have H:=H1
                clear H1
                have H':=Aside0.mk H
                clear H
                have hnb70:=NB246_247.out
                have hnc70:=NB247_246.out
                have hnb71:=NB246_248.out
                have hnc71:=NB248_246.out
                have hnb72:=NB246_249.out
                have hnc72:=NB249_246.out
                have hcz73_0 : w43.cell? ⟨gb246,0,none⟩ = some (.string t243):=(blk_cell BK246.out 0).trans rfl
                have hcz73_1 : w43.cell? ⟨gb246,1,none⟩ = some (.int .u64 t244):=(blk_cell BK246.out 1).trans rfl
                have hcz73_2 : w43.cell? ⟨gb246,2,none⟩ = some (.int .u8 t245):=(blk_cell BK246.out 2).trans rfl
                have hfz73_0:=blk_frozen BK246.out 0
                have hfz73_1:=blk_frozen BK246.out 1
                have hfz73_2:=blk_frozen BK246.out 2
                go_wp2_with (first|((with_reducible refine gate_callee (f:=29) rfl ?_);refine goesL_ (some 53) rfl rfl Try.func29 (by kernel_rfl) rfl #[.agg #[.string t243,.int .u64 t244,.int .u8 t245]] rfl (by (try simp only [List.map_toArray,List.map_cons,List.map_nil]);first|done|rfl|(simp only [List.length_drop,List.length_take];rfl)) ?_;(with_reducible refine (ikey_Right.calls t243 t244 t245 true _ A55.out).mono ?_);rintro e w74 ⟨rfl,hb⟩;refine ⟨_,rfl,?_⟩;have n0_:=Aside0.mk (Kd.R_below (by (with_reducible repeat (first|apply zA|apply zN|apply zD));exact (Kd.R_mono (Kd.R_mono (Kd.R_mono (Kd.R_far (p:=⟨gb249,2,none⟩) (Kd.R_far (p:=⟨gb248,1,none⟩) (Kd.R_far (p:=⟨gb247,0,none⟩) (Kd.R_types (Kd.R_types (Kd.R_types HO252.out BK247.out (by decide)) BK248.out (by decide)) BK249.out (by decide)) (fun _ hk => hk.1.1.2) (.string (((a0 ++ (⟨#[120]⟩ : ByteArray)).extract 0 ((ji10) : Int).toNat) ++ (strOfNums y250)))) (fun _ hk => hk.1.2) (.int .u64 ji22)) (fun _ hk => hk.2) (.int .u8 2)) (fun _ h_ => h_.1)) (fun _ h_ => h_.1)) (fun _ h_ => h_.1))) hb);have n1_:=Aside0.mk (blk_below (g:=gb246) (o:=.cells #[.string t243,.int .u64 t244,.int .u8 t245] 39 (0,0)) (by (with_reducible repeat (first|refine bN ?_ _|refine bD ?_|refine bA ?_ _));refine blk_far ?_ NB246_249.out _;(with_reducible repeat (first|refine bN ?_ _|refine bD ?_|refine bA ?_ _));refine blk_far ?_ NB246_248.out _;(with_reducible repeat (first|refine bN ?_ _|refine bD ?_|refine bA ?_ _));refine blk_far ?_ NB246_247.out _;(with_reducible repeat (first|refine bN ?_ _|refine bD ?_|refine bA ?_ _));exact BK246.out) hb);have n2_:=Aside0.mk (blk_below (g:=gb247) (o:=.cells #[.string (((a0 ++ (⟨#[120]⟩ : ByteArray)).extract 0 ((ji10) : Int).toNat) ++ (strOfNums y250)),.int .u64 t244,.int .u8 t245] 39 (0,0)) (by (with_reducible repeat (first|refine bN ?_ _|refine bD ?_|refine bA ?_ _));refine blk_far ?_ NB247_249.out _;(with_reducible repeat (first|refine bN ?_ _|refine bD ?_|refine bA ?_ _));refine blk_far ?_ NB247_248.out _;(with_reducible repeat (first|refine bN ?_ _|refine bD ?_|refine bA ?_ _));refine blk_put (cs:=#[.string t243,.int .u64 t244,.int .u8 t245]) ?_ 0 _ rfl;(with_reducible repeat (first|refine bN ?_ _|refine bD ?_|refine bA ?_ _));exact BK247.out) hb);have n3_:=Aside0.mk (blk_below (g:=gb248) (o:=.cells #[.string t243,.int .u64 ji22,.int .u8 t245] 39 (0,0)) (by (with_reducible repeat (first|refine bN ?_ _|refine bD ?_|refine bA ?_ _));refine blk_far ?_ NB248_249.out _;(with_reducible repeat (first|refine bN ?_ _|refine bD ?_|refine bA ?_ _));refine blk_put (cs:=#[.string t243,.int .u64 t244,.int .u8 t245]) ?_ 1 _ rfl;(with_reducible repeat (first|refine bN ?_ _|refine bD ?_|refine bA ?_ _));refine blk_far ?_ NB248_247.out _;(with_reducible repeat (first|refine bN ?_ _|refine bD ?_|refine bA ?_ _));exact BK248.out) hb);have n4_:=Aside0.mk (blk_below (g:=gb249) (o:=.cells #[.string t243,.int .u64 t244,.int .u8 2] 39 (0,0)) (by (with_reducible repeat (first|refine bN ?_ _|refine bD ?_|refine bA ?_ _));refine blk_put (cs:=#[.string t243,.int .u64 t244,.int .u8 t245]) ?_ 2 _ rfl;(with_reducible repeat (first|refine bN ?_ _|refine bD ?_|refine bA ?_ _));refine blk_far ?_ NB249_248.out _;(with_reducible repeat (first|refine bN ?_ _|refine bD ?_|refine bA ?_ _));refine blk_far ?_ NB249_247.out _;(with_reducible repeat (first|refine bN ?_ _|refine bD ?_|refine bA ?_ _));exact BK249.out) hb);have n5_:=Aside0.mk (below_step (by repeat (first|(with_reducible first|exact HB.out|apply below_alloc|apply pw_below_drewN|apply below_drew1|refine below_set ?_ GE246.out|refine below_set ?_ GE247.out|refine below_set ?_ GE248.out|refine below_set ?_ GE249.out)|exact HB.out)) hb);clear HO252;clear BK246;clear BK247;clear BK248;clear BK249;clear HB;have HO252:=n0_;have BK246:=n1_;have BK247:=n2_;have BK248:=n3_;have BK249:=n4_;have HB:=n5_;clear n0_ n1_ n2_ n3_ n4_ n5_;(try clear hb);(try clear hb2);(try clear hk);(try clear hi);have hnb75:=NB247_248.out;have hnc75:=NB248_247.out;have hnb76:=NB247_249.out;have hnc76:=NB249_247.out;have hcz77_0 : w74.cell? ⟨gb247,0,none⟩ = some (.string (((a0 ++ (⟨#[120]⟩ : ByteArray)).extract 0 ((ji10) : Int).toNat) ++ (strOfNums y250))):=(blk_cell BK247.out 0).trans rfl;have hcz77_1 : w74.cell? ⟨gb247,1,none⟩ = some (.int .u64 t244):=(blk_cell BK247.out 1).trans rfl;have hcz77_2 : w74.cell? ⟨gb247,2,none⟩ = some (.int .u8 t245):=(blk_cell BK247.out 2).trans rfl;have hfz77_0:=blk_frozen BK247.out 0;have hfz77_1:=blk_frozen BK247.out 1;have hfz77_2:=blk_frozen BK247.out 2)|(go_at_call 29;(with_reducible refine (ikey_Right.calls (((a0 ++ (⟨#[120]⟩ : ByteArray)).extract 0 ((ji10) : Int).toNat) ++ (strOfNums y250)) t244 t245 false _ A57.out).mono ?_);rintro e w78 ⟨rfl,hb⟩;have n0_:=Aside0.mk (Kd.R_below (by (with_reducible repeat (first|apply zA|apply zN|apply zD));exact HO252.out) hb);have n1_:=Aside0.mk (blk_below (g:=gb246) (o:=.cells #[.string t243,.int .u64 t244,.int .u8 t245] 39 (0,0)) (by (with_reducible repeat (first|refine bN ?_ _|refine bD ?_|refine bA ?_ _));exact BK246.out) hb);have n2_:=Aside0.mk (blk_below (g:=gb247) (o:=.cells #[.string (((a0 ++ (⟨#[120]⟩ : ByteArray)).extract 0 ((ji10) : Int).toNat) ++ (strOfNums y250)),.int .u64 t244,.int .u8 t245] 39 (0,0)) (by (with_reducible repeat (first|refine bN ?_ _|refine bD ?_|refine bA ?_ _));exact BK247.out) hb);have n3_:=Aside0.mk (blk_below (g:=gb248) (o:=.cells #[.string t243,.int .u64 ji22,.int .u8 t245] 39 (0,0)) (by (with_reducible repeat (first|refine bN ?_ _|refine bD ?_|refine bA ?_ _));exact BK248.out) hb);have n4_:=Aside0.mk (blk_below (g:=gb249) (o:=.cells #[.string t243,.int .u64 t244,.int .u8 2] 39 (0,0)) (by (with_reducible repeat (first|refine bN ?_ _|refine bD ?_|refine bA ?_ _));exact BK249.out) hb);have n5_:=Aside0.mk (below_step (by repeat (first|(with_reducible first|exact HB.out|apply below_alloc|apply pw_below_drewN|apply below_drew1|refine below_set ?_ GE246.out|refine below_set ?_ GE247.out|refine below_set ?_ GE248.out|refine below_set ?_ GE249.out)|exact HB.out)) hb);clear HO252;clear BK246;clear BK247;clear BK248;clear BK249;clear HB;have HO252:=n0_;have BK246:=n1_;have BK247:=n2_;have BK248:=n3_;have BK249:=n4_;have HB:=n5_;clear n0_ n1_ n2_ n3_ n4_ n5_;(try clear hb);(try clear hb2);(try clear hk);(try clear hi);have hnb79:=NB248_249.out;have hnc79:=NB249_248.out;have hcz80_0 : w78.cell? ⟨gb248,0,none⟩ = some (.string t243):=(blk_cell BK248.out 0).trans rfl;have hcz80_1 : w78.cell? ⟨gb248,1,none⟩ = some (.int .u64 ji22):=(blk_cell BK248.out 1).trans rfl;have hcz80_2 : w78.cell? ⟨gb248,2,none⟩ = some (.int .u8 t245):=(blk_cell BK248.out 2).trans rfl;have hfz80_0:=blk_frozen BK248.out 0;have hfz80_1:=blk_frozen BK248.out 1;have hfz80_2:=blk_frozen BK248.out 2)|(go_at_call 29;(with_reducible refine (ikey_Right.calls t243 ji22 t245 true _ A68.out).mono ?_);rintro e w81 ⟨rfl,hb⟩;have n0_:=Aside0.mk (Kd.R_below (by (with_reducible repeat (first|apply zA|apply zN|apply zD));exact HO252.out) hb);have n1_:=Aside0.mk (blk_below (g:=gb246) (o:=.cells #[.string t243,.int .u64 t244,.int .u8 t245] 39 (0,0)) (by (with_reducible repeat (first|refine bN ?_ _|refine bD ?_|refine bA ?_ _));exact BK246.out) hb);have n2_:=Aside0.mk (blk_below (g:=gb247) (o:=.cells #[.string (((a0 ++ (⟨#[120]⟩ : ByteArray)).extract 0 ((ji10) : Int).toNat) ++ (strOfNums y250)),.int .u64 t244,.int .u8 t245] 39 (0,0)) (by (with_reducible repeat (first|refine bN ?_ _|refine bD ?_|refine bA ?_ _));exact BK247.out) hb);have n3_:=Aside0.mk (blk_below (g:=gb248) (o:=.cells #[.string t243,.int .u64 ji22,.int .u8 t245] 39 (0,0)) (by (with_reducible repeat (first|refine bN ?_ _|refine bD ?_|refine bA ?_ _));exact BK248.out) hb);have n4_:=Aside0.mk (blk_below (g:=gb249) (o:=.cells #[.string t243,.int .u64 t244,.int .u8 2] 39 (0,0)) (by (with_reducible repeat (first|refine bN ?_ _|refine bD ?_|refine bA ?_ _));exact BK249.out) hb);have n5_:=Aside0.mk (below_step (by repeat (first|(with_reducible first|exact HB.out|apply below_alloc|apply pw_below_drewN|apply below_drew1|refine below_set ?_ GE246.out|refine below_set ?_ GE247.out|refine below_set ?_ GE248.out|refine below_set ?_ GE249.out)|exact HB.out)) hb);clear HO252;clear BK246;clear BK247;clear BK248;clear BK249;clear HB;have HO252:=n0_;have BK246:=n1_;have BK247:=n2_;have BK248:=n3_;have BK249:=n4_;have HB:=n5_;clear n0_ n1_ n2_ n3_ n4_ n5_;(try clear hb);(try clear hb2);(try clear hk);(try clear hi)))
                go_meet
                case rel => exact ⟨_,(true),(by first|rfl|(simp;done)|(simp [*];done)),H',⟨by have:=HJ3.out;first|omega|exact Nat.le_refl _⟩,⟨by (with_reducible repeat (first|refine bN ?_ _|refine bD ?_|refine bA ?_ _));exact BK246.out⟩,⟨by (with_reducible repeat (first|refine bN ?_ _|refine bD ?_|refine bA ?_ _));exact BK247.out⟩,⟨by (with_reducible repeat (first|refine bN ?_ _|refine bD ?_|refine bA ?_ _));exact BK248.out⟩,⟨by (with_reducible repeat (first|refine bN ?_ _|refine bD ?_|refine bA ?_ _));exact BK249.out⟩,⟨by repeat (first|(with_reducible first|exact HB.out|apply below_alloc|apply pw_below_drewN|apply below_drew1|refine below_set ?_ GE246.out|refine below_set ?_ GE247.out|refine below_set ?_ GE248.out|refine below_set ?_ GE249.out)|exact HB.out)⟩⟩
               ·replace c69:=Bool.eq_false_iff.mpr c69
                subst c69
                have H1 : ((ikey_Right.f t243 t244 2).bind fun t256 => (if t256 = true then (ratlinelaw03_IkeyRight.j1 kj3 (a2.extract 0 ((ji13) : Int).toNat) true t243 t244 t245 (((a0 ++ (⟨#[120]⟩ : ByteArray)).extract 0 ((ji10) : Int).toNat) ++ (strOfNums y250)) t244 t245) else ((ratlinelaw03_one.f (⟨#[]⟩ : ByteArray) t244 1).bind fun bt257 => ((ikey_Right.f bt257.1 bt257.2.1 bt257.2.2).bind fun t260 => (ratlinelaw03_IkeyRight.j1 kj3 (a2.extract 0 ((ji13) : Int).toNat) t260 t243 t244 t245 (((a0 ++ (⟨#[120]⟩ : ByteArray)).extract 0 ((ji10) : Int).toNat) ++ (strOfNums y250)) t244 t245))))) = some r:=by rw [if_neg (show ¬ (false = true) by decide)] at H;exact H
                clear H
                have H:=H1
                clear H1
                replace H:=Option.bind_eq_some_iff.mp H
                obtain ⟨t256,A820,H⟩:=H
                replace H : (if t256 = true then (ratlinelaw03_IkeyRight.j1 kj3 (a2.extract 0 ((ji13) : Int).toNat) true t243 t244 t245 (((a0 ++ (⟨#[120]⟩ : ByteArray)).extract 0 ((ji10) : Int).toNat) ++ (strOfNums y250)) t244 t245) else ((ratlinelaw03_one.f (⟨#[]⟩ : ByteArray) t244 1).bind fun bt257 => ((ikey_Right.f bt257.1 bt257.2.1 bt257.2.2).bind fun t260 => (ratlinelaw03_IkeyRight.j1 kj3 (a2.extract 0 ((ji13) : Int).toNat) t260 t243 t244 t245 (((a0 ++ (⟨#[120]⟩ : ByteArray)).extract 0 ((ji10) : Int).toNat) ++ (strOfNums y250)) t244 t245)))) = some r:=H
                have A82:=Aside0.mk A820
                clear A820
                by_cases c83 : t256 = true
                ·subst c83
                 have H1 : (ratlinelaw03_IkeyRight.j1 kj3 (a2.extract 0 ((ji13) : Int).toNat) true t243 t244 t245 (((a0 ++ (⟨#[120]⟩ : ByteArray)).extract 0 ((ji10) : Int).toNat) ++ (strOfNums y250)) t244 t245) = some r:=by rw [if_pos rfl] at H;exact H
                 clear H
                 have H:=H1
                 clear H1
                 have H':=Aside0.mk H
                 clear H
                 have hnb84:=NB246_247.out
                 have hnc84:=NB247_246.out
                 have hnb85:=NB246_248.out
                 have hnc85:=NB248_246.out
                 have hnb86:=NB246_249.out
                 have hnc86:=NB249_246.out
                 have hcz87_0 : w43.cell? ⟨gb246,0,none⟩ = some (.string t243):=(blk_cell BK246.out 0).trans rfl
                 have hcz87_1 : w43.cell? ⟨gb246,1,none⟩ = some (.int .u64 t244):=(blk_cell BK246.out 1).trans rfl
                 have hcz87_2 : w43.cell? ⟨gb246,2,none⟩ = some (.int .u8 t245):=(blk_cell BK246.out 2).trans rfl
                 have hfz87_0:=blk_frozen BK246.out 0
                 have hfz87_1:=blk_frozen BK246.out 1
                 have hfz87_2:=blk_frozen BK246.out 2
                 go_wp2_with (first|((with_reducible refine gate_callee (f:=29) rfl ?_);refine goesL_ (some 53) rfl rfl Try.func29 (by kernel_rfl) rfl #[.agg #[.string t243,.int .u64 t244,.int .u8 t245]] rfl (by (try simp only [List.map_toArray,List.map_cons,List.map_nil]);first|done|rfl|(simp only [List.length_drop,List.length_take];rfl)) ?_;(with_reducible refine (ikey_Right.calls t243 t244 t245 true _ A55.out).mono ?_);rintro e w88 ⟨rfl,hb⟩;refine ⟨_,rfl,?_⟩;have n0_:=Aside0.mk (Kd.R_below (by (with_reducible repeat (first|apply zA|apply zN|apply zD));exact (Kd.R_mono (Kd.R_mono (Kd.R_mono (Kd.R_far (p:=⟨gb249,2,none⟩) (Kd.R_far (p:=⟨gb248,1,none⟩) (Kd.R_far (p:=⟨gb247,0,none⟩) (Kd.R_types (Kd.R_types (Kd.R_types HO252.out BK247.out (by decide)) BK248.out (by decide)) BK249.out (by decide)) (fun _ hk => hk.1.1.2) (.string (((a0 ++ (⟨#[120]⟩ : ByteArray)).extract 0 ((ji10) : Int).toNat) ++ (strOfNums y250)))) (fun _ hk => hk.1.2) (.int .u64 ji22)) (fun _ hk => hk.2) (.int .u8 2)) (fun _ h_ => h_.1)) (fun _ h_ => h_.1)) (fun _ h_ => h_.1))) hb);have n1_:=Aside0.mk (blk_below (g:=gb246) (o:=.cells #[.string t243,.int .u64 t244,.int .u8 t245] 39 (0,0)) (by (with_reducible repeat (first|refine bN ?_ _|refine bD ?_|refine bA ?_ _));refine blk_far ?_ NB246_249.out _;(with_reducible repeat (first|refine bN ?_ _|refine bD ?_|refine bA ?_ _));refine blk_far ?_ NB246_248.out _;(with_reducible repeat (first|refine bN ?_ _|refine bD ?_|refine bA ?_ _));refine blk_far ?_ NB246_247.out _;(with_reducible repeat (first|refine bN ?_ _|refine bD ?_|refine bA ?_ _));exact BK246.out) hb);have n2_:=Aside0.mk (blk_below (g:=gb247) (o:=.cells #[.string (((a0 ++ (⟨#[120]⟩ : ByteArray)).extract 0 ((ji10) : Int).toNat) ++ (strOfNums y250)),.int .u64 t244,.int .u8 t245] 39 (0,0)) (by (with_reducible repeat (first|refine bN ?_ _|refine bD ?_|refine bA ?_ _));refine blk_far ?_ NB247_249.out _;(with_reducible repeat (first|refine bN ?_ _|refine bD ?_|refine bA ?_ _));refine blk_far ?_ NB247_248.out _;(with_reducible repeat (first|refine bN ?_ _|refine bD ?_|refine bA ?_ _));refine blk_put (cs:=#[.string t243,.int .u64 t244,.int .u8 t245]) ?_ 0 _ rfl;(with_reducible repeat (first|refine bN ?_ _|refine bD ?_|refine bA ?_ _));exact BK247.out) hb);have n3_:=Aside0.mk (blk_below (g:=gb248) (o:=.cells #[.string t243,.int .u64 ji22,.int .u8 t245] 39 (0,0)) (by (with_reducible repeat (first|refine bN ?_ _|refine bD ?_|refine bA ?_ _));refine blk_far ?_ NB248_249.out _;(with_reducible repeat (first|refine bN ?_ _|refine bD ?_|refine bA ?_ _));refine blk_put (cs:=#[.string t243,.int .u64 t244,.int .u8 t245]) ?_ 1 _ rfl;(with_reducible repeat (first|refine bN ?_ _|refine bD ?_|refine bA ?_ _));refine blk_far ?_ NB248_247.out _;(with_reducible repeat (first|refine bN ?_ _|refine bD ?_|refine bA ?_ _));exact BK248.out) hb);have n4_:=Aside0.mk (blk_below (g:=gb249) (o:=.cells #[.string t243,.int .u64 t244,.int .u8 2] 39 (0,0)) (by (with_reducible repeat (first|refine bN ?_ _|refine bD ?_|refine bA ?_ _));refine blk_put (cs:=#[.string t243,.int .u64 t244,.int .u8 t245]) ?_ 2 _ rfl;(with_reducible repeat (first|refine bN ?_ _|refine bD ?_|refine bA ?_ _));refine blk_far ?_ NB249_248.out _;(with_reducible repeat (first|refine bN ?_ _|refine bD ?_|refine bA ?_ _));refine blk_far ?_ NB249_247.out _;(with_reducible repeat (first|refine bN ?_ _|refine bD ?_|refine bA ?_ _));exact BK249.out) hb);have n5_:=Aside0.mk (below_step (by repeat (first|(with_reducible first|exact HB.out|apply below_alloc|apply pw_below_drewN|apply below_drew1|refine below_set ?_ GE246.out|refine below_set ?_ GE247.out|refine below_set ?_ GE248.out|refine below_set ?_ GE249.out)|exact HB.out)) hb);clear HO252;clear BK246;clear BK247;clear BK248;clear BK249;clear HB;have HO252:=n0_;have BK246:=n1_;have BK247:=n2_;have BK248:=n3_;have BK249:=n4_;have HB:=n5_;clear n0_ n1_ n2_ n3_ n4_ n5_;(try clear hb);(try clear hb2);(try clear hk);(try clear hi);have hnb89:=NB247_248.out;have hnc89:=NB248_247.out;have hnb90:=NB247_249.out;have hnc90:=NB249_247.out;have hcz91_0 : w88.cell? ⟨gb247,0,none⟩ = some (.string (((a0 ++ (⟨#[120]⟩ : ByteArray)).extract 0 ((ji10) : Int).toNat) ++ (strOfNums y250))):=(blk_cell BK247.out 0).trans rfl;have hcz91_1 : w88.cell? ⟨gb247,1,none⟩ = some (.int .u64 t244):=(blk_cell BK247.out 1).trans rfl;have hcz91_2 : w88.cell? ⟨gb247,2,none⟩ = some (.int .u8 t245):=(blk_cell BK247.out 2).trans rfl;have hfz91_0:=blk_frozen BK247.out 0;have hfz91_1:=blk_frozen BK247.out 1;have hfz91_2:=blk_frozen BK247.out 2)|(go_at_call 29;(with_reducible refine (ikey_Right.calls (((a0 ++ (⟨#[120]⟩ : ByteArray)).extract 0 ((ji10) : Int).toNat) ++ (strOfNums y250)) t244 t245 false _ A57.out).mono ?_);rintro e w92 ⟨rfl,hb⟩;have n0_:=Aside0.mk (Kd.R_below (by (with_reducible repeat (first|apply zA|apply zN|apply zD));exact HO252.out) hb);have n1_:=Aside0.mk (blk_below (g:=gb246) (o:=.cells #[.string t243,.int .u64 t244,.int .u8 t245] 39 (0,0)) (by (with_reducible repeat (first|refine bN ?_ _|refine bD ?_|refine bA ?_ _));exact BK246.out) hb);have n2_:=Aside0.mk (blk_below (g:=gb247) (o:=.cells #[.string (((a0 ++ (⟨#[120]⟩ : ByteArray)).extract 0 ((ji10) : Int).toNat) ++ (strOfNums y250)),.int .u64 t244,.int .u8 t245] 39 (0,0)) (by (with_reducible repeat (first|refine bN ?_ _|refine bD ?_|refine bA ?_ _));exact BK247.out) hb);have n3_:=Aside0.mk (blk_below (g:=gb248) (o:=.cells #[.string t243,.int .u64 ji22,.int .u8 t245] 39 (0,0)) (by (with_reducible repeat (first|refine bN ?_ _|refine bD ?_|refine bA ?_ _));exact BK248.out) hb);have n4_:=Aside0.mk (blk_below (g:=gb249) (o:=.cells #[.string t243,.int .u64 t244,.int .u8 2] 39 (0,0)) (by (with_reducible repeat (first|refine bN ?_ _|refine bD ?_|refine bA ?_ _));exact BK249.out) hb);have n5_:=Aside0.mk (below_step (by repeat (first|(with_reducible first|exact HB.out|apply below_alloc|apply pw_below_drewN|apply below_drew1|refine below_set ?_ GE246.out|refine below_set ?_ GE247.out|refine below_set ?_ GE248.out|refine below_set ?_ GE249.out)|exact HB.out)) hb);clear HO252;clear BK246;clear BK247;clear BK248;clear BK249;clear HB;have HO252:=n0_;have BK246:=n1_;have BK247:=n2_;have BK248:=n3_;have BK249:=n4_;have HB:=n5_;clear n0_ n1_ n2_ n3_ n4_ n5_;(try clear hb);(try clear hb2);(try clear hk);(try clear hi);have hnb93:=NB248_249.out;have hnc93:=NB249_248.out;have hcz94_0 : w92.cell? ⟨gb248,0,none⟩ = some (.string t243):=(blk_cell BK248.out 0).trans rfl;have hcz94_1 : w92.cell? ⟨gb248,1,none⟩ = some (.int .u64 ji22):=(blk_cell BK248.out 1).trans rfl;have hcz94_2 : w92.cell? ⟨gb248,2,none⟩ = some (.int .u8 t245):=(blk_cell BK248.out 2).trans rfl;have hfz94_0:=blk_frozen BK248.out 0;have hfz94_1:=blk_frozen BK248.out 1;have hfz94_2:=blk_frozen BK248.out 2)|(go_at_call 29;(with_reducible refine (ikey_Right.calls t243 ji22 t245 false _ A68.out).mono ?_);rintro e w95 ⟨rfl,hb⟩;have n0_:=Aside0.mk (Kd.R_below (by (with_reducible repeat (first|apply zA|apply zN|apply zD));exact HO252.out) hb);have n1_:=Aside0.mk (blk_below (g:=gb246) (o:=.cells #[.string t243,.int .u64 t244,.int .u8 t245] 39 (0,0)) (by (with_reducible repeat (first|refine bN ?_ _|refine bD ?_|refine bA ?_ _));exact BK246.out) hb);have n2_:=Aside0.mk (blk_below (g:=gb247) (o:=.cells #[.string (((a0 ++ (⟨#[120]⟩ : ByteArray)).extract 0 ((ji10) : Int).toNat) ++ (strOfNums y250)),.int .u64 t244,.int .u8 t245] 39 (0,0)) (by (with_reducible repeat (first|refine bN ?_ _|refine bD ?_|refine bA ?_ _));exact BK247.out) hb);have n3_:=Aside0.mk (blk_below (g:=gb248) (o:=.cells #[.string t243,.int .u64 ji22,.int .u8 t245] 39 (0,0)) (by (with_reducible repeat (first|refine bN ?_ _|refine bD ?_|refine bA ?_ _));exact BK248.out) hb);have n4_:=Aside0.mk (blk_below (g:=gb249) (o:=.cells #[.string t243,.int .u64 t244,.int .u8 2] 39 (0,0)) (by (with_reducible repeat (first|refine bN ?_ _|refine bD ?_|refine bA ?_ _));exact BK249.out) hb);have n5_:=Aside0.mk (below_step (by repeat (first|(with_reducible first|exact HB.out|apply below_alloc|apply pw_below_drewN|apply below_drew1|refine below_set ?_ GE246.out|refine below_set ?_ GE247.out|refine below_set ?_ GE248.out|refine below_set ?_ GE249.out)|exact HB.out)) hb);clear HO252;clear BK246;clear BK247;clear BK248;clear BK249;clear HB;have HO252:=n0_;have BK246:=n1_;have BK247:=n2_;have BK248:=n3_;have BK249:=n4_;have HB:=n5_;clear n0_ n1_ n2_ n3_ n4_ n5_;(try clear hb);(try clear hb2);(try clear hk);(try clear hi);have hcz96_0 : w95.cell? ⟨gb249,0,none⟩ = some (.string t243):=(blk_cell BK249.out 0).trans rfl;have hcz96_1 : w95.cell? ⟨gb249,1,none⟩ = some (.int .u64 t244):=(blk_cell BK249.out 1).trans rfl;have hcz96_2 : w95.cell? ⟨gb249,2,none⟩ = some (.int .u8 2):=(blk_cell BK249.out 2).trans rfl;have hfz96_0:=blk_frozen BK249.out 0;have hfz96_1:=blk_frozen BK249.out 1;have hfz96_2:=blk_frozen BK249.out 2)|(go_at_call 29;(with_reducible refine (ikey_Right.calls t243 t244 2 true _ A82.out).mono ?_);rintro e w97 ⟨rfl,hb⟩;have n0_:=Aside0.mk (Kd.R_below (by (with_reducible repeat (first|apply zA|apply zN|apply zD));exact HO252.out) hb);have n1_:=Aside0.mk (blk_below (g:=gb246) (o:=.cells #[.string t243,.int .u64 t244,.int .u8 t245] 39 (0,0)) (by (with_reducible repeat (first|refine bN ?_ _|refine bD ?_|refine bA ?_ _));exact BK246.out) hb);have n2_:=Aside0.mk (blk_below (g:=gb247) (o:=.cells #[.string (((a0 ++ (⟨#[120]⟩ : ByteArray)).extract 0 ((ji10) : Int).toNat) ++ (strOfNums y250)),.int .u64 t244,.int .u8 t245] 39 (0,0)) (by (with_reducible repeat (first|refine bN ?_ _|refine bD ?_|refine bA ?_ _));exact BK247.out) hb);have n3_:=Aside0.mk (blk_below (g:=gb248) (o:=.cells #[.string t243,.int .u64 ji22,.int .u8 t245] 39 (0,0)) (by (with_reducible repeat (first|refine bN ?_ _|refine bD ?_|refine bA ?_ _));exact BK248.out) hb);have n4_:=Aside0.mk (blk_below (g:=gb249) (o:=.cells #[.string t243,.int .u64 t244,.int .u8 2] 39 (0,0)) (by (with_reducible repeat (first|refine bN ?_ _|refine bD ?_|refine bA ?_ _));exact BK249.out) hb);have n5_:=Aside0.mk (below_step (by repeat (first|(with_reducible first|exact HB.out|apply below_alloc|apply pw_below_drewN|apply below_drew1|refine below_set ?_ GE246.out|refine below_set ?_ GE247.out|refine below_set ?_ GE248.out|refine below_set ?_ GE249.out)|exact HB.out)) hb);clear HO252;clear BK246;clear BK247;clear BK248;clear BK249;clear HB;have HO252:=n0_;have BK246:=n1_;have BK247:=n2_;have BK248:=n3_;have BK249:=n4_;have HB:=n5_;clear n0_ n1_ n2_ n3_ n4_ n5_;(try clear hb);(try clear hb2);(try clear hk);(try clear hi)))
                 go_meet
                 case rel => exact ⟨_,(true),(by first|rfl|(simp;done)|(simp [*];done)),H',⟨by have:=HJ3.out;first|omega|exact Nat.le_refl _⟩,⟨by (with_reducible repeat (first|refine bN ?_ _|refine bD ?_|refine bA ?_ _));exact BK246.out⟩,⟨by (with_reducible repeat (first|refine bN ?_ _|refine bD ?_|refine bA ?_ _));exact BK247.out⟩,⟨by (with_reducible repeat (first|refine bN ?_ _|refine bD ?_|refine bA ?_ _));exact BK248.out⟩,⟨by (with_reducible repeat (first|refine bN ?_ _|refine bD ?_|refine bA ?_ _));exact BK249.out⟩,⟨by repeat (first|(with_reducible first|exact HB.out|apply below_alloc|apply pw_below_drewN|apply below_drew1|refine below_set ?_ GE246.out|refine below_set ?_ GE247.out|refine below_set ?_ GE248.out|refine below_set ?_ GE249.out)|exact HB.out)⟩⟩
                ·replace c83:=Bool.eq_false_iff.mpr c83
                 subst c83
                 have H1 : ((ratlinelaw03_one.f (⟨#[]⟩ : ByteArray) t244 1).bind fun bt257 => ((ikey_Right.f bt257.1 bt257.2.1 bt257.2.2).bind fun t260 => (ratlinelaw03_IkeyRight.j1 kj3 (a2.extract 0 ((ji13) : Int).toNat) t260 t243 t244 t245 (((a0 ++ (⟨#[120]⟩ : ByteArray)).extract 0 ((ji10) : Int).toNat) ++ (strOfNums y250)) t244 t245))) = some r:=by rw [if_neg (show ¬ (false = true) by decide)] at H;exact H
                 clear H
                 have H:=H1
                 clear H1
                 replace H:=Option.bind_eq_some_iff.mp H
                 obtain ⟨⟨t257,t258,t259⟩,A980,H⟩:=H
                 replace H : ((ikey_Right.f t257 t258 t259).bind fun t260 => (ratlinelaw03_IkeyRight.j1 kj3 (a2.extract 0 ((ji13) : Int).toNat) t260 t243 t244 t245 (((a0 ++ (⟨#[120]⟩ : ByteArray)).extract 0 ((ji10) : Int).toNat) ++ (strOfNums y250)) t244 t245)) = some r:=H
                 have A98:=Aside0.mk A980
                 clear A980
                 replace H:=Option.bind_eq_some_iff.mp H
                 obtain ⟨t260,A990,H⟩:=H
                 replace H : (ratlinelaw03_IkeyRight.j1 kj3 (a2.extract 0 ((ji13) : Int).toNat) t260 t243 t244 t245 (((a0 ++ (⟨#[120]⟩ : ByteArray)).extract 0 ((ji10) : Int).toNat) ++ (strOfNums y250)) t244 t245) = some r:=H
                 have A99:=Aside0.mk A990
                 clear A990
                 have H':=Aside0.mk H
                 clear H
                 have hnb100:=NB246_247.out
                 have hnc100:=NB247_246.out
                 have hnb101:=NB246_248.out
                 have hnc101:=NB248_246.out
                 have hnb102:=NB246_249.out
                 have hnc102:=NB249_246.out
                 have hcz103_0 : w43.cell? ⟨gb246,0,none⟩ = some (.string t243):=(blk_cell BK246.out 0).trans rfl
                 have hcz103_1 : w43.cell? ⟨gb246,1,none⟩ = some (.int .u64 t244):=(blk_cell BK246.out 1).trans rfl
                 have hcz103_2 : w43.cell? ⟨gb246,2,none⟩ = some (.int .u8 t245):=(blk_cell BK246.out 2).trans rfl
                 have hfz103_0:=blk_frozen BK246.out 0
                 have hfz103_1:=blk_frozen BK246.out 1
                 have hfz103_2:=blk_frozen BK246.out 2
                 go_wp2_with (first|((with_reducible refine gate_callee (f:=29) rfl ?_);refine goesL_ (some 53) rfl rfl Try.func29 (by kernel_rfl) rfl #[.agg #[.string t243,.int .u64 t244,.int .u8 t245]] rfl (by (try simp only [List.map_toArray,List.map_cons,List.map_nil]);first|done|rfl|(simp only [List.length_drop,List.length_take];rfl)) ?_;(with_reducible refine (ikey_Right.calls t243 t244 t245 true _ A55.out).mono ?_);rintro e w104 ⟨rfl,hb⟩;refine ⟨_,rfl,?_⟩;have n0_:=Aside0.mk (Kd.R_below (by (with_reducible repeat (first|apply zA|apply zN|apply zD));exact (Kd.R_mono (Kd.R_mono (Kd.R_mono (Kd.R_far (p:=⟨gb249,2,none⟩) (Kd.R_far (p:=⟨gb248,1,none⟩) (Kd.R_far (p:=⟨gb247,0,none⟩) (Kd.R_types (Kd.R_types (Kd.R_types HO252.out BK247.out (by decide)) BK248.out (by decide)) BK249.out (by decide)) (fun _ hk => hk.1.1.2) (.string (((a0 ++ (⟨#[120]⟩ : ByteArray)).extract 0 ((ji10) : Int).toNat) ++ (strOfNums y250)))) (fun _ hk => hk.1.2) (.int .u64 ji22)) (fun _ hk => hk.2) (.int .u8 2)) (fun _ h_ => h_.1)) (fun _ h_ => h_.1)) (fun _ h_ => h_.1))) hb);have n1_:=Aside0.mk (blk_below (g:=gb246) (o:=.cells #[.string t243,.int .u64 t244,.int .u8 t245] 39 (0,0)) (by (with_reducible repeat (first|refine bN ?_ _|refine bD ?_|refine bA ?_ _));refine blk_far ?_ NB246_249.out _;(with_reducible repeat (first|refine bN ?_ _|refine bD ?_|refine bA ?_ _));refine blk_far ?_ NB246_248.out _;(with_reducible repeat (first|refine bN ?_ _|refine bD ?_|refine bA ?_ _));refine blk_far ?_ NB246_247.out _;(with_reducible repeat (first|refine bN ?_ _|refine bD ?_|refine bA ?_ _));exact BK246.out) hb);have n2_:=Aside0.mk (blk_below (g:=gb247) (o:=.cells #[.string (((a0 ++ (⟨#[120]⟩ : ByteArray)).extract 0 ((ji10) : Int).toNat) ++ (strOfNums y250)),.int .u64 t244,.int .u8 t245] 39 (0,0)) (by (with_reducible repeat (first|refine bN ?_ _|refine bD ?_|refine bA ?_ _));refine blk_far ?_ NB247_249.out _;(with_reducible repeat (first|refine bN ?_ _|refine bD ?_|refine bA ?_ _));refine blk_far ?_ NB247_248.out _;(with_reducible repeat (first|refine bN ?_ _|refine bD ?_|refine bA ?_ _));refine blk_put (cs:=#[.string t243,.int .u64 t244,.int .u8 t245]) ?_ 0 _ rfl;(with_reducible repeat (first|refine bN ?_ _|refine bD ?_|refine bA ?_ _));exact BK247.out) hb);have n3_:=Aside0.mk (blk_below (g:=gb248) (o:=.cells #[.string t243,.int .u64 ji22,.int .u8 t245] 39 (0,0)) (by (with_reducible repeat (first|refine bN ?_ _|refine bD ?_|refine bA ?_ _));refine blk_far ?_ NB248_249.out _;(with_reducible repeat (first|refine bN ?_ _|refine bD ?_|refine bA ?_ _));refine blk_put (cs:=#[.string t243,.int .u64 t244,.int .u8 t245]) ?_ 1 _ rfl;(with_reducible repeat (first|refine bN ?_ _|refine bD ?_|refine bA ?_ _));refine blk_far ?_ NB248_247.out _;(with_reducible repeat (first|refine bN ?_ _|refine bD ?_|refine bA ?_ _));exact BK248.out) hb);have n4_:=Aside0.mk (blk_below (g:=gb249) (o:=.cells #[.string t243,.int .u64 t244,.int .u8 2] 39 (0,0)) (by (with_reducible repeat (first|refine bN ?_ _|refine bD ?_|refine bA ?_ _));refine blk_put (cs:=#[.string t243,.int .u64 t244,.int .u8 t245]) ?_ 2 _ rfl;(with_reducible repeat (first|refine bN ?_ _|refine bD ?_|refine bA ?_ _));refine blk_far ?_ NB249_248.out _;(with_reducible repeat (first|refine bN ?_ _|refine bD ?_|refine bA ?_ _));refine blk_far ?_ NB249_247.out _;(with_reducible repeat (first|refine bN ?_ _|refine bD ?_|refine bA ?_ _));exact BK249.out) hb);have n5_:=Aside0.mk (below_step (by repeat (first|(with_reducible first|exact HB.out|apply below_alloc|apply pw_below_drewN|apply below_drew1|refine below_set ?_ GE246.out|refine below_set ?_ GE247.out|refine below_set ?_ GE248.out|refine below_set ?_ GE249.out)|exact HB.out)) hb);clear HO252;clear BK246;clear BK247;clear BK248;clear BK249;clear HB;have HO252:=n0_;have BK246:=n1_;have BK247:=n2_;have BK248:=n3_;have BK249:=n4_;have HB:=n5_;clear n0_ n1_ n2_ n3_ n4_ n5_;(try clear hb);(try clear hb2);(try clear hk);(try clear hi);have hnb105:=NB247_248.out;have hnc105:=NB248_247.out;have hnb106:=NB247_249.out;have hnc106:=NB249_247.out;have hcz107_0 : w104.cell? ⟨gb247,0,none⟩ = some (.string (((a0 ++ (⟨#[120]⟩ : ByteArray)).extract 0 ((ji10) : Int).toNat) ++ (strOfNums y250))):=(blk_cell BK247.out 0).trans rfl;have hcz107_1 : w104.cell? ⟨gb247,1,none⟩ = some (.int .u64 t244):=(blk_cell BK247.out 1).trans rfl;have hcz107_2 : w104.cell? ⟨gb247,2,none⟩ = some (.int .u8 t245):=(blk_cell BK247.out 2).trans rfl;have hfz107_0:=blk_frozen BK247.out 0;have hfz107_1:=blk_frozen BK247.out 1;have hfz107_2:=blk_frozen BK247.out 2)|(go_at_call 29;(with_reducible refine (ikey_Right.calls (((a0 ++ (⟨#[120]⟩ : ByteArray)).extract 0 ((ji10) : Int).toNat) ++ (strOfNums y250)) t244 t245 false _ A57.out).mono ?_);rintro e w108 ⟨rfl,hb⟩;have n0_:=Aside0.mk (Kd.R_below (by (with_reducible repeat (first|apply zA|apply zN|apply zD));exact HO252.out) hb);have n1_:=Aside0.mk (blk_below (g:=gb246) (o:=.cells #[.string t243,.int .u64 t244,.int .u8 t245] 39 (0,0)) (by (with_reducible repeat (first|refine bN ?_ _|refine bD ?_|refine bA ?_ _));exact BK246.out) hb);have n2_:=Aside0.mk (blk_below (g:=gb247) (o:=.cells #[.string (((a0 ++ (⟨#[120]⟩ : ByteArray)).extract 0 ((ji10) : Int).toNat) ++ (strOfNums y250)),.int .u64 t244,.int .u8 t245] 39 (0,0)) (by (with_reducible repeat (first|refine bN ?_ _|refine bD ?_|refine bA ?_ _));exact BK247.out) hb);have n3_:=Aside0.mk (blk_below (g:=gb248) (o:=.cells #[.string t243,.int .u64 ji22,.int .u8 t245] 39 (0,0)) (by (with_reducible repeat (first|refine bN ?_ _|refine bD ?_|refine bA ?_ _));exact BK248.out) hb);have n4_:=Aside0.mk (blk_below (g:=gb249) (o:=.cells #[.string t243,.int .u64 t244,.int .u8 2] 39 (0,0)) (by (with_reducible repeat (first|refine bN ?_ _|refine bD ?_|refine bA ?_ _));exact BK249.out) hb);have n5_:=Aside0.mk (below_step (by repeat (first|(with_reducible first|exact HB.out|apply below_alloc|apply pw_below_drewN|apply below_drew1|refine below_set ?_ GE246.out|refine below_set ?_ GE247.out|refine below_set ?_ GE248.out|refine below_set ?_ GE249.out)|exact HB.out)) hb);clear HO252;clear BK246;clear BK247;clear BK248;clear BK249;clear HB;have HO252:=n0_;have BK246:=n1_;have BK247:=n2_;have BK248:=n3_;have BK249:=n4_;have HB:=n5_;clear n0_ n1_ n2_ n3_ n4_ n5_;(try clear hb);(try clear hb2);(try clear hk);(try clear hi);have hnb109:=NB248_249.out;have hnc109:=NB249_248.out;have hcz110_0 : w108.cell? ⟨gb248,0,none⟩ = some (.string t243):=(blk_cell BK248.out 0).trans rfl;have hcz110_1 : w108.cell? ⟨gb248,1,none⟩ = some (.int .u64 ji22):=(blk_cell BK248.out 1).trans rfl;have hcz110_2 : w108.cell? ⟨gb248,2,none⟩ = some (.int .u8 t245):=(blk_cell BK248.out 2).trans rfl;have hfz110_0:=blk_frozen BK248.out 0;have hfz110_1:=blk_frozen BK248.out 1;have hfz110_2:=blk_frozen BK248.out 2)|(go_at_call 29;(with_reducible refine (ikey_Right.calls t243 ji22 t245 false _ A68.out).mono ?_);rintro e w111 ⟨rfl,hb⟩;have n0_:=Aside0.mk (Kd.R_below (by (with_reducible repeat (first|apply zA|apply zN|apply zD));exact HO252.out) hb);have n1_:=Aside0.mk (blk_below (g:=gb246) (o:=.cells #[.string t243,.int .u64 t244,.int .u8 t245] 39 (0,0)) (by (with_reducible repeat (first|refine bN ?_ _|refine bD ?_|refine bA ?_ _));exact BK246.out) hb);have n2_:=Aside0.mk (blk_below (g:=gb247) (o:=.cells #[.string (((a0 ++ (⟨#[120]⟩ : ByteArray)).extract 0 ((ji10) : Int).toNat) ++ (strOfNums y250)),.int .u64 t244,.int .u8 t245] 39 (0,0)) (by (with_reducible repeat (first|refine bN ?_ _|refine bD ?_|refine bA ?_ _));exact BK247.out) hb);have n3_:=Aside0.mk (blk_below (g:=gb248) (o:=.cells #[.string t243,.int .u64 ji22,.int .u8 t245] 39 (0,0)) (by (with_reducible repeat (first|refine bN ?_ _|refine bD ?_|refine bA ?_ _));exact BK248.out) hb);have n4_:=Aside0.mk (blk_below (g:=gb249) (o:=.cells #[.string t243,.int .u64 t244,.int .u8 2] 39 (0,0)) (by (with_reducible repeat (first|refine bN ?_ _|refine bD ?_|refine bA ?_ _));exact BK249.out) hb);have n5_:=Aside0.mk (below_step (by repeat (first|(with_reducible first|exact HB.out|apply below_alloc|apply pw_below_drewN|apply below_drew1|refine below_set ?_ GE246.out|refine below_set ?_ GE247.out|refine below_set ?_ GE248.out|refine below_set ?_ GE249.out)|exact HB.out)) hb);clear HO252;clear BK246;clear BK247;clear BK248;clear BK249;clear HB;have HO252:=n0_;have BK246:=n1_;have BK247:=n2_;have BK248:=n3_;have BK249:=n4_;have HB:=n5_;clear n0_ n1_ n2_ n3_ n4_ n5_;(try clear hb);(try clear hb2);(try clear hk);(try clear hi);have hcz112_0 : w111.cell? ⟨gb249,0,none⟩ = some (.string t243):=(blk_cell BK249.out 0).trans rfl;have hcz112_1 : w111.cell? ⟨gb249,1,none⟩ = some (.int .u64 t244):=(blk_cell BK249.out 1).trans rfl;have hcz112_2 : w111.cell? ⟨gb249,2,none⟩ = some (.int .u8 2):=(blk_cell BK249.out 2).trans rfl;have hfz112_0:=blk_frozen BK249.out 0;have hfz112_1:=blk_frozen BK249.out 1;have hfz112_2:=blk_frozen BK249.out 2)|(go_at_call 29;(with_reducible refine (ikey_Right.calls t243 t244 2 false _ A82.out).mono ?_);rintro e w113 ⟨rfl,hb⟩;have n0_:=Aside0.mk (Kd.R_below (by (with_reducible repeat (first|apply zA|apply zN|apply zD));exact HO252.out) hb);have n1_:=Aside0.mk (blk_below (g:=gb246) (o:=.cells #[.string t243,.int .u64 t244,.int .u8 t245] 39 (0,0)) (by (with_reducible repeat (first|refine bN ?_ _|refine bD ?_|refine bA ?_ _));exact BK246.out) hb);have n2_:=Aside0.mk (blk_below (g:=gb247) (o:=.cells #[.string (((a0 ++ (⟨#[120]⟩ : ByteArray)).extract 0 ((ji10) : Int).toNat) ++ (strOfNums y250)),.int .u64 t244,.int .u8 t245] 39 (0,0)) (by (with_reducible repeat (first|refine bN ?_ _|refine bD ?_|refine bA ?_ _));exact BK247.out) hb);have n3_:=Aside0.mk (blk_below (g:=gb248) (o:=.cells #[.string t243,.int .u64 ji22,.int .u8 t245] 39 (0,0)) (by (with_reducible repeat (first|refine bN ?_ _|refine bD ?_|refine bA ?_ _));exact BK248.out) hb);have n4_:=Aside0.mk (blk_below (g:=gb249) (o:=.cells #[.string t243,.int .u64 t244,.int .u8 2] 39 (0,0)) (by (with_reducible repeat (first|refine bN ?_ _|refine bD ?_|refine bA ?_ _));exact BK249.out) hb);have n5_:=Aside0.mk (below_step (by repeat (first|(with_reducible first|exact HB.out|apply below_alloc|apply pw_below_drewN|apply below_drew1|refine below_set ?_ GE246.out|refine below_set ?_ GE247.out|refine below_set ?_ GE248.out|refine below_set ?_ GE249.out)|exact HB.out)) hb);clear HO252;clear BK246;clear BK247;clear BK248;clear BK249;clear HB;have HO252:=n0_;have BK246:=n1_;have BK247:=n2_;have BK248:=n3_;have BK249:=n4_;have HB:=n5_;clear n0_ n1_ n2_ n3_ n4_ n5_;(try clear hb);(try clear hb2);(try clear hk);(try clear hi);have hcz114_0 : w113.cell? ⟨gb246,0,none⟩ = some (.string t243):=(blk_cell BK246.out 0).trans rfl;have hcz114_1 : w113.cell? ⟨gb246,1,none⟩ = some (.int .u64 t244):=(blk_cell BK246.out 1).trans rfl;have hcz114_2 : w113.cell? ⟨gb246,2,none⟩ = some (.int .u8 t245):=(blk_cell BK246.out 2).trans rfl;have hfz114_0:=blk_frozen BK246.out 0;have hfz114_1:=blk_frozen BK246.out 1;have hfz114_2:=blk_frozen BK246.out 2)|(go_at_call 33;(with_reducible refine (ratlinelaw03_one.calls (⟨#[]⟩ : ByteArray) t244 1 t257 t258 t259 _ A98.out).mono ?_);rintro e w115 ⟨rfl,hb⟩;have n0_:=Aside0.mk (Kd.R_below (by (with_reducible repeat (first|apply zA|apply zN|apply zD));exact HO252.out) hb);have n1_:=Aside0.mk (blk_below (g:=gb246) (o:=.cells #[.string t243,.int .u64 t244,.int .u8 t245] 39 (0,0)) (by (with_reducible repeat (first|refine bN ?_ _|refine bD ?_|refine bA ?_ _));exact BK246.out) hb);have n2_:=Aside0.mk (blk_below (g:=gb247) (o:=.cells #[.string (((a0 ++ (⟨#[120]⟩ : ByteArray)).extract 0 ((ji10) : Int).toNat) ++ (strOfNums y250)),.int .u64 t244,.int .u8 t245] 39 (0,0)) (by (with_reducible repeat (first|refine bN ?_ _|refine bD ?_|refine bA ?_ _));exact BK247.out) hb);have n3_:=Aside0.mk (blk_below (g:=gb248) (o:=.cells #[.string t243,.int .u64 ji22,.int .u8 t245] 39 (0,0)) (by (with_reducible repeat (first|refine bN ?_ _|refine bD ?_|refine bA ?_ _));exact BK248.out) hb);have n4_:=Aside0.mk (blk_below (g:=gb249) (o:=.cells #[.string t243,.int .u64 t244,.int .u8 2] 39 (0,0)) (by (with_reducible repeat (first|refine bN ?_ _|refine bD ?_|refine bA ?_ _));exact BK249.out) hb);have n5_:=Aside0.mk (below_step (by repeat (first|(with_reducible first|exact HB.out|apply below_alloc|apply pw_below_drewN|apply below_drew1|refine below_set ?_ GE246.out|refine below_set ?_ GE247.out|refine below_set ?_ GE248.out|refine below_set ?_ GE249.out)|exact HB.out)) hb);clear HO252;clear BK246;clear BK247;clear BK248;clear BK249;clear HB;have HO252:=n0_;have BK246:=n1_;have BK247:=n2_;have BK248:=n3_;have BK249:=n4_;have HB:=n5_;clear n0_ n1_ n2_ n3_ n4_ n5_;(try clear hb);(try clear hb2);(try clear hk);(try clear hi))|(go_at_call 29;(with_reducible refine (ikey_Right.calls t257 t258 t259 t260 _ A99.out).mono ?_);rintro e w116 ⟨rfl,hb⟩;have n0_:=Aside0.mk (Kd.R_below (by (with_reducible repeat (first|apply zA|apply zN|apply zD));exact HO252.out) hb);have n1_:=Aside0.mk (blk_below (g:=gb246) (o:=.cells #[.string t243,.int .u64 t244,.int .u8 t245] 39 (0,0)) (by (with_reducible repeat (first|refine bN ?_ _|refine bD ?_|refine bA ?_ _));exact BK246.out) hb);have n2_:=Aside0.mk (blk_below (g:=gb247) (o:=.cells #[.string (((a0 ++ (⟨#[120]⟩ : ByteArray)).extract 0 ((ji10) : Int).toNat) ++ (strOfNums y250)),.int .u64 t244,.int .u8 t245] 39 (0,0)) (by (with_reducible repeat (first|refine bN ?_ _|refine bD ?_|refine bA ?_ _));exact BK247.out) hb);have n3_:=Aside0.mk (blk_below (g:=gb248) (o:=.cells #[.string t243,.int .u64 ji22,.int .u8 t245] 39 (0,0)) (by (with_reducible repeat (first|refine bN ?_ _|refine bD ?_|refine bA ?_ _));exact BK248.out) hb);have n4_:=Aside0.mk (blk_below (g:=gb249) (o:=.cells #[.string t243,.int .u64 t244,.int .u8 2] 39 (0,0)) (by (with_reducible repeat (first|refine bN ?_ _|refine bD ?_|refine bA ?_ _));exact BK249.out) hb);have n5_:=Aside0.mk (below_step (by repeat (first|(with_reducible first|exact HB.out|apply below_alloc|apply pw_below_drewN|apply below_drew1|refine below_set ?_ GE246.out|refine below_set ?_ GE247.out|refine below_set ?_ GE248.out|refine below_set ?_ GE249.out)|exact HB.out)) hb);clear HO252;clear BK246;clear BK247;clear BK248;clear BK249;clear HB;have HO252:=n0_;have BK246:=n1_;have BK247:=n2_;have BK248:=n3_;have BK249:=n4_;have HB:=n5_;clear n0_ n1_ n2_ n3_ n4_ n5_;(try clear hb);(try clear hb2);(try clear hk);(try clear hi)))
                 go_meet
                 case rel => exact ⟨_,(t260),(by first|rfl|(simp;done)|(simp [*];done)),H',⟨by have:=HJ3.out;first|omega|exact Nat.le_refl _⟩,⟨by (with_reducible repeat (first|refine bN ?_ _|refine bD ?_|refine bA ?_ _));exact BK246.out⟩,⟨by (with_reducible repeat (first|refine bN ?_ _|refine bD ?_|refine bA ?_ _));exact BK247.out⟩,⟨by (with_reducible repeat (first|refine bN ?_ _|refine bD ?_|refine bA ?_ _));exact BK248.out⟩,⟨by (with_reducible repeat (first|refine bN ?_ _|refine bD ?_|refine bA ?_ _));exact BK249.out⟩,⟨by repeat (first|(with_reducible first|exact HB.out|apply below_alloc|apply pw_below_drewN|apply below_drew1|refine below_set ?_ GE246.out|refine below_set ?_ GE247.out|refine below_set ?_ GE248.out|refine below_set ?_ GE249.out)|exact HB.out)⟩⟩
             ·replace c56:=Bool.eq_false_iff.mpr c56
              subst c56
              have H1 : (ratlinelaw03_IkeyRight.j1 kj3 (a2.extract 0 ((ji13) : Int).toNat) true t243 t244 t245 (((a0 ++ (⟨#[120]⟩ : ByteArray)).extract 0 ((ji10) : Int).toNat) ++ (strOfNums y250)) t244 t245) = some r:=by rw [if_neg (show ¬ (false = true) by decide)] at H;exact H
              clear H
              have H:=H1
              clear H1
              have H':=Aside0.mk H
              clear H
              have hnb117:=NB246_247.out
              have hnc117:=NB247_246.out
              have hnb118:=NB246_248.out
              have hnc118:=NB248_246.out
              have hnb119:=NB246_249.out
              have hnc119:=NB249_246.out
              have hcz120_0 : w43.cell? ⟨gb246,0,none⟩ = some (.string t243):=(blk_cell BK246.out 0).trans rfl
              have hcz120_1 : w43.cell? ⟨gb246,1,none⟩ = some (.int .u64 t244):=(blk_cell BK246.out 1).trans rfl
              have hcz120_2 : w43.cell? ⟨gb246,2,none⟩ = some (.int .u8 t245):=(blk_cell BK246.out 2).trans rfl
              have hfz120_0:=blk_frozen BK246.out 0
              have hfz120_1:=blk_frozen BK246.out 1
              have hfz120_2:=blk_frozen BK246.out 2
              go_wp2_with (first|((with_reducible refine gate_callee (f:=29) rfl ?_);refine goesL_ (some 53) rfl rfl Try.func29 (by kernel_rfl) rfl #[.agg #[.string t243,.int .u64 t244,.int .u8 t245]] rfl (by (try simp only [List.map_toArray,List.map_cons,List.map_nil]);first|done|rfl|(simp only [List.length_drop,List.length_take];rfl)) ?_;(with_reducible refine (ikey_Right.calls t243 t244 t245 false _ A55.out).mono ?_);rintro e w121 ⟨rfl,hb⟩;refine ⟨_,rfl,?_⟩;have n0_:=Aside0.mk (Kd.R_below (by (with_reducible repeat (first|apply zA|apply zN|apply zD));exact (Kd.R_mono (Kd.R_mono (Kd.R_mono (Kd.R_far (p:=⟨gb249,2,none⟩) (Kd.R_far (p:=⟨gb248,1,none⟩) (Kd.R_far (p:=⟨gb247,0,none⟩) (Kd.R_types (Kd.R_types (Kd.R_types HO252.out BK247.out (by decide)) BK248.out (by decide)) BK249.out (by decide)) (fun _ hk => hk.1.1.2) (.string (((a0 ++ (⟨#[120]⟩ : ByteArray)).extract 0 ((ji10) : Int).toNat) ++ (strOfNums y250)))) (fun _ hk => hk.1.2) (.int .u64 ji22)) (fun _ hk => hk.2) (.int .u8 2)) (fun _ h_ => h_.1)) (fun _ h_ => h_.1)) (fun _ h_ => h_.1))) hb);have n1_:=Aside0.mk (blk_below (g:=gb246) (o:=.cells #[.string t243,.int .u64 t244,.int .u8 t245] 39 (0,0)) (by (with_reducible repeat (first|refine bN ?_ _|refine bD ?_|refine bA ?_ _));refine blk_far ?_ NB246_249.out _;(with_reducible repeat (first|refine bN ?_ _|refine bD ?_|refine bA ?_ _));refine blk_far ?_ NB246_248.out _;(with_reducible repeat (first|refine bN ?_ _|refine bD ?_|refine bA ?_ _));refine blk_far ?_ NB246_247.out _;(with_reducible repeat (first|refine bN ?_ _|refine bD ?_|refine bA ?_ _));exact BK246.out) hb);have n2_:=Aside0.mk (blk_below (g:=gb247) (o:=.cells #[.string (((a0 ++ (⟨#[120]⟩ : ByteArray)).extract 0 ((ji10) : Int).toNat) ++ (strOfNums y250)),.int .u64 t244,.int .u8 t245] 39 (0,0)) (by (with_reducible repeat (first|refine bN ?_ _|refine bD ?_|refine bA ?_ _));refine blk_far ?_ NB247_249.out _;(with_reducible repeat (first|refine bN ?_ _|refine bD ?_|refine bA ?_ _));refine blk_far ?_ NB247_248.out _;(with_reducible repeat (first|refine bN ?_ _|refine bD ?_|refine bA ?_ _));refine blk_put (cs:=#[.string t243,.int .u64 t244,.int .u8 t245]) ?_ 0 _ rfl;(with_reducible repeat (first|refine bN ?_ _|refine bD ?_|refine bA ?_ _));exact BK247.out) hb);have n3_:=Aside0.mk (blk_below (g:=gb248) (o:=.cells #[.string t243,.int .u64 ji22,.int .u8 t245] 39 (0,0)) (by (with_reducible repeat (first|refine bN ?_ _|refine bD ?_|refine bA ?_ _));refine blk_far ?_ NB248_249.out _;(with_reducible repeat (first|refine bN ?_ _|refine bD ?_|refine bA ?_ _));refine blk_put (cs:=#[.string t243,.int .u64 t244,.int .u8 t245]) ?_ 1 _ rfl;(with_reducible repeat (first|refine bN ?_ _|refine bD ?_|refine bA ?_ _));refine blk_far ?_ NB248_247.out _;(with_reducible repeat (first|refine bN ?_ _|refine bD ?_|refine bA ?_ _));exact BK248.out) hb);have n4_:=Aside0.mk (blk_below (g:=gb249) (o:=.cells #[.string t243,.int .u64 t244,.int .u8 2] 39 (0,0)) (by (with_reducible repeat (first|refine bN ?_ _|refine bD ?_|refine bA ?_ _));refine blk_put (cs:=#[.string t243,.int .u64 t244,.int .u8 t245]) ?_ 2 _ rfl;(with_reducible repeat (first|refine bN ?_ _|refine bD ?_|refine bA ?_ _));refine blk_far ?_ NB249_248.out _;(with_reducible repeat (first|refine bN ?_ _|refine bD ?_|refine bA ?_ _));refine blk_far ?_ NB249_247.out _;(with_reducible repeat (first|refine bN ?_ _|refine bD ?_|refine bA ?_ _));exact BK249.out) hb);have n5_:=Aside0.mk (below_step (by repeat (first|(with_reducible first|exact HB.out|apply below_alloc|apply pw_below_drewN|apply below_drew1|refine below_set ?_ GE246.out|refine below_set ?_ GE247.out|refine below_set ?_ GE248.out|refine below_set ?_ GE249.out)|exact HB.out)) hb);clear HO252;clear BK246;clear BK247;clear BK248;clear BK249;clear HB;have HO252:=n0_;have BK246:=n1_;have BK247:=n2_;have BK248:=n3_;have BK249:=n4_;have HB:=n5_;clear n0_ n1_ n2_ n3_ n4_ n5_;(try clear hb);(try clear hb2);(try clear hk);(try clear hi)))
              go_meet
              case rel => exact ⟨_,(true),(by first|rfl|(simp;done)|(simp [*];done)),H',⟨by have:=HJ3.out;first|omega|exact Nat.le_refl _⟩,⟨by (with_reducible repeat (first|refine bN ?_ _|refine bD ?_|refine bA ?_ _));exact BK246.out⟩,⟨by (with_reducible repeat (first|refine bN ?_ _|refine bD ?_|refine bA ?_ _));exact BK247.out⟩,⟨by (with_reducible repeat (first|refine bN ?_ _|refine bD ?_|refine bA ?_ _));exact BK248.out⟩,⟨by (with_reducible repeat (first|refine bN ?_ _|refine bD ?_|refine bA ?_ _));exact BK249.out⟩,⟨by repeat (first|(with_reducible first|exact HB.out|apply below_alloc|apply pw_below_drewN|apply below_drew1|refine below_set ?_ GE246.out|refine below_set ?_ GE247.out|refine below_set ?_ GE248.out|refine below_set ?_ GE249.out)|exact HB.out)⟩⟩
            case rest =>
             clear HC23
             try clear c1
             try clear c2
             try clear p2
             try clear c4
             try clear hcv4
             try clear c5
             try clear c6
             try clear c7
             try clear c8
             try clear c9
             try clear c10
             try clear c11
             try clear c29
             try clear hcv45
             try clear c46
             try clear c47
             try clear c48
             try clear c50
             try clear c51
             try clear c53
             try clear c56
             try clear c58
             try clear c59
             try clear c60
             try clear c61
             try clear c64
             try clear c65
             try clear c69
             try clear c70
             try clear c71
             try clear c72
             try clear c75
             try clear c76
             try clear c79
             try clear c83
             try clear c84
             try clear c85
             try clear c86
             try clear c89
             try clear c90
             try clear c93
             try clear c100
             try clear c101
             try clear c102
             try clear c105
             try clear c106
             try clear c109
             try clear c117
             try clear c118
             try clear c119
             try clear hcz103_0
             try clear hcz103_1
             try clear hcz103_2
             try clear hcz107_0
             try clear hcz107_1
             try clear hcz107_2
             try clear hcz110_0
             try clear hcz110_1
             try clear hcz110_2
             try clear hcz112_0
             try clear hcz112_1
             try clear hcz112_2
             try clear hcz114_0
             try clear hcz114_1
             try clear hcz114_2
             try clear hcz120_0
             try clear hcz120_1
             try clear hcz120_2
             try clear hcz49_0
             try clear hcz49_1
             try clear hcz49_2
             try clear hcz52_0
             try clear hcz52_1
             try clear hcz52_2
             try clear hcz54_0
             try clear hcz54_1
             try clear hcz54_2
             try clear hcz62_0
             try clear hcz62_1
             try clear hcz62_2
             try clear hcz66_0
             try clear hcz66_1
             try clear hcz66_2
             try clear hcz73_0
             try clear hcz73_1
             try clear hcz73_2
             try clear hcz77_0
             try clear hcz77_1
             try clear hcz77_2
             try clear hcz80_0
             try clear hcz80_1
             try clear hcz80_2
             try clear hcz87_0
             try clear hcz87_1
             try clear hcz87_2
             try clear hcz91_0
             try clear hcz91_1
             try clear hcz91_2
             try clear hcz94_0
             try clear hcz94_1
             try clear hcz94_2
             try clear hcz96_0
             try clear hcz96_1
             try clear hcz96_2
             try clear hfz103_0
             try clear hfz103_1
             try clear hfz103_2
             try clear hfz107_0
             try clear hfz107_1
             try clear hfz107_2
             try clear hfz110_0
             try clear hfz110_1
             try clear hfz110_2
             try clear hfz112_0
             try clear hfz112_1
             try clear hfz112_2
             try clear hfz114_0
             try clear hfz114_1
             try clear hfz114_2
             try clear hfz120_0
             try clear hfz120_1
             try clear hfz120_2
             try clear hfz49_0
             try clear hfz49_1
             try clear hfz49_2
             try clear hfz52_0
             try clear hfz52_1
             try clear hfz52_2
             try clear hfz54_0
             try clear hfz54_1
             try clear hfz54_2
             try clear hfz62_0
             try clear hfz62_1
             try clear hfz62_2
             try clear hfz66_0
             try clear hfz66_1
             try clear hfz66_2
             try clear hfz73_0
             try clear hfz73_1
             try clear hfz73_2
             try clear hfz77_0
             try clear hfz77_1
             try clear hfz77_2
             try clear hfz80_0
             try clear hfz80_1
             try clear hfz80_2
             try clear hfz87_0
             try clear hfz87_1
             try clear hfz87_2
             try clear hfz91_0
             try clear hfz91_1
             try clear hfz91_2
             try clear hfz94_0
             try clear hfz94_1
             try clear hfz94_2
             try clear hfz96_0
             try clear hfz96_1
             try clear hfz96_2
             obtain ⟨kq,x72_22,rfl,HA,HJ22,BK246,BK247,BK248,BK249,HB⟩:=hcut
             cases kq with
             | zero => exact absurd HA.out (by simp [ratlinelaw03_IkeyRight.j1])
             | succ kj22 =>
              have H:=HA.out
              clear HA
              simp only [ratlinelaw03_IkeyRight.j1] at H
              by_cases c122 : x72_22 = true
              ·subst c122
               have H1 : (none) = some r:=by rw [if_pos rfl] at H;exact H
               clear H
               have H:=H1
               clear H1
               exact absurd H (by simp)
              ·replace c122:=Bool.eq_false_iff.mpr c122
               subst c122
               have H1 : ((ikey_Entry.f t243 t244 t245 (a2.extract 0 ((ji13) : Int).toNat)).bind fun t262 => (if t262 = true then (if 0 ≤ (wrap64 (257 - ((a2.extract 0 ((ji13) : Int).toNat).size : Int))) then (if (wrap64 (257 - ((a2.extract 0 ((ji13) : Int).toNat).size : Int)) : Int).toNat ≤ 281474976710656 then ((some (List.replicate (wrap64 (257 - ((a2.extract 0 ((ji13) : Int).toNat).size : Int)) : Int).toNat 0 : List Int)).bind fun y263 => (if (a2.extract 0 ((ji13) : Int).toNat).size + (strOfNums y263).size ≤ 9223372036854775807 then ((ikey_Entry.f t243 t244 t245 ((a2.extract 0 ((ji13) : Int).toNat) ++ (strOfNums y263))).bind fun t266 => (if t266 = true then (none) else ((ikey_Entry.f t243 t244 0 (⟨#[]⟩ : ByteArray)).bind fun t267 => (if t267 = true then ((ikey_Entry.f t243 t244 0 (a2.extract 0 ((ji13) : Int).toNat)).bind fun t268 => (if (t268 == ((a2.extract 0 ((ji13) : Int).toNat).toList == ([] : List UInt8))) = true then ((ikey_Entry.f (((a0 ++ (⟨#[120]⟩ : ByteArray)).extract 0 ((ji10) : Int).toNat) ++ (strOfNums y250)) t244 t245 (⟨#[]⟩ : ByteArray)).bind fun t269 => (if t269 = true then (none) else ((ratlinelaw03_awake.f kj22).bind fun t270 => (some t270)))) else (none))) else (none))))) else (none))) else (none)) else (none)) else (none))) = some r:=by rw [if_neg (show ¬ (false = true) by decide)] at H;exact H
               clear H
               have H:=H1
               clear H1
               replace H:=Option.bind_eq_some_iff.mp H
               obtain ⟨t262,A1230,H⟩:=H
               replace H : (if t262 = true then (if 0 ≤ (wrap64 (257 - ((a2.extract 0 ((ji13) : Int).toNat).size : Int))) then (if (wrap64 (257 - ((a2.extract 0 ((ji13) : Int).toNat).size : Int)) : Int).toNat ≤ 281474976710656 then ((some (List.replicate (wrap64 (257 - ((a2.extract 0 ((ji13) : Int).toNat).size : Int)) : Int).toNat 0 : List Int)).bind fun y263 => (if (a2.extract 0 ((ji13) : Int).toNat).size + (strOfNums y263).size ≤ 9223372036854775807 then ((ikey_Entry.f t243 t244 t245 ((a2.extract 0 ((ji13) : Int).toNat) ++ (strOfNums y263))).bind fun t266 => (if t266 = true then (none) else ((ikey_Entry.f t243 t244 0 (⟨#[]⟩ : ByteArray)).bind fun t267 => (if t267 = true then ((ikey_Entry.f t243 t244 0 (a2.extract 0 ((ji13) : Int).toNat)).bind fun t268 => (if (t268 == ((a2.extract 0 ((ji13) : Int).toNat).toList == ([] : List UInt8))) = true then ((ikey_Entry.f (((a0 ++ (⟨#[120]⟩ : ByteArray)).extract 0 ((ji10) : Int).toNat) ++ (strOfNums y250)) t244 t245 (⟨#[]⟩ : ByteArray)).bind fun t269 => (if t269 = true then (none) else ((ratlinelaw03_awake.f kj22).bind fun t270 => (some t270)))) else (none))) else (none))))) else (none))) else (none)) else (none)) else (none)) = some r:=H
               have A123:=Aside0.mk A1230
               clear A1230
               by_cases c124 : t262 = true
               ·subst c124
                have H1 : (if 0 ≤ (wrap64 (257 - ((a2.extract 0 ((ji13) : Int).toNat).size : Int))) then (if (wrap64 (257 - ((a2.extract 0 ((ji13) : Int).toNat).size : Int)) : Int).toNat ≤ 281474976710656 then ((some (List.replicate (wrap64 (257 - ((a2.extract 0 ((ji13) : Int).toNat).size : Int)) : Int).toNat 0 : List Int)).bind fun y263 => (if (a2.extract 0 ((ji13) : Int).toNat).size + (strOfNums y263).size ≤ 9223372036854775807 then ((ikey_Entry.f t243 t244 t245 ((a2.extract 0 ((ji13) : Int).toNat) ++ (strOfNums y263))).bind fun t266 => (if t266 = true then (none) else ((ikey_Entry.f t243 t244 0 (⟨#[]⟩ : ByteArray)).bind fun t267 => (if t267 = true then ((ikey_Entry.f t243 t244 0 (a2.extract 0 ((ji13) : Int).toNat)).bind fun t268 => (if (t268 == ((a2.extract 0 ((ji13) : Int).toNat).toList == ([] : List UInt8))) = true then ((ikey_Entry.f (((a0 ++ (⟨#[120]⟩ : ByteArray)).extract 0 ((ji10) : Int).toNat) ++ (strOfNums y250)) t244 t245 (⟨#[]⟩ : ByteArray)).bind fun t269 => (if t269 = true then (none) else ((ratlinelaw03_awake.f kj22).bind fun t270 => (some t270)))) else (none))) else (none))))) else (none))) else (none)) else (none)) = some r:=by rw [if_pos rfl] at H;exact H
                clear H
                have H:=H1
                clear H1
                obtain ⟨ji125,hji125⟩ : ∃ j_ : Int,(wrap64 (257 - ((a2.extract 0 ((ji13) : Int).toNat).size : Int))) = j_:=⟨_,rfl⟩
                (try (have hji125m : (wrap64 (257 - max ji13 0)) = ji125:=by (rw [← hji125];rw [show (max ji13 0 : Int) = ((a2.extract 0 ((ji13) : Int).toNat).size : Int) from by (rw [ByteArray.size_extract];have h_:=of_eq_true c15b0;omega)])))
                (try (have hji125mw : IntKind.i64.wrap ((257 - max ji13 0)) = ji125:=(i64_w _).trans hji125m))
                replace H : (if 0 ≤ (ji125) then (if (ji125 : Int).toNat ≤ 281474976710656 then ((some (List.replicate (ji125 : Int).toNat 0 : List Int)).bind fun y263 => (if (a2.extract 0 ((ji13) : Int).toNat).size + (strOfNums y263).size ≤ 9223372036854775807 then ((ikey_Entry.f t243 t244 t245 ((a2.extract 0 ((ji13) : Int).toNat) ++ (strOfNums y263))).bind fun t266 => (if t266 = true then (none) else ((ikey_Entry.f t243 t244 0 (⟨#[]⟩ : ByteArray)).bind fun t267 => (if t267 = true then ((ikey_Entry.f t243 t244 0 (a2.extract 0 ((ji13) : Int).toNat)).bind fun t268 => (if (t268 == ((a2.extract 0 ((ji13) : Int).toNat).toList == ([] : List UInt8))) = true then ((ikey_Entry.f (((a0 ++ (⟨#[120]⟩ : ByteArray)).extract 0 ((ji10) : Int).toNat) ++ (strOfNums y250)) t244 t245 (⟨#[]⟩ : ByteArray)).bind fun t269 => (if t269 = true then (none) else ((ratlinelaw03_awake.f kj22).bind fun t270 => (some t270)))) else (none))) else (none))))) else (none))) else (none)) else (none)) = some r:=by first|(rw [hji125] at H;exact H)|(simp only [hji125] at H ⊢;exact H)
                (try rw [hji125] at A123)
                have hji125w : (IntKind.i64.wrap (257 - ((a2.extract 0 ((ji13) : Int).toNat).size : Int))) = ji125:=(i64_w _).trans hji125
                by_cases c126 : 0 ≤ (ji125)
                ·rw [if_pos c126] at H
                 have c126b0:=eq_true c126
                 have c126b1 : decide (0 ≤ (ji125)) = true:=decide_eq_true c126
                 clear c126
                 by_cases c127 : (ji125 : Int).toNat ≤ 281474976710656
                 ·rw [if_pos c127] at H
                  have c127b0:=eq_true c127
                  have c127b1 : decide ((ji125 : Int).toNat ≤ 281474976710656) = true:=decide_eq_true c127
                  clear c127
                  obtain ⟨y263,hy263⟩ : ∃ y_ : List Int,y_ = (List.replicate (ji125 : Int).toNat 0):=⟨_,rfl⟩
                  replace H : (if (a2.extract 0 ((ji13) : Int).toNat).size + (strOfNums y263).size ≤ 9223372036854775807 then ((ikey_Entry.f t243 t244 t245 ((a2.extract 0 ((ji13) : Int).toNat) ++ (strOfNums y263))).bind fun t266 => (if t266 = true then (none) else ((ikey_Entry.f t243 t244 0 (⟨#[]⟩ : ByteArray)).bind fun t267 => (if t267 = true then ((ikey_Entry.f t243 t244 0 (a2.extract 0 ((ji13) : Int).toNat)).bind fun t268 => (if (t268 == ((a2.extract 0 ((ji13) : Int).toNat).toList == ([] : List UInt8))) = true then ((ikey_Entry.f (((a0 ++ (⟨#[120]⟩ : ByteArray)).extract 0 ((ji10) : Int).toNat) ++ (strOfNums y250)) t244 t245 (⟨#[]⟩ : ByteArray)).bind fun t269 => (if t269 = true then (none) else ((ratlinelaw03_awake.f kj22).bind fun t270 => (some t270)))) else (none))) else (none))))) else (none)) = some r:=by first|(rw [hy263];with_reducible exact H)|(have H2_:=(Option.bind_some _ _).symm.trans H;rw [hy263];with_reducible exact H2_)|(have H2_:=(Option.bind_some _ _).symm.trans H;with_reducible exact H2_)|with_reducible exact H|(rw [hy263];exact H)|exact H
                  have Ny263:=Aside0.mk hy263
                  clear hy263
                  by_cases c128 : (a2.extract 0 ((ji13) : Int).toNat).size + (strOfNums y263).size ≤ 9223372036854775807
                  ·rw [if_pos c128] at H
                   have c128b0:=eq_true c128
                   (try (have c128e : (9223372036854775807 < (ji13 : Int).toNat + (strOfNums y263).size) = False:=eq_false (by have h_:=c128;rw [ByteArray.size_extract] at h_;have h2_:=of_eq_true c15b0;omega)))
                   have c128b1 : decide ((a2.extract 0 ((ji13) : Int).toNat).size + (strOfNums y263).size ≤ 9223372036854775807) = true:=decide_eq_true c128
                   try have c128b2 : (9223372036854775807 < (a2.extract 0 ((ji13) : Int).toNat).size + (strOfNums y263).size) = False:=eq_false (Nat.not_lt.2 c128)
                   replace H:=Option.bind_eq_some_iff.mp H
                   obtain ⟨t266,A1290,H⟩:=H
                   replace H : (if t266 = true then (none) else ((ikey_Entry.f t243 t244 0 (⟨#[]⟩ : ByteArray)).bind fun t267 => (if t267 = true then ((ikey_Entry.f t243 t244 0 (a2.extract 0 ((ji13) : Int).toNat)).bind fun t268 => (if (t268 == ((a2.extract 0 ((ji13) : Int).toNat).toList == ([] : List UInt8))) = true then ((ikey_Entry.f (((a0 ++ (⟨#[120]⟩ : ByteArray)).extract 0 ((ji10) : Int).toNat) ++ (strOfNums y250)) t244 t245 (⟨#[]⟩ : ByteArray)).bind fun t269 => (if t269 = true then (none) else ((ratlinelaw03_awake.f kj22).bind fun t270 => (some t270)))) else (none))) else (none)))) = some r:=H
                   have A129:=Aside0.mk A1290
                   clear A1290
                   by_cases c130 : t266 = true
                   ·subst c130
                    have H1 : (none) = some r:=by rw [if_pos rfl] at H;exact H
                    clear H
                    have H:=H1
                    clear H1
                    exact absurd H (by simp)
                   ·replace c130:=Bool.eq_false_iff.mpr c130
                    subst c130
                    have H1 : ((ikey_Entry.f t243 t244 0 (⟨#[]⟩ : ByteArray)).bind fun t267 => (if t267 = true then ((ikey_Entry.f t243 t244 0 (a2.extract 0 ((ji13) : Int).toNat)).bind fun t268 => (if (t268 == ((a2.extract 0 ((ji13) : Int).toNat).toList == ([] : List UInt8))) = true then ((ikey_Entry.f (((a0 ++ (⟨#[120]⟩ : ByteArray)).extract 0 ((ji10) : Int).toNat) ++ (strOfNums y250)) t244 t245 (⟨#[]⟩ : ByteArray)).bind fun t269 => (if t269 = true then (none) else ((ratlinelaw03_awake.f kj22).bind fun t270 => (some t270)))) else (none))) else (none))) = some r:=by rw [if_neg (show ¬ (false = true) by decide)] at H;exact H
                    clear H
                    have H:=H1
                    clear H1
                    replace H:=Option.bind_eq_some_iff.mp H
                    obtain ⟨t267,A1310,H⟩:=H
                    replace H : (if t267 = true then ((ikey_Entry.f t243 t244 0 (a2.extract 0 ((ji13) : Int).toNat)).bind fun t268 => (if (t268 == ((a2.extract 0 ((ji13) : Int).toNat).toList == ([] : List UInt8))) = true then ((ikey_Entry.f (((a0 ++ (⟨#[120]⟩ : ByteArray)).extract 0 ((ji10) : Int).toNat) ++ (strOfNums y250)) t244 t245 (⟨#[]⟩ : ByteArray)).bind fun t269 => (if t269 = true then (none) else ((ratlinelaw03_awake.f kj22).bind fun t270 => (some t270)))) else (none))) else (none)) = some r:=H
                    have A131:=Aside0.mk A1310
                    clear A1310
                    by_cases c132 : t267 = true
                    ·subst c132
                     have H1 : ((ikey_Entry.f t243 t244 0 (a2.extract 0 ((ji13) : Int).toNat)).bind fun t268 => (if (t268 == ((a2.extract 0 ((ji13) : Int).toNat).toList == ([] : List UInt8))) = true then ((ikey_Entry.f (((a0 ++ (⟨#[120]⟩ : ByteArray)).extract 0 ((ji10) : Int).toNat) ++ (strOfNums y250)) t244 t245 (⟨#[]⟩ : ByteArray)).bind fun t269 => (if t269 = true then (none) else ((ratlinelaw03_awake.f kj22).bind fun t270 => (some t270)))) else (none))) = some r:=by rw [if_pos rfl] at H;exact H
                     clear H
                     have H:=H1
                     clear H1
                     replace H:=Option.bind_eq_some_iff.mp H
                     obtain ⟨t268,A1330,H⟩:=H
                     replace H : (if (t268 == ((a2.extract 0 ((ji13) : Int).toNat).toList == ([] : List UInt8))) = true then ((ikey_Entry.f (((a0 ++ (⟨#[120]⟩ : ByteArray)).extract 0 ((ji10) : Int).toNat) ++ (strOfNums y250)) t244 t245 (⟨#[]⟩ : ByteArray)).bind fun t269 => (if t269 = true then (none) else ((ratlinelaw03_awake.f kj22).bind fun t270 => (some t270)))) else (none)) = some r:=H
                     have A133:=Aside0.mk A1330
                     clear A1330
                     by_cases c134 : (t268 == ((a2.extract 0 ((ji13) : Int).toNat).toList == ([] : List UInt8))) = true
                     ·rw [if_pos c134] at H
                      have c134b0 : (t268 == ((a2.extract 0 ((ji13) : Int).toNat).toList == ([] : List UInt8))) = true:=c134
                      (try (have c134z : (t268 == ((a2.extract 0 ((ji13) : Int).toNat).toList).isEmpty) = true:=by (have h_:=c134b0;rw [show ((a2.extract 0 ((ji13) : Int).toNat).toList == ([] : List UInt8)) = ((a2.extract 0 ((ji13) : Int).toNat).toList).isEmpty from by (generalize (a2.extract 0 ((ji13) : Int).toNat).toList = z_;cases z_ <;> rfl)] at h_;exact h_)))
                      (try (have c134b1 : decide (t268 = ((a2.extract 0 ((ji13) : Int).toNat).toList == ([] : List UInt8))) = true:=by simpa using c134))
                      (try (have c134b2 : (t268 == ((a2.extract 0 ((ji13) : Int).toNat).toList == ([] : List UInt8))) = true:=by simpa using c134))
                      clear c134
                      replace H:=Option.bind_eq_some_iff.mp H
                      obtain ⟨t269,A1350,H⟩:=H
                      replace H : (if t269 = true then (none) else ((ratlinelaw03_awake.f kj22).bind fun t270 => (some t270))) = some r:=H
                      have A135:=Aside0.mk A1350
                      clear A1350
                      by_cases c136 : t269 = true
                      ·subst c136
                       have H1 : (none) = some r:=by rw [if_pos rfl] at H;exact H
                       clear H
                       have H:=H1
                       clear H1
                       exact absurd H (by simp)
                      ·replace c136:=Bool.eq_false_iff.mpr c136
                       subst c136
                       have H1 : ((ratlinelaw03_awake.f kj22).bind fun t270 => (some t270)) = some r:=by rw [if_neg (show ¬ (false = true) by decide)] at H;exact H
                       clear H
                       have H:=H1
                       clear H1
                       replace H:=Option.bind_eq_some_iff.mp H
                       obtain ⟨t270,A1370,H⟩:=H
                       replace H : (some t270) = some r:=H
                       have A137:=Aside0.mk A1370
                       clear A1370
                       obtain rfl:=Option.some.inj H
                       have hnb138:=NB246_247.out
                       have hnc138:=NB247_246.out
                       have hnb139:=NB246_248.out
                       have hnc139:=NB248_246.out
                       have hnb140:=NB246_249.out
                       have hnc140:=NB249_246.out
                       have hcz141_0 : wc.cell? ⟨gb246,0,none⟩ = some (.string t243):=(blk_cell BK246.out 0).trans rfl
                       have hcz141_1 : wc.cell? ⟨gb246,1,none⟩ = some (.int .u64 t244):=(blk_cell BK246.out 1).trans rfl
                       have hcz141_2 : wc.cell? ⟨gb246,2,none⟩ = some (.int .u8 t245):=(blk_cell BK246.out 2).trans rfl
                       have hfz141_0:=blk_frozen BK246.out 0
                       have hfz141_1:=blk_frozen BK246.out 1
                       have hfz141_2:=blk_frozen BK246.out 2
                       try go_wp2_with (first|((with_reducible refine gate_dst (N:=11) rfl ?_);(try (refine gate_guard (by rfl) ?_;dsimp only));refine box_event ?hg (N:=11) ?hd (cs:=#[.string (⟨#[]⟩ : ByteArray),.int .u64 0,.int .u8 0]) (t:=39) ?hr ?_;(case hd => rfl);(case hg => rfl);(case hr => first|(go_simp;done)|(go_simp;rfl));intro gb261 hg w142 hbox hb;have n0_:=Aside0.mk (blk_below (g:=gb246) (o:=.cells #[.string t243,.int .u64 t244,.int .u8 t245] 39 (0,0)) (by (with_reducible repeat (first|refine bN ?_ _|refine bD ?_|refine bA ?_ _));exact BK246.out) hb);have n1_:=Aside0.mk (blk_below (g:=gb247) (o:=.cells #[.string (((a0 ++ (⟨#[120]⟩ : ByteArray)).extract 0 ((ji10) : Int).toNat) ++ (strOfNums y250)),.int .u64 t244,.int .u8 t245] 39 (0,0)) (by (with_reducible repeat (first|refine bN ?_ _|refine bD ?_|refine bA ?_ _));exact BK247.out) hb);have n2_:=Aside0.mk (blk_below (g:=gb248) (o:=.cells #[.string t243,.int .u64 ji22,.int .u8 t245] 39 (0,0)) (by (with_reducible repeat (first|refine bN ?_ _|refine bD ?_|refine bA ?_ _));exact BK248.out) hb);have n3_:=Aside0.mk (blk_below (g:=gb249) (o:=.cells #[.string t243,.int .u64 t244,.int .u8 2] 39 (0,0)) (by (with_reducible repeat (first|refine bN ?_ _|refine bD ?_|refine bA ?_ _));exact BK249.out) hb);have n4_:=Aside0.mk (below_step (by repeat (first|(with_reducible first|exact HB.out|apply below_alloc|apply pw_below_drewN|apply below_drew1|refine below_set ?_ GE246.out|refine below_set ?_ GE247.out|refine below_set ?_ GE248.out|refine below_set ?_ GE249.out)|exact HB.out)) hb);have n5_:=Aside0.mk (hbox);have n6_:=Aside0.mk ((by rw [hg];exact (below_size (by repeat (first|(with_reducible first|exact HB.out|apply below_alloc|apply pw_below_drewN|apply below_drew1|refine below_set ?_ GE246.out|refine below_set ?_ GE247.out|refine below_set ?_ GE248.out|refine below_set ?_ GE249.out)|exact HB.out))) : w.heap.size ≤ gb261));have n7_:=Aside0.mk ((by rw [hg];exact (below_size (by repeat (first|(with_reducible first|exact HB.out|apply below_alloc|apply pw_below_drewN|apply below_drew1|refine below_set ?_ GE246.out|refine below_set ?_ GE247.out|refine below_set ?_ GE248.out|refine below_set ?_ GE249.out)|exact HB.out))) : w.heap.size ≤ gb261));have n8_:=Aside0.mk ((by rw [hg];exact Nat.ne_of_lt (blk_lt (g:=gb246) (o:=.cells #[.string t243,.int .u64 t244,.int .u8 t245] 39 (0,0)) (by (with_reducible repeat (first|refine bN ?_ _|refine bD ?_|refine bA ?_ _));exact BK246.out)) : gb246 ≠ gb261));have n9_:=Aside0.mk ((by rw [hg];exact Nat.ne_of_gt (blk_lt (g:=gb246) (o:=.cells #[.string t243,.int .u64 t244,.int .u8 t245] 39 (0,0)) (by (with_reducible repeat (first|refine bN ?_ _|refine bD ?_|refine bA ?_ _));exact BK246.out)) : gb261 ≠ gb246));have n10_:=Aside0.mk ((by rw [hg];exact Nat.ne_of_lt (blk_lt (g:=gb247) (o:=.cells #[.string (((a0 ++ (⟨#[120]⟩ : ByteArray)).extract 0 ((ji10) : Int).toNat) ++ (strOfNums y250)),.int .u64 t244,.int .u8 t245] 39 (0,0)) (by (with_reducible repeat (first|refine bN ?_ _|refine bD ?_|refine bA ?_ _));exact BK247.out)) : gb247 ≠ gb261));have n11_:=Aside0.mk ((by rw [hg];exact Nat.ne_of_gt (blk_lt (g:=gb247) (o:=.cells #[.string (((a0 ++ (⟨#[120]⟩ : ByteArray)).extract 0 ((ji10) : Int).toNat) ++ (strOfNums y250)),.int .u64 t244,.int .u8 t245] 39 (0,0)) (by (with_reducible repeat (first|refine bN ?_ _|refine bD ?_|refine bA ?_ _));exact BK247.out)) : gb261 ≠ gb247));have n12_:=Aside0.mk ((by rw [hg];exact Nat.ne_of_lt (blk_lt (g:=gb248) (o:=.cells #[.string t243,.int .u64 ji22,.int .u8 t245] 39 (0,0)) (by (with_reducible repeat (first|refine bN ?_ _|refine bD ?_|refine bA ?_ _));exact BK248.out)) : gb248 ≠ gb261));have n13_:=Aside0.mk ((by rw [hg];exact Nat.ne_of_gt (blk_lt (g:=gb248) (o:=.cells #[.string t243,.int .u64 ji22,.int .u8 t245] 39 (0,0)) (by (with_reducible repeat (first|refine bN ?_ _|refine bD ?_|refine bA ?_ _));exact BK248.out)) : gb261 ≠ gb248));have n14_:=Aside0.mk ((by rw [hg];exact Nat.ne_of_lt (blk_lt (g:=gb249) (o:=.cells #[.string t243,.int .u64 t244,.int .u8 2] 39 (0,0)) (by (with_reducible repeat (first|refine bN ?_ _|refine bD ?_|refine bA ?_ _));exact BK249.out)) : gb249 ≠ gb261));have n15_:=Aside0.mk ((by rw [hg];exact Nat.ne_of_gt (blk_lt (g:=gb249) (o:=.cells #[.string t243,.int .u64 t244,.int .u8 2] 39 (0,0)) (by (with_reducible repeat (first|refine bN ?_ _|refine bD ?_|refine bA ?_ _));exact BK249.out)) : gb261 ≠ gb249));clear BK246;clear BK247;clear BK248;clear BK249;clear HB;have BK246:=n0_;have BK247:=n1_;have BK248:=n2_;have BK249:=n3_;have HB:=n4_;have BK261:=n5_;have GW261:=n6_;have GE261:=n7_;have NB246_261:=n8_;have NB261_246:=n9_;have NB247_261:=n10_;have NB261_247:=n11_;have NB248_261:=n12_;have NB261_248:=n13_;have NB249_261:=n14_;have NB261_249:=n15_;clear n0_ n1_ n2_ n3_ n4_ n5_ n6_ n7_ n8_ n9_ n10_ n11_ n12_ n13_ n14_ n15_;clear hb hbox hg;have hnb143:=NB261_246.out;have hnc143:=NB246_261.out;have hnb144:=NB261_247.out;have hnc144:=NB247_261.out;have hnb145:=NB261_248.out;have hnc145:=NB248_261.out;have hnb146:=NB261_249.out;have hnc146:=NB249_261.out;have hcz147_0 : w142.cell? ⟨gb261,0,none⟩ = some (.string (⟨#[]⟩ : ByteArray)):=(blk_cell BK261.out 0).trans rfl;have hcz147_1 : w142.cell? ⟨gb261,1,none⟩ = some (.int .u64 0):=(blk_cell BK261.out 1).trans rfl;have hcz147_2 : w142.cell? ⟨gb261,2,none⟩ = some (.int .u8 0):=(blk_cell BK261.out 2).trans rfl;have hfz147_0:=blk_frozen BK261.out 0;have hfz147_1:=blk_frozen BK261.out 1;have hfz147_2:=blk_frozen BK261.out 2))
                       have n0_ : Aside0 (((((w142.setCell ⟨gb261,0,none⟩ (.string t243)).setCell ⟨gb261,1,none⟩ (.int .u64 t244)).setCell ⟨gb261,2,none⟩ (.int .u8 t245)).setCell ⟨gb261,2,none⟩ (.int .u8 0)).heap[gb246]? = some (.cells #[.string t243,.int .u64 t244,.int .u8 t245] 39 (0,0))):=⟨by (with_reducible repeat (first|refine bN ?_ _|refine bD ?_|refine bA ?_ _));refine blk_far ?_ NB246_261.out _;(with_reducible repeat (first|refine bN ?_ _|refine bD ?_|refine bA ?_ _));refine blk_far ?_ NB246_261.out _;(with_reducible repeat (first|refine bN ?_ _|refine bD ?_|refine bA ?_ _));refine blk_far ?_ NB246_261.out _;(with_reducible repeat (first|refine bN ?_ _|refine bD ?_|refine bA ?_ _));refine blk_far ?_ NB246_261.out _;(with_reducible repeat (first|refine bN ?_ _|refine bD ?_|refine bA ?_ _));exact BK246.out⟩
                       have n1_ : Aside0 (((((w142.setCell ⟨gb261,0,none⟩ (.string t243)).setCell ⟨gb261,1,none⟩ (.int .u64 t244)).setCell ⟨gb261,2,none⟩ (.int .u8 t245)).setCell ⟨gb261,2,none⟩ (.int .u8 0)).heap[gb247]? = some (.cells #[.string (((a0 ++ (⟨#[120]⟩ : ByteArray)).extract 0 ((ji10) : Int).toNat) ++ (strOfNums y250)),.int .u64 t244,.int .u8 t245] 39 (0,0))):=⟨by (with_reducible repeat (first|refine bN ?_ _|refine bD ?_|refine bA ?_ _));refine blk_far ?_ NB247_261.out _;(with_reducible repeat (first|refine bN ?_ _|refine bD ?_|refine bA ?_ _));refine blk_far ?_ NB247_261.out _;(with_reducible repeat (first|refine bN ?_ _|refine bD ?_|refine bA ?_ _));refine blk_far ?_ NB247_261.out _;(with_reducible repeat (first|refine bN ?_ _|refine bD ?_|refine bA ?_ _));refine blk_far ?_ NB247_261.out _;(with_reducible repeat (first|refine bN ?_ _|refine bD ?_|refine bA ?_ _));exact BK247.out⟩
                       have n2_ : Aside0 (((((w142.setCell ⟨gb261,0,none⟩ (.string t243)).setCell ⟨gb261,1,none⟩ (.int .u64 t244)).setCell ⟨gb261,2,none⟩ (.int .u8 t245)).setCell ⟨gb261,2,none⟩ (.int .u8 0)).heap[gb248]? = some (.cells #[.string t243,.int .u64 ji22,.int .u8 t245] 39 (0,0))):=⟨by (with_reducible repeat (first|refine bN ?_ _|refine bD ?_|refine bA ?_ _));refine blk_far ?_ NB248_261.out _;(with_reducible repeat (first|refine bN ?_ _|refine bD ?_|refine bA ?_ _));refine blk_far ?_ NB248_261.out _;(with_reducible repeat (first|refine bN ?_ _|refine bD ?_|refine bA ?_ _));refine blk_far ?_ NB248_261.out _;(with_reducible repeat (first|refine bN ?_ _|refine bD ?_|refine bA ?_ _));refine blk_far ?_ NB248_261.out _;(with_reducible repeat (first|refine bN ?_ _|refine bD ?_|refine bA ?_ _));exact BK248.out⟩
                       have n3_ : Aside0 (((((w142.setCell ⟨gb261,0,none⟩ (.string t243)).setCell ⟨gb261,1,none⟩ (.int .u64 t244)).setCell ⟨gb261,2,none⟩ (.int .u8 t245)).setCell ⟨gb261,2,none⟩ (.int .u8 0)).heap[gb249]? = some (.cells #[.string t243,.int .u64 t244,.int .u8 2] 39 (0,0))):=⟨by (with_reducible repeat (first|refine bN ?_ _|refine bD ?_|refine bA ?_ _));refine blk_far ?_ NB249_261.out _;(with_reducible repeat (first|refine bN ?_ _|refine bD ?_|refine bA ?_ _));refine blk_far ?_ NB249_261.out _;(with_reducible repeat (first|refine bN ?_ _|refine bD ?_|refine bA ?_ _));refine blk_far ?_ NB249_261.out _;(with_reducible repeat (first|refine bN ?_ _|refine bD ?_|refine bA ?_ _));refine blk_far ?_ NB249_261.out _;(with_reducible repeat (first|refine bN ?_ _|refine bD ?_|refine bA ?_ _));exact BK249.out⟩
                       have n4_ : Aside0 (((((w142.setCell ⟨gb261,0,none⟩ (.string t243)).setCell ⟨gb261,1,none⟩ (.int .u64 t244)).setCell ⟨gb261,2,none⟩ (.int .u8 t245)).setCell ⟨gb261,2,none⟩ (.int .u8 0)).heap[gb261]? = some (.cells #[.string t243,.int .u64 t244,.int .u8 0] 39 (0,0))):=⟨by (with_reducible repeat (first|refine bN ?_ _|refine bD ?_|refine bA ?_ _));refine blk_put (cs:=#[.string t243,.int .u64 t244,.int .u8 t245]) ?_ 2 _ rfl;(with_reducible repeat (first|refine bN ?_ _|refine bD ?_|refine bA ?_ _));refine blk_put (cs:=#[.string t243,.int .u64 t244,.int .u8 0]) ?_ 2 _ rfl;(with_reducible repeat (first|refine bN ?_ _|refine bD ?_|refine bA ?_ _));refine blk_put (cs:=#[.string t243,.int .u64 0,.int .u8 0]) ?_ 1 _ rfl;(with_reducible repeat (first|refine bN ?_ _|refine bD ?_|refine bA ?_ _));refine blk_put (cs:=#[.string (⟨#[]⟩ : ByteArray),.int .u64 0,.int .u8 0]) ?_ 0 _ rfl;(with_reducible repeat (first|refine bN ?_ _|refine bD ?_|refine bA ?_ _));exact BK261.out⟩
                       have n5_ : Aside0 (Below w.heap.size w ((((w142.setCell ⟨gb261,0,none⟩ (.string t243)).setCell ⟨gb261,1,none⟩ (.int .u64 t244)).setCell ⟨gb261,2,none⟩ (.int .u8 t245)).setCell ⟨gb261,2,none⟩ (.int .u8 0))):=⟨by repeat (first|(with_reducible first|exact HB.out|apply below_alloc|apply pw_below_drewN|apply below_drew1|refine below_set ?_ GE246.out|refine below_set ?_ GE247.out|refine below_set ?_ GE248.out|refine below_set ?_ GE249.out|refine below_set ?_ GE261.out)|exact HB.out)⟩
                       (try clear BK246)
                       (try clear BK247)
                       (try clear BK248)
                       (try clear BK249)
                       (try clear BK261)
                       (try clear HB)
                       generalize ((((w142.setCell ⟨gb261,0,none⟩ (.string t243)).setCell ⟨gb261,1,none⟩ (.int .u64 t244)).setCell ⟨gb261,2,none⟩ (.int .u8 t245)).setCell ⟨gb261,2,none⟩ (.int .u8 0)) = w148 at n0_ n1_ n2_ n3_ n4_ n5_ ⊢
                       have BK246:=n0_
                       have BK247:=n1_
                       have BK248:=n2_
                       have BK249:=n3_
                       have BK261:=n4_
                       have HB:=n5_
                       clear n0_ n1_ n2_ n3_ n4_ n5_
                       have n0_:=Aside0.mk (blk_drew BK246.out)
                       have n1_:=Aside0.mk (blk_drew BK247.out)
                       have n2_:=Aside0.mk (blk_drew BK248.out)
                       have n3_:=Aside0.mk (blk_drew BK249.out)
                       have n4_:=Aside0.mk (blk_drew BK261.out)
                       have n5_:=Aside0.mk (below_drew1 HB.out)
                       clear BK246
                       clear BK247
                       clear BK248
                       clear BK249
                       clear BK261
                       clear HB
                       have BK246:=n0_
                       have BK247:=n1_
                       have BK248:=n2_
                       have BK249:=n3_
                       have BK261:=n4_
                       have HB:=n5_
                       clear n0_ n1_ n2_ n3_ n4_ n5_
                       refine start_ (n:=41) (S:=fun w' => w'.cell? ⟨gb246,0,none⟩ = some (.string t243) ∧ w'.cell? ⟨gb246,1,none⟩ = some (.int .u64 t244) ∧ w'.cell? ⟨gb246,2,none⟩ = some (.int .u8 t245) ∧ w'.cell? ⟨gb261,0,none⟩ = some (.string t243) ∧ w'.cell? ⟨gb261,1,none⟩ = some (.int .u64 t244) ∧ w'.cell? ⟨gb261,2,none⟩ = some (.int .u8 0) ∧ w'.cell? ⟨gb247,0,none⟩ = some (.string (((a0 ++ (⟨#[120]⟩ : ByteArray)).extract 0 ((ji10) : Int).toNat) ++ (strOfNums y250))) ∧ w'.cell? ⟨gb247,1,none⟩ = some (.int .u64 t244) ∧ w'.cell? ⟨gb247,2,none⟩ = some (.int .u8 t245)) (ds:=[]) #[false,false,false,false,false,false,false,false,false,false,false,false,false,false,false,false,false,false,false,false,false,false,false,false,false,false,false,false,false,false,false,false,false,false,false,false,false,false,false,false,false] (by kernel_rfl) rfl rfl ⟨(blk_cell BK246.out 0).trans rfl,(blk_cell BK246.out 1).trans rfl,(blk_cell BK246.out 2).trans rfl,(blk_cell BK261.out 0).trans rfl,(blk_cell BK261.out 1).trans rfl,(blk_cell BK261.out 2).trans rfl,(blk_cell BK247.out 0).trans rfl,(blk_cell BK247.out 1).trans rfl,(blk_cell BK247.out 2).trans rfl⟩ (fun hHeld => ?_);refine with_tabW ratlinelaw03_IkeyRight.tab13 ratlinelaw03_IkeyRight.bits13 (fun HT_ HW_ => ?_)
                       generalize w148.drew = w149 at BK246 BK247 BK248 BK249 BK261 HB hHeld ⊢
                       refine pure_ (i:=1) (N:=some 76) (v:=?_) (a':=?_) #[false,true,false,false,false,false,false,false,false,false,false,false,false,false,false,false,false,false,false,false,false,false,false,false,false,false,false,false,false,false,false,false,false,false,false,false,false,false,false,false,false] rfl rfl (any_of HT_.out (by kernel_rfl)) (fun _ _ _ h => h) (Or.inl ⟨by rfl,?_⟩) ?_ ?_
                       rotate_left
                       ·intro w'
                        go_simp
                        (try simp only [hji18m,hji125m,hji18mw,hji125mw])
                        with_reducible rfl
                       rotate_left
                       ·simp only [Act.put,sA,sZ,sS,i64_w,i32_w]
                        rfl
                       refine take_ (i:=0) (N:=some 75) (v:=?_) (a':=?_) #[true,true,false,false,false,false,false,false,false,false,false,false,false,false,false,false,false,false,false,false,false,false,false,false,false,false,false,false,false,false,false,false,false,false,false,false,false,false,false,false,false] rfl rfl (take_ofW HT_.out HW_.out (by kernel_rfl)) (fun _ _ _ h => h) (Or.inl ⟨by rfl,?_⟩) hHeld ?_ ?_
                       rotate_left
                       ·rintro w' ⟨s0,s1,s2,s3,s4,s5,s6,s7,s8⟩
                        go_simp
                        with_reducible rfl
                       rotate_left
                       ·simp only [Act.put,sA,sZ,sS,i64_w,i32_w]
                        rfl
                       refine pure_ (i:=2) (N:=some 77) (v:=?_) (a':=?_) #[true,true,true,false,false,false,false,false,false,false,false,false,false,false,false,false,false,false,false,false,false,false,false,false,false,false,false,false,false,false,false,false,false,false,false,false,false,false,false,false,false] rfl rfl (any_of HT_.out (by kernel_rfl)) (fun _ _ _ h => h) (Or.inl ⟨by rfl,?_⟩) ?_ ?_
                       rotate_left
                       ·intro w'
                        go_simp
                        (try simp only [hji18m,hji125m,hji18mw,hji125mw])
                        with_reducible rfl
                       rotate_left
                       ·simp only [Act.put,sA,sZ,sS,i64_w,i32_w]
                        rfl
                       refine one_ (i:=3) (N:=some 78) #[true,true,true,true,false,false,false,false,false,false,false,false,false,false,false,false,false,false,false,false,false,false,false,false,false,false,false,false,false,false,false,false,false,false,false,false,false,false,false,false,false] rfl rfl (one_of HT_.out (by kernel_rfl)) (by decide) (fun K hK => ?_)
                       refine goes_ Try.func34 (by kernel_rfl) rfl #[.agg #[.string t243,.int .u64 t244,.int .u8 t245,.string (a2.extract 0 ((ji13) : Int).toNat)]] (by rfl) rfl rfl (by (try simp only [List.map_toArray,List.map_cons,List.map_nil]);first|done|(simp only [hji13];rfl)|rfl|(simp only [List.length_drop,List.length_take];rfl)) ?_
                       with_reducible refine (ikey_Entry.calls t243 t244 t245 (a2.extract 0 ((ji13) : Int).toNat) true _ A123.out).mono ?_
                       rintro e w150 ⟨rfl,hb⟩
                       refine ⟨_,rfl,?_⟩
                       have n0_:=Aside0.mk (blk_below (g:=gb246) (o:=.cells #[.string t243,.int .u64 t244,.int .u8 t245] 39 (0,0)) (by (with_reducible repeat (first|refine bN ?_ _|refine bD ?_|refine bA ?_ _));exact BK246.out) hb)
                       have n1_:=Aside0.mk (blk_below (g:=gb247) (o:=.cells #[.string (((a0 ++ (⟨#[120]⟩ : ByteArray)).extract 0 ((ji10) : Int).toNat) ++ (strOfNums y250)),.int .u64 t244,.int .u8 t245] 39 (0,0)) (by (with_reducible repeat (first|refine bN ?_ _|refine bD ?_|refine bA ?_ _));exact BK247.out) hb)
                       have n2_:=Aside0.mk (blk_below (g:=gb248) (o:=.cells #[.string t243,.int .u64 ji22,.int .u8 t245] 39 (0,0)) (by (with_reducible repeat (first|refine bN ?_ _|refine bD ?_|refine bA ?_ _));exact BK248.out) hb)
                       have n3_:=Aside0.mk (blk_below (g:=gb249) (o:=.cells #[.string t243,.int .u64 t244,.int .u8 2] 39 (0,0)) (by (with_reducible repeat (first|refine bN ?_ _|refine bD ?_|refine bA ?_ _));exact BK249.out) hb)
                       have n4_:=Aside0.mk (blk_below (g:=gb261) (o:=.cells #[.string t243,.int .u64 t244,.int .u8 0] 39 (0,0)) (by (with_reducible repeat (first|refine bN ?_ _|refine bD ?_|refine bA ?_ _));exact BK261.out) hb)
                       have n5_:=Aside0.mk (below_step (by repeat (first|(with_reducible first|exact HB.out|apply below_alloc|apply pw_below_drewN|apply below_drew1|refine below_set ?_ GE246.out|refine below_set ?_ GE247.out|refine below_set ?_ GE248.out|refine below_set ?_ GE249.out|refine below_set ?_ GE261.out)|exact HB.out)) hb)
                       clear BK246
                       clear BK247
                       clear BK248
                       clear BK249
                       clear BK261
                       clear HB
                       have BK246:=n0_
                       have BK247:=n1_
                       have BK248:=n2_
                       have BK249:=n3_
                       have BK261:=n4_
                       have HB:=n5_
                       clear n0_ n1_ n2_ n3_ n4_ n5_
                       (try clear hb)
                       (try clear hb2)
                       (try clear hk)
                       (try clear hi)
                       refine hK.out _ _ ⟨(blk_cell BK246.out 0).trans rfl,(blk_cell BK246.out 1).trans rfl,(blk_cell BK246.out 2).trans rfl,(blk_cell BK261.out 0).trans rfl,(blk_cell BK261.out 1).trans rfl,(blk_cell BK261.out 2).trans rfl,(blk_cell BK247.out 0).trans rfl,(blk_cell BK247.out 1).trans rfl,(blk_cell BK247.out 2).trans rfl⟩ (fun hHeld => ?_)
                       clear hK K
                       refine norm_ (a':=?_) ?_ ?_
                       rotate_left
                       ·show Act.put _ (some 78) _ = _
                        simp only [Act.put,sA,sZ,sS,i64_w,i32_w]
                        rfl
                       refine pure_ (i:=4) (N:=some 79) (v:=?_) (a':=?_) #[true,true,true,true,true,false,false,false,false,false,false,false,false,false,false,false,false,false,false,false,false,false,false,false,false,false,false,false,false,false,false,false,false,false,false,false,false,false,false,false,false] rfl rfl (any_of HT_.out (by kernel_rfl)) (fun _ _ _ h => h) (Or.inl ⟨by rfl,?_⟩) ?_ ?_
                       rotate_left
                       ·intro w'
                        go_simp
                        (try simp only [hji18m,hji125m,hji18mw,hji125mw])
                        with_reducible rfl
                       rotate_left
                       ·simp only [Act.put,sA,sZ,sS,i64_w,i32_w]
                        rfl
                       refine pure_ (i:=6) (N:=some 81) (v:=?_) (a':=?_) #[true,true,true,true,true,false,true,false,false,false,false,false,false,false,false,false,false,false,false,false,false,false,false,false,false,false,false,false,false,false,false,false,false,false,false,false,false,false,false,false,false] rfl rfl (any_of HT_.out (by kernel_rfl)) (fun _ _ _ h => h) (Or.inl ⟨by rfl,?_⟩) ?_ ?_
                       rotate_left
                       ·intro w'
                        go_simp
                        (try simp only [hji18m,hji125m,hji18mw,hji125mw])
                        with_reducible rfl
                       rotate_left
                       ·simp only [Act.put,sA,sZ,sS,i64_w,i32_w]
                        rfl
                       refine pure_ (i:=7) (N:=some 82) (v:=?_) (a':=?_) #[true,true,true,true,true,false,true,true,false,false,false,false,false,false,false,false,false,false,false,false,false,false,false,false,false,false,false,false,false,false,false,false,false,false,false,false,false,false,false,false,false] rfl rfl (any_of HT_.out (by kernel_rfl)) (fun _ _ _ h => h) (Or.inl ⟨by rfl,?_⟩) ?_ ?_
                       rotate_left
                       ·intro w'
                        go_simp
                        (try simp only [hji18m,hji125m,hji18mw,hji125mw])
                        with_reducible rfl
                       rotate_left
                       ·simp only [Act.put,sA,sZ,sS,i64_w,i32_w]
                        rfl
                       refine pure_ (i:=8) (N:=some 83) (v:=?_) (a':=?_) #[true,true,true,true,true,false,true,true,true,false,false,false,false,false,false,false,false,false,false,false,false,false,false,false,false,false,false,false,false,false,false,false,false,false,false,false,false,false,false,false,false] rfl rfl (any_of HT_.out (by kernel_rfl)) (fun _ _ _ h => h) (Or.inl ⟨by rfl,?_⟩) ?_ ?_
                       rotate_left
                       ·intro w'
                        go_simp
                        (try simp only [hji18m,hji125m,hji18mw,hji125mw])
                        with_reducible rfl
                       rotate_left
                       ·simp only [Act.put,sA,sZ,sS,i64_w,i32_w]
                        rfl
                       refine pure_ (i:=9) (N:=some 84) (v:=?_) (a':=?_) #[true,true,true,true,true,false,true,true,true,true,false,false,false,false,false,false,false,false,false,false,false,false,false,false,false,false,false,false,false,false,false,false,false,false,false,false,false,false,false,false,false] rfl rfl (any_of HT_.out (by kernel_rfl)) (fun _ _ _ h => h) (Or.inl ⟨by rfl,?_⟩) ?_ ?_
                       rotate_left
                       ·intro w'
                        go_simp
                        (try simp only [hji18m,hji125m,hji18mw,hji125mw])
                        with_reducible rfl
                       rotate_left
                       ·simp only [Act.put,sA,sZ,sS,i64_w,i32_w]
                        rfl
                       refine take_ (i:=5) (N:=some 80) (v:=?_) (a':=?_) #[true,true,true,true,true,true,true,true,true,true,false,false,false,false,false,false,false,false,false,false,false,false,false,false,false,false,false,false,false,false,false,false,false,false,false,false,false,false,false,false,false] rfl rfl (take_ofW HT_.out HW_.out (by kernel_rfl)) (fun _ _ _ h => h) (Or.inl ⟨by rfl,?_⟩) hHeld ?_ ?_
                       rotate_left
                       ·rintro w' ⟨s0,s1,s2,s3,s4,s5,s6,s7,s8⟩
                        go_simp
                        with_reducible rfl
                       rotate_left
                       ·simp only [Act.put,sA,sZ,sS,i64_w,i32_w]
                        rfl
                       refine one_ (i:=10) (N:=some 85) #[true,true,true,true,true,true,true,true,true,true,true,false,false,false,false,false,false,false,false,false,false,false,false,false,false,false,false,false,false,false,false,false,false,false,false,false,false,false,false,false,false] rfl rfl (one_of HT_.out (by kernel_rfl)) (by decide) (fun K hK => ?_)
                       refine Kd.R_make_step (Kd.int .u8) _ 5 (by rfl) (N:=85) rfl 44 _ _ rfl ji125 rfl rfl Try.underlying44 (.int .u8 0) 1 info5 rfl (by decide) (by omega) 0 (ok:=fun _ => True) (okp:=fun _ => True) rfl (fun _ hk => hk) trivial (of_decide_eq_true (by first|(with_reducible assumption)|assumption)) (Nat.le_trans (Nat.mul_le_mul_right _ (of_decide_eq_true (by first|(with_reducible assumption)|assumption) : ji125.toNat ≤ 281474976710656)) (by omega)) (Below.refl _ _) (Nat.le_refl _) ?_
                       intro v264 w151 ho152 hb hg_ hnew_
                       clear hg_ hnew_
                       (first|rw [← Ny263.out] at ho152|(simp only [Int.reduceToNat] at ho152;rw [← Ny263.out] at ho152))
                       have n0_:=Aside0.mk (Kd.R_lower ho152 (below_size (by repeat (first|(with_reducible first|exact HB.out|apply below_alloc|apply pw_below_drewN|apply below_drew1|refine below_set ?_ GE246.out|refine below_set ?_ GE247.out|refine below_set ?_ GE248.out|refine below_set ?_ GE249.out|refine below_set ?_ GE261.out)|exact HB.out))))
                       have n1_:=Aside0.mk (blk_below (g:=gb246) (o:=.cells #[.string t243,.int .u64 t244,.int .u8 t245] 39 (0,0)) (by (with_reducible repeat (first|refine bN ?_ _|refine bD ?_|refine bA ?_ _));exact BK246.out) hb)
                       have n2_:=Aside0.mk (blk_below (g:=gb247) (o:=.cells #[.string (((a0 ++ (⟨#[120]⟩ : ByteArray)).extract 0 ((ji10) : Int).toNat) ++ (strOfNums y250)),.int .u64 t244,.int .u8 t245] 39 (0,0)) (by (with_reducible repeat (first|refine bN ?_ _|refine bD ?_|refine bA ?_ _));exact BK247.out) hb)
                       have n3_:=Aside0.mk (blk_below (g:=gb248) (o:=.cells #[.string t243,.int .u64 ji22,.int .u8 t245] 39 (0,0)) (by (with_reducible repeat (first|refine bN ?_ _|refine bD ?_|refine bA ?_ _));exact BK248.out) hb)
                       have n4_:=Aside0.mk (blk_below (g:=gb249) (o:=.cells #[.string t243,.int .u64 t244,.int .u8 2] 39 (0,0)) (by (with_reducible repeat (first|refine bN ?_ _|refine bD ?_|refine bA ?_ _));exact BK249.out) hb)
                       have n5_:=Aside0.mk (blk_below (g:=gb261) (o:=.cells #[.string t243,.int .u64 t244,.int .u8 0] 39 (0,0)) (by (with_reducible repeat (first|refine bN ?_ _|refine bD ?_|refine bA ?_ _));exact BK261.out) hb)
                       have n6_:=Aside0.mk (below_step (by repeat (first|(with_reducible first|exact HB.out|apply below_alloc|apply pw_below_drewN|apply below_drew1|refine below_set ?_ GE246.out|refine below_set ?_ GE247.out|refine below_set ?_ GE248.out|refine below_set ?_ GE249.out|refine below_set ?_ GE261.out)|exact HB.out)) hb)
                       clear BK246
                       clear BK247
                       clear BK248
                       clear BK249
                       clear BK261
                       clear HB
                       have HO265:=n0_
                       have BK246:=n1_
                       have BK247:=n2_
                       have BK248:=n3_
                       have BK249:=n4_
                       have BK261:=n5_
                       have HB:=n6_
                       clear n0_ n1_ n2_ n3_ n4_ n5_ n6_
                       clear hb ho152
                       refine hK.out _ _ ⟨(blk_cell BK246.out 0).trans rfl,(blk_cell BK246.out 1).trans rfl,(blk_cell BK246.out 2).trans rfl,(blk_cell BK261.out 0).trans rfl,(blk_cell BK261.out 1).trans rfl,(blk_cell BK261.out 2).trans rfl,(blk_cell BK247.out 0).trans rfl,(blk_cell BK247.out 1).trans rfl,(blk_cell BK247.out 2).trans rfl⟩ (fun hHeld => ?_)
                       clear hK K
                       refine norm_ (a':=?_) ?_ ?_
                       rotate_left
                       ·show Act.put _ (some 85) _ = _
                        simp only [Act.put,sA,sZ,sS,i64_w,i32_w]
                        rfl
                       refine one_ (i:=11) (N:=some 86) #[true,true,true,true,true,true,true,true,true,true,true,true,false,false,false,false,false,false,false,false,false,false,false,false,false,false,false,false,false,false,false,false,false,false,false,false,false,false,false,false,false] rfl rfl (one_of HT_.out (by kernel_rfl)) (by decide) (fun K hK => ?_)
                       have hcv153:=own_string (P:=Try.prog) Try.underlying44 Try.underlying5 Try.underlying9 (Kd.own_of_R HO265.out)
                       refine value_ (w1:=?_) (v:=?_) (by rfl) rfl ?_ ?_
                       rotate_left 2
                       ·go_simp
                        constructor
                        ·rfl
                        ·rfl
                       clear hcv153
                       refine hK.out _ _ ⟨(blk_cell BK246.out 0).trans rfl,(blk_cell BK246.out 1).trans rfl,(blk_cell BK246.out 2).trans rfl,(blk_cell BK261.out 0).trans rfl,(blk_cell BK261.out 1).trans rfl,(blk_cell BK261.out 2).trans rfl,(blk_cell BK247.out 0).trans rfl,(blk_cell BK247.out 1).trans rfl,(blk_cell BK247.out 2).trans rfl⟩ (fun hHeld => ?_)
                       clear hK K
                       refine norm_ (a':=?_) ?_ ?_
                       rotate_left
                       ·show Act.put _ (some 86) _ = _
                        simp only [Act.put,sA,sZ,sS,i64_w,i32_w]
                        rfl
                       refine pure_ (i:=12) (N:=some 87) (v:=?_) (a':=?_) #[true,true,true,true,true,true,true,true,true,true,true,true,true,false,false,false,false,false,false,false,false,false,false,false,false,false,false,false,false,false,false,false,false,false,false,false,false,false,false,false,false] rfl rfl (any_of HT_.out (by kernel_rfl)) (fun _ _ _ h => h) (Or.inl ⟨by rfl,?_⟩) ?_ ?_
                       rotate_left
                       ·intro w'
                        go_simp
                        (try simp only [hji18m,hji125m,hji18mw,hji125mw])
                        with_reducible rfl
                       rotate_left
                       ·simp only [Act.put,sA,sZ,sS,i64_w,i32_w]
                        rfl
                       refine pure_ (i:=13) (N:=some 88) (v:=?_) (a':=?_) #[true,true,true,true,true,true,true,true,true,true,true,true,true,true,false,false,false,false,false,false,false,false,false,false,false,false,false,false,false,false,false,false,false,false,false,false,false,false,false,false,false] rfl rfl (any_of HT_.out (by kernel_rfl)) (fun _ _ _ h => h) (Or.inl ⟨by rfl,?_⟩) ?_ ?_
                       rotate_left
                       ·intro w'
                        go_simp
                        (try simp only [hji18m,hji125m,hji18mw,hji125mw])
                        with_reducible rfl
                       rotate_left
                       ·simp only [Act.put,sA,sZ,sS,i64_w,i32_w]
                        rfl
                       refine one_ (i:=14) (N:=some 89) #[true,true,true,true,true,true,true,true,true,true,true,true,true,true,true,false,false,false,false,false,false,false,false,false,false,false,false,false,false,false,false,false,false,false,false,false,false,false,false,false,false] rfl rfl (one_of HT_.out (by kernel_rfl)) (by decide) (fun K hK => ?_)
                       refine goes_ Try.func34 (by kernel_rfl) rfl #[.agg #[.string t243,.int .u64 t244,.int .u8 t245,.string ((a2.extract 0 ((ji13) : Int).toNat) ++ (strOfNums y263))]] (by rfl) rfl rfl (by (try simp only [List.map_toArray,List.map_cons,List.map_nil]);first|done|(simp only [hji13];rfl)|rfl|(simp only [List.length_drop,List.length_take];rfl)) ?_
                       with_reducible refine (ikey_Entry.calls t243 t244 t245 ((a2.extract 0 ((ji13) : Int).toNat) ++ (strOfNums y263)) false _ A129.out).mono ?_
                       rintro e w154 ⟨rfl,hb⟩
                       refine ⟨_,rfl,?_⟩
                       have n0_:=Aside0.mk (Kd.R_below (by (with_reducible repeat (first|apply zA|apply zN|apply zD));exact HO265.out) hb)
                       have n1_:=Aside0.mk (blk_below (g:=gb246) (o:=.cells #[.string t243,.int .u64 t244,.int .u8 t245] 39 (0,0)) (by (with_reducible repeat (first|refine bN ?_ _|refine bD ?_|refine bA ?_ _));exact BK246.out) hb)
                       have n2_:=Aside0.mk (blk_below (g:=gb247) (o:=.cells #[.string (((a0 ++ (⟨#[120]⟩ : ByteArray)).extract 0 ((ji10) : Int).toNat) ++ (strOfNums y250)),.int .u64 t244,.int .u8 t245] 39 (0,0)) (by (with_reducible repeat (first|refine bN ?_ _|refine bD ?_|refine bA ?_ _));exact BK247.out) hb)
                       have n3_:=Aside0.mk (blk_below (g:=gb248) (o:=.cells #[.string t243,.int .u64 ji22,.int .u8 t245] 39 (0,0)) (by (with_reducible repeat (first|refine bN ?_ _|refine bD ?_|refine bA ?_ _));exact BK248.out) hb)
                       have n4_:=Aside0.mk (blk_below (g:=gb249) (o:=.cells #[.string t243,.int .u64 t244,.int .u8 2] 39 (0,0)) (by (with_reducible repeat (first|refine bN ?_ _|refine bD ?_|refine bA ?_ _));exact BK249.out) hb)
                       have n5_:=Aside0.mk (blk_below (g:=gb261) (o:=.cells #[.string t243,.int .u64 t244,.int .u8 0] 39 (0,0)) (by (with_reducible repeat (first|refine bN ?_ _|refine bD ?_|refine bA ?_ _));exact BK261.out) hb)
                       have n6_:=Aside0.mk (below_step (by repeat (first|(with_reducible first|exact HB.out|apply below_alloc|apply pw_below_drewN|apply below_drew1|refine below_set ?_ GE246.out|refine below_set ?_ GE247.out|refine below_set ?_ GE248.out|refine below_set ?_ GE249.out|refine below_set ?_ GE261.out)|exact HB.out)) hb)
                       clear HO265
                       clear BK246
                       clear BK247
                       clear BK248
                       clear BK249
                       clear BK261
                       clear HB
                       have HO265:=n0_
                       have BK246:=n1_
                       have BK247:=n2_
                       have BK248:=n3_
                       have BK249:=n4_
                       have BK261:=n5_
                       have HB:=n6_
                       clear n0_ n1_ n2_ n3_ n4_ n5_ n6_
                       (try clear hb)
                       (try clear hb2)
                       (try clear hk)
                       (try clear hi)
                       refine hK.out _ _ ⟨(blk_cell BK246.out 0).trans rfl,(blk_cell BK246.out 1).trans rfl,(blk_cell BK246.out 2).trans rfl,(blk_cell BK261.out 0).trans rfl,(blk_cell BK261.out 1).trans rfl,(blk_cell BK261.out 2).trans rfl,(blk_cell BK247.out 0).trans rfl,(blk_cell BK247.out 1).trans rfl,(blk_cell BK247.out 2).trans rfl⟩ (fun hHeld => ?_)
                       clear hK K
                       refine norm_ (a':=?_) ?_ ?_
                       rotate_left
                       ·show Act.put _ (some 89) _ = _
                        simp only [Act.put,sA,sZ,sS,i64_w,i32_w]
                        rfl
                       refine pure_ (i:=15) (N:=some 90) (v:=?_) (a':=?_) #[true,true,true,true,true,true,true,true,true,true,true,true,true,true,true,true,false,false,false,false,false,false,false,false,false,false,false,false,false,false,false,false,false,false,false,false,false,false,false,false,false] rfl rfl (any_of HT_.out (by kernel_rfl)) (fun _ _ _ h => h) (Or.inl ⟨by rfl,?_⟩) ?_ ?_
                       rotate_left
                       ·intro w'
                        go_simp
                        (try simp only [hji18m,hji125m,hji18mw,hji125mw])
                        with_reducible rfl
                       rotate_left
                       ·simp only [Act.put,sA,sZ,sS,i64_w,i32_w]
                        rfl
                       refine pure_ (i:=16) (N:=some 91) (v:=?_) (a':=?_) #[true,true,true,true,true,true,true,true,true,true,true,true,true,true,true,true,true,false,false,false,false,false,false,false,false,false,false,false,false,false,false,false,false,false,false,false,false,false,false,false,false] rfl rfl (any_of HT_.out (by kernel_rfl)) (fun _ _ _ h => h) (Or.inl ⟨by rfl,?_⟩) ?_ ?_
                       rotate_left
                       ·intro w'
                        go_simp
                        (try simp only [hji18m,hji125m,hji18mw,hji125mw])
                        with_reducible rfl
                       rotate_left
                       ·simp only [Act.put,sA,sZ,sS,i64_w,i32_w]
                        rfl
                       refine pure_ (i:=17) (N:=some 92) (v:=?_) (a':=?_) #[true,true,true,true,true,true,true,true,true,true,true,true,true,true,true,true,true,true,false,false,false,false,false,false,false,false,false,false,false,false,false,false,false,false,false,false,false,false,false,false,false] rfl rfl (any_of HT_.out (by kernel_rfl)) (fun _ _ _ h => h) (Or.inl ⟨by rfl,?_⟩) ?_ ?_
                       rotate_left
                       ·intro w'
                        go_simp
                        (try simp only [hji18m,hji125m,hji18mw,hji125mw])
                        with_reducible rfl
                       rotate_left
                       ·simp only [Act.put,sA,sZ,sS,i64_w,i32_w]
                        rfl
                       refine take_ (i:=18) (N:=some 93) (v:=?_) (a':=?_) #[true,true,true,true,true,true,true,true,true,true,true,true,true,true,true,true,true,true,true,false,false,false,false,false,false,false,false,false,false,false,false,false,false,false,false,false,false,false,false,false,false] rfl rfl (take_ofW HT_.out HW_.out (by kernel_rfl)) (fun _ _ _ h => h) (Or.inl ⟨by rfl,?_⟩) hHeld ?_ ?_
                       rotate_left
                       ·rintro w' ⟨s0,s1,s2,s3,s4,s5,s6,s7,s8⟩
                        go_simp
                        with_reducible rfl
                       rotate_left
                       ·simp only [Act.put,sA,sZ,sS,i64_w,i32_w]
                        rfl
                       refine pure_ (i:=19) (N:=some 94) (v:=?_) (a':=?_) #[true,true,true,true,true,true,true,true,true,true,true,true,true,true,true,true,true,true,true,true,false,false,false,false,false,false,false,false,false,false,false,false,false,false,false,false,false,false,false,false,false] rfl rfl (any_of HT_.out (by kernel_rfl)) (fun _ _ _ h => h) (Or.inl ⟨by rfl,?_⟩) ?_ ?_
                       rotate_left
                       ·intro w'
                        go_simp
                        (try simp only [hji18m,hji125m,hji18mw,hji125mw])
                        with_reducible rfl
                       rotate_left
                       ·simp only [Act.put,sA,sZ,sS,i64_w,i32_w]
                        rfl
                       refine one_ (i:=20) (N:=some 95) #[true,true,true,true,true,true,true,true,true,true,true,true,true,true,true,true,true,true,true,true,true,false,false,false,false,false,false,false,false,false,false,false,false,false,false,false,false,false,false,false,false] rfl rfl (one_of HT_.out (by kernel_rfl)) (by decide) (fun K hK => ?_)
                       refine goes_ Try.func34 (by kernel_rfl) rfl #[.agg #[.string t243,.int .u64 t244,.int .u8 0,.string (⟨#[]⟩ : ByteArray)]] (by rfl) rfl rfl (by (try simp only [List.map_toArray,List.map_cons,List.map_nil]);first|done|rfl|(simp only [List.length_drop,List.length_take];rfl)) ?_
                       with_reducible refine (ikey_Entry.calls t243 t244 0 (⟨#[]⟩ : ByteArray) true _ A131.out).mono ?_
                       rintro e w155 ⟨rfl,hb⟩
                       refine ⟨_,rfl,?_⟩
                       have n0_:=Aside0.mk (Kd.R_below (by (with_reducible repeat (first|apply zA|apply zN|apply zD));exact HO265.out) hb)
                       have n1_:=Aside0.mk (blk_below (g:=gb246) (o:=.cells #[.string t243,.int .u64 t244,.int .u8 t245] 39 (0,0)) (by (with_reducible repeat (first|refine bN ?_ _|refine bD ?_|refine bA ?_ _));exact BK246.out) hb)
                       have n2_:=Aside0.mk (blk_below (g:=gb247) (o:=.cells #[.string (((a0 ++ (⟨#[120]⟩ : ByteArray)).extract 0 ((ji10) : Int).toNat) ++ (strOfNums y250)),.int .u64 t244,.int .u8 t245] 39 (0,0)) (by (with_reducible repeat (first|refine bN ?_ _|refine bD ?_|refine bA ?_ _));exact BK247.out) hb)
                       have n3_:=Aside0.mk (blk_below (g:=gb248) (o:=.cells #[.string t243,.int .u64 ji22,.int .u8 t245] 39 (0,0)) (by (with_reducible repeat (first|refine bN ?_ _|refine bD ?_|refine bA ?_ _));exact BK248.out) hb)
                       have n4_:=Aside0.mk (blk_below (g:=gb249) (o:=.cells #[.string t243,.int .u64 t244,.int .u8 2] 39 (0,0)) (by (with_reducible repeat (first|refine bN ?_ _|refine bD ?_|refine bA ?_ _));exact BK249.out) hb)
                       have n5_:=Aside0.mk (blk_below (g:=gb261) (o:=.cells #[.string t243,.int .u64 t244,.int .u8 0] 39 (0,0)) (by (with_reducible repeat (first|refine bN ?_ _|refine bD ?_|refine bA ?_ _));exact BK261.out) hb)
                       have n6_:=Aside0.mk (below_step (by repeat (first|(with_reducible first|exact HB.out|apply below_alloc|apply pw_below_drewN|apply below_drew1|refine below_set ?_ GE246.out|refine below_set ?_ GE247.out|refine below_set ?_ GE248.out|refine below_set ?_ GE249.out|refine below_set ?_ GE261.out)|exact HB.out)) hb)
                       clear HO265
                       clear BK246
                       clear BK247
                       clear BK248
                       clear BK249
                       clear BK261
                       clear HB
                       have HO265:=n0_
                       have BK246:=n1_
                       have BK247:=n2_
                       have BK248:=n3_
                       have BK249:=n4_
                       have BK261:=n5_
                       have HB:=n6_
                       clear n0_ n1_ n2_ n3_ n4_ n5_ n6_
                       (try clear hb)
                       (try clear hb2)
                       (try clear hk)
                       (try clear hi)
                       refine hK.out _ _ ⟨(blk_cell BK246.out 0).trans rfl,(blk_cell BK246.out 1).trans rfl,(blk_cell BK246.out 2).trans rfl,(blk_cell BK261.out 0).trans rfl,(blk_cell BK261.out 1).trans rfl,(blk_cell BK261.out 2).trans rfl,(blk_cell BK247.out 0).trans rfl,(blk_cell BK247.out 1).trans rfl,(blk_cell BK247.out 2).trans rfl⟩ (fun hHeld => ?_)
                       clear hK K
                       refine norm_ (a':=?_) ?_ ?_
                       rotate_left
                       ·show Act.put _ (some 95) _ = _
                        simp only [Act.put,sA,sZ,sS,i64_w,i32_w]
                        rfl
                       refine pure_ (i:=21) (N:=some 96) (v:=?_) (a':=?_) #[true,true,true,true,true,true,true,true,true,true,true,true,true,true,true,true,true,true,true,true,true,true,false,false,false,false,false,false,false,false,false,false,false,false,false,false,false,false,false,false,false] rfl rfl (any_of HT_.out (by kernel_rfl)) (fun _ _ _ h => h) (Or.inl ⟨by rfl,?_⟩) ?_ ?_
                       rotate_left
                       ·intro w'
                        go_simp
                        (try simp only [hji18m,hji125m,hji18mw,hji125mw])
                        with_reducible rfl
                       rotate_left
                       ·simp only [Act.put,sA,sZ,sS,i64_w,i32_w]
                        rfl
                       refine pure_ (i:=22) (N:=some 97) (v:=?_) (a':=?_) #[true,true,true,true,true,true,true,true,true,true,true,true,true,true,true,true,true,true,true,true,true,true,true,false,false,false,false,false,false,false,false,false,false,false,false,false,false,false,false,false,false] rfl rfl (any_of HT_.out (by kernel_rfl)) (fun _ _ _ h => h) (Or.inl ⟨by rfl,?_⟩) ?_ ?_
                       rotate_left
                       ·intro w'
                        go_simp
                        (try simp only [hji18m,hji125m,hji18mw,hji125mw])
                        with_reducible rfl
                       rotate_left
                       ·simp only [Act.put,sA,sZ,sS,i64_w,i32_w]
                        rfl
                       refine pure_ (i:=24) (N:=some 99) (v:=?_) (a':=?_) #[true,true,true,true,true,true,true,true,true,true,true,true,true,true,true,true,true,true,true,true,true,true,true,false,true,false,false,false,false,false,false,false,false,false,false,false,false,false,false,false,false] rfl rfl (any_of HT_.out (by kernel_rfl)) (fun _ _ _ h => h) (Or.inl ⟨by rfl,?_⟩) ?_ ?_
                       rotate_left
                       ·intro w'
                        go_simp
                        (try simp only [hji18m,hji125m,hji18mw,hji125mw])
                        with_reducible rfl
                       rotate_left
                       ·simp only [Act.put,sA,sZ,sS,i64_w,i32_w]
                        rfl
                       refine pure_ (i:=27) (N:=some 102) (v:=?_) (a':=?_) #[true,true,true,true,true,true,true,true,true,true,true,true,true,true,true,true,true,true,true,true,true,true,true,false,true,false,false,true,false,false,false,false,false,false,false,false,false,false,false,false,false] rfl rfl (any_of HT_.out (by kernel_rfl)) (fun _ _ _ h => h) (Or.inl ⟨by rfl,?_⟩) ?_ ?_
                       rotate_left
                       ·intro w'
                        go_simp
                        (try simp only [hji18m,hji125m,hji18mw,hji125mw])
                        with_reducible rfl
                       rotate_left
                       ·simp only [Act.put,sA,sZ,sS,i64_w,i32_w]
                        rfl
                       refine pure_ (i:=28) (N:=some 103) (v:=?_) (a':=?_) #[true,true,true,true,true,true,true,true,true,true,true,true,true,true,true,true,true,true,true,true,true,true,true,false,true,false,false,true,true,false,false,false,false,false,false,false,false,false,false,false,false] rfl rfl (any_of HT_.out (by kernel_rfl)) (fun _ _ _ h => h) (Or.inl ⟨by rfl,?_⟩) ?_ ?_
                       rotate_left
                       ·intro w'
                        go_simp
                        (try simp only [hji18m,hji125m,hji18mw,hji125mw])
                        with_reducible rfl
                       rotate_left
                       ·simp only [Act.put,sA,sZ,sS,i64_w,i32_w]
                        rfl
                       refine take_ (i:=23) (N:=some 98) (v:=?_) (a':=?_) #[true,true,true,true,true,true,true,true,true,true,true,true,true,true,true,true,true,true,true,true,true,true,true,true,true,false,false,true,true,false,false,false,false,false,false,false,false,false,false,false,false] rfl rfl (take_ofW HT_.out HW_.out (by kernel_rfl)) (fun _ _ _ h => h) (Or.inl ⟨by rfl,?_⟩) hHeld ?_ ?_
                       rotate_left
                       ·rintro w' ⟨s0,s1,s2,s3,s4,s5,s6,s7,s8⟩
                        go_simp
                        with_reducible rfl
                       rotate_left
                       ·simp only [Act.put,sA,sZ,sS,i64_w,i32_w]
                        rfl
                       refine pure_ (i:=25) (N:=some 100) (v:=?_) (a':=?_) #[true,true,true,true,true,true,true,true,true,true,true,true,true,true,true,true,true,true,true,true,true,true,true,true,true,true,false,true,true,false,false,false,false,false,false,false,false,false,false,false,false] rfl rfl (any_of HT_.out (by kernel_rfl)) (fun _ _ _ h => h) (Or.inl ⟨by rfl,?_⟩) ?_ ?_
                       rotate_left
                       ·intro w'
                        go_simp
                        (try simp only [hji18m,hji125m,hji18mw,hji125mw])
                        with_reducible rfl
                       rotate_left
                       ·simp only [Act.put,sA,sZ,sS,i64_w,i32_w]
                        rfl
                       refine one_ (i:=26) (N:=some 101) #[true,true,true,true,true,true,true,true,true,true,true,true,true,true,true,true,true,true,true,true,true,true,true,true,true,true,true,true,true,false,false,false,false,false,false,false,false,false,false,false,false] rfl rfl (one_of HT_.out (by kernel_rfl)) (by decide) (fun K hK => ?_)
                       refine goes_ Try.func34 (by kernel_rfl) rfl #[.agg #[.string t243,.int .u64 t244,.int .u8 0,.string (a2.extract 0 ((ji13) : Int).toNat)]] (by rfl) rfl rfl (by (try simp only [List.map_toArray,List.map_cons,List.map_nil]);first|done|(simp only [hji13];rfl)|rfl|(simp only [List.length_drop,List.length_take];rfl)) ?_
                       with_reducible refine (ikey_Entry.calls t243 t244 0 (a2.extract 0 ((ji13) : Int).toNat) t268 _ A133.out).mono ?_
                       rintro e w156 ⟨rfl,hb⟩
                       refine ⟨_,rfl,?_⟩
                       have n0_:=Aside0.mk (Kd.R_below (by (with_reducible repeat (first|apply zA|apply zN|apply zD));exact HO265.out) hb)
                       have n1_:=Aside0.mk (blk_below (g:=gb246) (o:=.cells #[.string t243,.int .u64 t244,.int .u8 t245] 39 (0,0)) (by (with_reducible repeat (first|refine bN ?_ _|refine bD ?_|refine bA ?_ _));exact BK246.out) hb)
                       have n2_:=Aside0.mk (blk_below (g:=gb247) (o:=.cells #[.string (((a0 ++ (⟨#[120]⟩ : ByteArray)).extract 0 ((ji10) : Int).toNat) ++ (strOfNums y250)),.int .u64 t244,.int .u8 t245] 39 (0,0)) (by (with_reducible repeat (first|refine bN ?_ _|refine bD ?_|refine bA ?_ _));exact BK247.out) hb)
                       have n3_:=Aside0.mk (blk_below (g:=gb248) (o:=.cells #[.string t243,.int .u64 ji22,.int .u8 t245] 39 (0,0)) (by (with_reducible repeat (first|refine bN ?_ _|refine bD ?_|refine bA ?_ _));exact BK248.out) hb)
                       have n4_:=Aside0.mk (blk_below (g:=gb249) (o:=.cells #[.string t243,.int .u64 t244,.int .u8 2] 39 (0,0)) (by (with_reducible repeat (first|refine bN ?_ _|refine bD ?_|refine bA ?_ _));exact BK249.out) hb)
                       have n5_:=Aside0.mk (blk_below (g:=gb261) (o:=.cells #[.string t243,.int .u64 t244,.int .u8 0] 39 (0,0)) (by (with_reducible repeat (first|refine bN ?_ _|refine bD ?_|refine bA ?_ _));exact BK261.out) hb)
                       have n6_:=Aside0.mk (below_step (by repeat (first|(with_reducible first|exact HB.out|apply below_alloc|apply pw_below_drewN|apply below_drew1|refine below_set ?_ GE246.out|refine below_set ?_ GE247.out|refine below_set ?_ GE248.out|refine below_set ?_ GE249.out|refine below_set ?_ GE261.out)|exact HB.out)) hb)
                       clear HO265
                       clear BK246
                       clear BK247
                       clear BK248
                       clear BK249
                       clear BK261
                       clear HB
                       have HO265:=n0_
                       have BK246:=n1_
                       have BK247:=n2_
                       have BK248:=n3_
                       have BK249:=n4_
                       have BK261:=n5_
                       have HB:=n6_
                       clear n0_ n1_ n2_ n3_ n4_ n5_ n6_
                       (try clear hb)
                       (try clear hb2)
                       (try clear hk)
                       (try clear hi)
                       refine hK.out _ _ ⟨(blk_cell BK246.out 0).trans rfl,(blk_cell BK246.out 1).trans rfl,(blk_cell BK246.out 2).trans rfl,(blk_cell BK261.out 0).trans rfl,(blk_cell BK261.out 1).trans rfl,(blk_cell BK261.out 2).trans rfl,(blk_cell BK247.out 0).trans rfl,(blk_cell BK247.out 1).trans rfl,(blk_cell BK247.out 2).trans rfl⟩ (fun hHeld => ?_)
                       clear hK K
                       refine norm_ (a':=?_) ?_ ?_
                       rotate_left
                       ·show Act.put _ (some 101) _ = _
                        simp only [Act.put,sA,sZ,sS,i64_w,i32_w]
                        rfl
                       refine pure_ (i:=29) (N:=some 104) (v:=?_) (a':=?_) #[true,true,true,true,true,true,true,true,true,true,true,true,true,true,true,true,true,true,true,true,true,true,true,true,true,true,true,true,true,true,false,false,false,false,false,false,false,false,false,false,false] rfl rfl (any_of HT_.out (by kernel_rfl)) (fun _ _ _ h => h) (Or.inl ⟨by rfl,?_⟩) ?_ ?_
                       rotate_left
                       ·intro w'
                        go_simp
                        (try simp only [hji18m,hji125m,hji18mw,hji125mw])
                        with_reducible rfl
                       rotate_left
                       ·simp only [Act.put,sA,sZ,sS,i64_w,i32_w]
                        rfl
                       refine pure_ (i:=30) (N:=some 105) (v:=?_) (a':=?_) #[true,true,true,true,true,true,true,true,true,true,true,true,true,true,true,true,true,true,true,true,true,true,true,true,true,true,true,true,true,true,true,false,false,false,false,false,false,false,false,false,false] rfl rfl (any_of HT_.out (by kernel_rfl)) (fun _ _ _ h => h) (Or.inl ⟨by rfl,?_⟩) ?_ ?_
                       rotate_left
                       ·intro w'
                        go_simp
                        (try simp only [hji18m,hji125m,hji18mw,hji125mw])
                        with_reducible rfl
                       rotate_left
                       ·simp only [Act.put,sA,sZ,sS,i64_w,i32_w]
                        rfl
                       refine pure_ (i:=31) (N:=some 106) (v:=?_) (a':=?_) #[true,true,true,true,true,true,true,true,true,true,true,true,true,true,true,true,true,true,true,true,true,true,true,true,true,true,true,true,true,true,true,true,false,false,false,false,false,false,false,false,false] rfl rfl (any_of HT_.out (by kernel_rfl)) (fun _ _ _ h => h) (Or.inl ⟨by rfl,?_⟩) ?_ ?_
                       rotate_left
                       ·intro w'
                        go_simp
                        (try simp only [hji18m,hji125m,hji18mw,hji125mw])
                        with_reducible rfl
                       rotate_left
                       ·simp only [Act.put,sA,sZ,sS,i64_w,i32_w]
                        rfl
                       refine take_ (i:=32) (N:=some 107) (v:=?_) (a':=?_) #[true,true,true,true,true,true,true,true,true,true,true,true,true,true,true,true,true,true,true,true,true,true,true,true,true,true,true,true,true,true,true,true,true,false,false,false,false,false,false,false,false] rfl rfl (take_ofW HT_.out HW_.out (by kernel_rfl)) (fun _ _ _ h => h) (Or.inl ⟨by rfl,?_⟩) hHeld ?_ ?_
                       rotate_left
                       ·rintro w' ⟨s0,s1,s2,s3,s4,s5,s6,s7,s8⟩
                        go_simp
                        with_reducible rfl
                       rotate_left
                       ·simp only [Act.put,sA,sZ,sS,i64_w,i32_w]
                        rfl
                       refine pure_ (i:=33) (N:=some 108) (v:=?_) (a':=?_) #[true,true,true,true,true,true,true,true,true,true,true,true,true,true,true,true,true,true,true,true,true,true,true,true,true,true,true,true,true,true,true,true,true,true,false,false,false,false,false,false,false] rfl rfl (any_of HT_.out (by kernel_rfl)) (fun _ _ _ h => h) (Or.inl ⟨by rfl,?_⟩) ?_ ?_
                       rotate_left
                       ·intro w'
                        go_simp
                        (try simp only [hji18m,hji125m,hji18mw,hji125mw])
                        with_reducible rfl
                       rotate_left
                       ·simp only [Act.put,sA,sZ,sS,i64_w,i32_w]
                        rfl
                       refine one_ (i:=34) (N:=some 109) #[true,true,true,true,true,true,true,true,true,true,true,true,true,true,true,true,true,true,true,true,true,true,true,true,true,true,true,true,true,true,true,true,true,true,true,false,false,false,false,false,false] rfl rfl (one_of HT_.out (by kernel_rfl)) (by decide) (fun K hK => ?_)
                       refine goes_ Try.func34 (by kernel_rfl) rfl #[.agg #[.string (((a0 ++ (⟨#[120]⟩ : ByteArray)).extract 0 ((ji10) : Int).toNat) ++ (strOfNums y250)),.int .u64 t244,.int .u8 t245,.string (⟨#[]⟩ : ByteArray)]] (by rfl) rfl rfl (by (try simp only [List.map_toArray,List.map_cons,List.map_nil]);first|done|(simp only [hji10];rfl)|rfl|(simp only [List.length_drop,List.length_take];rfl)) ?_
                       with_reducible refine (ikey_Entry.calls (((a0 ++ (⟨#[120]⟩ : ByteArray)).extract 0 ((ji10) : Int).toNat) ++ (strOfNums y250)) t244 t245 (⟨#[]⟩ : ByteArray) false _ A135.out).mono ?_
                       rintro e w157 ⟨rfl,hb⟩
                       refine ⟨_,rfl,?_⟩
                       have n0_:=Aside0.mk (Kd.R_below (by (with_reducible repeat (first|apply zA|apply zN|apply zD));exact HO265.out) hb)
                       have n1_:=Aside0.mk (blk_below (g:=gb246) (o:=.cells #[.string t243,.int .u64 t244,.int .u8 t245] 39 (0,0)) (by (with_reducible repeat (first|refine bN ?_ _|refine bD ?_|refine bA ?_ _));exact BK246.out) hb)
                       have n2_:=Aside0.mk (blk_below (g:=gb247) (o:=.cells #[.string (((a0 ++ (⟨#[120]⟩ : ByteArray)).extract 0 ((ji10) : Int).toNat) ++ (strOfNums y250)),.int .u64 t244,.int .u8 t245] 39 (0,0)) (by (with_reducible repeat (first|refine bN ?_ _|refine bD ?_|refine bA ?_ _));exact BK247.out) hb)
                       have n3_:=Aside0.mk (blk_below (g:=gb248) (o:=.cells #[.string t243,.int .u64 ji22,.int .u8 t245] 39 (0,0)) (by (with_reducible repeat (first|refine bN ?_ _|refine bD ?_|refine bA ?_ _));exact BK248.out) hb)
                       have n4_:=Aside0.mk (blk_below (g:=gb249) (o:=.cells #[.string t243,.int .u64 t244,.int .u8 2] 39 (0,0)) (by (with_reducible repeat (first|refine bN ?_ _|refine bD ?_|refine bA ?_ _));exact BK249.out) hb)
                       have n5_:=Aside0.mk (blk_below (g:=gb261) (o:=.cells #[.string t243,.int .u64 t244,.int .u8 0] 39 (0,0)) (by (with_reducible repeat (first|refine bN ?_ _|refine bD ?_|refine bA ?_ _));exact BK261.out) hb)
                       have n6_:=Aside0.mk (below_step (by repeat (first|(with_reducible first|exact HB.out|apply below_alloc|apply pw_below_drewN|apply below_drew1|refine below_set ?_ GE246.out|refine below_set ?_ GE247.out|refine below_set ?_ GE248.out|refine below_set ?_ GE249.out|refine below_set ?_ GE261.out)|exact HB.out)) hb)
                       clear HO265
                       clear BK246
                       clear BK247
                       clear BK248
                       clear BK249
                       clear BK261
                       clear HB
                       have HO265:=n0_
                       have BK246:=n1_
                       have BK247:=n2_
                       have BK248:=n3_
                       have BK249:=n4_
                       have BK261:=n5_
                       have HB:=n6_
                       clear n0_ n1_ n2_ n3_ n4_ n5_ n6_
                       (try clear hb)
                       (try clear hb2)
                       (try clear hk)
                       (try clear hi)
                       refine hK.out _ _ ⟨(blk_cell BK246.out 0).trans rfl,(blk_cell BK246.out 1).trans rfl,(blk_cell BK246.out 2).trans rfl,(blk_cell BK261.out 0).trans rfl,(blk_cell BK261.out 1).trans rfl,(blk_cell BK261.out 2).trans rfl,(blk_cell BK247.out 0).trans rfl,(blk_cell BK247.out 1).trans rfl,(blk_cell BK247.out 2).trans rfl⟩ (fun hHeld => ?_)
                       clear hK K
                       refine norm_ (a':=?_) ?_ ?_
                       rotate_left
                       ·show Act.put _ (some 109) _ = _
                        simp only [Act.put,sA,sZ,sS,i64_w,i32_w]
                        rfl
                       refine pure_ (i:=35) (N:=some 110) (v:=?_) (a':=?_) #[true,true,true,true,true,true,true,true,true,true,true,true,true,true,true,true,true,true,true,true,true,true,true,true,true,true,true,true,true,true,true,true,true,true,true,true,false,false,false,false,false] rfl rfl (any_of HT_.out (by kernel_rfl)) (fun _ _ _ h => h) (Or.inl ⟨by rfl,?_⟩) ?_ ?_
                       rotate_left
                       ·intro w'
                        go_simp
                        (try simp only [hji18m,hji125m,hji18mw,hji125mw])
                        with_reducible rfl
                       rotate_left
                       ·simp only [Act.put,sA,sZ,sS,i64_w,i32_w]
                        rfl
                       refine pure_ (i:=36) (N:=some 111) (v:=?_) (a':=?_) #[true,true,true,true,true,true,true,true,true,true,true,true,true,true,true,true,true,true,true,true,true,true,true,true,true,true,true,true,true,true,true,true,true,true,true,true,true,false,false,false,false] rfl rfl (any_of HT_.out (by kernel_rfl)) (fun _ _ _ h => h) (Or.inl ⟨by rfl,?_⟩) ?_ ?_
                       rotate_left
                       ·intro w'
                        go_simp
                        (try simp only [hji18m,hji125m,hji18mw,hji125mw])
                        with_reducible rfl
                       rotate_left
                       ·simp only [Act.put,sA,sZ,sS,i64_w,i32_w]
                        rfl
                       refine pure_ (i:=37) (N:=some 112) (v:=?_) (a':=?_) #[true,true,true,true,true,true,true,true,true,true,true,true,true,true,true,true,true,true,true,true,true,true,true,true,true,true,true,true,true,true,true,true,true,true,true,true,true,true,false,false,false] rfl rfl (any_of HT_.out (by kernel_rfl)) (fun _ _ _ h => h) (Or.inl ⟨by rfl,?_⟩) ?_ ?_
                       rotate_left
                       ·intro w'
                        go_simp
                        (try simp only [hji18m,hji125m,hji18mw,hji125mw])
                        with_reducible rfl
                       rotate_left
                       ·simp only [Act.put,sA,sZ,sS,i64_w,i32_w]
                        rfl
                       refine one_ (i:=38) (N:=some 113) #[true,true,true,true,true,true,true,true,true,true,true,true,true,true,true,true,true,true,true,true,true,true,true,true,true,true,true,true,true,true,true,true,true,true,true,true,true,true,true,false,false] rfl rfl (one_of HT_.out (by kernel_rfl)) (by decide) (fun K hK => ?_)
                       refine goes_ Try.func26 (by kernel_rfl) rfl #[] (by rfl) rfl rfl (by (try simp only [List.map_toArray,List.map_cons,List.map_nil]);first|done|rfl|(simp only [List.length_drop,List.length_take];rfl)) ?_
                       with_reducible refine (ratlinelaw03_awake.calls kj22  t270 _ A137.out).mono ?_
                       rintro e w158 ⟨rfl,hb⟩
                       refine ⟨_,rfl,?_⟩
                       have n0_:=Aside0.mk (Kd.R_below (by (with_reducible repeat (first|apply zA|apply zN|apply zD));exact HO265.out) hb)
                       have n1_:=Aside0.mk (blk_below (g:=gb246) (o:=.cells #[.string t243,.int .u64 t244,.int .u8 t245] 39 (0,0)) (by (with_reducible repeat (first|refine bN ?_ _|refine bD ?_|refine bA ?_ _));exact BK246.out) hb)
                       have n2_:=Aside0.mk (blk_below (g:=gb247) (o:=.cells #[.string (((a0 ++ (⟨#[120]⟩ : ByteArray)).extract 0 ((ji10) : Int).toNat) ++ (strOfNums y250)),.int .u64 t244,.int .u8 t245] 39 (0,0)) (by (with_reducible repeat (first|refine bN ?_ _|refine bD ?_|refine bA ?_ _));exact BK247.out) hb)
                       have n3_:=Aside0.mk (blk_below (g:=gb248) (o:=.cells #[.string t243,.int .u64 ji22,.int .u8 t245] 39 (0,0)) (by (with_reducible repeat (first|refine bN ?_ _|refine bD ?_|refine bA ?_ _));exact BK248.out) hb)
                       have n4_:=Aside0.mk (blk_below (g:=gb249) (o:=.cells #[.string t243,.int .u64 t244,.int .u8 2] 39 (0,0)) (by (with_reducible repeat (first|refine bN ?_ _|refine bD ?_|refine bA ?_ _));exact BK249.out) hb)
                       have n5_:=Aside0.mk (blk_below (g:=gb261) (o:=.cells #[.string t243,.int .u64 t244,.int .u8 0] 39 (0,0)) (by (with_reducible repeat (first|refine bN ?_ _|refine bD ?_|refine bA ?_ _));exact BK261.out) hb)
                       have n6_:=Aside0.mk (below_step (by repeat (first|(with_reducible first|exact HB.out|apply below_alloc|apply pw_below_drewN|apply below_drew1|refine below_set ?_ GE246.out|refine below_set ?_ GE247.out|refine below_set ?_ GE248.out|refine below_set ?_ GE249.out|refine below_set ?_ GE261.out)|exact HB.out)) hb)
                       clear HO265
                       clear BK246
                       clear BK247
                       clear BK248
                       clear BK249
                       clear BK261
                       clear HB
                       have HO265:=n0_
                       have BK246:=n1_
                       have BK247:=n2_
                       have BK248:=n3_
                       have BK249:=n4_
                       have BK261:=n5_
                       have HB:=n6_
                       clear n0_ n1_ n2_ n3_ n4_ n5_ n6_
                       (try clear hb)
                       (try clear hb2)
                       (try clear hk)
                       (try clear hi)
                       refine hK.out _ _ ⟨(blk_cell BK246.out 0).trans rfl,(blk_cell BK246.out 1).trans rfl,(blk_cell BK246.out 2).trans rfl,(blk_cell BK261.out 0).trans rfl,(blk_cell BK261.out 1).trans rfl,(blk_cell BK261.out 2).trans rfl,(blk_cell BK247.out 0).trans rfl,(blk_cell BK247.out 1).trans rfl,(blk_cell BK247.out 2).trans rfl⟩ (fun hHeld => ?_)
                       clear hK K
                       refine norm_ (a':=?_) ?_ ?_
                       rotate_left
                       ·show Act.put _ (some 113) _ = _
                        simp only [Act.put,sA,sZ,sS,i64_w,i32_w]
                        rfl
                       refine pure_ (i:=39) (N:=some 114) (v:=?_) (a':=?_) #[true,true,true,true,true,true,true,true,true,true,true,true,true,true,true,true,true,true,true,true,true,true,true,true,true,true,true,true,true,true,true,true,true,true,true,true,true,true,true,true,false] rfl rfl (any_of HT_.out (by kernel_rfl)) (fun _ _ _ h => h) (Or.inl ⟨by rfl,?_⟩) ?_ ?_
                       rotate_left
                       ·intro w'
                        go_simp
                        (try simp only [hji18m,hji125m,hji18mw,hji125mw])
                        with_reducible rfl
                       rotate_left
                       ·simp only [Act.put,sA,sZ,sS,i64_w,i32_w]
                        rfl
                       refine pure_ (i:=40) (N:=some 6) (v:=?_) (a':=?_) #[true,true,true,true,true,true,true,true,true,true,true,true,true,true,true,true,true,true,true,true,true,true,true,true,true,true,true,true,true,true,true,true,true,true,true,true,true,true,true,true,true] rfl rfl (any_of HT_.out (by kernel_rfl)) (fun _ _ _ h => h) (Or.inl ⟨by rfl,?_⟩) ?_ ?_
                       rotate_left
                       ·intro w'
                        go_simp
                        (try simp only [hji18m,hji125m,hji18mw,hji125mw])
                        with_reducible rfl
                       rotate_left
                       ·simp only [Act.put,sA,sZ,sS,i64_w,i32_w]
                        rfl
                       refine done_ (done_of HT_.out (by kernel_rfl)) ?_
                       try go_wp2
                       go_ret
                       exact ⟨by first|rfl|(simp [errW_none,errW_some] <;> rfl)|(simp only [← hji10,← hji13,← hji16,← hji18,← hji22,← hji125];first|rfl|(simp [errW_none,errW_some] <;> rfl))|(simp [*,errW_none,errW_some] <;> rfl),by repeat (first|(with_reducible first|exact HB.out|apply below_alloc|apply pw_below_drewN|apply below_drew1|refine below_set ?_ GE246.out|refine below_set ?_ GE247.out|refine below_set ?_ GE248.out|refine below_set ?_ GE249.out|refine below_set ?_ GE261.out)|exact HB.out)⟩
                     ·rw [if_neg c134] at H
                      exact absurd H (by simp)
                    ·replace c132:=Bool.eq_false_iff.mpr c132
                     subst c132
                     have H1 : (none) = some r:=by rw [if_neg (show ¬ (false = true) by decide)] at H;exact H
                     clear H
                     have H:=H1
                     clear H1
                     exact absurd H (by simp)
                  ·rw [if_neg c128] at H
                   exact absurd H (by simp)
                 ·rw [if_neg c127] at H
                  exact absurd H (by simp)
                ·rw [if_neg c126] at H
                 exact absurd H (by simp)
               ·replace c124:=Bool.eq_false_iff.mpr c124
                subst c124
                have H1 : (none) = some r:=by rw [if_neg (show ¬ (false = true) by decide)] at H;exact H
                clear H
                have H:=H1
                clear H1
                exact absurd H (by simp)
           ·rw [if_neg c21] at H
            exact absurd H (by simp)
          ·rw [if_neg c20] at H
           exact absurd H (by simp)
         ·rw [if_neg c19] at H
          exact absurd H (by simp)
        ·rw [if_neg c15] at H
         exact absurd H (by simp)
       ·rw [if_neg c14] at H
        exact absurd H (by simp)
      ·rw [if_neg c12] at H
       exact absurd H (by simp)
     ·rw [if_neg c11] at H
      exact absurd H (by simp)
    ·rw [if_neg c9] at H
     exact absurd H (by simp)

/-- THE ONE PURE STATEMENT of ratlinelaw03_IkeyRight: yours. -/
def ratlinelaw03_IkeyRight.Pure : Prop:=∀ (a0 : ByteArray) (a1 : Int) (a2 : ByteArray),a0.size ≤ 140737488351232 → (Lit.int .u64 a1).wf = true → a2.size ≤ 140737488351232 → ∃ k,ratlinelaw03_IkeyRight.f k a0 a1 a2 = some true
theorem ratlinelaw03_IkeyRight.walk (P : ratlinelaw03_IkeyRight.Pure) (a0 : ByteArray) (a1 : Int) (a2 : ByteArray) (w : World) (w0 : a0.size ≤ 140737488351232) (w1 : (Lit.int .u64 a1).wf = true) (w2 : a2.size ≤ 140737488351232) :
  Calls Try.prog 11 #[.string a0,.int .u64 a1,.string a2] w fun e w' => e = .returned (.bool true) ∧ Below w.heap.size w w':=by
 obtain ⟨k,h⟩:=P a0 a1 a2 w0 w1 w2
 refine (ratlinelaw03_IkeyRight.calls k a0 a1 a2 true w h).mono ?_
 rintro e w' ⟨rfl,hd⟩
 exact ⟨rfl,hd⟩

end Go.Proofs.Ytojemmipkpckbaa.P
