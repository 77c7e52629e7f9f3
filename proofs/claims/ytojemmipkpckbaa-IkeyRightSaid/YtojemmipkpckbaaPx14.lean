/- Proved here: functions of the program return what the Lean functions beside them say,or a law of the program holds. Conditions: those of each theorem. Written for this claim by a program: the printer of the kit,with some contracts given. -/
import Derived.Test.YtojemmipkpckbaaPx0
import Derived.Test.YtojemmipkpckbaaPx1
import Derived.Test.YtojemmipkpckbaaPx7
import Derived.Test.YtojemmipkpckbaaPx9
import Derived.Test.YtojemmipkpckbaaPx12
import Derived.Test.YtojemmipkpckbaaPx13
namespace Go.Proofs.Ytojemmipkpckbaa.P
open Go.RowKit Go.Proofs.YtojemmipkpckbaaG Go.Proofs.YtojemmipkpckbaaW.PrintWords Go.Proofs.YtojemmipkpckbaaW.PrintLast Go.Proofs.YtojemmipkpckbaaW.PrintMore
attribute [local go_sem] str_gtr str_geq str_leq max2_int min2_int max_two min_two max_three min_three max_four min_four   -- for this text's walks alone
set_option linter.unusedVariables false
set_option linter.unusedSimpArgs false

attribute [local go_sem high] eqA39
/-! ### ratlinelaw03_awake: function 26 -/
def ratlinelaw03_awake.f (k : Nat)  : Option (Bool):=(ratlinelaw03_one.f (⟨#[97]⟩ : ByteArray) 5 1).bind fun bt172 => ((ikey_Take.f (([1,97,11,7] : List Int))).bind fun bt179 => ((ikey_Take.f (([0,11] : List Int))).bind fun bt190 => ((ratlinelaw03_one.f (⟨#[97]⟩ : ByteArray) 4 1).bind fun bt198 => ((ikey_Compare.f k bt172.1 bt172.2.1 bt172.2.2 bt198.1 bt198.2.1 bt198.2.2).bind fun t201 => (if t201 = (-1) then ((ratlinelaw03_one.f (⟨#[97]⟩ : ByteArray) 5 0).bind fun bt202 => ((ikey_Compare.f k bt172.1 bt172.2.1 bt172.2.2 bt202.1 bt202.2.1 bt202.2.2).bind fun t205 => (if t205 = (-1) then ((ratlinelaw03_one.f (⟨#[97,98]⟩ : ByteArray) 9 1).bind fun bt206 => ((ikey_Compare.f k bt172.1 bt172.2.1 bt172.2.2 bt206.1 bt206.2.1 bt206.2.2).bind fun t209 => (if t209 = (-1) then ((ratlinelaw03_one.f (⟨#[97]⟩ : ByteArray) 6 0).bind fun bt210 => ((ikey_Compare.f k bt172.1 bt172.2.1 bt172.2.2 bt210.1 bt210.2.1 bt210.2.2).bind fun t213 => (if t213 = 1 then ((ikey_Sought.f (⟨#[97]⟩ : ByteArray) 5).bind fun bt214 => (if (bt214.1.toList == bt172.1.toList && (bt214.2.1 == bt172.2.1 && (bt214.2.2 == bt172.2.2))) = true then ((ikey_Put.f ([] : List Int) bt172.1 bt172.2.1 bt172.2.2).bind fun t217 => ((ratlinelaw02_Same.f t217 (([1,97,11] : List Int))).bind fun t223 => (if t223 = true then ((ratlinelaw03_one.f (⟨#[97]⟩ : ByteArray) 5 0).bind fun bt224 => ((ikey_Put.f ([] : List Int) bt224.1 bt224.2.1 bt224.2.2).bind fun t227 => ((ratlinelaw02_Same.f t227 (([1,97,10] : List Int))).bind fun t233 => (if t233 = true then (if (bt179.1.toList == bt172.1.toList && (bt179.2.1 == bt172.2.1 && (bt179.2.2.1 == bt172.2.2))) = true then ((ratlinelaw02_Same.f bt179.2.2.2.1 (([7] : List Int))).bind fun t237 => (if t237 = true then (if bt179.2.2.2.2 = true then (if bt190.2.2.2.2 = true then (none) else ((ratlinelaw03_one.f (⟨#[97]⟩ : ByteArray) 5 0).bind fun bt238 => ((ikey_Entry.f bt238.1 bt238.2.1 bt238.2.2 (⟨#[120]⟩ : ByteArray)).bind fun t241 => (some (!t241))))) else (none)) else (none))) else (none)) else (none))))) else (none)))) else (none))) else (none)))) else (none)))) else (none)))) else (none))))))
theorem ratlinelaw03_awake.mono : ∀ k,LeO (ratlinelaw03_awake.f k ) (ratlinelaw03_awake.f (k + 1) ):=by
 intro  k
 unfold ratlinelaw03_awake.f
 repeat' first
   | (with_reducible exact ikey_Compare.mono _ _ _ _ _ _ _)
   | (with_reducible exact LeO.refl _)
   | (with_reducible exact LeO.none _)
   | (with_reducible refine LeO.ite ?_ ?_)
   | (with_reducible refine LeO.bind ?_ (fun _ => ?_))
   | exact ikey_Compare.mono _ _ _ _ _ _ _
   | exact LeO.none _
   | refine LeO.ite ?_ ?_
   | refine LeO.bind ?_ (fun _ => ?_)
def ratlinelaw03_awake.T5 : Bool × List (List Nat × List Nat):=(true,[([],[]),([],[]),([0,1,1],[0,1]),([2],[2]),([3,2],[3]),([4],[4]),([4,4],[4]),([5,6,6,4],[4,5,6]),([7,4],[4,7]),([4,8],[4,8]),([9,7],[9]),([10],[10]),([10,10],[10]),([11,12,12,10],[10,11,12]),([13,10],[10,13]),([10,14],[10,14]),([15,13],[15]),([16],[16]),([16,16],[16]),([17,18,18,16],[16,17,18]),([19,16],[16,19]),([16,20],[16,20]),([21,19],[21]),([22,22],[22]),([22],[22]),([23,24,22],[22,23,24]),([22,25],[22,25]),([26,23],[26]),([27],[27]),([27],[27]),([29,27,27],[27,29]),([27],[27]),([28,30,31,30,27],[27,28,30,31]),([27,32],[27,32]),([33,32],[33]),([34],[34]),([34,34],[34]),([36,36,34],[34,36]),([34],[34]),([35,37,38,37,34],[34,35,37,38]),([34,39],[34,39]),([40,39],[40]),([41],[41]),([41],[41]),([42,43,41],[41,42,43]),([41,44],[41,44]),([45,41],[45]),([46],[46]),([46],[46]),([46],[46]),([47,48,49,46,46],[46,47,48,49]),([46,50],[46,50]),([51,50],[51]),([52],[52]),([52,53],[52,53]),([54,52],[54]),([55],[55]),([56,55],[55,56]),([55,57],[55,57]),([58,55],[58]),([59,59],[59]),([60,59],[59,60]),([61,60,59],[59,61]),([62,59],[59,62]),([59,63],[59,63]),([64,62,0,1,2,3,4,5,6,7,8,9,10,11,12,13,14,15,16,17,18,19,20,21,22,23,24,25,26,27,28,29,30,31,32,33,34,35,36,37,38,39,40,41,42,43,44,45,46,47,48,49,50,51,52,53,54,55,56,57,58,59,60,61,62,63,64],[64])])
def ratlinelaw03_awake.B5 : List Nat:=[0,0,3,7,15,31,31,127,255,511,1023,2047,2047,8191,16383,32767,65535,131071,131071,524287,1048575,2097151,4194303,8388607,8388607,33554431,67108863,134217727,268435455,268435455,805306367,268435455,4294967295,8589934591,17179869183,34359738367,34359738367,103079215103,34359738367,549755813887,1099511627775,2199023255551,4398046511103,4398046511103,17592186044415,35184372088831,70368744177663,140737488355327,140737488355327,140737488355327,1125899906842623,2251799813685247,4503599627370495,9007199254740991,18014398509481983,36028797018963967,72057594037927935,144115188075855871,288230376151711743,576460752303423487,1152921504606846975,2305843009213693951,4611686018427387903,9223372036854775807,18446744073709551615,36893488147419103231]
theorem ratlinelaw03_awake.tab5 : rtab .any (opsOf Try.f26 5) = ratlinelaw03_awake.T5:=by kernel_rfl
theorem ratlinelaw03_awake.bits5 : waitsOk ratlinelaw03_awake.T5.2 ratlinelaw03_awake.B5 = true:=by kernel_rfl
set_option maxHeartbeats 8000000 in
set_option maxRecDepth 100000 in
theorem ratlinelaw03_awake.calls (k : Nat)  (r : Bool) (w : World) (h : ratlinelaw03_awake.f k  = some r) :
  Calls Try.prog 26 #[] w fun e w' => e = .returned (.bool r) ∧ Below w.heap.size w w':=by
 have hu39:=Try.underlying39
 have hu41:=Try.underlying41
 have HB:=Aside0.mk (Below.refl w.heap.size w)
 have H : ((ratlinelaw03_one.f (⟨#[97]⟩ : ByteArray) 5 1).bind fun bt172 => ((ikey_Take.f (([1,97,11,7] : List Int))).bind fun bt179 => ((ikey_Take.f (([0,11] : List Int))).bind fun bt190 => ((ratlinelaw03_one.f (⟨#[97]⟩ : ByteArray) 4 1).bind fun bt198 => ((ikey_Compare.f k bt172.1 bt172.2.1 bt172.2.2 bt198.1 bt198.2.1 bt198.2.2).bind fun t201 => (if t201 = (-1) then ((ratlinelaw03_one.f (⟨#[97]⟩ : ByteArray) 5 0).bind fun bt202 => ((ikey_Compare.f k bt172.1 bt172.2.1 bt172.2.2 bt202.1 bt202.2.1 bt202.2.2).bind fun t205 => (if t205 = (-1) then ((ratlinelaw03_one.f (⟨#[97,98]⟩ : ByteArray) 9 1).bind fun bt206 => ((ikey_Compare.f k bt172.1 bt172.2.1 bt172.2.2 bt206.1 bt206.2.1 bt206.2.2).bind fun t209 => (if t209 = (-1) then ((ratlinelaw03_one.f (⟨#[97]⟩ : ByteArray) 6 0).bind fun bt210 => ((ikey_Compare.f k bt172.1 bt172.2.1 bt172.2.2 bt210.1 bt210.2.1 bt210.2.2).bind fun t213 => (if t213 = 1 then ((ikey_Sought.f (⟨#[97]⟩ : ByteArray) 5).bind fun bt214 => (if (bt214.1.toList == bt172.1.toList && (bt214.2.1 == bt172.2.1 && (bt214.2.2 == bt172.2.2))) = true then ((ikey_Put.f ([] : List Int) bt172.1 bt172.2.1 bt172.2.2).bind fun t217 => ((ratlinelaw02_Same.f t217 (([1,97,11] : List Int))).bind fun t223 => (if t223 = true then ((ratlinelaw03_one.f (⟨#[97]⟩ : ByteArray) 5 0).bind fun bt224 => ((ikey_Put.f ([] : List Int) bt224.1 bt224.2.1 bt224.2.2).bind fun t227 => ((ratlinelaw02_Same.f t227 (([1,97,10] : List Int))).bind fun t233 => (if t233 = true then (if (bt179.1.toList == bt172.1.toList && (bt179.2.1 == bt172.2.1 && (bt179.2.2.1 == bt172.2.2))) = true then ((ratlinelaw02_Same.f bt179.2.2.2.1 (([7] : List Int))).bind fun t237 => (if t237 = true then (if bt179.2.2.2.2 = true then (if bt190.2.2.2.2 = true then (none) else ((ratlinelaw03_one.f (⟨#[97]⟩ : ByteArray) 5 0).bind fun bt238 => ((ikey_Entry.f bt238.1 bt238.2.1 bt238.2.2 (⟨#[120]⟩ : ByteArray)).bind fun t241 => (some (!t241))))) else (none)) else (none))) else (none)) else (none))))) else (none)))) else (none))) else (none)))) else (none)))) else (none)))) else (none))))))) = some r:=h
 clear h
 replace H:=Option.bind_eq_some_iff.mp H
 obtain ⟨⟨t172,t173,t174⟩,A10,H⟩:=H
 replace H : ((ikey_Take.f (([1,97,11,7] : List Int))).bind fun bt179 => ((ikey_Take.f (([0,11] : List Int))).bind fun bt190 => ((ratlinelaw03_one.f (⟨#[97]⟩ : ByteArray) 4 1).bind fun bt198 => ((ikey_Compare.f k t172 t173 t174 bt198.1 bt198.2.1 bt198.2.2).bind fun t201 => (if t201 = (-1) then ((ratlinelaw03_one.f (⟨#[97]⟩ : ByteArray) 5 0).bind fun bt202 => ((ikey_Compare.f k t172 t173 t174 bt202.1 bt202.2.1 bt202.2.2).bind fun t205 => (if t205 = (-1) then ((ratlinelaw03_one.f (⟨#[97,98]⟩ : ByteArray) 9 1).bind fun bt206 => ((ikey_Compare.f k t172 t173 t174 bt206.1 bt206.2.1 bt206.2.2).bind fun t209 => (if t209 = (-1) then ((ratlinelaw03_one.f (⟨#[97]⟩ : ByteArray) 6 0).bind fun bt210 => ((ikey_Compare.f k t172 t173 t174 bt210.1 bt210.2.1 bt210.2.2).bind fun t213 => (if t213 = 1 then ((ikey_Sought.f (⟨#[97]⟩ : ByteArray) 5).bind fun bt214 => (if (bt214.1.toList == t172.toList && (bt214.2.1 == t173 && (bt214.2.2 == t174))) = true then ((ikey_Put.f ([] : List Int) t172 t173 t174).bind fun t217 => ((ratlinelaw02_Same.f t217 (([1,97,11] : List Int))).bind fun t223 => (if t223 = true then ((ratlinelaw03_one.f (⟨#[97]⟩ : ByteArray) 5 0).bind fun bt224 => ((ikey_Put.f ([] : List Int) bt224.1 bt224.2.1 bt224.2.2).bind fun t227 => ((ratlinelaw02_Same.f t227 (([1,97,10] : List Int))).bind fun t233 => (if t233 = true then (if (bt179.1.toList == t172.toList && (bt179.2.1 == t173 && (bt179.2.2.1 == t174))) = true then ((ratlinelaw02_Same.f bt179.2.2.2.1 (([7] : List Int))).bind fun t237 => (if t237 = true then (if bt179.2.2.2.2 = true then (if bt190.2.2.2.2 = true then (none) else ((ratlinelaw03_one.f (⟨#[97]⟩ : ByteArray) 5 0).bind fun bt238 => ((ikey_Entry.f bt238.1 bt238.2.1 bt238.2.2 (⟨#[120]⟩ : ByteArray)).bind fun t241 => (some (!t241))))) else (none)) else (none))) else (none)) else (none))))) else (none)))) else (none))) else (none)))) else (none)))) else (none)))) else (none)))))) = some r:=H
 have A1:=Aside0.mk A10
 clear A10
 obtain ⟨y176,hy176⟩ : ∃ y_ : List Int,y_ = (([1,97,11,7] : List Int)):=⟨_,rfl⟩
 replace H : ((ikey_Take.f y176).bind fun bt179 => ((ikey_Take.f (([0,11] : List Int))).bind fun bt190 => ((ratlinelaw03_one.f (⟨#[97]⟩ : ByteArray) 4 1).bind fun bt198 => ((ikey_Compare.f k t172 t173 t174 bt198.1 bt198.2.1 bt198.2.2).bind fun t201 => (if t201 = (-1) then ((ratlinelaw03_one.f (⟨#[97]⟩ : ByteArray) 5 0).bind fun bt202 => ((ikey_Compare.f k t172 t173 t174 bt202.1 bt202.2.1 bt202.2.2).bind fun t205 => (if t205 = (-1) then ((ratlinelaw03_one.f (⟨#[97,98]⟩ : ByteArray) 9 1).bind fun bt206 => ((ikey_Compare.f k t172 t173 t174 bt206.1 bt206.2.1 bt206.2.2).bind fun t209 => (if t209 = (-1) then ((ratlinelaw03_one.f (⟨#[97]⟩ : ByteArray) 6 0).bind fun bt210 => ((ikey_Compare.f k t172 t173 t174 bt210.1 bt210.2.1 bt210.2.2).bind fun t213 => (if t213 = 1 then ((ikey_Sought.f (⟨#[97]⟩ : ByteArray) 5).bind fun bt214 => (if (bt214.1.toList == t172.toList && (bt214.2.1 == t173 && (bt214.2.2 == t174))) = true then ((ikey_Put.f ([] : List Int) t172 t173 t174).bind fun t217 => ((ratlinelaw02_Same.f t217 (([1,97,11] : List Int))).bind fun t223 => (if t223 = true then ((ratlinelaw03_one.f (⟨#[97]⟩ : ByteArray) 5 0).bind fun bt224 => ((ikey_Put.f ([] : List Int) bt224.1 bt224.2.1 bt224.2.2).bind fun t227 => ((ratlinelaw02_Same.f t227 (([1,97,10] : List Int))).bind fun t233 => (if t233 = true then (if (bt179.1.toList == t172.toList && (bt179.2.1 == t173 && (bt179.2.2.1 == t174))) = true then ((ratlinelaw02_Same.f bt179.2.2.2.1 (([7] : List Int))).bind fun t237 => (if t237 = true then (if bt179.2.2.2.2 = true then (if bt190.2.2.2.2 = true then (none) else ((ratlinelaw03_one.f (⟨#[97]⟩ : ByteArray) 5 0).bind fun bt238 => ((ikey_Entry.f bt238.1 bt238.2.1 bt238.2.2 (⟨#[120]⟩ : ByteArray)).bind fun t241 => (some (!t241))))) else (none)) else (none))) else (none)) else (none))))) else (none)))) else (none))) else (none)))) else (none)))) else (none)))) else (none)))))) = some r:=by first|(rw [hy176];with_reducible exact H)|(have H2_:=(Option.bind_some _ _).symm.trans H;rw [hy176];with_reducible exact H2_)|(have H2_:=(Option.bind_some _ _).symm.trans H;with_reducible exact H2_)|with_reducible exact H|(rw [hy176];exact H)|exact H
 have Ny176:=Aside0.mk hy176
 clear hy176
 replace H:=Option.bind_eq_some_iff.mp H
 obtain ⟨⟨t179,t180,t181,t182,t185⟩,A20,H⟩:=H
 replace H : ((ikey_Take.f (([0,11] : List Int))).bind fun bt190 => ((ratlinelaw03_one.f (⟨#[97]⟩ : ByteArray) 4 1).bind fun bt198 => ((ikey_Compare.f k t172 t173 t174 bt198.1 bt198.2.1 bt198.2.2).bind fun t201 => (if t201 = (-1) then ((ratlinelaw03_one.f (⟨#[97]⟩ : ByteArray) 5 0).bind fun bt202 => ((ikey_Compare.f k t172 t173 t174 bt202.1 bt202.2.1 bt202.2.2).bind fun t205 => (if t205 = (-1) then ((ratlinelaw03_one.f (⟨#[97,98]⟩ : ByteArray) 9 1).bind fun bt206 => ((ikey_Compare.f k t172 t173 t174 bt206.1 bt206.2.1 bt206.2.2).bind fun t209 => (if t209 = (-1) then ((ratlinelaw03_one.f (⟨#[97]⟩ : ByteArray) 6 0).bind fun bt210 => ((ikey_Compare.f k t172 t173 t174 bt210.1 bt210.2.1 bt210.2.2).bind fun t213 => (if t213 = 1 then ((ikey_Sought.f (⟨#[97]⟩ : ByteArray) 5).bind fun bt214 => (if (bt214.1.toList == t172.toList && (bt214.2.1 == t173 && (bt214.2.2 == t174))) = true then ((ikey_Put.f ([] : List Int) t172 t173 t174).bind fun t217 => ((ratlinelaw02_Same.f t217 (([1,97,11] : List Int))).bind fun t223 => (if t223 = true then ((ratlinelaw03_one.f (⟨#[97]⟩ : ByteArray) 5 0).bind fun bt224 => ((ikey_Put.f ([] : List Int) bt224.1 bt224.2.1 bt224.2.2).bind fun t227 => ((ratlinelaw02_Same.f t227 (([1,97,10] : List Int))).bind fun t233 => (if t233 = true then (if (t179.toList == t172.toList && (t180 == t173 && (t181 == t174))) = true then ((ratlinelaw02_Same.f t182 (([7] : List Int))).bind fun t237 => (if t237 = true then (if t185 = true then (if bt190.2.2.2.2 = true then (none) else ((ratlinelaw03_one.f (⟨#[97]⟩ : ByteArray) 5 0).bind fun bt238 => ((ikey_Entry.f bt238.1 bt238.2.1 bt238.2.2 (⟨#[120]⟩ : ByteArray)).bind fun t241 => (some (!t241))))) else (none)) else (none))) else (none)) else (none))))) else (none)))) else (none))) else (none)))) else (none)))) else (none)))) else (none))))) = some r:=H
 have A2:=Aside0.mk A20
 clear A20
 obtain ⟨y187,hy187⟩ : ∃ y_ : List Int,y_ = (([0,11] : List Int)):=⟨_,rfl⟩
 replace H : ((ikey_Take.f y187).bind fun bt190 => ((ratlinelaw03_one.f (⟨#[97]⟩ : ByteArray) 4 1).bind fun bt198 => ((ikey_Compare.f k t172 t173 t174 bt198.1 bt198.2.1 bt198.2.2).bind fun t201 => (if t201 = (-1) then ((ratlinelaw03_one.f (⟨#[97]⟩ : ByteArray) 5 0).bind fun bt202 => ((ikey_Compare.f k t172 t173 t174 bt202.1 bt202.2.1 bt202.2.2).bind fun t205 => (if t205 = (-1) then ((ratlinelaw03_one.f (⟨#[97,98]⟩ : ByteArray) 9 1).bind fun bt206 => ((ikey_Compare.f k t172 t173 t174 bt206.1 bt206.2.1 bt206.2.2).bind fun t209 => (if t209 = (-1) then ((ratlinelaw03_one.f (⟨#[97]⟩ : ByteArray) 6 0).bind fun bt210 => ((ikey_Compare.f k t172 t173 t174 bt210.1 bt210.2.1 bt210.2.2).bind fun t213 => (if t213 = 1 then ((ikey_Sought.f (⟨#[97]⟩ : ByteArray) 5).bind fun bt214 => (if (bt214.1.toList == t172.toList && (bt214.2.1 == t173 && (bt214.2.2 == t174))) = true then ((ikey_Put.f ([] : List Int) t172 t173 t174).bind fun t217 => ((ratlinelaw02_Same.f t217 (([1,97,11] : List Int))).bind fun t223 => (if t223 = true then ((ratlinelaw03_one.f (⟨#[97]⟩ : ByteArray) 5 0).bind fun bt224 => ((ikey_Put.f ([] : List Int) bt224.1 bt224.2.1 bt224.2.2).bind fun t227 => ((ratlinelaw02_Same.f t227 (([1,97,10] : List Int))).bind fun t233 => (if t233 = true then (if (t179.toList == t172.toList && (t180 == t173 && (t181 == t174))) = true then ((ratlinelaw02_Same.f t182 (([7] : List Int))).bind fun t237 => (if t237 = true then (if t185 = true then (if bt190.2.2.2.2 = true then (none) else ((ratlinelaw03_one.f (⟨#[97]⟩ : ByteArray) 5 0).bind fun bt238 => ((ikey_Entry.f bt238.1 bt238.2.1 bt238.2.2 (⟨#[120]⟩ : ByteArray)).bind fun t241 => (some (!t241))))) else (none)) else (none))) else (none)) else (none))))) else (none)))) else (none))) else (none)))) else (none)))) else (none)))) else (none))))) = some r:=by first|(rw [hy187];with_reducible exact H)|(have H2_:=(Option.bind_some _ _).symm.trans H;rw [hy187];with_reducible exact H2_)|(have H2_:=(Option.bind_some _ _).symm.trans H;with_reducible exact H2_)|with_reducible exact H|(rw [hy187];exact H)|exact H
 have Ny187:=Aside0.mk hy187
 clear hy187
 replace H:=Option.bind_eq_some_iff.mp H
 obtain ⟨⟨t190,t191,t192,t193,t196⟩,A30,H⟩:=H
 replace H : ((ratlinelaw03_one.f (⟨#[97]⟩ : ByteArray) 4 1).bind fun bt198 => ((ikey_Compare.f k t172 t173 t174 bt198.1 bt198.2.1 bt198.2.2).bind fun t201 => (if t201 = (-1) then ((ratlinelaw03_one.f (⟨#[97]⟩ : ByteArray) 5 0).bind fun bt202 => ((ikey_Compare.f k t172 t173 t174 bt202.1 bt202.2.1 bt202.2.2).bind fun t205 => (if t205 = (-1) then ((ratlinelaw03_one.f (⟨#[97,98]⟩ : ByteArray) 9 1).bind fun bt206 => ((ikey_Compare.f k t172 t173 t174 bt206.1 bt206.2.1 bt206.2.2).bind fun t209 => (if t209 = (-1) then ((ratlinelaw03_one.f (⟨#[97]⟩ : ByteArray) 6 0).bind fun bt210 => ((ikey_Compare.f k t172 t173 t174 bt210.1 bt210.2.1 bt210.2.2).bind fun t213 => (if t213 = 1 then ((ikey_Sought.f (⟨#[97]⟩ : ByteArray) 5).bind fun bt214 => (if (bt214.1.toList == t172.toList && (bt214.2.1 == t173 && (bt214.2.2 == t174))) = true then ((ikey_Put.f ([] : List Int) t172 t173 t174).bind fun t217 => ((ratlinelaw02_Same.f t217 (([1,97,11] : List Int))).bind fun t223 => (if t223 = true then ((ratlinelaw03_one.f (⟨#[97]⟩ : ByteArray) 5 0).bind fun bt224 => ((ikey_Put.f ([] : List Int) bt224.1 bt224.2.1 bt224.2.2).bind fun t227 => ((ratlinelaw02_Same.f t227 (([1,97,10] : List Int))).bind fun t233 => (if t233 = true then (if (t179.toList == t172.toList && (t180 == t173 && (t181 == t174))) = true then ((ratlinelaw02_Same.f t182 (([7] : List Int))).bind fun t237 => (if t237 = true then (if t185 = true then (if t196 = true then (none) else ((ratlinelaw03_one.f (⟨#[97]⟩ : ByteArray) 5 0).bind fun bt238 => ((ikey_Entry.f bt238.1 bt238.2.1 bt238.2.2 (⟨#[120]⟩ : ByteArray)).bind fun t241 => (some (!t241))))) else (none)) else (none))) else (none)) else (none))))) else (none)))) else (none))) else (none)))) else (none)))) else (none)))) else (none)))) = some r:=H
 have A3:=Aside0.mk A30
 clear A30
 replace H:=Option.bind_eq_some_iff.mp H
 obtain ⟨⟨t198,t199,t200⟩,A40,H⟩:=H
 replace H : ((ikey_Compare.f k t172 t173 t174 t198 t199 t200).bind fun t201 => (if t201 = (-1) then ((ratlinelaw03_one.f (⟨#[97]⟩ : ByteArray) 5 0).bind fun bt202 => ((ikey_Compare.f k t172 t173 t174 bt202.1 bt202.2.1 bt202.2.2).bind fun t205 => (if t205 = (-1) then ((ratlinelaw03_one.f (⟨#[97,98]⟩ : ByteArray) 9 1).bind fun bt206 => ((ikey_Compare.f k t172 t173 t174 bt206.1 bt206.2.1 bt206.2.2).bind fun t209 => (if t209 = (-1) then ((ratlinelaw03_one.f (⟨#[97]⟩ : ByteArray) 6 0).bind fun bt210 => ((ikey_Compare.f k t172 t173 t174 bt210.1 bt210.2.1 bt210.2.2).bind fun t213 => (if t213 = 1 then ((ikey_Sought.f (⟨#[97]⟩ : ByteArray) 5).bind fun bt214 => (if (bt214.1.toList == t172.toList && (bt214.2.1 == t173 && (bt214.2.2 == t174))) = true then ((ikey_Put.f ([] : List Int) t172 t173 t174).bind fun t217 => ((ratlinelaw02_Same.f t217 (([1,97,11] : List Int))).bind fun t223 => (if t223 = true then ((ratlinelaw03_one.f (⟨#[97]⟩ : ByteArray) 5 0).bind fun bt224 => ((ikey_Put.f ([] : List Int) bt224.1 bt224.2.1 bt224.2.2).bind fun t227 => ((ratlinelaw02_Same.f t227 (([1,97,10] : List Int))).bind fun t233 => (if t233 = true then (if (t179.toList == t172.toList && (t180 == t173 && (t181 == t174))) = true then ((ratlinelaw02_Same.f t182 (([7] : List Int))).bind fun t237 => (if t237 = true then (if t185 = true then (if t196 = true then (none) else ((ratlinelaw03_one.f (⟨#[97]⟩ : ByteArray) 5 0).bind fun bt238 => ((ikey_Entry.f bt238.1 bt238.2.1 bt238.2.2 (⟨#[120]⟩ : ByteArray)).bind fun t241 => (some (!t241))))) else (none)) else (none))) else (none)) else (none))))) else (none)))) else (none))) else (none)))) else (none)))) else (none)))) else (none))) = some r:=H
 have A4:=Aside0.mk A40
 clear A40
 replace H:=Option.bind_eq_some_iff.mp H
 obtain ⟨t201,A50,H⟩:=H
 replace H : (if t201 = (-1) then ((ratlinelaw03_one.f (⟨#[97]⟩ : ByteArray) 5 0).bind fun bt202 => ((ikey_Compare.f k t172 t173 t174 bt202.1 bt202.2.1 bt202.2.2).bind fun t205 => (if t205 = (-1) then ((ratlinelaw03_one.f (⟨#[97,98]⟩ : ByteArray) 9 1).bind fun bt206 => ((ikey_Compare.f k t172 t173 t174 bt206.1 bt206.2.1 bt206.2.2).bind fun t209 => (if t209 = (-1) then ((ratlinelaw03_one.f (⟨#[97]⟩ : ByteArray) 6 0).bind fun bt210 => ((ikey_Compare.f k t172 t173 t174 bt210.1 bt210.2.1 bt210.2.2).bind fun t213 => (if t213 = 1 then ((ikey_Sought.f (⟨#[97]⟩ : ByteArray) 5).bind fun bt214 => (if (bt214.1.toList == t172.toList && (bt214.2.1 == t173 && (bt214.2.2 == t174))) = true then ((ikey_Put.f ([] : List Int) t172 t173 t174).bind fun t217 => ((ratlinelaw02_Same.f t217 (([1,97,11] : List Int))).bind fun t223 => (if t223 = true then ((ratlinelaw03_one.f (⟨#[97]⟩ : ByteArray) 5 0).bind fun bt224 => ((ikey_Put.f ([] : List Int) bt224.1 bt224.2.1 bt224.2.2).bind fun t227 => ((ratlinelaw02_Same.f t227 (([1,97,10] : List Int))).bind fun t233 => (if t233 = true then (if (t179.toList == t172.toList && (t180 == t173 && (t181 == t174))) = true then ((ratlinelaw02_Same.f t182 (([7] : List Int))).bind fun t237 => (if t237 = true then (if t185 = true then (if t196 = true then (none) else ((ratlinelaw03_one.f (⟨#[97]⟩ : ByteArray) 5 0).bind fun bt238 => ((ikey_Entry.f bt238.1 bt238.2.1 bt238.2.2 (⟨#[120]⟩ : ByteArray)).bind fun t241 => (some (!t241))))) else (none)) else (none))) else (none)) else (none))))) else (none)))) else (none))) else (none)))) else (none)))) else (none)))) else (none)) = some r:=H
 have A5:=Aside0.mk A50
 clear A50
 by_cases c6 : t201 = (-1)
 ·rw [if_pos c6] at H
  have c6b0 : (t201 == (-1)) = true:=beq_iff_eq.mpr c6
  have c6b1 : (t201 != (-1)) = false:=bne_eq_false_iff_eq.mpr c6
  clear c6
  replace H:=Option.bind_eq_some_iff.mp H
  obtain ⟨⟨t202,t203,t204⟩,A70,H⟩:=H
  replace H : ((ikey_Compare.f k t172 t173 t174 t202 t203 t204).bind fun t205 => (if t205 = (-1) then ((ratlinelaw03_one.f (⟨#[97,98]⟩ : ByteArray) 9 1).bind fun bt206 => ((ikey_Compare.f k t172 t173 t174 bt206.1 bt206.2.1 bt206.2.2).bind fun t209 => (if t209 = (-1) then ((ratlinelaw03_one.f (⟨#[97]⟩ : ByteArray) 6 0).bind fun bt210 => ((ikey_Compare.f k t172 t173 t174 bt210.1 bt210.2.1 bt210.2.2).bind fun t213 => (if t213 = 1 then ((ikey_Sought.f (⟨#[97]⟩ : ByteArray) 5).bind fun bt214 => (if (bt214.1.toList == t172.toList && (bt214.2.1 == t173 && (bt214.2.2 == t174))) = true then ((ikey_Put.f ([] : List Int) t172 t173 t174).bind fun t217 => ((ratlinelaw02_Same.f t217 (([1,97,11] : List Int))).bind fun t223 => (if t223 = true then ((ratlinelaw03_one.f (⟨#[97]⟩ : ByteArray) 5 0).bind fun bt224 => ((ikey_Put.f ([] : List Int) bt224.1 bt224.2.1 bt224.2.2).bind fun t227 => ((ratlinelaw02_Same.f t227 (([1,97,10] : List Int))).bind fun t233 => (if t233 = true then (if (t179.toList == t172.toList && (t180 == t173 && (t181 == t174))) = true then ((ratlinelaw02_Same.f t182 (([7] : List Int))).bind fun t237 => (if t237 = true then (if t185 = true then (if t196 = true then (none) else ((ratlinelaw03_one.f (⟨#[97]⟩ : ByteArray) 5 0).bind fun bt238 => ((ikey_Entry.f bt238.1 bt238.2.1 bt238.2.2 (⟨#[120]⟩ : ByteArray)).bind fun t241 => (some (!t241))))) else (none)) else (none))) else (none)) else (none))))) else (none)))) else (none))) else (none)))) else (none)))) else (none))) = some r:=H
  have A7:=Aside0.mk A70
  clear A70
  replace H:=Option.bind_eq_some_iff.mp H
  obtain ⟨t205,A80,H⟩:=H
  replace H : (if t205 = (-1) then ((ratlinelaw03_one.f (⟨#[97,98]⟩ : ByteArray) 9 1).bind fun bt206 => ((ikey_Compare.f k t172 t173 t174 bt206.1 bt206.2.1 bt206.2.2).bind fun t209 => (if t209 = (-1) then ((ratlinelaw03_one.f (⟨#[97]⟩ : ByteArray) 6 0).bind fun bt210 => ((ikey_Compare.f k t172 t173 t174 bt210.1 bt210.2.1 bt210.2.2).bind fun t213 => (if t213 = 1 then ((ikey_Sought.f (⟨#[97]⟩ : ByteArray) 5).bind fun bt214 => (if (bt214.1.toList == t172.toList && (bt214.2.1 == t173 && (bt214.2.2 == t174))) = true then ((ikey_Put.f ([] : List Int) t172 t173 t174).bind fun t217 => ((ratlinelaw02_Same.f t217 (([1,97,11] : List Int))).bind fun t223 => (if t223 = true then ((ratlinelaw03_one.f (⟨#[97]⟩ : ByteArray) 5 0).bind fun bt224 => ((ikey_Put.f ([] : List Int) bt224.1 bt224.2.1 bt224.2.2).bind fun t227 => ((ratlinelaw02_Same.f t227 (([1,97,10] : List Int))).bind fun t233 => (if t233 = true then (if (t179.toList == t172.toList && (t180 == t173 && (t181 == t174))) = true then ((ratlinelaw02_Same.f t182 (([7] : List Int))).bind fun t237 => (if t237 = true then (if t185 = true then (if t196 = true then (none) else ((ratlinelaw03_one.f (⟨#[97]⟩ : ByteArray) 5 0).bind fun bt238 => ((ikey_Entry.f bt238.1 bt238.2.1 bt238.2.2 (⟨#[120]⟩ : ByteArray)).bind fun t241 => (some (!t241))))) else (none)) else (none))) else (none)) else (none))))) else (none)))) else (none))) else (none)))) else (none)))) else (none)) = some r:=H
  have A8:=Aside0.mk A80
  clear A80
  by_cases c9 : t205 = (-1)
  ·rw [if_pos c9] at H
   have c9b0 : (t205 == (-1)) = true:=beq_iff_eq.mpr c9
   have c9b1 : (t205 != (-1)) = false:=bne_eq_false_iff_eq.mpr c9
   clear c9
   replace H:=Option.bind_eq_some_iff.mp H
   obtain ⟨⟨t206,t207,t208⟩,A100,H⟩:=H
   replace H : ((ikey_Compare.f k t172 t173 t174 t206 t207 t208).bind fun t209 => (if t209 = (-1) then ((ratlinelaw03_one.f (⟨#[97]⟩ : ByteArray) 6 0).bind fun bt210 => ((ikey_Compare.f k t172 t173 t174 bt210.1 bt210.2.1 bt210.2.2).bind fun t213 => (if t213 = 1 then ((ikey_Sought.f (⟨#[97]⟩ : ByteArray) 5).bind fun bt214 => (if (bt214.1.toList == t172.toList && (bt214.2.1 == t173 && (bt214.2.2 == t174))) = true then ((ikey_Put.f ([] : List Int) t172 t173 t174).bind fun t217 => ((ratlinelaw02_Same.f t217 (([1,97,11] : List Int))).bind fun t223 => (if t223 = true then ((ratlinelaw03_one.f (⟨#[97]⟩ : ByteArray) 5 0).bind fun bt224 => ((ikey_Put.f ([] : List Int) bt224.1 bt224.2.1 bt224.2.2).bind fun t227 => ((ratlinelaw02_Same.f t227 (([1,97,10] : List Int))).bind fun t233 => (if t233 = true then (if (t179.toList == t172.toList && (t180 == t173 && (t181 == t174))) = true then ((ratlinelaw02_Same.f t182 (([7] : List Int))).bind fun t237 => (if t237 = true then (if t185 = true then (if t196 = true then (none) else ((ratlinelaw03_one.f (⟨#[97]⟩ : ByteArray) 5 0).bind fun bt238 => ((ikey_Entry.f bt238.1 bt238.2.1 bt238.2.2 (⟨#[120]⟩ : ByteArray)).bind fun t241 => (some (!t241))))) else (none)) else (none))) else (none)) else (none))))) else (none)))) else (none))) else (none)))) else (none))) = some r:=H
   have A10:=Aside0.mk A100
   clear A100
   replace H:=Option.bind_eq_some_iff.mp H
   obtain ⟨t209,A110,H⟩:=H
   replace H : (if t209 = (-1) then ((ratlinelaw03_one.f (⟨#[97]⟩ : ByteArray) 6 0).bind fun bt210 => ((ikey_Compare.f k t172 t173 t174 bt210.1 bt210.2.1 bt210.2.2).bind fun t213 => (if t213 = 1 then ((ikey_Sought.f (⟨#[97]⟩ : ByteArray) 5).bind fun bt214 => (if (bt214.1.toList == t172.toList && (bt214.2.1 == t173 && (bt214.2.2 == t174))) = true then ((ikey_Put.f ([] : List Int) t172 t173 t174).bind fun t217 => ((ratlinelaw02_Same.f t217 (([1,97,11] : List Int))).bind fun t223 => (if t223 = true then ((ratlinelaw03_one.f (⟨#[97]⟩ : ByteArray) 5 0).bind fun bt224 => ((ikey_Put.f ([] : List Int) bt224.1 bt224.2.1 bt224.2.2).bind fun t227 => ((ratlinelaw02_Same.f t227 (([1,97,10] : List Int))).bind fun t233 => (if t233 = true then (if (t179.toList == t172.toList && (t180 == t173 && (t181 == t174))) = true then ((ratlinelaw02_Same.f t182 (([7] : List Int))).bind fun t237 => (if t237 = true then (if t185 = true then (if t196 = true then (none) else ((ratlinelaw03_one.f (⟨#[97]⟩ : ByteArray) 5 0).bind fun bt238 => ((ikey_Entry.f bt238.1 bt238.2.1 bt238.2.2 (⟨#[120]⟩ : ByteArray)).bind fun t241 => (some (!t241))))) else (none)) else (none))) else (none)) else (none))))) else (none)))) else (none))) else (none)))) else (none)) = some r:=H
   have A11:=Aside0.mk A110
   clear A110
   by_cases c12 : t209 = (-1)
   ·rw [if_pos c12] at H
    have c12b0 : (t209 == (-1)) = true:=beq_iff_eq.mpr c12
    have c12b1 : (t209 != (-1)) = false:=bne_eq_false_iff_eq.mpr c12
    clear c12
    replace H:=Option.bind_eq_some_iff.mp H
    obtain ⟨⟨t210,t211,t212⟩,A130,H⟩:=H
    replace H : ((ikey_Compare.f k t172 t173 t174 t210 t211 t212).bind fun t213 => (if t213 = 1 then ((ikey_Sought.f (⟨#[97]⟩ : ByteArray) 5).bind fun bt214 => (if (bt214.1.toList == t172.toList && (bt214.2.1 == t173 && (bt214.2.2 == t174))) = true then ((ikey_Put.f ([] : List Int) t172 t173 t174).bind fun t217 => ((ratlinelaw02_Same.f t217 (([1,97,11] : List Int))).bind fun t223 => (if t223 = true then ((ratlinelaw03_one.f (⟨#[97]⟩ : ByteArray) 5 0).bind fun bt224 => ((ikey_Put.f ([] : List Int) bt224.1 bt224.2.1 bt224.2.2).bind fun t227 => ((ratlinelaw02_Same.f t227 (([1,97,10] : List Int))).bind fun t233 => (if t233 = true then (if (t179.toList == t172.toList && (t180 == t173 && (t181 == t174))) = true then ((ratlinelaw02_Same.f t182 (([7] : List Int))).bind fun t237 => (if t237 = true then (if t185 = true then (if t196 = true then (none) else ((ratlinelaw03_one.f (⟨#[97]⟩ : ByteArray) 5 0).bind fun bt238 => ((ikey_Entry.f bt238.1 bt238.2.1 bt238.2.2 (⟨#[120]⟩ : ByteArray)).bind fun t241 => (some (!t241))))) else (none)) else (none))) else (none)) else (none))))) else (none)))) else (none))) else (none))) = some r:=H
    have A13:=Aside0.mk A130
    clear A130
    replace H:=Option.bind_eq_some_iff.mp H
    obtain ⟨t213,A140,H⟩:=H
    replace H : (if t213 = 1 then ((ikey_Sought.f (⟨#[97]⟩ : ByteArray) 5).bind fun bt214 => (if (bt214.1.toList == t172.toList && (bt214.2.1 == t173 && (bt214.2.2 == t174))) = true then ((ikey_Put.f ([] : List Int) t172 t173 t174).bind fun t217 => ((ratlinelaw02_Same.f t217 (([1,97,11] : List Int))).bind fun t223 => (if t223 = true then ((ratlinelaw03_one.f (⟨#[97]⟩ : ByteArray) 5 0).bind fun bt224 => ((ikey_Put.f ([] : List Int) bt224.1 bt224.2.1 bt224.2.2).bind fun t227 => ((ratlinelaw02_Same.f t227 (([1,97,10] : List Int))).bind fun t233 => (if t233 = true then (if (t179.toList == t172.toList && (t180 == t173 && (t181 == t174))) = true then ((ratlinelaw02_Same.f t182 (([7] : List Int))).bind fun t237 => (if t237 = true then (if t185 = true then (if t196 = true then (none) else ((ratlinelaw03_one.f (⟨#[97]⟩ : ByteArray) 5 0).bind fun bt238 => ((ikey_Entry.f bt238.1 bt238.2.1 bt238.2.2 (⟨#[120]⟩ : ByteArray)).bind fun t241 => (some (!t241))))) else (none)) else (none))) else (none)) else (none))))) else (none)))) else (none))) else (none)) = some r:=H
    have A14:=Aside0.mk A140
    clear A140
    by_cases c15 : t213 = 1
    ·rw [if_pos c15] at H
     have c15b0 : (t213 == 1) = true:=beq_iff_eq.mpr c15
     have c15b1 : (t213 != 1) = false:=bne_eq_false_iff_eq.mpr c15
     clear c15
     replace H:=Option.bind_eq_some_iff.mp H
     obtain ⟨⟨t214,t215,t216⟩,A160,H⟩:=H
     replace H : (if (t214.toList == t172.toList && (t215 == t173 && (t216 == t174))) = true then ((ikey_Put.f ([] : List Int) t172 t173 t174).bind fun t217 => ((ratlinelaw02_Same.f t217 (([1,97,11] : List Int))).bind fun t223 => (if t223 = true then ((ratlinelaw03_one.f (⟨#[97]⟩ : ByteArray) 5 0).bind fun bt224 => ((ikey_Put.f ([] : List Int) bt224.1 bt224.2.1 bt224.2.2).bind fun t227 => ((ratlinelaw02_Same.f t227 (([1,97,10] : List Int))).bind fun t233 => (if t233 = true then (if (t179.toList == t172.toList && (t180 == t173 && (t181 == t174))) = true then ((ratlinelaw02_Same.f t182 (([7] : List Int))).bind fun t237 => (if t237 = true then (if t185 = true then (if t196 = true then (none) else ((ratlinelaw03_one.f (⟨#[97]⟩ : ByteArray) 5 0).bind fun bt238 => ((ikey_Entry.f bt238.1 bt238.2.1 bt238.2.2 (⟨#[120]⟩ : ByteArray)).bind fun t241 => (some (!t241))))) else (none)) else (none))) else (none)) else (none))))) else (none)))) else (none)) = some r:=H
     have A16:=Aside0.mk A160
     clear A160
     by_cases c17 : (t214.toList == t172.toList && (t215 == t173 && (t216 == t174))) = true
     ·rw [if_pos c17] at H
      have c17b0 : (t214.toList == t172.toList && (t215 == t173 && (t216 == t174))) = true:=c17
      (try (have c17e : (t214.toList = t172.toList ∧ (t215 = t173 ∧ (t216 = t174))) = True:=eq_true (by simpa using c17b0)))
      (try (have c17b1 : decide (t214.toList = t172.toList && (t215 == t173 && (t216 == t174))) = true:=by simpa using c17))
      (try (have c17b2 : (t214.toList == t172.toList && (t215 == t173 && (t216 == t174))) = true:=by simpa using c17))
      clear c17
      replace H:=Option.bind_eq_some_iff.mp H
      obtain ⟨t217,A180,H⟩:=H
      replace H : ((ratlinelaw02_Same.f t217 (([1,97,11] : List Int))).bind fun t223 => (if t223 = true then ((ratlinelaw03_one.f (⟨#[97]⟩ : ByteArray) 5 0).bind fun bt224 => ((ikey_Put.f ([] : List Int) bt224.1 bt224.2.1 bt224.2.2).bind fun t227 => ((ratlinelaw02_Same.f t227 (([1,97,10] : List Int))).bind fun t233 => (if t233 = true then (if (t179.toList == t172.toList && (t180 == t173 && (t181 == t174))) = true then ((ratlinelaw02_Same.f t182 (([7] : List Int))).bind fun t237 => (if t237 = true then (if t185 = true then (if t196 = true then (none) else ((ratlinelaw03_one.f (⟨#[97]⟩ : ByteArray) 5 0).bind fun bt238 => ((ikey_Entry.f bt238.1 bt238.2.1 bt238.2.2 (⟨#[120]⟩ : ByteArray)).bind fun t241 => (some (!t241))))) else (none)) else (none))) else (none)) else (none))))) else (none))) = some r:=H
      have A18:=Aside0.mk A180
      clear A180
      obtain ⟨y220,hy220⟩ : ∃ y_ : List Int,y_ = (([1,97,11] : List Int)):=⟨_,rfl⟩
      replace H : ((ratlinelaw02_Same.f t217 y220).bind fun t223 => (if t223 = true then ((ratlinelaw03_one.f (⟨#[97]⟩ : ByteArray) 5 0).bind fun bt224 => ((ikey_Put.f ([] : List Int) bt224.1 bt224.2.1 bt224.2.2).bind fun t227 => ((ratlinelaw02_Same.f t227 (([1,97,10] : List Int))).bind fun t233 => (if t233 = true then (if (t179.toList == t172.toList && (t180 == t173 && (t181 == t174))) = true then ((ratlinelaw02_Same.f t182 (([7] : List Int))).bind fun t237 => (if t237 = true then (if t185 = true then (if t196 = true then (none) else ((ratlinelaw03_one.f (⟨#[97]⟩ : ByteArray) 5 0).bind fun bt238 => ((ikey_Entry.f bt238.1 bt238.2.1 bt238.2.2 (⟨#[120]⟩ : ByteArray)).bind fun t241 => (some (!t241))))) else (none)) else (none))) else (none)) else (none))))) else (none))) = some r:=by first|(rw [hy220];with_reducible exact H)|(have H2_:=(Option.bind_some _ _).symm.trans H;rw [hy220];with_reducible exact H2_)|(have H2_:=(Option.bind_some _ _).symm.trans H;with_reducible exact H2_)|with_reducible exact H|(rw [hy220];exact H)|exact H
      have Ny220:=Aside0.mk hy220
      clear hy220
      replace H:=Option.bind_eq_some_iff.mp H
      obtain ⟨t223,A190,H⟩:=H
      replace H : (if t223 = true then ((ratlinelaw03_one.f (⟨#[97]⟩ : ByteArray) 5 0).bind fun bt224 => ((ikey_Put.f ([] : List Int) bt224.1 bt224.2.1 bt224.2.2).bind fun t227 => ((ratlinelaw02_Same.f t227 (([1,97,10] : List Int))).bind fun t233 => (if t233 = true then (if (t179.toList == t172.toList && (t180 == t173 && (t181 == t174))) = true then ((ratlinelaw02_Same.f t182 (([7] : List Int))).bind fun t237 => (if t237 = true then (if t185 = true then (if t196 = true then (none) else ((ratlinelaw03_one.f (⟨#[97]⟩ : ByteArray) 5 0).bind fun bt238 => ((ikey_Entry.f bt238.1 bt238.2.1 bt238.2.2 (⟨#[120]⟩ : ByteArray)).bind fun t241 => (some (!t241))))) else (none)) else (none))) else (none)) else (none))))) else (none)) = some r:=H
      have A19:=Aside0.mk A190
      clear A190
      by_cases c20 : t223 = true
      ·subst c20
       have H1 : ((ratlinelaw03_one.f (⟨#[97]⟩ : ByteArray) 5 0).bind fun bt224 => ((ikey_Put.f ([] : List Int) bt224.1 bt224.2.1 bt224.2.2).bind fun t227 => ((ratlinelaw02_Same.f t227 (([1,97,10] : List Int))).bind fun t233 => (if t233 = true then (if (t179.toList == t172.toList && (t180 == t173 && (t181 == t174))) = true then ((ratlinelaw02_Same.f t182 (([7] : List Int))).bind fun t237 => (if t237 = true then (if t185 = true then (if t196 = true then (none) else ((ratlinelaw03_one.f (⟨#[97]⟩ : ByteArray) 5 0).bind fun bt238 => ((ikey_Entry.f bt238.1 bt238.2.1 bt238.2.2 (⟨#[120]⟩ : ByteArray)).bind fun t241 => (some (!t241))))) else (none)) else (none))) else (none)) else (none))))) = some r:=by rw [if_pos rfl] at H;exact H
       clear H
       have H:=H1
       clear H1
       replace H:=Option.bind_eq_some_iff.mp H
       obtain ⟨⟨t224,t225,t226⟩,A210,H⟩:=H
       replace H : ((ikey_Put.f ([] : List Int) t224 t225 t226).bind fun t227 => ((ratlinelaw02_Same.f t227 (([1,97,10] : List Int))).bind fun t233 => (if t233 = true then (if (t179.toList == t172.toList && (t180 == t173 && (t181 == t174))) = true then ((ratlinelaw02_Same.f t182 (([7] : List Int))).bind fun t237 => (if t237 = true then (if t185 = true then (if t196 = true then (none) else ((ratlinelaw03_one.f (⟨#[97]⟩ : ByteArray) 5 0).bind fun bt238 => ((ikey_Entry.f bt238.1 bt238.2.1 bt238.2.2 (⟨#[120]⟩ : ByteArray)).bind fun t241 => (some (!t241))))) else (none)) else (none))) else (none)) else (none)))) = some r:=H
       have A21:=Aside0.mk A210
       clear A210
       replace H:=Option.bind_eq_some_iff.mp H
       obtain ⟨t227,A220,H⟩:=H
       replace H : ((ratlinelaw02_Same.f t227 (([1,97,10] : List Int))).bind fun t233 => (if t233 = true then (if (t179.toList == t172.toList && (t180 == t173 && (t181 == t174))) = true then ((ratlinelaw02_Same.f t182 (([7] : List Int))).bind fun t237 => (if t237 = true then (if t185 = true then (if t196 = true then (none) else ((ratlinelaw03_one.f (⟨#[97]⟩ : ByteArray) 5 0).bind fun bt238 => ((ikey_Entry.f bt238.1 bt238.2.1 bt238.2.2 (⟨#[120]⟩ : ByteArray)).bind fun t241 => (some (!t241))))) else (none)) else (none))) else (none)) else (none))) = some r:=H
       have A22:=Aside0.mk A220
       clear A220
       obtain ⟨y230,hy230⟩ : ∃ y_ : List Int,y_ = (([1,97,10] : List Int)):=⟨_,rfl⟩
       replace H : ((ratlinelaw02_Same.f t227 y230).bind fun t233 => (if t233 = true then (if (t179.toList == t172.toList && (t180 == t173 && (t181 == t174))) = true then ((ratlinelaw02_Same.f t182 (([7] : List Int))).bind fun t237 => (if t237 = true then (if t185 = true then (if t196 = true then (none) else ((ratlinelaw03_one.f (⟨#[97]⟩ : ByteArray) 5 0).bind fun bt238 => ((ikey_Entry.f bt238.1 bt238.2.1 bt238.2.2 (⟨#[120]⟩ : ByteArray)).bind fun t241 => (some (!t241))))) else (none)) else (none))) else (none)) else (none))) = some r:=by first|(rw [hy230];with_reducible exact H)|(have H2_:=(Option.bind_some _ _).symm.trans H;rw [hy230];with_reducible exact H2_)|(have H2_:=(Option.bind_some _ _).symm.trans H;with_reducible exact H2_)|with_reducible exact H|(rw [hy230];exact H)|exact H
       have Ny230:=Aside0.mk hy230
       clear hy230
       replace H:=Option.bind_eq_some_iff.mp H
       obtain ⟨t233,A230,H⟩:=H
       replace H : (if t233 = true then (if (t179.toList == t172.toList && (t180 == t173 && (t181 == t174))) = true then ((ratlinelaw02_Same.f t182 (([7] : List Int))).bind fun t237 => (if t237 = true then (if t185 = true then (if t196 = true then (none) else ((ratlinelaw03_one.f (⟨#[97]⟩ : ByteArray) 5 0).bind fun bt238 => ((ikey_Entry.f bt238.1 bt238.2.1 bt238.2.2 (⟨#[120]⟩ : ByteArray)).bind fun t241 => (some (!t241))))) else (none)) else (none))) else (none)) else (none)) = some r:=H
       have A23:=Aside0.mk A230
       clear A230
       by_cases c24 : t233 = true
       ·subst c24
        have H1 : (if (t179.toList == t172.toList && (t180 == t173 && (t181 == t174))) = true then ((ratlinelaw02_Same.f t182 (([7] : List Int))).bind fun t237 => (if t237 = true then (if t185 = true then (if t196 = true then (none) else ((ratlinelaw03_one.f (⟨#[97]⟩ : ByteArray) 5 0).bind fun bt238 => ((ikey_Entry.f bt238.1 bt238.2.1 bt238.2.2 (⟨#[120]⟩ : ByteArray)).bind fun t241 => (some (!t241))))) else (none)) else (none))) else (none)) = some r:=by rw [if_pos rfl] at H;exact H
        clear H
        have H:=H1
        clear H1
        by_cases c25 : (t179.toList == t172.toList && (t180 == t173 && (t181 == t174))) = true
        ·rw [if_pos c25] at H
         have c25b0 : (t179.toList == t172.toList && (t180 == t173 && (t181 == t174))) = true:=c25
         (try (have c25e : (t179.toList = t172.toList ∧ (t180 = t173 ∧ (t181 = t174))) = True:=eq_true (by simpa using c25b0)))
         (try (have c25b1 : decide (t179.toList = t172.toList && (t180 == t173 && (t181 == t174))) = true:=by simpa using c25))
         (try (have c25b2 : (t179.toList == t172.toList && (t180 == t173 && (t181 == t174))) = true:=by simpa using c25))
         clear c25
         obtain ⟨y234,hy234⟩ : ∃ y_ : List Int,y_ = (([7] : List Int)):=⟨_,rfl⟩
         replace H : ((ratlinelaw02_Same.f t182 y234).bind fun t237 => (if t237 = true then (if t185 = true then (if t196 = true then (none) else ((ratlinelaw03_one.f (⟨#[97]⟩ : ByteArray) 5 0).bind fun bt238 => ((ikey_Entry.f bt238.1 bt238.2.1 bt238.2.2 (⟨#[120]⟩ : ByteArray)).bind fun t241 => (some (!t241))))) else (none)) else (none))) = some r:=by first|(rw [hy234];with_reducible exact H)|(have H2_:=(Option.bind_some _ _).symm.trans H;rw [hy234];with_reducible exact H2_)|(have H2_:=(Option.bind_some _ _).symm.trans H;with_reducible exact H2_)|with_reducible exact H|(rw [hy234];exact H)|exact H
         have Ny234:=Aside0.mk hy234
         clear hy234
         replace H:=Option.bind_eq_some_iff.mp H
         obtain ⟨t237,A260,H⟩:=H
         replace H : (if t237 = true then (if t185 = true then (if t196 = true then (none) else ((ratlinelaw03_one.f (⟨#[97]⟩ : ByteArray) 5 0).bind fun bt238 => ((ikey_Entry.f bt238.1 bt238.2.1 bt238.2.2 (⟨#[120]⟩ : ByteArray)).bind fun t241 => (some (!t241))))) else (none)) else (none)) = some r:=H
         have A26:=Aside0.mk A260
         clear A260
         by_cases c27 : t237 = true
         ·subst c27
          have H1 : (if t185 = true then (if t196 = true then (none) else ((ratlinelaw03_one.f (⟨#[97]⟩ : ByteArray) 5 0).bind fun bt238 => ((ikey_Entry.f bt238.1 bt238.2.1 bt238.2.2 (⟨#[120]⟩ : ByteArray)).bind fun t241 => (some (!t241))))) else (none)) = some r:=by rw [if_pos rfl] at H;exact H
          clear H
          have H:=H1
          clear H1
          by_cases c28 : t185 = true
          ·subst c28
           have H1 : (if t196 = true then (none) else ((ratlinelaw03_one.f (⟨#[97]⟩ : ByteArray) 5 0).bind fun bt238 => ((ikey_Entry.f bt238.1 bt238.2.1 bt238.2.2 (⟨#[120]⟩ : ByteArray)).bind fun t241 => (some (!t241))))) = some r:=by rw [if_pos rfl] at H;exact H
           clear H
           have H:=H1
           clear H1
           by_cases c29 : t196 = true
           ·subst c29
            have H1 : (none) = some r:=by rw [if_pos rfl] at H;exact H
            clear H
            have H:=H1
            clear H1
            exact absurd H (by simp)
           ·replace c29:=Bool.eq_false_iff.mpr c29
            subst c29
            have H1 : ((ratlinelaw03_one.f (⟨#[97]⟩ : ByteArray) 5 0).bind fun bt238 => ((ikey_Entry.f bt238.1 bt238.2.1 bt238.2.2 (⟨#[120]⟩ : ByteArray)).bind fun t241 => (some (!t241)))) = some r:=by rw [if_neg (show ¬ (false = true) by decide)] at H;exact H
            clear H
            have H:=H1
            clear H1
            replace H:=Option.bind_eq_some_iff.mp H
            obtain ⟨⟨t238,t239,t240⟩,A300,H⟩:=H
            replace H : ((ikey_Entry.f t238 t239 t240 (⟨#[120]⟩ : ByteArray)).bind fun t241 => (some (!t241))) = some r:=H
            have A30:=Aside0.mk A300
            clear A300
            replace H:=Option.bind_eq_some_iff.mp H
            obtain ⟨t241,A310,H⟩:=H
            replace H : (some (!t241)) = some r:=H
            have A31:=Aside0.mk A310
            clear A310
            obtain rfl:=Option.some.inj H
            go_enter Try.func26,Try.ntmps26
            try go_wp2_with (first|((with_reducible refine gate_callee (f:=33) rfl ?_);refine goesL_ (some 9) rfl rfl Try.func33 (by kernel_rfl) rfl #[.string (⟨#[97]⟩ : ByteArray),.int .u64 5,.int .u8 1] rfl (by (try simp only [List.map_toArray,List.map_cons,List.map_nil]);first|done|rfl|(simp only [List.length_drop,List.length_take];rfl)) ?_;(with_reducible refine (ratlinelaw03_one.calls (⟨#[97]⟩ : ByteArray) 5 1 t172 t173 t174 _ A1.out).mono ?_);rintro e w32 ⟨rfl,hb⟩;refine ⟨_,rfl,?_⟩;have n0_:=Aside0.mk (below_step (by repeat (first|(with_reducible first|exact HB.out|apply below_alloc|apply pw_below_drewN|apply below_drew1)|exact HB.out)) hb);clear HB;have HB:=n0_;clear n0_;(try clear hb);(try clear hb2);(try clear hk);(try clear hi))|((with_reducible refine gate_dst (N:=1) rfl ?_);(try (refine gate_guard (by rfl) ?_;dsimp only));refine box_event ?hg (N:=1) ?hd (cs:=#[.string (⟨#[]⟩ : ByteArray),.int .u64 0,.int .u8 0]) (t:=39) ?hr ?_;(case hd => rfl);(case hg => rfl);(case hr => first|(go_simp;done)|(go_simp;rfl));intro gb175 hg w33 hbox hb;have n0_:=Aside0.mk (below_step (by repeat (first|(with_reducible first|exact HB.out|apply below_alloc|apply pw_below_drewN|apply below_drew1)|exact HB.out)) hb);have n1_:=Aside0.mk (hbox);have n2_:=Aside0.mk ((by rw [hg];exact (below_size (by repeat (first|(with_reducible first|exact HB.out|apply below_alloc|apply pw_below_drewN|apply below_drew1)|exact HB.out))) : w.heap.size ≤ gb175));have n3_:=Aside0.mk ((by rw [hg];exact (below_size (by repeat (first|(with_reducible first|exact HB.out|apply below_alloc|apply pw_below_drewN|apply below_drew1)|exact HB.out))) : w.heap.size ≤ gb175));clear HB;have HB:=n0_;have BK175:=n1_;have GW175:=n2_;have GE175:=n3_;clear n0_ n1_ n2_ n3_;clear hb hbox hg;have hcz34_0 : w33.cell? ⟨gb175,0,none⟩ = some (.string (⟨#[]⟩ : ByteArray)):=(blk_cell BK175.out 0).trans rfl;have hcz34_1 : w33.cell? ⟨gb175,1,none⟩ = some (.int .u64 0):=(blk_cell BK175.out 1).trans rfl;have hcz34_2 : w33.cell? ⟨gb175,2,none⟩ = some (.int .u8 0):=(blk_cell BK175.out 2).trans rfl;have hfz34_0:=blk_frozen BK175.out 0;have hfz34_1:=blk_frozen BK175.out 1;have hfz34_2:=blk_frozen BK175.out 2)|((with_reducible refine gate_dst (N:=11) rfl ?_);(try (refine gate_guard (by rfl) ?_;dsimp only));refine Kd.R_lit (Kd.int .u8) _ 5 ?hg (N:=11) ?hd (xs:=([1,97,11,7] : List Int)) (inner:=[.int .u8 1,.int .u8 97,.int .u8 11,.int .u8 7]) (ok:=fun _ => True) (okp:=fun _ => True) ?hr ?hp (fun _ hk => hk) trivial (Below.refl _ _) (Nat.le_refl _) (by simp) ?_;(case hd => rfl);(case hg => rfl);(case hr => first|(go_simp;done)|(go_simp;rfl));(case hp => exact (Reps.one (show Kd.M (Kd.int .u8) _ _ _ 1 [.int .u8 1] from rfl) (Reps.one (show Kd.M (Kd.int .u8) _ _ _ 97 [.int .u8 97] from rfl) (Reps.one (show Kd.M (Kd.int .u8) _ _ _ 11 [.int .u8 11] from rfl) (Reps.one (show Kd.M (Kd.int .u8) _ _ _ 7 [.int .u8 7] from rfl) (Reps.none _ _))))));intro v177 w35 ho36 hb hg_ hnew_;clear hg_ hnew_;(first|rw [← Ny176.out] at ho36|(simp only [Int.reduceToNat] at ho36;rw [← Ny176.out] at ho36));have n0_:=Aside0.mk (Kd.R_lower ho36 (below_size (by repeat (first|(with_reducible first|exact HB.out|apply below_alloc|apply pw_below_drewN|apply below_drew1|refine below_set ?_ GE175.out)|exact HB.out))));have n1_:=Aside0.mk (blk_below (g:=gb175) (o:=.cells #[.string t172,.int .u64 t173,.int .u8 t174] 39 (0,0)) (by (with_reducible repeat (first|refine bN ?_ _|refine bD ?_|refine bA ?_ _));refine blk_put (cs:=#[.string t172,.int .u64 t173,.int .u8 0]) ?_ 2 _ rfl;(with_reducible repeat (first|refine bN ?_ _|refine bD ?_|refine bA ?_ _));refine blk_put (cs:=#[.string t172,.int .u64 0,.int .u8 0]) ?_ 1 _ rfl;(with_reducible repeat (first|refine bN ?_ _|refine bD ?_|refine bA ?_ _));refine blk_put (cs:=#[.string (⟨#[]⟩ : ByteArray),.int .u64 0,.int .u8 0]) ?_ 0 _ rfl;(with_reducible repeat (first|refine bN ?_ _|refine bD ?_|refine bA ?_ _));exact BK175.out) hb);have n2_:=Aside0.mk (below_step (by repeat (first|(with_reducible first|exact HB.out|apply below_alloc|apply pw_below_drewN|apply below_drew1|refine below_set ?_ GE175.out)|exact HB.out)) hb);clear BK175;clear HB;have HO178:=n0_;have BK175:=n1_;have HB:=n2_;clear n0_ n1_ n2_;clear hb ho36;obtain ⟨Ao37,co37,eo37⟩:=Kd.R_slice HO178.out;subst eo37)|((with_reducible refine gate_callee (f:=32) rfl ?_);refine goesL_ (some 12) rfl rfl Try.func32 (by kernel_rfl) rfl #[.slice Ao37 y176.length co37] rfl (by (try simp only [List.map_toArray,List.map_cons,List.map_nil]);first|done|rfl|(simp only [List.length_drop,List.length_take];rfl)) ?_;(with_reducible refine (ikey_Take.calls _ _ y176 t179 t180 t181 t182 true _ ?side1 ?side2 A2.out).mono ?_);(case side1 => repeat (first|exact (Kd.R_reads' HO178.out).2.2|(with_reducible refine Kd.C_alloc ?_ _)|(with_reducible refine Kd.C_drewN ?_ _)|(with_reducible refine Kd.C_drew ?_)));(case side2 => exact (Kd.R_reads' HO178.out).2.1);rintro e w38 ⟨v183,rfl,ho0,hb⟩;refine ⟨_,rfl,?_⟩;have n0_:=Aside0.mk (Kd.R_elder' (by (with_reducible repeat (first|apply zA|apply zN|apply zD));exact HO178.out) (Kd.R_base ho0) hb);have n1_:=Aside0.mk (Kd.R_lower (Kd.R_new' ho0 (Kd.R_lt (by (with_reducible repeat (first|apply zA|apply zN|apply zD));exact HO178.out))) (below_size (by repeat (first|(with_reducible first|exact HB.out|apply below_alloc|apply pw_below_drewN|apply below_drew1|refine below_set ?_ GE175.out)|exact HB.out))));have n2_:=Aside0.mk (blk_below (g:=gb175) (o:=.cells #[.string t172,.int .u64 t173,.int .u8 t174] 39 (0,0)) (by (with_reducible repeat (first|refine bN ?_ _|refine bD ?_|refine bA ?_ _));exact BK175.out) hb);have n3_:=Aside0.mk (below_step (by repeat (first|(with_reducible first|exact HB.out|apply below_alloc|apply pw_below_drewN|apply below_drew1|refine below_set ?_ GE175.out)|exact HB.out)) hb);clear HO178;clear BK175;clear HB;have HO178:=n0_;have HO184:=n1_;have BK175:=n2_;have HB:=n3_;clear n0_ n1_ n2_ n3_;(try clear hb);(try clear hb2);(try clear hk);(try clear hi);(try clear ho0))|((with_reducible refine gate_dst (N:=2) rfl ?_);(try (refine gate_guard (by rfl) ?_;dsimp only));refine box_event ?hg (N:=2) ?hd (cs:=#[.string (⟨#[]⟩ : ByteArray),.int .u64 0,.int .u8 0]) (t:=39) ?hr ?_;(case hd => rfl);(case hg => rfl);(case hr => first|(go_simp;done)|(go_simp;rfl));intro gb186 hg w39 hbox hb;have n0_:=Aside0.mk (Kd.R_below (by (with_reducible repeat (first|apply zA|apply zN|apply zD));exact HO178.out) hb);have n1_:=Aside0.mk (Kd.R_below (by (with_reducible repeat (first|apply zA|apply zN|apply zD));exact HO184.out) hb);have n2_:=Aside0.mk (blk_below (g:=gb175) (o:=.cells #[.string t172,.int .u64 t173,.int .u8 t174] 39 (0,0)) (by (with_reducible repeat (first|refine bN ?_ _|refine bD ?_|refine bA ?_ _));exact BK175.out) hb);have n3_:=Aside0.mk (below_step (by repeat (first|(with_reducible first|exact HB.out|apply below_alloc|apply pw_below_drewN|apply below_drew1|refine below_set ?_ GE175.out)|exact HB.out)) hb);have n4_:=Aside0.mk (hbox);have n5_:=Aside0.mk ((by rw [hg];exact (below_size (by repeat (first|(with_reducible first|exact HB.out|apply below_alloc|apply pw_below_drewN|apply below_drew1|refine below_set ?_ GE175.out)|exact HB.out))) : w.heap.size ≤ gb186));have n6_:=Aside0.mk ((by rw [hg];exact (below_size (by repeat (first|(with_reducible first|exact HB.out|apply below_alloc|apply pw_below_drewN|apply below_drew1|refine below_set ?_ GE175.out)|exact HB.out))) : w.heap.size ≤ gb186));have n7_:=Aside0.mk ((by rw [hg];exact Nat.ne_of_lt (blk_lt (g:=gb175) (o:=.cells #[.string t172,.int .u64 t173,.int .u8 t174] 39 (0,0)) (by (with_reducible repeat (first|refine bN ?_ _|refine bD ?_|refine bA ?_ _));exact BK175.out)) : gb175 ≠ gb186));have n8_:=Aside0.mk ((by rw [hg];exact Nat.ne_of_gt (blk_lt (g:=gb175) (o:=.cells #[.string t172,.int .u64 t173,.int .u8 t174] 39 (0,0)) (by (with_reducible repeat (first|refine bN ?_ _|refine bD ?_|refine bA ?_ _));exact BK175.out)) : gb186 ≠ gb175));clear HO178;clear HO184;clear BK175;clear HB;have HO178:=n0_;have HO184:=n1_;have BK175:=n2_;have HB:=n3_;have BK186:=n4_;have GW186:=n5_;have GE186:=n6_;have NB175_186:=n7_;have NB186_175:=n8_;clear n0_ n1_ n2_ n3_ n4_ n5_ n6_ n7_ n8_;clear hb hbox hg;have hnb40:=NB186_175.out;have hnc40:=NB175_186.out;have hcz41_0 : w39.cell? ⟨gb186,0,none⟩ = some (.string (⟨#[]⟩ : ByteArray)):=(blk_cell BK186.out 0).trans rfl;have hcz41_1 : w39.cell? ⟨gb186,1,none⟩ = some (.int .u64 0):=(blk_cell BK186.out 1).trans rfl;have hcz41_2 : w39.cell? ⟨gb186,2,none⟩ = some (.int .u8 0):=(blk_cell BK186.out 2).trans rfl;have hfz41_0:=blk_frozen BK186.out 0;have hfz41_1:=blk_frozen BK186.out 1;have hfz41_2:=blk_frozen BK186.out 2)|((with_reducible refine gate_dst (N:=17) rfl ?_);(try (refine gate_guard (by rfl) ?_;dsimp only));refine Kd.R_lit (Kd.int .u8) _ 5 ?hg (N:=17) ?hd (xs:=([0,11] : List Int)) (inner:=[.int .u8 0,.int .u8 11]) (ok:=fun _ => True) (okp:=fun _ => True) ?hr ?hp (fun _ hk => hk) trivial (Below.refl _ _) (Nat.le_refl _) (by simp) ?_;(case hd => rfl);(case hg => rfl);(case hr => first|(go_simp;done)|(go_simp;rfl));(case hp => exact (Reps.one (show Kd.M (Kd.int .u8) _ _ _ 0 [.int .u8 0] from rfl) (Reps.one (show Kd.M (Kd.int .u8) _ _ _ 11 [.int .u8 11] from rfl) (Reps.none _ _))));intro v188 w42 ho43 hb hg_ hnew_;clear hg_ hnew_;(first|rw [← Ny187.out] at ho43|(simp only [Int.reduceToNat] at ho43;rw [← Ny187.out] at ho43));have n0_:=Aside0.mk (Kd.R_elder' (by (with_reducible repeat (first|apply zA|apply zN|apply zD));exact (Kd.R_mono (Kd.R_far (p:=⟨gb186,2,none⟩) (Kd.R_far (p:=⟨gb186,1,none⟩) (Kd.R_far (p:=⟨gb186,0,none⟩) (Kd.R_types HO178.out BK186.out (by decide)) (fun _ hk => hk.2) (.string t179)) (fun _ hk => hk.2) (.int .u64 t180)) (fun _ hk => hk.2) (.int .u8 t181)) (fun _ h_ => h_.1))) (Kd.R_base ho43) hb);have n1_:=Aside0.mk (Kd.R_elder' (by (with_reducible repeat (first|apply zA|apply zN|apply zD));exact (Kd.R_mono (Kd.R_far (p:=⟨gb186,2,none⟩) (Kd.R_far (p:=⟨gb186,1,none⟩) (Kd.R_far (p:=⟨gb186,0,none⟩) (Kd.R_types HO184.out BK186.out (by decide)) (fun _ hk => hk.2) (.string t179)) (fun _ hk => hk.2) (.int .u64 t180)) (fun _ hk => hk.2) (.int .u8 t181)) (fun _ h_ => h_.1))) (Kd.R_base ho43) hb);have n2_:=Aside0.mk (Kd.R_lower (Kd.R_new' (Kd.R_new' ho43 (Kd.R_lt (by (with_reducible repeat (first|apply zA|apply zN|apply zD));exact (Kd.R_mono (Kd.R_far (p:=⟨gb186,2,none⟩) (Kd.R_far (p:=⟨gb186,1,none⟩) (Kd.R_far (p:=⟨gb186,0,none⟩) (Kd.R_types HO178.out BK186.out (by decide)) (fun _ hk => hk.2) (.string t179)) (fun _ hk => hk.2) (.int .u64 t180)) (fun _ hk => hk.2) (.int .u8 t181)) (fun _ h_ => h_.1))))) (Kd.R_lt (by (with_reducible repeat (first|apply zA|apply zN|apply zD));exact (Kd.R_mono (Kd.R_far (p:=⟨gb186,2,none⟩) (Kd.R_far (p:=⟨gb186,1,none⟩) (Kd.R_far (p:=⟨gb186,0,none⟩) (Kd.R_types HO184.out BK186.out (by decide)) (fun _ hk => hk.2) (.string t179)) (fun _ hk => hk.2) (.int .u64 t180)) (fun _ hk => hk.2) (.int .u8 t181)) (fun _ h_ => h_.1))))) (below_size (by repeat (first|(with_reducible first|exact HB.out|apply below_alloc|apply pw_below_drewN|apply below_drew1|refine below_set ?_ GE175.out|refine below_set ?_ GE186.out)|exact HB.out))));have n3_:=Aside0.mk (blk_below (g:=gb175) (o:=.cells #[.string t172,.int .u64 t173,.int .u8 t174] 39 (0,0)) (by (with_reducible repeat (first|refine bN ?_ _|refine bD ?_|refine bA ?_ _));refine blk_far ?_ NB175_186.out _;(with_reducible repeat (first|refine bN ?_ _|refine bD ?_|refine bA ?_ _));refine blk_far ?_ NB175_186.out _;(with_reducible repeat (first|refine bN ?_ _|refine bD ?_|refine bA ?_ _));refine blk_far ?_ NB175_186.out _;(with_reducible repeat (first|refine bN ?_ _|refine bD ?_|refine bA ?_ _));exact BK175.out) hb);have n4_:=Aside0.mk (blk_below (g:=gb186) (o:=.cells #[.string t179,.int .u64 t180,.int .u8 t181] 39 (0,0)) (by (with_reducible repeat (first|refine bN ?_ _|refine bD ?_|refine bA ?_ _));refine blk_put (cs:=#[.string t179,.int .u64 t180,.int .u8 0]) ?_ 2 _ rfl;(with_reducible repeat (first|refine bN ?_ _|refine bD ?_|refine bA ?_ _));refine blk_put (cs:=#[.string t179,.int .u64 0,.int .u8 0]) ?_ 1 _ rfl;(with_reducible repeat (first|refine bN ?_ _|refine bD ?_|refine bA ?_ _));refine blk_put (cs:=#[.string (⟨#[]⟩ : ByteArray),.int .u64 0,.int .u8 0]) ?_ 0 _ rfl;(with_reducible repeat (first|refine bN ?_ _|refine bD ?_|refine bA ?_ _));exact BK186.out) hb);have n5_:=Aside0.mk (below_step (by repeat (first|(with_reducible first|exact HB.out|apply below_alloc|apply pw_below_drewN|apply below_drew1|refine below_set ?_ GE175.out|refine below_set ?_ GE186.out)|exact HB.out)) hb);clear HO178;clear HO184;clear BK175;clear BK186;clear HB;have HO178:=n0_;have HO184:=n1_;have HO189:=n2_;have BK175:=n3_;have BK186:=n4_;have HB:=n5_;clear n0_ n1_ n2_ n3_ n4_ n5_;clear hb ho43;obtain ⟨Ao44,co44,eo44⟩:=Kd.R_slice HO189.out;subst eo44)|((with_reducible refine gate_callee (f:=32) rfl ?_);refine goesL_ (some 18) rfl rfl Try.func32 (by kernel_rfl) rfl #[.slice Ao44 y187.length co44] rfl (by (try simp only [List.map_toArray,List.map_cons,List.map_nil]);first|done|rfl|(simp only [List.length_drop,List.length_take];rfl)) ?_;(with_reducible refine (ikey_Take.calls _ _ y187 t190 t191 t192 t193 false _ ?side1 ?side2 A3.out).mono ?_);(case side1 => repeat (first|exact (Kd.R_reads' HO189.out).2.2|(with_reducible refine Kd.C_alloc ?_ _)|(with_reducible refine Kd.C_drewN ?_ _)|(with_reducible refine Kd.C_drew ?_)));(case side2 => exact (Kd.R_reads' HO189.out).2.1);rintro e w45 ⟨v194,rfl,ho0,hb⟩;refine ⟨_,rfl,?_⟩;have n0_:=Aside0.mk (Kd.R_elder' (by (with_reducible repeat (first|apply zA|apply zN|apply zD));exact HO178.out) (Kd.R_base ho0) hb);have n1_:=Aside0.mk (Kd.R_elder' (by (with_reducible repeat (first|apply zA|apply zN|apply zD));exact HO184.out) (Kd.R_base ho0) hb);have n2_:=Aside0.mk (Kd.R_elder' (by (with_reducible repeat (first|apply zA|apply zN|apply zD));exact HO189.out) (Kd.R_base ho0) hb);have n3_:=Aside0.mk (Kd.R_lower (Kd.R_new' (Kd.R_new' (Kd.R_new' ho0 (Kd.R_lt (by (with_reducible repeat (first|apply zA|apply zN|apply zD));exact HO178.out))) (Kd.R_lt (by (with_reducible repeat (first|apply zA|apply zN|apply zD));exact HO184.out))) (Kd.R_lt (by (with_reducible repeat (first|apply zA|apply zN|apply zD));exact HO189.out))) (below_size (by repeat (first|(with_reducible first|exact HB.out|apply below_alloc|apply pw_below_drewN|apply below_drew1|refine below_set ?_ GE175.out|refine below_set ?_ GE186.out)|exact HB.out))));have n4_:=Aside0.mk (blk_below (g:=gb175) (o:=.cells #[.string t172,.int .u64 t173,.int .u8 t174] 39 (0,0)) (by (with_reducible repeat (first|refine bN ?_ _|refine bD ?_|refine bA ?_ _));exact BK175.out) hb);have n5_:=Aside0.mk (blk_below (g:=gb186) (o:=.cells #[.string t179,.int .u64 t180,.int .u8 t181] 39 (0,0)) (by (with_reducible repeat (first|refine bN ?_ _|refine bD ?_|refine bA ?_ _));exact BK186.out) hb);have n6_:=Aside0.mk (below_step (by repeat (first|(with_reducible first|exact HB.out|apply below_alloc|apply pw_below_drewN|apply below_drew1|refine below_set ?_ GE175.out|refine below_set ?_ GE186.out)|exact HB.out)) hb);clear HO178;clear HO184;clear HO189;clear BK175;clear BK186;clear HB;have HO178:=n0_;have HO184:=n1_;have HO189:=n2_;have HO195:=n3_;have BK175:=n4_;have BK186:=n5_;have HB:=n6_;clear n0_ n1_ n2_ n3_ n4_ n5_ n6_;(try clear hb);(try clear hb2);(try clear hk);(try clear hi);(try clear ho0))|((with_reducible refine gate_dst (N:=5) rfl ?_);(try (refine gate_guard (by rfl) ?_;dsimp only));refine box_event ?hg (N:=5) ?hd (cs:=#[.string (⟨#[]⟩ : ByteArray),.int .u64 0,.int .u8 0]) (t:=39) ?hr ?_;(case hd => rfl);(case hg => rfl);(case hr => first|(go_simp;done)|(go_simp;rfl));intro gb197 hg w46 hbox hb;have n0_:=Aside0.mk (Kd.R_below (by (with_reducible repeat (first|apply zA|apply zN|apply zD));exact HO178.out) hb);have n1_:=Aside0.mk (Kd.R_below (by (with_reducible repeat (first|apply zA|apply zN|apply zD));exact HO184.out) hb);have n2_:=Aside0.mk (Kd.R_below (by (with_reducible repeat (first|apply zA|apply zN|apply zD));exact HO189.out) hb);have n3_:=Aside0.mk (Kd.R_below (by (with_reducible repeat (first|apply zA|apply zN|apply zD));exact HO195.out) hb);have n4_:=Aside0.mk (blk_below (g:=gb175) (o:=.cells #[.string t172,.int .u64 t173,.int .u8 t174] 39 (0,0)) (by (with_reducible repeat (first|refine bN ?_ _|refine bD ?_|refine bA ?_ _));exact BK175.out) hb);have n5_:=Aside0.mk (blk_below (g:=gb186) (o:=.cells #[.string t179,.int .u64 t180,.int .u8 t181] 39 (0,0)) (by (with_reducible repeat (first|refine bN ?_ _|refine bD ?_|refine bA ?_ _));exact BK186.out) hb);have n6_:=Aside0.mk (below_step (by repeat (first|(with_reducible first|exact HB.out|apply below_alloc|apply pw_below_drewN|apply below_drew1|refine below_set ?_ GE175.out|refine below_set ?_ GE186.out)|exact HB.out)) hb);have n7_:=Aside0.mk (hbox);have n8_:=Aside0.mk ((by rw [hg];exact (below_size (by repeat (first|(with_reducible first|exact HB.out|apply below_alloc|apply pw_below_drewN|apply below_drew1|refine below_set ?_ GE175.out|refine below_set ?_ GE186.out)|exact HB.out))) : w.heap.size ≤ gb197));have n9_:=Aside0.mk ((by rw [hg];exact (below_size (by repeat (first|(with_reducible first|exact HB.out|apply below_alloc|apply pw_below_drewN|apply below_drew1|refine below_set ?_ GE175.out|refine below_set ?_ GE186.out)|exact HB.out))) : w.heap.size ≤ gb197));have n10_:=Aside0.mk ((by rw [hg];exact Nat.ne_of_lt (blk_lt (g:=gb175) (o:=.cells #[.string t172,.int .u64 t173,.int .u8 t174] 39 (0,0)) (by (with_reducible repeat (first|refine bN ?_ _|refine bD ?_|refine bA ?_ _));exact BK175.out)) : gb175 ≠ gb197));have n11_:=Aside0.mk ((by rw [hg];exact Nat.ne_of_gt (blk_lt (g:=gb175) (o:=.cells #[.string t172,.int .u64 t173,.int .u8 t174] 39 (0,0)) (by (with_reducible repeat (first|refine bN ?_ _|refine bD ?_|refine bA ?_ _));exact BK175.out)) : gb197 ≠ gb175));have n12_:=Aside0.mk ((by rw [hg];exact Nat.ne_of_lt (blk_lt (g:=gb186) (o:=.cells #[.string t179,.int .u64 t180,.int .u8 t181] 39 (0,0)) (by (with_reducible repeat (first|refine bN ?_ _|refine bD ?_|refine bA ?_ _));exact BK186.out)) : gb186 ≠ gb197));have n13_:=Aside0.mk ((by rw [hg];exact Nat.ne_of_gt (blk_lt (g:=gb186) (o:=.cells #[.string t179,.int .u64 t180,.int .u8 t181] 39 (0,0)) (by (with_reducible repeat (first|refine bN ?_ _|refine bD ?_|refine bA ?_ _));exact BK186.out)) : gb197 ≠ gb186));clear HO178;clear HO184;clear HO189;clear HO195;clear BK175;clear BK186;clear HB;have HO178:=n0_;have HO184:=n1_;have HO189:=n2_;have HO195:=n3_;have BK175:=n4_;have BK186:=n5_;have HB:=n6_;have BK197:=n7_;have GW197:=n8_;have GE197:=n9_;have NB175_197:=n10_;have NB197_175:=n11_;have NB186_197:=n12_;have NB197_186:=n13_;clear n0_ n1_ n2_ n3_ n4_ n5_ n6_ n7_ n8_ n9_ n10_ n11_ n12_ n13_;clear hb hbox hg;have hnb47:=NB197_175.out;have hnc47:=NB175_197.out;have hnb48:=NB197_186.out;have hnc48:=NB186_197.out;have hcz49_0 : w46.cell? ⟨gb197,0,none⟩ = some (.string (⟨#[]⟩ : ByteArray)):=(blk_cell BK197.out 0).trans rfl;have hcz49_1 : w46.cell? ⟨gb197,1,none⟩ = some (.int .u64 0):=(blk_cell BK197.out 1).trans rfl;have hcz49_2 : w46.cell? ⟨gb197,2,none⟩ = some (.int .u8 0):=(blk_cell BK197.out 2).trans rfl;have hfz49_0:=blk_frozen BK197.out 0;have hfz49_1:=blk_frozen BK197.out 1;have hfz49_2:=blk_frozen BK197.out 2;obtain ⟨Ao50,co50,eo50⟩:=Kd.R_slice HO184.out;subst eo50))
            have n0_ : Aside0 (Kd.R (Kd.int .u8) 5 (((w46.setCell ⟨gb197,0,none⟩ (.string t190)).setCell ⟨gb197,1,none⟩ (.int .u64 t191)).setCell ⟨gb197,2,none⟩ (.int .u8 t192)) w.heap.size (fun k_ => nB k_ Ao50 t182.length co50 ∧ nB k_ Ao44 y187.length co44 ∧ some k_ ≠ (v194 : Value).ownBlock) (.slice Ao37 y176.length co37) y176):=⟨by (with_reducible repeat (first|apply zA|apply zN|apply zD));exact Kd.R_mono (Kd.R_far (p:=⟨gb197,2,none⟩) (Kd.R_far (p:=⟨gb197,1,none⟩) (Kd.R_far (p:=⟨gb197,0,none⟩) (Kd.R_types HO178.out BK197.out (by decide)) (fun _ hk => hk.2) (.string t190)) (fun _ hk => hk.2) (.int .u64 t191)) (fun _ hk => hk.2) (.int .u8 t192)) (fun _ hk => ⟨hk.1.1.1.2,⟨hk.1.1.2,hk.1.2⟩⟩)⟩
            have n1_ : Aside0 (Kd.R (Kd.int .u8) 5 (((w46.setCell ⟨gb197,0,none⟩ (.string t190)).setCell ⟨gb197,1,none⟩ (.int .u64 t191)).setCell ⟨gb197,2,none⟩ (.int .u8 t192)) w.heap.size (fun k_ => nB k_ Ao37 y176.length co37 ∧ nB k_ Ao44 y187.length co44 ∧ some k_ ≠ (v194 : Value).ownBlock) (.slice Ao50 t182.length co50) t182):=⟨by (with_reducible repeat (first|apply zA|apply zN|apply zD));exact Kd.R_mono (Kd.R_far (p:=⟨gb197,2,none⟩) (Kd.R_far (p:=⟨gb197,1,none⟩) (Kd.R_far (p:=⟨gb197,0,none⟩) (Kd.R_types HO184.out BK197.out (by decide)) (fun _ hk => hk.2) (.string t190)) (fun _ hk => hk.2) (.int .u64 t191)) (fun _ hk => hk.2) (.int .u8 t192)) (fun _ hk => ⟨hk.1.1.1.2,⟨hk.1.1.2,hk.1.2⟩⟩)⟩
            have n2_ : Aside0 (Kd.R (Kd.int .u8) 5 (((w46.setCell ⟨gb197,0,none⟩ (.string t190)).setCell ⟨gb197,1,none⟩ (.int .u64 t191)).setCell ⟨gb197,2,none⟩ (.int .u8 t192)) w.heap.size (fun k_ => nB k_ Ao37 y176.length co37 ∧ nB k_ Ao50 t182.length co50 ∧ some k_ ≠ (v194 : Value).ownBlock) (.slice Ao44 y187.length co44) y187):=⟨by (with_reducible repeat (first|apply zA|apply zN|apply zD));exact Kd.R_mono (Kd.R_far (p:=⟨gb197,2,none⟩) (Kd.R_far (p:=⟨gb197,1,none⟩) (Kd.R_far (p:=⟨gb197,0,none⟩) (Kd.R_types HO189.out BK197.out (by decide)) (fun _ hk => hk.2) (.string t190)) (fun _ hk => hk.2) (.int .u64 t191)) (fun _ hk => hk.2) (.int .u8 t192)) (fun _ hk => ⟨hk.1.1.1.2,⟨hk.1.1.2,hk.1.2⟩⟩)⟩
            have n3_ : Aside0 (Kd.R (Kd.int .u8) 5 (((w46.setCell ⟨gb197,0,none⟩ (.string t190)).setCell ⟨gb197,1,none⟩ (.int .u64 t191)).setCell ⟨gb197,2,none⟩ (.int .u8 t192)) w.heap.size (fun k_ => nB k_ Ao37 y176.length co37 ∧ nB k_ Ao50 t182.length co50 ∧ nB k_ Ao44 y187.length co44) v194 t193):=⟨by (with_reducible repeat (first|apply zA|apply zN|apply zD));exact Kd.R_mono (Kd.R_far (p:=⟨gb197,2,none⟩) (Kd.R_far (p:=⟨gb197,1,none⟩) (Kd.R_far (p:=⟨gb197,0,none⟩) (Kd.R_types HO195.out BK197.out (by decide)) (fun _ hk => hk.2) (.string t190)) (fun _ hk => hk.2) (.int .u64 t191)) (fun _ hk => hk.2) (.int .u8 t192)) (fun _ hk => ⟨hk.1.1.1.2,⟨hk.1.1.2,hk.1.2⟩⟩)⟩
            have n4_ : Aside0 ((((w46.setCell ⟨gb197,0,none⟩ (.string t190)).setCell ⟨gb197,1,none⟩ (.int .u64 t191)).setCell ⟨gb197,2,none⟩ (.int .u8 t192)).heap[gb175]? = some (.cells #[.string t172,.int .u64 t173,.int .u8 t174] 39 (0,0))):=⟨by (with_reducible repeat (first|refine bN ?_ _|refine bD ?_|refine bA ?_ _));refine blk_far ?_ NB175_197.out _;(with_reducible repeat (first|refine bN ?_ _|refine bD ?_|refine bA ?_ _));refine blk_far ?_ NB175_197.out _;(with_reducible repeat (first|refine bN ?_ _|refine bD ?_|refine bA ?_ _));refine blk_far ?_ NB175_197.out _;(with_reducible repeat (first|refine bN ?_ _|refine bD ?_|refine bA ?_ _));exact BK175.out⟩
            have n5_ : Aside0 ((((w46.setCell ⟨gb197,0,none⟩ (.string t190)).setCell ⟨gb197,1,none⟩ (.int .u64 t191)).setCell ⟨gb197,2,none⟩ (.int .u8 t192)).heap[gb186]? = some (.cells #[.string t179,.int .u64 t180,.int .u8 t181] 39 (0,0))):=⟨by (with_reducible repeat (first|refine bN ?_ _|refine bD ?_|refine bA ?_ _));refine blk_far ?_ NB186_197.out _;(with_reducible repeat (first|refine bN ?_ _|refine bD ?_|refine bA ?_ _));refine blk_far ?_ NB186_197.out _;(with_reducible repeat (first|refine bN ?_ _|refine bD ?_|refine bA ?_ _));refine blk_far ?_ NB186_197.out _;(with_reducible repeat (first|refine bN ?_ _|refine bD ?_|refine bA ?_ _));exact BK186.out⟩
            have n6_ : Aside0 ((((w46.setCell ⟨gb197,0,none⟩ (.string t190)).setCell ⟨gb197,1,none⟩ (.int .u64 t191)).setCell ⟨gb197,2,none⟩ (.int .u8 t192)).heap[gb197]? = some (.cells #[.string t190,.int .u64 t191,.int .u8 t192] 39 (0,0))):=⟨by (with_reducible repeat (first|refine bN ?_ _|refine bD ?_|refine bA ?_ _));refine blk_put (cs:=#[.string t190,.int .u64 t191,.int .u8 0]) ?_ 2 _ rfl;(with_reducible repeat (first|refine bN ?_ _|refine bD ?_|refine bA ?_ _));refine blk_put (cs:=#[.string t190,.int .u64 0,.int .u8 0]) ?_ 1 _ rfl;(with_reducible repeat (first|refine bN ?_ _|refine bD ?_|refine bA ?_ _));refine blk_put (cs:=#[.string (⟨#[]⟩ : ByteArray),.int .u64 0,.int .u8 0]) ?_ 0 _ rfl;(with_reducible repeat (first|refine bN ?_ _|refine bD ?_|refine bA ?_ _));exact BK197.out⟩
            have n7_ : Aside0 (Below w.heap.size w (((w46.setCell ⟨gb197,0,none⟩ (.string t190)).setCell ⟨gb197,1,none⟩ (.int .u64 t191)).setCell ⟨gb197,2,none⟩ (.int .u8 t192))):=⟨by repeat (first|(with_reducible first|exact HB.out|apply below_alloc|apply pw_below_drewN|apply below_drew1|refine below_set ?_ GE175.out|refine below_set ?_ GE186.out|refine below_set ?_ GE197.out)|exact HB.out)⟩
            (try clear HO178)
            (try clear HO184)
            (try clear HO189)
            (try clear HO195)
            (try clear BK175)
            (try clear BK186)
            (try clear BK197)
            (try clear HB)
            generalize (((w46.setCell ⟨gb197,0,none⟩ (.string t190)).setCell ⟨gb197,1,none⟩ (.int .u64 t191)).setCell ⟨gb197,2,none⟩ (.int .u8 t192)) = w51 at n0_ n1_ n2_ n3_ n4_ n5_ n6_ n7_ ⊢
            have HO178:=n0_
            have HO184:=n1_
            have HO189:=n2_
            have HO195:=n3_
            have BK175:=n4_
            have BK186:=n5_
            have BK197:=n6_
            have HB:=n7_
            clear n0_ n1_ n2_ n3_ n4_ n5_ n6_ n7_
            have n0_:=Aside0.mk (Kd.R_drew HO178.out)
            have n1_:=Aside0.mk (Kd.R_drew HO184.out)
            have n2_:=Aside0.mk (Kd.R_drew HO189.out)
            have n3_:=Aside0.mk (Kd.R_drew HO195.out)
            have n4_:=Aside0.mk (blk_drew BK175.out)
            have n5_:=Aside0.mk (blk_drew BK186.out)
            have n6_:=Aside0.mk (blk_drew BK197.out)
            have n7_:=Aside0.mk (below_drew1 HB.out)
            clear HO178
            clear HO184
            clear HO189
            clear HO195
            clear BK175
            clear BK186
            clear BK197
            clear HB
            have HO178:=n0_
            have HO184:=n1_
            have HO189:=n2_
            have HO195:=n3_
            have BK175:=n4_
            have BK186:=n5_
            have BK197:=n6_
            have HB:=n7_
            clear n0_ n1_ n2_ n3_ n4_ n5_ n6_ n7_
            refine start_ (n:=66) (S:=fun w' => w'.cell? ⟨gb175,0,none⟩ = some (.string t172) ∧ w'.cell? ⟨gb175,1,none⟩ = some (.int .u64 t173) ∧ w'.cell? ⟨gb175,2,none⟩ = some (.int .u8 t174) ∧ w'.cell? ⟨gb186,0,none⟩ = some (.string t179) ∧ w'.cell? ⟨gb186,1,none⟩ = some (.int .u64 t180) ∧ w'.cell? ⟨gb186,2,none⟩ = some (.int .u8 t181)) (ds:=[]) #[false,false,false,false,false,false,false,false,false,false,false,false,false,false,false,false,false,false,false,false,false,false,false,false,false,false,false,false,false,false,false,false,false,false,false,false,false,false,false,false,false,false,false,false,false,false,false,false,false,false,false,false,false,false,false,false,false,false,false,false,false,false,false,false,false,false] (by kernel_rfl) rfl rfl ⟨(blk_cell BK175.out 0).trans rfl,(blk_cell BK175.out 1).trans rfl,(blk_cell BK175.out 2).trans rfl,(blk_cell BK186.out 0).trans rfl,(blk_cell BK186.out 1).trans rfl,(blk_cell BK186.out 2).trans rfl⟩ (fun hHeld => ?_);refine with_tabW ratlinelaw03_awake.tab5 ratlinelaw03_awake.bits5 (fun HT_ HW_ => ?_)
            generalize w51.drew = w52 at HO178 HO184 HO189 HO195 BK175 BK186 BK197 HB hHeld ⊢
            refine take_ (i:=0) (N:=some 22) (v:=?_) (a':=?_) #[true,false,false,false,false,false,false,false,false,false,false,false,false,false,false,false,false,false,false,false,false,false,false,false,false,false,false,false,false,false,false,false,false,false,false,false,false,false,false,false,false,false,false,false,false,false,false,false,false,false,false,false,false,false,false,false,false,false,false,false,false,false,false,false,false,false] rfl rfl (take_ofW HT_.out HW_.out (by kernel_rfl)) (fun _ _ _ h => h) (Or.inl ⟨by rfl,?_⟩) hHeld ?_ ?_
            rotate_left
            ·rintro w' ⟨s0,s1,s2,s3,s4,s5⟩
             go_simp
             with_reducible rfl
            rotate_left
            ·simp only [Act.put,sA,sZ,sS,i64_w,i32_w]
             rfl
            refine one_ (i:=1) (N:=some 23) #[true,true,false,false,false,false,false,false,false,false,false,false,false,false,false,false,false,false,false,false,false,false,false,false,false,false,false,false,false,false,false,false,false,false,false,false,false,false,false,false,false,false,false,false,false,false,false,false,false,false,false,false,false,false,false,false,false,false,false,false,false,false,false,false,false,false] rfl rfl (one_of HT_.out (by kernel_rfl)) (by decide) (fun K hK => ?_)
            refine goes_ Try.func33 (by kernel_rfl) rfl #[.string (⟨#[97]⟩ : ByteArray),.int .u64 4,.int .u8 1] (by rfl) rfl rfl (by (try simp only [List.map_toArray,List.map_cons,List.map_nil]);first|done|rfl|(simp only [List.length_drop,List.length_take];rfl)) ?_
            with_reducible refine (ratlinelaw03_one.calls (⟨#[97]⟩ : ByteArray) 4 1 t198 t199 t200 _ A4.out).mono ?_
            rintro e w53 ⟨rfl,hb⟩
            refine ⟨_,rfl,?_⟩
            have n0_:=Aside0.mk (Kd.R_below (by (with_reducible repeat (first|apply zA|apply zN|apply zD));exact HO178.out) hb)
            have n1_:=Aside0.mk (Kd.R_below (by (with_reducible repeat (first|apply zA|apply zN|apply zD));exact HO184.out) hb)
            have n2_:=Aside0.mk (Kd.R_below (by (with_reducible repeat (first|apply zA|apply zN|apply zD));exact HO189.out) hb)
            have n3_:=Aside0.mk (Kd.R_below (by (with_reducible repeat (first|apply zA|apply zN|apply zD));exact HO195.out) hb)
            have n4_:=Aside0.mk (blk_below (g:=gb175) (o:=.cells #[.string t172,.int .u64 t173,.int .u8 t174] 39 (0,0)) (by (with_reducible repeat (first|refine bN ?_ _|refine bD ?_|refine bA ?_ _));exact BK175.out) hb)
            have n5_:=Aside0.mk (blk_below (g:=gb186) (o:=.cells #[.string t179,.int .u64 t180,.int .u8 t181] 39 (0,0)) (by (with_reducible repeat (first|refine bN ?_ _|refine bD ?_|refine bA ?_ _));exact BK186.out) hb)
            have n6_:=Aside0.mk (blk_below (g:=gb197) (o:=.cells #[.string t190,.int .u64 t191,.int .u8 t192] 39 (0,0)) (by (with_reducible repeat (first|refine bN ?_ _|refine bD ?_|refine bA ?_ _));exact BK197.out) hb)
            have n7_:=Aside0.mk (below_step (by repeat (first|(with_reducible first|exact HB.out|apply below_alloc|apply pw_below_drewN|apply below_drew1|refine below_set ?_ GE175.out|refine below_set ?_ GE186.out|refine below_set ?_ GE197.out)|exact HB.out)) hb)
            clear HO178
            clear HO184
            clear HO189
            clear HO195
            clear BK175
            clear BK186
            clear BK197
            clear HB
            have HO178:=n0_
            have HO184:=n1_
            have HO189:=n2_
            have HO195:=n3_
            have BK175:=n4_
            have BK186:=n5_
            have BK197:=n6_
            have HB:=n7_
            clear n0_ n1_ n2_ n3_ n4_ n5_ n6_ n7_
            (try clear hb)
            (try clear hb2)
            (try clear hk)
            (try clear hi)
            refine hK.out _ _ ⟨(blk_cell BK175.out 0).trans rfl,(blk_cell BK175.out 1).trans rfl,(blk_cell BK175.out 2).trans rfl,(blk_cell BK186.out 0).trans rfl,(blk_cell BK186.out 1).trans rfl,(blk_cell BK186.out 2).trans rfl⟩ (fun hHeld => ?_)
            clear hK K
            refine norm_ (a':=?_) ?_ ?_
            rotate_left
            ·show Act.put _ (some 23) _ = _
             simp only [Act.put,sA,sZ,sS,i64_w,i32_w]
             rfl
            refine one_ (i:=2) (N:=some 24) #[true,true,true,false,false,false,false,false,false,false,false,false,false,false,false,false,false,false,false,false,false,false,false,false,false,false,false,false,false,false,false,false,false,false,false,false,false,false,false,false,false,false,false,false,false,false,false,false,false,false,false,false,false,false,false,false,false,false,false,false,false,false,false,false,false,false] rfl rfl (one_of HT_.out (by kernel_rfl)) (by decide) (fun K hK => ?_)
            refine goes_ Try.func27 (by kernel_rfl) rfl #[.agg #[.string t172,.int .u64 t173,.int .u8 t174],.agg #[.string t198,.int .u64 t199,.int .u8 t200]] (by rfl) rfl rfl (by (try simp only [List.map_toArray,List.map_cons,List.map_nil]);first|done|rfl|(simp only [List.length_drop,List.length_take];rfl)) ?_
            with_reducible refine (ikey_Compare.calls k t172 t173 t174 t198 t199 t200 t201 _ A5.out).mono ?_
            rintro e w54 ⟨rfl,hb⟩
            refine ⟨_,rfl,?_⟩
            have n0_:=Aside0.mk (Kd.R_below (by (with_reducible repeat (first|apply zA|apply zN|apply zD));exact HO178.out) hb)
            have n1_:=Aside0.mk (Kd.R_below (by (with_reducible repeat (first|apply zA|apply zN|apply zD));exact HO184.out) hb)
            have n2_:=Aside0.mk (Kd.R_below (by (with_reducible repeat (first|apply zA|apply zN|apply zD));exact HO189.out) hb)
            have n3_:=Aside0.mk (Kd.R_below (by (with_reducible repeat (first|apply zA|apply zN|apply zD));exact HO195.out) hb)
            have n4_:=Aside0.mk (blk_below (g:=gb175) (o:=.cells #[.string t172,.int .u64 t173,.int .u8 t174] 39 (0,0)) (by (with_reducible repeat (first|refine bN ?_ _|refine bD ?_|refine bA ?_ _));exact BK175.out) hb)
            have n5_:=Aside0.mk (blk_below (g:=gb186) (o:=.cells #[.string t179,.int .u64 t180,.int .u8 t181] 39 (0,0)) (by (with_reducible repeat (first|refine bN ?_ _|refine bD ?_|refine bA ?_ _));exact BK186.out) hb)
            have n6_:=Aside0.mk (blk_below (g:=gb197) (o:=.cells #[.string t190,.int .u64 t191,.int .u8 t192] 39 (0,0)) (by (with_reducible repeat (first|refine bN ?_ _|refine bD ?_|refine bA ?_ _));exact BK197.out) hb)
            have n7_:=Aside0.mk (below_step (by repeat (first|(with_reducible first|exact HB.out|apply below_alloc|apply pw_below_drewN|apply below_drew1|refine below_set ?_ GE175.out|refine below_set ?_ GE186.out|refine below_set ?_ GE197.out)|exact HB.out)) hb)
            clear HO178
            clear HO184
            clear HO189
            clear HO195
            clear BK175
            clear BK186
            clear BK197
            clear HB
            have HO178:=n0_
            have HO184:=n1_
            have HO189:=n2_
            have HO195:=n3_
            have BK175:=n4_
            have BK186:=n5_
            have BK197:=n6_
            have HB:=n7_
            clear n0_ n1_ n2_ n3_ n4_ n5_ n6_ n7_
            (try clear hb)
            (try clear hb2)
            (try clear hk)
            (try clear hi)
            refine hK.out _ _ ⟨(blk_cell BK175.out 0).trans rfl,(blk_cell BK175.out 1).trans rfl,(blk_cell BK175.out 2).trans rfl,(blk_cell BK186.out 0).trans rfl,(blk_cell BK186.out 1).trans rfl,(blk_cell BK186.out 2).trans rfl⟩ (fun hHeld => ?_)
            clear hK K
            refine norm_ (a':=?_) ?_ ?_
            rotate_left
            ·show Act.put _ (some 24) _ = _
             simp only [Act.put,sA,sZ,sS,i64_w,i32_w]
             rfl
            refine pure_ (i:=3) (N:=some 25) (v:=?_) (a':=?_) #[true,true,true,true,false,false,false,false,false,false,false,false,false,false,false,false,false,false,false,false,false,false,false,false,false,false,false,false,false,false,false,false,false,false,false,false,false,false,false,false,false,false,false,false,false,false,false,false,false,false,false,false,false,false,false,false,false,false,false,false,false,false,false,false,false,false] rfl rfl (any_of HT_.out (by kernel_rfl)) (fun _ _ _ h => h) (Or.inl ⟨by rfl,?_⟩) ?_ ?_
            rotate_left
            ·intro w'
             go_simp
             with_reducible rfl
            rotate_left
            ·simp only [Act.put,sA,sZ,sS,i64_w,i32_w]
             rfl
            refine pure_ (i:=4) (N:=some 26) (v:=?_) (a':=?_) #[true,true,true,true,true,false,false,false,false,false,false,false,false,false,false,false,false,false,false,false,false,false,false,false,false,false,false,false,false,false,false,false,false,false,false,false,false,false,false,false,false,false,false,false,false,false,false,false,false,false,false,false,false,false,false,false,false,false,false,false,false,false,false,false,false,false] rfl rfl (any_of HT_.out (by kernel_rfl)) (fun _ _ _ h => h) (Or.inl ⟨by rfl,?_⟩) ?_ ?_
            rotate_left
            ·intro w'
             go_simp
             with_reducible rfl
            rotate_left
            ·simp only [Act.put,sA,sZ,sS,i64_w,i32_w]
             rfl
            refine take_ (i:=5) (N:=some 27) (v:=?_) (a':=?_) #[true,true,true,true,true,true,false,false,false,false,false,false,false,false,false,false,false,false,false,false,false,false,false,false,false,false,false,false,false,false,false,false,false,false,false,false,false,false,false,false,false,false,false,false,false,false,false,false,false,false,false,false,false,false,false,false,false,false,false,false,false,false,false,false,false,false] rfl rfl (take_ofW HT_.out HW_.out (by kernel_rfl)) (fun _ _ _ h => h) (Or.inl ⟨by rfl,?_⟩) hHeld ?_ ?_
            rotate_left
            ·rintro w' ⟨s0,s1,s2,s3,s4,s5⟩
             go_simp
             with_reducible rfl
            rotate_left
            ·simp only [Act.put,sA,sZ,sS,i64_w,i32_w]
             rfl
            refine one_ (i:=6) (N:=some 28) #[true,true,true,true,true,true,true,false,false,false,false,false,false,false,false,false,false,false,false,false,false,false,false,false,false,false,false,false,false,false,false,false,false,false,false,false,false,false,false,false,false,false,false,false,false,false,false,false,false,false,false,false,false,false,false,false,false,false,false,false,false,false,false,false,false,false] rfl rfl (one_of HT_.out (by kernel_rfl)) (by decide) (fun K hK => ?_)
            refine goes_ Try.func33 (by kernel_rfl) rfl #[.string (⟨#[97]⟩ : ByteArray),.int .u64 5,.int .u8 0] (by rfl) rfl rfl (by (try simp only [List.map_toArray,List.map_cons,List.map_nil]);first|done|rfl|(simp only [List.length_drop,List.length_take];rfl)) ?_
            with_reducible refine (ratlinelaw03_one.calls (⟨#[97]⟩ : ByteArray) 5 0 t202 t203 t204 _ A7.out).mono ?_
            rintro e w55 ⟨rfl,hb⟩
            refine ⟨_,rfl,?_⟩
            have n0_:=Aside0.mk (Kd.R_below (by (with_reducible repeat (first|apply zA|apply zN|apply zD));exact HO178.out) hb)
            have n1_:=Aside0.mk (Kd.R_below (by (with_reducible repeat (first|apply zA|apply zN|apply zD));exact HO184.out) hb)
            have n2_:=Aside0.mk (Kd.R_below (by (with_reducible repeat (first|apply zA|apply zN|apply zD));exact HO189.out) hb)
            have n3_:=Aside0.mk (Kd.R_below (by (with_reducible repeat (first|apply zA|apply zN|apply zD));exact HO195.out) hb)
            have n4_:=Aside0.mk (blk_below (g:=gb175) (o:=.cells #[.string t172,.int .u64 t173,.int .u8 t174] 39 (0,0)) (by (with_reducible repeat (first|refine bN ?_ _|refine bD ?_|refine bA ?_ _));exact BK175.out) hb)
            have n5_:=Aside0.mk (blk_below (g:=gb186) (o:=.cells #[.string t179,.int .u64 t180,.int .u8 t181] 39 (0,0)) (by (with_reducible repeat (first|refine bN ?_ _|refine bD ?_|refine bA ?_ _));exact BK186.out) hb)
            have n6_:=Aside0.mk (blk_below (g:=gb197) (o:=.cells #[.string t190,.int .u64 t191,.int .u8 t192] 39 (0,0)) (by (with_reducible repeat (first|refine bN ?_ _|refine bD ?_|refine bA ?_ _));exact BK197.out) hb)
            have n7_:=Aside0.mk (below_step (by repeat (first|(with_reducible first|exact HB.out|apply below_alloc|apply pw_below_drewN|apply below_drew1|refine below_set ?_ GE175.out|refine below_set ?_ GE186.out|refine below_set ?_ GE197.out)|exact HB.out)) hb)
            clear HO178
            clear HO184
            clear HO189
            clear HO195
            clear BK175
            clear BK186
            clear BK197
            clear HB
            have HO178:=n0_
            have HO184:=n1_
            have HO189:=n2_
            have HO195:=n3_
            have BK175:=n4_
            have BK186:=n5_
            have BK197:=n6_
            have HB:=n7_
            clear n0_ n1_ n2_ n3_ n4_ n5_ n6_ n7_
            (try clear hb)
            (try clear hb2)
            (try clear hk)
            (try clear hi)
            refine hK.out _ _ ⟨(blk_cell BK175.out 0).trans rfl,(blk_cell BK175.out 1).trans rfl,(blk_cell BK175.out 2).trans rfl,(blk_cell BK186.out 0).trans rfl,(blk_cell BK186.out 1).trans rfl,(blk_cell BK186.out 2).trans rfl⟩ (fun hHeld => ?_)
            clear hK K
            refine norm_ (a':=?_) ?_ ?_
            rotate_left
            ·show Act.put _ (some 28) _ = _
             simp only [Act.put,sA,sZ,sS,i64_w,i32_w]
             rfl
            refine one_ (i:=7) (N:=some 29) #[true,true,true,true,true,true,true,true,false,false,false,false,false,false,false,false,false,false,false,false,false,false,false,false,false,false,false,false,false,false,false,false,false,false,false,false,false,false,false,false,false,false,false,false,false,false,false,false,false,false,false,false,false,false,false,false,false,false,false,false,false,false,false,false,false,false] rfl rfl (one_of HT_.out (by kernel_rfl)) (by decide) (fun K hK => ?_)
            refine goes_ Try.func27 (by kernel_rfl) rfl #[.agg #[.string t172,.int .u64 t173,.int .u8 t174],.agg #[.string t202,.int .u64 t203,.int .u8 t204]] (by rfl) rfl rfl (by (try simp only [List.map_toArray,List.map_cons,List.map_nil]);first|done|rfl|(simp only [List.length_drop,List.length_take];rfl)) ?_
            with_reducible refine (ikey_Compare.calls k t172 t173 t174 t202 t203 t204 t205 _ A8.out).mono ?_
            rintro e w56 ⟨rfl,hb⟩
            refine ⟨_,rfl,?_⟩
            have n0_:=Aside0.mk (Kd.R_below (by (with_reducible repeat (first|apply zA|apply zN|apply zD));exact HO178.out) hb)
            have n1_:=Aside0.mk (Kd.R_below (by (with_reducible repeat (first|apply zA|apply zN|apply zD));exact HO184.out) hb)
            have n2_:=Aside0.mk (Kd.R_below (by (with_reducible repeat (first|apply zA|apply zN|apply zD));exact HO189.out) hb)
            have n3_:=Aside0.mk (Kd.R_below (by (with_reducible repeat (first|apply zA|apply zN|apply zD));exact HO195.out) hb)
            have n4_:=Aside0.mk (blk_below (g:=gb175) (o:=.cells #[.string t172,.int .u64 t173,.int .u8 t174] 39 (0,0)) (by (with_reducible repeat (first|refine bN ?_ _|refine bD ?_|refine bA ?_ _));exact BK175.out) hb)
            have n5_:=Aside0.mk (blk_below (g:=gb186) (o:=.cells #[.string t179,.int .u64 t180,.int .u8 t181] 39 (0,0)) (by (with_reducible repeat (first|refine bN ?_ _|refine bD ?_|refine bA ?_ _));exact BK186.out) hb)
            have n6_:=Aside0.mk (blk_below (g:=gb197) (o:=.cells #[.string t190,.int .u64 t191,.int .u8 t192] 39 (0,0)) (by (with_reducible repeat (first|refine bN ?_ _|refine bD ?_|refine bA ?_ _));exact BK197.out) hb)
            have n7_:=Aside0.mk (below_step (by repeat (first|(with_reducible first|exact HB.out|apply below_alloc|apply pw_below_drewN|apply below_drew1|refine below_set ?_ GE175.out|refine below_set ?_ GE186.out|refine below_set ?_ GE197.out)|exact HB.out)) hb)
            clear HO178
            clear HO184
            clear HO189
            clear HO195
            clear BK175
            clear BK186
            clear BK197
            clear HB
            have HO178:=n0_
            have HO184:=n1_
            have HO189:=n2_
            have HO195:=n3_
            have BK175:=n4_
            have BK186:=n5_
            have BK197:=n6_
            have HB:=n7_
            clear n0_ n1_ n2_ n3_ n4_ n5_ n6_ n7_
            (try clear hb)
            (try clear hb2)
            (try clear hk)
            (try clear hi)
            refine hK.out _ _ ⟨(blk_cell BK175.out 0).trans rfl,(blk_cell BK175.out 1).trans rfl,(blk_cell BK175.out 2).trans rfl,(blk_cell BK186.out 0).trans rfl,(blk_cell BK186.out 1).trans rfl,(blk_cell BK186.out 2).trans rfl⟩ (fun hHeld => ?_)
            clear hK K
            refine norm_ (a':=?_) ?_ ?_
            rotate_left
            ·show Act.put _ (some 29) _ = _
             simp only [Act.put,sA,sZ,sS,i64_w,i32_w]
             rfl
            refine pure_ (i:=8) (N:=some 30) (v:=?_) (a':=?_) #[true,true,true,true,true,true,true,true,true,false,false,false,false,false,false,false,false,false,false,false,false,false,false,false,false,false,false,false,false,false,false,false,false,false,false,false,false,false,false,false,false,false,false,false,false,false,false,false,false,false,false,false,false,false,false,false,false,false,false,false,false,false,false,false,false,false] rfl rfl (any_of HT_.out (by kernel_rfl)) (fun _ _ _ h => h) (Or.inl ⟨by rfl,?_⟩) ?_ ?_
            rotate_left
            ·intro w'
             go_simp
             with_reducible rfl
            rotate_left
            ·simp only [Act.put,sA,sZ,sS,i64_w,i32_w]
             rfl
            refine pure_ (i:=9) (N:=some 31) (v:=?_) (a':=?_) #[true,true,true,true,true,true,true,true,true,true,false,false,false,false,false,false,false,false,false,false,false,false,false,false,false,false,false,false,false,false,false,false,false,false,false,false,false,false,false,false,false,false,false,false,false,false,false,false,false,false,false,false,false,false,false,false,false,false,false,false,false,false,false,false,false,false] rfl rfl (any_of HT_.out (by kernel_rfl)) (fun _ _ _ h => h) (Or.inl ⟨by rfl,?_⟩) ?_ ?_
            rotate_left
            ·intro w'
             go_simp
             with_reducible rfl
            rotate_left
            ·simp only [Act.put,sA,sZ,sS,i64_w,i32_w]
             rfl
            refine pure_ (i:=10) (N:=some 32) (v:=?_) (a':=?_) #[true,true,true,true,true,true,true,true,true,true,true,false,false,false,false,false,false,false,false,false,false,false,false,false,false,false,false,false,false,false,false,false,false,false,false,false,false,false,false,false,false,false,false,false,false,false,false,false,false,false,false,false,false,false,false,false,false,false,false,false,false,false,false,false,false,false] rfl rfl (any_of HT_.out (by kernel_rfl)) (fun _ _ _ h => h) (Or.inl ⟨by rfl,?_⟩) ?_ ?_
            rotate_left
            ·intro w'
             go_simp
             with_reducible rfl
            rotate_left
            ·simp only [Act.put,sA,sZ,sS,i64_w,i32_w]
             rfl
            refine take_ (i:=11) (N:=some 33) (v:=?_) (a':=?_) #[true,true,true,true,true,true,true,true,true,true,true,true,false,false,false,false,false,false,false,false,false,false,false,false,false,false,false,false,false,false,false,false,false,false,false,false,false,false,false,false,false,false,false,false,false,false,false,false,false,false,false,false,false,false,false,false,false,false,false,false,false,false,false,false,false,false] rfl rfl (take_ofW HT_.out HW_.out (by kernel_rfl)) (fun _ _ _ h => h) (Or.inl ⟨by rfl,?_⟩) hHeld ?_ ?_
            rotate_left
            ·rintro w' ⟨s0,s1,s2,s3,s4,s5⟩
             go_simp
             with_reducible rfl
            rotate_left
            ·simp only [Act.put,sA,sZ,sS,i64_w,i32_w]
             rfl
            refine one_ (i:=12) (N:=some 34) #[true,true,true,true,true,true,true,true,true,true,true,true,true,false,false,false,false,false,false,false,false,false,false,false,false,false,false,false,false,false,false,false,false,false,false,false,false,false,false,false,false,false,false,false,false,false,false,false,false,false,false,false,false,false,false,false,false,false,false,false,false,false,false,false,false,false] rfl rfl (one_of HT_.out (by kernel_rfl)) (by decide) (fun K hK => ?_)
            refine goes_ Try.func33 (by kernel_rfl) rfl #[.string (⟨#[97,98]⟩ : ByteArray),.int .u64 9,.int .u8 1] (by rfl) rfl rfl (by (try simp only [List.map_toArray,List.map_cons,List.map_nil]);first|done|rfl|(simp only [List.length_drop,List.length_take];rfl)) ?_
            with_reducible refine (ratlinelaw03_one.calls (⟨#[97,98]⟩ : ByteArray) 9 1 t206 t207 t208 _ A10.out).mono ?_
            rintro e w57 ⟨rfl,hb⟩
            refine ⟨_,rfl,?_⟩
            have n0_:=Aside0.mk (Kd.R_below (by (with_reducible repeat (first|apply zA|apply zN|apply zD));exact HO178.out) hb)
            have n1_:=Aside0.mk (Kd.R_below (by (with_reducible repeat (first|apply zA|apply zN|apply zD));exact HO184.out) hb)
            have n2_:=Aside0.mk (Kd.R_below (by (with_reducible repeat (first|apply zA|apply zN|apply zD));exact HO189.out) hb)
            have n3_:=Aside0.mk (Kd.R_below (by (with_reducible repeat (first|apply zA|apply zN|apply zD));exact HO195.out) hb)
            have n4_:=Aside0.mk (blk_below (g:=gb175) (o:=.cells #[.string t172,.int .u64 t173,.int .u8 t174] 39 (0,0)) (by (with_reducible repeat (first|refine bN ?_ _|refine bD ?_|refine bA ?_ _));exact BK175.out) hb)
            have n5_:=Aside0.mk (blk_below (g:=gb186) (o:=.cells #[.string t179,.int .u64 t180,.int .u8 t181] 39 (0,0)) (by (with_reducible repeat (first|refine bN ?_ _|refine bD ?_|refine bA ?_ _));exact BK186.out) hb)
            have n6_:=Aside0.mk (blk_below (g:=gb197) (o:=.cells #[.string t190,.int .u64 t191,.int .u8 t192] 39 (0,0)) (by (with_reducible repeat (first|refine bN ?_ _|refine bD ?_|refine bA ?_ _));exact BK197.out) hb)
            have n7_:=Aside0.mk (below_step (by repeat (first|(with_reducible first|exact HB.out|apply below_alloc|apply pw_below_drewN|apply below_drew1|refine below_set ?_ GE175.out|refine below_set ?_ GE186.out|refine below_set ?_ GE197.out)|exact HB.out)) hb)
            clear HO178
            clear HO184
            clear HO189
            clear HO195
            clear BK175
            clear BK186
            clear BK197
            clear HB
            have HO178:=n0_
            have HO184:=n1_
            have HO189:=n2_
            have HO195:=n3_
            have BK175:=n4_
            have BK186:=n5_
            have BK197:=n6_
            have HB:=n7_
            clear n0_ n1_ n2_ n3_ n4_ n5_ n6_ n7_
            (try clear hb)
            (try clear hb2)
            (try clear hk)
            (try clear hi)
            refine hK.out _ _ ⟨(blk_cell BK175.out 0).trans rfl,(blk_cell BK175.out 1).trans rfl,(blk_cell BK175.out 2).trans rfl,(blk_cell BK186.out 0).trans rfl,(blk_cell BK186.out 1).trans rfl,(blk_cell BK186.out 2).trans rfl⟩ (fun hHeld => ?_)
            clear hK K
            refine norm_ (a':=?_) ?_ ?_
            rotate_left
            ·show Act.put _ (some 34) _ = _
             simp only [Act.put,sA,sZ,sS,i64_w,i32_w]
             rfl
            refine one_ (i:=13) (N:=some 35) #[true,true,true,true,true,true,true,true,true,true,true,true,true,true,false,false,false,false,false,false,false,false,false,false,false,false,false,false,false,false,false,false,false,false,false,false,false,false,false,false,false,false,false,false,false,false,false,false,false,false,false,false,false,false,false,false,false,false,false,false,false,false,false,false,false,false] rfl rfl (one_of HT_.out (by kernel_rfl)) (by decide) (fun K hK => ?_)
            refine goes_ Try.func27 (by kernel_rfl) rfl #[.agg #[.string t172,.int .u64 t173,.int .u8 t174],.agg #[.string t206,.int .u64 t207,.int .u8 t208]] (by rfl) rfl rfl (by (try simp only [List.map_toArray,List.map_cons,List.map_nil]);first|done|rfl|(simp only [List.length_drop,List.length_take];rfl)) ?_
            with_reducible refine (ikey_Compare.calls k t172 t173 t174 t206 t207 t208 t209 _ A11.out).mono ?_
            rintro e w58 ⟨rfl,hb⟩
            refine ⟨_,rfl,?_⟩
            have n0_:=Aside0.mk (Kd.R_below (by (with_reducible repeat (first|apply zA|apply zN|apply zD));exact HO178.out) hb)
            have n1_:=Aside0.mk (Kd.R_below (by (with_reducible repeat (first|apply zA|apply zN|apply zD));exact HO184.out) hb)
            have n2_:=Aside0.mk (Kd.R_below (by (with_reducible repeat (first|apply zA|apply zN|apply zD));exact HO189.out) hb)
            have n3_:=Aside0.mk (Kd.R_below (by (with_reducible repeat (first|apply zA|apply zN|apply zD));exact HO195.out) hb)
            have n4_:=Aside0.mk (blk_below (g:=gb175) (o:=.cells #[.string t172,.int .u64 t173,.int .u8 t174] 39 (0,0)) (by (with_reducible repeat (first|refine bN ?_ _|refine bD ?_|refine bA ?_ _));exact BK175.out) hb)
            have n5_:=Aside0.mk (blk_below (g:=gb186) (o:=.cells #[.string t179,.int .u64 t180,.int .u8 t181] 39 (0,0)) (by (with_reducible repeat (first|refine bN ?_ _|refine bD ?_|refine bA ?_ _));exact BK186.out) hb)
            have n6_:=Aside0.mk (blk_below (g:=gb197) (o:=.cells #[.string t190,.int .u64 t191,.int .u8 t192] 39 (0,0)) (by (with_reducible repeat (first|refine bN ?_ _|refine bD ?_|refine bA ?_ _));exact BK197.out) hb)
            have n7_:=Aside0.mk (below_step (by repeat (first|(with_reducible first|exact HB.out|apply below_alloc|apply pw_below_drewN|apply below_drew1|refine below_set ?_ GE175.out|refine below_set ?_ GE186.out|refine below_set ?_ GE197.out)|exact HB.out)) hb)
            clear HO178
            clear HO184
            clear HO189
            clear HO195
            clear BK175
            clear BK186
            clear BK197
            clear HB
            have HO178:=n0_
            have HO184:=n1_
            have HO189:=n2_
            have HO195:=n3_
            have BK175:=n4_
            have BK186:=n5_
            have BK197:=n6_
            have HB:=n7_
            clear n0_ n1_ n2_ n3_ n4_ n5_ n6_ n7_
            (try clear hb)
            (try clear hb2)
            (try clear hk)
            (try clear hi)
            refine hK.out _ _ ⟨(blk_cell BK175.out 0).trans rfl,(blk_cell BK175.out 1).trans rfl,(blk_cell BK175.out 2).trans rfl,(blk_cell BK186.out 0).trans rfl,(blk_cell BK186.out 1).trans rfl,(blk_cell BK186.out 2).trans rfl⟩ (fun hHeld => ?_)
            clear hK K
            refine norm_ (a':=?_) ?_ ?_
            rotate_left
            ·show Act.put _ (some 35) _ = _
             simp only [Act.put,sA,sZ,sS,i64_w,i32_w]
             rfl
            refine pure_ (i:=14) (N:=some 36) (v:=?_) (a':=?_) #[true,true,true,true,true,true,true,true,true,true,true,true,true,true,true,false,false,false,false,false,false,false,false,false,false,false,false,false,false,false,false,false,false,false,false,false,false,false,false,false,false,false,false,false,false,false,false,false,false,false,false,false,false,false,false,false,false,false,false,false,false,false,false,false,false,false] rfl rfl (any_of HT_.out (by kernel_rfl)) (fun _ _ _ h => h) (Or.inl ⟨by rfl,?_⟩) ?_ ?_
            rotate_left
            ·intro w'
             go_simp
             with_reducible rfl
            rotate_left
            ·simp only [Act.put,sA,sZ,sS,i64_w,i32_w]
             rfl
            refine pure_ (i:=15) (N:=some 37) (v:=?_) (a':=?_) #[true,true,true,true,true,true,true,true,true,true,true,true,true,true,true,true,false,false,false,false,false,false,false,false,false,false,false,false,false,false,false,false,false,false,false,false,false,false,false,false,false,false,false,false,false,false,false,false,false,false,false,false,false,false,false,false,false,false,false,false,false,false,false,false,false,false] rfl rfl (any_of HT_.out (by kernel_rfl)) (fun _ _ _ h => h) (Or.inl ⟨by rfl,?_⟩) ?_ ?_
            rotate_left
            ·intro w'
             go_simp
             with_reducible rfl
            rotate_left
            ·simp only [Act.put,sA,sZ,sS,i64_w,i32_w]
             rfl
            refine pure_ (i:=16) (N:=some 38) (v:=?_) (a':=?_) #[true,true,true,true,true,true,true,true,true,true,true,true,true,true,true,true,true,false,false,false,false,false,false,false,false,false,false,false,false,false,false,false,false,false,false,false,false,false,false,false,false,false,false,false,false,false,false,false,false,false,false,false,false,false,false,false,false,false,false,false,false,false,false,false,false,false] rfl rfl (any_of HT_.out (by kernel_rfl)) (fun _ _ _ h => h) (Or.inl ⟨by rfl,?_⟩) ?_ ?_
            rotate_left
            ·intro w'
             go_simp
             with_reducible rfl
            rotate_left
            ·simp only [Act.put,sA,sZ,sS,i64_w,i32_w]
             rfl
            refine take_ (i:=17) (N:=some 39) (v:=?_) (a':=?_) #[true,true,true,true,true,true,true,true,true,true,true,true,true,true,true,true,true,true,false,false,false,false,false,false,false,false,false,false,false,false,false,false,false,false,false,false,false,false,false,false,false,false,false,false,false,false,false,false,false,false,false,false,false,false,false,false,false,false,false,false,false,false,false,false,false,false] rfl rfl (take_ofW HT_.out HW_.out (by kernel_rfl)) (fun _ _ _ h => h) (Or.inl ⟨by rfl,?_⟩) hHeld ?_ ?_
            rotate_left
            ·rintro w' ⟨s0,s1,s2,s3,s4,s5⟩
             go_simp
             with_reducible rfl
            rotate_left
            ·simp only [Act.put,sA,sZ,sS,i64_w,i32_w]
             rfl
            refine one_ (i:=18) (N:=some 40) #[true,true,true,true,true,true,true,true,true,true,true,true,true,true,true,true,true,true,true,false,false,false,false,false,false,false,false,false,false,false,false,false,false,false,false,false,false,false,false,false,false,false,false,false,false,false,false,false,false,false,false,false,false,false,false,false,false,false,false,false,false,false,false,false,false,false] rfl rfl (one_of HT_.out (by kernel_rfl)) (by decide) (fun K hK => ?_)
            refine goes_ Try.func33 (by kernel_rfl) rfl #[.string (⟨#[97]⟩ : ByteArray),.int .u64 6,.int .u8 0] (by rfl) rfl rfl (by (try simp only [List.map_toArray,List.map_cons,List.map_nil]);first|done|rfl|(simp only [List.length_drop,List.length_take];rfl)) ?_
            with_reducible refine (ratlinelaw03_one.calls (⟨#[97]⟩ : ByteArray) 6 0 t210 t211 t212 _ A13.out).mono ?_
            rintro e w59 ⟨rfl,hb⟩
            refine ⟨_,rfl,?_⟩
            have n0_:=Aside0.mk (Kd.R_below (by (with_reducible repeat (first|apply zA|apply zN|apply zD));exact HO178.out) hb)
            have n1_:=Aside0.mk (Kd.R_below (by (with_reducible repeat (first|apply zA|apply zN|apply zD));exact HO184.out) hb)
            have n2_:=Aside0.mk (Kd.R_below (by (with_reducible repeat (first|apply zA|apply zN|apply zD));exact HO189.out) hb)
            have n3_:=Aside0.mk (Kd.R_below (by (with_reducible repeat (first|apply zA|apply zN|apply zD));exact HO195.out) hb)
            have n4_:=Aside0.mk (blk_below (g:=gb175) (o:=.cells #[.string t172,.int .u64 t173,.int .u8 t174] 39 (0,0)) (by (with_reducible repeat (first|refine bN ?_ _|refine bD ?_|refine bA ?_ _));exact BK175.out) hb)
            have n5_:=Aside0.mk (blk_below (g:=gb186) (o:=.cells #[.string t179,.int .u64 t180,.int .u8 t181] 39 (0,0)) (by (with_reducible repeat (first|refine bN ?_ _|refine bD ?_|refine bA ?_ _));exact BK186.out) hb)
            have n6_:=Aside0.mk (blk_below (g:=gb197) (o:=.cells #[.string t190,.int .u64 t191,.int .u8 t192] 39 (0,0)) (by (with_reducible repeat (first|refine bN ?_ _|refine bD ?_|refine bA ?_ _));exact BK197.out) hb)
            have n7_:=Aside0.mk (below_step (by repeat (first|(with_reducible first|exact HB.out|apply below_alloc|apply pw_below_drewN|apply below_drew1|refine below_set ?_ GE175.out|refine below_set ?_ GE186.out|refine below_set ?_ GE197.out)|exact HB.out)) hb)
            clear HO178
            clear HO184
            clear HO189
            clear HO195
            clear BK175
            clear BK186
            clear BK197
            clear HB
            have HO178:=n0_
            have HO184:=n1_
            have HO189:=n2_
            have HO195:=n3_
            have BK175:=n4_
            have BK186:=n5_
            have BK197:=n6_
            have HB:=n7_
            clear n0_ n1_ n2_ n3_ n4_ n5_ n6_ n7_
            (try clear hb)
            (try clear hb2)
            (try clear hk)
            (try clear hi)
            refine hK.out _ _ ⟨(blk_cell BK175.out 0).trans rfl,(blk_cell BK175.out 1).trans rfl,(blk_cell BK175.out 2).trans rfl,(blk_cell BK186.out 0).trans rfl,(blk_cell BK186.out 1).trans rfl,(blk_cell BK186.out 2).trans rfl⟩ (fun hHeld => ?_)
            clear hK K
            refine norm_ (a':=?_) ?_ ?_
            rotate_left
            ·show Act.put _ (some 40) _ = _
             simp only [Act.put,sA,sZ,sS,i64_w,i32_w]
             rfl
            refine one_ (i:=19) (N:=some 41) #[true,true,true,true,true,true,true,true,true,true,true,true,true,true,true,true,true,true,true,true,false,false,false,false,false,false,false,false,false,false,false,false,false,false,false,false,false,false,false,false,false,false,false,false,false,false,false,false,false,false,false,false,false,false,false,false,false,false,false,false,false,false,false,false,false,false] rfl rfl (one_of HT_.out (by kernel_rfl)) (by decide) (fun K hK => ?_)
            refine goes_ Try.func27 (by kernel_rfl) rfl #[.agg #[.string t172,.int .u64 t173,.int .u8 t174],.agg #[.string t210,.int .u64 t211,.int .u8 t212]] (by rfl) rfl rfl (by (try simp only [List.map_toArray,List.map_cons,List.map_nil]);first|done|rfl|(simp only [List.length_drop,List.length_take];rfl)) ?_
            with_reducible refine (ikey_Compare.calls k t172 t173 t174 t210 t211 t212 t213 _ A14.out).mono ?_
            rintro e w60 ⟨rfl,hb⟩
            refine ⟨_,rfl,?_⟩
            have n0_:=Aside0.mk (Kd.R_below (by (with_reducible repeat (first|apply zA|apply zN|apply zD));exact HO178.out) hb)
            have n1_:=Aside0.mk (Kd.R_below (by (with_reducible repeat (first|apply zA|apply zN|apply zD));exact HO184.out) hb)
            have n2_:=Aside0.mk (Kd.R_below (by (with_reducible repeat (first|apply zA|apply zN|apply zD));exact HO189.out) hb)
            have n3_:=Aside0.mk (Kd.R_below (by (with_reducible repeat (first|apply zA|apply zN|apply zD));exact HO195.out) hb)
            have n4_:=Aside0.mk (blk_below (g:=gb175) (o:=.cells #[.string t172,.int .u64 t173,.int .u8 t174] 39 (0,0)) (by (with_reducible repeat (first|refine bN ?_ _|refine bD ?_|refine bA ?_ _));exact BK175.out) hb)
            have n5_:=Aside0.mk (blk_below (g:=gb186) (o:=.cells #[.string t179,.int .u64 t180,.int .u8 t181] 39 (0,0)) (by (with_reducible repeat (first|refine bN ?_ _|refine bD ?_|refine bA ?_ _));exact BK186.out) hb)
            have n6_:=Aside0.mk (blk_below (g:=gb197) (o:=.cells #[.string t190,.int .u64 t191,.int .u8 t192] 39 (0,0)) (by (with_reducible repeat (first|refine bN ?_ _|refine bD ?_|refine bA ?_ _));exact BK197.out) hb)
            have n7_:=Aside0.mk (below_step (by repeat (first|(with_reducible first|exact HB.out|apply below_alloc|apply pw_below_drewN|apply below_drew1|refine below_set ?_ GE175.out|refine below_set ?_ GE186.out|refine below_set ?_ GE197.out)|exact HB.out)) hb)
            clear HO178
            clear HO184
            clear HO189
            clear HO195
            clear BK175
            clear BK186
            clear BK197
            clear HB
            have HO178:=n0_
            have HO184:=n1_
            have HO189:=n2_
            have HO195:=n3_
            have BK175:=n4_
            have BK186:=n5_
            have BK197:=n6_
            have HB:=n7_
            clear n0_ n1_ n2_ n3_ n4_ n5_ n6_ n7_
            (try clear hb)
            (try clear hb2)
            (try clear hk)
            (try clear hi)
            refine hK.out _ _ ⟨(blk_cell BK175.out 0).trans rfl,(blk_cell BK175.out 1).trans rfl,(blk_cell BK175.out 2).trans rfl,(blk_cell BK186.out 0).trans rfl,(blk_cell BK186.out 1).trans rfl,(blk_cell BK186.out 2).trans rfl⟩ (fun hHeld => ?_)
            clear hK K
            refine norm_ (a':=?_) ?_ ?_
            rotate_left
            ·show Act.put _ (some 41) _ = _
             simp only [Act.put,sA,sZ,sS,i64_w,i32_w]
             rfl
            refine pure_ (i:=20) (N:=some 42) (v:=?_) (a':=?_) #[true,true,true,true,true,true,true,true,true,true,true,true,true,true,true,true,true,true,true,true,true,false,false,false,false,false,false,false,false,false,false,false,false,false,false,false,false,false,false,false,false,false,false,false,false,false,false,false,false,false,false,false,false,false,false,false,false,false,false,false,false,false,false,false,false,false] rfl rfl (any_of HT_.out (by kernel_rfl)) (fun _ _ _ h => h) (Or.inl ⟨by rfl,?_⟩) ?_ ?_
            rotate_left
            ·intro w'
             go_simp
             with_reducible rfl
            rotate_left
            ·simp only [Act.put,sA,sZ,sS,i64_w,i32_w]
             rfl
            refine pure_ (i:=21) (N:=some 43) (v:=?_) (a':=?_) #[true,true,true,true,true,true,true,true,true,true,true,true,true,true,true,true,true,true,true,true,true,true,false,false,false,false,false,false,false,false,false,false,false,false,false,false,false,false,false,false,false,false,false,false,false,false,false,false,false,false,false,false,false,false,false,false,false,false,false,false,false,false,false,false,false,false] rfl rfl (any_of HT_.out (by kernel_rfl)) (fun _ _ _ h => h) (Or.inl ⟨by rfl,?_⟩) ?_ ?_
            rotate_left
            ·intro w'
             go_simp
             with_reducible rfl
            rotate_left
            ·simp only [Act.put,sA,sZ,sS,i64_w,i32_w]
             rfl
            refine pure_ (i:=22) (N:=some 44) (v:=?_) (a':=?_) #[true,true,true,true,true,true,true,true,true,true,true,true,true,true,true,true,true,true,true,true,true,true,true,false,false,false,false,false,false,false,false,false,false,false,false,false,false,false,false,false,false,false,false,false,false,false,false,false,false,false,false,false,false,false,false,false,false,false,false,false,false,false,false,false,false,false] rfl rfl (any_of HT_.out (by kernel_rfl)) (fun _ _ _ h => h) (Or.inl ⟨by rfl,?_⟩) ?_ ?_
            rotate_left
            ·intro w'
             go_simp
             with_reducible rfl
            rotate_left
            ·simp only [Act.put,sA,sZ,sS,i64_w,i32_w]
             rfl
            refine take_ (i:=24) (N:=some 46) (v:=?_) (a':=?_) #[true,true,true,true,true,true,true,true,true,true,true,true,true,true,true,true,true,true,true,true,true,true,true,false,true,false,false,false,false,false,false,false,false,false,false,false,false,false,false,false,false,false,false,false,false,false,false,false,false,false,false,false,false,false,false,false,false,false,false,false,false,false,false,false,false,false] rfl rfl (take_ofW HT_.out HW_.out (by kernel_rfl)) (fun _ _ _ h => h) (Or.inl ⟨by rfl,?_⟩) hHeld ?_ ?_
            rotate_left
            ·rintro w' ⟨s0,s1,s2,s3,s4,s5⟩
             go_simp
             with_reducible rfl
            rotate_left
            ·simp only [Act.put,sA,sZ,sS,i64_w,i32_w]
             rfl
            refine one_ (i:=23) (N:=some 45) #[true,true,true,true,true,true,true,true,true,true,true,true,true,true,true,true,true,true,true,true,true,true,true,true,true,false,false,false,false,false,false,false,false,false,false,false,false,false,false,false,false,false,false,false,false,false,false,false,false,false,false,false,false,false,false,false,false,false,false,false,false,false,false,false,false,false] rfl rfl (one_of HT_.out (by kernel_rfl)) (by decide) (fun K hK => ?_)
            refine goes_ Try.func28 (by kernel_rfl) rfl #[.string (⟨#[97]⟩ : ByteArray),.int .u64 5] (by rfl) rfl rfl (by (try simp only [List.map_toArray,List.map_cons,List.map_nil]);first|done|rfl|(simp only [List.length_drop,List.length_take];rfl)) ?_
            with_reducible refine (ikey_Sought.calls (⟨#[97]⟩ : ByteArray) 5 t214 t215 t216 _ A16.out).mono ?_
            rintro e w61 ⟨rfl,hb⟩
            refine ⟨_,rfl,?_⟩
            have n0_:=Aside0.mk (Kd.R_below (by (with_reducible repeat (first|apply zA|apply zN|apply zD));exact HO178.out) hb)
            have n1_:=Aside0.mk (Kd.R_below (by (with_reducible repeat (first|apply zA|apply zN|apply zD));exact HO184.out) hb)
            have n2_:=Aside0.mk (Kd.R_below (by (with_reducible repeat (first|apply zA|apply zN|apply zD));exact HO189.out) hb)
            have n3_:=Aside0.mk (Kd.R_below (by (with_reducible repeat (first|apply zA|apply zN|apply zD));exact HO195.out) hb)
            have n4_:=Aside0.mk (blk_below (g:=gb175) (o:=.cells #[.string t172,.int .u64 t173,.int .u8 t174] 39 (0,0)) (by (with_reducible repeat (first|refine bN ?_ _|refine bD ?_|refine bA ?_ _));exact BK175.out) hb)
            have n5_:=Aside0.mk (blk_below (g:=gb186) (o:=.cells #[.string t179,.int .u64 t180,.int .u8 t181] 39 (0,0)) (by (with_reducible repeat (first|refine bN ?_ _|refine bD ?_|refine bA ?_ _));exact BK186.out) hb)
            have n6_:=Aside0.mk (blk_below (g:=gb197) (o:=.cells #[.string t190,.int .u64 t191,.int .u8 t192] 39 (0,0)) (by (with_reducible repeat (first|refine bN ?_ _|refine bD ?_|refine bA ?_ _));exact BK197.out) hb)
            have n7_:=Aside0.mk (below_step (by repeat (first|(with_reducible first|exact HB.out|apply below_alloc|apply pw_below_drewN|apply below_drew1|refine below_set ?_ GE175.out|refine below_set ?_ GE186.out|refine below_set ?_ GE197.out)|exact HB.out)) hb)
            clear HO178
            clear HO184
            clear HO189
            clear HO195
            clear BK175
            clear BK186
            clear BK197
            clear HB
            have HO178:=n0_
            have HO184:=n1_
            have HO189:=n2_
            have HO195:=n3_
            have BK175:=n4_
            have BK186:=n5_
            have BK197:=n6_
            have HB:=n7_
            clear n0_ n1_ n2_ n3_ n4_ n5_ n6_ n7_
            (try clear hb)
            (try clear hb2)
            (try clear hk)
            (try clear hi)
            refine hK.out _ _ ⟨(blk_cell BK175.out 0).trans rfl,(blk_cell BK175.out 1).trans rfl,(blk_cell BK175.out 2).trans rfl,(blk_cell BK186.out 0).trans rfl,(blk_cell BK186.out 1).trans rfl,(blk_cell BK186.out 2).trans rfl⟩ (fun hHeld => ?_)
            clear hK K
            refine norm_ (a':=?_) ?_ ?_
            rotate_left
            ·show Act.put _ (some 45) _ = _
             simp only [Act.put,sA,sZ,sS,i64_w,i32_w]
             rfl
            refine pure_ (i:=25) (N:=some 47) (v:=?_) (a':=?_) #[true,true,true,true,true,true,true,true,true,true,true,true,true,true,true,true,true,true,true,true,true,true,true,true,true,true,false,false,false,false,false,false,false,false,false,false,false,false,false,false,false,false,false,false,false,false,false,false,false,false,false,false,false,false,false,false,false,false,false,false,false,false,false,false,false,false] rfl rfl (any_of HT_.out (by kernel_rfl)) (fun _ _ _ h => h) (Or.inl ⟨by rfl,?_⟩) ?_ ?_
            rotate_left
            ·intro w'
             go_simp
             with_reducible rfl
            rotate_left
            ·simp only [Act.put,sA,sZ,sS,i64_w,i32_w]
             rfl
            refine pure_ (i:=26) (N:=some 48) (v:=?_) (a':=?_) #[true,true,true,true,true,true,true,true,true,true,true,true,true,true,true,true,true,true,true,true,true,true,true,true,true,true,true,false,false,false,false,false,false,false,false,false,false,false,false,false,false,false,false,false,false,false,false,false,false,false,false,false,false,false,false,false,false,false,false,false,false,false,false,false,false,false] rfl rfl (any_of HT_.out (by kernel_rfl)) (fun _ _ _ h => h) (Or.inl ⟨by rfl,?_⟩) ?_ ?_
            rotate_left
            ·intro w'
             go_simp
             with_reducible rfl
            rotate_left
            ·simp only [Act.put,sA,sZ,sS,i64_w,i32_w]
             rfl
            refine pure_ (i:=27) (N:=some 49) (v:=?_) (a':=?_) #[true,true,true,true,true,true,true,true,true,true,true,true,true,true,true,true,true,true,true,true,true,true,true,true,true,true,true,true,false,false,false,false,false,false,false,false,false,false,false,false,false,false,false,false,false,false,false,false,false,false,false,false,false,false,false,false,false,false,false,false,false,false,false,false,false,false] rfl rfl (any_of HT_.out (by kernel_rfl)) (fun _ _ _ h => h) (Or.inl ⟨by rfl,?_⟩) ?_ ?_
            rotate_left
            ·intro w'
             go_simp
             with_reducible rfl
            rotate_left
            ·simp only [Act.put,sA,sZ,sS,i64_w,i32_w]
             rfl
            refine pure_ (i:=28) (N:=some 50) (v:=?_) (a':=?_) #[true,true,true,true,true,true,true,true,true,true,true,true,true,true,true,true,true,true,true,true,true,true,true,true,true,true,true,true,true,false,false,false,false,false,false,false,false,false,false,false,false,false,false,false,false,false,false,false,false,false,false,false,false,false,false,false,false,false,false,false,false,false,false,false,false,false] rfl rfl (any_of HT_.out (by kernel_rfl)) (fun _ _ _ h => h) (Or.inl ⟨by rfl,?_⟩) ?_ ?_
            rotate_left
            ·intro w'
             go_simp
             with_reducible rfl
            rotate_left
            ·simp only [Act.put,sA,sZ,sS,i64_w,i32_w]
             rfl
            refine take_ (i:=29) (N:=some 51) (v:=?_) (a':=?_) #[true,true,true,true,true,true,true,true,true,true,true,true,true,true,true,true,true,true,true,true,true,true,true,true,true,true,true,true,true,true,false,false,false,false,false,false,false,false,false,false,false,false,false,false,false,false,false,false,false,false,false,false,false,false,false,false,false,false,false,false,false,false,false,false,false,false] rfl rfl (take_ofW HT_.out HW_.out (by kernel_rfl)) (fun _ _ _ h => h) (Or.inl ⟨by rfl,?_⟩) hHeld ?_ ?_
            rotate_left
            ·rintro w' ⟨s0,s1,s2,s3,s4,s5⟩
             go_simp
             with_reducible rfl
            rotate_left
            ·simp only [Act.put,sA,sZ,sS,i64_w,i32_w]
             rfl
            refine join_ (σ:=Value × Value × Value × Value) 27 #[true,true,true,true,true,true,true,true,true,true,true,true,true,true,true,true,true,true,true,true,true,true,true,true,true,true,true,true,true,true,true,true,true,true,true,true,true,true,true,false,false,false,false,false,false,false,false,false,false,false,false,false,false,false,false,false,false,false,false,false,false,false,false,false,false,false] (fun s_ => [(52,s_.1),(53,s_.2.1),(54,.bool true),(58,.agg #[.string t224,.int .u64 t225,.int .u8 t226]),(59,s_.2.2.1),(60,s_.2.2.2),(55,.bool true),(56,.bool true),(57,.func (.func 30) #[] #[])]) (fun s_ w' => (w'.cell? ⟨gb175,0,none⟩ = some (.string t172) ∧ w'.cell? ⟨gb175,1,none⟩ = some (.int .u64 t173) ∧ w'.cell? ⟨gb175,2,none⟩ = some (.int .u8 t174) ∧ w'.cell? ⟨gb186,0,none⟩ = some (.string t179) ∧ w'.cell? ⟨gb186,1,none⟩ = some (.int .u64 t180) ∧ w'.cell? ⟨gb186,2,none⟩ = some (.int .u8 t181)) ∧ (Kd.R (Kd.int .u8) 5 w' w.heap.size (fun k_ => nB k_ Ao50 t182.length co50 ∧ nB k_ Ao44 y187.length co44 ∧ some k_ ≠ (v194 : Value).ownBlock ∧ some k_ ≠ (s_.1 : Value).ownBlock ∧ some k_ ≠ (s_.2.1 : Value).ownBlock ∧ some k_ ≠ (s_.2.2.1 : Value).ownBlock ∧ some k_ ≠ (s_.2.2.2 : Value).ownBlock) (.slice Ao37 y176.length co37) y176) ∧ (Kd.R (Kd.int .u8) 5 w' w.heap.size (fun k_ => nB k_ Ao37 y176.length co37 ∧ nB k_ Ao44 y187.length co44 ∧ some k_ ≠ (v194 : Value).ownBlock ∧ some k_ ≠ (s_.1 : Value).ownBlock ∧ some k_ ≠ (s_.2.1 : Value).ownBlock ∧ some k_ ≠ (s_.2.2.1 : Value).ownBlock ∧ some k_ ≠ (s_.2.2.2 : Value).ownBlock) (.slice Ao50 t182.length co50) t182) ∧ (Kd.R (Kd.int .u8) 5 w' w.heap.size (fun k_ => nB k_ Ao37 y176.length co37 ∧ nB k_ Ao50 t182.length co50 ∧ some k_ ≠ (v194 : Value).ownBlock ∧ some k_ ≠ (s_.1 : Value).ownBlock ∧ some k_ ≠ (s_.2.1 : Value).ownBlock ∧ some k_ ≠ (s_.2.2.1 : Value).ownBlock ∧ some k_ ≠ (s_.2.2.2 : Value).ownBlock) (.slice Ao44 y187.length co44) y187) ∧ (Kd.R (Kd.int .u8) 5 w' w.heap.size (fun k_ => nB k_ Ao37 y176.length co37 ∧ nB k_ Ao50 t182.length co50 ∧ nB k_ Ao44 y187.length co44 ∧ some k_ ≠ (s_.1 : Value).ownBlock ∧ some k_ ≠ (s_.2.1 : Value).ownBlock ∧ some k_ ≠ (s_.2.2.1 : Value).ownBlock ∧ some k_ ≠ (s_.2.2.2 : Value).ownBlock) v194 t193) ∧ (Kd.R (Kd.int .u8) 5 w' w.heap.size (fun k_ => nB k_ Ao37 y176.length co37 ∧ nB k_ Ao50 t182.length co50 ∧ nB k_ Ao44 y187.length co44 ∧ some k_ ≠ (v194 : Value).ownBlock ∧ some k_ ≠ (s_.2.1 : Value).ownBlock ∧ some k_ ≠ (s_.2.2.1 : Value).ownBlock ∧ some k_ ≠ (s_.2.2.2 : Value).ownBlock) s_.1 t217) ∧ (Kd.R (Kd.int .u8) 5 w' w.heap.size (fun k_ => nB k_ Ao37 y176.length co37 ∧ nB k_ Ao50 t182.length co50 ∧ nB k_ Ao44 y187.length co44 ∧ some k_ ≠ (v194 : Value).ownBlock ∧ some k_ ≠ (s_.1 : Value).ownBlock ∧ some k_ ≠ (s_.2.2.1 : Value).ownBlock ∧ some k_ ≠ (s_.2.2.2 : Value).ownBlock) s_.2.1 y220) ∧ (Kd.R (Kd.int .u8) 5 w' w.heap.size (fun k_ => nB k_ Ao37 y176.length co37 ∧ nB k_ Ao50 t182.length co50 ∧ nB k_ Ao44 y187.length co44 ∧ some k_ ≠ (v194 : Value).ownBlock ∧ some k_ ≠ (s_.1 : Value).ownBlock ∧ some k_ ≠ (s_.2.1 : Value).ownBlock ∧ some k_ ≠ (s_.2.2.2 : Value).ownBlock) s_.2.2.1 t227) ∧ (Kd.R (Kd.int .u8) 5 w' w.heap.size (fun k_ => nB k_ Ao37 y176.length co37 ∧ nB k_ Ao50 t182.length co50 ∧ nB k_ Ao44 y187.length co44 ∧ some k_ ≠ (v194 : Value).ownBlock ∧ some k_ ≠ (s_.1 : Value).ownBlock ∧ some k_ ≠ (s_.2.1 : Value).ownBlock ∧ some k_ ≠ (s_.2.2.1 : Value).ownBlock) s_.2.2.2 y230) ∧ (w'.heap[gb175]? = some (.cells #[.string t172,.int .u64 t173,.int .u8 t174] 39 (0,0))) ∧ (w'.heap[gb186]? = some (.cells #[.string t179,.int .u64 t180,.int .u8 t181] 39 (0,0))) ∧ (w'.heap[gb197]? = some (.cells #[.string t190,.int .u64 t191,.int .u8 t192] 39 (0,0))) ∧ (Below w.heap.size w w')) ?_ ?_
            rotate_left
            ·intro hJ30_31_32_36_37_38
             refine join_ (σ:=Value × Value × Value) 28 #[true,true,true,true,true,true,true,true,true,true,true,true,true,true,true,true,true,true,true,true,true,true,true,true,true,true,true,true,true,true,true,true,true,true,true,true,true,true,false,false,false,false,false,false,false,false,false,false,false,false,false,false,false,false,false,false,false,false,false,false,false,false,false,false,false,false] (fun s_ => [(52,s_.1),(53,s_.2.1),(54,.bool true),(58,.agg #[.string t224,.int .u64 t225,.int .u8 t226]),(59,s_.2.2),(55,.bool true),(56,.bool true),(57,.func (.func 30) #[] #[])]) (fun s_ w' => (w'.cell? ⟨gb175,0,none⟩ = some (.string t172) ∧ w'.cell? ⟨gb175,1,none⟩ = some (.int .u64 t173) ∧ w'.cell? ⟨gb175,2,none⟩ = some (.int .u8 t174) ∧ w'.cell? ⟨gb186,0,none⟩ = some (.string t179) ∧ w'.cell? ⟨gb186,1,none⟩ = some (.int .u64 t180) ∧ w'.cell? ⟨gb186,2,none⟩ = some (.int .u8 t181)) ∧ (Kd.R (Kd.int .u8) 5 w' w.heap.size (fun k_ => nB k_ Ao50 t182.length co50 ∧ nB k_ Ao44 y187.length co44 ∧ some k_ ≠ (v194 : Value).ownBlock ∧ some k_ ≠ (s_.1 : Value).ownBlock ∧ some k_ ≠ (s_.2.1 : Value).ownBlock ∧ some k_ ≠ (s_.2.2 : Value).ownBlock) (.slice Ao37 y176.length co37) y176) ∧ (Kd.R (Kd.int .u8) 5 w' w.heap.size (fun k_ => nB k_ Ao37 y176.length co37 ∧ nB k_ Ao44 y187.length co44 ∧ some k_ ≠ (v194 : Value).ownBlock ∧ some k_ ≠ (s_.1 : Value).ownBlock ∧ some k_ ≠ (s_.2.1 : Value).ownBlock ∧ some k_ ≠ (s_.2.2 : Value).ownBlock) (.slice Ao50 t182.length co50) t182) ∧ (Kd.R (Kd.int .u8) 5 w' w.heap.size (fun k_ => nB k_ Ao37 y176.length co37 ∧ nB k_ Ao50 t182.length co50 ∧ some k_ ≠ (v194 : Value).ownBlock ∧ some k_ ≠ (s_.1 : Value).ownBlock ∧ some k_ ≠ (s_.2.1 : Value).ownBlock ∧ some k_ ≠ (s_.2.2 : Value).ownBlock) (.slice Ao44 y187.length co44) y187) ∧ (Kd.R (Kd.int .u8) 5 w' w.heap.size (fun k_ => nB k_ Ao37 y176.length co37 ∧ nB k_ Ao50 t182.length co50 ∧ nB k_ Ao44 y187.length co44 ∧ some k_ ≠ (s_.1 : Value).ownBlock ∧ some k_ ≠ (s_.2.1 : Value).ownBlock ∧ some k_ ≠ (s_.2.2 : Value).ownBlock) v194 t193) ∧ (Kd.R (Kd.int .u8) 5 w' w.heap.size (fun k_ => nB k_ Ao37 y176.length co37 ∧ nB k_ Ao50 t182.length co50 ∧ nB k_ Ao44 y187.length co44 ∧ some k_ ≠ (v194 : Value).ownBlock ∧ some k_ ≠ (s_.2.1 : Value).ownBlock ∧ some k_ ≠ (s_.2.2 : Value).ownBlock) s_.1 t217) ∧ (Kd.R (Kd.int .u8) 5 w' w.heap.size (fun k_ => nB k_ Ao37 y176.length co37 ∧ nB k_ Ao50 t182.length co50 ∧ nB k_ Ao44 y187.length co44 ∧ some k_ ≠ (v194 : Value).ownBlock ∧ some k_ ≠ (s_.1 : Value).ownBlock ∧ some k_ ≠ (s_.2.2 : Value).ownBlock) s_.2.1 y220) ∧ (Kd.R (Kd.int .u8) 5 w' w.heap.size (fun k_ => nB k_ Ao37 y176.length co37 ∧ nB k_ Ao50 t182.length co50 ∧ nB k_ Ao44 y187.length co44 ∧ some k_ ≠ (v194 : Value).ownBlock ∧ some k_ ≠ (s_.1 : Value).ownBlock ∧ some k_ ≠ (s_.2.1 : Value).ownBlock) s_.2.2 t227) ∧ (w'.heap[gb175]? = some (.cells #[.string t172,.int .u64 t173,.int .u8 t174] 39 (0,0))) ∧ (w'.heap[gb186]? = some (.cells #[.string t179,.int .u64 t180,.int .u8 t181] 39 (0,0))) ∧ (w'.heap[gb197]? = some (.cells #[.string t190,.int .u64 t191,.int .u8 t192] 39 (0,0))) ∧ (Below w.heap.size w w')) ?_ ?_
             rotate_left
             ·intro hJ30_31_32_36_37
              refine join_ (σ:=Value × Value × Value) 28 #[true,true,true,true,true,true,true,true,true,true,true,true,true,true,true,true,true,true,true,true,true,true,true,true,true,true,true,true,true,true,true,true,true,true,true,true,true,false,true,false,false,false,false,false,false,false,false,false,false,false,false,false,false,false,false,false,false,false,false,false,false,false,false,false,false,false] (fun s_ => [(52,s_.1),(53,s_.2.1),(54,.bool true),(58,.agg #[.string t224,.int .u64 t225,.int .u8 t226]),(60,s_.2.2),(55,.bool true),(56,.bool true),(57,.func (.func 30) #[] #[])]) (fun s_ w' => (w'.cell? ⟨gb175,0,none⟩ = some (.string t172) ∧ w'.cell? ⟨gb175,1,none⟩ = some (.int .u64 t173) ∧ w'.cell? ⟨gb175,2,none⟩ = some (.int .u8 t174) ∧ w'.cell? ⟨gb186,0,none⟩ = some (.string t179) ∧ w'.cell? ⟨gb186,1,none⟩ = some (.int .u64 t180) ∧ w'.cell? ⟨gb186,2,none⟩ = some (.int .u8 t181)) ∧ (Kd.R (Kd.int .u8) 5 w' w.heap.size (fun k_ => nB k_ Ao50 t182.length co50 ∧ nB k_ Ao44 y187.length co44 ∧ some k_ ≠ (v194 : Value).ownBlock ∧ some k_ ≠ (s_.1 : Value).ownBlock ∧ some k_ ≠ (s_.2.1 : Value).ownBlock ∧ some k_ ≠ (s_.2.2 : Value).ownBlock) (.slice Ao37 y176.length co37) y176) ∧ (Kd.R (Kd.int .u8) 5 w' w.heap.size (fun k_ => nB k_ Ao37 y176.length co37 ∧ nB k_ Ao44 y187.length co44 ∧ some k_ ≠ (v194 : Value).ownBlock ∧ some k_ ≠ (s_.1 : Value).ownBlock ∧ some k_ ≠ (s_.2.1 : Value).ownBlock ∧ some k_ ≠ (s_.2.2 : Value).ownBlock) (.slice Ao50 t182.length co50) t182) ∧ (Kd.R (Kd.int .u8) 5 w' w.heap.size (fun k_ => nB k_ Ao37 y176.length co37 ∧ nB k_ Ao50 t182.length co50 ∧ some k_ ≠ (v194 : Value).ownBlock ∧ some k_ ≠ (s_.1 : Value).ownBlock ∧ some k_ ≠ (s_.2.1 : Value).ownBlock ∧ some k_ ≠ (s_.2.2 : Value).ownBlock) (.slice Ao44 y187.length co44) y187) ∧ (Kd.R (Kd.int .u8) 5 w' w.heap.size (fun k_ => nB k_ Ao37 y176.length co37 ∧ nB k_ Ao50 t182.length co50 ∧ nB k_ Ao44 y187.length co44 ∧ some k_ ≠ (s_.1 : Value).ownBlock ∧ some k_ ≠ (s_.2.1 : Value).ownBlock ∧ some k_ ≠ (s_.2.2 : Value).ownBlock) v194 t193) ∧ (Kd.R (Kd.int .u8) 5 w' w.heap.size (fun k_ => nB k_ Ao37 y176.length co37 ∧ nB k_ Ao50 t182.length co50 ∧ nB k_ Ao44 y187.length co44 ∧ some k_ ≠ (v194 : Value).ownBlock ∧ some k_ ≠ (s_.2.1 : Value).ownBlock ∧ some k_ ≠ (s_.2.2 : Value).ownBlock) s_.1 t217) ∧ (Kd.R (Kd.int .u8) 5 w' w.heap.size (fun k_ => nB k_ Ao37 y176.length co37 ∧ nB k_ Ao50 t182.length co50 ∧ nB k_ Ao44 y187.length co44 ∧ some k_ ≠ (v194 : Value).ownBlock ∧ some k_ ≠ (s_.1 : Value).ownBlock ∧ some k_ ≠ (s_.2.2 : Value).ownBlock) s_.2.1 y220) ∧ (Kd.R (Kd.int .u8) 5 w' w.heap.size (fun k_ => nB k_ Ao37 y176.length co37 ∧ nB k_ Ao50 t182.length co50 ∧ nB k_ Ao44 y187.length co44 ∧ some k_ ≠ (v194 : Value).ownBlock ∧ some k_ ≠ (s_.1 : Value).ownBlock ∧ some k_ ≠ (s_.2.1 : Value).ownBlock) s_.2.2 y230) ∧ (w'.heap[gb175]? = some (.cells #[.string t172,.int .u64 t173,.int .u8 t174] 39 (0,0))) ∧ (w'.heap[gb186]? = some (.cells #[.string t179,.int .u64 t180,.int .u8 t181] 39 (0,0))) ∧ (w'.heap[gb197]? = some (.cells #[.string t190,.int .u64 t191,.int .u8 t192] 39 (0,0))) ∧ (Below w.heap.size w w')) ?_ ?_
              rotate_left
              ·intro hJ30_31_32_36_38
               refine join_ (σ:=Value × Value) 29 #[true,true,true,true,true,true,true,true,true,true,true,true,true,true,true,true,true,true,true,true,true,true,true,true,true,true,true,true,true,true,true,true,true,true,true,true,true,false,false,false,false,false,false,false,false,false,false,false,false,false,false,false,false,false,false,false,false,false,false,false,false,false,false,false,false,false] (fun s_ => [(52,s_.1),(53,s_.2),(54,.bool true),(58,.agg #[.string t224,.int .u64 t225,.int .u8 t226]),(55,.bool true),(56,.bool true),(57,.func (.func 30) #[] #[])]) (fun s_ w' => (w'.cell? ⟨gb175,0,none⟩ = some (.string t172) ∧ w'.cell? ⟨gb175,1,none⟩ = some (.int .u64 t173) ∧ w'.cell? ⟨gb175,2,none⟩ = some (.int .u8 t174) ∧ w'.cell? ⟨gb186,0,none⟩ = some (.string t179) ∧ w'.cell? ⟨gb186,1,none⟩ = some (.int .u64 t180) ∧ w'.cell? ⟨gb186,2,none⟩ = some (.int .u8 t181)) ∧ (Kd.R (Kd.int .u8) 5 w' w.heap.size (fun k_ => nB k_ Ao50 t182.length co50 ∧ nB k_ Ao44 y187.length co44 ∧ some k_ ≠ (v194 : Value).ownBlock ∧ some k_ ≠ (s_.1 : Value).ownBlock ∧ some k_ ≠ (s_.2 : Value).ownBlock) (.slice Ao37 y176.length co37) y176) ∧ (Kd.R (Kd.int .u8) 5 w' w.heap.size (fun k_ => nB k_ Ao37 y176.length co37 ∧ nB k_ Ao44 y187.length co44 ∧ some k_ ≠ (v194 : Value).ownBlock ∧ some k_ ≠ (s_.1 : Value).ownBlock ∧ some k_ ≠ (s_.2 : Value).ownBlock) (.slice Ao50 t182.length co50) t182) ∧ (Kd.R (Kd.int .u8) 5 w' w.heap.size (fun k_ => nB k_ Ao37 y176.length co37 ∧ nB k_ Ao50 t182.length co50 ∧ some k_ ≠ (v194 : Value).ownBlock ∧ some k_ ≠ (s_.1 : Value).ownBlock ∧ some k_ ≠ (s_.2 : Value).ownBlock) (.slice Ao44 y187.length co44) y187) ∧ (Kd.R (Kd.int .u8) 5 w' w.heap.size (fun k_ => nB k_ Ao37 y176.length co37 ∧ nB k_ Ao50 t182.length co50 ∧ nB k_ Ao44 y187.length co44 ∧ some k_ ≠ (s_.1 : Value).ownBlock ∧ some k_ ≠ (s_.2 : Value).ownBlock) v194 t193) ∧ (Kd.R (Kd.int .u8) 5 w' w.heap.size (fun k_ => nB k_ Ao37 y176.length co37 ∧ nB k_ Ao50 t182.length co50 ∧ nB k_ Ao44 y187.length co44 ∧ some k_ ≠ (v194 : Value).ownBlock ∧ some k_ ≠ (s_.2 : Value).ownBlock) s_.1 t217) ∧ (Kd.R (Kd.int .u8) 5 w' w.heap.size (fun k_ => nB k_ Ao37 y176.length co37 ∧ nB k_ Ao50 t182.length co50 ∧ nB k_ Ao44 y187.length co44 ∧ some k_ ≠ (v194 : Value).ownBlock ∧ some k_ ≠ (s_.1 : Value).ownBlock) s_.2 y220) ∧ (w'.heap[gb175]? = some (.cells #[.string t172,.int .u64 t173,.int .u8 t174] 39 (0,0))) ∧ (w'.heap[gb186]? = some (.cells #[.string t179,.int .u64 t180,.int .u8 t181] 39 (0,0))) ∧ (w'.heap[gb197]? = some (.cells #[.string t190,.int .u64 t191,.int .u8 t192] 39 (0,0))) ∧ (Below w.heap.size w w')) ?_ ?_
               rotate_left
               ·intro hJ30_31_32_36
                refine join_ (σ:=Value × Value × Value) 29 #[true,true,true,true,true,true,true,true,true,true,true,true,true,true,true,true,true,true,true,true,true,true,true,true,true,true,true,true,true,true,true,true,true,true,true,true,false,false,true,false,false,false,false,false,false,false,false,false,false,false,false,false,false,false,false,false,false,false,false,false,false,false,false,false,false,false] (fun s_ => [(52,s_.1),(53,s_.2.1),(54,.bool true),(60,s_.2.2),(55,.bool true),(56,.bool true),(57,.func (.func 30) #[] #[])]) (fun s_ w' => (w'.cell? ⟨gb175,0,none⟩ = some (.string t172) ∧ w'.cell? ⟨gb175,1,none⟩ = some (.int .u64 t173) ∧ w'.cell? ⟨gb175,2,none⟩ = some (.int .u8 t174) ∧ w'.cell? ⟨gb186,0,none⟩ = some (.string t179) ∧ w'.cell? ⟨gb186,1,none⟩ = some (.int .u64 t180) ∧ w'.cell? ⟨gb186,2,none⟩ = some (.int .u8 t181)) ∧ (Kd.R (Kd.int .u8) 5 w' w.heap.size (fun k_ => nB k_ Ao50 t182.length co50 ∧ nB k_ Ao44 y187.length co44 ∧ some k_ ≠ (v194 : Value).ownBlock ∧ some k_ ≠ (s_.1 : Value).ownBlock ∧ some k_ ≠ (s_.2.1 : Value).ownBlock ∧ some k_ ≠ (s_.2.2 : Value).ownBlock) (.slice Ao37 y176.length co37) y176) ∧ (Kd.R (Kd.int .u8) 5 w' w.heap.size (fun k_ => nB k_ Ao37 y176.length co37 ∧ nB k_ Ao44 y187.length co44 ∧ some k_ ≠ (v194 : Value).ownBlock ∧ some k_ ≠ (s_.1 : Value).ownBlock ∧ some k_ ≠ (s_.2.1 : Value).ownBlock ∧ some k_ ≠ (s_.2.2 : Value).ownBlock) (.slice Ao50 t182.length co50) t182) ∧ (Kd.R (Kd.int .u8) 5 w' w.heap.size (fun k_ => nB k_ Ao37 y176.length co37 ∧ nB k_ Ao50 t182.length co50 ∧ some k_ ≠ (v194 : Value).ownBlock ∧ some k_ ≠ (s_.1 : Value).ownBlock ∧ some k_ ≠ (s_.2.1 : Value).ownBlock ∧ some k_ ≠ (s_.2.2 : Value).ownBlock) (.slice Ao44 y187.length co44) y187) ∧ (Kd.R (Kd.int .u8) 5 w' w.heap.size (fun k_ => nB k_ Ao37 y176.length co37 ∧ nB k_ Ao50 t182.length co50 ∧ nB k_ Ao44 y187.length co44 ∧ some k_ ≠ (s_.1 : Value).ownBlock ∧ some k_ ≠ (s_.2.1 : Value).ownBlock ∧ some k_ ≠ (s_.2.2 : Value).ownBlock) v194 t193) ∧ (Kd.R (Kd.int .u8) 5 w' w.heap.size (fun k_ => nB k_ Ao37 y176.length co37 ∧ nB k_ Ao50 t182.length co50 ∧ nB k_ Ao44 y187.length co44 ∧ some k_ ≠ (v194 : Value).ownBlock ∧ some k_ ≠ (s_.2.1 : Value).ownBlock ∧ some k_ ≠ (s_.2.2 : Value).ownBlock) s_.1 t217) ∧ (Kd.R (Kd.int .u8) 5 w' w.heap.size (fun k_ => nB k_ Ao37 y176.length co37 ∧ nB k_ Ao50 t182.length co50 ∧ nB k_ Ao44 y187.length co44 ∧ some k_ ≠ (v194 : Value).ownBlock ∧ some k_ ≠ (s_.1 : Value).ownBlock ∧ some k_ ≠ (s_.2.2 : Value).ownBlock) s_.2.1 y220) ∧ (Kd.R (Kd.int .u8) 5 w' w.heap.size (fun k_ => nB k_ Ao37 y176.length co37 ∧ nB k_ Ao50 t182.length co50 ∧ nB k_ Ao44 y187.length co44 ∧ some k_ ≠ (v194 : Value).ownBlock ∧ some k_ ≠ (s_.1 : Value).ownBlock ∧ some k_ ≠ (s_.2.1 : Value).ownBlock) s_.2.2 y230) ∧ (w'.heap[gb175]? = some (.cells #[.string t172,.int .u64 t173,.int .u8 t174] 39 (0,0))) ∧ (w'.heap[gb186]? = some (.cells #[.string t179,.int .u64 t180,.int .u8 t181] 39 (0,0))) ∧ (w'.heap[gb197]? = some (.cells #[.string t190,.int .u64 t191,.int .u8 t192] 39 (0,0))) ∧ (Below w.heap.size w w')) ?_ ?_
                rotate_left
                ·intro hJ30_31_32_38
                 refine join_ (σ:=Value × Value) 30 #[true,true,true,true,true,true,true,true,true,true,true,true,true,true,true,true,true,true,true,true,true,true,true,true,true,true,true,true,true,true,true,true,true,true,true,true,false,false,false,false,false,false,false,false,false,false,false,false,false,false,false,false,false,false,false,false,false,false,false,false,false,false,false,false,false,false] (fun s_ => [(52,s_.1),(53,s_.2),(54,.bool true),(55,.bool true),(56,.bool true),(57,.func (.func 30) #[] #[])]) (fun s_ w' => (w'.cell? ⟨gb175,0,none⟩ = some (.string t172) ∧ w'.cell? ⟨gb175,1,none⟩ = some (.int .u64 t173) ∧ w'.cell? ⟨gb175,2,none⟩ = some (.int .u8 t174) ∧ w'.cell? ⟨gb186,0,none⟩ = some (.string t179) ∧ w'.cell? ⟨gb186,1,none⟩ = some (.int .u64 t180) ∧ w'.cell? ⟨gb186,2,none⟩ = some (.int .u8 t181)) ∧ (Kd.R (Kd.int .u8) 5 w' w.heap.size (fun k_ => nB k_ Ao50 t182.length co50 ∧ nB k_ Ao44 y187.length co44 ∧ some k_ ≠ (v194 : Value).ownBlock ∧ some k_ ≠ (s_.1 : Value).ownBlock ∧ some k_ ≠ (s_.2 : Value).ownBlock) (.slice Ao37 y176.length co37) y176) ∧ (Kd.R (Kd.int .u8) 5 w' w.heap.size (fun k_ => nB k_ Ao37 y176.length co37 ∧ nB k_ Ao44 y187.length co44 ∧ some k_ ≠ (v194 : Value).ownBlock ∧ some k_ ≠ (s_.1 : Value).ownBlock ∧ some k_ ≠ (s_.2 : Value).ownBlock) (.slice Ao50 t182.length co50) t182) ∧ (Kd.R (Kd.int .u8) 5 w' w.heap.size (fun k_ => nB k_ Ao37 y176.length co37 ∧ nB k_ Ao50 t182.length co50 ∧ some k_ ≠ (v194 : Value).ownBlock ∧ some k_ ≠ (s_.1 : Value).ownBlock ∧ some k_ ≠ (s_.2 : Value).ownBlock) (.slice Ao44 y187.length co44) y187) ∧ (Kd.R (Kd.int .u8) 5 w' w.heap.size (fun k_ => nB k_ Ao37 y176.length co37 ∧ nB k_ Ao50 t182.length co50 ∧ nB k_ Ao44 y187.length co44 ∧ some k_ ≠ (s_.1 : Value).ownBlock ∧ some k_ ≠ (s_.2 : Value).ownBlock) v194 t193) ∧ (Kd.R (Kd.int .u8) 5 w' w.heap.size (fun k_ => nB k_ Ao37 y176.length co37 ∧ nB k_ Ao50 t182.length co50 ∧ nB k_ Ao44 y187.length co44 ∧ some k_ ≠ (v194 : Value).ownBlock ∧ some k_ ≠ (s_.2 : Value).ownBlock) s_.1 t217) ∧ (Kd.R (Kd.int .u8) 5 w' w.heap.size (fun k_ => nB k_ Ao37 y176.length co37 ∧ nB k_ Ao50 t182.length co50 ∧ nB k_ Ao44 y187.length co44 ∧ some k_ ≠ (v194 : Value).ownBlock ∧ some k_ ≠ (s_.1 : Value).ownBlock) s_.2 y220) ∧ (w'.heap[gb175]? = some (.cells #[.string t172,.int .u64 t173,.int .u8 t174] 39 (0,0))) ∧ (w'.heap[gb186]? = some (.cells #[.string t179,.int .u64 t180,.int .u8 t181] 39 (0,0))) ∧ (w'.heap[gb197]? = some (.cells #[.string t190,.int .u64 t191,.int .u8 t192] 39 (0,0))) ∧ (Below w.heap.size w w')) ?_ ?_
                 rotate_left
                 ·intro hJ30_31_32
                  refine join_ (σ:=Value × Value) 34 #[true,true,true,true,true,true,true,true,true,true,true,true,true,true,true,true,true,true,true,true,true,true,true,true,true,true,true,true,true,true,true,true,false,false,false,false,false,false,false,false,false,false,false,false,false,false,false,false,false,false,false,false,false,false,false,false,false,false,false,false,false,false,false,false,false,false] (fun s_ => [(52,s_.1),(53,s_.2)]) (fun s_ w' => (w'.cell? ⟨gb175,0,none⟩ = some (.string t172) ∧ w'.cell? ⟨gb175,1,none⟩ = some (.int .u64 t173) ∧ w'.cell? ⟨gb175,2,none⟩ = some (.int .u8 t174) ∧ w'.cell? ⟨gb186,0,none⟩ = some (.string t179) ∧ w'.cell? ⟨gb186,1,none⟩ = some (.int .u64 t180) ∧ w'.cell? ⟨gb186,2,none⟩ = some (.int .u8 t181)) ∧ (Kd.R (Kd.int .u8) 5 w' w.heap.size (fun k_ => nB k_ Ao50 t182.length co50 ∧ nB k_ Ao44 y187.length co44 ∧ some k_ ≠ (v194 : Value).ownBlock ∧ some k_ ≠ (s_.1 : Value).ownBlock ∧ some k_ ≠ (s_.2 : Value).ownBlock) (.slice Ao37 y176.length co37) y176) ∧ (Kd.R (Kd.int .u8) 5 w' w.heap.size (fun k_ => nB k_ Ao37 y176.length co37 ∧ nB k_ Ao44 y187.length co44 ∧ some k_ ≠ (v194 : Value).ownBlock ∧ some k_ ≠ (s_.1 : Value).ownBlock ∧ some k_ ≠ (s_.2 : Value).ownBlock) (.slice Ao50 t182.length co50) t182) ∧ (Kd.R (Kd.int .u8) 5 w' w.heap.size (fun k_ => nB k_ Ao37 y176.length co37 ∧ nB k_ Ao50 t182.length co50 ∧ some k_ ≠ (v194 : Value).ownBlock ∧ some k_ ≠ (s_.1 : Value).ownBlock ∧ some k_ ≠ (s_.2 : Value).ownBlock) (.slice Ao44 y187.length co44) y187) ∧ (Kd.R (Kd.int .u8) 5 w' w.heap.size (fun k_ => nB k_ Ao37 y176.length co37 ∧ nB k_ Ao50 t182.length co50 ∧ nB k_ Ao44 y187.length co44 ∧ some k_ ≠ (s_.1 : Value).ownBlock ∧ some k_ ≠ (s_.2 : Value).ownBlock) v194 t193) ∧ (Kd.R (Kd.int .u8) 5 w' w.heap.size (fun k_ => nB k_ Ao37 y176.length co37 ∧ nB k_ Ao50 t182.length co50 ∧ nB k_ Ao44 y187.length co44 ∧ some k_ ≠ (v194 : Value).ownBlock ∧ some k_ ≠ (s_.2 : Value).ownBlock) s_.1 t217) ∧ (Kd.R (Kd.int .u8) 5 w' w.heap.size (fun k_ => nB k_ Ao37 y176.length co37 ∧ nB k_ Ao50 t182.length co50 ∧ nB k_ Ao44 y187.length co44 ∧ some k_ ≠ (v194 : Value).ownBlock ∧ some k_ ≠ (s_.1 : Value).ownBlock) s_.2 y220) ∧ (w'.heap[gb175]? = some (.cells #[.string t172,.int .u64 t173,.int .u8 t174] 39 (0,0))) ∧ (w'.heap[gb186]? = some (.cells #[.string t179,.int .u64 t180,.int .u8 t181] 39 (0,0))) ∧ (w'.heap[gb197]? = some (.cells #[.string t190,.int .u64 t191,.int .u8 t192] 39 (0,0))) ∧ (Below w.heap.size w w')) ?_ ?_
                  rotate_left
                  ·intro hJ30_31
                   refine join_ (σ:=Value) 35 #[true,true,true,true,true,true,true,true,true,true,true,true,true,true,true,true,true,true,true,true,true,true,true,true,true,true,true,true,true,true,true,false,false,false,false,false,false,false,false,false,false,false,false,false,false,false,false,false,false,false,false,false,false,false,false,false,false,false,false,false,false,false,false,false,false,false] (fun s_ => [(52,s_)]) (fun s_ w' => (w'.cell? ⟨gb175,0,none⟩ = some (.string t172) ∧ w'.cell? ⟨gb175,1,none⟩ = some (.int .u64 t173) ∧ w'.cell? ⟨gb175,2,none⟩ = some (.int .u8 t174) ∧ w'.cell? ⟨gb186,0,none⟩ = some (.string t179) ∧ w'.cell? ⟨gb186,1,none⟩ = some (.int .u64 t180) ∧ w'.cell? ⟨gb186,2,none⟩ = some (.int .u8 t181)) ∧ (Kd.R (Kd.int .u8) 5 w' w.heap.size (fun k_ => nB k_ Ao50 t182.length co50 ∧ nB k_ Ao44 y187.length co44 ∧ some k_ ≠ (v194 : Value).ownBlock ∧ some k_ ≠ (s_ : Value).ownBlock) (.slice Ao37 y176.length co37) y176) ∧ (Kd.R (Kd.int .u8) 5 w' w.heap.size (fun k_ => nB k_ Ao37 y176.length co37 ∧ nB k_ Ao44 y187.length co44 ∧ some k_ ≠ (v194 : Value).ownBlock ∧ some k_ ≠ (s_ : Value).ownBlock) (.slice Ao50 t182.length co50) t182) ∧ (Kd.R (Kd.int .u8) 5 w' w.heap.size (fun k_ => nB k_ Ao37 y176.length co37 ∧ nB k_ Ao50 t182.length co50 ∧ some k_ ≠ (v194 : Value).ownBlock ∧ some k_ ≠ (s_ : Value).ownBlock) (.slice Ao44 y187.length co44) y187) ∧ (Kd.R (Kd.int .u8) 5 w' w.heap.size (fun k_ => nB k_ Ao37 y176.length co37 ∧ nB k_ Ao50 t182.length co50 ∧ nB k_ Ao44 y187.length co44 ∧ some k_ ≠ (s_ : Value).ownBlock) v194 t193) ∧ (Kd.R (Kd.int .u8) 5 w' w.heap.size (fun k_ => nB k_ Ao37 y176.length co37 ∧ nB k_ Ao50 t182.length co50 ∧ nB k_ Ao44 y187.length co44 ∧ some k_ ≠ (v194 : Value).ownBlock) s_ t217) ∧ (w'.heap[gb175]? = some (.cells #[.string t172,.int .u64 t173,.int .u8 t174] 39 (0,0))) ∧ (w'.heap[gb186]? = some (.cells #[.string t179,.int .u64 t180,.int .u8 t181] 39 (0,0))) ∧ (w'.heap[gb197]? = some (.cells #[.string t190,.int .u64 t191,.int .u8 t192] 39 (0,0))) ∧ (Below w.heap.size w w')) ?_ ?_
                   rotate_left
                   ·intro hJ30
                    refine join_ (σ:=Value) 35 #[true,true,true,true,true,true,true,true,true,true,true,true,true,true,true,true,true,true,true,true,true,true,true,true,true,true,true,true,true,true,false,true,false,false,false,false,false,false,false,false,false,false,false,false,false,false,false,false,false,false,false,false,false,false,false,false,false,false,false,false,false,false,false,false,false,false] (fun s_ => [(53,s_)]) (fun s_ w' => (w'.cell? ⟨gb175,0,none⟩ = some (.string t172) ∧ w'.cell? ⟨gb175,1,none⟩ = some (.int .u64 t173) ∧ w'.cell? ⟨gb175,2,none⟩ = some (.int .u8 t174) ∧ w'.cell? ⟨gb186,0,none⟩ = some (.string t179) ∧ w'.cell? ⟨gb186,1,none⟩ = some (.int .u64 t180) ∧ w'.cell? ⟨gb186,2,none⟩ = some (.int .u8 t181)) ∧ (Kd.R (Kd.int .u8) 5 w' w.heap.size (fun k_ => nB k_ Ao50 t182.length co50 ∧ nB k_ Ao44 y187.length co44 ∧ some k_ ≠ (v194 : Value).ownBlock ∧ some k_ ≠ (s_ : Value).ownBlock) (.slice Ao37 y176.length co37) y176) ∧ (Kd.R (Kd.int .u8) 5 w' w.heap.size (fun k_ => nB k_ Ao37 y176.length co37 ∧ nB k_ Ao44 y187.length co44 ∧ some k_ ≠ (v194 : Value).ownBlock ∧ some k_ ≠ (s_ : Value).ownBlock) (.slice Ao50 t182.length co50) t182) ∧ (Kd.R (Kd.int .u8) 5 w' w.heap.size (fun k_ => nB k_ Ao37 y176.length co37 ∧ nB k_ Ao50 t182.length co50 ∧ some k_ ≠ (v194 : Value).ownBlock ∧ some k_ ≠ (s_ : Value).ownBlock) (.slice Ao44 y187.length co44) y187) ∧ (Kd.R (Kd.int .u8) 5 w' w.heap.size (fun k_ => nB k_ Ao37 y176.length co37 ∧ nB k_ Ao50 t182.length co50 ∧ nB k_ Ao44 y187.length co44 ∧ some k_ ≠ (s_ : Value).ownBlock) v194 t193) ∧ (Kd.R (Kd.int .u8) 5 w' w.heap.size (fun k_ => nB k_ Ao37 y176.length co37 ∧ nB k_ Ao50 t182.length co50 ∧ nB k_ Ao44 y187.length co44 ∧ some k_ ≠ (v194 : Value).ownBlock) s_ y220) ∧ (w'.heap[gb175]? = some (.cells #[.string t172,.int .u64 t173,.int .u8 t174] 39 (0,0))) ∧ (w'.heap[gb186]? = some (.cells #[.string t179,.int .u64 t180,.int .u8 t181] 39 (0,0))) ∧ (w'.heap[gb197]? = some (.cells #[.string t190,.int .u64 t191,.int .u8 t192] 39 (0,0))) ∧ (Below w.heap.size w w')) ?_ ?_
                    rotate_left
                    ·intro hJ31
                     refine two_ (i:=30) (j:=31) (Ni:=some 52) (Nj:=some 53) #[true,true,true,true,true,true,true,true,true,true,true,true,true,true,true,true,true,true,true,true,true,true,true,true,true,true,true,true,true,true,true,false,false,false,false,false,false,false,false,false,false,false,false,false,false,false,false,false,false,false,false,false,false,false,false,false,false,false,false,false,false,false,false,false,false,false] #[true,true,true,true,true,true,true,true,true,true,true,true,true,true,true,true,true,true,true,true,true,true,true,true,true,true,true,true,true,true,false,true,false,false,false,false,false,false,false,false,false,false,false,false,false,false,false,false,false,false,false,false,false,false,false,false,false,false,false,false,false,false,false,false,false,false] rfl rfl rfl rfl (two_of HT_.out (by kernel_rfl)) (by decide) (by decide) (fun K hK => ?_) (fun K hK => ?_)
                     ·skip
                      refine goes_ Try.func31 (by kernel_rfl) rfl #[.slice none 0 0,.agg #[.string t172,.int .u64 t173,.int .u8 t174]] (by rfl) rfl rfl (by (try simp only [List.map_toArray,List.map_cons,List.map_nil]);first|done|rfl|(simp only [List.length_drop,List.length_take];rfl)) ?_
                      refine calls_of_args (args':=#[.slice none (([] : List Int)).length 0,.agg #[.string t172,.int .u64 t173,.int .u8 t174]]) (by rfl) ?_;with_reducible refine (ikey_Put.calls _ _ ([] : List Int) t172 t173 t174 t217 _ ?side1 ?side2 A18.out).mono ?_
                      (case side1 => exact Kd.C_nil _ _)
                      (case side2 => exact Nat.le_refl _)
                      rintro e w62 ⟨v218,rfl,ho0,hb⟩
                      refine ⟨_,rfl,?_⟩
                      have n0_:=Aside0.mk (Kd.R_elder' (by (with_reducible repeat (first|apply zA|apply zN|apply zD));exact HO178.out) (Kd.R_base ho0) hb)
                      have n1_:=Aside0.mk (Kd.R_elder' (by (with_reducible repeat (first|apply zA|apply zN|apply zD));exact HO184.out) (Kd.R_base ho0) hb)
                      have n2_:=Aside0.mk (Kd.R_elder' (by (with_reducible repeat (first|apply zA|apply zN|apply zD));exact HO189.out) (Kd.R_base ho0) hb)
                      have n3_:=Aside0.mk (Kd.R_elder' (by (with_reducible repeat (first|apply zA|apply zN|apply zD));exact HO195.out) (Kd.R_base ho0) hb)
                      have n4_:=Aside0.mk (Kd.R_lower (Kd.R_new' (Kd.R_new' (Kd.R_new' (Kd.R_new' ho0 (Kd.R_lt (by (with_reducible repeat (first|apply zA|apply zN|apply zD));exact HO178.out))) (Kd.R_lt (by (with_reducible repeat (first|apply zA|apply zN|apply zD));exact HO184.out))) (Kd.R_lt (by (with_reducible repeat (first|apply zA|apply zN|apply zD));exact HO189.out))) (Kd.R_lt (by (with_reducible repeat (first|apply zA|apply zN|apply zD));exact HO195.out))) (below_size (by repeat (first|(with_reducible first|exact HB.out|apply below_alloc|apply pw_below_drewN|apply below_drew1|refine below_set ?_ GE175.out|refine below_set ?_ GE186.out|refine below_set ?_ GE197.out)|exact HB.out))))
                      have n5_:=Aside0.mk (blk_below (g:=gb175) (o:=.cells #[.string t172,.int .u64 t173,.int .u8 t174] 39 (0,0)) (by (with_reducible repeat (first|refine bN ?_ _|refine bD ?_|refine bA ?_ _));exact BK175.out) hb)
                      have n6_:=Aside0.mk (blk_below (g:=gb186) (o:=.cells #[.string t179,.int .u64 t180,.int .u8 t181] 39 (0,0)) (by (with_reducible repeat (first|refine bN ?_ _|refine bD ?_|refine bA ?_ _));exact BK186.out) hb)
                      have n7_:=Aside0.mk (blk_below (g:=gb197) (o:=.cells #[.string t190,.int .u64 t191,.int .u8 t192] 39 (0,0)) (by (with_reducible repeat (first|refine bN ?_ _|refine bD ?_|refine bA ?_ _));exact BK197.out) hb)
                      have n8_:=Aside0.mk (below_step (by repeat (first|(with_reducible first|exact HB.out|apply below_alloc|apply pw_below_drewN|apply below_drew1|refine below_set ?_ GE175.out|refine below_set ?_ GE186.out|refine below_set ?_ GE197.out)|exact HB.out)) hb)
                      clear HO178
                      clear HO184
                      clear HO189
                      clear HO195
                      clear BK175
                      clear BK186
                      clear BK197
                      clear HB
                      have HO178:=n0_
                      have HO184:=n1_
                      have HO189:=n2_
                      have HO195:=n3_
                      have HO219:=n4_
                      have BK175:=n5_
                      have BK186:=n6_
                      have BK197:=n7_
                      have HB:=n8_
                      clear n0_ n1_ n2_ n3_ n4_ n5_ n6_ n7_ n8_
                      (try clear hb)
                      (try clear hb2)
                      (try clear hk)
                      (try clear hi)
                      (try clear ho0)
                      refine hK.out _ _ ⟨(blk_cell BK175.out 0).trans rfl,(blk_cell BK175.out 1).trans rfl,(blk_cell BK175.out 2).trans rfl,(blk_cell BK186.out 0).trans rfl,(blk_cell BK186.out 1).trans rfl,(blk_cell BK186.out 2).trans rfl⟩ (fun hHeld => ?_)
                      clear hK K
                      refine norm_ (a':=?_) ?_ ?_
                      rotate_left
                      ·show Act.put _ (some 52) _ = _
                       simp only [Act.put,sA,sZ,sS,i64_w,i32_w]
                       rfl
                      exact norm_ (by first|(simp only [putAll,Act.put,sA,sZ,sS];done)|(simp only [putAll,Act.put,sA,sZ,sS];rfl)) (hJ30 (v218) _ ⟨hHeld,(by (with_reducible repeat (first|apply zA|apply zN|apply zD));exact Kd.R_mono HO178.out (fun _ hk => ⟨hk.1.1,⟨hk.1.2.1,⟨hk.1.2.2,hk.2⟩⟩⟩)),(by (with_reducible repeat (first|apply zA|apply zN|apply zD));exact Kd.R_mono HO184.out (fun _ hk => ⟨hk.1.1,⟨hk.1.2.1,⟨hk.1.2.2,hk.2⟩⟩⟩)),(by (with_reducible repeat (first|apply zA|apply zN|apply zD));exact Kd.R_mono HO189.out (fun _ hk => ⟨hk.1.1,⟨hk.1.2.1,⟨hk.1.2.2,hk.2⟩⟩⟩)),(by (with_reducible repeat (first|apply zA|apply zN|apply zD));exact Kd.R_mono HO195.out (fun _ hk => ⟨hk.1.1,⟨hk.1.2.1,⟨hk.1.2.2,hk.2⟩⟩⟩)),(by (with_reducible repeat (first|apply zA|apply zN|apply zD));exact Kd.R_mono HO219.out (fun _ hk => ⟨hk.1.1.1.2,⟨hk.1.1.2,⟨hk.1.2,hk.2⟩⟩⟩)),(by (with_reducible repeat (first|refine bN ?_ _|refine bD ?_|refine bA ?_ _));exact BK175.out),(by (with_reducible repeat (first|refine bN ?_ _|refine bD ?_|refine bA ?_ _));exact BK186.out),(by (with_reducible repeat (first|refine bN ?_ _|refine bD ?_|refine bA ?_ _));exact BK197.out),(by repeat (first|(with_reducible first|exact HB.out|apply below_alloc|apply pw_below_drewN|apply below_drew1|refine below_set ?_ GE175.out|refine below_set ?_ GE186.out|refine below_set ?_ GE197.out)|exact HB.out))⟩)
                     ·skip
                      refine Kd.R_lit_step (Kd.int .u8) _ 5 ?hg (N:=53) ?hd (xs:=([1,97,11] : List Int)) (inner:=[.int .u8 1,.int .u8 97,.int .u8 11]) (ok:=fun _ => True) (okp:=fun _ => True) ?hr ?hp (fun _ hk => hk) trivial (Below.refl _ _) (Nat.le_refl _) (by simp) ?_;(case hd => rfl);(case hg => rfl);(case hr => first|(go_simp;done)|(go_simp;rfl));(case hp => exact (Reps.one (show Kd.M (Kd.int .u8) _ _ _ 1 [.int .u8 1] from rfl) (Reps.one (show Kd.M (Kd.int .u8) _ _ _ 97 [.int .u8 97] from rfl) (Reps.one (show Kd.M (Kd.int .u8) _ _ _ 11 [.int .u8 11] from rfl) (Reps.none _ _)))))
                      intro v221 w62 ho63 hb hg_ hnew_
                      clear hg_ hnew_
                      (first|rw [← Ny220.out] at ho63|(simp only [Int.reduceToNat] at ho63;rw [← Ny220.out] at ho63))
                      have n0_:=Aside0.mk (Kd.R_elder' (by (with_reducible repeat (first|apply zA|apply zN|apply zD));exact HO178.out) (Kd.R_base ho63) hb)
                      have n1_:=Aside0.mk (Kd.R_elder' (by (with_reducible repeat (first|apply zA|apply zN|apply zD));exact HO184.out) (Kd.R_base ho63) hb)
                      have n2_:=Aside0.mk (Kd.R_elder' (by (with_reducible repeat (first|apply zA|apply zN|apply zD));exact HO189.out) (Kd.R_base ho63) hb)
                      have n3_:=Aside0.mk (Kd.R_elder' (by (with_reducible repeat (first|apply zA|apply zN|apply zD));exact HO195.out) (Kd.R_base ho63) hb)
                      have n4_:=Aside0.mk (Kd.R_lower (Kd.R_new' (Kd.R_new' (Kd.R_new' (Kd.R_new' ho63 (Kd.R_lt (by (with_reducible repeat (first|apply zA|apply zN|apply zD));exact HO178.out))) (Kd.R_lt (by (with_reducible repeat (first|apply zA|apply zN|apply zD));exact HO184.out))) (Kd.R_lt (by (with_reducible repeat (first|apply zA|apply zN|apply zD));exact HO189.out))) (Kd.R_lt (by (with_reducible repeat (first|apply zA|apply zN|apply zD));exact HO195.out))) (below_size (by repeat (first|(with_reducible first|exact HB.out|apply below_alloc|apply pw_below_drewN|apply below_drew1|refine below_set ?_ GE175.out|refine below_set ?_ GE186.out|refine below_set ?_ GE197.out)|exact HB.out))))
                      have n5_:=Aside0.mk (blk_below (g:=gb175) (o:=.cells #[.string t172,.int .u64 t173,.int .u8 t174] 39 (0,0)) (by (with_reducible repeat (first|refine bN ?_ _|refine bD ?_|refine bA ?_ _));exact BK175.out) hb)
                      have n6_:=Aside0.mk (blk_below (g:=gb186) (o:=.cells #[.string t179,.int .u64 t180,.int .u8 t181] 39 (0,0)) (by (with_reducible repeat (first|refine bN ?_ _|refine bD ?_|refine bA ?_ _));exact BK186.out) hb)
                      have n7_:=Aside0.mk (blk_below (g:=gb197) (o:=.cells #[.string t190,.int .u64 t191,.int .u8 t192] 39 (0,0)) (by (with_reducible repeat (first|refine bN ?_ _|refine bD ?_|refine bA ?_ _));exact BK197.out) hb)
                      have n8_:=Aside0.mk (below_step (by repeat (first|(with_reducible first|exact HB.out|apply below_alloc|apply pw_below_drewN|apply below_drew1|refine below_set ?_ GE175.out|refine below_set ?_ GE186.out|refine below_set ?_ GE197.out)|exact HB.out)) hb)
                      clear HO178
                      clear HO184
                      clear HO189
                      clear HO195
                      clear BK175
                      clear BK186
                      clear BK197
                      clear HB
                      have HO178:=n0_
                      have HO184:=n1_
                      have HO189:=n2_
                      have HO195:=n3_
                      have HO222:=n4_
                      have BK175:=n5_
                      have BK186:=n6_
                      have BK197:=n7_
                      have HB:=n8_
                      clear n0_ n1_ n2_ n3_ n4_ n5_ n6_ n7_ n8_
                      clear hb ho63
                      refine hK.out _ _ ⟨(blk_cell BK175.out 0).trans rfl,(blk_cell BK175.out 1).trans rfl,(blk_cell BK175.out 2).trans rfl,(blk_cell BK186.out 0).trans rfl,(blk_cell BK186.out 1).trans rfl,(blk_cell BK186.out 2).trans rfl⟩ (fun hHeld => ?_)
                      clear hK K
                      refine norm_ (a':=?_) ?_ ?_
                      rotate_left
                      ·show Act.put _ (some 53) _ = _
                       simp only [Act.put,sA,sZ,sS,i64_w,i32_w]
                       rfl
                      exact norm_ (by first|(simp only [putAll,Act.put,sA,sZ,sS];done)|(simp only [putAll,Act.put,sA,sZ,sS];rfl)) (hJ31 (v221) _ ⟨hHeld,(by (with_reducible repeat (first|apply zA|apply zN|apply zD));exact Kd.R_mono HO178.out (fun _ hk => ⟨hk.1.1,⟨hk.1.2.1,⟨hk.1.2.2,hk.2⟩⟩⟩)),(by (with_reducible repeat (first|apply zA|apply zN|apply zD));exact Kd.R_mono HO184.out (fun _ hk => ⟨hk.1.1,⟨hk.1.2.1,⟨hk.1.2.2,hk.2⟩⟩⟩)),(by (with_reducible repeat (first|apply zA|apply zN|apply zD));exact Kd.R_mono HO189.out (fun _ hk => ⟨hk.1.1,⟨hk.1.2.1,⟨hk.1.2.2,hk.2⟩⟩⟩)),(by (with_reducible repeat (first|apply zA|apply zN|apply zD));exact Kd.R_mono HO195.out (fun _ hk => ⟨hk.1.1,⟨hk.1.2.1,⟨hk.1.2.2,hk.2⟩⟩⟩)),(by (with_reducible repeat (first|apply zA|apply zN|apply zD));exact Kd.R_mono HO222.out (fun _ hk => ⟨hk.1.1.1.2,⟨hk.1.1.2,⟨hk.1.2,hk.2⟩⟩⟩)),(by (with_reducible repeat (first|refine bN ?_ _|refine bD ?_|refine bA ?_ _));exact BK175.out),(by (with_reducible repeat (first|refine bN ?_ _|refine bD ?_|refine bA ?_ _));exact BK186.out),(by (with_reducible repeat (first|refine bN ?_ _|refine bD ?_|refine bA ?_ _));exact BK197.out),(by repeat (first|(with_reducible first|exact HB.out|apply below_alloc|apply pw_below_drewN|apply below_drew1|refine below_set ?_ GE175.out|refine below_set ?_ GE186.out|refine below_set ?_ GE197.out)|exact HB.out))⟩)
                    ·skip
                     rintro v221 w64 ⟨hS_,h0_,h1_,h2_,h3_,h4_,h5_,h6_,h7_,h8_⟩
                     have n0_ : Aside0 (Kd.R (Kd.int .u8) 5 w64 w.heap.size (fun k_ => nB k_ Ao50 t182.length co50 ∧ nB k_ Ao44 y187.length co44 ∧ some k_ ≠ (v194 : Value).ownBlock ∧ some k_ ≠ (v221 : Value).ownBlock) (.slice Ao37 y176.length co37) y176):=⟨h0_⟩
                     have n1_ : Aside0 (Kd.R (Kd.int .u8) 5 w64 w.heap.size (fun k_ => nB k_ Ao37 y176.length co37 ∧ nB k_ Ao44 y187.length co44 ∧ some k_ ≠ (v194 : Value).ownBlock ∧ some k_ ≠ (v221 : Value).ownBlock) (.slice Ao50 t182.length co50) t182):=⟨h1_⟩
                     have n2_ : Aside0 (Kd.R (Kd.int .u8) 5 w64 w.heap.size (fun k_ => nB k_ Ao37 y176.length co37 ∧ nB k_ Ao50 t182.length co50 ∧ some k_ ≠ (v194 : Value).ownBlock ∧ some k_ ≠ (v221 : Value).ownBlock) (.slice Ao44 y187.length co44) y187):=⟨h2_⟩
                     have n3_ : Aside0 (Kd.R (Kd.int .u8) 5 w64 w.heap.size (fun k_ => nB k_ Ao37 y176.length co37 ∧ nB k_ Ao50 t182.length co50 ∧ nB k_ Ao44 y187.length co44 ∧ some k_ ≠ (v221 : Value).ownBlock) v194 t193):=⟨h3_⟩
                     have n4_ : Aside0 (Kd.R (Kd.int .u8) 5 w64 w.heap.size (fun k_ => nB k_ Ao37 y176.length co37 ∧ nB k_ Ao50 t182.length co50 ∧ nB k_ Ao44 y187.length co44 ∧ some k_ ≠ (v194 : Value).ownBlock) v221 y220):=⟨h4_⟩
                     have n5_ : Aside0 (w64.heap[gb175]? = some (.cells #[.string t172,.int .u64 t173,.int .u8 t174] 39 (0,0))):=⟨h5_⟩
                     have n6_ : Aside0 (w64.heap[gb186]? = some (.cells #[.string t179,.int .u64 t180,.int .u8 t181] 39 (0,0))):=⟨h6_⟩
                     have n7_ : Aside0 (w64.heap[gb197]? = some (.cells #[.string t190,.int .u64 t191,.int .u8 t192] 39 (0,0))):=⟨h7_⟩
                     have n8_ : Aside0 (Below w.heap.size w w64):=⟨h8_⟩
                     clear HO178
                     clear HO184
                     clear HO189
                     clear HO195
                     clear BK175
                     clear BK186
                     clear BK197
                     clear HB
                     clear h0_ h1_ h2_ h3_ h4_ h5_ h6_ h7_ h8_
                     have HO178:=n0_
                     have HO184:=n1_
                     have HO189:=n2_
                     have HO195:=n3_
                     have HO222:=n4_
                     have BK175:=n5_
                     have BK186:=n6_
                     have BK197:=n7_
                     have HB:=n8_
                     clear n0_ n1_ n2_ n3_ n4_ n5_ n6_ n7_ n8_
                     have hHeld : w64.cell? ⟨gb175,0,none⟩ = some (.string t172) ∧ w64.cell? ⟨gb175,1,none⟩ = some (.int .u64 t173) ∧ w64.cell? ⟨gb175,2,none⟩ = some (.int .u8 t174) ∧ w64.cell? ⟨gb186,0,none⟩ = some (.string t179) ∧ w64.cell? ⟨gb186,1,none⟩ = some (.int .u64 t180) ∧ w64.cell? ⟨gb186,2,none⟩ = some (.int .u8 t181):=hS_
                     refine norm_ (a':=?_) ?_ ?_
                     rotate_left
                     ·simp only [putAll,Act.put,sA,sZ,sS]
                      rfl
                     refine one_ (i:=30) (N:=some 52) #[true,true,true,true,true,true,true,true,true,true,true,true,true,true,true,true,true,true,true,true,true,true,true,true,true,true,true,true,true,true,true,true,false,false,false,false,false,false,false,false,false,false,false,false,false,false,false,false,false,false,false,false,false,false,false,false,false,false,false,false,false,false,false,false,false,false] rfl rfl (one_of HT_.out (by kernel_rfl)) (by decide) (fun K hK => ?_)
                     refine goes_ Try.func31 (by kernel_rfl) rfl #[.slice none 0 0,.agg #[.string t172,.int .u64 t173,.int .u8 t174]] (by rfl) rfl rfl (by (try simp only [List.map_toArray,List.map_cons,List.map_nil]);first|done|rfl|(simp only [List.length_drop,List.length_take];rfl)) ?_
                     refine calls_of_args (args':=#[.slice none (([] : List Int)).length 0,.agg #[.string t172,.int .u64 t173,.int .u8 t174]]) (by rfl) ?_;with_reducible refine (ikey_Put.calls _ _ ([] : List Int) t172 t173 t174 t217 _ ?side1 ?side2 A18.out).mono ?_
                     (case side1 => exact Kd.C_nil _ _)
                     (case side2 => exact Nat.le_refl _)
                     rintro e w65 ⟨v218,rfl,ho0,hb⟩
                     refine ⟨_,rfl,?_⟩
                     have n0_:=Aside0.mk (Kd.R_elder' (by (with_reducible repeat (first|apply zA|apply zN|apply zD));exact HO178.out) (Kd.R_base ho0) hb)
                     have n1_:=Aside0.mk (Kd.R_elder' (by (with_reducible repeat (first|apply zA|apply zN|apply zD));exact HO184.out) (Kd.R_base ho0) hb)
                     have n2_:=Aside0.mk (Kd.R_elder' (by (with_reducible repeat (first|apply zA|apply zN|apply zD));exact HO189.out) (Kd.R_base ho0) hb)
                     have n3_:=Aside0.mk (Kd.R_elder' (by (with_reducible repeat (first|apply zA|apply zN|apply zD));exact HO195.out) (Kd.R_base ho0) hb)
                     have n4_:=Aside0.mk (Kd.R_elder' (by (with_reducible repeat (first|apply zA|apply zN|apply zD));exact HO222.out) (Kd.R_base ho0) hb)
                     have n5_:=Aside0.mk (Kd.R_lower (Kd.R_new' (Kd.R_new' (Kd.R_new' (Kd.R_new' (Kd.R_new' ho0 (Kd.R_lt (by (with_reducible repeat (first|apply zA|apply zN|apply zD));exact HO178.out))) (Kd.R_lt (by (with_reducible repeat (first|apply zA|apply zN|apply zD));exact HO184.out))) (Kd.R_lt (by (with_reducible repeat (first|apply zA|apply zN|apply zD));exact HO189.out))) (Kd.R_lt (by (with_reducible repeat (first|apply zA|apply zN|apply zD));exact HO195.out))) (Kd.R_lt (by (with_reducible repeat (first|apply zA|apply zN|apply zD));exact HO222.out))) (below_size (by repeat (first|(with_reducible first|exact HB.out|apply below_alloc|apply pw_below_drewN|apply below_drew1|refine below_set ?_ GE175.out|refine below_set ?_ GE186.out|refine below_set ?_ GE197.out)|exact HB.out))))
                     have n6_:=Aside0.mk (blk_below (g:=gb175) (o:=.cells #[.string t172,.int .u64 t173,.int .u8 t174] 39 (0,0)) (by (with_reducible repeat (first|refine bN ?_ _|refine bD ?_|refine bA ?_ _));exact BK175.out) hb)
                     have n7_:=Aside0.mk (blk_below (g:=gb186) (o:=.cells #[.string t179,.int .u64 t180,.int .u8 t181] 39 (0,0)) (by (with_reducible repeat (first|refine bN ?_ _|refine bD ?_|refine bA ?_ _));exact BK186.out) hb)
                     have n8_:=Aside0.mk (blk_below (g:=gb197) (o:=.cells #[.string t190,.int .u64 t191,.int .u8 t192] 39 (0,0)) (by (with_reducible repeat (first|refine bN ?_ _|refine bD ?_|refine bA ?_ _));exact BK197.out) hb)
                     have n9_:=Aside0.mk (below_step (by repeat (first|(with_reducible first|exact HB.out|apply below_alloc|apply pw_below_drewN|apply below_drew1|refine below_set ?_ GE175.out|refine below_set ?_ GE186.out|refine below_set ?_ GE197.out)|exact HB.out)) hb)
                     clear HO178
                     clear HO184
                     clear HO189
                     clear HO195
                     clear HO222
                     clear BK175
                     clear BK186
                     clear BK197
                     clear HB
                     have HO178:=n0_
                     have HO184:=n1_
                     have HO189:=n2_
                     have HO195:=n3_
                     have HO222:=n4_
                     have HO219:=n5_
                     have BK175:=n6_
                     have BK186:=n7_
                     have BK197:=n8_
                     have HB:=n9_
                     clear n0_ n1_ n2_ n3_ n4_ n5_ n6_ n7_ n8_ n9_
                     (try clear hb)
                     (try clear hb2)
                     (try clear hk)
                     (try clear hi)
                     (try clear ho0)
                     refine hK.out _ _ ⟨(blk_cell BK175.out 0).trans rfl,(blk_cell BK175.out 1).trans rfl,(blk_cell BK175.out 2).trans rfl,(blk_cell BK186.out 0).trans rfl,(blk_cell BK186.out 1).trans rfl,(blk_cell BK186.out 2).trans rfl⟩ (fun hHeld => ?_)
                     clear hK K
                     refine norm_ (a':=?_) ?_ ?_
                     rotate_left
                     ·show Act.put _ (some 52) _ = _
                      simp only [Act.put,sA,sZ,sS,i64_w,i32_w]
                      rfl
                     exact norm_ (by first|(simp only [putAll,Act.put,sA,sZ,sS];done)|(simp only [putAll,Act.put,sA,sZ,sS];rfl)) (hJ30_31 (v218,v221) _ ⟨hHeld,(by (with_reducible repeat (first|apply zA|apply zN|apply zD));exact Kd.R_mono HO178.out (fun _ hk => ⟨hk.1.1,⟨hk.1.2.1,⟨hk.1.2.2.1,⟨hk.2,hk.1.2.2.2⟩⟩⟩⟩)),(by (with_reducible repeat (first|apply zA|apply zN|apply zD));exact Kd.R_mono HO184.out (fun _ hk => ⟨hk.1.1,⟨hk.1.2.1,⟨hk.1.2.2.1,⟨hk.2,hk.1.2.2.2⟩⟩⟩⟩)),(by (with_reducible repeat (first|apply zA|apply zN|apply zD));exact Kd.R_mono HO189.out (fun _ hk => ⟨hk.1.1,⟨hk.1.2.1,⟨hk.1.2.2.1,⟨hk.2,hk.1.2.2.2⟩⟩⟩⟩)),(by (with_reducible repeat (first|apply zA|apply zN|apply zD));exact Kd.R_mono HO195.out (fun _ hk => ⟨hk.1.1,⟨hk.1.2.1,⟨hk.1.2.2.1,⟨hk.2,hk.1.2.2.2⟩⟩⟩⟩)),(by (with_reducible repeat (first|apply zA|apply zN|apply zD));exact Kd.R_mono HO219.out (fun _ hk => ⟨hk.1.1.1.1.2,⟨hk.1.1.1.2,⟨hk.1.1.2,⟨hk.1.2,hk.2⟩⟩⟩⟩)),(by (with_reducible repeat (first|apply zA|apply zN|apply zD));exact Kd.R_mono HO222.out (fun _ hk => ⟨hk.1.1,⟨hk.1.2.1,⟨hk.1.2.2.1,⟨hk.1.2.2.2,hk.2⟩⟩⟩⟩)),(by (with_reducible repeat (first|refine bN ?_ _|refine bD ?_|refine bA ?_ _));exact BK175.out),(by (with_reducible repeat (first|refine bN ?_ _|refine bD ?_|refine bA ?_ _));exact BK186.out),(by (with_reducible repeat (first|refine bN ?_ _|refine bD ?_|refine bA ?_ _));exact BK197.out),(by repeat (first|(with_reducible first|exact HB.out|apply below_alloc|apply pw_below_drewN|apply below_drew1|refine below_set ?_ GE175.out|refine below_set ?_ GE186.out|refine below_set ?_ GE197.out)|exact HB.out))⟩)
                   ·skip
                    rintro v218 w63 ⟨hS_,h0_,h1_,h2_,h3_,h4_,h5_,h6_,h7_,h8_⟩
                    have n0_ : Aside0 (Kd.R (Kd.int .u8) 5 w63 w.heap.size (fun k_ => nB k_ Ao50 t182.length co50 ∧ nB k_ Ao44 y187.length co44 ∧ some k_ ≠ (v194 : Value).ownBlock ∧ some k_ ≠ (v218 : Value).ownBlock) (.slice Ao37 y176.length co37) y176):=⟨h0_⟩
                    have n1_ : Aside0 (Kd.R (Kd.int .u8) 5 w63 w.heap.size (fun k_ => nB k_ Ao37 y176.length co37 ∧ nB k_ Ao44 y187.length co44 ∧ some k_ ≠ (v194 : Value).ownBlock ∧ some k_ ≠ (v218 : Value).ownBlock) (.slice Ao50 t182.length co50) t182):=⟨h1_⟩
                    have n2_ : Aside0 (Kd.R (Kd.int .u8) 5 w63 w.heap.size (fun k_ => nB k_ Ao37 y176.length co37 ∧ nB k_ Ao50 t182.length co50 ∧ some k_ ≠ (v194 : Value).ownBlock ∧ some k_ ≠ (v218 : Value).ownBlock) (.slice Ao44 y187.length co44) y187):=⟨h2_⟩
                    have n3_ : Aside0 (Kd.R (Kd.int .u8) 5 w63 w.heap.size (fun k_ => nB k_ Ao37 y176.length co37 ∧ nB k_ Ao50 t182.length co50 ∧ nB k_ Ao44 y187.length co44 ∧ some k_ ≠ (v218 : Value).ownBlock) v194 t193):=⟨h3_⟩
                    have n4_ : Aside0 (Kd.R (Kd.int .u8) 5 w63 w.heap.size (fun k_ => nB k_ Ao37 y176.length co37 ∧ nB k_ Ao50 t182.length co50 ∧ nB k_ Ao44 y187.length co44 ∧ some k_ ≠ (v194 : Value).ownBlock) v218 t217):=⟨h4_⟩
                    have n5_ : Aside0 (w63.heap[gb175]? = some (.cells #[.string t172,.int .u64 t173,.int .u8 t174] 39 (0,0))):=⟨h5_⟩
                    have n6_ : Aside0 (w63.heap[gb186]? = some (.cells #[.string t179,.int .u64 t180,.int .u8 t181] 39 (0,0))):=⟨h6_⟩
                    have n7_ : Aside0 (w63.heap[gb197]? = some (.cells #[.string t190,.int .u64 t191,.int .u8 t192] 39 (0,0))):=⟨h7_⟩
                    have n8_ : Aside0 (Below w.heap.size w w63):=⟨h8_⟩
                    clear HO178
                    clear HO184
                    clear HO189
                    clear HO195
                    clear BK175
                    clear BK186
                    clear BK197
                    clear HB
                    clear h0_ h1_ h2_ h3_ h4_ h5_ h6_ h7_ h8_
                    have HO178:=n0_
                    have HO184:=n1_
                    have HO189:=n2_
                    have HO195:=n3_
                    have HO219:=n4_
                    have BK175:=n5_
                    have BK186:=n6_
                    have BK197:=n7_
                    have HB:=n8_
                    clear n0_ n1_ n2_ n3_ n4_ n5_ n6_ n7_ n8_
                    have hHeld : w63.cell? ⟨gb175,0,none⟩ = some (.string t172) ∧ w63.cell? ⟨gb175,1,none⟩ = some (.int .u64 t173) ∧ w63.cell? ⟨gb175,2,none⟩ = some (.int .u8 t174) ∧ w63.cell? ⟨gb186,0,none⟩ = some (.string t179) ∧ w63.cell? ⟨gb186,1,none⟩ = some (.int .u64 t180) ∧ w63.cell? ⟨gb186,2,none⟩ = some (.int .u8 t181):=hS_
                    refine norm_ (a':=?_) ?_ ?_
                    rotate_left
                    ·simp only [putAll,Act.put,sA,sZ,sS]
                     rfl
                    refine one_ (i:=31) (N:=some 53) #[true,true,true,true,true,true,true,true,true,true,true,true,true,true,true,true,true,true,true,true,true,true,true,true,true,true,true,true,true,true,true,true,false,false,false,false,false,false,false,false,false,false,false,false,false,false,false,false,false,false,false,false,false,false,false,false,false,false,false,false,false,false,false,false,false,false] rfl rfl (one_of HT_.out (by kernel_rfl)) (by decide) (fun K hK => ?_)
                    refine Kd.R_lit_step (Kd.int .u8) _ 5 ?hg (N:=53) ?hd (xs:=([1,97,11] : List Int)) (inner:=[.int .u8 1,.int .u8 97,.int .u8 11]) (ok:=fun _ => True) (okp:=fun _ => True) ?hr ?hp (fun _ hk => hk) trivial (Below.refl _ _) (Nat.le_refl _) (by simp) ?_;(case hd => rfl);(case hg => rfl);(case hr => first|(go_simp;done)|(go_simp;rfl));(case hp => exact (Reps.one (show Kd.M (Kd.int .u8) _ _ _ 1 [.int .u8 1] from rfl) (Reps.one (show Kd.M (Kd.int .u8) _ _ _ 97 [.int .u8 97] from rfl) (Reps.one (show Kd.M (Kd.int .u8) _ _ _ 11 [.int .u8 11] from rfl) (Reps.none _ _)))))
                    intro v221 w64 ho65 hb hg_ hnew_
                    clear hg_ hnew_
                    (first|rw [← Ny220.out] at ho65|(simp only [Int.reduceToNat] at ho65;rw [← Ny220.out] at ho65))
                    have n0_:=Aside0.mk (Kd.R_elder' (by (with_reducible repeat (first|apply zA|apply zN|apply zD));exact HO178.out) (Kd.R_base ho65) hb)
                    have n1_:=Aside0.mk (Kd.R_elder' (by (with_reducible repeat (first|apply zA|apply zN|apply zD));exact HO184.out) (Kd.R_base ho65) hb)
                    have n2_:=Aside0.mk (Kd.R_elder' (by (with_reducible repeat (first|apply zA|apply zN|apply zD));exact HO189.out) (Kd.R_base ho65) hb)
                    have n3_:=Aside0.mk (Kd.R_elder' (by (with_reducible repeat (first|apply zA|apply zN|apply zD));exact HO195.out) (Kd.R_base ho65) hb)
                    have n4_:=Aside0.mk (Kd.R_elder' (by (with_reducible repeat (first|apply zA|apply zN|apply zD));exact HO219.out) (Kd.R_base ho65) hb)
                    have n5_:=Aside0.mk (Kd.R_lower (Kd.R_new' (Kd.R_new' (Kd.R_new' (Kd.R_new' (Kd.R_new' ho65 (Kd.R_lt (by (with_reducible repeat (first|apply zA|apply zN|apply zD));exact HO178.out))) (Kd.R_lt (by (with_reducible repeat (first|apply zA|apply zN|apply zD));exact HO184.out))) (Kd.R_lt (by (with_reducible repeat (first|apply zA|apply zN|apply zD));exact HO189.out))) (Kd.R_lt (by (with_reducible repeat (first|apply zA|apply zN|apply zD));exact HO195.out))) (Kd.R_lt (by (with_reducible repeat (first|apply zA|apply zN|apply zD));exact HO219.out))) (below_size (by repeat (first|(with_reducible first|exact HB.out|apply below_alloc|apply pw_below_drewN|apply below_drew1|refine below_set ?_ GE175.out|refine below_set ?_ GE186.out|refine below_set ?_ GE197.out)|exact HB.out))))
                    have n6_:=Aside0.mk (blk_below (g:=gb175) (o:=.cells #[.string t172,.int .u64 t173,.int .u8 t174] 39 (0,0)) (by (with_reducible repeat (first|refine bN ?_ _|refine bD ?_|refine bA ?_ _));exact BK175.out) hb)
                    have n7_:=Aside0.mk (blk_below (g:=gb186) (o:=.cells #[.string t179,.int .u64 t180,.int .u8 t181] 39 (0,0)) (by (with_reducible repeat (first|refine bN ?_ _|refine bD ?_|refine bA ?_ _));exact BK186.out) hb)
                    have n8_:=Aside0.mk (blk_below (g:=gb197) (o:=.cells #[.string t190,.int .u64 t191,.int .u8 t192] 39 (0,0)) (by (with_reducible repeat (first|refine bN ?_ _|refine bD ?_|refine bA ?_ _));exact BK197.out) hb)
                    have n9_:=Aside0.mk (below_step (by repeat (first|(with_reducible first|exact HB.out|apply below_alloc|apply pw_below_drewN|apply below_drew1|refine below_set ?_ GE175.out|refine below_set ?_ GE186.out|refine below_set ?_ GE197.out)|exact HB.out)) hb)
                    clear HO178
                    clear HO184
                    clear HO189
                    clear HO195
                    clear HO219
                    clear BK175
                    clear BK186
                    clear BK197
                    clear HB
                    have HO178:=n0_
                    have HO184:=n1_
                    have HO189:=n2_
                    have HO195:=n3_
                    have HO219:=n4_
                    have HO222:=n5_
                    have BK175:=n6_
                    have BK186:=n7_
                    have BK197:=n8_
                    have HB:=n9_
                    clear n0_ n1_ n2_ n3_ n4_ n5_ n6_ n7_ n8_ n9_
                    clear hb ho65
                    refine hK.out _ _ ⟨(blk_cell BK175.out 0).trans rfl,(blk_cell BK175.out 1).trans rfl,(blk_cell BK175.out 2).trans rfl,(blk_cell BK186.out 0).trans rfl,(blk_cell BK186.out 1).trans rfl,(blk_cell BK186.out 2).trans rfl⟩ (fun hHeld => ?_)
                    clear hK K
                    refine norm_ (a':=?_) ?_ ?_
                    rotate_left
                    ·show Act.put _ (some 53) _ = _
                     simp only [Act.put,sA,sZ,sS,i64_w,i32_w]
                     rfl
                    exact norm_ (by first|(simp only [putAll,Act.put,sA,sZ,sS];done)|(simp only [putAll,Act.put,sA,sZ,sS];rfl)) (hJ30_31 (v218,v221) _ ⟨hHeld,(by (with_reducible repeat (first|apply zA|apply zN|apply zD));exact Kd.R_mono HO178.out (fun _ hk => ⟨hk.1.1,⟨hk.1.2.1,⟨hk.1.2.2.1,⟨hk.1.2.2.2,hk.2⟩⟩⟩⟩)),(by (with_reducible repeat (first|apply zA|apply zN|apply zD));exact Kd.R_mono HO184.out (fun _ hk => ⟨hk.1.1,⟨hk.1.2.1,⟨hk.1.2.2.1,⟨hk.1.2.2.2,hk.2⟩⟩⟩⟩)),(by (with_reducible repeat (first|apply zA|apply zN|apply zD));exact Kd.R_mono HO189.out (fun _ hk => ⟨hk.1.1,⟨hk.1.2.1,⟨hk.1.2.2.1,⟨hk.1.2.2.2,hk.2⟩⟩⟩⟩)),(by (with_reducible repeat (first|apply zA|apply zN|apply zD));exact Kd.R_mono HO195.out (fun _ hk => ⟨hk.1.1,⟨hk.1.2.1,⟨hk.1.2.2.1,⟨hk.1.2.2.2,hk.2⟩⟩⟩⟩)),(by (with_reducible repeat (first|apply zA|apply zN|apply zD));exact Kd.R_mono HO219.out (fun _ hk => ⟨hk.1.1,⟨hk.1.2.1,⟨hk.1.2.2.1,⟨hk.1.2.2.2,hk.2⟩⟩⟩⟩)),(by (with_reducible repeat (first|apply zA|apply zN|apply zD));exact Kd.R_mono HO222.out (fun _ hk => ⟨hk.1.1.1.1.2,⟨hk.1.1.1.2,⟨hk.1.1.2,⟨hk.1.2,hk.2⟩⟩⟩⟩)),(by (with_reducible repeat (first|refine bN ?_ _|refine bD ?_|refine bA ?_ _));exact BK175.out),(by (with_reducible repeat (first|refine bN ?_ _|refine bD ?_|refine bA ?_ _));exact BK186.out),(by (with_reducible repeat (first|refine bN ?_ _|refine bD ?_|refine bA ?_ _));exact BK197.out),(by repeat (first|(with_reducible first|exact HB.out|apply below_alloc|apply pw_below_drewN|apply below_drew1|refine below_set ?_ GE175.out|refine below_set ?_ GE186.out|refine below_set ?_ GE197.out)|exact HB.out))⟩)
                  ·skip
                   rintro ⟨v218,v221⟩ w65 ⟨hS_,h0_,h1_,h2_,h3_,h4_,h5_,h6_,h7_,h8_,h9_⟩
                   have n0_ : Aside0 (Kd.R (Kd.int .u8) 5 w65 w.heap.size (fun k_ => nB k_ Ao50 t182.length co50 ∧ nB k_ Ao44 y187.length co44 ∧ some k_ ≠ (v194 : Value).ownBlock ∧ some k_ ≠ (v218 : Value).ownBlock ∧ some k_ ≠ (v221 : Value).ownBlock) (.slice Ao37 y176.length co37) y176):=⟨h0_⟩
                   have n1_ : Aside0 (Kd.R (Kd.int .u8) 5 w65 w.heap.size (fun k_ => nB k_ Ao37 y176.length co37 ∧ nB k_ Ao44 y187.length co44 ∧ some k_ ≠ (v194 : Value).ownBlock ∧ some k_ ≠ (v218 : Value).ownBlock ∧ some k_ ≠ (v221 : Value).ownBlock) (.slice Ao50 t182.length co50) t182):=⟨h1_⟩
                   have n2_ : Aside0 (Kd.R (Kd.int .u8) 5 w65 w.heap.size (fun k_ => nB k_ Ao37 y176.length co37 ∧ nB k_ Ao50 t182.length co50 ∧ some k_ ≠ (v194 : Value).ownBlock ∧ some k_ ≠ (v218 : Value).ownBlock ∧ some k_ ≠ (v221 : Value).ownBlock) (.slice Ao44 y187.length co44) y187):=⟨h2_⟩
                   have n3_ : Aside0 (Kd.R (Kd.int .u8) 5 w65 w.heap.size (fun k_ => nB k_ Ao37 y176.length co37 ∧ nB k_ Ao50 t182.length co50 ∧ nB k_ Ao44 y187.length co44 ∧ some k_ ≠ (v218 : Value).ownBlock ∧ some k_ ≠ (v221 : Value).ownBlock) v194 t193):=⟨h3_⟩
                   have n4_ : Aside0 (Kd.R (Kd.int .u8) 5 w65 w.heap.size (fun k_ => nB k_ Ao37 y176.length co37 ∧ nB k_ Ao50 t182.length co50 ∧ nB k_ Ao44 y187.length co44 ∧ some k_ ≠ (v194 : Value).ownBlock ∧ some k_ ≠ (v221 : Value).ownBlock) v218 t217):=⟨h4_⟩
                   have n5_ : Aside0 (Kd.R (Kd.int .u8) 5 w65 w.heap.size (fun k_ => nB k_ Ao37 y176.length co37 ∧ nB k_ Ao50 t182.length co50 ∧ nB k_ Ao44 y187.length co44 ∧ some k_ ≠ (v194 : Value).ownBlock ∧ some k_ ≠ (v218 : Value).ownBlock) v221 y220):=⟨h5_⟩
                   have n6_ : Aside0 (w65.heap[gb175]? = some (.cells #[.string t172,.int .u64 t173,.int .u8 t174] 39 (0,0))):=⟨h6_⟩
                   have n7_ : Aside0 (w65.heap[gb186]? = some (.cells #[.string t179,.int .u64 t180,.int .u8 t181] 39 (0,0))):=⟨h7_⟩
                   have n8_ : Aside0 (w65.heap[gb197]? = some (.cells #[.string t190,.int .u64 t191,.int .u8 t192] 39 (0,0))):=⟨h8_⟩
                   have n9_ : Aside0 (Below w.heap.size w w65):=⟨h9_⟩
                   clear HO178
                   clear HO184
                   clear HO189
                   clear HO195
                   clear BK175
                   clear BK186
                   clear BK197
                   clear HB
                   clear h0_ h1_ h2_ h3_ h4_ h5_ h6_ h7_ h8_ h9_
                   have HO178:=n0_
                   have HO184:=n1_
                   have HO189:=n2_
                   have HO195:=n3_
                   have HO219:=n4_
                   have HO222:=n5_
                   have BK175:=n6_
                   have BK186:=n7_
                   have BK197:=n8_
                   have HB:=n9_
                   clear n0_ n1_ n2_ n3_ n4_ n5_ n6_ n7_ n8_ n9_
                   have hHeld : w65.cell? ⟨gb175,0,none⟩ = some (.string t172) ∧ w65.cell? ⟨gb175,1,none⟩ = some (.int .u64 t173) ∧ w65.cell? ⟨gb175,2,none⟩ = some (.int .u8 t174) ∧ w65.cell? ⟨gb186,0,none⟩ = some (.string t179) ∧ w65.cell? ⟨gb186,1,none⟩ = some (.int .u64 t180) ∧ w65.cell? ⟨gb186,2,none⟩ = some (.int .u8 t181):=hS_
                   obtain ⟨Ao66,co66,eo66⟩:=Kd.R_slice HO219.out
                   (first|subst eo66|(injection eo66 with f1_ f2_ f3_;have f4_:=f1_.symm;have f5_:=f3_.symm;clear f1_ f2_ f3_;subst f4_;subst f5_))
                   obtain ⟨Ao67,co67,eo67⟩:=Kd.R_slice HO222.out
                   (first|subst eo67|(injection eo67 with f1_ f2_ f3_;have f4_:=f1_.symm;have f5_:=f3_.symm;clear f1_ f2_ f3_;subst f4_;subst f5_))
                   refine norm_ (a':=?_) ?_ ?_
                   rotate_left
                   ·simp only [putAll,Act.put,sA,sZ,sS]
                    rfl
                   refine one_ (i:=32) (N:=some 54) #[true,true,true,true,true,true,true,true,true,true,true,true,true,true,true,true,true,true,true,true,true,true,true,true,true,true,true,true,true,true,true,true,true,false,false,false,false,false,false,false,false,false,false,false,false,false,false,false,false,false,false,false,false,false,false,false,false,false,false,false,false,false,false,false,false,false] rfl rfl (one_of HT_.out (by kernel_rfl)) (by decide) (fun K hK => ?_)
                   refine goesT1_ 50 (by rfl) Try.func30 (by kernel_rfl) rfl #[.slice Ao66 t217.length co66,.slice Ao67 y220.length co67] (by rfl) rfl rfl (by (try simp only [List.map_toArray,List.map_cons,List.map_nil]);first|done|rfl|(simp only [List.length_drop,List.length_take];rfl)) ?_
                   with_reducible refine (ratlinelaw02_Same.calls _ _ t217 _ _ y220 true _ ?side1 ?side2 ?side3 ?side4 A19.out).mono ?_
                   (case side1 => repeat (first|exact (Kd.R_reads' HO219.out).2.2|(with_reducible refine Kd.C_alloc ?_ _)|(with_reducible refine Kd.C_drewN ?_ _)|(with_reducible refine Kd.C_drew ?_)))
                   (case side2 => exact (Kd.R_reads' HO219.out).2.1)
                   (case side3 => repeat (first|exact (Kd.R_reads' HO222.out).2.2|(with_reducible refine Kd.C_alloc ?_ _)|(with_reducible refine Kd.C_drewN ?_ _)|(with_reducible refine Kd.C_drew ?_)))
                   (case side4 => exact (Kd.R_reads' HO222.out).2.1)
                   rintro e w' ⟨rfl,⟨nd,rfl⟩⟩
                   refine ⟨_,rfl,?_⟩
                   refine hK.out _ _ ⟨(blk_cell BK175.out 0).trans rfl,(blk_cell BK175.out 1).trans rfl,(blk_cell BK175.out 2).trans rfl,(blk_cell BK186.out 0).trans rfl,(blk_cell BK186.out 1).trans rfl,(blk_cell BK186.out 2).trans rfl⟩ (fun hHeld => ?_)
                   clear hK K
                   refine norm_ (a':=?_) ?_ ?_
                   rotate_left
                   ·show Act.put _ (some 54) _ = _
                    simp only [Act.put,sA,sZ,sS,i64_w,i32_w]
                    rfl
                   refine pure_ (i:=33) (N:=some 55) (v:=?_) (a':=?_) #[true,true,true,true,true,true,true,true,true,true,true,true,true,true,true,true,true,true,true,true,true,true,true,true,true,true,true,true,true,true,true,true,true,true,false,false,false,false,false,false,false,false,false,false,false,false,false,false,false,false,false,false,false,false,false,false,false,false,false,false,false,false,false,false,false,false] rfl rfl (any_of HT_.out (by kernel_rfl)) (fun _ _ _ h => h) (Or.inl ⟨by rfl,?_⟩) ?_ ?_
                   rotate_left
                   ·intro w'
                    go_simp
                    with_reducible rfl
                   rotate_left
                   ·simp only [Act.put,sA,sZ,sS,i64_w,i32_w]
                    rfl
                   refine pure_ (i:=34) (N:=some 56) (v:=?_) (a':=?_) #[true,true,true,true,true,true,true,true,true,true,true,true,true,true,true,true,true,true,true,true,true,true,true,true,true,true,true,true,true,true,true,true,true,true,true,false,false,false,false,false,false,false,false,false,false,false,false,false,false,false,false,false,false,false,false,false,false,false,false,false,false,false,false,false,false,false] rfl rfl (any_of HT_.out (by kernel_rfl)) (fun _ _ _ h => h) (Or.inl ⟨by rfl,?_⟩) ?_ ?_
                   rotate_left
                   ·intro w'
                    go_simp
                    with_reducible rfl
                   rotate_left
                   ·simp only [Act.put,sA,sZ,sS,i64_w,i32_w]
                    rfl
                   refine pure_ (i:=35) (N:=some 57) (v:=?_) (a':=?_) #[true,true,true,true,true,true,true,true,true,true,true,true,true,true,true,true,true,true,true,true,true,true,true,true,true,true,true,true,true,true,true,true,true,true,true,true,false,false,false,false,false,false,false,false,false,false,false,false,false,false,false,false,false,false,false,false,false,false,false,false,false,false,false,false,false,false] rfl rfl (any_of HT_.out (by kernel_rfl)) (fun _ _ _ h => h) (Or.inl ⟨by rfl,?_⟩) ?_ ?_
                   rotate_left
                   ·intro w'
                    go_simp
                    with_reducible rfl
                   rotate_left
                   ·simp only [Act.put,sA,sZ,sS,i64_w,i32_w]
                    rfl
                   exact norm_ (by first|(simp only [putAll,Act.put,sA,sZ,sS];done)|(simp only [putAll,Act.put,sA,sZ,sS];rfl)) (hJ30_31_32 (.slice Ao66 t217.length co66,.slice Ao67 y220.length co67) _ ⟨hHeld,(by (with_reducible repeat (first|apply zA|apply zN|apply zD));exact HO178.out),(by (with_reducible repeat (first|apply zA|apply zN|apply zD));exact HO184.out),(by (with_reducible repeat (first|apply zA|apply zN|apply zD));exact HO189.out),(by (with_reducible repeat (first|apply zA|apply zN|apply zD));exact HO195.out),(by (with_reducible repeat (first|apply zA|apply zN|apply zD));exact HO219.out),(by (with_reducible repeat (first|apply zA|apply zN|apply zD));exact HO222.out),(by (with_reducible repeat (first|refine bN ?_ _|refine bD ?_|refine bA ?_ _));exact BK175.out),(by (with_reducible repeat (first|refine bN ?_ _|refine bD ?_|refine bA ?_ _));exact BK186.out),(by (with_reducible repeat (first|refine bN ?_ _|refine bD ?_|refine bA ?_ _));exact BK197.out),(by repeat (first|(with_reducible first|exact HB.out|apply below_alloc|apply pw_below_drewN|apply below_drew1|refine below_set ?_ GE175.out|refine below_set ?_ GE186.out|refine below_set ?_ GE197.out)|exact HB.out))⟩)
                 ·skip
                  rintro ⟨v218,v221⟩ w67 ⟨hS_,h0_,h1_,h2_,h3_,h4_,h5_,h6_,h7_,h8_,h9_⟩
                  have n0_ : Aside0 (Kd.R (Kd.int .u8) 5 w67 w.heap.size (fun k_ => nB k_ Ao50 t182.length co50 ∧ nB k_ Ao44 y187.length co44 ∧ some k_ ≠ (v194 : Value).ownBlock ∧ some k_ ≠ (v218 : Value).ownBlock ∧ some k_ ≠ (v221 : Value).ownBlock) (.slice Ao37 y176.length co37) y176):=⟨h0_⟩
                  have n1_ : Aside0 (Kd.R (Kd.int .u8) 5 w67 w.heap.size (fun k_ => nB k_ Ao37 y176.length co37 ∧ nB k_ Ao44 y187.length co44 ∧ some k_ ≠ (v194 : Value).ownBlock ∧ some k_ ≠ (v218 : Value).ownBlock ∧ some k_ ≠ (v221 : Value).ownBlock) (.slice Ao50 t182.length co50) t182):=⟨h1_⟩
                  have n2_ : Aside0 (Kd.R (Kd.int .u8) 5 w67 w.heap.size (fun k_ => nB k_ Ao37 y176.length co37 ∧ nB k_ Ao50 t182.length co50 ∧ some k_ ≠ (v194 : Value).ownBlock ∧ some k_ ≠ (v218 : Value).ownBlock ∧ some k_ ≠ (v221 : Value).ownBlock) (.slice Ao44 y187.length co44) y187):=⟨h2_⟩
                  have n3_ : Aside0 (Kd.R (Kd.int .u8) 5 w67 w.heap.size (fun k_ => nB k_ Ao37 y176.length co37 ∧ nB k_ Ao50 t182.length co50 ∧ nB k_ Ao44 y187.length co44 ∧ some k_ ≠ (v218 : Value).ownBlock ∧ some k_ ≠ (v221 : Value).ownBlock) v194 t193):=⟨h3_⟩
                  have n4_ : Aside0 (Kd.R (Kd.int .u8) 5 w67 w.heap.size (fun k_ => nB k_ Ao37 y176.length co37 ∧ nB k_ Ao50 t182.length co50 ∧ nB k_ Ao44 y187.length co44 ∧ some k_ ≠ (v194 : Value).ownBlock ∧ some k_ ≠ (v221 : Value).ownBlock) v218 t217):=⟨h4_⟩
                  have n5_ : Aside0 (Kd.R (Kd.int .u8) 5 w67 w.heap.size (fun k_ => nB k_ Ao37 y176.length co37 ∧ nB k_ Ao50 t182.length co50 ∧ nB k_ Ao44 y187.length co44 ∧ some k_ ≠ (v194 : Value).ownBlock ∧ some k_ ≠ (v218 : Value).ownBlock) v221 y220):=⟨h5_⟩
                  have n6_ : Aside0 (w67.heap[gb175]? = some (.cells #[.string t172,.int .u64 t173,.int .u8 t174] 39 (0,0))):=⟨h6_⟩
                  have n7_ : Aside0 (w67.heap[gb186]? = some (.cells #[.string t179,.int .u64 t180,.int .u8 t181] 39 (0,0))):=⟨h7_⟩
                  have n8_ : Aside0 (w67.heap[gb197]? = some (.cells #[.string t190,.int .u64 t191,.int .u8 t192] 39 (0,0))):=⟨h8_⟩
                  have n9_ : Aside0 (Below w.heap.size w w67):=⟨h9_⟩
                  clear HO178
                  clear HO184
                  clear HO189
                  clear HO195
                  clear BK175
                  clear BK186
                  clear BK197
                  clear HB
                  clear h0_ h1_ h2_ h3_ h4_ h5_ h6_ h7_ h8_ h9_
                  have HO178:=n0_
                  have HO184:=n1_
                  have HO189:=n2_
                  have HO195:=n3_
                  have HO219:=n4_
                  have HO222:=n5_
                  have BK175:=n6_
                  have BK186:=n7_
                  have BK197:=n8_
                  have HB:=n9_
                  clear n0_ n1_ n2_ n3_ n4_ n5_ n6_ n7_ n8_ n9_
                  have hHeld : w67.cell? ⟨gb175,0,none⟩ = some (.string t172) ∧ w67.cell? ⟨gb175,1,none⟩ = some (.int .u64 t173) ∧ w67.cell? ⟨gb175,2,none⟩ = some (.int .u8 t174) ∧ w67.cell? ⟨gb186,0,none⟩ = some (.string t179) ∧ w67.cell? ⟨gb186,1,none⟩ = some (.int .u64 t180) ∧ w67.cell? ⟨gb186,2,none⟩ = some (.int .u8 t181):=hS_
                  refine norm_ (a':=?_) ?_ ?_
                  rotate_left
                  ·simp only [putAll,Act.put,sA,sZ,sS]
                   rfl
                  refine two_ (i:=36) (j:=38) (Ni:=some 58) (Nj:=some 60) #[true,true,true,true,true,true,true,true,true,true,true,true,true,true,true,true,true,true,true,true,true,true,true,true,true,true,true,true,true,true,true,true,true,true,true,true,true,false,false,false,false,false,false,false,false,false,false,false,false,false,false,false,false,false,false,false,false,false,false,false,false,false,false,false,false,false] #[true,true,true,true,true,true,true,true,true,true,true,true,true,true,true,true,true,true,true,true,true,true,true,true,true,true,true,true,true,true,true,true,true,true,true,true,false,false,true,false,false,false,false,false,false,false,false,false,false,false,false,false,false,false,false,false,false,false,false,false,false,false,false,false,false,false] rfl rfl rfl rfl (two_of HT_.out (by kernel_rfl)) (by decide) (by decide) (fun K hK => ?_) (fun K hK => ?_)
                  ·skip
                   refine goes_ Try.func33 (by kernel_rfl) rfl #[.string (⟨#[97]⟩ : ByteArray),.int .u64 5,.int .u8 0] (by rfl) rfl rfl (by (try simp only [List.map_toArray,List.map_cons,List.map_nil]);first|done|rfl|(simp only [List.length_drop,List.length_take];rfl)) ?_
                   with_reducible refine (ratlinelaw03_one.calls (⟨#[97]⟩ : ByteArray) 5 0 t224 t225 t226 _ A21.out).mono ?_
                   rintro e w68 ⟨rfl,hb⟩
                   refine ⟨_,rfl,?_⟩
                   have n0_:=Aside0.mk (Kd.R_below (by (with_reducible repeat (first|apply zA|apply zN|apply zD));exact HO178.out) hb)
                   have n1_:=Aside0.mk (Kd.R_below (by (with_reducible repeat (first|apply zA|apply zN|apply zD));exact HO184.out) hb)
                   have n2_:=Aside0.mk (Kd.R_below (by (with_reducible repeat (first|apply zA|apply zN|apply zD));exact HO189.out) hb)
                   have n3_:=Aside0.mk (Kd.R_below (by (with_reducible repeat (first|apply zA|apply zN|apply zD));exact HO195.out) hb)
                   have n4_:=Aside0.mk (Kd.R_below (by (with_reducible repeat (first|apply zA|apply zN|apply zD));exact HO219.out) hb)
                   have n5_:=Aside0.mk (Kd.R_below (by (with_reducible repeat (first|apply zA|apply zN|apply zD));exact HO222.out) hb)
                   have n6_:=Aside0.mk (blk_below (g:=gb175) (o:=.cells #[.string t172,.int .u64 t173,.int .u8 t174] 39 (0,0)) (by (with_reducible repeat (first|refine bN ?_ _|refine bD ?_|refine bA ?_ _));exact BK175.out) hb)
                   have n7_:=Aside0.mk (blk_below (g:=gb186) (o:=.cells #[.string t179,.int .u64 t180,.int .u8 t181] 39 (0,0)) (by (with_reducible repeat (first|refine bN ?_ _|refine bD ?_|refine bA ?_ _));exact BK186.out) hb)
                   have n8_:=Aside0.mk (blk_below (g:=gb197) (o:=.cells #[.string t190,.int .u64 t191,.int .u8 t192] 39 (0,0)) (by (with_reducible repeat (first|refine bN ?_ _|refine bD ?_|refine bA ?_ _));exact BK197.out) hb)
                   have n9_:=Aside0.mk (below_step (by repeat (first|(with_reducible first|exact HB.out|apply below_alloc|apply pw_below_drewN|apply below_drew1|refine below_set ?_ GE175.out|refine below_set ?_ GE186.out|refine below_set ?_ GE197.out)|exact HB.out)) hb)
                   clear HO178
                   clear HO184
                   clear HO189
                   clear HO195
                   clear HO219
                   clear HO222
                   clear BK175
                   clear BK186
                   clear BK197
                   clear HB
                   have HO178:=n0_
                   have HO184:=n1_
                   have HO189:=n2_
                   have HO195:=n3_
                   have HO219:=n4_
                   have HO222:=n5_
                   have BK175:=n6_
                   have BK186:=n7_
                   have BK197:=n8_
                   have HB:=n9_
                   clear n0_ n1_ n2_ n3_ n4_ n5_ n6_ n7_ n8_ n9_
                   (try clear hb)
                   (try clear hb2)
                   (try clear hk)
                   (try clear hi)
                   refine hK.out _ _ ⟨(blk_cell BK175.out 0).trans rfl,(blk_cell BK175.out 1).trans rfl,(blk_cell BK175.out 2).trans rfl,(blk_cell BK186.out 0).trans rfl,(blk_cell BK186.out 1).trans rfl,(blk_cell BK186.out 2).trans rfl⟩ (fun hHeld => ?_)
                   clear hK K
                   refine norm_ (a':=?_) ?_ ?_
                   rotate_left
                   ·show Act.put _ (some 58) _ = _
                    simp only [Act.put,sA,sZ,sS,i64_w,i32_w]
                    rfl
                   exact norm_ (by first|(simp only [putAll,Act.put,sA,sZ,sS];done)|(simp only [putAll,Act.put,sA,sZ,sS];rfl)) (hJ30_31_32_36 (v218,v221) _ ⟨hHeld,(by (with_reducible repeat (first|apply zA|apply zN|apply zD));exact HO178.out),(by (with_reducible repeat (first|apply zA|apply zN|apply zD));exact HO184.out),(by (with_reducible repeat (first|apply zA|apply zN|apply zD));exact HO189.out),(by (with_reducible repeat (first|apply zA|apply zN|apply zD));exact HO195.out),(by (with_reducible repeat (first|apply zA|apply zN|apply zD));exact HO219.out),(by (with_reducible repeat (first|apply zA|apply zN|apply zD));exact HO222.out),(by (with_reducible repeat (first|refine bN ?_ _|refine bD ?_|refine bA ?_ _));exact BK175.out),(by (with_reducible repeat (first|refine bN ?_ _|refine bD ?_|refine bA ?_ _));exact BK186.out),(by (with_reducible repeat (first|refine bN ?_ _|refine bD ?_|refine bA ?_ _));exact BK197.out),(by repeat (first|(with_reducible first|exact HB.out|apply below_alloc|apply pw_below_drewN|apply below_drew1|refine below_set ?_ GE175.out|refine below_set ?_ GE186.out|refine below_set ?_ GE197.out)|exact HB.out))⟩)
                  ·skip
                   refine Kd.R_lit_step (Kd.int .u8) _ 5 ?hg (N:=60) ?hd (xs:=([1,97,10] : List Int)) (inner:=[.int .u8 1,.int .u8 97,.int .u8 10]) (ok:=fun _ => True) (okp:=fun _ => True) ?hr ?hp (fun _ hk => hk) trivial (Below.refl _ _) (Nat.le_refl _) (by simp) ?_;(case hd => rfl);(case hg => rfl);(case hr => first|(go_simp;done)|(go_simp;rfl));(case hp => exact (Reps.one (show Kd.M (Kd.int .u8) _ _ _ 1 [.int .u8 1] from rfl) (Reps.one (show Kd.M (Kd.int .u8) _ _ _ 97 [.int .u8 97] from rfl) (Reps.one (show Kd.M (Kd.int .u8) _ _ _ 10 [.int .u8 10] from rfl) (Reps.none _ _)))))
                   intro v231 w68 ho69 hb hg_ hnew_
                   clear hg_ hnew_
                   (first|rw [← Ny230.out] at ho69|(simp only [Int.reduceToNat] at ho69;rw [← Ny230.out] at ho69))
                   have n0_:=Aside0.mk (Kd.R_elder' (by (with_reducible repeat (first|apply zA|apply zN|apply zD));exact HO178.out) (Kd.R_base ho69) hb)
                   have n1_:=Aside0.mk (Kd.R_elder' (by (with_reducible repeat (first|apply zA|apply zN|apply zD));exact HO184.out) (Kd.R_base ho69) hb)
                   have n2_:=Aside0.mk (Kd.R_elder' (by (with_reducible repeat (first|apply zA|apply zN|apply zD));exact HO189.out) (Kd.R_base ho69) hb)
                   have n3_:=Aside0.mk (Kd.R_elder' (by (with_reducible repeat (first|apply zA|apply zN|apply zD));exact HO195.out) (Kd.R_base ho69) hb)
                   have n4_:=Aside0.mk (Kd.R_elder' (by (with_reducible repeat (first|apply zA|apply zN|apply zD));exact HO219.out) (Kd.R_base ho69) hb)
                   have n5_:=Aside0.mk (Kd.R_elder' (by (with_reducible repeat (first|apply zA|apply zN|apply zD));exact HO222.out) (Kd.R_base ho69) hb)
                   have n6_:=Aside0.mk (Kd.R_lower (Kd.R_new' (Kd.R_new' (Kd.R_new' (Kd.R_new' (Kd.R_new' (Kd.R_new' ho69 (Kd.R_lt (by (with_reducible repeat (first|apply zA|apply zN|apply zD));exact HO178.out))) (Kd.R_lt (by (with_reducible repeat (first|apply zA|apply zN|apply zD));exact HO184.out))) (Kd.R_lt (by (with_reducible repeat (first|apply zA|apply zN|apply zD));exact HO189.out))) (Kd.R_lt (by (with_reducible repeat (first|apply zA|apply zN|apply zD));exact HO195.out))) (Kd.R_lt (by (with_reducible repeat (first|apply zA|apply zN|apply zD));exact HO219.out))) (Kd.R_lt (by (with_reducible repeat (first|apply zA|apply zN|apply zD));exact HO222.out))) (below_size (by repeat (first|(with_reducible first|exact HB.out|apply below_alloc|apply pw_below_drewN|apply below_drew1|refine below_set ?_ GE175.out|refine below_set ?_ GE186.out|refine below_set ?_ GE197.out)|exact HB.out))))
                   have n7_:=Aside0.mk (blk_below (g:=gb175) (o:=.cells #[.string t172,.int .u64 t173,.int .u8 t174] 39 (0,0)) (by (with_reducible repeat (first|refine bN ?_ _|refine bD ?_|refine bA ?_ _));exact BK175.out) hb)
                   have n8_:=Aside0.mk (blk_below (g:=gb186) (o:=.cells #[.string t179,.int .u64 t180,.int .u8 t181] 39 (0,0)) (by (with_reducible repeat (first|refine bN ?_ _|refine bD ?_|refine bA ?_ _));exact BK186.out) hb)
                   have n9_:=Aside0.mk (blk_below (g:=gb197) (o:=.cells #[.string t190,.int .u64 t191,.int .u8 t192] 39 (0,0)) (by (with_reducible repeat (first|refine bN ?_ _|refine bD ?_|refine bA ?_ _));exact BK197.out) hb)
                   have n10_:=Aside0.mk (below_step (by repeat (first|(with_reducible first|exact HB.out|apply below_alloc|apply pw_below_drewN|apply below_drew1|refine below_set ?_ GE175.out|refine below_set ?_ GE186.out|refine below_set ?_ GE197.out)|exact HB.out)) hb)
                   clear HO178
                   clear HO184
                   clear HO189
                   clear HO195
                   clear HO219
                   clear HO222
                   clear BK175
                   clear BK186
                   clear BK197
                   clear HB
                   have HO178:=n0_
                   have HO184:=n1_
                   have HO189:=n2_
                   have HO195:=n3_
                   have HO219:=n4_
                   have HO222:=n5_
                   have HO232:=n6_
                   have BK175:=n7_
                   have BK186:=n8_
                   have BK197:=n9_
                   have HB:=n10_
                   clear n0_ n1_ n2_ n3_ n4_ n5_ n6_ n7_ n8_ n9_ n10_
                   clear hb ho69
                   refine hK.out _ _ ⟨(blk_cell BK175.out 0).trans rfl,(blk_cell BK175.out 1).trans rfl,(blk_cell BK175.out 2).trans rfl,(blk_cell BK186.out 0).trans rfl,(blk_cell BK186.out 1).trans rfl,(blk_cell BK186.out 2).trans rfl⟩ (fun hHeld => ?_)
                   clear hK K
                   refine norm_ (a':=?_) ?_ ?_
                   rotate_left
                   ·show Act.put _ (some 60) _ = _
                    simp only [Act.put,sA,sZ,sS,i64_w,i32_w]
                    rfl
                   exact norm_ (by first|(simp only [putAll,Act.put,sA,sZ,sS];done)|(simp only [putAll,Act.put,sA,sZ,sS];rfl)) (hJ30_31_32_38 (v218,v221,v231) _ ⟨hHeld,(by (with_reducible repeat (first|apply zA|apply zN|apply zD));exact Kd.R_mono HO178.out (fun _ hk => ⟨hk.1.1,⟨hk.1.2.1,⟨hk.1.2.2.1,⟨hk.1.2.2.2.1,⟨hk.1.2.2.2.2,hk.2⟩⟩⟩⟩⟩)),(by (with_reducible repeat (first|apply zA|apply zN|apply zD));exact Kd.R_mono HO184.out (fun _ hk => ⟨hk.1.1,⟨hk.1.2.1,⟨hk.1.2.2.1,⟨hk.1.2.2.2.1,⟨hk.1.2.2.2.2,hk.2⟩⟩⟩⟩⟩)),(by (with_reducible repeat (first|apply zA|apply zN|apply zD));exact Kd.R_mono HO189.out (fun _ hk => ⟨hk.1.1,⟨hk.1.2.1,⟨hk.1.2.2.1,⟨hk.1.2.2.2.1,⟨hk.1.2.2.2.2,hk.2⟩⟩⟩⟩⟩)),(by (with_reducible repeat (first|apply zA|apply zN|apply zD));exact Kd.R_mono HO195.out (fun _ hk => ⟨hk.1.1,⟨hk.1.2.1,⟨hk.1.2.2.1,⟨hk.1.2.2.2.1,⟨hk.1.2.2.2.2,hk.2⟩⟩⟩⟩⟩)),(by (with_reducible repeat (first|apply zA|apply zN|apply zD));exact Kd.R_mono HO219.out (fun _ hk => ⟨hk.1.1,⟨hk.1.2.1,⟨hk.1.2.2.1,⟨hk.1.2.2.2.1,⟨hk.1.2.2.2.2,hk.2⟩⟩⟩⟩⟩)),(by (with_reducible repeat (first|apply zA|apply zN|apply zD));exact Kd.R_mono HO222.out (fun _ hk => ⟨hk.1.1,⟨hk.1.2.1,⟨hk.1.2.2.1,⟨hk.1.2.2.2.1,⟨hk.1.2.2.2.2,hk.2⟩⟩⟩⟩⟩)),(by (with_reducible repeat (first|apply zA|apply zN|apply zD));exact Kd.R_mono HO232.out (fun _ hk => ⟨hk.1.1.1.1.1.2,⟨hk.1.1.1.1.2,⟨hk.1.1.1.2,⟨hk.1.1.2,⟨hk.1.2,hk.2⟩⟩⟩⟩⟩)),(by (with_reducible repeat (first|refine bN ?_ _|refine bD ?_|refine bA ?_ _));exact BK175.out),(by (with_reducible repeat (first|refine bN ?_ _|refine bD ?_|refine bA ?_ _));exact BK186.out),(by (with_reducible repeat (first|refine bN ?_ _|refine bD ?_|refine bA ?_ _));exact BK197.out),(by repeat (first|(with_reducible first|exact HB.out|apply below_alloc|apply pw_below_drewN|apply below_drew1|refine below_set ?_ GE175.out|refine below_set ?_ GE186.out|refine below_set ?_ GE197.out)|exact HB.out))⟩)
                ·skip
                 rintro ⟨v218,v221,v231⟩ w69 ⟨hS_,h0_,h1_,h2_,h3_,h4_,h5_,h6_,h7_,h8_,h9_,h10_⟩
                 have n0_ : Aside0 (Kd.R (Kd.int .u8) 5 w69 w.heap.size (fun k_ => nB k_ Ao50 t182.length co50 ∧ nB k_ Ao44 y187.length co44 ∧ some k_ ≠ (v194 : Value).ownBlock ∧ some k_ ≠ (v218 : Value).ownBlock ∧ some k_ ≠ (v221 : Value).ownBlock ∧ some k_ ≠ (v231 : Value).ownBlock) (.slice Ao37 y176.length co37) y176):=⟨h0_⟩
                 have n1_ : Aside0 (Kd.R (Kd.int .u8) 5 w69 w.heap.size (fun k_ => nB k_ Ao37 y176.length co37 ∧ nB k_ Ao44 y187.length co44 ∧ some k_ ≠ (v194 : Value).ownBlock ∧ some k_ ≠ (v218 : Value).ownBlock ∧ some k_ ≠ (v221 : Value).ownBlock ∧ some k_ ≠ (v231 : Value).ownBlock) (.slice Ao50 t182.length co50) t182):=⟨h1_⟩
                 have n2_ : Aside0 (Kd.R (Kd.int .u8) 5 w69 w.heap.size (fun k_ => nB k_ Ao37 y176.length co37 ∧ nB k_ Ao50 t182.length co50 ∧ some k_ ≠ (v194 : Value).ownBlock ∧ some k_ ≠ (v218 : Value).ownBlock ∧ some k_ ≠ (v221 : Value).ownBlock ∧ some k_ ≠ (v231 : Value).ownBlock) (.slice Ao44 y187.length co44) y187):=⟨h2_⟩
                 have n3_ : Aside0 (Kd.R (Kd.int .u8) 5 w69 w.heap.size (fun k_ => nB k_ Ao37 y176.length co37 ∧ nB k_ Ao50 t182.length co50 ∧ nB k_ Ao44 y187.length co44 ∧ some k_ ≠ (v218 : Value).ownBlock ∧ some k_ ≠ (v221 : Value).ownBlock ∧ some k_ ≠ (v231 : Value).ownBlock) v194 t193):=⟨h3_⟩
                 have n4_ : Aside0 (Kd.R (Kd.int .u8) 5 w69 w.heap.size (fun k_ => nB k_ Ao37 y176.length co37 ∧ nB k_ Ao50 t182.length co50 ∧ nB k_ Ao44 y187.length co44 ∧ some k_ ≠ (v194 : Value).ownBlock ∧ some k_ ≠ (v221 : Value).ownBlock ∧ some k_ ≠ (v231 : Value).ownBlock) v218 t217):=⟨h4_⟩
                 have n5_ : Aside0 (Kd.R (Kd.int .u8) 5 w69 w.heap.size (fun k_ => nB k_ Ao37 y176.length co37 ∧ nB k_ Ao50 t182.length co50 ∧ nB k_ Ao44 y187.length co44 ∧ some k_ ≠ (v194 : Value).ownBlock ∧ some k_ ≠ (v218 : Value).ownBlock ∧ some k_ ≠ (v231 : Value).ownBlock) v221 y220):=⟨h5_⟩
                 have n6_ : Aside0 (Kd.R (Kd.int .u8) 5 w69 w.heap.size (fun k_ => nB k_ Ao37 y176.length co37 ∧ nB k_ Ao50 t182.length co50 ∧ nB k_ Ao44 y187.length co44 ∧ some k_ ≠ (v194 : Value).ownBlock ∧ some k_ ≠ (v218 : Value).ownBlock ∧ some k_ ≠ (v221 : Value).ownBlock) v231 y230):=⟨h6_⟩
                 have n7_ : Aside0 (w69.heap[gb175]? = some (.cells #[.string t172,.int .u64 t173,.int .u8 t174] 39 (0,0))):=⟨h7_⟩
                 have n8_ : Aside0 (w69.heap[gb186]? = some (.cells #[.string t179,.int .u64 t180,.int .u8 t181] 39 (0,0))):=⟨h8_⟩
                 have n9_ : Aside0 (w69.heap[gb197]? = some (.cells #[.string t190,.int .u64 t191,.int .u8 t192] 39 (0,0))):=⟨h9_⟩
                 have n10_ : Aside0 (Below w.heap.size w w69):=⟨h10_⟩
                 clear HO178
                 clear HO184
                 clear HO189
                 clear HO195
                 clear BK175
                 clear BK186
                 clear BK197
                 clear HB
                 clear h0_ h1_ h2_ h3_ h4_ h5_ h6_ h7_ h8_ h9_ h10_
                 have HO178:=n0_
                 have HO184:=n1_
                 have HO189:=n2_
                 have HO195:=n3_
                 have HO219:=n4_
                 have HO222:=n5_
                 have HO232:=n6_
                 have BK175:=n7_
                 have BK186:=n8_
                 have BK197:=n9_
                 have HB:=n10_
                 clear n0_ n1_ n2_ n3_ n4_ n5_ n6_ n7_ n8_ n9_ n10_
                 have hHeld : w69.cell? ⟨gb175,0,none⟩ = some (.string t172) ∧ w69.cell? ⟨gb175,1,none⟩ = some (.int .u64 t173) ∧ w69.cell? ⟨gb175,2,none⟩ = some (.int .u8 t174) ∧ w69.cell? ⟨gb186,0,none⟩ = some (.string t179) ∧ w69.cell? ⟨gb186,1,none⟩ = some (.int .u64 t180) ∧ w69.cell? ⟨gb186,2,none⟩ = some (.int .u8 t181):=hS_
                 refine norm_ (a':=?_) ?_ ?_
                 rotate_left
                 ·simp only [putAll,Act.put,sA,sZ,sS]
                  rfl
                 refine one_ (i:=36) (N:=some 58) #[true,true,true,true,true,true,true,true,true,true,true,true,true,true,true,true,true,true,true,true,true,true,true,true,true,true,true,true,true,true,true,true,true,true,true,true,true,false,true,false,false,false,false,false,false,false,false,false,false,false,false,false,false,false,false,false,false,false,false,false,false,false,false,false,false,false] rfl rfl (one_of HT_.out (by kernel_rfl)) (by decide) (fun K hK => ?_)
                 refine goes_ Try.func33 (by kernel_rfl) rfl #[.string (⟨#[97]⟩ : ByteArray),.int .u64 5,.int .u8 0] (by rfl) rfl rfl (by (try simp only [List.map_toArray,List.map_cons,List.map_nil]);first|done|rfl|(simp only [List.length_drop,List.length_take];rfl)) ?_
                 with_reducible refine (ratlinelaw03_one.calls (⟨#[97]⟩ : ByteArray) 5 0 t224 t225 t226 _ A21.out).mono ?_
                 rintro e w70 ⟨rfl,hb⟩
                 refine ⟨_,rfl,?_⟩
                 have n0_:=Aside0.mk (Kd.R_below (by (with_reducible repeat (first|apply zA|apply zN|apply zD));exact HO178.out) hb)
                 have n1_:=Aside0.mk (Kd.R_below (by (with_reducible repeat (first|apply zA|apply zN|apply zD));exact HO184.out) hb)
                 have n2_:=Aside0.mk (Kd.R_below (by (with_reducible repeat (first|apply zA|apply zN|apply zD));exact HO189.out) hb)
                 have n3_:=Aside0.mk (Kd.R_below (by (with_reducible repeat (first|apply zA|apply zN|apply zD));exact HO195.out) hb)
                 have n4_:=Aside0.mk (Kd.R_below (by (with_reducible repeat (first|apply zA|apply zN|apply zD));exact HO219.out) hb)
                 have n5_:=Aside0.mk (Kd.R_below (by (with_reducible repeat (first|apply zA|apply zN|apply zD));exact HO222.out) hb)
                 have n6_:=Aside0.mk (Kd.R_below (by (with_reducible repeat (first|apply zA|apply zN|apply zD));exact HO232.out) hb)
                 have n7_:=Aside0.mk (blk_below (g:=gb175) (o:=.cells #[.string t172,.int .u64 t173,.int .u8 t174] 39 (0,0)) (by (with_reducible repeat (first|refine bN ?_ _|refine bD ?_|refine bA ?_ _));exact BK175.out) hb)
                 have n8_:=Aside0.mk (blk_below (g:=gb186) (o:=.cells #[.string t179,.int .u64 t180,.int .u8 t181] 39 (0,0)) (by (with_reducible repeat (first|refine bN ?_ _|refine bD ?_|refine bA ?_ _));exact BK186.out) hb)
                 have n9_:=Aside0.mk (blk_below (g:=gb197) (o:=.cells #[.string t190,.int .u64 t191,.int .u8 t192] 39 (0,0)) (by (with_reducible repeat (first|refine bN ?_ _|refine bD ?_|refine bA ?_ _));exact BK197.out) hb)
                 have n10_:=Aside0.mk (below_step (by repeat (first|(with_reducible first|exact HB.out|apply below_alloc|apply pw_below_drewN|apply below_drew1|refine below_set ?_ GE175.out|refine below_set ?_ GE186.out|refine below_set ?_ GE197.out)|exact HB.out)) hb)
                 clear HO178
                 clear HO184
                 clear HO189
                 clear HO195
                 clear HO219
                 clear HO222
                 clear HO232
                 clear BK175
                 clear BK186
                 clear BK197
                 clear HB
                 have HO178:=n0_
                 have HO184:=n1_
                 have HO189:=n2_
                 have HO195:=n3_
                 have HO219:=n4_
                 have HO222:=n5_
                 have HO232:=n6_
                 have BK175:=n7_
                 have BK186:=n8_
                 have BK197:=n9_
                 have HB:=n10_
                 clear n0_ n1_ n2_ n3_ n4_ n5_ n6_ n7_ n8_ n9_ n10_
                 (try clear hb)
                 (try clear hb2)
                 (try clear hk)
                 (try clear hi)
                 refine hK.out _ _ ⟨(blk_cell BK175.out 0).trans rfl,(blk_cell BK175.out 1).trans rfl,(blk_cell BK175.out 2).trans rfl,(blk_cell BK186.out 0).trans rfl,(blk_cell BK186.out 1).trans rfl,(blk_cell BK186.out 2).trans rfl⟩ (fun hHeld => ?_)
                 clear hK K
                 refine norm_ (a':=?_) ?_ ?_
                 rotate_left
                 ·show Act.put _ (some 58) _ = _
                  simp only [Act.put,sA,sZ,sS,i64_w,i32_w]
                  rfl
                 exact norm_ (by first|(simp only [putAll,Act.put,sA,sZ,sS];done)|(simp only [putAll,Act.put,sA,sZ,sS];rfl)) (hJ30_31_32_36_38 (v218,v221,v231) _ ⟨hHeld,(by (with_reducible repeat (first|apply zA|apply zN|apply zD));exact HO178.out),(by (with_reducible repeat (first|apply zA|apply zN|apply zD));exact HO184.out),(by (with_reducible repeat (first|apply zA|apply zN|apply zD));exact HO189.out),(by (with_reducible repeat (first|apply zA|apply zN|apply zD));exact HO195.out),(by (with_reducible repeat (first|apply zA|apply zN|apply zD));exact HO219.out),(by (with_reducible repeat (first|apply zA|apply zN|apply zD));exact HO222.out),(by (with_reducible repeat (first|apply zA|apply zN|apply zD));exact HO232.out),(by (with_reducible repeat (first|refine bN ?_ _|refine bD ?_|refine bA ?_ _));exact BK175.out),(by (with_reducible repeat (first|refine bN ?_ _|refine bD ?_|refine bA ?_ _));exact BK186.out),(by (with_reducible repeat (first|refine bN ?_ _|refine bD ?_|refine bA ?_ _));exact BK197.out),(by repeat (first|(with_reducible first|exact HB.out|apply below_alloc|apply pw_below_drewN|apply below_drew1|refine below_set ?_ GE175.out|refine below_set ?_ GE186.out|refine below_set ?_ GE197.out)|exact HB.out))⟩)
               ·skip
                rintro ⟨v218,v221⟩ w68 ⟨hS_,h0_,h1_,h2_,h3_,h4_,h5_,h6_,h7_,h8_,h9_⟩
                have n0_ : Aside0 (Kd.R (Kd.int .u8) 5 w68 w.heap.size (fun k_ => nB k_ Ao50 t182.length co50 ∧ nB k_ Ao44 y187.length co44 ∧ some k_ ≠ (v194 : Value).ownBlock ∧ some k_ ≠ (v218 : Value).ownBlock ∧ some k_ ≠ (v221 : Value).ownBlock) (.slice Ao37 y176.length co37) y176):=⟨h0_⟩
                have n1_ : Aside0 (Kd.R (Kd.int .u8) 5 w68 w.heap.size (fun k_ => nB k_ Ao37 y176.length co37 ∧ nB k_ Ao44 y187.length co44 ∧ some k_ ≠ (v194 : Value).ownBlock ∧ some k_ ≠ (v218 : Value).ownBlock ∧ some k_ ≠ (v221 : Value).ownBlock) (.slice Ao50 t182.length co50) t182):=⟨h1_⟩
                have n2_ : Aside0 (Kd.R (Kd.int .u8) 5 w68 w.heap.size (fun k_ => nB k_ Ao37 y176.length co37 ∧ nB k_ Ao50 t182.length co50 ∧ some k_ ≠ (v194 : Value).ownBlock ∧ some k_ ≠ (v218 : Value).ownBlock ∧ some k_ ≠ (v221 : Value).ownBlock) (.slice Ao44 y187.length co44) y187):=⟨h2_⟩
                have n3_ : Aside0 (Kd.R (Kd.int .u8) 5 w68 w.heap.size (fun k_ => nB k_ Ao37 y176.length co37 ∧ nB k_ Ao50 t182.length co50 ∧ nB k_ Ao44 y187.length co44 ∧ some k_ ≠ (v218 : Value).ownBlock ∧ some k_ ≠ (v221 : Value).ownBlock) v194 t193):=⟨h3_⟩
                have n4_ : Aside0 (Kd.R (Kd.int .u8) 5 w68 w.heap.size (fun k_ => nB k_ Ao37 y176.length co37 ∧ nB k_ Ao50 t182.length co50 ∧ nB k_ Ao44 y187.length co44 ∧ some k_ ≠ (v194 : Value).ownBlock ∧ some k_ ≠ (v221 : Value).ownBlock) v218 t217):=⟨h4_⟩
                have n5_ : Aside0 (Kd.R (Kd.int .u8) 5 w68 w.heap.size (fun k_ => nB k_ Ao37 y176.length co37 ∧ nB k_ Ao50 t182.length co50 ∧ nB k_ Ao44 y187.length co44 ∧ some k_ ≠ (v194 : Value).ownBlock ∧ some k_ ≠ (v218 : Value).ownBlock) v221 y220):=⟨h5_⟩
                have n6_ : Aside0 (w68.heap[gb175]? = some (.cells #[.string t172,.int .u64 t173,.int .u8 t174] 39 (0,0))):=⟨h6_⟩
                have n7_ : Aside0 (w68.heap[gb186]? = some (.cells #[.string t179,.int .u64 t180,.int .u8 t181] 39 (0,0))):=⟨h7_⟩
                have n8_ : Aside0 (w68.heap[gb197]? = some (.cells #[.string t190,.int .u64 t191,.int .u8 t192] 39 (0,0))):=⟨h8_⟩
                have n9_ : Aside0 (Below w.heap.size w w68):=⟨h9_⟩
                clear HO178
                clear HO184
                clear HO189
                clear HO195
                clear BK175
                clear BK186
                clear BK197
                clear HB
                clear h0_ h1_ h2_ h3_ h4_ h5_ h6_ h7_ h8_ h9_
                have HO178:=n0_
                have HO184:=n1_
                have HO189:=n2_
                have HO195:=n3_
                have HO219:=n4_
                have HO222:=n5_
                have BK175:=n6_
                have BK186:=n7_
                have BK197:=n8_
                have HB:=n9_
                clear n0_ n1_ n2_ n3_ n4_ n5_ n6_ n7_ n8_ n9_
                have hHeld : w68.cell? ⟨gb175,0,none⟩ = some (.string t172) ∧ w68.cell? ⟨gb175,1,none⟩ = some (.int .u64 t173) ∧ w68.cell? ⟨gb175,2,none⟩ = some (.int .u8 t174) ∧ w68.cell? ⟨gb186,0,none⟩ = some (.string t179) ∧ w68.cell? ⟨gb186,1,none⟩ = some (.int .u64 t180) ∧ w68.cell? ⟨gb186,2,none⟩ = some (.int .u8 t181):=hS_
                refine norm_ (a':=?_) ?_ ?_
                rotate_left
                ·simp only [putAll,Act.put,sA,sZ,sS]
                 rfl
                refine two_ (i:=37) (j:=38) (Ni:=some 59) (Nj:=some 60) #[true,true,true,true,true,true,true,true,true,true,true,true,true,true,true,true,true,true,true,true,true,true,true,true,true,true,true,true,true,true,true,true,true,true,true,true,true,true,false,false,false,false,false,false,false,false,false,false,false,false,false,false,false,false,false,false,false,false,false,false,false,false,false,false,false,false] #[true,true,true,true,true,true,true,true,true,true,true,true,true,true,true,true,true,true,true,true,true,true,true,true,true,true,true,true,true,true,true,true,true,true,true,true,true,false,true,false,false,false,false,false,false,false,false,false,false,false,false,false,false,false,false,false,false,false,false,false,false,false,false,false,false,false] rfl rfl rfl rfl (two_of HT_.out (by kernel_rfl)) (by decide) (by decide) (fun K hK => ?_) (fun K hK => ?_)
                ·skip
                 refine goes_ Try.func31 (by kernel_rfl) rfl #[.slice none 0 0,.agg #[.string t224,.int .u64 t225,.int .u8 t226]] (by rfl) rfl rfl (by (try simp only [List.map_toArray,List.map_cons,List.map_nil]);first|done|rfl|(simp only [List.length_drop,List.length_take];rfl)) ?_
                 refine calls_of_args (args':=#[.slice none (([] : List Int)).length 0,.agg #[.string t224,.int .u64 t225,.int .u8 t226]]) (by rfl) ?_;with_reducible refine (ikey_Put.calls _ _ ([] : List Int) t224 t225 t226 t227 _ ?side1 ?side2 A22.out).mono ?_
                 (case side1 => exact Kd.C_nil _ _)
                 (case side2 => exact Nat.le_refl _)
                 rintro e w69 ⟨v228,rfl,ho0,hb⟩
                 refine ⟨_,rfl,?_⟩
                 have n0_:=Aside0.mk (Kd.R_elder' (by (with_reducible repeat (first|apply zA|apply zN|apply zD));exact HO178.out) (Kd.R_base ho0) hb)
                 have n1_:=Aside0.mk (Kd.R_elder' (by (with_reducible repeat (first|apply zA|apply zN|apply zD));exact HO184.out) (Kd.R_base ho0) hb)
                 have n2_:=Aside0.mk (Kd.R_elder' (by (with_reducible repeat (first|apply zA|apply zN|apply zD));exact HO189.out) (Kd.R_base ho0) hb)
                 have n3_:=Aside0.mk (Kd.R_elder' (by (with_reducible repeat (first|apply zA|apply zN|apply zD));exact HO195.out) (Kd.R_base ho0) hb)
                 have n4_:=Aside0.mk (Kd.R_elder' (by (with_reducible repeat (first|apply zA|apply zN|apply zD));exact HO219.out) (Kd.R_base ho0) hb)
                 have n5_:=Aside0.mk (Kd.R_elder' (by (with_reducible repeat (first|apply zA|apply zN|apply zD));exact HO222.out) (Kd.R_base ho0) hb)
                 have n6_:=Aside0.mk (Kd.R_lower (Kd.R_new' (Kd.R_new' (Kd.R_new' (Kd.R_new' (Kd.R_new' (Kd.R_new' ho0 (Kd.R_lt (by (with_reducible repeat (first|apply zA|apply zN|apply zD));exact HO178.out))) (Kd.R_lt (by (with_reducible repeat (first|apply zA|apply zN|apply zD));exact HO184.out))) (Kd.R_lt (by (with_reducible repeat (first|apply zA|apply zN|apply zD));exact HO189.out))) (Kd.R_lt (by (with_reducible repeat (first|apply zA|apply zN|apply zD));exact HO195.out))) (Kd.R_lt (by (with_reducible repeat (first|apply zA|apply zN|apply zD));exact HO219.out))) (Kd.R_lt (by (with_reducible repeat (first|apply zA|apply zN|apply zD));exact HO222.out))) (below_size (by repeat (first|(with_reducible first|exact HB.out|apply below_alloc|apply pw_below_drewN|apply below_drew1|refine below_set ?_ GE175.out|refine below_set ?_ GE186.out|refine below_set ?_ GE197.out)|exact HB.out))))
                 have n7_:=Aside0.mk (blk_below (g:=gb175) (o:=.cells #[.string t172,.int .u64 t173,.int .u8 t174] 39 (0,0)) (by (with_reducible repeat (first|refine bN ?_ _|refine bD ?_|refine bA ?_ _));exact BK175.out) hb)
                 have n8_:=Aside0.mk (blk_below (g:=gb186) (o:=.cells #[.string t179,.int .u64 t180,.int .u8 t181] 39 (0,0)) (by (with_reducible repeat (first|refine bN ?_ _|refine bD ?_|refine bA ?_ _));exact BK186.out) hb)
                 have n9_:=Aside0.mk (blk_below (g:=gb197) (o:=.cells #[.string t190,.int .u64 t191,.int .u8 t192] 39 (0,0)) (by (with_reducible repeat (first|refine bN ?_ _|refine bD ?_|refine bA ?_ _));exact BK197.out) hb)
                 have n10_:=Aside0.mk (below_step (by repeat (first|(with_reducible first|exact HB.out|apply below_alloc|apply pw_below_drewN|apply below_drew1|refine below_set ?_ GE175.out|refine below_set ?_ GE186.out|refine below_set ?_ GE197.out)|exact HB.out)) hb)
                 clear HO178
                 clear HO184
                 clear HO189
                 clear HO195
                 clear HO219
                 clear HO222
                 clear BK175
                 clear BK186
                 clear BK197
                 clear HB
                 have HO178:=n0_
                 have HO184:=n1_
                 have HO189:=n2_
                 have HO195:=n3_
                 have HO219:=n4_
                 have HO222:=n5_
                 have HO229:=n6_
                 have BK175:=n7_
                 have BK186:=n8_
                 have BK197:=n9_
                 have HB:=n10_
                 clear n0_ n1_ n2_ n3_ n4_ n5_ n6_ n7_ n8_ n9_ n10_
                 (try clear hb)
                 (try clear hb2)
                 (try clear hk)
                 (try clear hi)
                 (try clear ho0)
                 refine hK.out _ _ ⟨(blk_cell BK175.out 0).trans rfl,(blk_cell BK175.out 1).trans rfl,(blk_cell BK175.out 2).trans rfl,(blk_cell BK186.out 0).trans rfl,(blk_cell BK186.out 1).trans rfl,(blk_cell BK186.out 2).trans rfl⟩ (fun hHeld => ?_)
                 clear hK K
                 refine norm_ (a':=?_) ?_ ?_
                 rotate_left
                 ·show Act.put _ (some 59) _ = _
                  simp only [Act.put,sA,sZ,sS,i64_w,i32_w]
                  rfl
                 exact norm_ (by first|(simp only [putAll,Act.put,sA,sZ,sS];done)|(simp only [putAll,Act.put,sA,sZ,sS];rfl)) (hJ30_31_32_36_37 (v218,v221,v228) _ ⟨hHeld,(by (with_reducible repeat (first|apply zA|apply zN|apply zD));exact Kd.R_mono HO178.out (fun _ hk => ⟨hk.1.1,⟨hk.1.2.1,⟨hk.1.2.2.1,⟨hk.1.2.2.2.1,⟨hk.1.2.2.2.2,hk.2⟩⟩⟩⟩⟩)),(by (with_reducible repeat (first|apply zA|apply zN|apply zD));exact Kd.R_mono HO184.out (fun _ hk => ⟨hk.1.1,⟨hk.1.2.1,⟨hk.1.2.2.1,⟨hk.1.2.2.2.1,⟨hk.1.2.2.2.2,hk.2⟩⟩⟩⟩⟩)),(by (with_reducible repeat (first|apply zA|apply zN|apply zD));exact Kd.R_mono HO189.out (fun _ hk => ⟨hk.1.1,⟨hk.1.2.1,⟨hk.1.2.2.1,⟨hk.1.2.2.2.1,⟨hk.1.2.2.2.2,hk.2⟩⟩⟩⟩⟩)),(by (with_reducible repeat (first|apply zA|apply zN|apply zD));exact Kd.R_mono HO195.out (fun _ hk => ⟨hk.1.1,⟨hk.1.2.1,⟨hk.1.2.2.1,⟨hk.1.2.2.2.1,⟨hk.1.2.2.2.2,hk.2⟩⟩⟩⟩⟩)),(by (with_reducible repeat (first|apply zA|apply zN|apply zD));exact Kd.R_mono HO219.out (fun _ hk => ⟨hk.1.1,⟨hk.1.2.1,⟨hk.1.2.2.1,⟨hk.1.2.2.2.1,⟨hk.1.2.2.2.2,hk.2⟩⟩⟩⟩⟩)),(by (with_reducible repeat (first|apply zA|apply zN|apply zD));exact Kd.R_mono HO222.out (fun _ hk => ⟨hk.1.1,⟨hk.1.2.1,⟨hk.1.2.2.1,⟨hk.1.2.2.2.1,⟨hk.1.2.2.2.2,hk.2⟩⟩⟩⟩⟩)),(by (with_reducible repeat (first|apply zA|apply zN|apply zD));exact Kd.R_mono HO229.out (fun _ hk => ⟨hk.1.1.1.1.1.2,⟨hk.1.1.1.1.2,⟨hk.1.1.1.2,⟨hk.1.1.2,⟨hk.1.2,hk.2⟩⟩⟩⟩⟩)),(by (with_reducible repeat (first|refine bN ?_ _|refine bD ?_|refine bA ?_ _));exact BK175.out),(by (with_reducible repeat (first|refine bN ?_ _|refine bD ?_|refine bA ?_ _));exact BK186.out),(by (with_reducible repeat (first|refine bN ?_ _|refine bD ?_|refine bA ?_ _));exact BK197.out),(by repeat (first|(with_reducible first|exact HB.out|apply below_alloc|apply pw_below_drewN|apply below_drew1|refine below_set ?_ GE175.out|refine below_set ?_ GE186.out|refine below_set ?_ GE197.out)|exact HB.out))⟩)
                ·skip
                 refine Kd.R_lit_step (Kd.int .u8) _ 5 ?hg (N:=60) ?hd (xs:=([1,97,10] : List Int)) (inner:=[.int .u8 1,.int .u8 97,.int .u8 10]) (ok:=fun _ => True) (okp:=fun _ => True) ?hr ?hp (fun _ hk => hk) trivial (Below.refl _ _) (Nat.le_refl _) (by simp) ?_;(case hd => rfl);(case hg => rfl);(case hr => first|(go_simp;done)|(go_simp;rfl));(case hp => exact (Reps.one (show Kd.M (Kd.int .u8) _ _ _ 1 [.int .u8 1] from rfl) (Reps.one (show Kd.M (Kd.int .u8) _ _ _ 97 [.int .u8 97] from rfl) (Reps.one (show Kd.M (Kd.int .u8) _ _ _ 10 [.int .u8 10] from rfl) (Reps.none _ _)))))
                 intro v231 w69 ho70 hb hg_ hnew_
                 clear hg_ hnew_
                 (first|rw [← Ny230.out] at ho70|(simp only [Int.reduceToNat] at ho70;rw [← Ny230.out] at ho70))
                 have n0_:=Aside0.mk (Kd.R_elder' (by (with_reducible repeat (first|apply zA|apply zN|apply zD));exact HO178.out) (Kd.R_base ho70) hb)
                 have n1_:=Aside0.mk (Kd.R_elder' (by (with_reducible repeat (first|apply zA|apply zN|apply zD));exact HO184.out) (Kd.R_base ho70) hb)
                 have n2_:=Aside0.mk (Kd.R_elder' (by (with_reducible repeat (first|apply zA|apply zN|apply zD));exact HO189.out) (Kd.R_base ho70) hb)
                 have n3_:=Aside0.mk (Kd.R_elder' (by (with_reducible repeat (first|apply zA|apply zN|apply zD));exact HO195.out) (Kd.R_base ho70) hb)
                 have n4_:=Aside0.mk (Kd.R_elder' (by (with_reducible repeat (first|apply zA|apply zN|apply zD));exact HO219.out) (Kd.R_base ho70) hb)
                 have n5_:=Aside0.mk (Kd.R_elder' (by (with_reducible repeat (first|apply zA|apply zN|apply zD));exact HO222.out) (Kd.R_base ho70) hb)
                 have n6_:=Aside0.mk (Kd.R_lower (Kd.R_new' (Kd.R_new' (Kd.R_new' (Kd.R_new' (Kd.R_new' (Kd.R_new' ho70 (Kd.R_lt (by (with_reducible repeat (first|apply zA|apply zN|apply zD));exact HO178.out))) (Kd.R_lt (by (with_reducible repeat (first|apply zA|apply zN|apply zD));exact HO184.out))) (Kd.R_lt (by (with_reducible repeat (first|apply zA|apply zN|apply zD));exact HO189.out))) (Kd.R_lt (by (with_reducible repeat (first|apply zA|apply zN|apply zD));exact HO195.out))) (Kd.R_lt (by (with_reducible repeat (first|apply zA|apply zN|apply zD));exact HO219.out))) (Kd.R_lt (by (with_reducible repeat (first|apply zA|apply zN|apply zD));exact HO222.out))) (below_size (by repeat (first|(with_reducible first|exact HB.out|apply below_alloc|apply pw_below_drewN|apply below_drew1|refine below_set ?_ GE175.out|refine below_set ?_ GE186.out|refine below_set ?_ GE197.out)|exact HB.out))))
                 have n7_:=Aside0.mk (blk_below (g:=gb175) (o:=.cells #[.string t172,.int .u64 t173,.int .u8 t174] 39 (0,0)) (by (with_reducible repeat (first|refine bN ?_ _|refine bD ?_|refine bA ?_ _));exact BK175.out) hb)
                 have n8_:=Aside0.mk (blk_below (g:=gb186) (o:=.cells #[.string t179,.int .u64 t180,.int .u8 t181] 39 (0,0)) (by (with_reducible repeat (first|refine bN ?_ _|refine bD ?_|refine bA ?_ _));exact BK186.out) hb)
                 have n9_:=Aside0.mk (blk_below (g:=gb197) (o:=.cells #[.string t190,.int .u64 t191,.int .u8 t192] 39 (0,0)) (by (with_reducible repeat (first|refine bN ?_ _|refine bD ?_|refine bA ?_ _));exact BK197.out) hb)
                 have n10_:=Aside0.mk (below_step (by repeat (first|(with_reducible first|exact HB.out|apply below_alloc|apply pw_below_drewN|apply below_drew1|refine below_set ?_ GE175.out|refine below_set ?_ GE186.out|refine below_set ?_ GE197.out)|exact HB.out)) hb)
                 clear HO178
                 clear HO184
                 clear HO189
                 clear HO195
                 clear HO219
                 clear HO222
                 clear BK175
                 clear BK186
                 clear BK197
                 clear HB
                 have HO178:=n0_
                 have HO184:=n1_
                 have HO189:=n2_
                 have HO195:=n3_
                 have HO219:=n4_
                 have HO222:=n5_
                 have HO232:=n6_
                 have BK175:=n7_
                 have BK186:=n8_
                 have BK197:=n9_
                 have HB:=n10_
                 clear n0_ n1_ n2_ n3_ n4_ n5_ n6_ n7_ n8_ n9_ n10_
                 clear hb ho70
                 refine hK.out _ _ ⟨(blk_cell BK175.out 0).trans rfl,(blk_cell BK175.out 1).trans rfl,(blk_cell BK175.out 2).trans rfl,(blk_cell BK186.out 0).trans rfl,(blk_cell BK186.out 1).trans rfl,(blk_cell BK186.out 2).trans rfl⟩ (fun hHeld => ?_)
                 clear hK K
                 refine norm_ (a':=?_) ?_ ?_
                 rotate_left
                 ·show Act.put _ (some 60) _ = _
                  simp only [Act.put,sA,sZ,sS,i64_w,i32_w]
                  rfl
                 exact norm_ (by first|(simp only [putAll,Act.put,sA,sZ,sS];done)|(simp only [putAll,Act.put,sA,sZ,sS];rfl)) (hJ30_31_32_36_38 (v218,v221,v231) _ ⟨hHeld,(by (with_reducible repeat (first|apply zA|apply zN|apply zD));exact Kd.R_mono HO178.out (fun _ hk => ⟨hk.1.1,⟨hk.1.2.1,⟨hk.1.2.2.1,⟨hk.1.2.2.2.1,⟨hk.1.2.2.2.2,hk.2⟩⟩⟩⟩⟩)),(by (with_reducible repeat (first|apply zA|apply zN|apply zD));exact Kd.R_mono HO184.out (fun _ hk => ⟨hk.1.1,⟨hk.1.2.1,⟨hk.1.2.2.1,⟨hk.1.2.2.2.1,⟨hk.1.2.2.2.2,hk.2⟩⟩⟩⟩⟩)),(by (with_reducible repeat (first|apply zA|apply zN|apply zD));exact Kd.R_mono HO189.out (fun _ hk => ⟨hk.1.1,⟨hk.1.2.1,⟨hk.1.2.2.1,⟨hk.1.2.2.2.1,⟨hk.1.2.2.2.2,hk.2⟩⟩⟩⟩⟩)),(by (with_reducible repeat (first|apply zA|apply zN|apply zD));exact Kd.R_mono HO195.out (fun _ hk => ⟨hk.1.1,⟨hk.1.2.1,⟨hk.1.2.2.1,⟨hk.1.2.2.2.1,⟨hk.1.2.2.2.2,hk.2⟩⟩⟩⟩⟩)),(by (with_reducible repeat (first|apply zA|apply zN|apply zD));exact Kd.R_mono HO219.out (fun _ hk => ⟨hk.1.1,⟨hk.1.2.1,⟨hk.1.2.2.1,⟨hk.1.2.2.2.1,⟨hk.1.2.2.2.2,hk.2⟩⟩⟩⟩⟩)),(by (with_reducible repeat (first|apply zA|apply zN|apply zD));exact Kd.R_mono HO222.out (fun _ hk => ⟨hk.1.1,⟨hk.1.2.1,⟨hk.1.2.2.1,⟨hk.1.2.2.2.1,⟨hk.1.2.2.2.2,hk.2⟩⟩⟩⟩⟩)),(by (with_reducible repeat (first|apply zA|apply zN|apply zD));exact Kd.R_mono HO232.out (fun _ hk => ⟨hk.1.1.1.1.1.2,⟨hk.1.1.1.1.2,⟨hk.1.1.1.2,⟨hk.1.1.2,⟨hk.1.2,hk.2⟩⟩⟩⟩⟩)),(by (with_reducible repeat (first|refine bN ?_ _|refine bD ?_|refine bA ?_ _));exact BK175.out),(by (with_reducible repeat (first|refine bN ?_ _|refine bD ?_|refine bA ?_ _));exact BK186.out),(by (with_reducible repeat (first|refine bN ?_ _|refine bD ?_|refine bA ?_ _));exact BK197.out),(by repeat (first|(with_reducible first|exact HB.out|apply below_alloc|apply pw_below_drewN|apply below_drew1|refine below_set ?_ GE175.out|refine below_set ?_ GE186.out|refine below_set ?_ GE197.out)|exact HB.out))⟩)
              ·skip
               rintro ⟨v218,v221,v231⟩ w70 ⟨hS_,h0_,h1_,h2_,h3_,h4_,h5_,h6_,h7_,h8_,h9_,h10_⟩
               have n0_ : Aside0 (Kd.R (Kd.int .u8) 5 w70 w.heap.size (fun k_ => nB k_ Ao50 t182.length co50 ∧ nB k_ Ao44 y187.length co44 ∧ some k_ ≠ (v194 : Value).ownBlock ∧ some k_ ≠ (v218 : Value).ownBlock ∧ some k_ ≠ (v221 : Value).ownBlock ∧ some k_ ≠ (v231 : Value).ownBlock) (.slice Ao37 y176.length co37) y176):=⟨h0_⟩
               have n1_ : Aside0 (Kd.R (Kd.int .u8) 5 w70 w.heap.size (fun k_ => nB k_ Ao37 y176.length co37 ∧ nB k_ Ao44 y187.length co44 ∧ some k_ ≠ (v194 : Value).ownBlock ∧ some k_ ≠ (v218 : Value).ownBlock ∧ some k_ ≠ (v221 : Value).ownBlock ∧ some k_ ≠ (v231 : Value).ownBlock) (.slice Ao50 t182.length co50) t182):=⟨h1_⟩
               have n2_ : Aside0 (Kd.R (Kd.int .u8) 5 w70 w.heap.size (fun k_ => nB k_ Ao37 y176.length co37 ∧ nB k_ Ao50 t182.length co50 ∧ some k_ ≠ (v194 : Value).ownBlock ∧ some k_ ≠ (v218 : Value).ownBlock ∧ some k_ ≠ (v221 : Value).ownBlock ∧ some k_ ≠ (v231 : Value).ownBlock) (.slice Ao44 y187.length co44) y187):=⟨h2_⟩
               have n3_ : Aside0 (Kd.R (Kd.int .u8) 5 w70 w.heap.size (fun k_ => nB k_ Ao37 y176.length co37 ∧ nB k_ Ao50 t182.length co50 ∧ nB k_ Ao44 y187.length co44 ∧ some k_ ≠ (v218 : Value).ownBlock ∧ some k_ ≠ (v221 : Value).ownBlock ∧ some k_ ≠ (v231 : Value).ownBlock) v194 t193):=⟨h3_⟩
               have n4_ : Aside0 (Kd.R (Kd.int .u8) 5 w70 w.heap.size (fun k_ => nB k_ Ao37 y176.length co37 ∧ nB k_ Ao50 t182.length co50 ∧ nB k_ Ao44 y187.length co44 ∧ some k_ ≠ (v194 : Value).ownBlock ∧ some k_ ≠ (v221 : Value).ownBlock ∧ some k_ ≠ (v231 : Value).ownBlock) v218 t217):=⟨h4_⟩
               have n5_ : Aside0 (Kd.R (Kd.int .u8) 5 w70 w.heap.size (fun k_ => nB k_ Ao37 y176.length co37 ∧ nB k_ Ao50 t182.length co50 ∧ nB k_ Ao44 y187.length co44 ∧ some k_ ≠ (v194 : Value).ownBlock ∧ some k_ ≠ (v218 : Value).ownBlock ∧ some k_ ≠ (v231 : Value).ownBlock) v221 y220):=⟨h5_⟩
               have n6_ : Aside0 (Kd.R (Kd.int .u8) 5 w70 w.heap.size (fun k_ => nB k_ Ao37 y176.length co37 ∧ nB k_ Ao50 t182.length co50 ∧ nB k_ Ao44 y187.length co44 ∧ some k_ ≠ (v194 : Value).ownBlock ∧ some k_ ≠ (v218 : Value).ownBlock ∧ some k_ ≠ (v221 : Value).ownBlock) v231 y230):=⟨h6_⟩
               have n7_ : Aside0 (w70.heap[gb175]? = some (.cells #[.string t172,.int .u64 t173,.int .u8 t174] 39 (0,0))):=⟨h7_⟩
               have n8_ : Aside0 (w70.heap[gb186]? = some (.cells #[.string t179,.int .u64 t180,.int .u8 t181] 39 (0,0))):=⟨h8_⟩
               have n9_ : Aside0 (w70.heap[gb197]? = some (.cells #[.string t190,.int .u64 t191,.int .u8 t192] 39 (0,0))):=⟨h9_⟩
               have n10_ : Aside0 (Below w.heap.size w w70):=⟨h10_⟩
               clear HO178
               clear HO184
               clear HO189
               clear HO195
               clear BK175
               clear BK186
               clear BK197
               clear HB
               clear h0_ h1_ h2_ h3_ h4_ h5_ h6_ h7_ h8_ h9_ h10_
               have HO178:=n0_
               have HO184:=n1_
               have HO189:=n2_
               have HO195:=n3_
               have HO219:=n4_
               have HO222:=n5_
               have HO232:=n6_
               have BK175:=n7_
               have BK186:=n8_
               have BK197:=n9_
               have HB:=n10_
               clear n0_ n1_ n2_ n3_ n4_ n5_ n6_ n7_ n8_ n9_ n10_
               have hHeld : w70.cell? ⟨gb175,0,none⟩ = some (.string t172) ∧ w70.cell? ⟨gb175,1,none⟩ = some (.int .u64 t173) ∧ w70.cell? ⟨gb175,2,none⟩ = some (.int .u8 t174) ∧ w70.cell? ⟨gb186,0,none⟩ = some (.string t179) ∧ w70.cell? ⟨gb186,1,none⟩ = some (.int .u64 t180) ∧ w70.cell? ⟨gb186,2,none⟩ = some (.int .u8 t181):=hS_
               refine norm_ (a':=?_) ?_ ?_
               rotate_left
               ·simp only [putAll,Act.put,sA,sZ,sS]
                rfl
               refine one_ (i:=37) (N:=some 59) #[true,true,true,true,true,true,true,true,true,true,true,true,true,true,true,true,true,true,true,true,true,true,true,true,true,true,true,true,true,true,true,true,true,true,true,true,true,true,true,false,false,false,false,false,false,false,false,false,false,false,false,false,false,false,false,false,false,false,false,false,false,false,false,false,false,false] rfl rfl (one_of HT_.out (by kernel_rfl)) (by decide) (fun K hK => ?_)
               refine goes_ Try.func31 (by kernel_rfl) rfl #[.slice none 0 0,.agg #[.string t224,.int .u64 t225,.int .u8 t226]] (by rfl) rfl rfl (by (try simp only [List.map_toArray,List.map_cons,List.map_nil]);first|done|rfl|(simp only [List.length_drop,List.length_take];rfl)) ?_
               refine calls_of_args (args':=#[.slice none (([] : List Int)).length 0,.agg #[.string t224,.int .u64 t225,.int .u8 t226]]) (by rfl) ?_;with_reducible refine (ikey_Put.calls _ _ ([] : List Int) t224 t225 t226 t227 _ ?side1 ?side2 A22.out).mono ?_
               (case side1 => exact Kd.C_nil _ _)
               (case side2 => exact Nat.le_refl _)
               rintro e w71 ⟨v228,rfl,ho0,hb⟩
               refine ⟨_,rfl,?_⟩
               have n0_:=Aside0.mk (Kd.R_elder' (by (with_reducible repeat (first|apply zA|apply zN|apply zD));exact HO178.out) (Kd.R_base ho0) hb)
               have n1_:=Aside0.mk (Kd.R_elder' (by (with_reducible repeat (first|apply zA|apply zN|apply zD));exact HO184.out) (Kd.R_base ho0) hb)
               have n2_:=Aside0.mk (Kd.R_elder' (by (with_reducible repeat (first|apply zA|apply zN|apply zD));exact HO189.out) (Kd.R_base ho0) hb)
               have n3_:=Aside0.mk (Kd.R_elder' (by (with_reducible repeat (first|apply zA|apply zN|apply zD));exact HO195.out) (Kd.R_base ho0) hb)
               have n4_:=Aside0.mk (Kd.R_elder' (by (with_reducible repeat (first|apply zA|apply zN|apply zD));exact HO219.out) (Kd.R_base ho0) hb)
               have n5_:=Aside0.mk (Kd.R_elder' (by (with_reducible repeat (first|apply zA|apply zN|apply zD));exact HO222.out) (Kd.R_base ho0) hb)
               have n6_:=Aside0.mk (Kd.R_elder' (by (with_reducible repeat (first|apply zA|apply zN|apply zD));exact HO232.out) (Kd.R_base ho0) hb)
               have n7_:=Aside0.mk (Kd.R_lower (Kd.R_new' (Kd.R_new' (Kd.R_new' (Kd.R_new' (Kd.R_new' (Kd.R_new' (Kd.R_new' ho0 (Kd.R_lt (by (with_reducible repeat (first|apply zA|apply zN|apply zD));exact HO178.out))) (Kd.R_lt (by (with_reducible repeat (first|apply zA|apply zN|apply zD));exact HO184.out))) (Kd.R_lt (by (with_reducible repeat (first|apply zA|apply zN|apply zD));exact HO189.out))) (Kd.R_lt (by (with_reducible repeat (first|apply zA|apply zN|apply zD));exact HO195.out))) (Kd.R_lt (by (with_reducible repeat (first|apply zA|apply zN|apply zD));exact HO219.out))) (Kd.R_lt (by (with_reducible repeat (first|apply zA|apply zN|apply zD));exact HO222.out))) (Kd.R_lt (by (with_reducible repeat (first|apply zA|apply zN|apply zD));exact HO232.out))) (below_size (by repeat (first|(with_reducible first|exact HB.out|apply below_alloc|apply pw_below_drewN|apply below_drew1|refine below_set ?_ GE175.out|refine below_set ?_ GE186.out|refine below_set ?_ GE197.out)|exact HB.out))))
               have n8_:=Aside0.mk (blk_below (g:=gb175) (o:=.cells #[.string t172,.int .u64 t173,.int .u8 t174] 39 (0,0)) (by (with_reducible repeat (first|refine bN ?_ _|refine bD ?_|refine bA ?_ _));exact BK175.out) hb)
               have n9_:=Aside0.mk (blk_below (g:=gb186) (o:=.cells #[.string t179,.int .u64 t180,.int .u8 t181] 39 (0,0)) (by (with_reducible repeat (first|refine bN ?_ _|refine bD ?_|refine bA ?_ _));exact BK186.out) hb)
               have n10_:=Aside0.mk (blk_below (g:=gb197) (o:=.cells #[.string t190,.int .u64 t191,.int .u8 t192] 39 (0,0)) (by (with_reducible repeat (first|refine bN ?_ _|refine bD ?_|refine bA ?_ _));exact BK197.out) hb)
               have n11_:=Aside0.mk (below_step (by repeat (first|(with_reducible first|exact HB.out|apply below_alloc|apply pw_below_drewN|apply below_drew1|refine below_set ?_ GE175.out|refine below_set ?_ GE186.out|refine below_set ?_ GE197.out)|exact HB.out)) hb)
               clear HO178
               clear HO184
               clear HO189
               clear HO195
               clear HO219
               clear HO222
               clear HO232
               clear BK175
               clear BK186
               clear BK197
               clear HB
               have HO178:=n0_
               have HO184:=n1_
               have HO189:=n2_
               have HO195:=n3_
               have HO219:=n4_
               have HO222:=n5_
               have HO232:=n6_
               have HO229:=n7_
               have BK175:=n8_
               have BK186:=n9_
               have BK197:=n10_
               have HB:=n11_
               clear n0_ n1_ n2_ n3_ n4_ n5_ n6_ n7_ n8_ n9_ n10_ n11_
               (try clear hb)
               (try clear hb2)
               (try clear hk)
               (try clear hi)
               (try clear ho0)
               refine hK.out _ _ ⟨(blk_cell BK175.out 0).trans rfl,(blk_cell BK175.out 1).trans rfl,(blk_cell BK175.out 2).trans rfl,(blk_cell BK186.out 0).trans rfl,(blk_cell BK186.out 1).trans rfl,(blk_cell BK186.out 2).trans rfl⟩ (fun hHeld => ?_)
               clear hK K
               refine norm_ (a':=?_) ?_ ?_
               rotate_left
               ·show Act.put _ (some 59) _ = _
                simp only [Act.put,sA,sZ,sS,i64_w,i32_w]
                rfl
               exact norm_ (by first|(simp only [putAll,Act.put,sA,sZ,sS];done)|(simp only [putAll,Act.put,sA,sZ,sS];rfl)) (hJ30_31_32_36_37_38 (v218,v221,v228,v231) _ ⟨hHeld,(by (with_reducible repeat (first|apply zA|apply zN|apply zD));exact Kd.R_mono HO178.out (fun _ hk => ⟨hk.1.1,⟨hk.1.2.1,⟨hk.1.2.2.1,⟨hk.1.2.2.2.1,⟨hk.1.2.2.2.2.1,⟨hk.2,hk.1.2.2.2.2.2⟩⟩⟩⟩⟩⟩)),(by (with_reducible repeat (first|apply zA|apply zN|apply zD));exact Kd.R_mono HO184.out (fun _ hk => ⟨hk.1.1,⟨hk.1.2.1,⟨hk.1.2.2.1,⟨hk.1.2.2.2.1,⟨hk.1.2.2.2.2.1,⟨hk.2,hk.1.2.2.2.2.2⟩⟩⟩⟩⟩⟩)),(by (with_reducible repeat (first|apply zA|apply zN|apply zD));exact Kd.R_mono HO189.out (fun _ hk => ⟨hk.1.1,⟨hk.1.2.1,⟨hk.1.2.2.1,⟨hk.1.2.2.2.1,⟨hk.1.2.2.2.2.1,⟨hk.2,hk.1.2.2.2.2.2⟩⟩⟩⟩⟩⟩)),(by (with_reducible repeat (first|apply zA|apply zN|apply zD));exact Kd.R_mono HO195.out (fun _ hk => ⟨hk.1.1,⟨hk.1.2.1,⟨hk.1.2.2.1,⟨hk.1.2.2.2.1,⟨hk.1.2.2.2.2.1,⟨hk.2,hk.1.2.2.2.2.2⟩⟩⟩⟩⟩⟩)),(by (with_reducible repeat (first|apply zA|apply zN|apply zD));exact Kd.R_mono HO219.out (fun _ hk => ⟨hk.1.1,⟨hk.1.2.1,⟨hk.1.2.2.1,⟨hk.1.2.2.2.1,⟨hk.1.2.2.2.2.1,⟨hk.2,hk.1.2.2.2.2.2⟩⟩⟩⟩⟩⟩)),(by (with_reducible repeat (first|apply zA|apply zN|apply zD));exact Kd.R_mono HO222.out (fun _ hk => ⟨hk.1.1,⟨hk.1.2.1,⟨hk.1.2.2.1,⟨hk.1.2.2.2.1,⟨hk.1.2.2.2.2.1,⟨hk.2,hk.1.2.2.2.2.2⟩⟩⟩⟩⟩⟩)),(by (with_reducible repeat (first|apply zA|apply zN|apply zD));exact Kd.R_mono HO229.out (fun _ hk => ⟨hk.1.1.1.1.1.1.2,⟨hk.1.1.1.1.1.2,⟨hk.1.1.1.1.2,⟨hk.1.1.1.2,⟨hk.1.1.2,⟨hk.1.2,hk.2⟩⟩⟩⟩⟩⟩)),(by (with_reducible repeat (first|apply zA|apply zN|apply zD));exact Kd.R_mono HO232.out (fun _ hk => ⟨hk.1.1,⟨hk.1.2.1,⟨hk.1.2.2.1,⟨hk.1.2.2.2.1,⟨hk.1.2.2.2.2.1,⟨hk.1.2.2.2.2.2,hk.2⟩⟩⟩⟩⟩⟩)),(by (with_reducible repeat (first|refine bN ?_ _|refine bD ?_|refine bA ?_ _));exact BK175.out),(by (with_reducible repeat (first|refine bN ?_ _|refine bD ?_|refine bA ?_ _));exact BK186.out),(by (with_reducible repeat (first|refine bN ?_ _|refine bD ?_|refine bA ?_ _));exact BK197.out),(by repeat (first|(with_reducible first|exact HB.out|apply below_alloc|apply pw_below_drewN|apply below_drew1|refine below_set ?_ GE175.out|refine below_set ?_ GE186.out|refine below_set ?_ GE197.out)|exact HB.out))⟩)
             ·skip
              rintro ⟨v218,v221,v228⟩ w69 ⟨hS_,h0_,h1_,h2_,h3_,h4_,h5_,h6_,h7_,h8_,h9_,h10_⟩
              have n0_ : Aside0 (Kd.R (Kd.int .u8) 5 w69 w.heap.size (fun k_ => nB k_ Ao50 t182.length co50 ∧ nB k_ Ao44 y187.length co44 ∧ some k_ ≠ (v194 : Value).ownBlock ∧ some k_ ≠ (v218 : Value).ownBlock ∧ some k_ ≠ (v221 : Value).ownBlock ∧ some k_ ≠ (v228 : Value).ownBlock) (.slice Ao37 y176.length co37) y176):=⟨h0_⟩
              have n1_ : Aside0 (Kd.R (Kd.int .u8) 5 w69 w.heap.size (fun k_ => nB k_ Ao37 y176.length co37 ∧ nB k_ Ao44 y187.length co44 ∧ some k_ ≠ (v194 : Value).ownBlock ∧ some k_ ≠ (v218 : Value).ownBlock ∧ some k_ ≠ (v221 : Value).ownBlock ∧ some k_ ≠ (v228 : Value).ownBlock) (.slice Ao50 t182.length co50) t182):=⟨h1_⟩
              have n2_ : Aside0 (Kd.R (Kd.int .u8) 5 w69 w.heap.size (fun k_ => nB k_ Ao37 y176.length co37 ∧ nB k_ Ao50 t182.length co50 ∧ some k_ ≠ (v194 : Value).ownBlock ∧ some k_ ≠ (v218 : Value).ownBlock ∧ some k_ ≠ (v221 : Value).ownBlock ∧ some k_ ≠ (v228 : Value).ownBlock) (.slice Ao44 y187.length co44) y187):=⟨h2_⟩
              have n3_ : Aside0 (Kd.R (Kd.int .u8) 5 w69 w.heap.size (fun k_ => nB k_ Ao37 y176.length co37 ∧ nB k_ Ao50 t182.length co50 ∧ nB k_ Ao44 y187.length co44 ∧ some k_ ≠ (v218 : Value).ownBlock ∧ some k_ ≠ (v221 : Value).ownBlock ∧ some k_ ≠ (v228 : Value).ownBlock) v194 t193):=⟨h3_⟩
              have n4_ : Aside0 (Kd.R (Kd.int .u8) 5 w69 w.heap.size (fun k_ => nB k_ Ao37 y176.length co37 ∧ nB k_ Ao50 t182.length co50 ∧ nB k_ Ao44 y187.length co44 ∧ some k_ ≠ (v194 : Value).ownBlock ∧ some k_ ≠ (v221 : Value).ownBlock ∧ some k_ ≠ (v228 : Value).ownBlock) v218 t217):=⟨h4_⟩
              have n5_ : Aside0 (Kd.R (Kd.int .u8) 5 w69 w.heap.size (fun k_ => nB k_ Ao37 y176.length co37 ∧ nB k_ Ao50 t182.length co50 ∧ nB k_ Ao44 y187.length co44 ∧ some k_ ≠ (v194 : Value).ownBlock ∧ some k_ ≠ (v218 : Value).ownBlock ∧ some k_ ≠ (v228 : Value).ownBlock) v221 y220):=⟨h5_⟩
              have n6_ : Aside0 (Kd.R (Kd.int .u8) 5 w69 w.heap.size (fun k_ => nB k_ Ao37 y176.length co37 ∧ nB k_ Ao50 t182.length co50 ∧ nB k_ Ao44 y187.length co44 ∧ some k_ ≠ (v194 : Value).ownBlock ∧ some k_ ≠ (v218 : Value).ownBlock ∧ some k_ ≠ (v221 : Value).ownBlock) v228 t227):=⟨h6_⟩
              have n7_ : Aside0 (w69.heap[gb175]? = some (.cells #[.string t172,.int .u64 t173,.int .u8 t174] 39 (0,0))):=⟨h7_⟩
              have n8_ : Aside0 (w69.heap[gb186]? = some (.cells #[.string t179,.int .u64 t180,.int .u8 t181] 39 (0,0))):=⟨h8_⟩
              have n9_ : Aside0 (w69.heap[gb197]? = some (.cells #[.string t190,.int .u64 t191,.int .u8 t192] 39 (0,0))):=⟨h9_⟩
              have n10_ : Aside0 (Below w.heap.size w w69):=⟨h10_⟩
              clear HO178
              clear HO184
              clear HO189
              clear HO195
              clear BK175
              clear BK186
              clear BK197
              clear HB
              clear h0_ h1_ h2_ h3_ h4_ h5_ h6_ h7_ h8_ h9_ h10_
              have HO178:=n0_
              have HO184:=n1_
              have HO189:=n2_
              have HO195:=n3_
              have HO219:=n4_
              have HO222:=n5_
              have HO229:=n6_
              have BK175:=n7_
              have BK186:=n8_
              have BK197:=n9_
              have HB:=n10_
              clear n0_ n1_ n2_ n3_ n4_ n5_ n6_ n7_ n8_ n9_ n10_
              have hHeld : w69.cell? ⟨gb175,0,none⟩ = some (.string t172) ∧ w69.cell? ⟨gb175,1,none⟩ = some (.int .u64 t173) ∧ w69.cell? ⟨gb175,2,none⟩ = some (.int .u8 t174) ∧ w69.cell? ⟨gb186,0,none⟩ = some (.string t179) ∧ w69.cell? ⟨gb186,1,none⟩ = some (.int .u64 t180) ∧ w69.cell? ⟨gb186,2,none⟩ = some (.int .u8 t181):=hS_
              refine norm_ (a':=?_) ?_ ?_
              rotate_left
              ·simp only [putAll,Act.put,sA,sZ,sS]
               rfl
              refine one_ (i:=38) (N:=some 60) #[true,true,true,true,true,true,true,true,true,true,true,true,true,true,true,true,true,true,true,true,true,true,true,true,true,true,true,true,true,true,true,true,true,true,true,true,true,true,true,false,false,false,false,false,false,false,false,false,false,false,false,false,false,false,false,false,false,false,false,false,false,false,false,false,false,false] rfl rfl (one_of HT_.out (by kernel_rfl)) (by decide) (fun K hK => ?_)
              refine Kd.R_lit_step (Kd.int .u8) _ 5 ?hg (N:=60) ?hd (xs:=([1,97,10] : List Int)) (inner:=[.int .u8 1,.int .u8 97,.int .u8 10]) (ok:=fun _ => True) (okp:=fun _ => True) ?hr ?hp (fun _ hk => hk) trivial (Below.refl _ _) (Nat.le_refl _) (by simp) ?_;(case hd => rfl);(case hg => rfl);(case hr => first|(go_simp;done)|(go_simp;rfl));(case hp => exact (Reps.one (show Kd.M (Kd.int .u8) _ _ _ 1 [.int .u8 1] from rfl) (Reps.one (show Kd.M (Kd.int .u8) _ _ _ 97 [.int .u8 97] from rfl) (Reps.one (show Kd.M (Kd.int .u8) _ _ _ 10 [.int .u8 10] from rfl) (Reps.none _ _)))))
              intro v231 w70 ho71 hb hg_ hnew_
              clear hg_ hnew_
              (first|rw [← Ny230.out] at ho71|(simp only [Int.reduceToNat] at ho71;rw [← Ny230.out] at ho71))
              have n0_:=Aside0.mk (Kd.R_elder' (by (with_reducible repeat (first|apply zA|apply zN|apply zD));exact HO178.out) (Kd.R_base ho71) hb)
              have n1_:=Aside0.mk (Kd.R_elder' (by (with_reducible repeat (first|apply zA|apply zN|apply zD));exact HO184.out) (Kd.R_base ho71) hb)
              have n2_:=Aside0.mk (Kd.R_elder' (by (with_reducible repeat (first|apply zA|apply zN|apply zD));exact HO189.out) (Kd.R_base ho71) hb)
              have n3_:=Aside0.mk (Kd.R_elder' (by (with_reducible repeat (first|apply zA|apply zN|apply zD));exact HO195.out) (Kd.R_base ho71) hb)
              have n4_:=Aside0.mk (Kd.R_elder' (by (with_reducible repeat (first|apply zA|apply zN|apply zD));exact HO219.out) (Kd.R_base ho71) hb)
              have n5_:=Aside0.mk (Kd.R_elder' (by (with_reducible repeat (first|apply zA|apply zN|apply zD));exact HO222.out) (Kd.R_base ho71) hb)
              have n6_:=Aside0.mk (Kd.R_elder' (by (with_reducible repeat (first|apply zA|apply zN|apply zD));exact HO229.out) (Kd.R_base ho71) hb)
              have n7_:=Aside0.mk (Kd.R_lower (Kd.R_new' (Kd.R_new' (Kd.R_new' (Kd.R_new' (Kd.R_new' (Kd.R_new' (Kd.R_new' ho71 (Kd.R_lt (by (with_reducible repeat (first|apply zA|apply zN|apply zD));exact HO178.out))) (Kd.R_lt (by (with_reducible repeat (first|apply zA|apply zN|apply zD));exact HO184.out))) (Kd.R_lt (by (with_reducible repeat (first|apply zA|apply zN|apply zD));exact HO189.out))) (Kd.R_lt (by (with_reducible repeat (first|apply zA|apply zN|apply zD));exact HO195.out))) (Kd.R_lt (by (with_reducible repeat (first|apply zA|apply zN|apply zD));exact HO219.out))) (Kd.R_lt (by (with_reducible repeat (first|apply zA|apply zN|apply zD));exact HO222.out))) (Kd.R_lt (by (with_reducible repeat (first|apply zA|apply zN|apply zD));exact HO229.out))) (below_size (by repeat (first|(with_reducible first|exact HB.out|apply below_alloc|apply pw_below_drewN|apply below_drew1|refine below_set ?_ GE175.out|refine below_set ?_ GE186.out|refine below_set ?_ GE197.out)|exact HB.out))))
              have n8_:=Aside0.mk (blk_below (g:=gb175) (o:=.cells #[.string t172,.int .u64 t173,.int .u8 t174] 39 (0,0)) (by (with_reducible repeat (first|refine bN ?_ _|refine bD ?_|refine bA ?_ _));exact BK175.out) hb)
              have n9_:=Aside0.mk (blk_below (g:=gb186) (o:=.cells #[.string t179,.int .u64 t180,.int .u8 t181] 39 (0,0)) (by (with_reducible repeat (first|refine bN ?_ _|refine bD ?_|refine bA ?_ _));exact BK186.out) hb)
              have n10_:=Aside0.mk (blk_below (g:=gb197) (o:=.cells #[.string t190,.int .u64 t191,.int .u8 t192] 39 (0,0)) (by (with_reducible repeat (first|refine bN ?_ _|refine bD ?_|refine bA ?_ _));exact BK197.out) hb)
              have n11_:=Aside0.mk (below_step (by repeat (first|(with_reducible first|exact HB.out|apply below_alloc|apply pw_below_drewN|apply below_drew1|refine below_set ?_ GE175.out|refine below_set ?_ GE186.out|refine below_set ?_ GE197.out)|exact HB.out)) hb)
              clear HO178
              clear HO184
              clear HO189
              clear HO195
              clear HO219
              clear HO222
              clear HO229
              clear BK175
              clear BK186
              clear BK197
              clear HB
              have HO178:=n0_
              have HO184:=n1_
              have HO189:=n2_
              have HO195:=n3_
              have HO219:=n4_
              have HO222:=n5_
              have HO229:=n6_
              have HO232:=n7_
              have BK175:=n8_
              have BK186:=n9_
              have BK197:=n10_
              have HB:=n11_
              clear n0_ n1_ n2_ n3_ n4_ n5_ n6_ n7_ n8_ n9_ n10_ n11_
              clear hb ho71
              refine hK.out _ _ ⟨(blk_cell BK175.out 0).trans rfl,(blk_cell BK175.out 1).trans rfl,(blk_cell BK175.out 2).trans rfl,(blk_cell BK186.out 0).trans rfl,(blk_cell BK186.out 1).trans rfl,(blk_cell BK186.out 2).trans rfl⟩ (fun hHeld => ?_)
              clear hK K
              refine norm_ (a':=?_) ?_ ?_
              rotate_left
              ·show Act.put _ (some 60) _ = _
               simp only [Act.put,sA,sZ,sS,i64_w,i32_w]
               rfl
              exact norm_ (by first|(simp only [putAll,Act.put,sA,sZ,sS];done)|(simp only [putAll,Act.put,sA,sZ,sS];rfl)) (hJ30_31_32_36_37_38 (v218,v221,v228,v231) _ ⟨hHeld,(by (with_reducible repeat (first|apply zA|apply zN|apply zD));exact Kd.R_mono HO178.out (fun _ hk => ⟨hk.1.1,⟨hk.1.2.1,⟨hk.1.2.2.1,⟨hk.1.2.2.2.1,⟨hk.1.2.2.2.2.1,⟨hk.1.2.2.2.2.2,hk.2⟩⟩⟩⟩⟩⟩)),(by (with_reducible repeat (first|apply zA|apply zN|apply zD));exact Kd.R_mono HO184.out (fun _ hk => ⟨hk.1.1,⟨hk.1.2.1,⟨hk.1.2.2.1,⟨hk.1.2.2.2.1,⟨hk.1.2.2.2.2.1,⟨hk.1.2.2.2.2.2,hk.2⟩⟩⟩⟩⟩⟩)),(by (with_reducible repeat (first|apply zA|apply zN|apply zD));exact Kd.R_mono HO189.out (fun _ hk => ⟨hk.1.1,⟨hk.1.2.1,⟨hk.1.2.2.1,⟨hk.1.2.2.2.1,⟨hk.1.2.2.2.2.1,⟨hk.1.2.2.2.2.2,hk.2⟩⟩⟩⟩⟩⟩)),(by (with_reducible repeat (first|apply zA|apply zN|apply zD));exact Kd.R_mono HO195.out (fun _ hk => ⟨hk.1.1,⟨hk.1.2.1,⟨hk.1.2.2.1,⟨hk.1.2.2.2.1,⟨hk.1.2.2.2.2.1,⟨hk.1.2.2.2.2.2,hk.2⟩⟩⟩⟩⟩⟩)),(by (with_reducible repeat (first|apply zA|apply zN|apply zD));exact Kd.R_mono HO219.out (fun _ hk => ⟨hk.1.1,⟨hk.1.2.1,⟨hk.1.2.2.1,⟨hk.1.2.2.2.1,⟨hk.1.2.2.2.2.1,⟨hk.1.2.2.2.2.2,hk.2⟩⟩⟩⟩⟩⟩)),(by (with_reducible repeat (first|apply zA|apply zN|apply zD));exact Kd.R_mono HO222.out (fun _ hk => ⟨hk.1.1,⟨hk.1.2.1,⟨hk.1.2.2.1,⟨hk.1.2.2.2.1,⟨hk.1.2.2.2.2.1,⟨hk.1.2.2.2.2.2,hk.2⟩⟩⟩⟩⟩⟩)),(by (with_reducible repeat (first|apply zA|apply zN|apply zD));exact Kd.R_mono HO229.out (fun _ hk => ⟨hk.1.1,⟨hk.1.2.1,⟨hk.1.2.2.1,⟨hk.1.2.2.2.1,⟨hk.1.2.2.2.2.1,⟨hk.1.2.2.2.2.2,hk.2⟩⟩⟩⟩⟩⟩)),(by (with_reducible repeat (first|apply zA|apply zN|apply zD));exact Kd.R_mono HO232.out (fun _ hk => ⟨hk.1.1.1.1.1.1.2,⟨hk.1.1.1.1.1.2,⟨hk.1.1.1.1.2,⟨hk.1.1.1.2,⟨hk.1.1.2,⟨hk.1.2,hk.2⟩⟩⟩⟩⟩⟩)),(by (with_reducible repeat (first|refine bN ?_ _|refine bD ?_|refine bA ?_ _));exact BK175.out),(by (with_reducible repeat (first|refine bN ?_ _|refine bD ?_|refine bA ?_ _));exact BK186.out),(by (with_reducible repeat (first|refine bN ?_ _|refine bD ?_|refine bA ?_ _));exact BK197.out),(by repeat (first|(with_reducible first|exact HB.out|apply below_alloc|apply pw_below_drewN|apply below_drew1|refine below_set ?_ GE175.out|refine below_set ?_ GE186.out|refine below_set ?_ GE197.out)|exact HB.out))⟩)
            rintro ⟨v218,v221,v228,v231⟩ w71 ⟨hS_,h0_,h1_,h2_,h3_,h4_,h5_,h6_,h7_,h8_,h9_,h10_,h11_⟩
            have n0_ : Aside0 (Kd.R (Kd.int .u8) 5 w71 w.heap.size (fun k_ => nB k_ Ao50 t182.length co50 ∧ nB k_ Ao44 y187.length co44 ∧ some k_ ≠ (v194 : Value).ownBlock ∧ some k_ ≠ (v218 : Value).ownBlock ∧ some k_ ≠ (v221 : Value).ownBlock ∧ some k_ ≠ (v228 : Value).ownBlock ∧ some k_ ≠ (v231 : Value).ownBlock) (.slice Ao37 y176.length co37) y176):=⟨h0_⟩
            have n1_ : Aside0 (Kd.R (Kd.int .u8) 5 w71 w.heap.size (fun k_ => nB k_ Ao37 y176.length co37 ∧ nB k_ Ao44 y187.length co44 ∧ some k_ ≠ (v194 : Value).ownBlock ∧ some k_ ≠ (v218 : Value).ownBlock ∧ some k_ ≠ (v221 : Value).ownBlock ∧ some k_ ≠ (v228 : Value).ownBlock ∧ some k_ ≠ (v231 : Value).ownBlock) (.slice Ao50 t182.length co50) t182):=⟨h1_⟩
            have n2_ : Aside0 (Kd.R (Kd.int .u8) 5 w71 w.heap.size (fun k_ => nB k_ Ao37 y176.length co37 ∧ nB k_ Ao50 t182.length co50 ∧ some k_ ≠ (v194 : Value).ownBlock ∧ some k_ ≠ (v218 : Value).ownBlock ∧ some k_ ≠ (v221 : Value).ownBlock ∧ some k_ ≠ (v228 : Value).ownBlock ∧ some k_ ≠ (v231 : Value).ownBlock) (.slice Ao44 y187.length co44) y187):=⟨h2_⟩
            have n3_ : Aside0 (Kd.R (Kd.int .u8) 5 w71 w.heap.size (fun k_ => nB k_ Ao37 y176.length co37 ∧ nB k_ Ao50 t182.length co50 ∧ nB k_ Ao44 y187.length co44 ∧ some k_ ≠ (v218 : Value).ownBlock ∧ some k_ ≠ (v221 : Value).ownBlock ∧ some k_ ≠ (v228 : Value).ownBlock ∧ some k_ ≠ (v231 : Value).ownBlock) v194 t193):=⟨h3_⟩
            have n4_ : Aside0 (Kd.R (Kd.int .u8) 5 w71 w.heap.size (fun k_ => nB k_ Ao37 y176.length co37 ∧ nB k_ Ao50 t182.length co50 ∧ nB k_ Ao44 y187.length co44 ∧ some k_ ≠ (v194 : Value).ownBlock ∧ some k_ ≠ (v221 : Value).ownBlock ∧ some k_ ≠ (v228 : Value).ownBlock ∧ some k_ ≠ (v231 : Value).ownBlock) v218 t217):=⟨h4_⟩
            have n5_ : Aside0 (Kd.R (Kd.int .u8) 5 w71 w.heap.size (fun k_ => nB k_ Ao37 y176.length co37 ∧ nB k_ Ao50 t182.length co50 ∧ nB k_ Ao44 y187.length co44 ∧ some k_ ≠ (v194 : Value).ownBlock ∧ some k_ ≠ (v218 : Value).ownBlock ∧ some k_ ≠ (v228 : Value).ownBlock ∧ some k_ ≠ (v231 : Value).ownBlock) v221 y220):=⟨h5_⟩
            have n6_ : Aside0 (Kd.R (Kd.int .u8) 5 w71 w.heap.size (fun k_ => nB k_ Ao37 y176.length co37 ∧ nB k_ Ao50 t182.length co50 ∧ nB k_ Ao44 y187.length co44 ∧ some k_ ≠ (v194 : Value).ownBlock ∧ some k_ ≠ (v218 : Value).ownBlock ∧ some k_ ≠ (v221 : Value).ownBlock ∧ some k_ ≠ (v231 : Value).ownBlock) v228 t227):=⟨h6_⟩
            have n7_ : Aside0 (Kd.R (Kd.int .u8) 5 w71 w.heap.size (fun k_ => nB k_ Ao37 y176.length co37 ∧ nB k_ Ao50 t182.length co50 ∧ nB k_ Ao44 y187.length co44 ∧ some k_ ≠ (v194 : Value).ownBlock ∧ some k_ ≠ (v218 : Value).ownBlock ∧ some k_ ≠ (v221 : Value).ownBlock ∧ some k_ ≠ (v228 : Value).ownBlock) v231 y230):=⟨h7_⟩
            have n8_ : Aside0 (w71.heap[gb175]? = some (.cells #[.string t172,.int .u64 t173,.int .u8 t174] 39 (0,0))):=⟨h8_⟩
            have n9_ : Aside0 (w71.heap[gb186]? = some (.cells #[.string t179,.int .u64 t180,.int .u8 t181] 39 (0,0))):=⟨h9_⟩
            have n10_ : Aside0 (w71.heap[gb197]? = some (.cells #[.string t190,.int .u64 t191,.int .u8 t192] 39 (0,0))):=⟨h10_⟩
            have n11_ : Aside0 (Below w.heap.size w w71):=⟨h11_⟩
            clear HO178
            clear HO184
            clear HO189
            clear HO195
            clear BK175
            clear BK186
            clear BK197
            clear HB
            clear h0_ h1_ h2_ h3_ h4_ h5_ h6_ h7_ h8_ h9_ h10_ h11_
            have HO178:=n0_
            have HO184:=n1_
            have HO189:=n2_
            have HO195:=n3_
            have HO219:=n4_
            have HO222:=n5_
            have HO229:=n6_
            have HO232:=n7_
            have BK175:=n8_
            have BK186:=n9_
            have BK197:=n10_
            have HB:=n11_
            clear n0_ n1_ n2_ n3_ n4_ n5_ n6_ n7_ n8_ n9_ n10_ n11_
            have hHeld : w71.cell? ⟨gb175,0,none⟩ = some (.string t172) ∧ w71.cell? ⟨gb175,1,none⟩ = some (.int .u64 t173) ∧ w71.cell? ⟨gb175,2,none⟩ = some (.int .u8 t174) ∧ w71.cell? ⟨gb186,0,none⟩ = some (.string t179) ∧ w71.cell? ⟨gb186,1,none⟩ = some (.int .u64 t180) ∧ w71.cell? ⟨gb186,2,none⟩ = some (.int .u8 t181):=hS_
            obtain ⟨Ao72,co72,eo72⟩:=Kd.R_slice HO229.out
            (first|subst eo72|(injection eo72 with f1_ f2_ f3_;have f4_:=f1_.symm;have f5_:=f3_.symm;clear f1_ f2_ f3_;subst f4_;subst f5_))
            obtain ⟨Ao73,co73,eo73⟩:=Kd.R_slice HO232.out
            (first|subst eo73|(injection eo73 with f1_ f2_ f3_;have f4_:=f1_.symm;have f5_:=f3_.symm;clear f1_ f2_ f3_;subst f4_;subst f5_))
            refine norm_ (a':=?_) ?_ ?_
            rotate_left
            ·simp only [putAll,Act.put,sA,sZ,sS]
             rfl
            refine one_ (i:=39) (N:=some 61) #[true,true,true,true,true,true,true,true,true,true,true,true,true,true,true,true,true,true,true,true,true,true,true,true,true,true,true,true,true,true,true,true,true,true,true,true,true,true,true,true,false,false,false,false,false,false,false,false,false,false,false,false,false,false,false,false,false,false,false,false,false,false,false,false,false,false] rfl rfl (one_of HT_.out (by kernel_rfl)) (by decide) (fun K hK => ?_)
            refine goesT1_ 57 (by rfl) Try.func30 (by kernel_rfl) rfl #[.slice Ao72 t227.length co72,.slice Ao73 y230.length co73] (by rfl) rfl rfl (by (try simp only [List.map_toArray,List.map_cons,List.map_nil]);first|done|rfl|(simp only [List.length_drop,List.length_take];rfl)) ?_
            with_reducible refine (ratlinelaw02_Same.calls _ _ t227 _ _ y230 true _ ?side1 ?side2 ?side3 ?side4 A23.out).mono ?_
            (case side1 => repeat (first|exact (Kd.R_reads' HO229.out).2.2|(with_reducible refine Kd.C_alloc ?_ _)|(with_reducible refine Kd.C_drewN ?_ _)|(with_reducible refine Kd.C_drew ?_)))
            (case side2 => exact (Kd.R_reads' HO229.out).2.1)
            (case side3 => repeat (first|exact (Kd.R_reads' HO232.out).2.2|(with_reducible refine Kd.C_alloc ?_ _)|(with_reducible refine Kd.C_drewN ?_ _)|(with_reducible refine Kd.C_drew ?_)))
            (case side4 => exact (Kd.R_reads' HO232.out).2.1)
            rintro e w' ⟨rfl,⟨nd,rfl⟩⟩
            refine ⟨_,rfl,?_⟩
            refine hK.out _ _ ⟨(blk_cell BK175.out 0).trans rfl,(blk_cell BK175.out 1).trans rfl,(blk_cell BK175.out 2).trans rfl,(blk_cell BK186.out 0).trans rfl,(blk_cell BK186.out 1).trans rfl,(blk_cell BK186.out 2).trans rfl⟩ (fun hHeld => ?_)
            clear hK K
            refine norm_ (a':=?_) ?_ ?_
            rotate_left
            ·show Act.put _ (some 61) _ = _
             simp only [Act.put,sA,sZ,sS,i64_w,i32_w]
             rfl
            refine pure_ (i:=40) (N:=some 62) (v:=?_) (a':=?_) #[true,true,true,true,true,true,true,true,true,true,true,true,true,true,true,true,true,true,true,true,true,true,true,true,true,true,true,true,true,true,true,true,true,true,true,true,true,true,true,true,true,false,false,false,false,false,false,false,false,false,false,false,false,false,false,false,false,false,false,false,false,false,false,false,false,false] rfl rfl (any_of HT_.out (by kernel_rfl)) (fun _ _ _ h => h) (Or.inl ⟨by rfl,?_⟩) ?_ ?_
            rotate_left
            ·intro w'
             go_simp
             with_reducible rfl
            rotate_left
            ·simp only [Act.put,sA,sZ,sS,i64_w,i32_w]
             rfl
            refine pure_ (i:=41) (N:=some 63) (v:=?_) (a':=?_) #[true,true,true,true,true,true,true,true,true,true,true,true,true,true,true,true,true,true,true,true,true,true,true,true,true,true,true,true,true,true,true,true,true,true,true,true,true,true,true,true,true,true,false,false,false,false,false,false,false,false,false,false,false,false,false,false,false,false,false,false,false,false,false,false,false,false] rfl rfl (any_of HT_.out (by kernel_rfl)) (fun _ _ _ h => h) (Or.inl ⟨by rfl,?_⟩) ?_ ?_
            rotate_left
            ·intro w'
             go_simp
             with_reducible rfl
            rotate_left
            ·simp only [Act.put,sA,sZ,sS,i64_w,i32_w]
             rfl
            refine take_ (i:=42) (N:=some 64) (v:=?_) (a':=?_) #[true,true,true,true,true,true,true,true,true,true,true,true,true,true,true,true,true,true,true,true,true,true,true,true,true,true,true,true,true,true,true,true,true,true,true,true,true,true,true,true,true,true,true,false,false,false,false,false,false,false,false,false,false,false,false,false,false,false,false,false,false,false,false,false,false,false] rfl rfl (take_ofW HT_.out HW_.out (by kernel_rfl)) (fun _ _ _ h => h) (Or.inl ⟨by rfl,?_⟩) hHeld ?_ ?_
            rotate_left
            ·rintro w' ⟨s0,s1,s2,s3,s4,s5⟩
             go_simp
             with_reducible rfl
            rotate_left
            ·simp only [Act.put,sA,sZ,sS,i64_w,i32_w]
             rfl
            refine take_ (i:=43) (N:=some 65) (v:=?_) (a':=?_) #[true,true,true,true,true,true,true,true,true,true,true,true,true,true,true,true,true,true,true,true,true,true,true,true,true,true,true,true,true,true,true,true,true,true,true,true,true,true,true,true,true,true,true,true,false,false,false,false,false,false,false,false,false,false,false,false,false,false,false,false,false,false,false,false,false,false] rfl rfl (take_ofW HT_.out HW_.out (by kernel_rfl)) (fun _ _ _ h => h) (Or.inl ⟨by rfl,?_⟩) hHeld ?_ ?_
            rotate_left
            ·rintro w' ⟨s0,s1,s2,s3,s4,s5⟩
             go_simp
             with_reducible rfl
            rotate_left
            ·simp only [Act.put,sA,sZ,sS,i64_w,i32_w]
             rfl
            refine pure_ (i:=44) (N:=some 66) (v:=?_) (a':=?_) #[true,true,true,true,true,true,true,true,true,true,true,true,true,true,true,true,true,true,true,true,true,true,true,true,true,true,true,true,true,true,true,true,true,true,true,true,true,true,true,true,true,true,true,true,true,false,false,false,false,false,false,false,false,false,false,false,false,false,false,false,false,false,false,false,false,false] rfl rfl (any_of HT_.out (by kernel_rfl)) (fun _ _ _ h => h) (Or.inl ⟨by rfl,?_⟩) ?_ ?_
            rotate_left
            ·intro w'
             go_simp
             with_reducible rfl
            rotate_left
            ·simp only [Act.put,sA,sZ,sS,i64_w,i32_w]
             rfl
            refine pure_ (i:=45) (N:=some 67) (v:=?_) (a':=?_) #[true,true,true,true,true,true,true,true,true,true,true,true,true,true,true,true,true,true,true,true,true,true,true,true,true,true,true,true,true,true,true,true,true,true,true,true,true,true,true,true,true,true,true,true,true,true,false,false,false,false,false,false,false,false,false,false,false,false,false,false,false,false,false,false,false,false] rfl rfl (any_of HT_.out (by kernel_rfl)) (fun _ _ _ h => h) (Or.inl ⟨by rfl,?_⟩) ?_ ?_
            rotate_left
            ·intro w'
             go_simp
             with_reducible rfl
            rotate_left
            ·simp only [Act.put,sA,sZ,sS,i64_w,i32_w]
             rfl
            refine pure_ (i:=46) (N:=some 68) (v:=?_) (a':=?_) #[true,true,true,true,true,true,true,true,true,true,true,true,true,true,true,true,true,true,true,true,true,true,true,true,true,true,true,true,true,true,true,true,true,true,true,true,true,true,true,true,true,true,true,true,true,true,true,false,false,false,false,false,false,false,false,false,false,false,false,false,false,false,false,false,false,false] rfl rfl (any_of HT_.out (by kernel_rfl)) (fun _ _ _ h => h) (Or.inl ⟨by rfl,?_⟩) ?_ ?_
            rotate_left
            ·intro w'
             go_simp
             with_reducible rfl
            rotate_left
            ·simp only [Act.put,sA,sZ,sS,i64_w,i32_w]
             rfl
            refine pure_ (i:=47) (N:=some 69) (v:=?_) (a':=?_) #[true,true,true,true,true,true,true,true,true,true,true,true,true,true,true,true,true,true,true,true,true,true,true,true,true,true,true,true,true,true,true,true,true,true,true,true,true,true,true,true,true,true,true,true,true,true,true,true,false,false,false,false,false,false,false,false,false,false,false,false,false,false,false,false,false,false] rfl rfl (any_of HT_.out (by kernel_rfl)) (fun _ _ _ h => h) (Or.inl ⟨by rfl,?_⟩) ?_ ?_
            rotate_left
            ·intro w'
             go_simp
             with_reducible rfl
            rotate_left
            ·simp only [Act.put,sA,sZ,sS,i64_w,i32_w]
             rfl
            refine pure_ (i:=48) (N:=some 70) (v:=?_) (a':=?_) #[true,true,true,true,true,true,true,true,true,true,true,true,true,true,true,true,true,true,true,true,true,true,true,true,true,true,true,true,true,true,true,true,true,true,true,true,true,true,true,true,true,true,true,true,true,true,true,true,true,false,false,false,false,false,false,false,false,false,false,false,false,false,false,false,false,false] rfl rfl (any_of HT_.out (by kernel_rfl)) (fun _ _ _ h => h) (Or.inl ⟨by rfl,?_⟩) ?_ ?_
            rotate_left
            ·intro w'
             go_simp
             with_reducible rfl
            rotate_left
            ·simp only [Act.put,sA,sZ,sS,i64_w,i32_w]
             rfl
            refine one_ (i:=49) (N:=some 71) #[true,true,true,true,true,true,true,true,true,true,true,true,true,true,true,true,true,true,true,true,true,true,true,true,true,true,true,true,true,true,true,true,true,true,true,true,true,true,true,true,true,true,true,true,true,true,true,true,true,true,false,false,false,false,false,false,false,false,false,false,false,false,false,false,false,false] rfl rfl (one_of HT_.out (by kernel_rfl)) (by decide) (fun K hK => ?_)
            refine Kd.R_lit_step (Kd.int .u8) _ 5 ?hg (N:=71) ?hd (xs:=([7] : List Int)) (inner:=[.int .u8 7]) (ok:=fun _ => True) (okp:=fun _ => True) ?hr ?hp (fun _ hk => hk) trivial (Below.refl _ _) (Nat.le_refl _) (by simp) ?_;(case hd => rfl);(case hg => rfl);(case hr => first|(go_simp;done)|(go_simp;rfl));(case hp => exact (Reps.one (show Kd.M (Kd.int .u8) _ _ _ 7 [.int .u8 7] from rfl) (Reps.none _ _)))
            intro v235 w74 ho75 hb hg_ hnew_
            clear hg_ hnew_
            (first|rw [← Ny234.out] at ho75|(simp only [Int.reduceToNat] at ho75;rw [← Ny234.out] at ho75))
            have n0_:=Aside0.mk (Kd.R_elder' (by (with_reducible repeat (first|apply zA|apply zN|apply zD));exact HO178.out) (Kd.R_base ho75) hb)
            have n1_:=Aside0.mk (Kd.R_elder' (by (with_reducible repeat (first|apply zA|apply zN|apply zD));exact HO184.out) (Kd.R_base ho75) hb)
            have n2_:=Aside0.mk (Kd.R_elder' (by (with_reducible repeat (first|apply zA|apply zN|apply zD));exact HO189.out) (Kd.R_base ho75) hb)
            have n3_:=Aside0.mk (Kd.R_elder' (by (with_reducible repeat (first|apply zA|apply zN|apply zD));exact HO195.out) (Kd.R_base ho75) hb)
            have n4_:=Aside0.mk (Kd.R_elder' (by (with_reducible repeat (first|apply zA|apply zN|apply zD));exact HO219.out) (Kd.R_base ho75) hb)
            have n5_:=Aside0.mk (Kd.R_elder' (by (with_reducible repeat (first|apply zA|apply zN|apply zD));exact HO222.out) (Kd.R_base ho75) hb)
            have n6_:=Aside0.mk (Kd.R_elder' (by (with_reducible repeat (first|apply zA|apply zN|apply zD));exact HO229.out) (Kd.R_base ho75) hb)
            have n7_:=Aside0.mk (Kd.R_elder' (by (with_reducible repeat (first|apply zA|apply zN|apply zD));exact HO232.out) (Kd.R_base ho75) hb)
            have n8_:=Aside0.mk (Kd.R_lower (Kd.R_new' (Kd.R_new' (Kd.R_new' (Kd.R_new' (Kd.R_new' (Kd.R_new' (Kd.R_new' (Kd.R_new' ho75 (Kd.R_lt (by (with_reducible repeat (first|apply zA|apply zN|apply zD));exact HO178.out))) (Kd.R_lt (by (with_reducible repeat (first|apply zA|apply zN|apply zD));exact HO184.out))) (Kd.R_lt (by (with_reducible repeat (first|apply zA|apply zN|apply zD));exact HO189.out))) (Kd.R_lt (by (with_reducible repeat (first|apply zA|apply zN|apply zD));exact HO195.out))) (Kd.R_lt (by (with_reducible repeat (first|apply zA|apply zN|apply zD));exact HO219.out))) (Kd.R_lt (by (with_reducible repeat (first|apply zA|apply zN|apply zD));exact HO222.out))) (Kd.R_lt (by (with_reducible repeat (first|apply zA|apply zN|apply zD));exact HO229.out))) (Kd.R_lt (by (with_reducible repeat (first|apply zA|apply zN|apply zD));exact HO232.out))) (below_size (by repeat (first|(with_reducible first|exact HB.out|apply below_alloc|apply pw_below_drewN|apply below_drew1|refine below_set ?_ GE175.out|refine below_set ?_ GE186.out|refine below_set ?_ GE197.out)|exact HB.out))))
            have n9_:=Aside0.mk (blk_below (g:=gb175) (o:=.cells #[.string t172,.int .u64 t173,.int .u8 t174] 39 (0,0)) (by (with_reducible repeat (first|refine bN ?_ _|refine bD ?_|refine bA ?_ _));exact BK175.out) hb)
            have n10_:=Aside0.mk (blk_below (g:=gb186) (o:=.cells #[.string t179,.int .u64 t180,.int .u8 t181] 39 (0,0)) (by (with_reducible repeat (first|refine bN ?_ _|refine bD ?_|refine bA ?_ _));exact BK186.out) hb)
            have n11_:=Aside0.mk (blk_below (g:=gb197) (o:=.cells #[.string t190,.int .u64 t191,.int .u8 t192] 39 (0,0)) (by (with_reducible repeat (first|refine bN ?_ _|refine bD ?_|refine bA ?_ _));exact BK197.out) hb)
            have n12_:=Aside0.mk (below_step (by repeat (first|(with_reducible first|exact HB.out|apply below_alloc|apply pw_below_drewN|apply below_drew1|refine below_set ?_ GE175.out|refine below_set ?_ GE186.out|refine below_set ?_ GE197.out)|exact HB.out)) hb)
            clear HO178
            clear HO184
            clear HO189
            clear HO195
            clear HO219
            clear HO222
            clear HO229
            clear HO232
            clear BK175
            clear BK186
            clear BK197
            clear HB
            have HO178:=n0_
            have HO184:=n1_
            have HO189:=n2_
            have HO195:=n3_
            have HO219:=n4_
            have HO222:=n5_
            have HO229:=n6_
            have HO232:=n7_
            have HO236:=n8_
            have BK175:=n9_
            have BK186:=n10_
            have BK197:=n11_
            have HB:=n12_
            clear n0_ n1_ n2_ n3_ n4_ n5_ n6_ n7_ n8_ n9_ n10_ n11_ n12_
            clear hb ho75
            obtain ⟨Ao76,co76,eo76⟩:=Kd.R_slice HO236.out
            (first|subst eo76|(injection eo76 with f1_ f2_ f3_;have f4_:=f1_.symm;have f5_:=f3_.symm;clear f1_ f2_ f3_;subst f4_;subst f5_))
            refine hK.out _ _ ⟨(blk_cell BK175.out 0).trans rfl,(blk_cell BK175.out 1).trans rfl,(blk_cell BK175.out 2).trans rfl,(blk_cell BK186.out 0).trans rfl,(blk_cell BK186.out 1).trans rfl,(blk_cell BK186.out 2).trans rfl⟩ (fun hHeld => ?_)
            clear hK K
            refine norm_ (a':=?_) ?_ ?_
            rotate_left
            ·show Act.put _ (some 71) _ = _
             simp only [Act.put,sA,sZ,sS,i64_w,i32_w]
             rfl
            refine one_ (i:=50) (N:=some 72) #[true,true,true,true,true,true,true,true,true,true,true,true,true,true,true,true,true,true,true,true,true,true,true,true,true,true,true,true,true,true,true,true,true,true,true,true,true,true,true,true,true,true,true,true,true,true,true,true,true,true,true,false,false,false,false,false,false,false,false,false,false,false,false,false,false,false] rfl rfl (one_of HT_.out (by kernel_rfl)) (by decide) (fun K hK => ?_)
            refine goesT1_ 69 (by rfl) Try.func30 (by kernel_rfl) rfl #[.slice Ao50 t182.length co50,.slice Ao76 y234.length co76] (by rfl) rfl rfl (by (try simp only [List.map_toArray,List.map_cons,List.map_nil]);first|done|rfl|(simp only [List.length_drop,List.length_take];rfl)) ?_
            with_reducible refine (ratlinelaw02_Same.calls _ _ t182 _ _ y234 true _ ?side1 ?side2 ?side3 ?side4 A26.out).mono ?_
            (case side1 => repeat (first|exact (Kd.R_reads' HO184.out).2.2|(with_reducible refine Kd.C_alloc ?_ _)|(with_reducible refine Kd.C_drewN ?_ _)|(with_reducible refine Kd.C_drew ?_)))
            (case side2 => exact (Kd.R_reads' HO184.out).2.1)
            (case side3 => repeat (first|exact (Kd.R_reads' HO236.out).2.2|(with_reducible refine Kd.C_alloc ?_ _)|(with_reducible refine Kd.C_drewN ?_ _)|(with_reducible refine Kd.C_drew ?_)))
            (case side4 => exact (Kd.R_reads' HO236.out).2.1)
            rintro e w' ⟨rfl,⟨nd,rfl⟩⟩
            refine ⟨_,rfl,?_⟩
            refine hK.out _ _ ⟨(blk_cell BK175.out 0).trans rfl,(blk_cell BK175.out 1).trans rfl,(blk_cell BK175.out 2).trans rfl,(blk_cell BK186.out 0).trans rfl,(blk_cell BK186.out 1).trans rfl,(blk_cell BK186.out 2).trans rfl⟩ (fun hHeld => ?_)
            clear hK K
            refine norm_ (a':=?_) ?_ ?_
            rotate_left
            ·show Act.put _ (some 72) _ = _
             simp only [Act.put,sA,sZ,sS,i64_w,i32_w]
             rfl
            refine pure_ (i:=51) (N:=some 73) (v:=?_) (a':=?_) #[true,true,true,true,true,true,true,true,true,true,true,true,true,true,true,true,true,true,true,true,true,true,true,true,true,true,true,true,true,true,true,true,true,true,true,true,true,true,true,true,true,true,true,true,true,true,true,true,true,true,true,true,false,false,false,false,false,false,false,false,false,false,false,false,false,false] rfl rfl (any_of HT_.out (by kernel_rfl)) (fun _ _ _ h => h) (Or.inl ⟨by rfl,?_⟩) ?_ ?_
            rotate_left
            ·intro w'
             go_simp
             with_reducible rfl
            rotate_left
            ·simp only [Act.put,sA,sZ,sS,i64_w,i32_w]
             rfl
            refine pure_ (i:=52) (N:=some 74) (v:=?_) (a':=?_) #[true,true,true,true,true,true,true,true,true,true,true,true,true,true,true,true,true,true,true,true,true,true,true,true,true,true,true,true,true,true,true,true,true,true,true,true,true,true,true,true,true,true,true,true,true,true,true,true,true,true,true,true,true,false,false,false,false,false,false,false,false,false,false,false,false,false] rfl rfl (any_of HT_.out (by kernel_rfl)) (fun _ _ _ h => h) (Or.inl ⟨by rfl,?_⟩) ?_ ?_
            rotate_left
            ·intro w'
             go_simp
             with_reducible rfl
            rotate_left
            ·simp only [Act.put,sA,sZ,sS,i64_w,i32_w]
             rfl
            refine pure_ (i:=53) (N:=some 75) (v:=?_) (a':=?_) #[true,true,true,true,true,true,true,true,true,true,true,true,true,true,true,true,true,true,true,true,true,true,true,true,true,true,true,true,true,true,true,true,true,true,true,true,true,true,true,true,true,true,true,true,true,true,true,true,true,true,true,true,true,true,false,false,false,false,false,false,false,false,false,false,false,false] rfl rfl (any_of HT_.out (by kernel_rfl)) (fun _ _ _ h => h) (Or.inl ⟨by rfl,?_⟩) ?_ ?_
            rotate_left
            ·intro w'
             go_simp
             with_reducible rfl
            rotate_left
            ·simp only [Act.put,sA,sZ,sS,i64_w,i32_w]
             rfl
            refine pure_ (i:=54) (N:=some 76) (v:=?_) (a':=?_) #[true,true,true,true,true,true,true,true,true,true,true,true,true,true,true,true,true,true,true,true,true,true,true,true,true,true,true,true,true,true,true,true,true,true,true,true,true,true,true,true,true,true,true,true,true,true,true,true,true,true,true,true,true,true,true,false,false,false,false,false,false,false,false,false,false,false] rfl rfl (any_of HT_.out (by kernel_rfl)) (fun _ _ _ h => h) (Or.inl ⟨by rfl,?_⟩) ?_ ?_
            rotate_left
            ·intro w'
             go_simp
             with_reducible rfl
            rotate_left
            ·simp only [Act.put,sA,sZ,sS,i64_w,i32_w]
             rfl
            refine pure_ (i:=55) (N:=some 77) (v:=?_) (a':=?_) #[true,true,true,true,true,true,true,true,true,true,true,true,true,true,true,true,true,true,true,true,true,true,true,true,true,true,true,true,true,true,true,true,true,true,true,true,true,true,true,true,true,true,true,true,true,true,true,true,true,true,true,true,true,true,true,true,false,false,false,false,false,false,false,false,false,false] rfl rfl (any_of HT_.out (by kernel_rfl)) (fun _ _ _ h => h) (Or.inl ⟨by rfl,?_⟩) ?_ ?_
            rotate_left
            ·intro w'
             go_simp
             with_reducible rfl
            rotate_left
            ·simp only [Act.put,sA,sZ,sS,i64_w,i32_w]
             rfl
            refine pure_ (i:=56) (N:=some 78) (v:=?_) (a':=?_) #[true,true,true,true,true,true,true,true,true,true,true,true,true,true,true,true,true,true,true,true,true,true,true,true,true,true,true,true,true,true,true,true,true,true,true,true,true,true,true,true,true,true,true,true,true,true,true,true,true,true,true,true,true,true,true,true,true,false,false,false,false,false,false,false,false,false] rfl rfl (any_of HT_.out (by kernel_rfl)) (fun _ _ _ h => h) (Or.inl ⟨by rfl,?_⟩) ?_ ?_
            rotate_left
            ·intro w'
             go_simp
             with_reducible rfl
            rotate_left
            ·simp only [Act.put,sA,sZ,sS,i64_w,i32_w]
             rfl
            refine pure_ (i:=57) (N:=some 79) (v:=?_) (a':=?_) #[true,true,true,true,true,true,true,true,true,true,true,true,true,true,true,true,true,true,true,true,true,true,true,true,true,true,true,true,true,true,true,true,true,true,true,true,true,true,true,true,true,true,true,true,true,true,true,true,true,true,true,true,true,true,true,true,true,true,false,false,false,false,false,false,false,false] rfl rfl (any_of HT_.out (by kernel_rfl)) (fun _ _ _ h => h) (Or.inl ⟨by rfl,?_⟩) ?_ ?_
            rotate_left
            ·intro w'
             go_simp
             with_reducible rfl
            rotate_left
            ·simp only [Act.put,sA,sZ,sS,i64_w,i32_w]
             rfl
            refine pure_ (i:=58) (N:=some 80) (v:=?_) (a':=?_) #[true,true,true,true,true,true,true,true,true,true,true,true,true,true,true,true,true,true,true,true,true,true,true,true,true,true,true,true,true,true,true,true,true,true,true,true,true,true,true,true,true,true,true,true,true,true,true,true,true,true,true,true,true,true,true,true,true,true,true,false,false,false,false,false,false,false] rfl rfl (any_of HT_.out (by kernel_rfl)) (fun _ _ _ h => h) (Or.inl ⟨by rfl,?_⟩) ?_ ?_
            rotate_left
            ·intro w'
             go_simp
             with_reducible rfl
            rotate_left
            ·simp only [Act.put,sA,sZ,sS,i64_w,i32_w]
             rfl
            refine pure_ (i:=59) (N:=some 81) (v:=?_) (a':=?_) #[true,true,true,true,true,true,true,true,true,true,true,true,true,true,true,true,true,true,true,true,true,true,true,true,true,true,true,true,true,true,true,true,true,true,true,true,true,true,true,true,true,true,true,true,true,true,true,true,true,true,true,true,true,true,true,true,true,true,true,true,false,false,false,false,false,false] rfl rfl (any_of HT_.out (by kernel_rfl)) (fun _ _ _ h => h) (Or.inl ⟨by rfl,?_⟩) ?_ ?_
            rotate_left
            ·intro w'
             go_simp
             with_reducible rfl
            rotate_left
            ·simp only [Act.put,sA,sZ,sS,i64_w,i32_w]
             rfl
            refine one_ (i:=60) (N:=some 82) #[true,true,true,true,true,true,true,true,true,true,true,true,true,true,true,true,true,true,true,true,true,true,true,true,true,true,true,true,true,true,true,true,true,true,true,true,true,true,true,true,true,true,true,true,true,true,true,true,true,true,true,true,true,true,true,true,true,true,true,true,true,false,false,false,false,false] rfl rfl (one_of HT_.out (by kernel_rfl)) (by decide) (fun K hK => ?_)
            refine goes_ Try.func33 (by kernel_rfl) rfl #[.string (⟨#[97]⟩ : ByteArray),.int .u64 5,.int .u8 0] (by rfl) rfl rfl (by (try simp only [List.map_toArray,List.map_cons,List.map_nil]);first|done|rfl|(simp only [List.length_drop,List.length_take];rfl)) ?_
            with_reducible refine (ratlinelaw03_one.calls (⟨#[97]⟩ : ByteArray) 5 0 t238 t239 t240 _ A30.out).mono ?_
            rintro e w77 ⟨rfl,hb⟩
            refine ⟨_,rfl,?_⟩
            have n0_:=Aside0.mk (Kd.R_below (by (with_reducible repeat (first|apply zA|apply zN|apply zD));exact HO178.out) hb)
            have n1_:=Aside0.mk (Kd.R_below (by (with_reducible repeat (first|apply zA|apply zN|apply zD));exact HO184.out) hb)
            have n2_:=Aside0.mk (Kd.R_below (by (with_reducible repeat (first|apply zA|apply zN|apply zD));exact HO189.out) hb)
            have n3_:=Aside0.mk (Kd.R_below (by (with_reducible repeat (first|apply zA|apply zN|apply zD));exact HO195.out) hb)
            have n4_:=Aside0.mk (Kd.R_below (by (with_reducible repeat (first|apply zA|apply zN|apply zD));exact HO219.out) hb)
            have n5_:=Aside0.mk (Kd.R_below (by (with_reducible repeat (first|apply zA|apply zN|apply zD));exact HO222.out) hb)
            have n6_:=Aside0.mk (Kd.R_below (by (with_reducible repeat (first|apply zA|apply zN|apply zD));exact HO229.out) hb)
            have n7_:=Aside0.mk (Kd.R_below (by (with_reducible repeat (first|apply zA|apply zN|apply zD));exact HO232.out) hb)
            have n8_:=Aside0.mk (Kd.R_below (by (with_reducible repeat (first|apply zA|apply zN|apply zD));exact HO236.out) hb)
            have n9_:=Aside0.mk (blk_below (g:=gb175) (o:=.cells #[.string t172,.int .u64 t173,.int .u8 t174] 39 (0,0)) (by (with_reducible repeat (first|refine bN ?_ _|refine bD ?_|refine bA ?_ _));exact BK175.out) hb)
            have n10_:=Aside0.mk (blk_below (g:=gb186) (o:=.cells #[.string t179,.int .u64 t180,.int .u8 t181] 39 (0,0)) (by (with_reducible repeat (first|refine bN ?_ _|refine bD ?_|refine bA ?_ _));exact BK186.out) hb)
            have n11_:=Aside0.mk (blk_below (g:=gb197) (o:=.cells #[.string t190,.int .u64 t191,.int .u8 t192] 39 (0,0)) (by (with_reducible repeat (first|refine bN ?_ _|refine bD ?_|refine bA ?_ _));exact BK197.out) hb)
            have n12_:=Aside0.mk (below_step (by repeat (first|(with_reducible first|exact HB.out|apply below_alloc|apply pw_below_drewN|apply below_drew1|refine below_set ?_ GE175.out|refine below_set ?_ GE186.out|refine below_set ?_ GE197.out)|exact HB.out)) hb)
            clear HO178
            clear HO184
            clear HO189
            clear HO195
            clear HO219
            clear HO222
            clear HO229
            clear HO232
            clear HO236
            clear BK175
            clear BK186
            clear BK197
            clear HB
            have HO178:=n0_
            have HO184:=n1_
            have HO189:=n2_
            have HO195:=n3_
            have HO219:=n4_
            have HO222:=n5_
            have HO229:=n6_
            have HO232:=n7_
            have HO236:=n8_
            have BK175:=n9_
            have BK186:=n10_
            have BK197:=n11_
            have HB:=n12_
            clear n0_ n1_ n2_ n3_ n4_ n5_ n6_ n7_ n8_ n9_ n10_ n11_ n12_
            (try clear hb)
            (try clear hb2)
            (try clear hk)
            (try clear hi)
            refine hK.out _ _ ⟨(blk_cell BK175.out 0).trans rfl,(blk_cell BK175.out 1).trans rfl,(blk_cell BK175.out 2).trans rfl,(blk_cell BK186.out 0).trans rfl,(blk_cell BK186.out 1).trans rfl,(blk_cell BK186.out 2).trans rfl⟩ (fun hHeld => ?_)
            clear hK K
            refine norm_ (a':=?_) ?_ ?_
            rotate_left
            ·show Act.put _ (some 82) _ = _
             simp only [Act.put,sA,sZ,sS,i64_w,i32_w]
             rfl
            refine pure_ (i:=61) (N:=some 83) (v:=?_) (a':=?_) #[true,true,true,true,true,true,true,true,true,true,true,true,true,true,true,true,true,true,true,true,true,true,true,true,true,true,true,true,true,true,true,true,true,true,true,true,true,true,true,true,true,true,true,true,true,true,true,true,true,true,true,true,true,true,true,true,true,true,true,true,true,true,false,false,false,false] rfl rfl (any_of HT_.out (by kernel_rfl)) (fun _ _ _ h => h) (Or.inl ⟨by rfl,?_⟩) ?_ ?_
            rotate_left
            ·intro w'
             go_simp
             with_reducible rfl
            rotate_left
            ·simp only [Act.put,sA,sZ,sS,i64_w,i32_w]
             rfl
            refine one_ (i:=62) (N:=some 84) #[true,true,true,true,true,true,true,true,true,true,true,true,true,true,true,true,true,true,true,true,true,true,true,true,true,true,true,true,true,true,true,true,true,true,true,true,true,true,true,true,true,true,true,true,true,true,true,true,true,true,true,true,true,true,true,true,true,true,true,true,true,true,true,false,false,false] rfl rfl (one_of HT_.out (by kernel_rfl)) (by decide) (fun K hK => ?_)
            refine goes_ Try.func34 (by kernel_rfl) rfl #[.agg #[.string t238,.int .u64 t239,.int .u8 t240,.string (⟨#[120]⟩ : ByteArray)]] (by rfl) rfl rfl (by (try simp only [List.map_toArray,List.map_cons,List.map_nil]);first|done|rfl|(simp only [List.length_drop,List.length_take];rfl)) ?_
            with_reducible refine (ikey_Entry.calls t238 t239 t240 (⟨#[120]⟩ : ByteArray) t241 _ A31.out).mono ?_
            rintro e w78 ⟨rfl,hb⟩
            refine ⟨_,rfl,?_⟩
            have n0_:=Aside0.mk (Kd.R_below (by (with_reducible repeat (first|apply zA|apply zN|apply zD));exact HO178.out) hb)
            have n1_:=Aside0.mk (Kd.R_below (by (with_reducible repeat (first|apply zA|apply zN|apply zD));exact HO184.out) hb)
            have n2_:=Aside0.mk (Kd.R_below (by (with_reducible repeat (first|apply zA|apply zN|apply zD));exact HO189.out) hb)
            have n3_:=Aside0.mk (Kd.R_below (by (with_reducible repeat (first|apply zA|apply zN|apply zD));exact HO195.out) hb)
            have n4_:=Aside0.mk (Kd.R_below (by (with_reducible repeat (first|apply zA|apply zN|apply zD));exact HO219.out) hb)
            have n5_:=Aside0.mk (Kd.R_below (by (with_reducible repeat (first|apply zA|apply zN|apply zD));exact HO222.out) hb)
            have n6_:=Aside0.mk (Kd.R_below (by (with_reducible repeat (first|apply zA|apply zN|apply zD));exact HO229.out) hb)
            have n7_:=Aside0.mk (Kd.R_below (by (with_reducible repeat (first|apply zA|apply zN|apply zD));exact HO232.out) hb)
            have n8_:=Aside0.mk (Kd.R_below (by (with_reducible repeat (first|apply zA|apply zN|apply zD));exact HO236.out) hb)
            have n9_:=Aside0.mk (blk_below (g:=gb175) (o:=.cells #[.string t172,.int .u64 t173,.int .u8 t174] 39 (0,0)) (by (with_reducible repeat (first|refine bN ?_ _|refine bD ?_|refine bA ?_ _));exact BK175.out) hb)
            have n10_:=Aside0.mk (blk_below (g:=gb186) (o:=.cells #[.string t179,.int .u64 t180,.int .u8 t181] 39 (0,0)) (by (with_reducible repeat (first|refine bN ?_ _|refine bD ?_|refine bA ?_ _));exact BK186.out) hb)
            have n11_:=Aside0.mk (blk_below (g:=gb197) (o:=.cells #[.string t190,.int .u64 t191,.int .u8 t192] 39 (0,0)) (by (with_reducible repeat (first|refine bN ?_ _|refine bD ?_|refine bA ?_ _));exact BK197.out) hb)
            have n12_:=Aside0.mk (below_step (by repeat (first|(with_reducible first|exact HB.out|apply below_alloc|apply pw_below_drewN|apply below_drew1|refine below_set ?_ GE175.out|refine below_set ?_ GE186.out|refine below_set ?_ GE197.out)|exact HB.out)) hb)
            clear HO178
            clear HO184
            clear HO189
            clear HO195
            clear HO219
            clear HO222
            clear HO229
            clear HO232
            clear HO236
            clear BK175
            clear BK186
            clear BK197
            clear HB
            have HO178:=n0_
            have HO184:=n1_
            have HO189:=n2_
            have HO195:=n3_
            have HO219:=n4_
            have HO222:=n5_
            have HO229:=n6_
            have HO232:=n7_
            have HO236:=n8_
            have BK175:=n9_
            have BK186:=n10_
            have BK197:=n11_
            have HB:=n12_
            clear n0_ n1_ n2_ n3_ n4_ n5_ n6_ n7_ n8_ n9_ n10_ n11_ n12_
            (try clear hb)
            (try clear hb2)
            (try clear hk)
            (try clear hi)
            refine hK.out _ _ ⟨(blk_cell BK175.out 0).trans rfl,(blk_cell BK175.out 1).trans rfl,(blk_cell BK175.out 2).trans rfl,(blk_cell BK186.out 0).trans rfl,(blk_cell BK186.out 1).trans rfl,(blk_cell BK186.out 2).trans rfl⟩ (fun hHeld => ?_)
            clear hK K
            refine norm_ (a':=?_) ?_ ?_
            rotate_left
            ·show Act.put _ (some 84) _ = _
             simp only [Act.put,sA,sZ,sS,i64_w,i32_w]
             rfl
            refine pure_ (i:=63) (N:=some 85) (v:=?_) (a':=?_) #[true,true,true,true,true,true,true,true,true,true,true,true,true,true,true,true,true,true,true,true,true,true,true,true,true,true,true,true,true,true,true,true,true,true,true,true,true,true,true,true,true,true,true,true,true,true,true,true,true,true,true,true,true,true,true,true,true,true,true,true,true,true,true,true,false,false] rfl rfl (any_of HT_.out (by kernel_rfl)) (fun _ _ _ h => h) (Or.inl ⟨by rfl,?_⟩) ?_ ?_
            rotate_left
            ·intro w'
             go_simp
             with_reducible rfl
            rotate_left
            ·simp only [Act.put,sA,sZ,sS,i64_w,i32_w]
             rfl
            refine pure_ (i:=64) (N:=some 86) (v:=?_) (a':=?_) #[true,true,true,true,true,true,true,true,true,true,true,true,true,true,true,true,true,true,true,true,true,true,true,true,true,true,true,true,true,true,true,true,true,true,true,true,true,true,true,true,true,true,true,true,true,true,true,true,true,true,true,true,true,true,true,true,true,true,true,true,true,true,true,true,true,false] rfl rfl (any_of HT_.out (by kernel_rfl)) (fun _ _ _ h => h) (Or.inl ⟨by rfl,?_⟩) ?_ ?_
            rotate_left
            ·intro w'
             go_simp
             with_reducible rfl
            rotate_left
            ·simp only [Act.put,sA,sZ,sS,i64_w,i32_w]
             rfl
            refine pure_ (i:=65) (N:=some 0) (v:=?_) (a':=?_) #[true,true,true,true,true,true,true,true,true,true,true,true,true,true,true,true,true,true,true,true,true,true,true,true,true,true,true,true,true,true,true,true,true,true,true,true,true,true,true,true,true,true,true,true,true,true,true,true,true,true,true,true,true,true,true,true,true,true,true,true,true,true,true,true,true,true] rfl rfl (any_of HT_.out (by kernel_rfl)) (fun _ _ _ h => h) (Or.inl ⟨by rfl,?_⟩) ?_ ?_
            rotate_left
            ·intro w'
             go_simp
             with_reducible rfl
            rotate_left
            ·simp only [Act.put,sA,sZ,sS,i64_w,i32_w]
             rfl
            refine done_ (done_of HT_.out (by kernel_rfl)) ?_
            try go_wp2
            go_ret
            exact ⟨by first|rfl|(simp [errW_none,errW_some] <;> rfl)|(simp [*,errW_none,errW_some] <;> rfl),by repeat (first|(with_reducible first|exact HB.out|apply below_alloc|apply pw_below_drewN|apply below_drew1|refine below_set ?_ GE175.out|refine below_set ?_ GE186.out|refine below_set ?_ GE197.out)|exact HB.out)⟩
          ·replace c28:=Bool.eq_false_iff.mpr c28
           subst c28
           have H1 : (none) = some r:=by rw [if_neg (show ¬ (false = true) by decide)] at H;exact H
           clear H
           have H:=H1
           clear H1
           exact absurd H (by simp)
         ·replace c27:=Bool.eq_false_iff.mpr c27
          subst c27
          have H1 : (none) = some r:=by rw [if_neg (show ¬ (false = true) by decide)] at H;exact H
          clear H
          have H:=H1
          clear H1
          exact absurd H (by simp)
        ·rw [if_neg c25] at H
         exact absurd H (by simp)
       ·replace c24:=Bool.eq_false_iff.mpr c24
        subst c24
        have H1 : (none) = some r:=by rw [if_neg (show ¬ (false = true) by decide)] at H;exact H
        clear H
        have H:=H1
        clear H1
        exact absurd H (by simp)
      ·replace c20:=Bool.eq_false_iff.mpr c20
       subst c20
       have H1 : (none) = some r:=by rw [if_neg (show ¬ (false = true) by decide)] at H;exact H
       clear H
       have H:=H1
       clear H1
       exact absurd H (by simp)
     ·rw [if_neg c17] at H
      exact absurd H (by simp)
    ·rw [if_neg c15] at H
     exact absurd H (by simp)
   ·rw [if_neg c12] at H
    exact absurd H (by simp)
  ·rw [if_neg c9] at H
   exact absurd H (by simp)
 ·rw [if_neg c6] at H
  exact absurd H (by simp)

end Go.Proofs.Ytojemmipkpckbaa.P
