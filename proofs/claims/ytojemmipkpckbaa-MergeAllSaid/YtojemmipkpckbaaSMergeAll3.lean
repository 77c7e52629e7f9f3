/- Proved here: what the row of MergeAll needs, part 3. Conditions: those of each theorem. Written for this claim by programs; what the claim does not use is left out. -/
import Derived.Test.YtojemmipkpckbaaSMergeAll2
section
namespace Go.Proofs.Ytojemmipkpckbaa.P
open Go.RowKit Go.Proofs.YtojemmipkpckbaaG Go.Proofs.YtojemmipkpckbaaW.PrintWords Go.Proofs.YtojemmipkpckbaaW.PrintLast Go.Proofs.YtojemmipkpckbaaW.PrintMore
attribute [local go_sem] str_gtr str_geq str_leq max2_int min2_int max_two min_two max_three min_three max_four min_four   -- for this text's walks alone
set_option linter.unusedVariables false
set_option linter.unusedSimpArgs false

def ratlinelaw11_awake.f (k : Nat)  : Option (Bool):=(ratlinelaw11_entry.f (⟨#[97]⟩ : BA) 9 0 (⟨#[]⟩ : BA)).bind fun bt140 => ((ratlinelaw11_entry.f (⟨#[98]⟩ : BA) 4 1 (⟨#[121]⟩ : BA)).bind fun bt144 => ((ratlinelaw11_entry.f (⟨#[97]⟩ : BA) 5 1 (⟨#[120]⟩ : BA)).bind fun bt151 => ((ratlinelaw11_entry.f (⟨#[98]⟩ : BA) 4 1 (⟨#[122]⟩ : BA)).bind fun bt155 => ((some (([(([(⟨(⟨bt140.1,bt140.2.1,bt140.2.2.1⟩ : S39),bt140.2.2.2⟩ : S41),(⟨(⟨bt144.1,bt144.2.1,bt144.2.2.1⟩ : S39),bt144.2.2.2⟩ : S41)] : List (S41))),(([(⟨(⟨bt151.1,bt151.2.1,bt151.2.2.1⟩ : S39),bt151.2.2.2⟩ : S41),(⟨(⟨bt155.1,bt155.2.1,bt155.2.2.1⟩ : S39),bt155.2.2.2⟩ : S41)] : List (S41)))] : List (List (S41))) : List (List (S41)))).bind fun y162 => ((merge_Get.f y162 (⟨#[97]⟩ : BA) 9).bind fun bt165 => ((merge_Get.f y162 (⟨#[97]⟩ : BA) 8).bind fun bt167 => ((merge_Get.f y162 (⟨#[97]⟩ : BA) 4).bind fun bt169 => ((merge_Get.f y162 (⟨#[98]⟩ : BA) 4).bind fun bt171 => ((merge_All.f y162).bind fun t173 => (if 0 < (y162.length : Int) then (if 0 < ((rd_L5 y162 0).length : Int) then (if 1 < (y162.length : Int) then (if 0 < ((rd_L5 y162 1).length : Int) then (if 1 < ((rd_L5 y162 0).length : Int) then ((ratlinelaw04_Entries.f k t173 (([(⟨(⟨(rd_T41 (rd_L5 y162 0) 0).f0.f0,(rd_T41 (rd_L5 y162 0) 0).f0.f1,(rd_T41 (rd_L5 y162 0) 0).f0.f2⟩ : S39),(rd_T41 (rd_L5 y162 0) 0).f1⟩ : S41),(⟨(⟨(rd_T41 (rd_L5 y162 1) 0).f0.f0,(rd_T41 (rd_L5 y162 1) 0).f0.f1,(rd_T41 (rd_L5 y162 1) 0).f0.f2⟩ : S39),(rd_T41 (rd_L5 y162 1) 0).f1⟩ : S41),(⟨(⟨(rd_T41 (rd_L5 y162 0) 1).f0.f0,(rd_T41 (rd_L5 y162 0) 1).f0.f1,(rd_T41 (rd_L5 y162 0) 1).f0.f2⟩ : S39),(rd_T41 (rd_L5 y162 0) 1).f1⟩ : S41)] : List (S41)))).bind fun t185 => (if t185 = true then (if bt165.2 = true then (none) else (if bt167.2 = true then (if bt167.1.toList = ([120] : List UInt8) then (if bt169.2 = true then (none) else (if bt171.2 = true then (if bt171.1.toList = ([121] : List UInt8) then ((merge_Scan.f y162 (⟨#[97]⟩ : BA) (⟨#[99]⟩ : BA) 5 9).bind fun t186 => ((ratlinelaw11_Pairs.f k t186 (([(⟨(⟨#[97]⟩ : BA),(⟨#[120]⟩ : BA)⟩ : S37),(⟨(⟨#[98]⟩ : BA),(⟨#[121]⟩ : BA)⟩ : S37)] : List (S37)))).bind fun t192 => (if t192 = true then ((merge_Scan.f y162 (⟨#[97]⟩ : BA) (⟨#[99]⟩ : BA) 9 9).bind fun t193 => ((ratlinelaw11_Pairs.f k t193 (([(⟨(⟨#[98]⟩ : BA),(⟨#[121]⟩ : BA)⟩ : S37)] : List (S37)))).bind fun t199 => (if t199 = true then ((merge_Scan.f y162 (⟨#[97]⟩ : BA) (⟨#[99]⟩ : BA) 5 1).bind fun t200 => ((ratlinelaw11_Pairs.f k t200 (([(⟨(⟨#[97]⟩ : BA),(⟨#[120]⟩ : BA)⟩ : S37)] : List (S37)))).bind fun t206 => (if t206 = true then ((merge_Scan.f y162 (⟨#[98]⟩ : BA) (⟨#[98]⟩ : BA) 9 9).bind fun t207 => (some ((t207.length : Int) == 0))) else (none)))) else (none)))) else (none)))) else (none)) else (none))) else (none)) else (none))) else (none))) else (none)) else (none)) else (none)) else (none)) else (none)))))))))))
def ratlinelaw11_awake.T6 : Bool × List (List Nat × List Nat):=(true,[([],[]),([0],[0]),([],[]),([2],[2]),([3],[3]),([4],[4]),([5],[5]),([],[]),([7],[7]),([8],[8]),([9],[9]),([10],[10]),([],[]),([12],[12]),([13],[13]),([14],[14]),([15],[15]),([6,11,16],[6,11,16]),([1,17,1],[1,17]),([18,18],[18]),([19],[19]),([20,19],[19,20]),([19,21],[19,21]),([22,19],[22]),([23],[23]),([23,24],[23,24]),([25,23],[25]),([26],[26]),([27,26],[26,27]),([26,28],[26,28]),([29,26],[29]),([30],[30]),([31,30],[30,31]),([30,32],[30,32]),([33,30],[33]),([34],[34]),([34,35],[34,35]),([36,34],[36]),([37],[37]),([38,37],[37,38]),([37,39],[37,39]),([40,37],[40]),([41],[41]),([42,41,41],[41,42]),([41],[41]),([41],[41]),([44,45,41],[41,44,45]),([43,46,43,41],[41,43,46]),([41,47],[41,47]),([48,47],[48]),([49],[49]),([50,49,49],[49,50]),([49],[49]),([52,49],[49,52]),([51,53,51,49],[49,51,53]),([49,54],[49,54]),([55,54],[55]),([56],[56]),([57,56,56],[56,57]),([56],[56]),([59,56],[56,59]),([58,60,58,56],[56,58,60]),([56,61],[56,61]),([62,61],[62]),([63],[63]),([64,63,63],[63,64]),([65,63],[63,65]),([66,63],[63,66]),([63,67],[63,67]),([68,65,0,1,2,3,4,5,6,7,8,9,10,11,12,13,14,15,16,17,18,19,20,21,22,23,24,25,26,27,28,29,30,31,32,33,34,35,36,37,38,39,40,41,42,43,44,45,46,47,48,49,50,51,52,53,54,55,56,57,58,59,60,61,62,63,64,65,66,67,68],[68])])
def ratlinelaw11_awake.B6 : List Nat:=[0,1,0,4,12,28,60,0,128,384,896,1920,0,4096,12288,28672,61440,131068,262143,524287,1048575,2097151,4194303,8388607,16777215,33554431,67108863,134217727,268435455,536870911,1073741823,2147483647,4294967295,8589934591,17179869183,34359738367,68719476735,137438953471,274877906943,549755813887,1099511627775,2199023255551,4398046511103,8796093022207,4398046511103,4398046511103,57174604644351,140737488355327,281474976710655,562949953421311,1125899906842623,2251799813685247,1125899906842623,5629499534213119,18014398509481983,36028797018963967,72057594037927935,144115188075855871,288230376151711743,144115188075855871,720575940379279359,2305843009213693951,4611686018427387903,9223372036854775807,18446744073709551615,36893488147419103231,73786976294838206463,147573952589676412927,295147905179352825855,590295810358705651711]
theorem ratlinelaw11_awake.tab6 : rtab .any (opsOf Try.f15 6) = ratlinelaw11_awake.T6:=by kernel_rfl
theorem ratlinelaw11_awake.bits6 : waitsOk ratlinelaw11_awake.T6.2 ratlinelaw11_awake.B6 = true:=by kernel_rfl
abbrev Hd0 (W_ : World) (ad176 : Addr) (ad177 : Addr) (ad179 : Addr) (c176_0 : Nat) (c178_0 : Nat) (y162 : List (List (S41))) : Prop:=W_.cell? ad176 = some (.slice (some ad177) (rd_L5 y162 0).length c176_0) ∧ W_.cell? ad177 = some (.string ((rd_T41 (rd_L5 y162 0) 0).f0.f0)) ∧ W_.cell? ⟨ad177.block,ad177.off + 1,none⟩ = some (.int .u64 ((rd_T41 (rd_L5 y162 0) 0).f0.f1)) ∧ W_.cell? ⟨ad177.block,ad177.off + 2,none⟩ = some (.int .u8 ((rd_T41 (rd_L5 y162 0) 0).f0.f2)) ∧ W_.cell? ⟨ad177.block,ad177.off + 3,none⟩ = some (.string ((rd_T41 (rd_L5 y162 0) 0).f1)) ∧ W_.cell? ⟨ad176.block,ad176.off + 1,none⟩ = some (.slice (some ad179) (rd_L5 y162 1).length c178_0) ∧ W_.cell? ad179 = some (.string ((rd_T41 (rd_L5 y162 1) 0).f0.f0)) ∧ W_.cell? ⟨ad179.block,ad179.off + 1,none⟩ = some (.int .u64 ((rd_T41 (rd_L5 y162 1) 0).f0.f1)) ∧ W_.cell? ⟨ad179.block,ad179.off + 2,none⟩ = some (.int .u8 ((rd_T41 (rd_L5 y162 1) 0).f0.f2)) ∧ W_.cell? ⟨ad179.block,ad179.off + 3,none⟩ = some (.string ((rd_T41 (rd_L5 y162 1) 0).f1)) ∧ W_.cell? ad176 = some (.slice (some ad177) (rd_L5 y162 0).length c176_0) ∧ W_.cell? ⟨ad177.block,ad177.off + 4,none⟩ = some (.string ((rd_T41 (rd_L5 y162 0) 1).f0.f0)) ∧ W_.cell? ⟨ad177.block,ad177.off + 4 + 1,none⟩ = some (.int .u64 ((rd_T41 (rd_L5 y162 0) 1).f0.f1)) ∧ W_.cell? ⟨ad177.block,ad177.off + 4 + 2,none⟩ = some (.int .u8 ((rd_T41 (rd_L5 y162 0) 1).f0.f2)) ∧ W_.cell? ⟨ad177.block,ad177.off + 4 + 3,none⟩ = some (.string ((rd_T41 (rd_L5 y162 0) 1).f1))
set_option maxHeartbeats 8000000 in
set_option maxRecDepth 100000 in
theorem ratlinelaw11_awake.calls (k : Nat)  (r : Bool) (w : World) (h : ratlinelaw11_awake.f k  = some r) :
  Calls Try.prog 15 #[] w fun e w' => e = .returned (.bool r) ∧ Below w.heap.size w w':=by
 have hu41:=Try.underlying41
 have hu37:=Try.underlying37
 have HB:=Aside0.mk (Below.refl w.heap.size w)
 have H : ((ratlinelaw11_entry.f (⟨#[97]⟩ : BA) 9 0 (⟨#[]⟩ : BA)).bind fun bt140 => ((ratlinelaw11_entry.f (⟨#[98]⟩ : BA) 4 1 (⟨#[121]⟩ : BA)).bind fun bt144 => ((ratlinelaw11_entry.f (⟨#[97]⟩ : BA) 5 1 (⟨#[120]⟩ : BA)).bind fun bt151 => ((ratlinelaw11_entry.f (⟨#[98]⟩ : BA) 4 1 (⟨#[122]⟩ : BA)).bind fun bt155 => ((some (([(([(⟨(⟨bt140.1,bt140.2.1,bt140.2.2.1⟩ : S39),bt140.2.2.2⟩ : S41),(⟨(⟨bt144.1,bt144.2.1,bt144.2.2.1⟩ : S39),bt144.2.2.2⟩ : S41)] : List (S41))),(([(⟨(⟨bt151.1,bt151.2.1,bt151.2.2.1⟩ : S39),bt151.2.2.2⟩ : S41),(⟨(⟨bt155.1,bt155.2.1,bt155.2.2.1⟩ : S39),bt155.2.2.2⟩ : S41)] : List (S41)))] : List (List (S41))) : List (List (S41)))).bind fun y162 => ((merge_Get.f y162 (⟨#[97]⟩ : BA) 9).bind fun bt165 => ((merge_Get.f y162 (⟨#[97]⟩ : BA) 8).bind fun bt167 => ((merge_Get.f y162 (⟨#[97]⟩ : BA) 4).bind fun bt169 => ((merge_Get.f y162 (⟨#[98]⟩ : BA) 4).bind fun bt171 => ((merge_All.f y162).bind fun t173 => (if 0 < (y162.length : Int) then (if 0 < ((rd_L5 y162 0).length : Int) then (if 1 < (y162.length : Int) then (if 0 < ((rd_L5 y162 1).length : Int) then (if 1 < ((rd_L5 y162 0).length : Int) then ((ratlinelaw04_Entries.f k t173 (([(⟨(⟨(rd_T41 (rd_L5 y162 0) 0).f0.f0,(rd_T41 (rd_L5 y162 0) 0).f0.f1,(rd_T41 (rd_L5 y162 0) 0).f0.f2⟩ : S39),(rd_T41 (rd_L5 y162 0) 0).f1⟩ : S41),(⟨(⟨(rd_T41 (rd_L5 y162 1) 0).f0.f0,(rd_T41 (rd_L5 y162 1) 0).f0.f1,(rd_T41 (rd_L5 y162 1) 0).f0.f2⟩ : S39),(rd_T41 (rd_L5 y162 1) 0).f1⟩ : S41),(⟨(⟨(rd_T41 (rd_L5 y162 0) 1).f0.f0,(rd_T41 (rd_L5 y162 0) 1).f0.f1,(rd_T41 (rd_L5 y162 0) 1).f0.f2⟩ : S39),(rd_T41 (rd_L5 y162 0) 1).f1⟩ : S41)] : List (S41)))).bind fun t185 => (if t185 = true then (if bt165.2 = true then (none) else (if bt167.2 = true then (if bt167.1.toList = ([120] : List UInt8) then (if bt169.2 = true then (none) else (if bt171.2 = true then (if bt171.1.toList = ([121] : List UInt8) then ((merge_Scan.f y162 (⟨#[97]⟩ : BA) (⟨#[99]⟩ : BA) 5 9).bind fun t186 => ((ratlinelaw11_Pairs.f k t186 (([(⟨(⟨#[97]⟩ : BA),(⟨#[120]⟩ : BA)⟩ : S37),(⟨(⟨#[98]⟩ : BA),(⟨#[121]⟩ : BA)⟩ : S37)] : List (S37)))).bind fun t192 => (if t192 = true then ((merge_Scan.f y162 (⟨#[97]⟩ : BA) (⟨#[99]⟩ : BA) 9 9).bind fun t193 => ((ratlinelaw11_Pairs.f k t193 (([(⟨(⟨#[98]⟩ : BA),(⟨#[121]⟩ : BA)⟩ : S37)] : List (S37)))).bind fun t199 => (if t199 = true then ((merge_Scan.f y162 (⟨#[97]⟩ : BA) (⟨#[99]⟩ : BA) 5 1).bind fun t200 => ((ratlinelaw11_Pairs.f k t200 (([(⟨(⟨#[97]⟩ : BA),(⟨#[120]⟩ : BA)⟩ : S37)] : List (S37)))).bind fun t206 => (if t206 = true then ((merge_Scan.f y162 (⟨#[98]⟩ : BA) (⟨#[98]⟩ : BA) 9 9).bind fun t207 => (some ((t207.length : Int) == 0))) else (none)))) else (none)))) else (none)))) else (none)) else (none))) else (none)) else (none))) else (none))) else (none)) else (none)) else (none)) else (none)) else (none)))))))))))) = some r:=h
 clear h
 replace H:=Option.bind_eq_some_iff.mp H
 obtain ⟨⟨t140,t141,t142,t143⟩,A10,H⟩:=H
 have A1:=Aside0.mk A10
 clear A10
 replace H:=Option.bind_eq_some_iff.mp H
 obtain ⟨⟨t144,t145,t146,t147⟩,A20,H⟩:=H
 have A2:=Aside0.mk A20
 clear A20
 obtain ⟨y148,hy148⟩ : ∃ y_ : List (S41),y_ = (([(⟨(⟨t140,t141,t142⟩ : S39),t143⟩ : S41),(⟨(⟨t144,t145,t146⟩ : S39),t147⟩ : S41)] : List (S41))):=⟨_,rfl⟩
 replace H : ((ratlinelaw11_entry.f (⟨#[97]⟩ : BA) 5 1 (⟨#[120]⟩ : BA)).bind fun bt151 => ((ratlinelaw11_entry.f (⟨#[98]⟩ : BA) 4 1 (⟨#[122]⟩ : BA)).bind fun bt155 => ((some (([y148,(([(⟨(⟨bt151.1,bt151.2.1,bt151.2.2.1⟩ : S39),bt151.2.2.2⟩ : S41),(⟨(⟨bt155.1,bt155.2.1,bt155.2.2.1⟩ : S39),bt155.2.2.2⟩ : S41)] : List (S41)))] : List (List (S41))) : List (List (S41)))).bind fun y162 => ((merge_Get.f y162 (⟨#[97]⟩ : BA) 9).bind fun bt165 => ((merge_Get.f y162 (⟨#[97]⟩ : BA) 8).bind fun bt167 => ((merge_Get.f y162 (⟨#[97]⟩ : BA) 4).bind fun bt169 => ((merge_Get.f y162 (⟨#[98]⟩ : BA) 4).bind fun bt171 => ((merge_All.f y162).bind fun t173 => (if 0 < (y162.length : Int) then (if 0 < ((rd_L5 y162 0).length : Int) then (if 1 < (y162.length : Int) then (if 0 < ((rd_L5 y162 1).length : Int) then (if 1 < ((rd_L5 y162 0).length : Int) then ((ratlinelaw04_Entries.f k t173 (([(⟨(⟨(rd_T41 (rd_L5 y162 0) 0).f0.f0,(rd_T41 (rd_L5 y162 0) 0).f0.f1,(rd_T41 (rd_L5 y162 0) 0).f0.f2⟩ : S39),(rd_T41 (rd_L5 y162 0) 0).f1⟩ : S41),(⟨(⟨(rd_T41 (rd_L5 y162 1) 0).f0.f0,(rd_T41 (rd_L5 y162 1) 0).f0.f1,(rd_T41 (rd_L5 y162 1) 0).f0.f2⟩ : S39),(rd_T41 (rd_L5 y162 1) 0).f1⟩ : S41),(⟨(⟨(rd_T41 (rd_L5 y162 0) 1).f0.f0,(rd_T41 (rd_L5 y162 0) 1).f0.f1,(rd_T41 (rd_L5 y162 0) 1).f0.f2⟩ : S39),(rd_T41 (rd_L5 y162 0) 1).f1⟩ : S41)] : List (S41)))).bind fun t185 => (if t185 = true then (if bt165.2 = true then (none) else (if bt167.2 = true then (if bt167.1.toList = ([120] : List UInt8) then (if bt169.2 = true then (none) else (if bt171.2 = true then (if bt171.1.toList = ([121] : List UInt8) then ((merge_Scan.f y162 (⟨#[97]⟩ : BA) (⟨#[99]⟩ : BA) 5 9).bind fun t186 => ((ratlinelaw11_Pairs.f k t186 (([(⟨(⟨#[97]⟩ : BA),(⟨#[120]⟩ : BA)⟩ : S37),(⟨(⟨#[98]⟩ : BA),(⟨#[121]⟩ : BA)⟩ : S37)] : List (S37)))).bind fun t192 => (if t192 = true then ((merge_Scan.f y162 (⟨#[97]⟩ : BA) (⟨#[99]⟩ : BA) 9 9).bind fun t193 => ((ratlinelaw11_Pairs.f k t193 (([(⟨(⟨#[98]⟩ : BA),(⟨#[121]⟩ : BA)⟩ : S37)] : List (S37)))).bind fun t199 => (if t199 = true then ((merge_Scan.f y162 (⟨#[97]⟩ : BA) (⟨#[99]⟩ : BA) 5 1).bind fun t200 => ((ratlinelaw11_Pairs.f k t200 (([(⟨(⟨#[97]⟩ : BA),(⟨#[120]⟩ : BA)⟩ : S37)] : List (S37)))).bind fun t206 => (if t206 = true then ((merge_Scan.f y162 (⟨#[98]⟩ : BA) (⟨#[98]⟩ : BA) 9 9).bind fun t207 => (some ((t207.length : Int) == 0))) else (none)))) else (none)))) else (none)))) else (none)) else (none))) else (none)) else (none))) else (none))) else (none)) else (none)) else (none)) else (none)) else (none)))))))))) = some r:=by first|(rw [hy148];with_reducible exact H)|(have H2_:=(Option.bind_some _ _).symm.trans H;rw [hy148];with_reducible exact H2_)|(have H2_:=(Option.bind_some _ _).symm.trans H;with_reducible exact H2_)|with_reducible exact H|(rw [hy148];exact H)|exact H
 have Ny148:=Aside0.mk hy148
 clear hy148
 replace H:=Option.bind_eq_some_iff.mp H
 obtain ⟨⟨t151,t152,t153,t154⟩,A30,H⟩:=H
 have A3:=Aside0.mk A30
 clear A30
 replace H:=Option.bind_eq_some_iff.mp H
 obtain ⟨⟨t155,t156,t157,t158⟩,A40,H⟩:=H
 have A4:=Aside0.mk A40
 clear A40
 obtain ⟨y159,hy159⟩ : ∃ y_ : List (S41),y_ = (([(⟨(⟨t151,t152,t153⟩ : S39),t154⟩ : S41),(⟨(⟨t155,t156,t157⟩ : S39),t158⟩ : S41)] : List (S41))):=⟨_,rfl⟩
 replace H : ((some (([y148,y159] : List (List (S41))) : List (List (S41)))).bind fun y162 => ((merge_Get.f y162 (⟨#[97]⟩ : BA) 9).bind fun bt165 => ((merge_Get.f y162 (⟨#[97]⟩ : BA) 8).bind fun bt167 => ((merge_Get.f y162 (⟨#[97]⟩ : BA) 4).bind fun bt169 => ((merge_Get.f y162 (⟨#[98]⟩ : BA) 4).bind fun bt171 => ((merge_All.f y162).bind fun t173 => (if 0 < (y162.length : Int) then (if 0 < ((rd_L5 y162 0).length : Int) then (if 1 < (y162.length : Int) then (if 0 < ((rd_L5 y162 1).length : Int) then (if 1 < ((rd_L5 y162 0).length : Int) then ((ratlinelaw04_Entries.f k t173 (([(⟨(⟨(rd_T41 (rd_L5 y162 0) 0).f0.f0,(rd_T41 (rd_L5 y162 0) 0).f0.f1,(rd_T41 (rd_L5 y162 0) 0).f0.f2⟩ : S39),(rd_T41 (rd_L5 y162 0) 0).f1⟩ : S41),(⟨(⟨(rd_T41 (rd_L5 y162 1) 0).f0.f0,(rd_T41 (rd_L5 y162 1) 0).f0.f1,(rd_T41 (rd_L5 y162 1) 0).f0.f2⟩ : S39),(rd_T41 (rd_L5 y162 1) 0).f1⟩ : S41),(⟨(⟨(rd_T41 (rd_L5 y162 0) 1).f0.f0,(rd_T41 (rd_L5 y162 0) 1).f0.f1,(rd_T41 (rd_L5 y162 0) 1).f0.f2⟩ : S39),(rd_T41 (rd_L5 y162 0) 1).f1⟩ : S41)] : List (S41)))).bind fun t185 => (if t185 = true then (if bt165.2 = true then (none) else (if bt167.2 = true then (if bt167.1.toList = ([120] : List UInt8) then (if bt169.2 = true then (none) else (if bt171.2 = true then (if bt171.1.toList = ([121] : List UInt8) then ((merge_Scan.f y162 (⟨#[97]⟩ : BA) (⟨#[99]⟩ : BA) 5 9).bind fun t186 => ((ratlinelaw11_Pairs.f k t186 (([(⟨(⟨#[97]⟩ : BA),(⟨#[120]⟩ : BA)⟩ : S37),(⟨(⟨#[98]⟩ : BA),(⟨#[121]⟩ : BA)⟩ : S37)] : List (S37)))).bind fun t192 => (if t192 = true then ((merge_Scan.f y162 (⟨#[97]⟩ : BA) (⟨#[99]⟩ : BA) 9 9).bind fun t193 => ((ratlinelaw11_Pairs.f k t193 (([(⟨(⟨#[98]⟩ : BA),(⟨#[121]⟩ : BA)⟩ : S37)] : List (S37)))).bind fun t199 => (if t199 = true then ((merge_Scan.f y162 (⟨#[97]⟩ : BA) (⟨#[99]⟩ : BA) 5 1).bind fun t200 => ((ratlinelaw11_Pairs.f k t200 (([(⟨(⟨#[97]⟩ : BA),(⟨#[120]⟩ : BA)⟩ : S37)] : List (S37)))).bind fun t206 => (if t206 = true then ((merge_Scan.f y162 (⟨#[98]⟩ : BA) (⟨#[98]⟩ : BA) 9 9).bind fun t207 => (some ((t207.length : Int) == 0))) else (none)))) else (none)))) else (none)))) else (none)) else (none))) else (none)) else (none))) else (none))) else (none)) else (none)) else (none)) else (none)) else (none)))))))) = some r:=by first|(rw [hy159];with_reducible exact H)|(have H2_:=(Option.bind_some _ _).symm.trans H;rw [hy159];with_reducible exact H2_)|(have H2_:=(Option.bind_some _ _).symm.trans H;with_reducible exact H2_)|with_reducible exact H|(rw [hy159];exact H)|exact H
 have Ny159:=Aside0.mk hy159
 clear hy159
 obtain ⟨y162,hy162⟩ : ∃ y_ : List (List (S41)),y_ = (([y148,y159] : List (List (S41)))):=⟨_,rfl⟩
 replace H : ((merge_Get.f y162 (⟨#[97]⟩ : BA) 9).bind fun bt165 => ((merge_Get.f y162 (⟨#[97]⟩ : BA) 8).bind fun bt167 => ((merge_Get.f y162 (⟨#[97]⟩ : BA) 4).bind fun bt169 => ((merge_Get.f y162 (⟨#[98]⟩ : BA) 4).bind fun bt171 => ((merge_All.f y162).bind fun t173 => (if 0 < (y162.length : Int) then (if 0 < ((rd_L5 y162 0).length : Int) then (if 1 < (y162.length : Int) then (if 0 < ((rd_L5 y162 1).length : Int) then (if 1 < ((rd_L5 y162 0).length : Int) then ((ratlinelaw04_Entries.f k t173 (([(⟨(⟨(rd_T41 (rd_L5 y162 0) 0).f0.f0,(rd_T41 (rd_L5 y162 0) 0).f0.f1,(rd_T41 (rd_L5 y162 0) 0).f0.f2⟩ : S39),(rd_T41 (rd_L5 y162 0) 0).f1⟩ : S41),(⟨(⟨(rd_T41 (rd_L5 y162 1) 0).f0.f0,(rd_T41 (rd_L5 y162 1) 0).f0.f1,(rd_T41 (rd_L5 y162 1) 0).f0.f2⟩ : S39),(rd_T41 (rd_L5 y162 1) 0).f1⟩ : S41),(⟨(⟨(rd_T41 (rd_L5 y162 0) 1).f0.f0,(rd_T41 (rd_L5 y162 0) 1).f0.f1,(rd_T41 (rd_L5 y162 0) 1).f0.f2⟩ : S39),(rd_T41 (rd_L5 y162 0) 1).f1⟩ : S41)] : List (S41)))).bind fun t185 => (if t185 = true then (if bt165.2 = true then (none) else (if bt167.2 = true then (if bt167.1.toList = ([120] : List UInt8) then (if bt169.2 = true then (none) else (if bt171.2 = true then (if bt171.1.toList = ([121] : List UInt8) then ((merge_Scan.f y162 (⟨#[97]⟩ : BA) (⟨#[99]⟩ : BA) 5 9).bind fun t186 => ((ratlinelaw11_Pairs.f k t186 (([(⟨(⟨#[97]⟩ : BA),(⟨#[120]⟩ : BA)⟩ : S37),(⟨(⟨#[98]⟩ : BA),(⟨#[121]⟩ : BA)⟩ : S37)] : List (S37)))).bind fun t192 => (if t192 = true then ((merge_Scan.f y162 (⟨#[97]⟩ : BA) (⟨#[99]⟩ : BA) 9 9).bind fun t193 => ((ratlinelaw11_Pairs.f k t193 (([(⟨(⟨#[98]⟩ : BA),(⟨#[121]⟩ : BA)⟩ : S37)] : List (S37)))).bind fun t199 => (if t199 = true then ((merge_Scan.f y162 (⟨#[97]⟩ : BA) (⟨#[99]⟩ : BA) 5 1).bind fun t200 => ((ratlinelaw11_Pairs.f k t200 (([(⟨(⟨#[97]⟩ : BA),(⟨#[120]⟩ : BA)⟩ : S37)] : List (S37)))).bind fun t206 => (if t206 = true then ((merge_Scan.f y162 (⟨#[98]⟩ : BA) (⟨#[98]⟩ : BA) 9 9).bind fun t207 => (some ((t207.length : Int) == 0))) else (none)))) else (none)))) else (none)))) else (none)) else (none))) else (none)) else (none))) else (none))) else (none)) else (none)) else (none)) else (none)) else (none))))))) = some r:=by first|(rw [hy162];with_reducible exact H)|(have H2_:=(Option.bind_some _ _).symm.trans H;rw [hy162];with_reducible exact H2_)|(have H2_:=(Option.bind_some _ _).symm.trans H;with_reducible exact H2_)|with_reducible exact H|(rw [hy162];exact H)|exact H
 have Ny162:=Aside0.mk hy162
 clear hy162
 replace H:=Option.bind_eq_some_iff.mp H
 obtain ⟨⟨t165,t166⟩,A50,H⟩:=H
 have A5:=Aside0.mk A50
 clear A50
 replace H:=Option.bind_eq_some_iff.mp H
 obtain ⟨⟨t167,t168⟩,A60,H⟩:=H
 have A6:=Aside0.mk A60
 clear A60
 replace H:=Option.bind_eq_some_iff.mp H
 obtain ⟨⟨t169,t170⟩,A70,H⟩:=H
 have A7:=Aside0.mk A70
 clear A70
 replace H:=Option.bind_eq_some_iff.mp H
 obtain ⟨⟨t171,t172⟩,A80,H⟩:=H
 have A8:=Aside0.mk A80
 clear A80
 replace H:=Option.bind_eq_some_iff.mp H
 obtain ⟨t173,A90,H⟩:=H
 have A9:=Aside0.mk A90
 clear A90
 by_cases c10 : 0 < (y162.length : Int)
 rotate_left
 ·rw [if_neg c10] at H
  exact absurd H (by simp)

 rw [if_pos c10] at H
 have c10b0 : decide (0 < (y162.length : Int)) = true:=decide_eq_true c10
 have c10b1 : decide (0 < y162.length) = true:=decide_eq_true (by omega)
 clear c10
 by_cases c11 : 0 < ((rd_L5 y162 0).length : Int)
 rotate_left
 ·rw [if_neg c11] at H
  exact absurd H (by simp)
 rw [if_pos c11] at H
 have c11b0 : decide (0 < ((rd_L5 y162 0).length : Int)) = true:=decide_eq_true c11
 have c11b1 : decide (0 < (rd_L5 y162 0).length) = true:=decide_eq_true (by omega)
 clear c11
 by_cases c12 : 1 < (y162.length : Int)
 rotate_left
 ·rw [if_neg c12] at H
  exact absurd H (by simp)
 rw [if_pos c12] at H
 have c12b0 : decide (1 < (y162.length : Int)) = true:=decide_eq_true c12
 have c12b1 : decide (1 < y162.length) = true:=decide_eq_true (by omega)
 clear c12
 by_cases c13 : 0 < ((rd_L5 y162 1).length : Int)
 rotate_left
 ·rw [if_neg c13] at H
  exact absurd H (by simp)
 rw [if_pos c13] at H
 have c13b0 : decide (0 < ((rd_L5 y162 1).length : Int)) = true:=decide_eq_true c13
 have c13b1 : decide (0 < (rd_L5 y162 1).length) = true:=decide_eq_true (by omega)
 clear c13
 by_cases c14 : 1 < ((rd_L5 y162 0).length : Int)
 rotate_left
 ·rw [if_neg c14] at H
  exact absurd H (by simp)
 rw [if_pos c14] at H
 have c14b0 : decide (1 < ((rd_L5 y162 0).length : Int)) = true:=decide_eq_true c14
 have c14b1 : decide (1 < (rd_L5 y162 0).length) = true:=decide_eq_true (by omega)
 clear c14
 obtain ⟨y182,hy182⟩ : ∃ y_ : List (S41),y_ = (([(⟨(⟨(rd_T41 (rd_L5 y162 0) 0).f0.f0,(rd_T41 (rd_L5 y162 0) 0).f0.f1,(rd_T41 (rd_L5 y162 0) 0).f0.f2⟩ : S39),(rd_T41 (rd_L5 y162 0) 0).f1⟩ : S41),(⟨(⟨(rd_T41 (rd_L5 y162 1) 0).f0.f0,(rd_T41 (rd_L5 y162 1) 0).f0.f1,(rd_T41 (rd_L5 y162 1) 0).f0.f2⟩ : S39),(rd_T41 (rd_L5 y162 1) 0).f1⟩ : S41),(⟨(⟨(rd_T41 (rd_L5 y162 0) 1).f0.f0,(rd_T41 (rd_L5 y162 0) 1).f0.f1,(rd_T41 (rd_L5 y162 0) 1).f0.f2⟩ : S39),(rd_T41 (rd_L5 y162 0) 1).f1⟩ : S41)] : List (S41))):=⟨_,rfl⟩
 replace H : ((ratlinelaw04_Entries.f k t173 y182).bind fun t185 => (if t185 = true then (if t166 = true then (none) else (if t168 = true then (if t167.toList = ([120] : List UInt8) then (if t170 = true then (none) else (if t172 = true then (if t171.toList = ([121] : List UInt8) then ((merge_Scan.f y162 (⟨#[97]⟩ : BA) (⟨#[99]⟩ : BA) 5 9).bind fun t186 => ((ratlinelaw11_Pairs.f k t186 (([(⟨(⟨#[97]⟩ : BA),(⟨#[120]⟩ : BA)⟩ : S37),(⟨(⟨#[98]⟩ : BA),(⟨#[121]⟩ : BA)⟩ : S37)] : List (S37)))).bind fun t192 => (if t192 = true then ((merge_Scan.f y162 (⟨#[97]⟩ : BA) (⟨#[99]⟩ : BA) 9 9).bind fun t193 => ((ratlinelaw11_Pairs.f k t193 (([(⟨(⟨#[98]⟩ : BA),(⟨#[121]⟩ : BA)⟩ : S37)] : List (S37)))).bind fun t199 => (if t199 = true then ((merge_Scan.f y162 (⟨#[97]⟩ : BA) (⟨#[99]⟩ : BA) 5 1).bind fun t200 => ((ratlinelaw11_Pairs.f k t200 (([(⟨(⟨#[97]⟩ : BA),(⟨#[120]⟩ : BA)⟩ : S37)] : List (S37)))).bind fun t206 => (if t206 = true then ((merge_Scan.f y162 (⟨#[98]⟩ : BA) (⟨#[98]⟩ : BA) 9 9).bind fun t207 => (some ((t207.length : Int) == 0))) else (none)))) else (none)))) else (none)))) else (none)) else (none))) else (none)) else (none))) else (none))) = some r:=by first|(rw [hy182];with_reducible exact H)|(have H2_:=(Option.bind_some _ _).symm.trans H;rw [hy182];with_reducible exact H2_)|(have H2_:=(Option.bind_some _ _).symm.trans H;with_reducible exact H2_)|with_reducible exact H|(rw [hy182];exact H)|exact H
 have Ny182:=Aside0.mk hy182
 clear hy182
 replace H:=Option.bind_eq_some_iff.mp H
 obtain ⟨t185,A150,H⟩:=H
 have A15:=Aside0.mk A150
 clear A150
 by_cases c16 : t185 = true
 rotate_left
 ·replace c16:=Bool.eq_false_iff.mpr c16
  subst c16
  have H1 : (none) = some r:=by rw [if_neg (show ¬ (false = true) by decide)] at H;exact H
  clear H
  have H:=H1
  clear H1
  exact absurd H (by simp)
 subst c16
 have H1 : (if t166 = true then (none) else (if t168 = true then (if t167.toList = ([120] : List UInt8) then (if t170 = true then (none) else (if t172 = true then (if t171.toList = ([121] : List UInt8) then ((merge_Scan.f y162 (⟨#[97]⟩ : BA) (⟨#[99]⟩ : BA) 5 9).bind fun t186 => ((ratlinelaw11_Pairs.f k t186 (([(⟨(⟨#[97]⟩ : BA),(⟨#[120]⟩ : BA)⟩ : S37),(⟨(⟨#[98]⟩ : BA),(⟨#[121]⟩ : BA)⟩ : S37)] : List (S37)))).bind fun t192 => (if t192 = true then ((merge_Scan.f y162 (⟨#[97]⟩ : BA) (⟨#[99]⟩ : BA) 9 9).bind fun t193 => ((ratlinelaw11_Pairs.f k t193 (([(⟨(⟨#[98]⟩ : BA),(⟨#[121]⟩ : BA)⟩ : S37)] : List (S37)))).bind fun t199 => (if t199 = true then ((merge_Scan.f y162 (⟨#[97]⟩ : BA) (⟨#[99]⟩ : BA) 5 1).bind fun t200 => ((ratlinelaw11_Pairs.f k t200 (([(⟨(⟨#[97]⟩ : BA),(⟨#[120]⟩ : BA)⟩ : S37)] : List (S37)))).bind fun t206 => (if t206 = true then ((merge_Scan.f y162 (⟨#[98]⟩ : BA) (⟨#[98]⟩ : BA) 9 9).bind fun t207 => (some ((t207.length : Int) == 0))) else (none)))) else (none)))) else (none)))) else (none)) else (none))) else (none)) else (none))) = some r:=by rw [if_pos rfl] at H;exact H
 clear H
 have H:=H1
 clear H1
 by_cases c17 : t166 = true
 ·subst c17
  have H1 : (none) = some r:=by rw [if_pos rfl] at H;exact H
  clear H
  have H:=H1
  clear H1
  exact absurd H (by simp)
 ·replace c17:=Bool.eq_false_iff.mpr c17
  subst c17
  have H1 : (if t168 = true then (if t167.toList = ([120] : List UInt8) then (if t170 = true then (none) else (if t172 = true then (if t171.toList = ([121] : List UInt8) then ((merge_Scan.f y162 (⟨#[97]⟩ : BA) (⟨#[99]⟩ : BA) 5 9).bind fun t186 => ((ratlinelaw11_Pairs.f k t186 (([(⟨(⟨#[97]⟩ : BA),(⟨#[120]⟩ : BA)⟩ : S37),(⟨(⟨#[98]⟩ : BA),(⟨#[121]⟩ : BA)⟩ : S37)] : List (S37)))).bind fun t192 => (if t192 = true then ((merge_Scan.f y162 (⟨#[97]⟩ : BA) (⟨#[99]⟩ : BA) 9 9).bind fun t193 => ((ratlinelaw11_Pairs.f k t193 (([(⟨(⟨#[98]⟩ : BA),(⟨#[121]⟩ : BA)⟩ : S37)] : List (S37)))).bind fun t199 => (if t199 = true then ((merge_Scan.f y162 (⟨#[97]⟩ : BA) (⟨#[99]⟩ : BA) 5 1).bind fun t200 => ((ratlinelaw11_Pairs.f k t200 (([(⟨(⟨#[97]⟩ : BA),(⟨#[120]⟩ : BA)⟩ : S37)] : List (S37)))).bind fun t206 => (if t206 = true then ((merge_Scan.f y162 (⟨#[98]⟩ : BA) (⟨#[98]⟩ : BA) 9 9).bind fun t207 => (some ((t207.length : Int) == 0))) else (none)))) else (none)))) else (none)))) else (none)) else (none))) else (none)) else (none)) = some r:=by rw [if_neg (show ¬ (false = true) by decide)] at H;exact H
  clear H
  have H:=H1
  clear H1
  by_cases c18 : t168 = true
  rotate_left
  ·replace c18:=Bool.eq_false_iff.mpr c18
   subst c18
   have H1 : (none) = some r:=by rw [if_neg (show ¬ (false = true) by decide)] at H;exact H
   clear H
   have H:=H1
   clear H1
   exact absurd H (by simp)
  subst c18
  have H1 : (if t167.toList = ([120] : List UInt8) then (if t170 = true then (none) else (if t172 = true then (if t171.toList = ([121] : List UInt8) then ((merge_Scan.f y162 (⟨#[97]⟩ : BA) (⟨#[99]⟩ : BA) 5 9).bind fun t186 => ((ratlinelaw11_Pairs.f k t186 (([(⟨(⟨#[97]⟩ : BA),(⟨#[120]⟩ : BA)⟩ : S37),(⟨(⟨#[98]⟩ : BA),(⟨#[121]⟩ : BA)⟩ : S37)] : List (S37)))).bind fun t192 => (if t192 = true then ((merge_Scan.f y162 (⟨#[97]⟩ : BA) (⟨#[99]⟩ : BA) 9 9).bind fun t193 => ((ratlinelaw11_Pairs.f k t193 (([(⟨(⟨#[98]⟩ : BA),(⟨#[121]⟩ : BA)⟩ : S37)] : List (S37)))).bind fun t199 => (if t199 = true then ((merge_Scan.f y162 (⟨#[97]⟩ : BA) (⟨#[99]⟩ : BA) 5 1).bind fun t200 => ((ratlinelaw11_Pairs.f k t200 (([(⟨(⟨#[97]⟩ : BA),(⟨#[120]⟩ : BA)⟩ : S37)] : List (S37)))).bind fun t206 => (if t206 = true then ((merge_Scan.f y162 (⟨#[98]⟩ : BA) (⟨#[98]⟩ : BA) 9 9).bind fun t207 => (some ((t207.length : Int) == 0))) else (none)))) else (none)))) else (none)))) else (none)) else (none))) else (none)) = some r:=by rw [if_pos rfl] at H;exact H
  clear H
  have H:=H1
  clear H1
  by_cases c19 : t167.toList = ([120] : List UInt8)
  rotate_left
  ·rw [if_neg c19] at H
   exact absurd H (by simp)
  rw [if_pos c19] at H
  have c19b0 : (t167.toList == ([120] : List UInt8)) = true:=beq_iff_eq.mpr c19
  have c19b1 : (t167.toList != ([120] : List UInt8)) = false:=bne_eq_false_iff_eq.mpr c19
  clear c19
  by_cases c20 : t170 = true
  ·subst c20
   have H1 : (none) = some r:=by rw [if_pos rfl] at H;exact H
   clear H
   have H:=H1
   clear H1
   exact absurd H (by simp)
  ·replace c20:=Bool.eq_false_iff.mpr c20
   subst c20
   have H1 : (if t172 = true then (if t171.toList = ([121] : List UInt8) then ((merge_Scan.f y162 (⟨#[97]⟩ : BA) (⟨#[99]⟩ : BA) 5 9).bind fun t186 => ((ratlinelaw11_Pairs.f k t186 (([(⟨(⟨#[97]⟩ : BA),(⟨#[120]⟩ : BA)⟩ : S37),(⟨(⟨#[98]⟩ : BA),(⟨#[121]⟩ : BA)⟩ : S37)] : List (S37)))).bind fun t192 => (if t192 = true then ((merge_Scan.f y162 (⟨#[97]⟩ : BA) (⟨#[99]⟩ : BA) 9 9).bind fun t193 => ((ratlinelaw11_Pairs.f k t193 (([(⟨(⟨#[98]⟩ : BA),(⟨#[121]⟩ : BA)⟩ : S37)] : List (S37)))).bind fun t199 => (if t199 = true then ((merge_Scan.f y162 (⟨#[97]⟩ : BA) (⟨#[99]⟩ : BA) 5 1).bind fun t200 => ((ratlinelaw11_Pairs.f k t200 (([(⟨(⟨#[97]⟩ : BA),(⟨#[120]⟩ : BA)⟩ : S37)] : List (S37)))).bind fun t206 => (if t206 = true then ((merge_Scan.f y162 (⟨#[98]⟩ : BA) (⟨#[98]⟩ : BA) 9 9).bind fun t207 => (some ((t207.length : Int) == 0))) else (none)))) else (none)))) else (none)))) else (none)) else (none)) = some r:=by rw [if_neg (show ¬ (false = true) by decide)] at H;exact H
   clear H
   have H:=H1
   clear H1
   by_cases c21 : t172 = true
   rotate_left
   ·replace c21:=Bool.eq_false_iff.mpr c21
    subst c21
    have H1 : (none) = some r:=by rw [if_neg (show ¬ (false = true) by decide)] at H;exact H
    clear H
    have H:=H1
    clear H1
    exact absurd H (by simp)
   subst c21
   have H1 : (if t171.toList = ([121] : List UInt8) then ((merge_Scan.f y162 (⟨#[97]⟩ : BA) (⟨#[99]⟩ : BA) 5 9).bind fun t186 => ((ratlinelaw11_Pairs.f k t186 (([(⟨(⟨#[97]⟩ : BA),(⟨#[120]⟩ : BA)⟩ : S37),(⟨(⟨#[98]⟩ : BA),(⟨#[121]⟩ : BA)⟩ : S37)] : List (S37)))).bind fun t192 => (if t192 = true then ((merge_Scan.f y162 (⟨#[97]⟩ : BA) (⟨#[99]⟩ : BA) 9 9).bind fun t193 => ((ratlinelaw11_Pairs.f k t193 (([(⟨(⟨#[98]⟩ : BA),(⟨#[121]⟩ : BA)⟩ : S37)] : List (S37)))).bind fun t199 => (if t199 = true then ((merge_Scan.f y162 (⟨#[97]⟩ : BA) (⟨#[99]⟩ : BA) 5 1).bind fun t200 => ((ratlinelaw11_Pairs.f k t200 (([(⟨(⟨#[97]⟩ : BA),(⟨#[120]⟩ : BA)⟩ : S37)] : List (S37)))).bind fun t206 => (if t206 = true then ((merge_Scan.f y162 (⟨#[98]⟩ : BA) (⟨#[98]⟩ : BA) 9 9).bind fun t207 => (some ((t207.length : Int) == 0))) else (none)))) else (none)))) else (none)))) else (none)) = some r:=by rw [if_pos rfl] at H;exact H
   clear H
   have H:=H1
   clear H1
   by_cases c22 : t171.toList = ([121] : List UInt8)
   rotate_left
   ·rw [if_neg c22] at H
    exact absurd H (by simp)
   rw [if_pos c22] at H
   have c22b0 : (t171.toList == ([121] : List UInt8)) = true:=beq_iff_eq.mpr c22
   have c22b1 : (t171.toList != ([121] : List UInt8)) = false:=bne_eq_false_iff_eq.mpr c22
   clear c22
   replace H:=Option.bind_eq_some_iff.mp H
   obtain ⟨t186,A230,H⟩:=H
   replace H : ((ratlinelaw11_Pairs.f k t186 (([(⟨(⟨#[97]⟩ : BA),(⟨#[120]⟩ : BA)⟩ : S37),(⟨(⟨#[98]⟩ : BA),(⟨#[121]⟩ : BA)⟩ : S37)] : List (S37)))).bind fun t192 => (if t192 = true then ((merge_Scan.f y162 (⟨#[97]⟩ : BA) (⟨#[99]⟩ : BA) 9 9).bind fun t193 => ((ratlinelaw11_Pairs.f k t193 (([(⟨(⟨#[98]⟩ : BA),(⟨#[121]⟩ : BA)⟩ : S37)] : List (S37)))).bind fun t199 => (if t199 = true then ((merge_Scan.f y162 (⟨#[97]⟩ : BA) (⟨#[99]⟩ : BA) 5 1).bind fun t200 => ((ratlinelaw11_Pairs.f k t200 (([(⟨(⟨#[97]⟩ : BA),(⟨#[120]⟩ : BA)⟩ : S37)] : List (S37)))).bind fun t206 => (if t206 = true then ((merge_Scan.f y162 (⟨#[98]⟩ : BA) (⟨#[98]⟩ : BA) 9 9).bind fun t207 => (some ((t207.length : Int) == 0))) else (none)))) else (none)))) else (none))) = some r:=H
   have A23:=Aside0.mk A230
   clear A230
   obtain ⟨y189,hy189⟩ : ∃ y_ : List (S37),y_ = (([(⟨(⟨#[97]⟩ : BA),(⟨#[120]⟩ : BA)⟩ : S37),(⟨(⟨#[98]⟩ : BA),(⟨#[121]⟩ : BA)⟩ : S37)] : List (S37))):=⟨_,rfl⟩
   replace H : ((ratlinelaw11_Pairs.f k t186 y189).bind fun t192 => (if t192 = true then ((merge_Scan.f y162 (⟨#[97]⟩ : BA) (⟨#[99]⟩ : BA) 9 9).bind fun t193 => ((ratlinelaw11_Pairs.f k t193 (([(⟨(⟨#[98]⟩ : BA),(⟨#[121]⟩ : BA)⟩ : S37)] : List (S37)))).bind fun t199 => (if t199 = true then ((merge_Scan.f y162 (⟨#[97]⟩ : BA) (⟨#[99]⟩ : BA) 5 1).bind fun t200 => ((ratlinelaw11_Pairs.f k t200 (([(⟨(⟨#[97]⟩ : BA),(⟨#[120]⟩ : BA)⟩ : S37)] : List (S37)))).bind fun t206 => (if t206 = true then ((merge_Scan.f y162 (⟨#[98]⟩ : BA) (⟨#[98]⟩ : BA) 9 9).bind fun t207 => (some ((t207.length : Int) == 0))) else (none)))) else (none)))) else (none))) = some r:=by first|(rw [hy189];with_reducible exact H)|(have H2_:=(Option.bind_some _ _).symm.trans H;rw [hy189];with_reducible exact H2_)|(have H2_:=(Option.bind_some _ _).symm.trans H;with_reducible exact H2_)|with_reducible exact H|(rw [hy189];exact H)|exact H
   have Ny189:=Aside0.mk hy189
   clear hy189
   replace H:=Option.bind_eq_some_iff.mp H
   obtain ⟨t192,A240,H⟩:=H
   replace H : (if t192 = true then ((merge_Scan.f y162 (⟨#[97]⟩ : BA) (⟨#[99]⟩ : BA) 9 9).bind fun t193 => ((ratlinelaw11_Pairs.f k t193 (([(⟨(⟨#[98]⟩ : BA),(⟨#[121]⟩ : BA)⟩ : S37)] : List (S37)))).bind fun t199 => (if t199 = true then ((merge_Scan.f y162 (⟨#[97]⟩ : BA) (⟨#[99]⟩ : BA) 5 1).bind fun t200 => ((ratlinelaw11_Pairs.f k t200 (([(⟨(⟨#[97]⟩ : BA),(⟨#[120]⟩ : BA)⟩ : S37)] : List (S37)))).bind fun t206 => (if t206 = true then ((merge_Scan.f y162 (⟨#[98]⟩ : BA) (⟨#[98]⟩ : BA) 9 9).bind fun t207 => (some ((t207.length : Int) == 0))) else (none)))) else (none)))) else (none)) = some r:=H
   have A24:=Aside0.mk A240
   clear A240
   by_cases c25 : t192 = true
   rotate_left
   ·replace c25:=Bool.eq_false_iff.mpr c25
    subst c25
    have H1 : (none) = some r:=by rw [if_neg (show ¬ (false = true) by decide)] at H;exact H
    clear H
    have H:=H1
    clear H1
    exact absurd H (by simp)
   subst c25
   have H1 : ((merge_Scan.f y162 (⟨#[97]⟩ : BA) (⟨#[99]⟩ : BA) 9 9).bind fun t193 => ((ratlinelaw11_Pairs.f k t193 (([(⟨(⟨#[98]⟩ : BA),(⟨#[121]⟩ : BA)⟩ : S37)] : List (S37)))).bind fun t199 => (if t199 = true then ((merge_Scan.f y162 (⟨#[97]⟩ : BA) (⟨#[99]⟩ : BA) 5 1).bind fun t200 => ((ratlinelaw11_Pairs.f k t200 (([(⟨(⟨#[97]⟩ : BA),(⟨#[120]⟩ : BA)⟩ : S37)] : List (S37)))).bind fun t206 => (if t206 = true then ((merge_Scan.f y162 (⟨#[98]⟩ : BA) (⟨#[98]⟩ : BA) 9 9).bind fun t207 => (some ((t207.length : Int) == 0))) else (none)))) else (none)))) = some r:=by rw [if_pos rfl] at H;exact H
   clear H
   have H:=H1
   clear H1
   replace H:=Option.bind_eq_some_iff.mp H
   obtain ⟨t193,A260,H⟩:=H
   replace H : ((ratlinelaw11_Pairs.f k t193 (([(⟨(⟨#[98]⟩ : BA),(⟨#[121]⟩ : BA)⟩ : S37)] : List (S37)))).bind fun t199 => (if t199 = true then ((merge_Scan.f y162 (⟨#[97]⟩ : BA) (⟨#[99]⟩ : BA) 5 1).bind fun t200 => ((ratlinelaw11_Pairs.f k t200 (([(⟨(⟨#[97]⟩ : BA),(⟨#[120]⟩ : BA)⟩ : S37)] : List (S37)))).bind fun t206 => (if t206 = true then ((merge_Scan.f y162 (⟨#[98]⟩ : BA) (⟨#[98]⟩ : BA) 9 9).bind fun t207 => (some ((t207.length : Int) == 0))) else (none)))) else (none))) = some r:=H
   have A26:=Aside0.mk A260
   clear A260
   obtain ⟨y196,hy196⟩ : ∃ y_ : List (S37),y_ = (([(⟨(⟨#[98]⟩ : BA),(⟨#[121]⟩ : BA)⟩ : S37)] : List (S37))):=⟨_,rfl⟩
   replace H : ((ratlinelaw11_Pairs.f k t193 y196).bind fun t199 => (if t199 = true then ((merge_Scan.f y162 (⟨#[97]⟩ : BA) (⟨#[99]⟩ : BA) 5 1).bind fun t200 => ((ratlinelaw11_Pairs.f k t200 (([(⟨(⟨#[97]⟩ : BA),(⟨#[120]⟩ : BA)⟩ : S37)] : List (S37)))).bind fun t206 => (if t206 = true then ((merge_Scan.f y162 (⟨#[98]⟩ : BA) (⟨#[98]⟩ : BA) 9 9).bind fun t207 => (some ((t207.length : Int) == 0))) else (none)))) else (none))) = some r:=by first|(rw [hy196];with_reducible exact H)|(have H2_:=(Option.bind_some _ _).symm.trans H;rw [hy196];with_reducible exact H2_)|(have H2_:=(Option.bind_some _ _).symm.trans H;with_reducible exact H2_)|with_reducible exact H|(rw [hy196];exact H)|exact H
   have Ny196:=Aside0.mk hy196
   clear hy196
   replace H:=Option.bind_eq_some_iff.mp H
   obtain ⟨t199,A270,H⟩:=H
   replace H : (if t199 = true then ((merge_Scan.f y162 (⟨#[97]⟩ : BA) (⟨#[99]⟩ : BA) 5 1).bind fun t200 => ((ratlinelaw11_Pairs.f k t200 (([(⟨(⟨#[97]⟩ : BA),(⟨#[120]⟩ : BA)⟩ : S37)] : List (S37)))).bind fun t206 => (if t206 = true then ((merge_Scan.f y162 (⟨#[98]⟩ : BA) (⟨#[98]⟩ : BA) 9 9).bind fun t207 => (some ((t207.length : Int) == 0))) else (none)))) else (none)) = some r:=H
   have A27:=Aside0.mk A270
   clear A270
   by_cases c28 : t199 = true
   rotate_left
   ·replace c28:=Bool.eq_false_iff.mpr c28
    subst c28
    have H1 : (none) = some r:=by rw [if_neg (show ¬ (false = true) by decide)] at H;exact H
    clear H
    have H:=H1
    clear H1
    exact absurd H (by simp)
   subst c28
   have H1 : ((merge_Scan.f y162 (⟨#[97]⟩ : BA) (⟨#[99]⟩ : BA) 5 1).bind fun t200 => ((ratlinelaw11_Pairs.f k t200 (([(⟨(⟨#[97]⟩ : BA),(⟨#[120]⟩ : BA)⟩ : S37)] : List (S37)))).bind fun t206 => (if t206 = true then ((merge_Scan.f y162 (⟨#[98]⟩ : BA) (⟨#[98]⟩ : BA) 9 9).bind fun t207 => (some ((t207.length : Int) == 0))) else (none)))) = some r:=by rw [if_pos rfl] at H;exact H
   clear H
   have H:=H1
   clear H1
   replace H:=Option.bind_eq_some_iff.mp H
   obtain ⟨t200,A290,H⟩:=H
   replace H : ((ratlinelaw11_Pairs.f k t200 (([(⟨(⟨#[97]⟩ : BA),(⟨#[120]⟩ : BA)⟩ : S37)] : List (S37)))).bind fun t206 => (if t206 = true then ((merge_Scan.f y162 (⟨#[98]⟩ : BA) (⟨#[98]⟩ : BA) 9 9).bind fun t207 => (some ((t207.length : Int) == 0))) else (none))) = some r:=H
   have A29:=Aside0.mk A290
   clear A290
   obtain ⟨y203,hy203⟩ : ∃ y_ : List (S37),y_ = (([(⟨(⟨#[97]⟩ : BA),(⟨#[120]⟩ : BA)⟩ : S37)] : List (S37))):=⟨_,rfl⟩
   replace H : ((ratlinelaw11_Pairs.f k t200 y203).bind fun t206 => (if t206 = true then ((merge_Scan.f y162 (⟨#[98]⟩ : BA) (⟨#[98]⟩ : BA) 9 9).bind fun t207 => (some ((t207.length : Int) == 0))) else (none))) = some r:=by first|(rw [hy203];with_reducible exact H)|(have H2_:=(Option.bind_some _ _).symm.trans H;rw [hy203];with_reducible exact H2_)|(have H2_:=(Option.bind_some _ _).symm.trans H;with_reducible exact H2_)|with_reducible exact H|(rw [hy203];exact H)|exact H
   have Ny203:=Aside0.mk hy203
   clear hy203
   replace H:=Option.bind_eq_some_iff.mp H
   obtain ⟨t206,A300,H⟩:=H
   replace H : (if t206 = true then ((merge_Scan.f y162 (⟨#[98]⟩ : BA) (⟨#[98]⟩ : BA) 9 9).bind fun t207 => (some ((t207.length : Int) == 0))) else (none)) = some r:=H
   have A30:=Aside0.mk A300
   clear A300
   by_cases c31 : t206 = true
   rotate_left
   ·replace c31:=Bool.eq_false_iff.mpr c31
    subst c31
    have H1 : (none) = some r:=by rw [if_neg (show ¬ (false = true) by decide)] at H;exact H
    clear H
    have H:=H1
    clear H1
    exact absurd H (by simp)
   subst c31
   have H1 : ((merge_Scan.f y162 (⟨#[98]⟩ : BA) (⟨#[98]⟩ : BA) 9 9).bind fun t207 => (some ((t207.length : Int) == 0))) = some r:=by rw [if_pos rfl] at H;exact H
   clear H
   have H:=H1
   clear H1
   replace H:=Option.bind_eq_some_iff.mp H
   obtain ⟨t207,A320,H⟩:=H
   replace H : (some ((t207.length : Int) == 0)) = some r:=H
   have A32:=Aside0.mk A320
   clear A320
   obtain rfl:=Option.some.inj H
   go_enter Try.func15,Try.ntmps15
   try go_wp2_with (first|((with_reducible refine gate_callee (f:=42) rfl ?_);refine goesL_ (some 10) rfl rfl Try.func42 (by kernel_rfl) rfl #[.string (⟨#[97]⟩ : BA),.int .u64 9,.int .u8 0,.string (⟨#[]⟩ : BA)] rfl (by (try simp only [List.map_toArray,List.map_cons,List.map_nil]);first|done|rfl|(simp only [List.length_drop,List.length_take];rfl)) ?_;(with_reducible refine (ratlinelaw11_entry.calls (⟨#[97]⟩ : BA) 9 0 (⟨#[]⟩ : BA) t140 t141 t142 t143 _ A1.out).mono ?_);rintro e w33 ⟨rfl,hb⟩;refine ⟨_,rfl,?_⟩;have n0_:=Aside0.mk (below_step (by repeat (first|(with_reducible first|exact HB.out|apply below_alloc|apply pw_below_drewN|apply below_drew1)|exact HB.out)) hb);clear HB;have HB:=n0_;clear n0_;(try clear hb);(try clear hb2);(try clear hk);(try clear hi))|((with_reducible refine gate_callee (f:=42) rfl ?_);refine goesL_ (some 11) rfl rfl Try.func42 (by kernel_rfl) rfl #[.string (⟨#[98]⟩ : BA),.int .u64 4,.int .u8 1,.string (⟨#[121]⟩ : BA)] rfl (by (try simp only [List.map_toArray,List.map_cons,List.map_nil]);first|done|rfl|(simp only [List.length_drop,List.length_take];rfl)) ?_;(with_reducible refine (ratlinelaw11_entry.calls (⟨#[98]⟩ : BA) 4 1 (⟨#[121]⟩ : BA) t144 t145 t146 t147 _ A2.out).mono ?_);rintro e w34 ⟨rfl,hb⟩;refine ⟨_,rfl,?_⟩;have n0_:=Aside0.mk (below_step (by repeat (first|(with_reducible first|exact HB.out|apply below_alloc|apply pw_below_drewN|apply below_drew1)|exact HB.out)) hb);clear HB;have HB:=n0_;clear n0_;(try clear hb);(try clear hb2);(try clear hk);(try clear hi))|((with_reducible refine gate_dst (N:=12) rfl ?_);(try (refine gate_guard (by rfl) ?_;dsimp only));refine Kd.R_lit k41 _ 41 ?hg (N:=12) ?hd (xs:=([(⟨(⟨t140,t141,t142⟩ : S39),t143⟩ : S41),(⟨(⟨t144,t145,t146⟩ : S39),t147⟩ : S41)] : List (S41))) (inner:=[.string t140,.int .u64 t141,.int .u8 t142,.string t143,.string t144,.int .u64 t145,.int .u8 t146,.string t147]) (ok:=fun _ => True) (okp:=fun _ => True) ?hr ?hp (fun _ hk => hk) trivial (Below.refl _ _) (Nat.le_refl _) (by simp) ?_;(case hd => rfl);(case hg => rfl);(case hr => first|(go_simp;done)|(go_simp;rfl));(case hp => exact (Reps.c4 (show Kd.M k41 _ _ _ (⟨(⟨t140,t141,t142⟩ : S39),t143⟩ : S41) [.string t140,.int .u64 t141,.int .u8 t142,.string t143] from (k41_mkM _ _ _ (⟨(⟨t140,t141,t142⟩ : S39),t143⟩ : S41) )) (Reps.c4 (show Kd.M k41 _ _ _ (⟨(⟨t144,t145,t146⟩ : S39),t147⟩ : S41) [.string t144,.int .u64 t145,.int .u8 t146,.string t147] from (k41_mkM _ _ _ (⟨(⟨t144,t145,t146⟩ : S39),t147⟩ : S41) )) (Reps.none _ _))));intro v149 w35 ho36 hb hg_ hnew_;clear hg_ hnew_;(first|rw [← Ny148.out] at ho36|(simp only [Int.reduceToNat] at ho36;rw [← Ny148.out] at ho36));have n0_:=Aside0.mk (Kd.R_lower ho36 (below_size (by repeat (first|(with_reducible first|exact HB.out|apply below_alloc|apply pw_below_drewN|apply below_drew1)|exact HB.out))));have n1_:=Aside0.mk (below_step (by repeat (first|(with_reducible first|exact HB.out|apply below_alloc|apply pw_below_drewN|apply below_drew1)|exact HB.out)) hb);clear HB;have HO150:=n0_;have HB:=n1_;clear n0_ n1_;clear hb ho36)|((with_reducible refine gate_callee (f:=42) rfl ?_);refine goesL_ (some 13) rfl rfl Try.func42 (by kernel_rfl) rfl #[.string (⟨#[97]⟩ : BA),.int .u64 5,.int .u8 1,.string (⟨#[120]⟩ : BA)] rfl (by (try simp only [List.map_toArray,List.map_cons,List.map_nil]);first|done|rfl|(simp only [List.length_drop,List.length_take];rfl)) ?_;(with_reducible refine (ratlinelaw11_entry.calls (⟨#[97]⟩ : BA) 5 1 (⟨#[120]⟩ : BA) t151 t152 t153 t154 _ A3.out).mono ?_);rintro e w37 ⟨rfl,hb⟩;refine ⟨_,rfl,?_⟩;have n0_:=Aside0.mk (Kd.R_below (by (with_reducible repeat (first|apply zA|apply zN|apply zD));exact HO150.out) hb);have n1_:=Aside0.mk (below_step (by repeat (first|(with_reducible first|exact HB.out|apply below_alloc|apply pw_below_drewN|apply below_drew1)|exact HB.out)) hb);clear HO150;clear HB;have HO150:=n0_;have HB:=n1_;clear n0_ n1_;(try clear hb);(try clear hb2);(try clear hk);(try clear hi))|((with_reducible refine gate_callee (f:=42) rfl ?_);refine goesL_ (some 14) rfl rfl Try.func42 (by kernel_rfl) rfl #[.string (⟨#[98]⟩ : BA),.int .u64 4,.int .u8 1,.string (⟨#[122]⟩ : BA)] rfl (by (try simp only [List.map_toArray,List.map_cons,List.map_nil]);first|done|rfl|(simp only [List.length_drop,List.length_take];rfl)) ?_;(with_reducible refine (ratlinelaw11_entry.calls (⟨#[98]⟩ : BA) 4 1 (⟨#[122]⟩ : BA) t155 t156 t157 t158 _ A4.out).mono ?_);rintro e w38 ⟨rfl,hb⟩;refine ⟨_,rfl,?_⟩;have n0_:=Aside0.mk (Kd.R_below (by (with_reducible repeat (first|apply zA|apply zN|apply zD));exact HO150.out) hb);have n1_:=Aside0.mk (below_step (by repeat (first|(with_reducible first|exact HB.out|apply below_alloc|apply pw_below_drewN|apply below_drew1)|exact HB.out)) hb);clear HO150;clear HB;have HO150:=n0_;have HB:=n1_;clear n0_ n1_;(try clear hb);(try clear hb2);(try clear hk);(try clear hi))|((with_reducible refine gate_dst (N:=15) rfl ?_);(try (refine gate_guard (by rfl) ?_;dsimp only));refine Kd.R_lit k41 _ 41 ?hg (N:=15) ?hd (xs:=([(⟨(⟨t151,t152,t153⟩ : S39),t154⟩ : S41),(⟨(⟨t155,t156,t157⟩ : S39),t158⟩ : S41)] : List (S41))) (inner:=[.string t151,.int .u64 t152,.int .u8 t153,.string t154,.string t155,.int .u64 t156,.int .u8 t157,.string t158]) (ok:=fun _ => True) (okp:=fun _ => True) ?hr ?hp (fun _ hk => hk) trivial (Below.refl _ _) (Nat.le_refl _) (by simp) ?_;(case hd => rfl);(case hg => rfl);(case hr => first|(go_simp;done)|(go_simp;rfl));(case hp => exact (Reps.c4 (show Kd.M k41 _ _ _ (⟨(⟨t151,t152,t153⟩ : S39),t154⟩ : S41) [.string t151,.int .u64 t152,.int .u8 t153,.string t154] from (k41_mkM _ _ _ (⟨(⟨t151,t152,t153⟩ : S39),t154⟩ : S41) )) (Reps.c4 (show Kd.M k41 _ _ _ (⟨(⟨t155,t156,t157⟩ : S39),t158⟩ : S41) [.string t155,.int .u64 t156,.int .u8 t157,.string t158] from (k41_mkM _ _ _ (⟨(⟨t155,t156,t157⟩ : S39),t158⟩ : S41) )) (Reps.none _ _))));intro v160 w39 ho40 hb hg_ hnew_;clear hg_ hnew_;(first|rw [← Ny159.out] at ho40|(simp only [Int.reduceToNat] at ho40;rw [← Ny159.out] at ho40));have n0_:=Aside0.mk (Kd.R_elder' (by (with_reducible repeat (first|apply zA|apply zN|apply zD));exact HO150.out) (Kd.R_base ho40) hb);have n1_:=Aside0.mk (Kd.R_lower (Kd.R_new' ho40 (Kd.R_lt (by (with_reducible repeat (first|apply zA|apply zN|apply zD));exact HO150.out))) (below_size (by repeat (first|(with_reducible first|exact HB.out|apply below_alloc|apply pw_below_drewN|apply below_drew1)|exact HB.out))));have n2_:=Aside0.mk (below_step (by repeat (first|(with_reducible first|exact HB.out|apply below_alloc|apply pw_below_drewN|apply below_drew1)|exact HB.out)) hb);clear HO150;clear HB;have HO150:=n0_;have HO161:=n1_;have HB:=n2_;clear n0_ n1_ n2_;clear hb ho40;obtain ⟨Ao41,co41,eo41⟩:=Kd.R_slice HO150.out;subst eo41;obtain ⟨Ao42,co42,eo42⟩:=Kd.R_slice HO161.out;subst eo42)|((with_reducible refine gate_dst (N:=16) rfl ?_);(try (refine gate_guard (by rfl) ?_;dsimp only));refine Kd.N_lit (Kd.slice 41 k41) _ 29 ?hg (N':=16) ?hd (xs:=([y148,y159] : List (List (S41)))) (inner:=[.slice Ao41 y148.length co41,.slice Ao42 y159.length co42]) (ok:=(fun _ => True)) (okp:=(fun _ => True)) ?hr ?hp (fun _ hk => hk) ((show ∀ k_,w39.heap.size ≤ k_ → (fun _ => True) k_ from fun k_ hk => trivial) _ (Nat.le_refl _)) (Below.refl _ _) (Nat.le_refl _) (by simp) ?_;(case hd => rfl);(case hg => rfl);(case hr => first|(go_simp;done)|(go_simp;rfl));(case hp => exact (Reps.one (show Kd.FK (Kd.slice 41 k41) _ _ y148 [.slice Ao41 y148.length co41] from (Kd.FK_slice_mk (Kd.R_reads' (Kd.R_mono (ok':=(fun _ => True)) (HO150.out) (fun k_ hk => trivial))).2.1 (Kd.R_F (Kd.R_mono (ok':=(fun _ => True)) (HO150.out) (fun k_ hk => trivial))))) (Reps.one (show Kd.FK (Kd.slice 41 k41) _ _ y159 [.slice Ao42 y159.length co42] from (Kd.FK_slice_mk (Kd.R_reads' (Kd.R_mono (ok':=(fun _ => True)) (HO161.out) (fun k_ hk => trivial))).2.1 (Kd.R_F (Kd.R_mono (ok':=(fun _ => True)) (HO161.out) (fun k_ hk => trivial))))) (Reps.none _ _))));intro v163 w43 ho44 hb hg_ hnew_;clear hg_ hnew_;(first|rw [← Ny162.out] at ho44|(simp only [Int.reduceToNat] at ho44;rw [← Ny162.out] at ho44));have n0_:=Aside0.mk (Kd.N_lower ho44 (below_size (by repeat (first|(with_reducible first|exact HB.out|apply below_alloc|apply pw_below_drewN|apply below_drew1)|exact HB.out))));have n1_:=Aside0.mk (below_step (by repeat (first|(with_reducible first|exact HB.out|apply below_alloc|apply pw_below_drewN|apply below_drew1)|exact HB.out)) hb);clear HB;clear HO150;clear HO161;have HO164:=n0_;have HB:=n1_;clear n0_ n1_;clear hb ho44;obtain ⟨Ao45,co45,eo45⟩:=Kd.N_slice HO164.out;subst eo45)|((with_reducible refine gate_callee (f:=16) rfl ?_);refine goesL_ (some 19) rfl rfl Try.func16 (by kernel_rfl) rfl #[.slice Ao45 y162.length co45,.string (⟨#[97]⟩ : BA),.int .u64 9] rfl (by (try simp only [List.map_toArray,List.map_cons,List.map_nil]);first|done|rfl|(simp only [List.length_drop,List.length_take];rfl)) ?_;(with_reducible refine (merge_Get.calls _ _ y162 (⟨#[97]⟩ : BA) 9 t165 false _ ?side1 ?side2 A5.out).mono ?_);(case side1 => repeat (first|exact (Kd.N_reads' HO164.out).2.2|(with_reducible refine Kd.C_alloc ?_ _)|(with_reducible refine Kd.C_drewN ?_ _)|(with_reducible refine Kd.C_drew ?_)));(case side2 => exact (Kd.N_reads' HO164.out).2.1);rintro e w46 ⟨rfl,hb⟩;refine ⟨_,rfl,?_⟩;have n0_:=Aside0.mk (Kd.N_below (by (with_reducible repeat (first|apply nA|apply nN|apply nD));exact HO164.out) hb);have n1_:=Aside0.mk (below_step (by repeat (first|(with_reducible first|exact HB.out|apply below_alloc|apply pw_below_drewN|apply below_drew1)|exact HB.out)) hb);clear HO164;clear HB;have HO164:=n0_;have HB:=n1_;clear n0_ n1_;(try clear hb);(try clear hb2);(try clear hk);(try clear hi))|((with_reducible refine gate_callee (f:=16) rfl ?_);refine goesL_ (some 24) rfl rfl Try.func16 (by kernel_rfl) rfl #[.slice Ao45 y162.length co45,.string (⟨#[97]⟩ : BA),.int .u64 8] rfl (by (try simp only [List.map_toArray,List.map_cons,List.map_nil]);first|done|rfl|(simp only [List.length_drop,List.length_take];rfl)) ?_;(with_reducible refine (merge_Get.calls _ _ y162 (⟨#[97]⟩ : BA) 8 t167 true _ ?side1 ?side2 A6.out).mono ?_);(case side1 => repeat (first|exact (Kd.N_reads' HO164.out).2.2|(with_reducible refine Kd.C_alloc ?_ _)|(with_reducible refine Kd.C_drewN ?_ _)|(with_reducible refine Kd.C_drew ?_)));(case side2 => exact (Kd.N_reads' HO164.out).2.1);rintro e w47 ⟨rfl,hb⟩;refine ⟨_,rfl,?_⟩;have n0_:=Aside0.mk (Kd.N_below (by (with_reducible repeat (first|apply nA|apply nN|apply nD));exact HO164.out) hb);have n1_:=Aside0.mk (below_step (by repeat (first|(with_reducible first|exact HB.out|apply below_alloc|apply pw_below_drewN|apply below_drew1)|exact HB.out)) hb);clear HO164;clear HB;have HO164:=n0_;have HB:=n1_;clear n0_ n1_;(try clear hb);(try clear hb2);(try clear hk);(try clear hi))|((with_reducible refine gate_callee (f:=16) rfl ?_);refine goesL_ (some 29) rfl rfl Try.func16 (by kernel_rfl) rfl #[.slice Ao45 y162.length co45,.string (⟨#[97]⟩ : BA),.int .u64 4] rfl (by (try simp only [List.map_toArray,List.map_cons,List.map_nil]);first|done|rfl|(simp only [List.length_drop,List.length_take];rfl)) ?_;(with_reducible refine (merge_Get.calls _ _ y162 (⟨#[97]⟩ : BA) 4 t169 false _ ?side1 ?side2 A7.out).mono ?_);(case side1 => repeat (first|exact (Kd.N_reads' HO164.out).2.2|(with_reducible refine Kd.C_alloc ?_ _)|(with_reducible refine Kd.C_drewN ?_ _)|(with_reducible refine Kd.C_drew ?_)));(case side2 => exact (Kd.N_reads' HO164.out).2.1);rintro e w48 ⟨rfl,hb⟩;refine ⟨_,rfl,?_⟩;have n0_:=Aside0.mk (Kd.N_below (by (with_reducible repeat (first|apply nA|apply nN|apply nD));exact HO164.out) hb);have n1_:=Aside0.mk (below_step (by repeat (first|(with_reducible first|exact HB.out|apply below_alloc|apply pw_below_drewN|apply below_drew1)|exact HB.out)) hb);clear HO164;clear HB;have HO164:=n0_;have HB:=n1_;clear n0_ n1_;(try clear hb);(try clear hb2);(try clear hk);(try clear hi))|((with_reducible refine gate_callee (f:=16) rfl ?_);refine goesL_ (some 34) rfl rfl Try.func16 (by kernel_rfl) rfl #[.slice Ao45 y162.length co45,.string (⟨#[98]⟩ : BA),.int .u64 4] rfl (by (try simp only [List.map_toArray,List.map_cons,List.map_nil]);first|done|rfl|(simp only [List.length_drop,List.length_take];rfl)) ?_;(with_reducible refine (merge_Get.calls _ _ y162 (⟨#[98]⟩ : BA) 4 t171 true _ ?side1 ?side2 A8.out).mono ?_);(case side1 => repeat (first|exact (Kd.N_reads' HO164.out).2.2|(with_reducible refine Kd.C_alloc ?_ _)|(with_reducible refine Kd.C_drewN ?_ _)|(with_reducible refine Kd.C_drew ?_)));(case side2 => exact (Kd.N_reads' HO164.out).2.1);rintro e w49 ⟨rfl,hb⟩;refine ⟨_,rfl,?_⟩;have n0_:=Aside0.mk (Kd.N_below (by (with_reducible repeat (first|apply nA|apply nN|apply nD));exact HO164.out) hb);have n1_:=Aside0.mk (below_step (by repeat (first|(with_reducible first|exact HB.out|apply below_alloc|apply pw_below_drewN|apply below_drew1)|exact HB.out)) hb);clear HO164;clear HB;have HO164:=n0_;have HB:=n1_;clear n0_ n1_;(try clear hb);(try clear hb2);(try clear hk);(try clear hi)))
   have n0_:=Aside0.mk (Kd.N_drew HO164.out)
   have n1_:=Aside0.mk (below_drew1 HB.out)
   clear HO164
   clear HB
   have HO164:=n0_
   have HB:=n1_
   clear n0_ n1_
   have p176 : 0 ≤ (0 : Int):=(by omega)
   have q176 : 0 < (y162.length : Int):=of_decide_eq_true (by first|(with_reducible assumption)|assumption)
   obtain ⟨ad176,A176_0,c176_0,e176,hx176_0,hl176_0,hi176_0⟩:=at_L5 (Kd.N_reads' HO164.out).2.2 0 p176 q176
   cases e176
   obtain ⟨ce176,hce176,hMe176,hcc176⟩:=Kd.N_get HO164.out [] 0 p176 (by first|exact q176|exact of_decide_eq_true (by first|(with_reducible assumption)|assumption)|(have e_:=(Kd.N_reads' HO164.out).1;omega))
   obtain ⟨ua176_0,uc176_0,rfl,ul176_0,ge176_0⟩:=Kd.FK_slice_open hMe176
   have hv176_0:=hcc176 0 _ rfl
   rw [Nat.add_zero,show ((Kd.slice 41 k41)).sz = 1 from rfl,Nat.mul_one] at hv176_0
   replace hv176_0:=Option.some.inj (hv176_0.symm.trans hx176_0)
   injection hv176_0 with hva_ hvn_ hvc_
   rw [hva_] at ge176_0
   rw [hvc_] at ul176_0
   have HL176_0:=Aside0.mk (show Kd.V k41 41 _ w.heap.size _ _ (rd_L5 y162 0) from Kd.V_mk ul176_0 ge176_0)
   clear hva_ hvn_ hvc_ ge176_0 ul176_0
   clear hcc176 hce176
   have qi176 : (0 < y162.length) = True:=eq_true (by omega)
   (try rw [show ((0 : Int)).toNat = 0 from rfl] at hx176_0)
   (try rw [Addr.add_zero'] at hx176_0)
   have HR176_0:=Aside0.mk hi176_0
   have HC176_0:=Aside0.mk hl176_0
   clear hi176_0 hl176_0
   replace p176:=eq_true p176
   replace q176:=eq_true q176
   have p177 : 0 ≤ (0 : Int):=(by omega)
   have q177 : 0 < ((rd_L5 y162 0).length : Int):=of_decide_eq_true (by first|(with_reducible assumption)|assumption)
   obtain ⟨ad177,e177,hx177_0,hx177_1,hx177_2,hx177_3⟩:=at_T41 (by repeat (first|(with_reducible exact HR176_0.out)|(with_reducible refine Kd.C_alloc ?_ _)|(with_reducible refine Kd.C_drewN ?_ _)|(with_reducible refine Kd.C_drew ?_)|exact HR176_0.out)) 0 p177 q177
   cases e177
   have qi177 : (0 < (rd_L5 y162 0).length) = True:=eq_true (by omega)
   (try rw [show ((0 : Int)).toNat = 0 from rfl] at hx177_0)
   (try rw [show 0 * 4 = 0 from rfl] at hx177_0)
   (try rw [Addr.add_zero'] at hx177_0)
   (try rw [show ((0 : Int)).toNat = 0 from rfl] at hx177_1)
   (try rw [show 0 * 4 = 0 from rfl] at hx177_1)
   (try rw [Addr.add_zero'] at hx177_1)
   (try rw [show ((0 : Int)).toNat = 0 from rfl] at hx177_2)
   (try rw [show 0 * 4 = 0 from rfl] at hx177_2)
   (try rw [Addr.add_zero'] at hx177_2)
   (try rw [show ((0 : Int)).toNat = 0 from rfl] at hx177_3)
   (try rw [show 0 * 4 = 0 from rfl] at hx177_3)
   (try rw [Addr.add_zero'] at hx177_3)
   replace p177:=eq_true p177
   replace q177:=eq_true q177
   have p178 : 0 ≤ (1 : Int):=(by omega)
   have q178 : 1 < (y162.length : Int):=of_decide_eq_true (by first|(with_reducible assumption)|assumption)
   obtain ⟨ad178,A178_0,c178_0,e178,hx178_0,hl178_0,hi178_0⟩:=at_L5 (Kd.N_reads' HO164.out).2.2 1 p178 q178
   obtain rfl : ad176 = ad178:=(by injection e178)
   obtain ⟨ce178,hce178,hMe178,hcc178⟩:=Kd.N_get HO164.out [] 1 p178 (by first|exact q178|exact of_decide_eq_true (by first|(with_reducible assumption)|assumption)|(have e_:=(Kd.N_reads' HO164.out).1;omega))
   obtain ⟨ua178_0,uc178_0,rfl,ul178_0,ge178_0⟩:=Kd.FK_slice_open hMe178
   have hv178_0:=hcc178 0 _ rfl
   rw [Nat.add_zero,show ((Kd.slice 41 k41)).sz = 1 from rfl,Nat.mul_one] at hv178_0
   replace hv178_0:=Option.some.inj (hv178_0.symm.trans hx178_0)
   injection hv178_0 with hva_ hvn_ hvc_
   rw [hva_] at ge178_0
   rw [hvc_] at ul178_0
   have HL178_0:=Aside0.mk (show Kd.V k41 41 _ w.heap.size _ _ (rd_L5 y162 1) from Kd.V_mk ul178_0 ge178_0)
   clear hva_ hvn_ hvc_ ge178_0 ul178_0
   clear hcc178 hce178
   (try simp only [show (1 : Int).toNat = 1 from rfl,Nat.reduceMul,Nat.reduceEqDiff,Go.Addr.add,↓reduceIte] at hx178_0)
   have qi178 : (1 < y162.length) = True:=eq_true (by omega)
   (try rw [show ((1 : Int)).toNat = 1 from rfl] at hx178_0)
   have HR178_0:=Aside0.mk hi178_0
   have HC178_0:=Aside0.mk hl178_0
   clear hi178_0 hl178_0
   replace p178:=eq_true p178
   replace q178:=eq_true q178
   have p179 : 0 ≤ (0 : Int):=(by omega)
   have q179 : 0 < ((rd_L5 y162 1).length : Int):=of_decide_eq_true (by first|(with_reducible assumption)|assumption)
   obtain ⟨ad179,e179,hx179_0,hx179_1,hx179_2,hx179_3⟩:=at_T41 (by repeat (first|(with_reducible exact HR178_0.out)|(with_reducible refine Kd.C_alloc ?_ _)|(with_reducible refine Kd.C_drewN ?_ _)|(with_reducible refine Kd.C_drew ?_)|exact HR178_0.out)) 0 p179 q179
   cases e179
   have qi179 : (0 < (rd_L5 y162 1).length) = True:=eq_true (by omega)
   (try rw [show ((0 : Int)).toNat = 0 from rfl] at hx179_0)
   (try rw [show 0 * 4 = 0 from rfl] at hx179_0)
   (try rw [Addr.add_zero'] at hx179_0)
   (try rw [show ((0 : Int)).toNat = 0 from rfl] at hx179_1)
   (try rw [show 0 * 4 = 0 from rfl] at hx179_1)
   (try rw [Addr.add_zero'] at hx179_1)
   (try rw [show ((0 : Int)).toNat = 0 from rfl] at hx179_2)
   (try rw [show 0 * 4 = 0 from rfl] at hx179_2)
   (try rw [Addr.add_zero'] at hx179_2)
   (try rw [show ((0 : Int)).toNat = 0 from rfl] at hx179_3)
   (try rw [show 0 * 4 = 0 from rfl] at hx179_3)
   (try rw [Addr.add_zero'] at hx179_3)
   replace p179:=eq_true p179
   replace q179:=eq_true q179
   have p180 : 0 ≤ (0 : Int):=(by omega)
   have q180 : 0 < (y162.length : Int):=of_decide_eq_true (by first|(with_reducible assumption)|assumption)
   obtain ⟨ad180,A180_0,c180_0,e180,hx180_0,hl180_0,hi180_0⟩:=at_L5 (Kd.N_reads' HO164.out).2.2 0 p180 q180
   obtain rfl : ad176 = ad180:=(by injection e180)
   obtain ⟨ce180,hce180,hMe180,hcc180⟩:=Kd.N_get HO164.out [] 0 p180 (by first|exact q180|exact of_decide_eq_true (by first|(with_reducible assumption)|assumption)|(have e_:=(Kd.N_reads' HO164.out).1;omega))
   obtain ⟨ua180_0,uc180_0,rfl,ul180_0,ge180_0⟩:=Kd.FK_slice_open hMe180
   have hv180_0:=hcc180 0 _ rfl
   rw [Nat.add_zero,show ((Kd.slice 41 k41)).sz = 1 from rfl,Nat.mul_one] at hv180_0
   replace hv180_0:=Option.some.inj (hv180_0.symm.trans hx180_0)
   injection hv180_0 with hva_ hvn_ hvc_
   rw [hva_] at ge180_0
   rw [hvc_] at ul180_0
   have HL180_0:=Aside0.mk (show Kd.V k41 41 _ w.heap.size _ _ (rd_L5 y162 0) from Kd.V_mk ul180_0 ge180_0)
   clear hva_ hvn_ hvc_ ge180_0 ul180_0
   clear hcc180 hce180
   have qi180 : (0 < y162.length) = True:=eq_true (by omega)
   (try rw [show ((0 : Int)).toNat = 0 from rfl] at hx180_0)
   (try rw [Addr.add_zero'] at hx180_0)
   have HR180_0:=Aside0.mk hi180_0
   have HC180_0:=Aside0.mk hl180_0
   clear hi180_0 hl180_0
   replace p180:=eq_true p180
   replace q180:=eq_true q180
   have ea_:=Option.some.inj (hx176_0.symm.trans hx180_0)
   injection ea_ with ea_ en_ ec_
   subst ea_
   subst ec_
   clear en_
   have p181 : 0 ≤ (1 : Int):=(by omega)
   have q181 : 1 < ((rd_L5 y162 0).length : Int):=of_decide_eq_true (by first|(with_reducible assumption)|assumption)
   obtain ⟨ad181,e181,hx181_0,hx181_1,hx181_2,hx181_3⟩:=at_T41 (by repeat (first|(with_reducible exact HR180_0.out)|(with_reducible refine Kd.C_alloc ?_ _)|(with_reducible refine Kd.C_drewN ?_ _)|(with_reducible refine Kd.C_drew ?_)|exact HR180_0.out)) 1 p181 q181
   cases e181
   (try simp only [show (1 : Int).toNat = 1 from rfl,Nat.reduceMul,Nat.reduceEqDiff,Go.Addr.add,↓reduceIte] at hx181_0)
   (try simp only [show (1 : Int).toNat = 1 from rfl,Nat.reduceMul,Nat.reduceEqDiff,Go.Addr.add,↓reduceIte] at hx181_1)
   (try simp only [show (1 : Int).toNat = 1 from rfl,Nat.reduceMul,Nat.reduceEqDiff,Go.Addr.add,↓reduceIte] at hx181_2)
   (try simp only [show (1 : Int).toNat = 1 from rfl,Nat.reduceMul,Nat.reduceEqDiff,Go.Addr.add,↓reduceIte] at hx181_3)
   have qi181 : (1 < (rd_L5 y162 0).length) = True:=eq_true (by omega)
   (try rw [show ((1 : Int)).toNat = 1 from rfl] at hx181_0)
   (try rw [show 1 * 4 = 4 from rfl] at hx181_0)
   (try rw [show ((1 : Int)).toNat = 1 from rfl] at hx181_1)
   (try rw [show 1 * 4 = 4 from rfl] at hx181_1)
   (try rw [show ((1 : Int)).toNat = 1 from rfl] at hx181_2)
   (try rw [show 1 * 4 = 4 from rfl] at hx181_2)
   (try rw [show ((1 : Int)).toNat = 1 from rfl] at hx181_3)
   (try rw [show 1 * 4 = 4 from rfl] at hx181_3)
   replace p181:=eq_true p181
   replace q181:=eq_true q181
   refine start_ (n:=70) (S:=fun w' => Hd0 w' ad176 ad177 ad179 c176_0 c178_0 y162) (ds:=[]) #[ff,ff,ff,ff,ff,ff,ff,ff,ff,ff,ff,ff,ff,ff,ff,ff,ff,ff,ff,ff,ff,ff,ff,ff,ff,ff,ff,ff,ff,ff,ff,ff,ff,ff,ff,ff,ff,ff,ff,ff,ff,ff,ff,ff,ff,ff,ff,ff,ff,ff,ff,ff,ff,ff,ff,ff,ff,ff,ff,ff,ff,ff,ff,ff,ff,ff,ff,ff,ff,ff] (by kernel_rfl) rfl rfl ⟨hx176_0,hx177_0,hx177_1,hx177_2,hx177_3,hx178_0,hx179_0,hx179_1,hx179_2,hx179_3,hx180_0,hx181_0,hx181_1,hx181_2,hx181_3⟩ (fun hHeld => ?_);refine with_tabW ratlinelaw11_awake.tab6 ratlinelaw11_awake.bits6 (fun HT_ HW_ => ?_)
   generalize w49.drew = w50 at HO164 HB HL176_0 HL178_0 HL180_0 HR176_0 HR178_0 HR180_0 hx176_0 hx177_0 hx177_1 hx177_2 hx177_3 hx178_0 hx179_0 hx179_1 hx179_2 hx179_3 hx180_0 hx181_0 hx181_1 hx181_2 hx181_3 hHeld ⊢
   refine pure_ (i:=0) (N:=some 37) (v:=?_) (a':=?_) #[tt,ff,ff,ff,ff,ff,ff,ff,ff,ff,ff,ff,ff,ff,ff,ff,ff,ff,ff,ff,ff,ff,ff,ff,ff,ff,ff,ff,ff,ff,ff,ff,ff,ff,ff,ff,ff,ff,ff,ff,ff,ff,ff,ff,ff,ff,ff,ff,ff,ff,ff,ff,ff,ff,ff,ff,ff,ff,ff,ff,ff,ff,ff,ff,ff,ff,ff,ff,ff,ff] rfl rfl (any_of HT_.out (by kernel_rfl)) (fun _ _ _ h => h) (Or.inl ⟨by rfl,?_⟩) ?_ ?_
   rotate_left
   ·intro w'
    go_simp
    with_reducible rfl
   rotate_left
   ·simp only [Act.put,sA,sZ,sS,i64_w,i32_w]
    rfl
   refine pure_ (i:=2) (N:=some 39) (v:=?_) (a':=?_) #[tt,ff,tt,ff,ff,ff,ff,ff,ff,ff,ff,ff,ff,ff,ff,ff,ff,ff,ff,ff,ff,ff,ff,ff,ff,ff,ff,ff,ff,ff,ff,ff,ff,ff,ff,ff,ff,ff,ff,ff,ff,ff,ff,ff,ff,ff,ff,ff,ff,ff,ff,ff,ff,ff,ff,ff,ff,ff,ff,ff,ff,ff,ff,ff,ff,ff,ff,ff,ff,ff] rfl rfl (any_of HT_.out (by kernel_rfl)) (fun _ _ _ h => h) (Or.inl ⟨by rfl,?_⟩) ?_ ?_
   rotate_left
   ·intro w'
    go_simp
    with_reducible rfl
   rotate_left
   ·simp only [Act.put,sA,sZ,sS,i64_w,i32_w]
    rfl
   refine pure_ (i:=3) (N:=some 40) (v:=?_) (a':=?_) #[tt,ff,tt,tt,ff,ff,ff,ff,ff,ff,ff,ff,ff,ff,ff,ff,ff,ff,ff,ff,ff,ff,ff,ff,ff,ff,ff,ff,ff,ff,ff,ff,ff,ff,ff,ff,ff,ff,ff,ff,ff,ff,ff,ff,ff,ff,ff,ff,ff,ff,ff,ff,ff,ff,ff,ff,ff,ff,ff,ff,ff,ff,ff,ff,ff,ff,ff,ff,ff,ff] rfl rfl (any_of HT_.out (by kernel_rfl)) (fun _ _ _ h => h) (Or.inl ⟨by rfl,?_⟩) ?_ ?_
   rotate_left
   ·intro w'
    go_simp
    with_reducible rfl
   rotate_left
   ·simp only [Act.put,sA,sZ,sS,i64_w,i32_w]
    rfl
   refine pure_ (i:=7) (N:=some 44) (v:=?_) (a':=?_) #[tt,ff,tt,tt,ff,ff,ff,tt,ff,ff,ff,ff,ff,ff,ff,ff,ff,ff,ff,ff,ff,ff,ff,ff,ff,ff,ff,ff,ff,ff,ff,ff,ff,ff,ff,ff,ff,ff,ff,ff,ff,ff,ff,ff,ff,ff,ff,ff,ff,ff,ff,ff,ff,ff,ff,ff,ff,ff,ff,ff,ff,ff,ff,ff,ff,ff,ff,ff,ff,ff] rfl rfl (any_of HT_.out (by kernel_rfl)) (fun _ _ _ h => h) (Or.inl ⟨by rfl,?_⟩) ?_ ?_
   rotate_left
   ·intro w'
    go_simp
    with_reducible rfl
   rotate_left
   ·simp only [Act.put,sA,sZ,sS,i64_w,i32_w]
    rfl
   refine pure_ (i:=8) (N:=some 45) (v:=?_) (a':=?_) #[tt,ff,tt,tt,ff,ff,ff,tt,tt,ff,ff,ff,ff,ff,ff,ff,ff,ff,ff,ff,ff,ff,ff,ff,ff,ff,ff,ff,ff,ff,ff,ff,ff,ff,ff,ff,ff,ff,ff,ff,ff,ff,ff,ff,ff,ff,ff,ff,ff,ff,ff,ff,ff,ff,ff,ff,ff,ff,ff,ff,ff,ff,ff,ff,ff,ff,ff,ff,ff,ff] rfl rfl (any_of HT_.out (by kernel_rfl)) (fun _ _ _ h => h) (Or.inl ⟨by rfl,?_⟩) ?_ ?_
   rotate_left
   ·intro w'
    go_simp
    with_reducible rfl
   rotate_left
   ·simp only [Act.put,sA,sZ,sS,i64_w,i32_w]
    rfl
   refine pure_ (i:=12) (N:=some 49) (v:=?_) (a':=?_) #[tt,ff,tt,tt,ff,ff,ff,tt,tt,ff,ff,ff,tt,ff,ff,ff,ff,ff,ff,ff,ff,ff,ff,ff,ff,ff,ff,ff,ff,ff,ff,ff,ff,ff,ff,ff,ff,ff,ff,ff,ff,ff,ff,ff,ff,ff,ff,ff,ff,ff,ff,ff,ff,ff,ff,ff,ff,ff,ff,ff,ff,ff,ff,ff,ff,ff,ff,ff,ff,ff] rfl rfl (any_of HT_.out (by kernel_rfl)) (fun _ _ _ h => h) (Or.inl ⟨by rfl,?_⟩) ?_ ?_
   rotate_left
   ·intro w'
    go_simp
    with_reducible rfl
   rotate_left
   ·simp only [Act.put,sA,sZ,sS,i64_w,i32_w]
    rfl
   refine pure_ (i:=13) (N:=some 50) (v:=?_) (a':=?_) #[tt,ff,tt,tt,ff,ff,ff,tt,tt,ff,ff,ff,tt,tt,ff,ff,ff,ff,ff,ff,ff,ff,ff,ff,ff,ff,ff,ff,ff,ff,ff,ff,ff,ff,ff,ff,ff,ff,ff,ff,ff,ff,ff,ff,ff,ff,ff,ff,ff,ff,ff,ff,ff,ff,ff,ff,ff,ff,ff,ff,ff,ff,ff,ff,ff,ff,ff,ff,ff,ff] rfl rfl (any_of HT_.out (by kernel_rfl)) (fun _ _ _ h => h) (Or.inl ⟨by rfl,?_⟩) ?_ ?_
   rotate_left
   ·intro w'
    go_simp
    with_reducible rfl
   rotate_left
   ·simp only [Act.put,sA,sZ,sS,i64_w,i32_w]
    rfl
   refine take_ (i:=4) (N:=some 41) (v:=?_) (a':=?_) #[tt,ff,tt,tt,tt,ff,ff,tt,tt,ff,ff,ff,tt,tt,ff,ff,ff,ff,ff,ff,ff,ff,ff,ff,ff,ff,ff,ff,ff,ff,ff,ff,ff,ff,ff,ff,ff,ff,ff,ff,ff,ff,ff,ff,ff,ff,ff,ff,ff,ff,ff,ff,ff,ff,ff,ff,ff,ff,ff,ff,ff,ff,ff,ff,ff,ff,ff,ff,ff,ff] rfl rfl (take_ofW HT_.out HW_.out (by kernel_rfl)) (fun _ _ _ h => h) (Or.inl ⟨by rfl,?_⟩) hHeld ?_ ?_
   rotate_left
   ·rintro w' ⟨s0,s1,s2,s3,s4,s5,s6,s7,s8,s9,s10,s11,s12,s13,s14⟩
    go_simp
    with_reducible rfl
   rotate_left
   ·simp only [Act.put,sA,sZ,sS,i64_w,i32_w]
    rfl
   refine pure_ (i:=5) (N:=some 42) (v:=?_) (a':=?_) #[tt,ff,tt,tt,tt,tt,ff,tt,tt,ff,ff,ff,tt,tt,ff,ff,ff,ff,ff,ff,ff,ff,ff,ff,ff,ff,ff,ff,ff,ff,ff,ff,ff,ff,ff,ff,ff,ff,ff,ff,ff,ff,ff,ff,ff,ff,ff,ff,ff,ff,ff,ff,ff,ff,ff,ff,ff,ff,ff,ff,ff,ff,ff,ff,ff,ff,ff,ff,ff,ff] rfl rfl (any_of HT_.out (by kernel_rfl)) (fun _ _ _ h => h) (Or.inl ⟨by rfl,?_⟩) ?_ ?_
   rotate_left
   ·intro w'
    go_simp
    with_reducible rfl
   rotate_left
   ·simp only [Act.put,sA,sZ,sS,i64_w,i32_w]
    rfl
   refine take_ (i:=6) (N:=some 43) (v:=?_) (a':=?_) #[tt,ff,tt,tt,tt,tt,tt,tt,tt,ff,ff,ff,tt,tt,ff,ff,ff,ff,ff,ff,ff,ff,ff,ff,ff,ff,ff,ff,ff,ff,ff,ff,ff,ff,ff,ff,ff,ff,ff,ff,ff,ff,ff,ff,ff,ff,ff,ff,ff,ff,ff,ff,ff,ff,ff,ff,ff,ff,ff,ff,ff,ff,ff,ff,ff,ff,ff,ff,ff,ff] rfl rfl (take_ofW HT_.out HW_.out (by kernel_rfl)) (fun _ _ _ h => h) (Or.inl ⟨by rfl,?_⟩) hHeld ?_ ?_
   rotate_left
   ·rintro w' ⟨s0,s1,s2,s3,s4,s5,s6,s7,s8,s9,s10,s11,s12,s13,s14⟩
    go_simp
    with_reducible rfl
   rotate_left
   ·simp only [Act.put,sA,sZ,sS,i64_w,i32_w]
    rfl
   refine take_ (i:=9) (N:=some 46) (v:=?_) (a':=?_) #[tt,ff,tt,tt,tt,tt,tt,tt,tt,tt,ff,ff,tt,tt,ff,ff,ff,ff,ff,ff,ff,ff,ff,ff,ff,ff,ff,ff,ff,ff,ff,ff,ff,ff,ff,ff,ff,ff,ff,ff,ff,ff,ff,ff,ff,ff,ff,ff,ff,ff,ff,ff,ff,ff,ff,ff,ff,ff,ff,ff,ff,ff,ff,ff,ff,ff,ff,ff,ff,ff] rfl rfl (take_ofW HT_.out HW_.out (by kernel_rfl)) (fun _ _ _ h => h) (Or.inl ⟨by rfl,?_⟩) hHeld ?_ ?_
   rotate_left
   ·rintro w' ⟨s0,s1,s2,s3,s4,s5,s6,s7,s8,s9,s10,s11,s12,s13,s14⟩
    go_simp
    with_reducible rfl
   rotate_left
   ·simp only [Act.put,sA,sZ,sS,i64_w,i32_w]
    rfl
   refine pure_ (i:=10) (N:=some 47) (v:=?_) (a':=?_) #[tt,ff,tt,tt,tt,tt,tt,tt,tt,tt,tt,ff,tt,tt,ff,ff,ff,ff,ff,ff,ff,ff,ff,ff,ff,ff,ff,ff,ff,ff,ff,ff,ff,ff,ff,ff,ff,ff,ff,ff,ff,ff,ff,ff,ff,ff,ff,ff,ff,ff,ff,ff,ff,ff,ff,ff,ff,ff,ff,ff,ff,ff,ff,ff,ff,ff,ff,ff,ff,ff] rfl rfl (any_of HT_.out (by kernel_rfl)) (fun _ _ _ h => h) (Or.inl ⟨by rfl,?_⟩) ?_ ?_
   rotate_left
   ·intro w'
    go_simp
    with_reducible rfl
   rotate_left
   ·simp only [Act.put,sA,sZ,sS,i64_w,i32_w]
    rfl
   refine take_ (i:=11) (N:=some 48) (v:=?_) (a':=?_) #[tt,ff,tt,tt,tt,tt,tt,tt,tt,tt,tt,tt,tt,tt,ff,ff,ff,ff,ff,ff,ff,ff,ff,ff,ff,ff,ff,ff,ff,ff,ff,ff,ff,ff,ff,ff,ff,ff,ff,ff,ff,ff,ff,ff,ff,ff,ff,ff,ff,ff,ff,ff,ff,ff,ff,ff,ff,ff,ff,ff,ff,ff,ff,ff,ff,ff,ff,ff,ff,ff] rfl rfl (take_ofW HT_.out HW_.out (by kernel_rfl)) (fun _ _ _ h => h) (Or.inl ⟨by rfl,?_⟩) hHeld ?_ ?_
   rotate_left
   ·rintro w' ⟨s0,s1,s2,s3,s4,s5,s6,s7,s8,s9,s10,s11,s12,s13,s14⟩
    go_simp
    with_reducible rfl
   rotate_left
   ·simp only [Act.put,sA,sZ,sS,i64_w,i32_w]
    rfl
   refine take_ (i:=14) (N:=some 51) (v:=?_) (a':=?_) #[tt,ff,tt,tt,tt,tt,tt,tt,tt,tt,tt,tt,tt,tt,tt,ff,ff,ff,ff,ff,ff,ff,ff,ff,ff,ff,ff,ff,ff,ff,ff,ff,ff,ff,ff,ff,ff,ff,ff,ff,ff,ff,ff,ff,ff,ff,ff,ff,ff,ff,ff,ff,ff,ff,ff,ff,ff,ff,ff,ff,ff,ff,ff,ff,ff,ff,ff,ff,ff,ff] rfl rfl (take_ofW HT_.out HW_.out (by kernel_rfl)) (fun _ _ _ h => h) (Or.inl ⟨by rfl,?_⟩) hHeld ?_ ?_
   rotate_left
   ·rintro w' ⟨s0,s1,s2,s3,s4,s5,s6,s7,s8,s9,s10,s11,s12,s13,s14⟩
    go_simp
    with_reducible rfl
   rotate_left
   ·simp only [Act.put,sA,sZ,sS,i64_w,i32_w]
    rfl
   refine pure_ (i:=15) (N:=some 52) (v:=?_) (a':=?_) #[tt,ff,tt,tt,tt,tt,tt,tt,tt,tt,tt,tt,tt,tt,tt,tt,ff,ff,ff,ff,ff,ff,ff,ff,ff,ff,ff,ff,ff,ff,ff,ff,ff,ff,ff,ff,ff,ff,ff,ff,ff,ff,ff,ff,ff,ff,ff,ff,ff,ff,ff,ff,ff,ff,ff,ff,ff,ff,ff,ff,ff,ff,ff,ff,ff,ff,ff,ff,ff,ff] rfl rfl (any_of HT_.out (by kernel_rfl)) (fun _ _ _ h => h) (Or.inl ⟨by rfl,?_⟩) ?_ ?_
   rotate_left
   ·intro w'
    go_simp
    with_reducible rfl
   rotate_left
   ·simp only [Act.put,sA,sZ,sS,i64_w,i32_w]
    rfl
   refine take_ (i:=16) (N:=some 53) (v:=?_) (a':=?_) #[tt,ff,tt,tt,tt,tt,tt,tt,tt,tt,tt,tt,tt,tt,tt,tt,tt,ff,ff,ff,ff,ff,ff,ff,ff,ff,ff,ff,ff,ff,ff,ff,ff,ff,ff,ff,ff,ff,ff,ff,ff,ff,ff,ff,ff,ff,ff,ff,ff,ff,ff,ff,ff,ff,ff,ff,ff,ff,ff,ff,ff,ff,ff,ff,ff,ff,ff,ff,ff,ff] rfl rfl (take_ofW HT_.out HW_.out (by kernel_rfl)) (fun _ _ _ h => h) (Or.inl ⟨by rfl,?_⟩) hHeld ?_ ?_
   rotate_left
   ·rintro w' ⟨s0,s1,s2,s3,s4,s5,s6,s7,s8,s9,s10,s11,s12,s13,s14⟩
    go_simp
    with_reducible rfl
   rotate_left
   ·simp only [Act.put,sA,sZ,sS,i64_w,i32_w]
    rfl
   refine join_ (σ:=Value × Value × Value × Value × Value × Value × Value × Value) 9 #[tt,tt,tt,tt,tt,tt,tt,tt,tt,tt,tt,tt,tt,tt,tt,tt,tt,tt,tt,tt,tt,tt,tt,tt,tt,tt,tt,tt,tt,tt,tt,tt,tt,tt,tt,tt,tt,tt,tt,tt,tt,tt,tt,tt,tt,tt,tt,tt,tt,tt,tt,tt,tt,tt,tt,tt,tt,tt,tt,tt,tt,ff,ff,ff,ff,ff,ff,ff,ff,ff] (fun s_ => [(38,s_.1),(54,s_.2.1),(55,.bool true),(80,s_.2.2.1),(83,s_.2.2.2.1),(84,.bool true),(88,s_.2.2.2.2.1),(90,s_.2.2.2.2.2.1),(91,.bool true),(95,s_.2.2.2.2.2.2.1),(97,s_.2.2.2.2.2.2.2),(56,.bool true),(57,.bool false),(58,.bool true),(59,.bool true),(60,.bool true),(61,.bool true),(62,.bool true),(63,.bool true),(64,.string t167),(65,.bool true),(66,.bool true),(67,.bool true),(68,.bool false),(69,.bool true),(70,.bool true),(71,.bool true),(72,.bool true),(73,.bool true),(74,.bool true),(75,.string t171),(76,.bool true),(77,.bool true),(78,.bool true),(79,.slice (some ad176) y162.length co45),(81,.agg #[.string (⟨#[97]⟩ : BA),.string (⟨#[120]⟩ : BA)]),(82,.agg #[.string (⟨#[98]⟩ : BA),.string (⟨#[121]⟩ : BA)]),(85,.bool true),(86,.bool true),(87,.slice (some ad176) y162.length co45),(89,.agg #[.string (⟨#[98]⟩ : BA),.string (⟨#[121]⟩ : BA)]),(92,.bool true),(93,.bool true),(94,.slice (some ad176) y162.length co45),(96,.agg #[.string (⟨#[97]⟩ : BA),.string (⟨#[120]⟩ : BA)])]) (fun s_ w' => (Hd0 w' ad176 ad177 ad179 c176_0 c178_0 y162) ∧ (Kd.V k41 41 w' w.heap.size (fun k_ => nO k_ (.slice (some ad176) y162.length co45) ∧ nO k_ s_.1 ∧ nO k_ s_.2.1 ∧ nO k_ s_.2.2.1 ∧ nO k_ s_.2.2.2.1 ∧ nO k_ s_.2.2.2.2.1 ∧ nO k_ s_.2.2.2.2.2.1 ∧ nO k_ s_.2.2.2.2.2.2.1 ∧ nO k_ s_.2.2.2.2.2.2.2) (.slice (some ad177) (rd_L5 y162 0).length c176_0) (rd_L5 y162 0)) ∧ (Kd.V k41 41 w' w.heap.size (fun k_ => nO k_ (.slice (some ad176) y162.length co45) ∧ nO k_ s_.1 ∧ nO k_ s_.2.1 ∧ nO k_ s_.2.2.1 ∧ nO k_ s_.2.2.2.1 ∧ nO k_ s_.2.2.2.2.1 ∧ nO k_ s_.2.2.2.2.2.1 ∧ nO k_ s_.2.2.2.2.2.2.1 ∧ nO k_ s_.2.2.2.2.2.2.2) (.slice (some ad179) (rd_L5 y162 1).length c178_0) (rd_L5 y162 1)) ∧ (Kd.V k41 41 w' w.heap.size (fun k_ => nO k_ (.slice (some ad176) y162.length co45) ∧ nO k_ s_.1 ∧ nO k_ s_.2.1 ∧ nO k_ s_.2.2.1 ∧ nO k_ s_.2.2.2.1 ∧ nO k_ s_.2.2.2.2.1 ∧ nO k_ s_.2.2.2.2.2.1 ∧ nO k_ s_.2.2.2.2.2.2.1 ∧ nO k_ s_.2.2.2.2.2.2.2) (.slice (some ad177) (rd_L5 y162 0).length c176_0) (rd_L5 y162 0)) ∧ (Kd.N (Kd.slice 41 k41) 29 w' w.heap.size (fun k_ => nO k_ s_.1 ∧ nO k_ s_.2.1 ∧ nO k_ s_.2.2.1 ∧ nO k_ s_.2.2.2.1 ∧ nO k_ s_.2.2.2.2.1 ∧ nO k_ s_.2.2.2.2.2.1 ∧ nO k_ s_.2.2.2.2.2.2.1 ∧ nO k_ s_.2.2.2.2.2.2.2) (.slice (some ad176) y162.length co45) y162) ∧ (Kd.R k41 41 w' w.heap.size (fun k_ => nO k_ s_.2.1) s_.1 t173) ∧ (Kd.R k41 41 w' w.heap.size (fun k_ => nO k_ s_.1) s_.2.1 y182) ∧ (Kd.R k37 37 w' w.heap.size (fun k_ => nO k_ s_.2.2.2.1 ∧ nO k_ s_.2.2.2.2.1 ∧ nO k_ s_.2.2.2.2.2.1 ∧ nO k_ s_.2.2.2.2.2.2.1 ∧ nO k_ s_.2.2.2.2.2.2.2) s_.2.2.1 t186) ∧ (Kd.R k37 37 w' w.heap.size (fun k_ => nO k_ s_.2.2.1 ∧ nO k_ s_.2.2.2.2.1 ∧ nO k_ s_.2.2.2.2.2.1 ∧ nO k_ s_.2.2.2.2.2.2.1 ∧ nO k_ s_.2.2.2.2.2.2.2) s_.2.2.2.1 y189) ∧ (Kd.R k37 37 w' w.heap.size (fun k_ => nO k_ s_.2.2.1 ∧ nO k_ s_.2.2.2.1 ∧ nO k_ s_.2.2.2.2.2.1 ∧ nO k_ s_.2.2.2.2.2.2.1 ∧ nO k_ s_.2.2.2.2.2.2.2) s_.2.2.2.2.1 t193) ∧ (Kd.R k37 37 w' w.heap.size (fun k_ => nO k_ s_.2.2.1 ∧ nO k_ s_.2.2.2.1 ∧ nO k_ s_.2.2.2.2.1 ∧ nO k_ s_.2.2.2.2.2.2.1 ∧ nO k_ s_.2.2.2.2.2.2.2) s_.2.2.2.2.2.1 y196) ∧ (Kd.R k37 37 w' w.heap.size (fun k_ => nO k_ s_.2.2.1 ∧ nO k_ s_.2.2.2.1 ∧ nO k_ s_.2.2.2.2.1 ∧ nO k_ s_.2.2.2.2.2.1 ∧ nO k_ s_.2.2.2.2.2.2.2) s_.2.2.2.2.2.2.1 t200) ∧ (Kd.R k37 37 w' w.heap.size (fun k_ => nO k_ s_.2.2.1 ∧ nO k_ s_.2.2.2.1 ∧ nO k_ s_.2.2.2.2.1 ∧ nO k_ s_.2.2.2.2.2.1 ∧ nO k_ s_.2.2.2.2.2.2.1) s_.2.2.2.2.2.2.2 y203) ∧ (Below w.heap.size w w')) ?_ ?_
   rotate_left
   ·intro hJ1_17_18_43_46_47_51_53_54_58_60
    refine join_ (σ:=Value × Value × Value × Value × Value × Value × Value) 10 #[tt,tt,tt,tt,tt,tt,tt,tt,tt,tt,tt,tt,tt,tt,tt,tt,tt,tt,tt,tt,tt,tt,tt,tt,tt,tt,tt,tt,tt,tt,tt,tt,tt,tt,tt,tt,tt,tt,tt,tt,tt,tt,tt,tt,tt,tt,tt,tt,tt,tt,tt,tt,tt,tt,tt,tt,tt,tt,tt,tt,ff,ff,ff,ff,ff,ff,ff,ff,ff,ff] (fun s_ => [(38,s_.1),(54,s_.2.1),(55,.bool true),(80,s_.2.2.1),(83,s_.2.2.2.1),(84,.bool true),(88,s_.2.2.2.2.1),(90,s_.2.2.2.2.2.1),(91,.bool true),(95,s_.2.2.2.2.2.2),(56,.bool true),(57,.bool false),(58,.bool true),(59,.bool true),(60,.bool true),(61,.bool true),(62,.bool true),(63,.bool true),(64,.string t167),(65,.bool true),(66,.bool true),(67,.bool true),(68,.bool false),(69,.bool true),(70,.bool true),(71,.bool true),(72,.bool true),(73,.bool true),(74,.bool true),(75,.string t171),(76,.bool true),(77,.bool true),(78,.bool true),(79,.slice (some ad176) y162.length co45),(81,.agg #[.string (⟨#[97]⟩ : BA),.string (⟨#[120]⟩ : BA)]),(82,.agg #[.string (⟨#[98]⟩ : BA),.string (⟨#[121]⟩ : BA)]),(85,.bool true),(86,.bool true),(87,.slice (some ad176) y162.length co45),(89,.agg #[.string (⟨#[98]⟩ : BA),.string (⟨#[121]⟩ : BA)]),(92,.bool true),(93,.bool true),(94,.slice (some ad176) y162.length co45),(96,.agg #[.string (⟨#[97]⟩ : BA),.string (⟨#[120]⟩ : BA)])]) (fun s_ w' => (Hd0 w' ad176 ad177 ad179 c176_0 c178_0 y162) ∧ (Kd.V k41 41 w' w.heap.size (fun k_ => nO k_ (.slice (some ad176) y162.length co45) ∧ nO k_ s_.1 ∧ nO k_ s_.2.1 ∧ nO k_ s_.2.2.1 ∧ nO k_ s_.2.2.2.1 ∧ nO k_ s_.2.2.2.2.1 ∧ nO k_ s_.2.2.2.2.2.1 ∧ nO k_ s_.2.2.2.2.2.2) (.slice (some ad177) (rd_L5 y162 0).length c176_0) (rd_L5 y162 0)) ∧ (Kd.V k41 41 w' w.heap.size (fun k_ => nO k_ (.slice (some ad176) y162.length co45) ∧ nO k_ s_.1 ∧ nO k_ s_.2.1 ∧ nO k_ s_.2.2.1 ∧ nO k_ s_.2.2.2.1 ∧ nO k_ s_.2.2.2.2.1 ∧ nO k_ s_.2.2.2.2.2.1 ∧ nO k_ s_.2.2.2.2.2.2) (.slice (some ad179) (rd_L5 y162 1).length c178_0) (rd_L5 y162 1)) ∧ (Kd.V k41 41 w' w.heap.size (fun k_ => nO k_ (.slice (some ad176) y162.length co45) ∧ nO k_ s_.1 ∧ nO k_ s_.2.1 ∧ nO k_ s_.2.2.1 ∧ nO k_ s_.2.2.2.1 ∧ nO k_ s_.2.2.2.2.1 ∧ nO k_ s_.2.2.2.2.2.1 ∧ nO k_ s_.2.2.2.2.2.2) (.slice (some ad177) (rd_L5 y162 0).length c176_0) (rd_L5 y162 0)) ∧ (Kd.N (Kd.slice 41 k41) 29 w' w.heap.size (fun k_ => nO k_ s_.1 ∧ nO k_ s_.2.1 ∧ nO k_ s_.2.2.1 ∧ nO k_ s_.2.2.2.1 ∧ nO k_ s_.2.2.2.2.1 ∧ nO k_ s_.2.2.2.2.2.1 ∧ nO k_ s_.2.2.2.2.2.2) (.slice (some ad176) y162.length co45) y162) ∧ (Kd.R k41 41 w' w.heap.size (fun k_ => nO k_ s_.2.1) s_.1 t173) ∧ (Kd.R k41 41 w' w.heap.size (fun k_ => nO k_ s_.1) s_.2.1 y182) ∧ (Kd.R k37 37 w' w.heap.size (fun k_ => nO k_ s_.2.2.2.1 ∧ nO k_ s_.2.2.2.2.1 ∧ nO k_ s_.2.2.2.2.2.1 ∧ nO k_ s_.2.2.2.2.2.2) s_.2.2.1 t186) ∧ (Kd.R k37 37 w' w.heap.size (fun k_ => nO k_ s_.2.2.1 ∧ nO k_ s_.2.2.2.2.1 ∧ nO k_ s_.2.2.2.2.2.1 ∧ nO k_ s_.2.2.2.2.2.2) s_.2.2.2.1 y189) ∧ (Kd.R k37 37 w' w.heap.size (fun k_ => nO k_ s_.2.2.1 ∧ nO k_ s_.2.2.2.1 ∧ nO k_ s_.2.2.2.2.2.1 ∧ nO k_ s_.2.2.2.2.2.2) s_.2.2.2.2.1 t193) ∧ (Kd.R k37 37 w' w.heap.size (fun k_ => nO k_ s_.2.2.1 ∧ nO k_ s_.2.2.2.1 ∧ nO k_ s_.2.2.2.2.1 ∧ nO k_ s_.2.2.2.2.2.2) s_.2.2.2.2.2.1 y196) ∧ (Kd.R k37 37 w' w.heap.size (fun k_ => nO k_ s_.2.2.1 ∧ nO k_ s_.2.2.2.1 ∧ nO k_ s_.2.2.2.2.1 ∧ nO k_ s_.2.2.2.2.2.1) s_.2.2.2.2.2.2 t200) ∧ (Below w.heap.size w w')) ?_ ?_
    rotate_left
    ·intro hJ1_17_18_43_46_47_51_53_54_58
     refine join_ (σ:=Value × Value × Value × Value × Value × Value × Value) 10 #[tt,tt,tt,tt,tt,tt,tt,tt,tt,tt,tt,tt,tt,tt,tt,tt,tt,tt,tt,tt,tt,tt,tt,tt,tt,tt,tt,tt,tt,tt,tt,tt,tt,tt,tt,tt,tt,tt,tt,tt,tt,tt,tt,tt,tt,tt,tt,tt,tt,tt,tt,tt,tt,tt,tt,tt,tt,tt,ff,tt,tt,ff,ff,ff,ff,ff,ff,ff,ff,ff] (fun s_ => [(38,s_.1),(54,s_.2.1),(55,.bool true),(80,s_.2.2.1),(83,s_.2.2.2.1),(84,.bool true),(88,s_.2.2.2.2.1),(90,s_.2.2.2.2.2.1),(91,.bool true),(97,s_.2.2.2.2.2.2),(56,.bool true),(57,.bool false),(58,.bool true),(59,.bool true),(60,.bool true),(61,.bool true),(62,.bool true),(63,.bool true),(64,.string t167),(65,.bool true),(66,.bool true),(67,.bool true),(68,.bool false),(69,.bool true),(70,.bool true),(71,.bool true),(72,.bool true),(73,.bool true),(74,.bool true),(75,.string t171),(76,.bool true),(77,.bool true),(78,.bool true),(79,.slice (some ad176) y162.length co45),(81,.agg #[.string (⟨#[97]⟩ : BA),.string (⟨#[120]⟩ : BA)]),(82,.agg #[.string (⟨#[98]⟩ : BA),.string (⟨#[121]⟩ : BA)]),(85,.bool true),(86,.bool true),(87,.slice (some ad176) y162.length co45),(89,.agg #[.string (⟨#[98]⟩ : BA),.string (⟨#[121]⟩ : BA)]),(92,.bool true),(93,.bool true),(94,.slice (some ad176) y162.length co45),(96,.agg #[.string (⟨#[97]⟩ : BA),.string (⟨#[120]⟩ : BA)])]) (fun s_ w' => (Hd0 w' ad176 ad177 ad179 c176_0 c178_0 y162) ∧ (Kd.V k41 41 w' w.heap.size (fun k_ => nO k_ (.slice (some ad176) y162.length co45) ∧ nO k_ s_.1 ∧ nO k_ s_.2.1 ∧ nO k_ s_.2.2.1 ∧ nO k_ s_.2.2.2.1 ∧ nO k_ s_.2.2.2.2.1 ∧ nO k_ s_.2.2.2.2.2.1 ∧ nO k_ s_.2.2.2.2.2.2) (.slice (some ad177) (rd_L5 y162 0).length c176_0) (rd_L5 y162 0)) ∧ (Kd.V k41 41 w' w.heap.size (fun k_ => nO k_ (.slice (some ad176) y162.length co45) ∧ nO k_ s_.1 ∧ nO k_ s_.2.1 ∧ nO k_ s_.2.2.1 ∧ nO k_ s_.2.2.2.1 ∧ nO k_ s_.2.2.2.2.1 ∧ nO k_ s_.2.2.2.2.2.1 ∧ nO k_ s_.2.2.2.2.2.2) (.slice (some ad179) (rd_L5 y162 1).length c178_0) (rd_L5 y162 1)) ∧ (Kd.V k41 41 w' w.heap.size (fun k_ => nO k_ (.slice (some ad176) y162.length co45) ∧ nO k_ s_.1 ∧ nO k_ s_.2.1 ∧ nO k_ s_.2.2.1 ∧ nO k_ s_.2.2.2.1 ∧ nO k_ s_.2.2.2.2.1 ∧ nO k_ s_.2.2.2.2.2.1 ∧ nO k_ s_.2.2.2.2.2.2) (.slice (some ad177) (rd_L5 y162 0).length c176_0) (rd_L5 y162 0)) ∧ (Kd.N (Kd.slice 41 k41) 29 w' w.heap.size (fun k_ => nO k_ s_.1 ∧ nO k_ s_.2.1 ∧ nO k_ s_.2.2.1 ∧ nO k_ s_.2.2.2.1 ∧ nO k_ s_.2.2.2.2.1 ∧ nO k_ s_.2.2.2.2.2.1 ∧ nO k_ s_.2.2.2.2.2.2) (.slice (some ad176) y162.length co45) y162) ∧ (Kd.R k41 41 w' w.heap.size (fun k_ => nO k_ s_.2.1) s_.1 t173) ∧ (Kd.R k41 41 w' w.heap.size (fun k_ => nO k_ s_.1) s_.2.1 y182) ∧ (Kd.R k37 37 w' w.heap.size (fun k_ => nO k_ s_.2.2.2.1 ∧ nO k_ s_.2.2.2.2.1 ∧ nO k_ s_.2.2.2.2.2.1 ∧ nO k_ s_.2.2.2.2.2.2) s_.2.2.1 t186) ∧ (Kd.R k37 37 w' w.heap.size (fun k_ => nO k_ s_.2.2.1 ∧ nO k_ s_.2.2.2.2.1 ∧ nO k_ s_.2.2.2.2.2.1 ∧ nO k_ s_.2.2.2.2.2.2) s_.2.2.2.1 y189) ∧ (Kd.R k37 37 w' w.heap.size (fun k_ => nO k_ s_.2.2.1 ∧ nO k_ s_.2.2.2.1 ∧ nO k_ s_.2.2.2.2.2.1 ∧ nO k_ s_.2.2.2.2.2.2) s_.2.2.2.2.1 t193) ∧ (Kd.R k37 37 w' w.heap.size (fun k_ => nO k_ s_.2.2.1 ∧ nO k_ s_.2.2.2.1 ∧ nO k_ s_.2.2.2.2.1 ∧ nO k_ s_.2.2.2.2.2.2) s_.2.2.2.2.2.1 y196) ∧ (Kd.R k37 37 w' w.heap.size (fun k_ => nO k_ s_.2.2.1 ∧ nO k_ s_.2.2.2.1 ∧ nO k_ s_.2.2.2.2.1 ∧ nO k_ s_.2.2.2.2.2.1) s_.2.2.2.2.2.2 y203) ∧ (Below w.heap.size w w')) ?_ ?_
     rotate_left
     ·intro hJ1_17_18_43_46_47_51_53_54_60
      refine join_ (σ:=Value × Value × Value × Value × Value × Value) 11 #[tt,tt,tt,tt,tt,tt,tt,tt,tt,tt,tt,tt,tt,tt,tt,tt,tt,tt,tt,tt,tt,tt,tt,tt,tt,tt,tt,tt,tt,tt,tt,tt,tt,tt,tt,tt,tt,tt,tt,tt,tt,tt,tt,tt,tt,tt,tt,tt,tt,tt,tt,tt,tt,tt,tt,tt,tt,tt,ff,tt,ff,ff,ff,ff,ff,ff,ff,ff,ff,ff] (fun s_ => [(38,s_.1),(54,s_.2.1),(55,.bool true),(80,s_.2.2.1),(83,s_.2.2.2.1),(84,.bool true),(88,s_.2.2.2.2.1),(90,s_.2.2.2.2.2),(91,.bool true),(56,.bool true),(57,.bool false),(58,.bool true),(59,.bool true),(60,.bool true),(61,.bool true),(62,.bool true),(63,.bool true),(64,.string t167),(65,.bool true),(66,.bool true),(67,.bool true),(68,.bool false),(69,.bool true),(70,.bool true),(71,.bool true),(72,.bool true),(73,.bool true),(74,.bool true),(75,.string t171),(76,.bool true),(77,.bool true),(78,.bool true),(79,.slice (some ad176) y162.length co45),(81,.agg #[.string (⟨#[97]⟩ : BA),.string (⟨#[120]⟩ : BA)]),(82,.agg #[.string (⟨#[98]⟩ : BA),.string (⟨#[121]⟩ : BA)]),(85,.bool true),(86,.bool true),(87,.slice (some ad176) y162.length co45),(89,.agg #[.string (⟨#[98]⟩ : BA),.string (⟨#[121]⟩ : BA)]),(92,.bool true),(93,.bool true),(94,.slice (some ad176) y162.length co45),(96,.agg #[.string (⟨#[97]⟩ : BA),.string (⟨#[120]⟩ : BA)])]) (fun s_ w' => (Hd0 w' ad176 ad177 ad179 c176_0 c178_0 y162) ∧ (Kd.V k41 41 w' w.heap.size (fun k_ => nO k_ (.slice (some ad176) y162.length co45) ∧ nO k_ s_.1 ∧ nO k_ s_.2.1 ∧ nO k_ s_.2.2.1 ∧ nO k_ s_.2.2.2.1 ∧ nO k_ s_.2.2.2.2.1 ∧ nO k_ s_.2.2.2.2.2) (.slice (some ad177) (rd_L5 y162 0).length c176_0) (rd_L5 y162 0)) ∧ (Kd.V k41 41 w' w.heap.size (fun k_ => nO k_ (.slice (some ad176) y162.length co45) ∧ nO k_ s_.1 ∧ nO k_ s_.2.1 ∧ nO k_ s_.2.2.1 ∧ nO k_ s_.2.2.2.1 ∧ nO k_ s_.2.2.2.2.1 ∧ nO k_ s_.2.2.2.2.2) (.slice (some ad179) (rd_L5 y162 1).length c178_0) (rd_L5 y162 1)) ∧ (Kd.V k41 41 w' w.heap.size (fun k_ => nO k_ (.slice (some ad176) y162.length co45) ∧ nO k_ s_.1 ∧ nO k_ s_.2.1 ∧ nO k_ s_.2.2.1 ∧ nO k_ s_.2.2.2.1 ∧ nO k_ s_.2.2.2.2.1 ∧ nO k_ s_.2.2.2.2.2) (.slice (some ad177) (rd_L5 y162 0).length c176_0) (rd_L5 y162 0)) ∧ (Kd.N (Kd.slice 41 k41) 29 w' w.heap.size (fun k_ => nO k_ s_.1 ∧ nO k_ s_.2.1 ∧ nO k_ s_.2.2.1 ∧ nO k_ s_.2.2.2.1 ∧ nO k_ s_.2.2.2.2.1 ∧ nO k_ s_.2.2.2.2.2) (.slice (some ad176) y162.length co45) y162) ∧ (Kd.R k41 41 w' w.heap.size (fun k_ => nO k_ s_.2.1) s_.1 t173) ∧ (Kd.R k41 41 w' w.heap.size (fun k_ => nO k_ s_.1) s_.2.1 y182) ∧ (Kd.R k37 37 w' w.heap.size (fun k_ => nO k_ s_.2.2.2.1 ∧ nO k_ s_.2.2.2.2.1 ∧ nO k_ s_.2.2.2.2.2) s_.2.2.1 t186) ∧ (Kd.R k37 37 w' w.heap.size (fun k_ => nO k_ s_.2.2.1 ∧ nO k_ s_.2.2.2.2.1 ∧ nO k_ s_.2.2.2.2.2) s_.2.2.2.1 y189) ∧ (Kd.R k37 37 w' w.heap.size (fun k_ => nO k_ s_.2.2.1 ∧ nO k_ s_.2.2.2.1 ∧ nO k_ s_.2.2.2.2.2) s_.2.2.2.2.1 t193) ∧ (Kd.R k37 37 w' w.heap.size (fun k_ => nO k_ s_.2.2.1 ∧ nO k_ s_.2.2.2.1 ∧ nO k_ s_.2.2.2.2.1) s_.2.2.2.2.2 y196) ∧ (Below w.heap.size w w')) ?_ ?_
      rotate_left
      ·intro hJ1_17_18_43_46_47_51_53_54
       refine join_ (σ:=Value × Value × Value × Value × Value × Value) 16 #[tt,tt,tt,tt,tt,tt,tt,tt,tt,tt,tt,tt,tt,tt,tt,tt,tt,tt,tt,tt,tt,tt,tt,tt,tt,tt,tt,tt,tt,tt,tt,tt,tt,tt,tt,tt,tt,tt,tt,tt,tt,tt,tt,tt,tt,tt,tt,tt,tt,tt,tt,tt,tt,tt,ff,ff,ff,ff,ff,ff,ff,ff,ff,ff,ff,ff,ff,ff,ff,ff] (fun s_ => [(38,s_.1),(54,s_.2.1),(55,.bool true),(80,s_.2.2.1),(83,s_.2.2.2.1),(84,.bool true),(88,s_.2.2.2.2.1),(90,s_.2.2.2.2.2),(56,.bool true),(57,.bool false),(58,.bool true),(59,.bool true),(60,.bool true),(61,.bool true),(62,.bool true),(63,.bool true),(64,.string t167),(65,.bool true),(66,.bool true),(67,.bool true),(68,.bool false),(69,.bool true),(70,.bool true),(71,.bool true),(72,.bool true),(73,.bool true),(74,.bool true),(75,.string t171),(76,.bool true),(77,.bool true),(78,.bool true),(79,.slice (some ad176) y162.length co45),(81,.agg #[.string (⟨#[97]⟩ : BA),.string (⟨#[120]⟩ : BA)]),(82,.agg #[.string (⟨#[98]⟩ : BA),.string (⟨#[121]⟩ : BA)]),(85,.bool true),(86,.bool true),(87,.slice (some ad176) y162.length co45),(89,.agg #[.string (⟨#[98]⟩ : BA),.string (⟨#[121]⟩ : BA)])]) (fun s_ w' => (Hd0 w' ad176 ad177 ad179 c176_0 c178_0 y162) ∧ (Kd.V k41 41 w' w.heap.size (fun k_ => nO k_ (.slice (some ad176) y162.length co45) ∧ nO k_ s_.1 ∧ nO k_ s_.2.1 ∧ nO k_ s_.2.2.1 ∧ nO k_ s_.2.2.2.1 ∧ nO k_ s_.2.2.2.2.1 ∧ nO k_ s_.2.2.2.2.2) (.slice (some ad177) (rd_L5 y162 0).length c176_0) (rd_L5 y162 0)) ∧ (Kd.V k41 41 w' w.heap.size (fun k_ => nO k_ (.slice (some ad176) y162.length co45) ∧ nO k_ s_.1 ∧ nO k_ s_.2.1 ∧ nO k_ s_.2.2.1 ∧ nO k_ s_.2.2.2.1 ∧ nO k_ s_.2.2.2.2.1 ∧ nO k_ s_.2.2.2.2.2) (.slice (some ad179) (rd_L5 y162 1).length c178_0) (rd_L5 y162 1)) ∧ (Kd.V k41 41 w' w.heap.size (fun k_ => nO k_ (.slice (some ad176) y162.length co45) ∧ nO k_ s_.1 ∧ nO k_ s_.2.1 ∧ nO k_ s_.2.2.1 ∧ nO k_ s_.2.2.2.1 ∧ nO k_ s_.2.2.2.2.1 ∧ nO k_ s_.2.2.2.2.2) (.slice (some ad177) (rd_L5 y162 0).length c176_0) (rd_L5 y162 0)) ∧ (Kd.N (Kd.slice 41 k41) 29 w' w.heap.size (fun k_ => nO k_ s_.1 ∧ nO k_ s_.2.1 ∧ nO k_ s_.2.2.1 ∧ nO k_ s_.2.2.2.1 ∧ nO k_ s_.2.2.2.2.1 ∧ nO k_ s_.2.2.2.2.2) (.slice (some ad176) y162.length co45) y162) ∧ (Kd.R k41 41 w' w.heap.size (fun k_ => nO k_ s_.2.1) s_.1 t173) ∧ (Kd.R k41 41 w' w.heap.size (fun k_ => nO k_ s_.1) s_.2.1 y182) ∧ (Kd.R k37 37 w' w.heap.size (fun k_ => nO k_ s_.2.2.2.1 ∧ nO k_ s_.2.2.2.2.1 ∧ nO k_ s_.2.2.2.2.2) s_.2.2.1 t186) ∧ (Kd.R k37 37 w' w.heap.size (fun k_ => nO k_ s_.2.2.1 ∧ nO k_ s_.2.2.2.2.1 ∧ nO k_ s_.2.2.2.2.2) s_.2.2.2.1 y189) ∧ (Kd.R k37 37 w' w.heap.size (fun k_ => nO k_ s_.2.2.1 ∧ nO k_ s_.2.2.2.1 ∧ nO k_ s_.2.2.2.2.2) s_.2.2.2.2.1 t193) ∧ (Kd.R k37 37 w' w.heap.size (fun k_ => nO k_ s_.2.2.1 ∧ nO k_ s_.2.2.2.1 ∧ nO k_ s_.2.2.2.2.1) s_.2.2.2.2.2 y196) ∧ (Below w.heap.size w w')) ?_ ?_
       rotate_left
       ·intro hJ1_17_18_43_46_47_51_53
        refine join_ (σ:=Value × Value × Value × Value × Value) 17 #[tt,tt,tt,tt,tt,tt,tt,tt,tt,tt,tt,tt,tt,tt,tt,tt,tt,tt,tt,tt,tt,tt,tt,tt,tt,tt,tt,tt,tt,tt,tt,tt,tt,tt,tt,tt,tt,tt,tt,tt,tt,tt,tt,tt,tt,tt,tt,tt,tt,tt,tt,tt,tt,ff,ff,ff,ff,ff,ff,ff,ff,ff,ff,ff,ff,ff,ff,ff,ff,ff] (fun s_ => [(38,s_.1),(54,s_.2.1),(55,.bool true),(80,s_.2.2.1),(83,s_.2.2.2.1),(84,.bool true),(88,s_.2.2.2.2),(56,.bool true),(57,.bool false),(58,.bool true),(59,.bool true),(60,.bool true),(61,.bool true),(62,.bool true),(63,.bool true),(64,.string t167),(65,.bool true),(66,.bool true),(67,.bool true),(68,.bool false),(69,.bool true),(70,.bool true),(71,.bool true),(72,.bool true),(73,.bool true),(74,.bool true),(75,.string t171),(76,.bool true),(77,.bool true),(78,.bool true),(79,.slice (some ad176) y162.length co45),(81,.agg #[.string (⟨#[97]⟩ : BA),.string (⟨#[120]⟩ : BA)]),(82,.agg #[.string (⟨#[98]⟩ : BA),.string (⟨#[121]⟩ : BA)]),(85,.bool true),(86,.bool true),(87,.slice (some ad176) y162.length co45),(89,.agg #[.string (⟨#[98]⟩ : BA),.string (⟨#[121]⟩ : BA)])]) (fun s_ w' => (Hd0 w' ad176 ad177 ad179 c176_0 c178_0 y162) ∧ (Kd.V k41 41 w' w.heap.size (fun k_ => nO k_ (.slice (some ad176) y162.length co45) ∧ nO k_ s_.1 ∧ nO k_ s_.2.1 ∧ nO k_ s_.2.2.1 ∧ nO k_ s_.2.2.2.1 ∧ nO k_ s_.2.2.2.2) (.slice (some ad177) (rd_L5 y162 0).length c176_0) (rd_L5 y162 0)) ∧ (Kd.V k41 41 w' w.heap.size (fun k_ => nO k_ (.slice (some ad176) y162.length co45) ∧ nO k_ s_.1 ∧ nO k_ s_.2.1 ∧ nO k_ s_.2.2.1 ∧ nO k_ s_.2.2.2.1 ∧ nO k_ s_.2.2.2.2) (.slice (some ad179) (rd_L5 y162 1).length c178_0) (rd_L5 y162 1)) ∧ (Kd.V k41 41 w' w.heap.size (fun k_ => nO k_ (.slice (some ad176) y162.length co45) ∧ nO k_ s_.1 ∧ nO k_ s_.2.1 ∧ nO k_ s_.2.2.1 ∧ nO k_ s_.2.2.2.1 ∧ nO k_ s_.2.2.2.2) (.slice (some ad177) (rd_L5 y162 0).length c176_0) (rd_L5 y162 0)) ∧ (Kd.N (Kd.slice 41 k41) 29 w' w.heap.size (fun k_ => nO k_ s_.1 ∧ nO k_ s_.2.1 ∧ nO k_ s_.2.2.1 ∧ nO k_ s_.2.2.2.1 ∧ nO k_ s_.2.2.2.2) (.slice (some ad176) y162.length co45) y162) ∧ (Kd.R k41 41 w' w.heap.size (fun k_ => nO k_ s_.2.1) s_.1 t173) ∧ (Kd.R k41 41 w' w.heap.size (fun k_ => nO k_ s_.1) s_.2.1 y182) ∧ (Kd.R k37 37 w' w.heap.size (fun k_ => nO k_ s_.2.2.2.1 ∧ nO k_ s_.2.2.2.2) s_.2.2.1 t186) ∧ (Kd.R k37 37 w' w.heap.size (fun k_ => nO k_ s_.2.2.1 ∧ nO k_ s_.2.2.2.2) s_.2.2.2.1 y189) ∧ (Kd.R k37 37 w' w.heap.size (fun k_ => nO k_ s_.2.2.1 ∧ nO k_ s_.2.2.2.1) s_.2.2.2.2 t193) ∧ (Below w.heap.size w w')) ?_ ?_
        rotate_left
        ·intro hJ1_17_18_43_46_47_51
         refine join_ (σ:=Value × Value × Value × Value × Value) 17 #[tt,tt,tt,tt,tt,tt,tt,tt,tt,tt,tt,tt,tt,tt,tt,tt,tt,tt,tt,tt,tt,tt,tt,tt,tt,tt,tt,tt,tt,tt,tt,tt,tt,tt,tt,tt,tt,tt,tt,tt,tt,tt,tt,tt,tt,tt,tt,tt,tt,tt,tt,ff,tt,tt,ff,ff,ff,ff,ff,ff,ff,ff,ff,ff,ff,ff,ff,ff,ff,ff] (fun s_ => [(38,s_.1),(54,s_.2.1),(55,.bool true),(80,s_.2.2.1),(83,s_.2.2.2.1),(84,.bool true),(90,s_.2.2.2.2),(56,.bool true),(57,.bool false),(58,.bool true),(59,.bool true),(60,.bool true),(61,.bool true),(62,.bool true),(63,.bool true),(64,.string t167),(65,.bool true),(66,.bool true),(67,.bool true),(68,.bool false),(69,.bool true),(70,.bool true),(71,.bool true),(72,.bool true),(73,.bool true),(74,.bool true),(75,.string t171),(76,.bool true),(77,.bool true),(78,.bool true),(79,.slice (some ad176) y162.length co45),(81,.agg #[.string (⟨#[97]⟩ : BA),.string (⟨#[120]⟩ : BA)]),(82,.agg #[.string (⟨#[98]⟩ : BA),.string (⟨#[121]⟩ : BA)]),(85,.bool true),(86,.bool true),(87,.slice (some ad176) y162.length co45),(89,.agg #[.string (⟨#[98]⟩ : BA),.string (⟨#[121]⟩ : BA)])]) (fun s_ w' => (Hd0 w' ad176 ad177 ad179 c176_0 c178_0 y162) ∧ (Kd.V k41 41 w' w.heap.size (fun k_ => nO k_ (.slice (some ad176) y162.length co45) ∧ nO k_ s_.1 ∧ nO k_ s_.2.1 ∧ nO k_ s_.2.2.1 ∧ nO k_ s_.2.2.2.1 ∧ nO k_ s_.2.2.2.2) (.slice (some ad177) (rd_L5 y162 0).length c176_0) (rd_L5 y162 0)) ∧ (Kd.V k41 41 w' w.heap.size (fun k_ => nO k_ (.slice (some ad176) y162.length co45) ∧ nO k_ s_.1 ∧ nO k_ s_.2.1 ∧ nO k_ s_.2.2.1 ∧ nO k_ s_.2.2.2.1 ∧ nO k_ s_.2.2.2.2) (.slice (some ad179) (rd_L5 y162 1).length c178_0) (rd_L5 y162 1)) ∧ (Kd.V k41 41 w' w.heap.size (fun k_ => nO k_ (.slice (some ad176) y162.length co45) ∧ nO k_ s_.1 ∧ nO k_ s_.2.1 ∧ nO k_ s_.2.2.1 ∧ nO k_ s_.2.2.2.1 ∧ nO k_ s_.2.2.2.2) (.slice (some ad177) (rd_L5 y162 0).length c176_0) (rd_L5 y162 0)) ∧ (Kd.N (Kd.slice 41 k41) 29 w' w.heap.size (fun k_ => nO k_ s_.1 ∧ nO k_ s_.2.1 ∧ nO k_ s_.2.2.1 ∧ nO k_ s_.2.2.2.1 ∧ nO k_ s_.2.2.2.2) (.slice (some ad176) y162.length co45) y162) ∧ (Kd.R k41 41 w' w.heap.size (fun k_ => nO k_ s_.2.1) s_.1 t173) ∧ (Kd.R k41 41 w' w.heap.size (fun k_ => nO k_ s_.1) s_.2.1 y182) ∧ (Kd.R k37 37 w' w.heap.size (fun k_ => nO k_ s_.2.2.2.1 ∧ nO k_ s_.2.2.2.2) s_.2.2.1 t186) ∧ (Kd.R k37 37 w' w.heap.size (fun k_ => nO k_ s_.2.2.1 ∧ nO k_ s_.2.2.2.2) s_.2.2.2.1 y189) ∧ (Kd.R k37 37 w' w.heap.size (fun k_ => nO k_ s_.2.2.1 ∧ nO k_ s_.2.2.2.1) s_.2.2.2.2 y196) ∧ (Below w.heap.size w w')) ?_ ?_
         rotate_left
         ·intro hJ1_17_18_43_46_47_53
          refine join_ (σ:=Value × Value × Value × Value) 18 #[tt,tt,tt,tt,tt,tt,tt,tt,tt,tt,tt,tt,tt,tt,tt,tt,tt,tt,tt,tt,tt,tt,tt,tt,tt,tt,tt,tt,tt,tt,tt,tt,tt,tt,tt,tt,tt,tt,tt,tt,tt,tt,tt,tt,tt,tt,tt,tt,tt,tt,tt,ff,tt,ff,ff,ff,ff,ff,ff,ff,ff,ff,ff,ff,ff,ff,ff,ff,ff,ff] (fun s_ => [(38,s_.1),(54,s_.2.1),(55,.bool true),(80,s_.2.2.1),(83,s_.2.2.2),(84,.bool true),(56,.bool true),(57,.bool false),(58,.bool true),(59,.bool true),(60,.bool true),(61,.bool true),(62,.bool true),(63,.bool true),(64,.string t167),(65,.bool true),(66,.bool true),(67,.bool true),(68,.bool false),(69,.bool true),(70,.bool true),(71,.bool true),(72,.bool true),(73,.bool true),(74,.bool true),(75,.string t171),(76,.bool true),(77,.bool true),(78,.bool true),(79,.slice (some ad176) y162.length co45),(81,.agg #[.string (⟨#[97]⟩ : BA),.string (⟨#[120]⟩ : BA)]),(82,.agg #[.string (⟨#[98]⟩ : BA),.string (⟨#[121]⟩ : BA)]),(85,.bool true),(86,.bool true),(87,.slice (some ad176) y162.length co45),(89,.agg #[.string (⟨#[98]⟩ : BA),.string (⟨#[121]⟩ : BA)])]) (fun s_ w' => (Hd0 w' ad176 ad177 ad179 c176_0 c178_0 y162) ∧ (Kd.V k41 41 w' w.heap.size (fun k_ => nO k_ (.slice (some ad176) y162.length co45) ∧ nO k_ s_.1 ∧ nO k_ s_.2.1 ∧ nO k_ s_.2.2.1 ∧ nO k_ s_.2.2.2) (.slice (some ad177) (rd_L5 y162 0).length c176_0) (rd_L5 y162 0)) ∧ (Kd.V k41 41 w' w.heap.size (fun k_ => nO k_ (.slice (some ad176) y162.length co45) ∧ nO k_ s_.1 ∧ nO k_ s_.2.1 ∧ nO k_ s_.2.2.1 ∧ nO k_ s_.2.2.2) (.slice (some ad179) (rd_L5 y162 1).length c178_0) (rd_L5 y162 1)) ∧ (Kd.V k41 41 w' w.heap.size (fun k_ => nO k_ (.slice (some ad176) y162.length co45) ∧ nO k_ s_.1 ∧ nO k_ s_.2.1 ∧ nO k_ s_.2.2.1 ∧ nO k_ s_.2.2.2) (.slice (some ad177) (rd_L5 y162 0).length c176_0) (rd_L5 y162 0)) ∧ (Kd.N (Kd.slice 41 k41) 29 w' w.heap.size (fun k_ => nO k_ s_.1 ∧ nO k_ s_.2.1 ∧ nO k_ s_.2.2.1 ∧ nO k_ s_.2.2.2) (.slice (some ad176) y162.length co45) y162) ∧ (Kd.R k41 41 w' w.heap.size (fun k_ => nO k_ s_.2.1) s_.1 t173) ∧ (Kd.R k41 41 w' w.heap.size (fun k_ => nO k_ s_.1) s_.2.1 y182) ∧ (Kd.R k37 37 w' w.heap.size (fun k_ => nO k_ s_.2.2.2) s_.2.2.1 t186) ∧ (Kd.R k37 37 w' w.heap.size (fun k_ => nO k_ s_.2.2.1) s_.2.2.2 y189) ∧ (Below w.heap.size w w')) ?_ ?_
          rotate_left
          ·intro hJ1_17_18_43_46_47
           refine join_ (σ:=Value × Value × Value × Value) 23 #[tt,tt,tt,tt,tt,tt,tt,tt,tt,tt,tt,tt,tt,tt,tt,tt,tt,tt,tt,tt,tt,tt,tt,tt,tt,tt,tt,tt,tt,tt,tt,tt,tt,tt,tt,tt,tt,tt,tt,tt,tt,tt,tt,tt,tt,tt,tt,ff,ff,ff,ff,ff,ff,ff,ff,ff,ff,ff,ff,ff,ff,ff,ff,ff,ff,ff,ff,ff,ff,ff] (fun s_ => [(38,s_.1),(54,s_.2.1),(55,.bool true),(80,s_.2.2.1),(83,s_.2.2.2),(56,.bool true),(57,.bool false),(58,.bool true),(59,.bool true),(60,.bool true),(61,.bool true),(62,.bool true),(63,.bool true),(64,.string t167),(65,.bool true),(66,.bool true),(67,.bool true),(68,.bool false),(69,.bool true),(70,.bool true),(71,.bool true),(72,.bool true),(73,.bool true),(74,.bool true),(75,.string t171),(76,.bool true),(77,.bool true),(78,.bool true),(79,.slice (some ad176) y162.length co45),(81,.agg #[.string (⟨#[97]⟩ : BA),.string (⟨#[120]⟩ : BA)]),(82,.agg #[.string (⟨#[98]⟩ : BA),.string (⟨#[121]⟩ : BA)])]) (fun s_ w' => (Hd0 w' ad176 ad177 ad179 c176_0 c178_0 y162) ∧ (Kd.V k41 41 w' w.heap.size (fun k_ => nO k_ (.slice (some ad176) y162.length co45) ∧ nO k_ s_.1 ∧ nO k_ s_.2.1 ∧ nO k_ s_.2.2.1 ∧ nO k_ s_.2.2.2) (.slice (some ad177) (rd_L5 y162 0).length c176_0) (rd_L5 y162 0)) ∧ (Kd.V k41 41 w' w.heap.size (fun k_ => nO k_ (.slice (some ad176) y162.length co45) ∧ nO k_ s_.1 ∧ nO k_ s_.2.1 ∧ nO k_ s_.2.2.1 ∧ nO k_ s_.2.2.2) (.slice (some ad179) (rd_L5 y162 1).length c178_0) (rd_L5 y162 1)) ∧ (Kd.V k41 41 w' w.heap.size (fun k_ => nO k_ (.slice (some ad176) y162.length co45) ∧ nO k_ s_.1 ∧ nO k_ s_.2.1 ∧ nO k_ s_.2.2.1 ∧ nO k_ s_.2.2.2) (.slice (some ad177) (rd_L5 y162 0).length c176_0) (rd_L5 y162 0)) ∧ (Kd.N (Kd.slice 41 k41) 29 w' w.heap.size (fun k_ => nO k_ s_.1 ∧ nO k_ s_.2.1 ∧ nO k_ s_.2.2.1 ∧ nO k_ s_.2.2.2) (.slice (some ad176) y162.length co45) y162) ∧ (Kd.R k41 41 w' w.heap.size (fun k_ => nO k_ s_.2.1) s_.1 t173) ∧ (Kd.R k41 41 w' w.heap.size (fun k_ => nO k_ s_.1) s_.2.1 y182) ∧ (Kd.R k37 37 w' w.heap.size (fun k_ => nO k_ s_.2.2.2) s_.2.2.1 t186) ∧ (Kd.R k37 37 w' w.heap.size (fun k_ => nO k_ s_.2.2.1) s_.2.2.2 y189) ∧ (Below w.heap.size w w')) ?_ ?_
           rotate_left
           ·intro hJ1_17_18_43_46
            refine join_ (σ:=Value × Value × Value) 24 #[tt,tt,tt,tt,tt,tt,tt,tt,tt,tt,tt,tt,tt,tt,tt,tt,tt,tt,tt,tt,tt,tt,tt,tt,tt,tt,tt,tt,tt,tt,tt,tt,tt,tt,tt,tt,tt,tt,tt,tt,tt,tt,tt,tt,tt,tt,ff,ff,ff,ff,ff,ff,ff,ff,ff,ff,ff,ff,ff,ff,ff,ff,ff,ff,ff,ff,ff,ff,ff,ff] (fun s_ => [(38,s_.1),(54,s_.2.1),(55,.bool true),(80,s_.2.2),(56,.bool true),(57,.bool false),(58,.bool true),(59,.bool true),(60,.bool true),(61,.bool true),(62,.bool true),(63,.bool true),(64,.string t167),(65,.bool true),(66,.bool true),(67,.bool true),(68,.bool false),(69,.bool true),(70,.bool true),(71,.bool true),(72,.bool true),(73,.bool true),(74,.bool true),(75,.string t171),(76,.bool true),(77,.bool true),(78,.bool true),(79,.slice (some ad176) y162.length co45),(81,.agg #[.string (⟨#[97]⟩ : BA),.string (⟨#[120]⟩ : BA)]),(82,.agg #[.string (⟨#[98]⟩ : BA),.string (⟨#[121]⟩ : BA)])]) (fun s_ w' => (Hd0 w' ad176 ad177 ad179 c176_0 c178_0 y162) ∧ (Kd.V k41 41 w' w.heap.size (fun k_ => nO k_ (.slice (some ad176) y162.length co45) ∧ nO k_ s_.1 ∧ nO k_ s_.2.1 ∧ nO k_ s_.2.2) (.slice (some ad177) (rd_L5 y162 0).length c176_0) (rd_L5 y162 0)) ∧ (Kd.V k41 41 w' w.heap.size (fun k_ => nO k_ (.slice (some ad176) y162.length co45) ∧ nO k_ s_.1 ∧ nO k_ s_.2.1 ∧ nO k_ s_.2.2) (.slice (some ad179) (rd_L5 y162 1).length c178_0) (rd_L5 y162 1)) ∧ (Kd.V k41 41 w' w.heap.size (fun k_ => nO k_ (.slice (some ad176) y162.length co45) ∧ nO k_ s_.1 ∧ nO k_ s_.2.1 ∧ nO k_ s_.2.2) (.slice (some ad177) (rd_L5 y162 0).length c176_0) (rd_L5 y162 0)) ∧ (Kd.N (Kd.slice 41 k41) 29 w' w.heap.size (fun k_ => nO k_ s_.1 ∧ nO k_ s_.2.1 ∧ nO k_ s_.2.2) (.slice (some ad176) y162.length co45) y162) ∧ (Kd.R k41 41 w' w.heap.size (fun k_ => nO k_ s_.2.1) s_.1 t173) ∧ (Kd.R k41 41 w' w.heap.size (fun k_ => nO k_ s_.1) s_.2.1 y182) ∧ (Kd.R k37 37 w' w.heap.size (fun _ => True) s_.2.2 t186) ∧ (Below w.heap.size w w')) ?_ ?_
            rotate_left
            ·intro hJ1_17_18_43
             refine join_ (σ:=Value × Value × Value) 24 #[tt,tt,tt,tt,tt,tt,tt,tt,tt,tt,tt,tt,tt,tt,tt,tt,tt,tt,tt,tt,tt,tt,tt,tt,tt,tt,tt,tt,tt,tt,tt,tt,tt,tt,tt,tt,tt,tt,tt,tt,tt,tt,tt,ff,tt,tt,tt,ff,ff,ff,ff,ff,ff,ff,ff,ff,ff,ff,ff,ff,ff,ff,ff,ff,ff,ff,ff,ff,ff,ff] (fun s_ => [(38,s_.1),(54,s_.2.1),(55,.bool true),(83,s_.2.2),(56,.bool true),(57,.bool false),(58,.bool true),(59,.bool true),(60,.bool true),(61,.bool true),(62,.bool true),(63,.bool true),(64,.string t167),(65,.bool true),(66,.bool true),(67,.bool true),(68,.bool false),(69,.bool true),(70,.bool true),(71,.bool true),(72,.bool true),(73,.bool true),(74,.bool true),(75,.string t171),(76,.bool true),(77,.bool true),(78,.bool true),(79,.slice (some ad176) y162.length co45),(81,.agg #[.string (⟨#[97]⟩ : BA),.string (⟨#[120]⟩ : BA)]),(82,.agg #[.string (⟨#[98]⟩ : BA),.string (⟨#[121]⟩ : BA)])]) (fun s_ w' => (Hd0 w' ad176 ad177 ad179 c176_0 c178_0 y162) ∧ (Kd.V k41 41 w' w.heap.size (fun k_ => nO k_ (.slice (some ad176) y162.length co45) ∧ nO k_ s_.1 ∧ nO k_ s_.2.1 ∧ nO k_ s_.2.2) (.slice (some ad177) (rd_L5 y162 0).length c176_0) (rd_L5 y162 0)) ∧ (Kd.V k41 41 w' w.heap.size (fun k_ => nO k_ (.slice (some ad176) y162.length co45) ∧ nO k_ s_.1 ∧ nO k_ s_.2.1 ∧ nO k_ s_.2.2) (.slice (some ad179) (rd_L5 y162 1).length c178_0) (rd_L5 y162 1)) ∧ (Kd.V k41 41 w' w.heap.size (fun k_ => nO k_ (.slice (some ad176) y162.length co45) ∧ nO k_ s_.1 ∧ nO k_ s_.2.1 ∧ nO k_ s_.2.2) (.slice (some ad177) (rd_L5 y162 0).length c176_0) (rd_L5 y162 0)) ∧ (Kd.N (Kd.slice 41 k41) 29 w' w.heap.size (fun k_ => nO k_ s_.1 ∧ nO k_ s_.2.1 ∧ nO k_ s_.2.2) (.slice (some ad176) y162.length co45) y162) ∧ (Kd.R k41 41 w' w.heap.size (fun k_ => nO k_ s_.2.1) s_.1 t173) ∧ (Kd.R k41 41 w' w.heap.size (fun k_ => nO k_ s_.1) s_.2.1 y182) ∧ (Kd.R k37 37 w' w.heap.size (fun _ => True) s_.2.2 y189) ∧ (Below w.heap.size w w')) ?_ ?_
             rotate_left
             ·intro hJ1_17_18_46
              refine join_ (σ:=Value × Value) 25 #[tt,tt,tt,tt,tt,tt,tt,tt,tt,tt,tt,tt,tt,tt,tt,tt,tt,tt,tt,tt,tt,tt,tt,tt,tt,tt,tt,tt,tt,tt,tt,tt,tt,tt,tt,tt,tt,tt,tt,tt,tt,tt,tt,ff,tt,tt,ff,ff,ff,ff,ff,ff,ff,ff,ff,ff,ff,ff,ff,ff,ff,ff,ff,ff,ff,ff,ff,ff,ff,ff] (fun s_ => [(38,s_.1),(54,s_.2),(55,.bool true),(56,.bool true),(57,.bool false),(58,.bool true),(59,.bool true),(60,.bool true),(61,.bool true),(62,.bool true),(63,.bool true),(64,.string t167),(65,.bool true),(66,.bool true),(67,.bool true),(68,.bool false),(69,.bool true),(70,.bool true),(71,.bool true),(72,.bool true),(73,.bool true),(74,.bool true),(75,.string t171),(76,.bool true),(77,.bool true),(78,.bool true),(79,.slice (some ad176) y162.length co45),(81,.agg #[.string (⟨#[97]⟩ : BA),.string (⟨#[120]⟩ : BA)]),(82,.agg #[.string (⟨#[98]⟩ : BA),.string (⟨#[121]⟩ : BA)])]) (fun s_ w' => (Hd0 w' ad176 ad177 ad179 c176_0 c178_0 y162) ∧ (Kd.V k41 41 w' w.heap.size (fun k_ => nO k_ (.slice (some ad176) y162.length co45) ∧ nO k_ s_.1 ∧ nO k_ s_.2) (.slice (some ad177) (rd_L5 y162 0).length c176_0) (rd_L5 y162 0)) ∧ (Kd.V k41 41 w' w.heap.size (fun k_ => nO k_ (.slice (some ad176) y162.length co45) ∧ nO k_ s_.1 ∧ nO k_ s_.2) (.slice (some ad179) (rd_L5 y162 1).length c178_0) (rd_L5 y162 1)) ∧ (Kd.V k41 41 w' w.heap.size (fun k_ => nO k_ (.slice (some ad176) y162.length co45) ∧ nO k_ s_.1 ∧ nO k_ s_.2) (.slice (some ad177) (rd_L5 y162 0).length c176_0) (rd_L5 y162 0)) ∧ (Kd.N (Kd.slice 41 k41) 29 w' w.heap.size (fun k_ => nO k_ s_.1 ∧ nO k_ s_.2) (.slice (some ad176) y162.length co45) y162) ∧ (Kd.R k41 41 w' w.heap.size (fun k_ => nO k_ s_.2) s_.1 t173) ∧ (Kd.R k41 41 w' w.heap.size (fun k_ => nO k_ s_.1) s_.2 y182) ∧ (Below w.heap.size w w')) ?_ ?_
              rotate_left
              ·intro hJ1_17_18
               refine join_ (σ:=Value × Value) 52 #[tt,tt,tt,tt,tt,tt,tt,tt,tt,tt,tt,tt,tt,tt,tt,tt,tt,tt,ff,ff,ff,ff,ff,ff,ff,ff,ff,ff,ff,ff,ff,ff,ff,ff,ff,ff,ff,ff,ff,ff,ff,ff,ff,ff,ff,ff,ff,ff,ff,ff,ff,ff,ff,ff,ff,ff,ff,ff,ff,ff,ff,ff,ff,ff,ff,ff,ff,ff,ff,ff] (fun s_ => [(38,s_.1),(54,s_.2)]) (fun s_ w' => (Hd0 w' ad176 ad177 ad179 c176_0 c178_0 y162) ∧ (Kd.V k41 41 w' w.heap.size (fun k_ => nO k_ (.slice (some ad176) y162.length co45) ∧ nO k_ s_.1 ∧ nO k_ s_.2) (.slice (some ad177) (rd_L5 y162 0).length c176_0) (rd_L5 y162 0)) ∧ (Kd.V k41 41 w' w.heap.size (fun k_ => nO k_ (.slice (some ad176) y162.length co45) ∧ nO k_ s_.1 ∧ nO k_ s_.2) (.slice (some ad179) (rd_L5 y162 1).length c178_0) (rd_L5 y162 1)) ∧ (Kd.V k41 41 w' w.heap.size (fun k_ => nO k_ (.slice (some ad176) y162.length co45) ∧ nO k_ s_.1 ∧ nO k_ s_.2) (.slice (some ad177) (rd_L5 y162 0).length c176_0) (rd_L5 y162 0)) ∧ (Kd.N (Kd.slice 41 k41) 29 w' w.heap.size (fun k_ => nO k_ s_.1 ∧ nO k_ s_.2) (.slice (some ad176) y162.length co45) y162) ∧ (Kd.R k41 41 w' w.heap.size (fun k_ => nO k_ s_.2) s_.1 t173) ∧ (Kd.R k41 41 w' w.heap.size (fun k_ => nO k_ s_.1) s_.2 y182) ∧ (Below w.heap.size w w')) ?_ ?_
               rotate_left
               ·intro hJ1_17
                refine join_ (σ:=Value) 53 #[tt,tt,tt,tt,tt,tt,tt,tt,tt,tt,tt,tt,tt,tt,tt,tt,tt,ff,ff,ff,ff,ff,ff,ff,ff,ff,ff,ff,ff,ff,ff,ff,ff,ff,ff,ff,ff,ff,ff,ff,ff,ff,ff,ff,ff,ff,ff,ff,ff,ff,ff,ff,ff,ff,ff,ff,ff,ff,ff,ff,ff,ff,ff,ff,ff,ff,ff,ff,ff,ff] (fun s_ => [(38,s_)]) (fun s_ w' => (Hd0 w' ad176 ad177 ad179 c176_0 c178_0 y162) ∧ (Kd.V k41 41 w' w.heap.size (fun k_ => nO k_ (.slice (some ad176) y162.length co45) ∧ nO k_ s_) (.slice (some ad177) (rd_L5 y162 0).length c176_0) (rd_L5 y162 0)) ∧ (Kd.V k41 41 w' w.heap.size (fun k_ => nO k_ (.slice (some ad176) y162.length co45) ∧ nO k_ s_) (.slice (some ad179) (rd_L5 y162 1).length c178_0) (rd_L5 y162 1)) ∧ (Kd.V k41 41 w' w.heap.size (fun k_ => nO k_ (.slice (some ad176) y162.length co45) ∧ nO k_ s_) (.slice (some ad177) (rd_L5 y162 0).length c176_0) (rd_L5 y162 0)) ∧ (Kd.N (Kd.slice 41 k41) 29 w' w.heap.size (fun k_ => nO k_ s_) (.slice (some ad176) y162.length co45) y162) ∧ (Kd.R k41 41 w' w.heap.size (fun _ => True) s_ t173) ∧ (Below w.heap.size w w')) ?_ ?_
                rotate_left
                ·intro hJ1
                 refine join_ (σ:=Value) 53 #[tt,ff,tt,tt,tt,tt,tt,tt,tt,tt,tt,tt,tt,tt,tt,tt,tt,tt,ff,ff,ff,ff,ff,ff,ff,ff,ff,ff,ff,ff,ff,ff,ff,ff,ff,ff,ff,ff,ff,ff,ff,ff,ff,ff,ff,ff,ff,ff,ff,ff,ff,ff,ff,ff,ff,ff,ff,ff,ff,ff,ff,ff,ff,ff,ff,ff,ff,ff,ff,ff] (fun s_ => [(54,s_)]) (fun s_ w' => (Hd0 w' ad176 ad177 ad179 c176_0 c178_0 y162) ∧ (Kd.V k41 41 w' w.heap.size (fun k_ => nO k_ (.slice (some ad176) y162.length co45) ∧ nO k_ s_) (.slice (some ad177) (rd_L5 y162 0).length c176_0) (rd_L5 y162 0)) ∧ (Kd.V k41 41 w' w.heap.size (fun k_ => nO k_ (.slice (some ad176) y162.length co45) ∧ nO k_ s_) (.slice (some ad179) (rd_L5 y162 1).length c178_0) (rd_L5 y162 1)) ∧ (Kd.V k41 41 w' w.heap.size (fun k_ => nO k_ (.slice (some ad176) y162.length co45) ∧ nO k_ s_) (.slice (some ad177) (rd_L5 y162 0).length c176_0) (rd_L5 y162 0)) ∧ (Kd.N (Kd.slice 41 k41) 29 w' w.heap.size (fun k_ => nO k_ s_) (.slice (some ad176) y162.length co45) y162) ∧ (Kd.R k41 41 w' w.heap.size (fun _ => True) s_ y182) ∧ (Below w.heap.size w w')) ?_ ?_
                 rotate_left
                 ·intro hJ17
                  refine two_ (i:=1) (j:=17) (Ni:=some 38) (Nj:=some 54) #[tt,tt,tt,tt,tt,tt,tt,tt,tt,tt,tt,tt,tt,tt,tt,tt,tt,ff,ff,ff,ff,ff,ff,ff,ff,ff,ff,ff,ff,ff,ff,ff,ff,ff,ff,ff,ff,ff,ff,ff,ff,ff,ff,ff,ff,ff,ff,ff,ff,ff,ff,ff,ff,ff,ff,ff,ff,ff,ff,ff,ff,ff,ff,ff,ff,ff,ff,ff,ff,ff] #[tt,ff,tt,tt,tt,tt,tt,tt,tt,tt,tt,tt,tt,tt,tt,tt,tt,tt,ff,ff,ff,ff,ff,ff,ff,ff,ff,ff,ff,ff,ff,ff,ff,ff,ff,ff,ff,ff,ff,ff,ff,ff,ff,ff,ff,ff,ff,ff,ff,ff,ff,ff,ff,ff,ff,ff,ff,ff,ff,ff,ff,ff,ff,ff,ff,ff,ff,ff,ff,ff] rfl rfl rfl rfl (two_of HT_.out (by kernel_rfl)) (by decide) (by decide) (fun K hK => ?_) (fun K hK => ?_)
                  ·skip
                   refine goes_ Try.func19 (by kernel_rfl) rfl #[.slice (some ad176) y162.length co45] (by rfl) rfl rfl (by (try simp only [List.map_toArray,List.map_cons,List.map_nil]);first|done|rfl|(simp only [List.length_drop,List.length_take];rfl)) ?_
                   with_reducible refine (merge_All.calls _ _ y162 t173 _ ?side1 ?side2 A9.out).mono ?_
                   (case side1 => repeat (first|exact (Kd.N_reads' HO164.out).2.2|(with_reducible refine Kd.C_alloc ?_ _)|(with_reducible refine Kd.C_drewN ?_ _)|(with_reducible refine Kd.C_drew ?_)))
                   (case side2 => exact (Kd.N_reads' HO164.out).2.1)
                   rintro e w51 ⟨v174,rfl,ho0,hb⟩
                   have HS0_:=bC hb hHeld.1
                   have HS1_:=bC hb hHeld.2.1
                   have HS2_:=bC hb hHeld.2.2.1
                   have HS3_:=bC hb hHeld.2.2.2.1
                   have HS4_:=bC hb hHeld.2.2.2.2.1
                   have HS5_:=bC hb hHeld.2.2.2.2.2.1
                   have HS6_:=bC hb hHeld.2.2.2.2.2.2.1
                   have HS7_:=bC hb hHeld.2.2.2.2.2.2.2.1
                   have HS8_:=bC hb hHeld.2.2.2.2.2.2.2.2.1
                   have HS9_:=bC hb hHeld.2.2.2.2.2.2.2.2.2.1
                   have HS10_:=bC hb hHeld.2.2.2.2.2.2.2.2.2.2.1
                   have HS11_:=bC hb hHeld.2.2.2.2.2.2.2.2.2.2.2.1
                   have HS12_:=bC hb hHeld.2.2.2.2.2.2.2.2.2.2.2.2.1
                   have HS13_:=bC hb hHeld.2.2.2.2.2.2.2.2.2.2.2.2.2.1
                   have HS14_:=bC hb hHeld.2.2.2.2.2.2.2.2.2.2.2.2.2.2
                   refine ⟨_,rfl,?_⟩
                   have n0_:=Aside0.mk (Kd.N_elder' (by (with_reducible repeat (first|apply nA|apply nN|apply nD));exact HO164.out) (Kd.R_base ho0) hb)
                   have n1_:=Aside0.mk (Kd.V_elder' (by (with_reducible repeat (first|apply vA|apply vN|apply vD));exact HL176_0.out) (Kd.R_base ho0) hb)
                   have n2_:=Aside0.mk (Kd.V_elder' (by (with_reducible repeat (first|apply vA|apply vN|apply vD));exact HL178_0.out) (Kd.R_base ho0) hb)
                   have n3_:=Aside0.mk (Kd.V_elder' (by (with_reducible repeat (first|apply vA|apply vN|apply vD));exact HL180_0.out) (Kd.R_base ho0) hb)
                   have n4_:=Aside0.mk (Kd.R_lower ho0 (below_size (by repeat (first|(with_reducible first|exact HB.out|apply below_alloc|apply pw_below_drewN|apply below_drew1)|exact HB.out))))
                   have n5_:=Aside0.mk (Kd.C_below (by repeat (first|(with_reducible exact HR176_0.out)|(with_reducible refine Kd.C_alloc ?_ _)|(with_reducible refine Kd.C_drewN ?_ _)|(with_reducible refine Kd.C_drew ?_)|exact HR176_0.out)) hb)
                   have n6_:=Aside0.mk (Kd.C_below (by repeat (first|(with_reducible exact HR178_0.out)|(with_reducible refine Kd.C_alloc ?_ _)|(with_reducible refine Kd.C_drewN ?_ _)|(with_reducible refine Kd.C_drew ?_)|exact HR178_0.out)) hb)
                   have n7_:=Aside0.mk (Kd.C_below (by repeat (first|(with_reducible exact HR180_0.out)|(with_reducible refine Kd.C_alloc ?_ _)|(with_reducible refine Kd.C_drewN ?_ _)|(with_reducible refine Kd.C_drew ?_)|exact HR180_0.out)) hb)
                   have n8_:=Aside0.mk (below_step (by repeat (first|(with_reducible first|exact HB.out|apply below_alloc|apply pw_below_drewN|apply below_drew1)|exact HB.out)) hb)
                   clear HO164
                   clear HL176_0
                   clear HL178_0
                   clear HL180_0
                   clear HR176_0
                   clear HR178_0
                   clear HR180_0
                   clear HB
                   have HO164:=n0_
                   have HL176_0:=n1_
                   have HL178_0:=n2_
                   have HL180_0:=n3_
                   have HO175:=n4_
                   have HR176_0:=n5_
                   have HR178_0:=n6_
                   have HR180_0:=n7_
                   have HB:=n8_
                   clear n0_ n1_ n2_ n3_ n4_ n5_ n6_ n7_ n8_
                   (try clear hb)
                   (try clear hb2)
                   (try clear hk)
                   (try clear hi)
                   (try clear ho0)
                   refine hK.out _ _ ⟨HS0_,HS1_,HS2_,HS3_,HS4_,HS5_,HS6_,HS7_,HS8_,HS9_,HS10_,HS11_,HS12_,HS13_,HS14_⟩ (fun hHeld => ?_)
                   clear hK K
                   refine norm_ (a':=?_) ?_ ?_
                   rotate_left
                   ·show Act.put _ (some 38) _ = _
                    simp only [Act.put,sA,sZ,sS,i64_w,i32_w]
                    rfl
                   exact norm_ (by first|(simp only [putAll,Act.put,sA,sZ,sS];done)|(simp only [putAll,Act.put,sA,sZ,sS];rfl)) (hJ1 (v174) _ ⟨hHeld,(by (with_reducible repeat (first|apply vA|apply vN|apply vD));exact Kd.V_mono HL176_0.out (fun _ hk => ⟨hk.1.2,hk.2⟩)),(by (with_reducible repeat (first|apply vA|apply vN|apply vD));exact Kd.V_mono HL178_0.out (fun _ hk => ⟨hk.1.2,hk.2⟩)),(by (with_reducible repeat (first|apply vA|apply vN|apply vD));exact Kd.V_mono HL180_0.out (fun _ hk => ⟨hk.1.2,hk.2⟩)),(by (with_reducible repeat (first|apply nA|apply nN|apply nD));exact Kd.N_mono HO164.out (fun _ hk => hk.2)),(by (with_reducible repeat (first|apply zA|apply zN|apply zD));exact HO175.out),(by repeat (first|(with_reducible first|exact HB.out|apply below_alloc|apply pw_below_drewN|apply below_drew1)|exact HB.out))⟩)
                  ·skip
                   refine Kd.R_lit_step k41 _ 41 ?hg (N:=54) ?hd (xs:=([(⟨(⟨(rd_T41 (rd_L5 y162 0) 0).f0.f0,(rd_T41 (rd_L5 y162 0) 0).f0.f1,(rd_T41 (rd_L5 y162 0) 0).f0.f2⟩ : S39),(rd_T41 (rd_L5 y162 0) 0).f1⟩ : S41),(⟨(⟨(rd_T41 (rd_L5 y162 1) 0).f0.f0,(rd_T41 (rd_L5 y162 1) 0).f0.f1,(rd_T41 (rd_L5 y162 1) 0).f0.f2⟩ : S39),(rd_T41 (rd_L5 y162 1) 0).f1⟩ : S41),(⟨(⟨(rd_T41 (rd_L5 y162 0) 1).f0.f0,(rd_T41 (rd_L5 y162 0) 1).f0.f1,(rd_T41 (rd_L5 y162 0) 1).f0.f2⟩ : S39),(rd_T41 (rd_L5 y162 0) 1).f1⟩ : S41)] : List (S41))) (inner:=[.string ((rd_T41 (rd_L5 y162 0) 0).f0.f0),.int .u64 ((rd_T41 (rd_L5 y162 0) 0).f0.f1),.int .u8 ((rd_T41 (rd_L5 y162 0) 0).f0.f2),.string ((rd_T41 (rd_L5 y162 0) 0).f1),.string ((rd_T41 (rd_L5 y162 1) 0).f0.f0),.int .u64 ((rd_T41 (rd_L5 y162 1) 0).f0.f1),.int .u8 ((rd_T41 (rd_L5 y162 1) 0).f0.f2),.string ((rd_T41 (rd_L5 y162 1) 0).f1),.string ((rd_T41 (rd_L5 y162 0) 1).f0.f0),.int .u64 ((rd_T41 (rd_L5 y162 0) 1).f0.f1),.int .u8 ((rd_T41 (rd_L5 y162 0) 1).f0.f2),.string ((rd_T41 (rd_L5 y162 0) 1).f1)]) (ok:=fun _ => True) (okp:=fun _ => True) ?hr ?hp (fun _ hk => hk) trivial (Below.refl _ _) (Nat.le_refl _) (by simp) ?_;(case hd => rfl);(case hg => rfl);(case hr => first|(go_simp;done)|(go_simp;rfl));(case hp => exact (Reps.c4 (show Kd.M k41 _ _ _ (⟨(⟨(rd_T41 (rd_L5 y162 0) 0).f0.f0,(rd_T41 (rd_L5 y162 0) 0).f0.f1,(rd_T41 (rd_L5 y162 0) 0).f0.f2⟩ : S39),(rd_T41 (rd_L5 y162 0) 0).f1⟩ : S41) [.string ((rd_T41 (rd_L5 y162 0) 0).f0.f0),.int .u64 ((rd_T41 (rd_L5 y162 0) 0).f0.f1),.int .u8 ((rd_T41 (rd_L5 y162 0) 0).f0.f2),.string ((rd_T41 (rd_L5 y162 0) 0).f1)] from (k41_mkM _ _ _ (⟨(⟨(rd_T41 (rd_L5 y162 0) 0).f0.f0,(rd_T41 (rd_L5 y162 0) 0).f0.f1,(rd_T41 (rd_L5 y162 0) 0).f0.f2⟩ : S39),(rd_T41 (rd_L5 y162 0) 0).f1⟩ : S41) )) (Reps.c4 (show Kd.M k41 _ _ _ (⟨(⟨(rd_T41 (rd_L5 y162 1) 0).f0.f0,(rd_T41 (rd_L5 y162 1) 0).f0.f1,(rd_T41 (rd_L5 y162 1) 0).f0.f2⟩ : S39),(rd_T41 (rd_L5 y162 1) 0).f1⟩ : S41) [.string ((rd_T41 (rd_L5 y162 1) 0).f0.f0),.int .u64 ((rd_T41 (rd_L5 y162 1) 0).f0.f1),.int .u8 ((rd_T41 (rd_L5 y162 1) 0).f0.f2),.string ((rd_T41 (rd_L5 y162 1) 0).f1)] from (k41_mkM _ _ _ (⟨(⟨(rd_T41 (rd_L5 y162 1) 0).f0.f0,(rd_T41 (rd_L5 y162 1) 0).f0.f1,(rd_T41 (rd_L5 y162 1) 0).f0.f2⟩ : S39),(rd_T41 (rd_L5 y162 1) 0).f1⟩ : S41) )) (Reps.c4 (show Kd.M k41 _ _ _ (⟨(⟨(rd_T41 (rd_L5 y162 0) 1).f0.f0,(rd_T41 (rd_L5 y162 0) 1).f0.f1,(rd_T41 (rd_L5 y162 0) 1).f0.f2⟩ : S39),(rd_T41 (rd_L5 y162 0) 1).f1⟩ : S41) [.string ((rd_T41 (rd_L5 y162 0) 1).f0.f0),.int .u64 ((rd_T41 (rd_L5 y162 0) 1).f0.f1),.int .u8 ((rd_T41 (rd_L5 y162 0) 1).f0.f2),.string ((rd_T41 (rd_L5 y162 0) 1).f1)] from (k41_mkM _ _ _ (⟨(⟨(rd_T41 (rd_L5 y162 0) 1).f0.f0,(rd_T41 (rd_L5 y162 0) 1).f0.f1,(rd_T41 (rd_L5 y162 0) 1).f0.f2⟩ : S39),(rd_T41 (rd_L5 y162 0) 1).f1⟩ : S41) )) (Reps.none _ _)))))
                   intro v183 w51 ho52 hb hg_ hnew_
                   have HS0_:=bC hb hHeld.1
                   have HS1_:=bC hb hHeld.2.1
                   have HS2_:=bC hb hHeld.2.2.1
                   have HS3_:=bC hb hHeld.2.2.2.1
                   have HS4_:=bC hb hHeld.2.2.2.2.1
                   have HS5_:=bC hb hHeld.2.2.2.2.2.1
                   have HS6_:=bC hb hHeld.2.2.2.2.2.2.1
                   have HS7_:=bC hb hHeld.2.2.2.2.2.2.2.1
                   have HS8_:=bC hb hHeld.2.2.2.2.2.2.2.2.1
                   have HS9_:=bC hb hHeld.2.2.2.2.2.2.2.2.2.1
                   have HS10_:=bC hb hHeld.2.2.2.2.2.2.2.2.2.2.1
                   have HS11_:=bC hb hHeld.2.2.2.2.2.2.2.2.2.2.2.1
                   have HS12_:=bC hb hHeld.2.2.2.2.2.2.2.2.2.2.2.2.1
                   have HS13_:=bC hb hHeld.2.2.2.2.2.2.2.2.2.2.2.2.2.1
                   have HS14_:=bC hb hHeld.2.2.2.2.2.2.2.2.2.2.2.2.2.2
                   clear hg_ hnew_
                   (first|rw [← Ny182.out] at ho52|(simp only [Int.reduceToNat] at ho52;rw [← Ny182.out] at ho52))
                   have n0_:=Aside0.mk (Kd.N_elder' (by (with_reducible repeat (first|apply nA|apply nN|apply nD));exact HO164.out) (Kd.R_base ho52) hb)
                   have n1_:=Aside0.mk (Kd.V_elder' (by (with_reducible repeat (first|apply vA|apply vN|apply vD));exact HL176_0.out) (Kd.R_base ho52) hb)
                   have n2_:=Aside0.mk (Kd.V_elder' (by (with_reducible repeat (first|apply vA|apply vN|apply vD));exact HL178_0.out) (Kd.R_base ho52) hb)
                   have n3_:=Aside0.mk (Kd.V_elder' (by (with_reducible repeat (first|apply vA|apply vN|apply vD));exact HL180_0.out) (Kd.R_base ho52) hb)
                   have n4_:=Aside0.mk (Kd.R_lower ho52 (below_size (by repeat (first|(with_reducible first|exact HB.out|apply below_alloc|apply pw_below_drewN|apply below_drew1)|exact HB.out))))
                   have n5_:=Aside0.mk (Kd.C_below (by repeat (first|(with_reducible exact HR176_0.out)|(with_reducible refine Kd.C_alloc ?_ _)|(with_reducible refine Kd.C_drewN ?_ _)|(with_reducible refine Kd.C_drew ?_)|exact HR176_0.out)) hb)
                   have n6_:=Aside0.mk (Kd.C_below (by repeat (first|(with_reducible exact HR178_0.out)|(with_reducible refine Kd.C_alloc ?_ _)|(with_reducible refine Kd.C_drewN ?_ _)|(with_reducible refine Kd.C_drew ?_)|exact HR178_0.out)) hb)
                   have n7_:=Aside0.mk (Kd.C_below (by repeat (first|(with_reducible exact HR180_0.out)|(with_reducible refine Kd.C_alloc ?_ _)|(with_reducible refine Kd.C_drewN ?_ _)|(with_reducible refine Kd.C_drew ?_)|exact HR180_0.out)) hb)
                   have n8_:=Aside0.mk (below_step (by repeat (first|(with_reducible first|exact HB.out|apply below_alloc|apply pw_below_drewN|apply below_drew1)|exact HB.out)) hb)
                   clear HO164
                   clear HL176_0
                   clear HL178_0
                   clear HL180_0
                   clear HR176_0
                   clear HR178_0
                   clear HR180_0
                   clear HB
                   have HO164:=n0_
                   have HL176_0:=n1_
                   have HL178_0:=n2_
                   have HL180_0:=n3_
                   have HO184:=n4_
                   have HR176_0:=n5_
                   have HR178_0:=n6_
                   have HR180_0:=n7_
                   have HB:=n8_
                   clear n0_ n1_ n2_ n3_ n4_ n5_ n6_ n7_ n8_
                   clear hb ho52
                   refine hK.out _ _ ⟨HS0_,HS1_,HS2_,HS3_,HS4_,HS5_,HS6_,HS7_,HS8_,HS9_,HS10_,HS11_,HS12_,HS13_,HS14_⟩ (fun hHeld => ?_)
                   clear hK K
                   refine norm_ (a':=?_) ?_ ?_
                   rotate_left
                   ·show Act.put _ (some 54) _ = _
                    simp only [Act.put,sA,sZ,sS,i64_w,i32_w]
                    rfl
                   exact norm_ (by first|(simp only [putAll,Act.put,sA,sZ,sS];done)|(simp only [putAll,Act.put,sA,sZ,sS];rfl)) (hJ17 (v183) _ ⟨hHeld,(by (with_reducible repeat (first|apply vA|apply vN|apply vD));exact Kd.V_mono HL176_0.out (fun _ hk => ⟨hk.1.2,hk.2⟩)),(by (with_reducible repeat (first|apply vA|apply vN|apply vD));exact Kd.V_mono HL178_0.out (fun _ hk => ⟨hk.1.2,hk.2⟩)),(by (with_reducible repeat (first|apply vA|apply vN|apply vD));exact Kd.V_mono HL180_0.out (fun _ hk => ⟨hk.1.2,hk.2⟩)),(by (with_reducible repeat (first|apply nA|apply nN|apply nD));exact Kd.N_mono HO164.out (fun _ hk => hk.2)),(by (with_reducible repeat (first|apply zA|apply zN|apply zD));exact HO184.out),(by repeat (first|(with_reducible first|exact HB.out|apply below_alloc|apply pw_below_drewN|apply below_drew1)|exact HB.out))⟩)
                 ·skip
                  rintro v183 w53 ⟨hS_,h0_,h1_,h2_,h3_,h4_,h5_⟩
                  have n0_ : Aside0 (Kd.V k41 41 w53 w.heap.size (fun k_ => nO k_ (.slice (some ad176) y162.length co45) ∧ nO k_ v183) (.slice (some ad177) (rd_L5 y162 0).length c176_0) (rd_L5 y162 0)):=⟨h0_⟩
                  have n1_ : Aside0 (Kd.V k41 41 w53 w.heap.size (fun k_ => nO k_ (.slice (some ad176) y162.length co45) ∧ nO k_ v183) (.slice (some ad179) (rd_L5 y162 1).length c178_0) (rd_L5 y162 1)):=⟨h1_⟩
                  have n2_ : Aside0 (Kd.V k41 41 w53 w.heap.size (fun k_ => nO k_ (.slice (some ad176) y162.length co45) ∧ nO k_ v183) (.slice (some ad177) (rd_L5 y162 0).length c176_0) (rd_L5 y162 0)):=⟨h2_⟩
                  have n3_ : Aside0 (Kd.N (Kd.slice 41 k41) 29 w53 w.heap.size (fun k_ => nO k_ v183) (.slice (some ad176) y162.length co45) y162):=⟨h3_⟩
                  have n4_ : Aside0 (Kd.R k41 41 w53 w.heap.size (fun _ => True) v183 y182):=⟨h4_⟩
                  have n5_ : Aside0 (Below w.heap.size w w53):=⟨h5_⟩
                  clear HO164
                  clear HB
                  clear h0_ h1_ h2_ h3_ h4_ h5_
                  have HL176_0:=n0_
                  have HL178_0:=n1_
                  have HL180_0:=n2_
                  have HO164:=n3_
                  have HO184:=n4_
                  have HB:=n5_
                  clear n0_ n1_ n2_ n3_ n4_ n5_
                  have hHeld : Hd0 w53 ad176 ad177 ad179 c176_0 c178_0 y162:=hS_
                  refine norm_ (a':=?_) ?_ ?_
                  rotate_left
                  ·simp only [putAll,Act.put,sA,sZ,sS]
                   rfl
                  refine one_ (i:=1) (N:=some 38) #[tt,tt,tt,tt,tt,tt,tt,tt,tt,tt,tt,tt,tt,tt,tt,tt,tt,tt,ff,ff,ff,ff,ff,ff,ff,ff,ff,ff,ff,ff,ff,ff,ff,ff,ff,ff,ff,ff,ff,ff,ff,ff,ff,ff,ff,ff,ff,ff,ff,ff,ff,ff,ff,ff,ff,ff,ff,ff,ff,ff,ff,ff,ff,ff,ff,ff,ff,ff,ff,ff] rfl rfl (one_of HT_.out (by kernel_rfl)) (by decide) (fun K hK => ?_)
                  refine goes_ Try.func19 (by kernel_rfl) rfl #[.slice (some ad176) y162.length co45] (by rfl) rfl rfl (by (try simp only [List.map_toArray,List.map_cons,List.map_nil]);first|done|rfl|(simp only [List.length_drop,List.length_take];rfl)) ?_
                  with_reducible refine (merge_All.calls _ _ y162 t173 _ ?side1 ?side2 A9.out).mono ?_
                  (case side1 => repeat (first|exact (Kd.N_reads' HO164.out).2.2|(with_reducible refine Kd.C_alloc ?_ _)|(with_reducible refine Kd.C_drewN ?_ _)|(with_reducible refine Kd.C_drew ?_)))
                  (case side2 => exact (Kd.N_reads' HO164.out).2.1)
                  rintro e w54 ⟨v174,rfl,ho0,hb⟩
                  have HS0_:=bC hb hHeld.1
                  have HS1_:=bC hb hHeld.2.1
                  have HS2_:=bC hb hHeld.2.2.1
                  have HS3_:=bC hb hHeld.2.2.2.1
                  have HS4_:=bC hb hHeld.2.2.2.2.1
                  have HS5_:=bC hb hHeld.2.2.2.2.2.1
                  have HS6_:=bC hb hHeld.2.2.2.2.2.2.1
                  have HS7_:=bC hb hHeld.2.2.2.2.2.2.2.1
                  have HS8_:=bC hb hHeld.2.2.2.2.2.2.2.2.1
                  have HS9_:=bC hb hHeld.2.2.2.2.2.2.2.2.2.1
                  have HS10_:=bC hb hHeld.2.2.2.2.2.2.2.2.2.2.1
                  have HS11_:=bC hb hHeld.2.2.2.2.2.2.2.2.2.2.2.1
                  have HS12_:=bC hb hHeld.2.2.2.2.2.2.2.2.2.2.2.2.1
                  have HS13_:=bC hb hHeld.2.2.2.2.2.2.2.2.2.2.2.2.2.1
                  have HS14_:=bC hb hHeld.2.2.2.2.2.2.2.2.2.2.2.2.2.2
                  refine ⟨_,rfl,?_⟩
                  have n0_:=Aside0.mk (Kd.N_elder' (by (with_reducible repeat (first|apply nA|apply nN|apply nD));exact HO164.out) (Kd.R_base ho0) hb)
                  have n1_:=Aside0.mk (Kd.V_elder' (by (with_reducible repeat (first|apply vA|apply vN|apply vD));exact HL176_0.out) (Kd.R_base ho0) hb)
                  have n2_:=Aside0.mk (Kd.V_elder' (by (with_reducible repeat (first|apply vA|apply vN|apply vD));exact HL178_0.out) (Kd.R_base ho0) hb)
                  have n3_:=Aside0.mk (Kd.V_elder' (by (with_reducible repeat (first|apply vA|apply vN|apply vD));exact HL180_0.out) (Kd.R_base ho0) hb)
                  have n4_:=Aside0.mk (Kd.R_elder' (by (with_reducible repeat (first|apply zA|apply zN|apply zD));exact HO184.out) (Kd.R_base ho0) hb)
                  have n5_:=Aside0.mk (Kd.R_lower (Kd.R_new' ho0 (Kd.R_lt (by (with_reducible repeat (first|apply zA|apply zN|apply zD));exact HO184.out))) (below_size (by repeat (first|(with_reducible first|exact HB.out|apply below_alloc|apply pw_below_drewN|apply below_drew1)|exact HB.out))))
                  have n6_:=Aside0.mk (below_step (by repeat (first|(with_reducible first|exact HB.out|apply below_alloc|apply pw_below_drewN|apply below_drew1)|exact HB.out)) hb)
                  clear HO164
                  clear HL176_0
                  clear HL178_0
                  clear HL180_0
                  clear HO184
                  clear HB
                  have HO164:=n0_
                  have HL176_0:=n1_
                  have HL178_0:=n2_
                  have HL180_0:=n3_
                  have HO184:=n4_
                  have HO175:=n5_
                  have HB:=n6_
                  clear n0_ n1_ n2_ n3_ n4_ n5_ n6_
                  (try clear hb)
                  (try clear hb2)
                  (try clear hk)
                  (try clear hi)
                  (try clear ho0)
                  refine hK.out _ _ ⟨HS0_,HS1_,HS2_,HS3_,HS4_,HS5_,HS6_,HS7_,HS8_,HS9_,HS10_,HS11_,HS12_,HS13_,HS14_⟩ (fun hHeld => ?_)
                  clear hK K
                  refine norm_ (a':=?_) ?_ ?_
                  rotate_left
                  ·show Act.put _ (some 38) _ = _
                   simp only [Act.put,sA,sZ,sS,i64_w,i32_w]
                   rfl
                  exact norm_ (by first|(simp only [putAll,Act.put,sA,sZ,sS];done)|(simp only [putAll,Act.put,sA,sZ,sS];rfl)) (hJ1_17 (v174,v183) _ ⟨hHeld,(by (with_reducible repeat (first|apply vA|apply vN|apply vD));exact Kd.V_mono HL176_0.out (fun _ hk => ⟨hk.1.1,⟨hk.2,hk.1.2⟩⟩)),(by (with_reducible repeat (first|apply vA|apply vN|apply vD));exact Kd.V_mono HL178_0.out (fun _ hk => ⟨hk.1.1,⟨hk.2,hk.1.2⟩⟩)),(by (with_reducible repeat (first|apply vA|apply vN|apply vD));exact Kd.V_mono HL180_0.out (fun _ hk => ⟨hk.1.1,⟨hk.2,hk.1.2⟩⟩)),(by (with_reducible repeat (first|apply nA|apply nN|apply nD));exact Kd.N_mono HO164.out (fun _ hk => ⟨hk.2,hk.1⟩)),(by (with_reducible repeat (first|apply zA|apply zN|apply zD));exact Kd.R_mono HO175.out (fun _ hk => hk.2)),(by (with_reducible repeat (first|apply zA|apply zN|apply zD));exact Kd.R_mono HO184.out (fun _ hk => hk.2)),(by repeat (first|(with_reducible first|exact HB.out|apply below_alloc|apply pw_below_drewN|apply below_drew1)|exact HB.out))⟩)
                ·skip
                 rintro v174 w52 ⟨hS_,h0_,h1_,h2_,h3_,h4_,h5_⟩
                 have n0_ : Aside0 (Kd.V k41 41 w52 w.heap.size (fun k_ => nO k_ (.slice (some ad176) y162.length co45) ∧ nO k_ v174) (.slice (some ad177) (rd_L5 y162 0).length c176_0) (rd_L5 y162 0)):=⟨h0_⟩
                 have n1_ : Aside0 (Kd.V k41 41 w52 w.heap.size (fun k_ => nO k_ (.slice (some ad176) y162.length co45) ∧ nO k_ v174) (.slice (some ad179) (rd_L5 y162 1).length c178_0) (rd_L5 y162 1)):=⟨h1_⟩
                 have n2_ : Aside0 (Kd.V k41 41 w52 w.heap.size (fun k_ => nO k_ (.slice (some ad176) y162.length co45) ∧ nO k_ v174) (.slice (some ad177) (rd_L5 y162 0).length c176_0) (rd_L5 y162 0)):=⟨h2_⟩
                 have n3_ : Aside0 (Kd.N (Kd.slice 41 k41) 29 w52 w.heap.size (fun k_ => nO k_ v174) (.slice (some ad176) y162.length co45) y162):=⟨h3_⟩
                 have n4_ : Aside0 (Kd.R k41 41 w52 w.heap.size (fun _ => True) v174 t173):=⟨h4_⟩
                 have n5_ : Aside0 (Below w.heap.size w w52):=⟨h5_⟩
                 clear HO164
                 clear HB
                 clear h0_ h1_ h2_ h3_ h4_ h5_
                 have HL176_0:=n0_
                 have HL178_0:=n1_
                 have HL180_0:=n2_
                 have HO164:=n3_
                 have HO175:=n4_
                 have HB:=n5_
                 clear n0_ n1_ n2_ n3_ n4_ n5_
                 have hHeld : Hd0 w52 ad176 ad177 ad179 c176_0 c178_0 y162:=hS_
                 refine norm_ (a':=?_) ?_ ?_
                 rotate_left
                 ·simp only [putAll,Act.put,sA,sZ,sS]
                  rfl
                 refine one_ (i:=17) (N:=some 54) #[tt,tt,tt,tt,tt,tt,tt,tt,tt,tt,tt,tt,tt,tt,tt,tt,tt,tt,ff,ff,ff,ff,ff,ff,ff,ff,ff,ff,ff,ff,ff,ff,ff,ff,ff,ff,ff,ff,ff,ff,ff,ff,ff,ff,ff,ff,ff,ff,ff,ff,ff,ff,ff,ff,ff,ff,ff,ff,ff,ff,ff,ff,ff,ff,ff,ff,ff,ff,ff,ff] rfl rfl (one_of HT_.out (by kernel_rfl)) (by decide) (fun K hK => ?_)
                 refine Kd.R_lit_step k41 _ 41 ?hg (N:=54) ?hd (xs:=([(⟨(⟨(rd_T41 (rd_L5 y162 0) 0).f0.f0,(rd_T41 (rd_L5 y162 0) 0).f0.f1,(rd_T41 (rd_L5 y162 0) 0).f0.f2⟩ : S39),(rd_T41 (rd_L5 y162 0) 0).f1⟩ : S41),(⟨(⟨(rd_T41 (rd_L5 y162 1) 0).f0.f0,(rd_T41 (rd_L5 y162 1) 0).f0.f1,(rd_T41 (rd_L5 y162 1) 0).f0.f2⟩ : S39),(rd_T41 (rd_L5 y162 1) 0).f1⟩ : S41),(⟨(⟨(rd_T41 (rd_L5 y162 0) 1).f0.f0,(rd_T41 (rd_L5 y162 0) 1).f0.f1,(rd_T41 (rd_L5 y162 0) 1).f0.f2⟩ : S39),(rd_T41 (rd_L5 y162 0) 1).f1⟩ : S41)] : List (S41))) (inner:=[.string ((rd_T41 (rd_L5 y162 0) 0).f0.f0),.int .u64 ((rd_T41 (rd_L5 y162 0) 0).f0.f1),.int .u8 ((rd_T41 (rd_L5 y162 0) 0).f0.f2),.string ((rd_T41 (rd_L5 y162 0) 0).f1),.string ((rd_T41 (rd_L5 y162 1) 0).f0.f0),.int .u64 ((rd_T41 (rd_L5 y162 1) 0).f0.f1),.int .u8 ((rd_T41 (rd_L5 y162 1) 0).f0.f2),.string ((rd_T41 (rd_L5 y162 1) 0).f1),.string ((rd_T41 (rd_L5 y162 0) 1).f0.f0),.int .u64 ((rd_T41 (rd_L5 y162 0) 1).f0.f1),.int .u8 ((rd_T41 (rd_L5 y162 0) 1).f0.f2),.string ((rd_T41 (rd_L5 y162 0) 1).f1)]) (ok:=fun _ => True) (okp:=fun _ => True) ?hr ?hp (fun _ hk => hk) trivial (Below.refl _ _) (Nat.le_refl _) (by simp) ?_;(case hd => rfl);(case hg => rfl);(case hr => first|(go_simp;done)|(go_simp;rfl));(case hp => exact (Reps.c4 (show Kd.M k41 _ _ _ (⟨(⟨(rd_T41 (rd_L5 y162 0) 0).f0.f0,(rd_T41 (rd_L5 y162 0) 0).f0.f1,(rd_T41 (rd_L5 y162 0) 0).f0.f2⟩ : S39),(rd_T41 (rd_L5 y162 0) 0).f1⟩ : S41) [.string ((rd_T41 (rd_L5 y162 0) 0).f0.f0),.int .u64 ((rd_T41 (rd_L5 y162 0) 0).f0.f1),.int .u8 ((rd_T41 (rd_L5 y162 0) 0).f0.f2),.string ((rd_T41 (rd_L5 y162 0) 0).f1)] from (k41_mkM _ _ _ (⟨(⟨(rd_T41 (rd_L5 y162 0) 0).f0.f0,(rd_T41 (rd_L5 y162 0) 0).f0.f1,(rd_T41 (rd_L5 y162 0) 0).f0.f2⟩ : S39),(rd_T41 (rd_L5 y162 0) 0).f1⟩ : S41) )) (Reps.c4 (show Kd.M k41 _ _ _ (⟨(⟨(rd_T41 (rd_L5 y162 1) 0).f0.f0,(rd_T41 (rd_L5 y162 1) 0).f0.f1,(rd_T41 (rd_L5 y162 1) 0).f0.f2⟩ : S39),(rd_T41 (rd_L5 y162 1) 0).f1⟩ : S41) [.string ((rd_T41 (rd_L5 y162 1) 0).f0.f0),.int .u64 ((rd_T41 (rd_L5 y162 1) 0).f0.f1),.int .u8 ((rd_T41 (rd_L5 y162 1) 0).f0.f2),.string ((rd_T41 (rd_L5 y162 1) 0).f1)] from (k41_mkM _ _ _ (⟨(⟨(rd_T41 (rd_L5 y162 1) 0).f0.f0,(rd_T41 (rd_L5 y162 1) 0).f0.f1,(rd_T41 (rd_L5 y162 1) 0).f0.f2⟩ : S39),(rd_T41 (rd_L5 y162 1) 0).f1⟩ : S41) )) (Reps.c4 (show Kd.M k41 _ _ _ (⟨(⟨(rd_T41 (rd_L5 y162 0) 1).f0.f0,(rd_T41 (rd_L5 y162 0) 1).f0.f1,(rd_T41 (rd_L5 y162 0) 1).f0.f2⟩ : S39),(rd_T41 (rd_L5 y162 0) 1).f1⟩ : S41) [.string ((rd_T41 (rd_L5 y162 0) 1).f0.f0),.int .u64 ((rd_T41 (rd_L5 y162 0) 1).f0.f1),.int .u8 ((rd_T41 (rd_L5 y162 0) 1).f0.f2),.string ((rd_T41 (rd_L5 y162 0) 1).f1)] from (k41_mkM _ _ _ (⟨(⟨(rd_T41 (rd_L5 y162 0) 1).f0.f0,(rd_T41 (rd_L5 y162 0) 1).f0.f1,(rd_T41 (rd_L5 y162 0) 1).f0.f2⟩ : S39),(rd_T41 (rd_L5 y162 0) 1).f1⟩ : S41) )) (Reps.none _ _)))))
                 intro v183 w53 ho54 hb hg_ hnew_
                 have HS0_:=bC hb hHeld.1
                 have HS1_:=bC hb hHeld.2.1
                 have HS2_:=bC hb hHeld.2.2.1
                 have HS3_:=bC hb hHeld.2.2.2.1
                 have HS4_:=bC hb hHeld.2.2.2.2.1
                 have HS5_:=bC hb hHeld.2.2.2.2.2.1
                 have HS6_:=bC hb hHeld.2.2.2.2.2.2.1
                 have HS7_:=bC hb hHeld.2.2.2.2.2.2.2.1
                 have HS8_:=bC hb hHeld.2.2.2.2.2.2.2.2.1
                 have HS9_:=bC hb hHeld.2.2.2.2.2.2.2.2.2.1
                 have HS10_:=bC hb hHeld.2.2.2.2.2.2.2.2.2.2.1
                 have HS11_:=bC hb hHeld.2.2.2.2.2.2.2.2.2.2.2.1
                 have HS12_:=bC hb hHeld.2.2.2.2.2.2.2.2.2.2.2.2.1
                 have HS13_:=bC hb hHeld.2.2.2.2.2.2.2.2.2.2.2.2.2.1
                 have HS14_:=bC hb hHeld.2.2.2.2.2.2.2.2.2.2.2.2.2.2
                 clear hg_ hnew_
                 (first|rw [← Ny182.out] at ho54|(simp only [Int.reduceToNat] at ho54;rw [← Ny182.out] at ho54))
                 have n0_:=Aside0.mk (Kd.N_elder' (by (with_reducible repeat (first|apply nA|apply nN|apply nD));exact HO164.out) (Kd.R_base ho54) hb)
                 have n1_:=Aside0.mk (Kd.V_elder' (by (with_reducible repeat (first|apply vA|apply vN|apply vD));exact HL176_0.out) (Kd.R_base ho54) hb)
                 have n2_:=Aside0.mk (Kd.V_elder' (by (with_reducible repeat (first|apply vA|apply vN|apply vD));exact HL178_0.out) (Kd.R_base ho54) hb)
                 have n3_:=Aside0.mk (Kd.V_elder' (by (with_reducible repeat (first|apply vA|apply vN|apply vD));exact HL180_0.out) (Kd.R_base ho54) hb)
                 have n4_:=Aside0.mk (Kd.R_elder' (by (with_reducible repeat (first|apply zA|apply zN|apply zD));exact HO175.out) (Kd.R_base ho54) hb)
                 have n5_:=Aside0.mk (Kd.R_lower (Kd.R_new' ho54 (Kd.R_lt (by (with_reducible repeat (first|apply zA|apply zN|apply zD));exact HO175.out))) (below_size (by repeat (first|(with_reducible first|exact HB.out|apply below_alloc|apply pw_below_drewN|apply below_drew1)|exact HB.out))))
                 have n6_:=Aside0.mk (below_step (by repeat (first|(with_reducible first|exact HB.out|apply below_alloc|apply pw_below_drewN|apply below_drew1)|exact HB.out)) hb)
                 clear HO164
                 clear HL176_0
                 clear HL178_0
                 clear HL180_0
                 clear HO175
                 clear HB
                 have HO164:=n0_
                 have HL176_0:=n1_
                 have HL178_0:=n2_
                 have HL180_0:=n3_
                 have HO175:=n4_
                 have HO184:=n5_
                 have HB:=n6_
                 clear n0_ n1_ n2_ n3_ n4_ n5_ n6_
                 clear hb ho54
                 refine hK.out _ _ ⟨HS0_,HS1_,HS2_,HS3_,HS4_,HS5_,HS6_,HS7_,HS8_,HS9_,HS10_,HS11_,HS12_,HS13_,HS14_⟩ (fun hHeld => ?_)
                 clear hK K
                 refine norm_ (a':=?_) ?_ ?_
                 rotate_left
                 ·show Act.put _ (some 54) _ = _
                  simp only [Act.put,sA,sZ,sS,i64_w,i32_w]
                  rfl
                 exact norm_ (by first|(simp only [putAll,Act.put,sA,sZ,sS];done)|(simp only [putAll,Act.put,sA,sZ,sS];rfl)) (hJ1_17 (v174,v183) _ ⟨hHeld,(by (with_reducible repeat (first|apply vA|apply vN|apply vD));exact Kd.V_mono HL176_0.out (fun _ hk => ⟨hk.1.1,⟨hk.1.2,hk.2⟩⟩)),(by (with_reducible repeat (first|apply vA|apply vN|apply vD));exact Kd.V_mono HL178_0.out (fun _ hk => ⟨hk.1.1,⟨hk.1.2,hk.2⟩⟩)),(by (with_reducible repeat (first|apply vA|apply vN|apply vD));exact Kd.V_mono HL180_0.out (fun _ hk => ⟨hk.1.1,⟨hk.1.2,hk.2⟩⟩)),(by (with_reducible repeat (first|apply nA|apply nN|apply nD));exact HO164.out),(by (with_reducible repeat (first|apply zA|apply zN|apply zD));exact Kd.R_mono HO175.out (fun _ hk => hk.2)),(by (with_reducible repeat (first|apply zA|apply zN|apply zD));exact Kd.R_mono HO184.out (fun _ hk => hk.2)),(by repeat (first|(with_reducible first|exact HB.out|apply below_alloc|apply pw_below_drewN|apply below_drew1)|exact HB.out))⟩)
               ·skip
                rintro ⟨v174,v183⟩ w54 ⟨hS_,h0_,h1_,h2_,h3_,h4_,h5_,h6_⟩
                have n0_ : Aside0 (Kd.V k41 41 w54 w.heap.size (fun k_ => nO k_ (.slice (some ad176) y162.length co45) ∧ nO k_ v174 ∧ nO k_ v183) (.slice (some ad177) (rd_L5 y162 0).length c176_0) (rd_L5 y162 0)):=⟨h0_⟩
                have n1_ : Aside0 (Kd.V k41 41 w54 w.heap.size (fun k_ => nO k_ (.slice (some ad176) y162.length co45) ∧ nO k_ v174 ∧ nO k_ v183) (.slice (some ad179) (rd_L5 y162 1).length c178_0) (rd_L5 y162 1)):=⟨h1_⟩
                have n2_ : Aside0 (Kd.V k41 41 w54 w.heap.size (fun k_ => nO k_ (.slice (some ad176) y162.length co45) ∧ nO k_ v174 ∧ nO k_ v183) (.slice (some ad177) (rd_L5 y162 0).length c176_0) (rd_L5 y162 0)):=⟨h2_⟩
                have n3_ : Aside0 (Kd.N (Kd.slice 41 k41) 29 w54 w.heap.size (fun k_ => nO k_ v174 ∧ nO k_ v183) (.slice (some ad176) y162.length co45) y162):=⟨h3_⟩
                have n4_ : Aside0 (Kd.R k41 41 w54 w.heap.size (fun k_ => nO k_ v183) v174 t173):=⟨h4_⟩
                have n5_ : Aside0 (Kd.R k41 41 w54 w.heap.size (fun k_ => nO k_ v174) v183 y182):=⟨h5_⟩
                have n6_ : Aside0 (Below w.heap.size w w54):=⟨h6_⟩
                clear HO164
                clear HB
                clear h0_ h1_ h2_ h3_ h4_ h5_ h6_
                have HL176_0:=n0_
                have HL178_0:=n1_
                have HL180_0:=n2_
                have HO164:=n3_
                have HO175:=n4_
                have HO184:=n5_
                have HB:=n6_
                clear n0_ n1_ n2_ n3_ n4_ n5_ n6_
                have hHeld : Hd0 w54 ad176 ad177 ad179 c176_0 c178_0 y162:=hS_
                obtain ⟨Ao55,co55,eo55⟩:=Kd.R_slice HO175.out
                (first|subst eo55|(injection eo55 with f1_ f2_ f3_;have f4_:=f1_.symm;have f5_:=f3_.symm;clear f1_ f2_ f3_;subst f4_;subst f5_))
                obtain ⟨Ao56,co56,eo56⟩:=Kd.R_slice HO184.out
                (first|subst eo56|(injection eo56 with f1_ f2_ f3_;have f4_:=f1_.symm;have f5_:=f3_.symm;clear f1_ f2_ f3_;subst f4_;subst f5_))
                refine norm_ (a':=?_) ?_ ?_
                rotate_left
                ·simp only [putAll,Act.put,sA,sZ,sS]
                 rfl
                refine one_ (i:=18) (N:=some 55) #[tt,tt,tt,tt,tt,tt,tt,tt,tt,tt,tt,tt,tt,tt,tt,tt,tt,tt,tt,ff,ff,ff,ff,ff,ff,ff,ff,ff,ff,ff,ff,ff,ff,ff,ff,ff,ff,ff,ff,ff,ff,ff,ff,ff,ff,ff,ff,ff,ff,ff,ff,ff,ff,ff,ff,ff,ff,ff,ff,ff,ff,ff,ff,ff,ff,ff,ff,ff,ff,ff] rfl rfl (one_of HT_.out (by kernel_rfl)) (by decide) (fun K hK => ?_)
                refine goes_ Try.func18 (by kernel_rfl) rfl #[.slice Ao55 t173.length co55,.slice Ao56 y182.length co56] (by rfl) rfl rfl (by (try simp only [List.map_toArray,List.map_cons,List.map_nil]);first|done|rfl|(simp only [List.length_drop,List.length_take];rfl)) ?_
                with_reducible refine (ratlinelaw04_Entries.calls k _ _ t173 _ _ y182 true _ ?side1 ?side2 ?side3 ?side4 A15.out).mono ?_
                (case side1 => repeat (first|exact (Kd.R_reads' HO175.out).2.2|(with_reducible refine Kd.C_alloc ?_ _)|(with_reducible refine Kd.C_drewN ?_ _)|(with_reducible refine Kd.C_drew ?_)))
                (case side2 => exact (Kd.R_reads' HO175.out).2.1)
                (case side3 => repeat (first|exact (Kd.R_reads' HO184.out).2.2|(with_reducible refine Kd.C_alloc ?_ _)|(with_reducible refine Kd.C_drewN ?_ _)|(with_reducible refine Kd.C_drew ?_)))
                (case side4 => exact (Kd.R_reads' HO184.out).2.1)
                rintro e w' ⟨rfl,⟨nd,rfl⟩⟩
                refine ⟨_,rfl,?_⟩
                refine hK.out _ _ ⟨hHeld.1,hHeld.2.1,hHeld.2.2.1,hHeld.2.2.2.1,hHeld.2.2.2.2.1,hHeld.2.2.2.2.2.1,hHeld.2.2.2.2.2.2.1,hHeld.2.2.2.2.2.2.2.1,hHeld.2.2.2.2.2.2.2.2.1,hHeld.2.2.2.2.2.2.2.2.2.1,hHeld.2.2.2.2.2.2.2.2.2.2.1,hHeld.2.2.2.2.2.2.2.2.2.2.2.1,hHeld.2.2.2.2.2.2.2.2.2.2.2.2.1,hHeld.2.2.2.2.2.2.2.2.2.2.2.2.2.1,hHeld.2.2.2.2.2.2.2.2.2.2.2.2.2.2⟩ (fun hHeld => ?_)
                clear hK K
                refine norm_ (a':=?_) ?_ ?_
                rotate_left
                ·show Act.put _ (some 55) _ = _
                 simp only [Act.put,sA,sZ,sS,i64_w,i32_w]
                 rfl
                refine pure_ (i:=19) (N:=some 56) (v:=?_) (a':=?_) #[tt,tt,tt,tt,tt,tt,tt,tt,tt,tt,tt,tt,tt,tt,tt,tt,tt,tt,tt,tt,ff,ff,ff,ff,ff,ff,ff,ff,ff,ff,ff,ff,ff,ff,ff,ff,ff,ff,ff,ff,ff,ff,ff,ff,ff,ff,ff,ff,ff,ff,ff,ff,ff,ff,ff,ff,ff,ff,ff,ff,ff,ff,ff,ff,ff,ff,ff,ff,ff,ff] rfl rfl (any_of HT_.out (by kernel_rfl)) (fun _ _ _ h => h) (Or.inl ⟨by rfl,?_⟩) ?_ ?_
                rotate_left
                ·intro w'
                 go_simp
                 with_reducible rfl
                rotate_left
                ·simp only [Act.put,sA,sZ,sS,i64_w,i32_w]
                 rfl
                refine pure_ (i:=20) (N:=some 57) (v:=?_) (a':=?_) #[tt,tt,tt,tt,tt,tt,tt,tt,tt,tt,tt,tt,tt,tt,tt,tt,tt,tt,tt,tt,tt,ff,ff,ff,ff,ff,ff,ff,ff,ff,ff,ff,ff,ff,ff,ff,ff,ff,ff,ff,ff,ff,ff,ff,ff,ff,ff,ff,ff,ff,ff,ff,ff,ff,ff,ff,ff,ff,ff,ff,ff,ff,ff,ff,ff,ff,ff,ff,ff,ff] rfl rfl (any_of HT_.out (by kernel_rfl)) (fun _ _ _ h => h) (Or.inl ⟨by rfl,?_⟩) ?_ ?_
                rotate_left
                ·intro w'
                 go_simp
                 with_reducible rfl
                rotate_left
                ·simp only [Act.put,sA,sZ,sS,i64_w,i32_w]
                 rfl
                refine pure_ (i:=21) (N:=some 58) (v:=?_) (a':=?_) #[tt,tt,tt,tt,tt,tt,tt,tt,tt,tt,tt,tt,tt,tt,tt,tt,tt,tt,tt,tt,tt,tt,ff,ff,ff,ff,ff,ff,ff,ff,ff,ff,ff,ff,ff,ff,ff,ff,ff,ff,ff,ff,ff,ff,ff,ff,ff,ff,ff,ff,ff,ff,ff,ff,ff,ff,ff,ff,ff,ff,ff,ff,ff,ff,ff,ff,ff,ff,ff,ff] rfl rfl (any_of HT_.out (by kernel_rfl)) (fun _ _ _ h => h) (Or.inl ⟨by rfl,?_⟩) ?_ ?_
                rotate_left
                ·intro w'
                 go_simp
                 with_reducible rfl
                rotate_left
                ·simp only [Act.put,sA,sZ,sS,i64_w,i32_w]
                 rfl
                refine pure_ (i:=22) (N:=some 59) (v:=?_) (a':=?_) #[tt,tt,tt,tt,tt,tt,tt,tt,tt,tt,tt,tt,tt,tt,tt,tt,tt,tt,tt,tt,tt,tt,tt,ff,ff,ff,ff,ff,ff,ff,ff,ff,ff,ff,ff,ff,ff,ff,ff,ff,ff,ff,ff,ff,ff,ff,ff,ff,ff,ff,ff,ff,ff,ff,ff,ff,ff,ff,ff,ff,ff,ff,ff,ff,ff,ff,ff,ff,ff,ff] rfl rfl (any_of HT_.out (by kernel_rfl)) (fun _ _ _ h => h) (Or.inl ⟨by rfl,?_⟩) ?_ ?_
                rotate_left
                ·intro w'
                 go_simp
                 with_reducible rfl
                rotate_left
                ·simp only [Act.put,sA,sZ,sS,i64_w,i32_w]
                 rfl
                refine pure_ (i:=23) (N:=some 60) (v:=?_) (a':=?_) #[tt,tt,tt,tt,tt,tt,tt,tt,tt,tt,tt,tt,tt,tt,tt,tt,tt,tt,tt,tt,tt,tt,tt,tt,ff,ff,ff,ff,ff,ff,ff,ff,ff,ff,ff,ff,ff,ff,ff,ff,ff,ff,ff,ff,ff,ff,ff,ff,ff,ff,ff,ff,ff,ff,ff,ff,ff,ff,ff,ff,ff,ff,ff,ff,ff,ff,ff,ff,ff,ff] rfl rfl (any_of HT_.out (by kernel_rfl)) (fun _ _ _ h => h) (Or.inl ⟨by rfl,?_⟩) ?_ ?_
                rotate_left
                ·intro w'
                 go_simp
                 with_reducible rfl
                rotate_left
                ·simp only [Act.put,sA,sZ,sS,i64_w,i32_w]
                 rfl
                refine pure_ (i:=24) (N:=some 61) (v:=?_) (a':=?_) #[tt,tt,tt,tt,tt,tt,tt,tt,tt,tt,tt,tt,tt,tt,tt,tt,tt,tt,tt,tt,tt,tt,tt,tt,tt,ff,ff,ff,ff,ff,ff,ff,ff,ff,ff,ff,ff,ff,ff,ff,ff,ff,ff,ff,ff,ff,ff,ff,ff,ff,ff,ff,ff,ff,ff,ff,ff,ff,ff,ff,ff,ff,ff,ff,ff,ff,ff,ff,ff,ff] rfl rfl (any_of HT_.out (by kernel_rfl)) (fun _ _ _ h => h) (Or.inl ⟨by rfl,?_⟩) ?_ ?_
                rotate_left
                ·intro w'
                 go_simp
                 with_reducible rfl
                rotate_left
                ·simp only [Act.put,sA,sZ,sS,i64_w,i32_w]
                 rfl
                refine pure_ (i:=25) (N:=some 62) (v:=?_) (a':=?_) #[tt,tt,tt,tt,tt,tt,tt,tt,tt,tt,tt,tt,tt,tt,tt,tt,tt,tt,tt,tt,tt,tt,tt,tt,tt,tt,ff,ff,ff,ff,ff,ff,ff,ff,ff,ff,ff,ff,ff,ff,ff,ff,ff,ff,ff,ff,ff,ff,ff,ff,ff,ff,ff,ff,ff,ff,ff,ff,ff,ff,ff,ff,ff,ff,ff,ff,ff,ff,ff,ff] rfl rfl (any_of HT_.out (by kernel_rfl)) (fun _ _ _ h => h) (Or.inl ⟨by rfl,?_⟩) ?_ ?_
                rotate_left
                ·intro w'
                 go_simp
                 with_reducible rfl
                rotate_left
                ·simp only [Act.put,sA,sZ,sS,i64_w,i32_w]
                 rfl
                refine pure_ (i:=26) (N:=some 63) (v:=?_) (a':=?_) #[tt,tt,tt,tt,tt,tt,tt,tt,tt,tt,tt,tt,tt,tt,tt,tt,tt,tt,tt,tt,tt,tt,tt,tt,tt,tt,tt,ff,ff,ff,ff,ff,ff,ff,ff,ff,ff,ff,ff,ff,ff,ff,ff,ff,ff,ff,ff,ff,ff,ff,ff,ff,ff,ff,ff,ff,ff,ff,ff,ff,ff,ff,ff,ff,ff,ff,ff,ff,ff,ff] rfl rfl (any_of HT_.out (by kernel_rfl)) (fun _ _ _ h => h) (Or.inl ⟨by rfl,?_⟩) ?_ ?_
                rotate_left
                ·intro w'
                 go_simp
                 with_reducible rfl
                rotate_left
                ·simp only [Act.put,sA,sZ,sS,i64_w,i32_w]
                 rfl
                refine pure_ (i:=27) (N:=some 64) (v:=?_) (a':=?_) #[tt,tt,tt,tt,tt,tt,tt,tt,tt,tt,tt,tt,tt,tt,tt,tt,tt,tt,tt,tt,tt,tt,tt,tt,tt,tt,tt,tt,ff,ff,ff,ff,ff,ff,ff,ff,ff,ff,ff,ff,ff,ff,ff,ff,ff,ff,ff,ff,ff,ff,ff,ff,ff,ff,ff,ff,ff,ff,ff,ff,ff,ff,ff,ff,ff,ff,ff,ff,ff,ff] rfl rfl (any_of HT_.out (by kernel_rfl)) (fun _ _ _ h => h) (Or.inl ⟨by rfl,?_⟩) ?_ ?_
                rotate_left
                ·intro w'
                 go_simp
                 with_reducible rfl
                rotate_left
                ·simp only [Act.put,sA,sZ,sS,i64_w,i32_w]
                 rfl
                refine pure_ (i:=28) (N:=some 65) (v:=?_) (a':=?_) #[tt,tt,tt,tt,tt,tt,tt,tt,tt,tt,tt,tt,tt,tt,tt,tt,tt,tt,tt,tt,tt,tt,tt,tt,tt,tt,tt,tt,tt,ff,ff,ff,ff,ff,ff,ff,ff,ff,ff,ff,ff,ff,ff,ff,ff,ff,ff,ff,ff,ff,ff,ff,ff,ff,ff,ff,ff,ff,ff,ff,ff,ff,ff,ff,ff,ff,ff,ff,ff,ff] rfl rfl (any_of HT_.out (by kernel_rfl)) (fun _ _ _ h => h) (Or.inl ⟨by rfl,?_⟩) ?_ ?_
                rotate_left
                ·intro w'
                 go_simp
                 with_reducible rfl
                rotate_left
                ·simp only [Act.put,sA,sZ,sS,i64_w,i32_w]
                 rfl
                refine pure_ (i:=29) (N:=some 66) (v:=?_) (a':=?_) #[tt,tt,tt,tt,tt,tt,tt,tt,tt,tt,tt,tt,tt,tt,tt,tt,tt,tt,tt,tt,tt,tt,tt,tt,tt,tt,tt,tt,tt,tt,ff,ff,ff,ff,ff,ff,ff,ff,ff,ff,ff,ff,ff,ff,ff,ff,ff,ff,ff,ff,ff,ff,ff,ff,ff,ff,ff,ff,ff,ff,ff,ff,ff,ff,ff,ff,ff,ff,ff,ff] rfl rfl (any_of HT_.out (by kernel_rfl)) (fun _ _ _ h => h) (Or.inl ⟨by rfl,?_⟩) ?_ ?_
                rotate_left
                ·intro w'
                 go_simp
                 with_reducible rfl
                rotate_left
                ·simp only [Act.put,sA,sZ,sS,i64_w,i32_w]
                 rfl
                refine pure_ (i:=30) (N:=some 67) (v:=?_) (a':=?_) #[tt,tt,tt,tt,tt,tt,tt,tt,tt,tt,tt,tt,tt,tt,tt,tt,tt,tt,tt,tt,tt,tt,tt,tt,tt,tt,tt,tt,tt,tt,tt,ff,ff,ff,ff,ff,ff,ff,ff,ff,ff,ff,ff,ff,ff,ff,ff,ff,ff,ff,ff,ff,ff,ff,ff,ff,ff,ff,ff,ff,ff,ff,ff,ff,ff,ff,ff,ff,ff,ff] rfl rfl (any_of HT_.out (by kernel_rfl)) (fun _ _ _ h => h) (Or.inl ⟨by rfl,?_⟩) ?_ ?_
                rotate_left
                ·intro w'
                 go_simp
                 with_reducible rfl
                rotate_left
                ·simp only [Act.put,sA,sZ,sS,i64_w,i32_w]
                 rfl
                refine pure_ (i:=31) (N:=some 68) (v:=?_) (a':=?_) #[tt,tt,tt,tt,tt,tt,tt,tt,tt,tt,tt,tt,tt,tt,tt,tt,tt,tt,tt,tt,tt,tt,tt,tt,tt,tt,tt,tt,tt,tt,tt,tt,ff,ff,ff,ff,ff,ff,ff,ff,ff,ff,ff,ff,ff,ff,ff,ff,ff,ff,ff,ff,ff,ff,ff,ff,ff,ff,ff,ff,ff,ff,ff,ff,ff,ff,ff,ff,ff,ff] rfl rfl (any_of HT_.out (by kernel_rfl)) (fun _ _ _ h => h) (Or.inl ⟨by rfl,?_⟩) ?_ ?_
                rotate_left
                ·intro w'
                 go_simp
                 with_reducible rfl
                rotate_left
                ·simp only [Act.put,sA,sZ,sS,i64_w,i32_w]
                 rfl
                refine pure_ (i:=32) (N:=some 69) (v:=?_) (a':=?_) #[tt,tt,tt,tt,tt,tt,tt,tt,tt,tt,tt,tt,tt,tt,tt,tt,tt,tt,tt,tt,tt,tt,tt,tt,tt,tt,tt,tt,tt,tt,tt,tt,tt,ff,ff,ff,ff,ff,ff,ff,ff,ff,ff,ff,ff,ff,ff,ff,ff,ff,ff,ff,ff,ff,ff,ff,ff,ff,ff,ff,ff,ff,ff,ff,ff,ff,ff,ff,ff,ff] rfl rfl (any_of HT_.out (by kernel_rfl)) (fun _ _ _ h => h) (Or.inl ⟨by rfl,?_⟩) ?_ ?_
                rotate_left
                ·intro w'
                 go_simp
                 with_reducible rfl
                rotate_left
                ·simp only [Act.put,sA,sZ,sS,i64_w,i32_w]
                 rfl
                refine pure_ (i:=33) (N:=some 70) (v:=?_) (a':=?_) #[tt,tt,tt,tt,tt,tt,tt,tt,tt,tt,tt,tt,tt,tt,tt,tt,tt,tt,tt,tt,tt,tt,tt,tt,tt,tt,tt,tt,tt,tt,tt,tt,tt,tt,ff,ff,ff,ff,ff,ff,ff,ff,ff,ff,ff,ff,ff,ff,ff,ff,ff,ff,ff,ff,ff,ff,ff,ff,ff,ff,ff,ff,ff,ff,ff,ff,ff,ff,ff,ff] rfl rfl (any_of HT_.out (by kernel_rfl)) (fun _ _ _ h => h) (Or.inl ⟨by rfl,?_⟩) ?_ ?_
                rotate_left
                ·intro w'
                 go_simp
                 with_reducible rfl
                rotate_left
                ·simp only [Act.put,sA,sZ,sS,i64_w,i32_w]
                 rfl
                refine pure_ (i:=34) (N:=some 71) (v:=?_) (a':=?_) #[tt,tt,tt,tt,tt,tt,tt,tt,tt,tt,tt,tt,tt,tt,tt,tt,tt,tt,tt,tt,tt,tt,tt,tt,tt,tt,tt,tt,tt,tt,tt,tt,tt,tt,tt,ff,ff,ff,ff,ff,ff,ff,ff,ff,ff,ff,ff,ff,ff,ff,ff,ff,ff,ff,ff,ff,ff,ff,ff,ff,ff,ff,ff,ff,ff,ff,ff,ff,ff,ff] rfl rfl (any_of HT_.out (by kernel_rfl)) (fun _ _ _ h => h) (Or.inl ⟨by rfl,?_⟩) ?_ ?_
                rotate_left
                ·intro w'
                 go_simp
                 with_reducible rfl
                rotate_left
                ·simp only [Act.put,sA,sZ,sS,i64_w,i32_w]
                 rfl
                refine pure_ (i:=35) (N:=some 72) (v:=?_) (a':=?_) #[tt,tt,tt,tt,tt,tt,tt,tt,tt,tt,tt,tt,tt,tt,tt,tt,tt,tt,tt,tt,tt,tt,tt,tt,tt,tt,tt,tt,tt,tt,tt,tt,tt,tt,tt,tt,ff,ff,ff,ff,ff,ff,ff,ff,ff,ff,ff,ff,ff,ff,ff,ff,ff,ff,ff,ff,ff,ff,ff,ff,ff,ff,ff,ff,ff,ff,ff,ff,ff,ff] rfl rfl (any_of HT_.out (by kernel_rfl)) (fun _ _ _ h => h) (Or.inl ⟨by rfl,?_⟩) ?_ ?_
                rotate_left
                ·intro w'
                 go_simp
                 with_reducible rfl
                rotate_left
                ·simp only [Act.put,sA,sZ,sS,i64_w,i32_w]
                 rfl
                refine pure_ (i:=36) (N:=some 73) (v:=?_) (a':=?_) #[tt,tt,tt,tt,tt,tt,tt,tt,tt,tt,tt,tt,tt,tt,tt,tt,tt,tt,tt,tt,tt,tt,tt,tt,tt,tt,tt,tt,tt,tt,tt,tt,tt,tt,tt,tt,tt,ff,ff,ff,ff,ff,ff,ff,ff,ff,ff,ff,ff,ff,ff,ff,ff,ff,ff,ff,ff,ff,ff,ff,ff,ff,ff,ff,ff,ff,ff,ff,ff,ff] rfl rfl (any_of HT_.out (by kernel_rfl)) (fun _ _ _ h => h) (Or.inl ⟨by rfl,?_⟩) ?_ ?_
                rotate_left
                ·intro w'
                 go_simp
                 with_reducible rfl
                rotate_left
                ·simp only [Act.put,sA,sZ,sS,i64_w,i32_w]
                 rfl
                refine pure_ (i:=37) (N:=some 74) (v:=?_) (a':=?_) #[tt,tt,tt,tt,tt,tt,tt,tt,tt,tt,tt,tt,tt,tt,tt,tt,tt,tt,tt,tt,tt,tt,tt,tt,tt,tt,tt,tt,tt,tt,tt,tt,tt,tt,tt,tt,tt,tt,ff,ff,ff,ff,ff,ff,ff,ff,ff,ff,ff,ff,ff,ff,ff,ff,ff,ff,ff,ff,ff,ff,ff,ff,ff,ff,ff,ff,ff,ff,ff,ff] rfl rfl (any_of HT_.out (by kernel_rfl)) (fun _ _ _ h => h) (Or.inl ⟨by rfl,?_⟩) ?_ ?_
                rotate_left
                ·intro w'
                 go_simp
                 with_reducible rfl
                rotate_left
                ·simp only [Act.put,sA,sZ,sS,i64_w,i32_w]
                 rfl
                refine pure_ (i:=38) (N:=some 75) (v:=?_) (a':=?_) #[tt,tt,tt,tt,tt,tt,tt,tt,tt,tt,tt,tt,tt,tt,tt,tt,tt,tt,tt,tt,tt,tt,tt,tt,tt,tt,tt,tt,tt,tt,tt,tt,tt,tt,tt,tt,tt,tt,tt,ff,ff,ff,ff,ff,ff,ff,ff,ff,ff,ff,ff,ff,ff,ff,ff,ff,ff,ff,ff,ff,ff,ff,ff,ff,ff,ff,ff,ff,ff,ff] rfl rfl (any_of HT_.out (by kernel_rfl)) (fun _ _ _ h => h) (Or.inl ⟨by rfl,?_⟩) ?_ ?_
                rotate_left
                ·intro w'
                 go_simp
                 with_reducible rfl
                rotate_left
                ·simp only [Act.put,sA,sZ,sS,i64_w,i32_w]
                 rfl
                refine pure_ (i:=39) (N:=some 76) (v:=?_) (a':=?_) #[tt,tt,tt,tt,tt,tt,tt,tt,tt,tt,tt,tt,tt,tt,tt,tt,tt,tt,tt,tt,tt,tt,tt,tt,tt,tt,tt,tt,tt,tt,tt,tt,tt,tt,tt,tt,tt,tt,tt,tt,ff,ff,ff,ff,ff,ff,ff,ff,ff,ff,ff,ff,ff,ff,ff,ff,ff,ff,ff,ff,ff,ff,ff,ff,ff,ff,ff,ff,ff,ff] rfl rfl (any_of HT_.out (by kernel_rfl)) (fun _ _ _ h => h) (Or.inl ⟨by rfl,?_⟩) ?_ ?_
                rotate_left
                ·intro w'
                 go_simp
                 with_reducible rfl
                rotate_left
                ·simp only [Act.put,sA,sZ,sS,i64_w,i32_w]
                 rfl
                refine pure_ (i:=40) (N:=some 77) (v:=?_) (a':=?_) #[tt,tt,tt,tt,tt,tt,tt,tt,tt,tt,tt,tt,tt,tt,tt,tt,tt,tt,tt,tt,tt,tt,tt,tt,tt,tt,tt,tt,tt,tt,tt,tt,tt,tt,tt,tt,tt,tt,tt,tt,tt,ff,ff,ff,ff,ff,ff,ff,ff,ff,ff,ff,ff,ff,ff,ff,ff,ff,ff,ff,ff,ff,ff,ff,ff,ff,ff,ff,ff,ff] rfl rfl (any_of HT_.out (by kernel_rfl)) (fun _ _ _ h => h) (Or.inl ⟨by rfl,?_⟩) ?_ ?_
                rotate_left
                ·intro w'
                 go_simp
                 with_reducible rfl
                rotate_left
                ·simp only [Act.put,sA,sZ,sS,i64_w,i32_w]
                 rfl
                refine pure_ (i:=41) (N:=some 78) (v:=?_) (a':=?_) #[tt,tt,tt,tt,tt,tt,tt,tt,tt,tt,tt,tt,tt,tt,tt,tt,tt,tt,tt,tt,tt,tt,tt,tt,tt,tt,tt,tt,tt,tt,tt,tt,tt,tt,tt,tt,tt,tt,tt,tt,tt,tt,ff,ff,ff,ff,ff,ff,ff,ff,ff,ff,ff,ff,ff,ff,ff,ff,ff,ff,ff,ff,ff,ff,ff,ff,ff,ff,ff,ff] rfl rfl (any_of HT_.out (by kernel_rfl)) (fun _ _ _ h => h) (Or.inl ⟨by rfl,?_⟩) ?_ ?_
                rotate_left
                ·intro w'
                 go_simp
                 with_reducible rfl
                rotate_left
                ·simp only [Act.put,sA,sZ,sS,i64_w,i32_w]
                 rfl
                refine pure_ (i:=42) (N:=some 79) (v:=?_) (a':=?_) #[tt,tt,tt,tt,tt,tt,tt,tt,tt,tt,tt,tt,tt,tt,tt,tt,tt,tt,tt,tt,tt,tt,tt,tt,tt,tt,tt,tt,tt,tt,tt,tt,tt,tt,tt,tt,tt,tt,tt,tt,tt,tt,tt,ff,ff,ff,ff,ff,ff,ff,ff,ff,ff,ff,ff,ff,ff,ff,ff,ff,ff,ff,ff,ff,ff,ff,ff,ff,ff,ff] rfl rfl (any_of HT_.out (by kernel_rfl)) (fun _ _ _ h => h) (Or.inl ⟨by rfl,?_⟩) ?_ ?_
                rotate_left
                ·intro w'
                 go_simp
                 with_reducible rfl
                rotate_left
                ·simp only [Act.put,sA,sZ,sS,i64_w,i32_w]
                 rfl
                refine pure_ (i:=44) (N:=some 81) (v:=?_) (a':=?_) #[tt,tt,tt,tt,tt,tt,tt,tt,tt,tt,tt,tt,tt,tt,tt,tt,tt,tt,tt,tt,tt,tt,tt,tt,tt,tt,tt,tt,tt,tt,tt,tt,tt,tt,tt,tt,tt,tt,tt,tt,tt,tt,tt,ff,tt,ff,ff,ff,ff,ff,ff,ff,ff,ff,ff,ff,ff,ff,ff,ff,ff,ff,ff,ff,ff,ff,ff,ff,ff,ff] rfl rfl (any_of HT_.out (by kernel_rfl)) (fun _ _ _ h => h) (Or.inl ⟨by rfl,?_⟩) ?_ ?_
                rotate_left
                ·intro w'
                 go_simp
                 with_reducible rfl
                rotate_left
                ·simp only [Act.put,sA,sZ,sS,i64_w,i32_w]
                 rfl
                refine pure_ (i:=45) (N:=some 82) (v:=?_) (a':=?_) #[tt,tt,tt,tt,tt,tt,tt,tt,tt,tt,tt,tt,tt,tt,tt,tt,tt,tt,tt,tt,tt,tt,tt,tt,tt,tt,tt,tt,tt,tt,tt,tt,tt,tt,tt,tt,tt,tt,tt,tt,tt,tt,tt,ff,tt,tt,ff,ff,ff,ff,ff,ff,ff,ff,ff,ff,ff,ff,ff,ff,ff,ff,ff,ff,ff,ff,ff,ff,ff,ff] rfl rfl (any_of HT_.out (by kernel_rfl)) (fun _ _ _ h => h) (Or.inl ⟨by rfl,?_⟩) ?_ ?_
                rotate_left
                ·intro w'
                 go_simp
                 with_reducible rfl
                rotate_left
                ·simp only [Act.put,sA,sZ,sS,i64_w,i32_w]
                 rfl
                exact norm_ (by first|(simp only [putAll,Act.put,sA,sZ,sS];done)|(simp only [putAll,Act.put,sA,sZ,sS];rfl)) (hJ1_17_18 (.slice Ao55 t173.length co55,.slice Ao56 y182.length co56) _ ⟨hHeld,(by (with_reducible repeat (first|apply vA|apply vN|apply vD));exact HL176_0.out),(by (with_reducible repeat (first|apply vA|apply vN|apply vD));exact HL178_0.out),(by (with_reducible repeat (first|apply vA|apply vN|apply vD));exact HL180_0.out),(by (with_reducible repeat (first|apply nA|apply nN|apply nD));exact HO164.out),(by (with_reducible repeat (first|apply zA|apply zN|apply zD));exact HO175.out),(by (with_reducible repeat (first|apply zA|apply zN|apply zD));exact HO184.out),(by repeat (first|(with_reducible first|exact HB.out|apply below_alloc|apply pw_below_drewN|apply below_drew1)|exact HB.out))⟩)
              ·skip
               rintro ⟨v174,v183⟩ w56 ⟨hS_,h0_,h1_,h2_,h3_,h4_,h5_,h6_⟩
               have n0_ : Aside0 (Kd.V k41 41 w56 w.heap.size (fun k_ => nO k_ (.slice (some ad176) y162.length co45) ∧ nO k_ v174 ∧ nO k_ v183) (.slice (some ad177) (rd_L5 y162 0).length c176_0) (rd_L5 y162 0)):=⟨h0_⟩
               have n1_ : Aside0 (Kd.V k41 41 w56 w.heap.size (fun k_ => nO k_ (.slice (some ad176) y162.length co45) ∧ nO k_ v174 ∧ nO k_ v183) (.slice (some ad179) (rd_L5 y162 1).length c178_0) (rd_L5 y162 1)):=⟨h1_⟩
               have n2_ : Aside0 (Kd.V k41 41 w56 w.heap.size (fun k_ => nO k_ (.slice (some ad176) y162.length co45) ∧ nO k_ v174 ∧ nO k_ v183) (.slice (some ad177) (rd_L5 y162 0).length c176_0) (rd_L5 y162 0)):=⟨h2_⟩
               have n3_ : Aside0 (Kd.N (Kd.slice 41 k41) 29 w56 w.heap.size (fun k_ => nO k_ v174 ∧ nO k_ v183) (.slice (some ad176) y162.length co45) y162):=⟨h3_⟩
               have n4_ : Aside0 (Kd.R k41 41 w56 w.heap.size (fun k_ => nO k_ v183) v174 t173):=⟨h4_⟩
               have n5_ : Aside0 (Kd.R k41 41 w56 w.heap.size (fun k_ => nO k_ v174) v183 y182):=⟨h5_⟩
               have n6_ : Aside0 (Below w.heap.size w w56):=⟨h6_⟩
               clear HO164
               clear HB
               clear h0_ h1_ h2_ h3_ h4_ h5_ h6_
               have HL176_0:=n0_
               have HL178_0:=n1_
               have HL180_0:=n2_
               have HO164:=n3_
               have HO175:=n4_
               have HO184:=n5_
               have HB:=n6_
               clear n0_ n1_ n2_ n3_ n4_ n5_ n6_
               have hHeld : Hd0 w56 ad176 ad177 ad179 c176_0 c178_0 y162:=hS_
               refine norm_ (a':=?_) ?_ ?_
               rotate_left
               ·simp only [putAll,Act.put,sA,sZ,sS]
                rfl
               refine two_ (i:=43) (j:=46) (Ni:=some 80) (Nj:=some 83) #[tt,tt,tt,tt,tt,tt,tt,tt,tt,tt,tt,tt,tt,tt,tt,tt,tt,tt,tt,tt,tt,tt,tt,tt,tt,tt,tt,tt,tt,tt,tt,tt,tt,tt,tt,tt,tt,tt,tt,tt,tt,tt,tt,tt,tt,tt,ff,ff,ff,ff,ff,ff,ff,ff,ff,ff,ff,ff,ff,ff,ff,ff,ff,ff,ff,ff,ff,ff,ff,ff] #[tt,tt,tt,tt,tt,tt,tt,tt,tt,tt,tt,tt,tt,tt,tt,tt,tt,tt,tt,tt,tt,tt,tt,tt,tt,tt,tt,tt,tt,tt,tt,tt,tt,tt,tt,tt,tt,tt,tt,tt,tt,tt,tt,ff,tt,tt,tt,ff,ff,ff,ff,ff,ff,ff,ff,ff,ff,ff,ff,ff,ff,ff,ff,ff,ff,ff,ff,ff,ff,ff] rfl rfl rfl rfl (two_of HT_.out (by kernel_rfl)) (by decide) (by decide) (fun K hK => ?_) (fun K hK => ?_)
               ·skip
                refine goes_ Try.func22 (by kernel_rfl) rfl #[.slice (some ad176) y162.length co45,.string (⟨#[97]⟩ : BA),.string (⟨#[99]⟩ : BA),.int .u64 5,.int .i64 9] (by rfl) rfl rfl (by (try simp only [List.map_toArray,List.map_cons,List.map_nil]);first|done|rfl|(simp only [List.length_drop,List.length_take];rfl)) ?_
                with_reducible refine (merge_Scan.calls _ _ y162 (⟨#[97]⟩ : BA) (⟨#[99]⟩ : BA) 5 9 t186 _ ?side1 ?side2 A23.out).mono ?_
                (case side1 => repeat (first|exact (Kd.N_reads' HO164.out).2.2|(with_reducible refine Kd.C_alloc ?_ _)|(with_reducible refine Kd.C_drewN ?_ _)|(with_reducible refine Kd.C_drew ?_)))
                (case side2 => exact (Kd.N_reads' HO164.out).2.1)
                rintro e w57 ⟨v187,rfl,ho0,hb⟩
                have HS0_:=bC hb hHeld.1
                have HS1_:=bC hb hHeld.2.1
                have HS2_:=bC hb hHeld.2.2.1
                have HS3_:=bC hb hHeld.2.2.2.1
                have HS4_:=bC hb hHeld.2.2.2.2.1
                have HS5_:=bC hb hHeld.2.2.2.2.2.1
                have HS6_:=bC hb hHeld.2.2.2.2.2.2.1
                have HS7_:=bC hb hHeld.2.2.2.2.2.2.2.1
                have HS8_:=bC hb hHeld.2.2.2.2.2.2.2.2.1
                have HS9_:=bC hb hHeld.2.2.2.2.2.2.2.2.2.1
                have HS10_:=bC hb hHeld.2.2.2.2.2.2.2.2.2.2.1
                have HS11_:=bC hb hHeld.2.2.2.2.2.2.2.2.2.2.2.1
                have HS12_:=bC hb hHeld.2.2.2.2.2.2.2.2.2.2.2.2.1
                have HS13_:=bC hb hHeld.2.2.2.2.2.2.2.2.2.2.2.2.2.1
                have HS14_:=bC hb hHeld.2.2.2.2.2.2.2.2.2.2.2.2.2.2
                refine ⟨_,rfl,?_⟩
                have n0_:=Aside0.mk (Kd.N_elder' (by (with_reducible repeat (first|apply nA|apply nN|apply nD));exact HO164.out) (Kd.R_base ho0) hb)
                have n1_:=Aside0.mk (Kd.V_elder' (by (with_reducible repeat (first|apply vA|apply vN|apply vD));exact HL176_0.out) (Kd.R_base ho0) hb)
                have n2_:=Aside0.mk (Kd.V_elder' (by (with_reducible repeat (first|apply vA|apply vN|apply vD));exact HL178_0.out) (Kd.R_base ho0) hb)
                have n3_:=Aside0.mk (Kd.V_elder' (by (with_reducible repeat (first|apply vA|apply vN|apply vD));exact HL180_0.out) (Kd.R_base ho0) hb)
                have n4_:=Aside0.mk (Kd.R_below (by (with_reducible repeat (first|apply zA|apply zN|apply zD));exact HO175.out) hb)
                have n5_:=Aside0.mk (Kd.R_below (by (with_reducible repeat (first|apply zA|apply zN|apply zD));exact HO184.out) hb)
                have n6_:=Aside0.mk (Kd.R_lower ho0 (below_size (by repeat (first|(with_reducible first|exact HB.out|apply below_alloc|apply pw_below_drewN|apply below_drew1)|exact HB.out))))
                have n7_:=Aside0.mk (below_step (by repeat (first|(with_reducible first|exact HB.out|apply below_alloc|apply pw_below_drewN|apply below_drew1)|exact HB.out)) hb)
                clear HO164
                clear HL176_0
                clear HL178_0
                clear HL180_0
                clear HO175
                clear HO184
                clear HB
                have HO164:=n0_
                have HL176_0:=n1_
                have HL178_0:=n2_
                have HL180_0:=n3_
                have HO175:=n4_
                have HO184:=n5_
                have HO188:=n6_
                have HB:=n7_
                clear n0_ n1_ n2_ n3_ n4_ n5_ n6_ n7_
                (try clear hb)
                (try clear hb2)
                (try clear hk)
                (try clear hi)
                (try clear ho0)
                refine hK.out _ _ ⟨HS0_,HS1_,HS2_,HS3_,HS4_,HS5_,HS6_,HS7_,HS8_,HS9_,HS10_,HS11_,HS12_,HS13_,HS14_⟩ (fun hHeld => ?_)
                clear hK K
                refine norm_ (a':=?_) ?_ ?_
                rotate_left
                ·show Act.put _ (some 80) _ = _
                 simp only [Act.put,sA,sZ,sS,i64_w,i32_w]
                 rfl
                exact norm_ (by first|(simp only [putAll,Act.put,sA,sZ,sS];done)|(simp only [putAll,Act.put,sA,sZ,sS];rfl)) (hJ1_17_18_43 (v174,v183,v187) _ ⟨hHeld,(by (with_reducible repeat (first|apply vA|apply vN|apply vD));exact Kd.V_mono HL176_0.out (fun _ hk => ⟨hk.1.1,⟨hk.1.2.1,⟨hk.1.2.2,hk.2⟩⟩⟩)),(by (with_reducible repeat (first|apply vA|apply vN|apply vD));exact Kd.V_mono HL178_0.out (fun _ hk => ⟨hk.1.1,⟨hk.1.2.1,⟨hk.1.2.2,hk.2⟩⟩⟩)),(by (with_reducible repeat (first|apply vA|apply vN|apply vD));exact Kd.V_mono HL180_0.out (fun _ hk => ⟨hk.1.1,⟨hk.1.2.1,⟨hk.1.2.2,hk.2⟩⟩⟩)),(by (with_reducible repeat (first|apply nA|apply nN|apply nD));exact Kd.N_mono HO164.out (fun _ hk => ⟨hk.1.1,⟨hk.1.2,hk.2⟩⟩)),(by (with_reducible repeat (first|apply zA|apply zN|apply zD));exact HO175.out),(by (with_reducible repeat (first|apply zA|apply zN|apply zD));exact HO184.out),(by (with_reducible repeat (first|apply zA|apply zN|apply zD));exact HO188.out),(by repeat (first|(with_reducible first|exact HB.out|apply below_alloc|apply pw_below_drewN|apply below_drew1)|exact HB.out))⟩)
               ·skip
                refine Kd.R_lit_step k37 _ 37 ?hg (N:=83) ?hd (xs:=([(⟨(⟨#[97]⟩ : BA),(⟨#[120]⟩ : BA)⟩ : S37),(⟨(⟨#[98]⟩ : BA),(⟨#[121]⟩ : BA)⟩ : S37)] : List (S37))) (inner:=[.string (⟨#[97]⟩ : BA),.string (⟨#[120]⟩ : BA),.string (⟨#[98]⟩ : BA),.string (⟨#[121]⟩ : BA)]) (ok:=fun _ => True) (okp:=fun _ => True) ?hr ?hp (fun _ hk => hk) trivial (Below.refl _ _) (Nat.le_refl _) (by simp) ?_;(case hd => rfl);(case hg => rfl);(case hr => first|(go_simp;done)|(go_simp;rfl));(case hp => exact (Reps.c2 (show Kd.M k37 _ _ _ (⟨(⟨#[97]⟩ : BA),(⟨#[120]⟩ : BA)⟩ : S37) [.string (⟨#[97]⟩ : BA),.string (⟨#[120]⟩ : BA)] from (k37_mkM _ _ _ (⟨(⟨#[97]⟩ : BA),(⟨#[120]⟩ : BA)⟩ : S37) )) (Reps.c2 (show Kd.M k37 _ _ _ (⟨(⟨#[98]⟩ : BA),(⟨#[121]⟩ : BA)⟩ : S37) [.string (⟨#[98]⟩ : BA),.string (⟨#[121]⟩ : BA)] from (k37_mkM _ _ _ (⟨(⟨#[98]⟩ : BA),(⟨#[121]⟩ : BA)⟩ : S37) )) (Reps.none _ _))))
                intro v190 w57 ho58 hb hg_ hnew_
                have HS0_:=bC hb hHeld.1
                have HS1_:=bC hb hHeld.2.1
                have HS2_:=bC hb hHeld.2.2.1
                have HS3_:=bC hb hHeld.2.2.2.1
                have HS4_:=bC hb hHeld.2.2.2.2.1
                have HS5_:=bC hb hHeld.2.2.2.2.2.1
                have HS6_:=bC hb hHeld.2.2.2.2.2.2.1
                have HS7_:=bC hb hHeld.2.2.2.2.2.2.2.1
                have HS8_:=bC hb hHeld.2.2.2.2.2.2.2.2.1
                have HS9_:=bC hb hHeld.2.2.2.2.2.2.2.2.2.1
                have HS10_:=bC hb hHeld.2.2.2.2.2.2.2.2.2.2.1
                have HS11_:=bC hb hHeld.2.2.2.2.2.2.2.2.2.2.2.1
                have HS12_:=bC hb hHeld.2.2.2.2.2.2.2.2.2.2.2.2.1
                have HS13_:=bC hb hHeld.2.2.2.2.2.2.2.2.2.2.2.2.2.1
                have HS14_:=bC hb hHeld.2.2.2.2.2.2.2.2.2.2.2.2.2.2
                clear hg_ hnew_
                (first|rw [← Ny189.out] at ho58|(simp only [Int.reduceToNat] at ho58;rw [← Ny189.out] at ho58))
                have n0_:=Aside0.mk (Kd.N_elder' (by (with_reducible repeat (first|apply nA|apply nN|apply nD));exact HO164.out) (Kd.R_base ho58) hb)
                have n1_:=Aside0.mk (Kd.V_elder' (by (with_reducible repeat (first|apply vA|apply vN|apply vD));exact HL176_0.out) (Kd.R_base ho58) hb)
                have n2_:=Aside0.mk (Kd.V_elder' (by (with_reducible repeat (first|apply vA|apply vN|apply vD));exact HL178_0.out) (Kd.R_base ho58) hb)
                have n3_:=Aside0.mk (Kd.V_elder' (by (with_reducible repeat (first|apply vA|apply vN|apply vD));exact HL180_0.out) (Kd.R_base ho58) hb)
                have n4_:=Aside0.mk (Kd.R_below (by (with_reducible repeat (first|apply zA|apply zN|apply zD));exact HO175.out) hb)
                have n5_:=Aside0.mk (Kd.R_below (by (with_reducible repeat (first|apply zA|apply zN|apply zD));exact HO184.out) hb)
                have n6_:=Aside0.mk (Kd.R_lower ho58 (below_size (by repeat (first|(with_reducible first|exact HB.out|apply below_alloc|apply pw_below_drewN|apply below_drew1)|exact HB.out))))
                have n7_:=Aside0.mk (below_step (by repeat (first|(with_reducible first|exact HB.out|apply below_alloc|apply pw_below_drewN|apply below_drew1)|exact HB.out)) hb)
                clear HO164
                clear HL176_0
                clear HL178_0
                clear HL180_0
                clear HO175
                clear HO184
                clear HB
                have HO164:=n0_
                have HL176_0:=n1_
                have HL178_0:=n2_
                have HL180_0:=n3_
                have HO175:=n4_
                have HO184:=n5_
                have HO191:=n6_
                have HB:=n7_
                clear n0_ n1_ n2_ n3_ n4_ n5_ n6_ n7_
                clear hb ho58
                refine hK.out _ _ ⟨HS0_,HS1_,HS2_,HS3_,HS4_,HS5_,HS6_,HS7_,HS8_,HS9_,HS10_,HS11_,HS12_,HS13_,HS14_⟩ (fun hHeld => ?_)
                clear hK K
                refine norm_ (a':=?_) ?_ ?_
                rotate_left
                ·show Act.put _ (some 83) _ = _
                 simp only [Act.put,sA,sZ,sS,i64_w,i32_w]
                 rfl
                exact norm_ (by first|(simp only [putAll,Act.put,sA,sZ,sS];done)|(simp only [putAll,Act.put,sA,sZ,sS];rfl)) (hJ1_17_18_46 (v174,v183,v190) _ ⟨hHeld,(by (with_reducible repeat (first|apply vA|apply vN|apply vD));exact Kd.V_mono HL176_0.out (fun _ hk => ⟨hk.1.1,⟨hk.1.2.1,⟨hk.1.2.2,hk.2⟩⟩⟩)),(by (with_reducible repeat (first|apply vA|apply vN|apply vD));exact Kd.V_mono HL178_0.out (fun _ hk => ⟨hk.1.1,⟨hk.1.2.1,⟨hk.1.2.2,hk.2⟩⟩⟩)),(by (with_reducible repeat (first|apply vA|apply vN|apply vD));exact Kd.V_mono HL180_0.out (fun _ hk => ⟨hk.1.1,⟨hk.1.2.1,⟨hk.1.2.2,hk.2⟩⟩⟩)),(by (with_reducible repeat (first|apply nA|apply nN|apply nD));exact Kd.N_mono HO164.out (fun _ hk => ⟨hk.1.1,⟨hk.1.2,hk.2⟩⟩)),(by (with_reducible repeat (first|apply zA|apply zN|apply zD));exact HO175.out),(by (with_reducible repeat (first|apply zA|apply zN|apply zD));exact HO184.out),(by (with_reducible repeat (first|apply zA|apply zN|apply zD));exact HO191.out),(by repeat (first|(with_reducible first|exact HB.out|apply below_alloc|apply pw_below_drewN|apply below_drew1)|exact HB.out))⟩)
             ·skip
              rintro ⟨v174,v183,v190⟩ w58 ⟨hS_,h0_,h1_,h2_,h3_,h4_,h5_,h6_,h7_⟩
              have n0_ : Aside0 (Kd.V k41 41 w58 w.heap.size (fun k_ => nO k_ (.slice (some ad176) y162.length co45) ∧ nO k_ v174 ∧ nO k_ v183 ∧ nO k_ v190) (.slice (some ad177) (rd_L5 y162 0).length c176_0) (rd_L5 y162 0)):=⟨h0_⟩
              have n1_ : Aside0 (Kd.V k41 41 w58 w.heap.size (fun k_ => nO k_ (.slice (some ad176) y162.length co45) ∧ nO k_ v174 ∧ nO k_ v183 ∧ nO k_ v190) (.slice (some ad179) (rd_L5 y162 1).length c178_0) (rd_L5 y162 1)):=⟨h1_⟩
              have n2_ : Aside0 (Kd.V k41 41 w58 w.heap.size (fun k_ => nO k_ (.slice (some ad176) y162.length co45) ∧ nO k_ v174 ∧ nO k_ v183 ∧ nO k_ v190) (.slice (some ad177) (rd_L5 y162 0).length c176_0) (rd_L5 y162 0)):=⟨h2_⟩
              have n3_ : Aside0 (Kd.N (Kd.slice 41 k41) 29 w58 w.heap.size (fun k_ => nO k_ v174 ∧ nO k_ v183 ∧ nO k_ v190) (.slice (some ad176) y162.length co45) y162):=⟨h3_⟩
              have n4_ : Aside0 (Kd.R k41 41 w58 w.heap.size (fun k_ => nO k_ v183) v174 t173):=⟨h4_⟩
              have n5_ : Aside0 (Kd.R k41 41 w58 w.heap.size (fun k_ => nO k_ v174) v183 y182):=⟨h5_⟩
              have n6_ : Aside0 (Kd.R k37 37 w58 w.heap.size (fun _ => True) v190 y189):=⟨h6_⟩
              have n7_ : Aside0 (Below w.heap.size w w58):=⟨h7_⟩
              clear HO164
              clear HB
              clear h0_ h1_ h2_ h3_ h4_ h5_ h6_ h7_
              have HL176_0:=n0_
              have HL178_0:=n1_
              have HL180_0:=n2_
              have HO164:=n3_
              have HO175:=n4_
              have HO184:=n5_
              have HO191:=n6_
              have HB:=n7_
              clear n0_ n1_ n2_ n3_ n4_ n5_ n6_ n7_
              have hHeld : Hd0 w58 ad176 ad177 ad179 c176_0 c178_0 y162:=hS_
              refine norm_ (a':=?_) ?_ ?_
              rotate_left
              ·simp only [putAll,Act.put,sA,sZ,sS]
               rfl
              refine one_ (i:=43) (N:=some 80) #[tt,tt,tt,tt,tt,tt,tt,tt,tt,tt,tt,tt,tt,tt,tt,tt,tt,tt,tt,tt,tt,tt,tt,tt,tt,tt,tt,tt,tt,tt,tt,tt,tt,tt,tt,tt,tt,tt,tt,tt,tt,tt,tt,tt,tt,tt,tt,ff,ff,ff,ff,ff,ff,ff,ff,ff,ff,ff,ff,ff,ff,ff,ff,ff,ff,ff,ff,ff,ff,ff] rfl rfl (one_of HT_.out (by kernel_rfl)) (by decide) (fun K hK => ?_)
              refine goes_ Try.func22 (by kernel_rfl) rfl #[.slice (some ad176) y162.length co45,.string (⟨#[97]⟩ : BA),.string (⟨#[99]⟩ : BA),.int .u64 5,.int .i64 9] (by rfl) rfl rfl (by (try simp only [List.map_toArray,List.map_cons,List.map_nil]);first|done|rfl|(simp only [List.length_drop,List.length_take];rfl)) ?_
              with_reducible refine (merge_Scan.calls _ _ y162 (⟨#[97]⟩ : BA) (⟨#[99]⟩ : BA) 5 9 t186 _ ?side1 ?side2 A23.out).mono ?_
              (case side1 => repeat (first|exact (Kd.N_reads' HO164.out).2.2|(with_reducible refine Kd.C_alloc ?_ _)|(with_reducible refine Kd.C_drewN ?_ _)|(with_reducible refine Kd.C_drew ?_)))
              (case side2 => exact (Kd.N_reads' HO164.out).2.1)
              rintro e w59 ⟨v187,rfl,ho0,hb⟩
              have HS0_:=bC hb hHeld.1
              have HS1_:=bC hb hHeld.2.1
              have HS2_:=bC hb hHeld.2.2.1
              have HS3_:=bC hb hHeld.2.2.2.1
              have HS4_:=bC hb hHeld.2.2.2.2.1
              have HS5_:=bC hb hHeld.2.2.2.2.2.1
              have HS6_:=bC hb hHeld.2.2.2.2.2.2.1
              have HS7_:=bC hb hHeld.2.2.2.2.2.2.2.1
              have HS8_:=bC hb hHeld.2.2.2.2.2.2.2.2.1
              have HS9_:=bC hb hHeld.2.2.2.2.2.2.2.2.2.1
              have HS10_:=bC hb hHeld.2.2.2.2.2.2.2.2.2.2.1
              have HS11_:=bC hb hHeld.2.2.2.2.2.2.2.2.2.2.2.1
              have HS12_:=bC hb hHeld.2.2.2.2.2.2.2.2.2.2.2.2.1
              have HS13_:=bC hb hHeld.2.2.2.2.2.2.2.2.2.2.2.2.2.1
              have HS14_:=bC hb hHeld.2.2.2.2.2.2.2.2.2.2.2.2.2.2
              refine ⟨_,rfl,?_⟩
              have n0_:=Aside0.mk (Kd.N_elder' (by (with_reducible repeat (first|apply nA|apply nN|apply nD));exact HO164.out) (Kd.R_base ho0) hb)
              have n1_:=Aside0.mk (Kd.V_elder' (by (with_reducible repeat (first|apply vA|apply vN|apply vD));exact HL176_0.out) (Kd.R_base ho0) hb)
              have n2_:=Aside0.mk (Kd.V_elder' (by (with_reducible repeat (first|apply vA|apply vN|apply vD));exact HL178_0.out) (Kd.R_base ho0) hb)
              have n3_:=Aside0.mk (Kd.V_elder' (by (with_reducible repeat (first|apply vA|apply vN|apply vD));exact HL180_0.out) (Kd.R_base ho0) hb)
              have n4_:=Aside0.mk (Kd.R_below (by (with_reducible repeat (first|apply zA|apply zN|apply zD));exact HO175.out) hb)
              have n5_:=Aside0.mk (Kd.R_below (by (with_reducible repeat (first|apply zA|apply zN|apply zD));exact HO184.out) hb)
              have n6_:=Aside0.mk (Kd.R_elder' (by (with_reducible repeat (first|apply zA|apply zN|apply zD));exact HO191.out) (Kd.R_base ho0) hb)
              have n7_:=Aside0.mk (Kd.R_lower (Kd.R_new' ho0 (Kd.R_lt (by (with_reducible repeat (first|apply zA|apply zN|apply zD));exact HO191.out))) (below_size (by repeat (first|(with_reducible first|exact HB.out|apply below_alloc|apply pw_below_drewN|apply below_drew1)|exact HB.out))))
              have n8_:=Aside0.mk (below_step (by repeat (first|(with_reducible first|exact HB.out|apply below_alloc|apply pw_below_drewN|apply below_drew1)|exact HB.out)) hb)
              clear HO164
              clear HL176_0
              clear HL178_0
              clear HL180_0
              clear HO175
              clear HO184
              clear HO191
              clear HB
              have HO164:=n0_
              have HL176_0:=n1_
              have HL178_0:=n2_
              have HL180_0:=n3_
              have HO175:=n4_
              have HO184:=n5_
              have HO191:=n6_
              have HO188:=n7_
              have HB:=n8_
              clear n0_ n1_ n2_ n3_ n4_ n5_ n6_ n7_ n8_
              (try clear hb)
              (try clear hb2)
              (try clear hk)
              (try clear hi)
              (try clear ho0)
              refine hK.out _ _ ⟨HS0_,HS1_,HS2_,HS3_,HS4_,HS5_,HS6_,HS7_,HS8_,HS9_,HS10_,HS11_,HS12_,HS13_,HS14_⟩ (fun hHeld => ?_)
              clear hK K
              refine norm_ (a':=?_) ?_ ?_
              rotate_left
              ·show Act.put _ (some 80) _ = _
               simp only [Act.put,sA,sZ,sS,i64_w,i32_w]
               rfl
              exact norm_ (by first|(simp only [putAll,Act.put,sA,sZ,sS];done)|(simp only [putAll,Act.put,sA,sZ,sS];rfl)) (hJ1_17_18_43_46 (v174,v183,v187,v190) _ ⟨hHeld,(by (with_reducible repeat (first|apply vA|apply vN|apply vD));exact Kd.V_mono HL176_0.out (fun _ hk => ⟨hk.1.1,⟨hk.1.2.1,⟨hk.1.2.2.1,⟨hk.2,hk.1.2.2.2⟩⟩⟩⟩)),(by (with_reducible repeat (first|apply vA|apply vN|apply vD));exact Kd.V_mono HL178_0.out (fun _ hk => ⟨hk.1.1,⟨hk.1.2.1,⟨hk.1.2.2.1,⟨hk.2,hk.1.2.2.2⟩⟩⟩⟩)),(by (with_reducible repeat (first|apply vA|apply vN|apply vD));exact Kd.V_mono HL180_0.out (fun _ hk => ⟨hk.1.1,⟨hk.1.2.1,⟨hk.1.2.2.1,⟨hk.2,hk.1.2.2.2⟩⟩⟩⟩)),(by (with_reducible repeat (first|apply nA|apply nN|apply nD));exact Kd.N_mono HO164.out (fun _ hk => ⟨hk.1.1,⟨hk.1.2.1,⟨hk.2,hk.1.2.2⟩⟩⟩)),(by (with_reducible repeat (first|apply zA|apply zN|apply zD));exact HO175.out),(by (with_reducible repeat (first|apply zA|apply zN|apply zD));exact HO184.out),(by (with_reducible repeat (first|apply zA|apply zN|apply zD));exact Kd.R_mono HO188.out (fun _ hk => hk.2)),(by (with_reducible repeat (first|apply zA|apply zN|apply zD));exact Kd.R_mono HO191.out (fun _ hk => hk.2)),(by repeat (first|(with_reducible first|exact HB.out|apply below_alloc|apply pw_below_drewN|apply below_drew1)|exact HB.out))⟩)
            ·skip
             rintro ⟨v174,v183,v187⟩ w57 ⟨hS_,h0_,h1_,h2_,h3_,h4_,h5_,h6_,h7_⟩
             have n0_ : Aside0 (Kd.V k41 41 w57 w.heap.size (fun k_ => nO k_ (.slice (some ad176) y162.length co45) ∧ nO k_ v174 ∧ nO k_ v183 ∧ nO k_ v187) (.slice (some ad177) (rd_L5 y162 0).length c176_0) (rd_L5 y162 0)):=⟨h0_⟩
             have n1_ : Aside0 (Kd.V k41 41 w57 w.heap.size (fun k_ => nO k_ (.slice (some ad176) y162.length co45) ∧ nO k_ v174 ∧ nO k_ v183 ∧ nO k_ v187) (.slice (some ad179) (rd_L5 y162 1).length c178_0) (rd_L5 y162 1)):=⟨h1_⟩
             have n2_ : Aside0 (Kd.V k41 41 w57 w.heap.size (fun k_ => nO k_ (.slice (some ad176) y162.length co45) ∧ nO k_ v174 ∧ nO k_ v183 ∧ nO k_ v187) (.slice (some ad177) (rd_L5 y162 0).length c176_0) (rd_L5 y162 0)):=⟨h2_⟩
             have n3_ : Aside0 (Kd.N (Kd.slice 41 k41) 29 w57 w.heap.size (fun k_ => nO k_ v174 ∧ nO k_ v183 ∧ nO k_ v187) (.slice (some ad176) y162.length co45) y162):=⟨h3_⟩
             have n4_ : Aside0 (Kd.R k41 41 w57 w.heap.size (fun k_ => nO k_ v183) v174 t173):=⟨h4_⟩
             have n5_ : Aside0 (Kd.R k41 41 w57 w.heap.size (fun k_ => nO k_ v174) v183 y182):=⟨h5_⟩
             have n6_ : Aside0 (Kd.R k37 37 w57 w.heap.size (fun _ => True) v187 t186):=⟨h6_⟩
             have n7_ : Aside0 (Below w.heap.size w w57):=⟨h7_⟩
             clear HO164
             clear HB
             clear h0_ h1_ h2_ h3_ h4_ h5_ h6_ h7_
             have HL176_0:=n0_
             have HL178_0:=n1_
             have HL180_0:=n2_
             have HO164:=n3_
             have HO175:=n4_
             have HO184:=n5_
             have HO188:=n6_
             have HB:=n7_
             clear n0_ n1_ n2_ n3_ n4_ n5_ n6_ n7_
             have hHeld : Hd0 w57 ad176 ad177 ad179 c176_0 c178_0 y162:=hS_
             refine norm_ (a':=?_) ?_ ?_
             rotate_left
             ·simp only [putAll,Act.put,sA,sZ,sS]
              rfl
             refine one_ (i:=46) (N:=some 83) #[tt,tt,tt,tt,tt,tt,tt,tt,tt,tt,tt,tt,tt,tt,tt,tt,tt,tt,tt,tt,tt,tt,tt,tt,tt,tt,tt,tt,tt,tt,tt,tt,tt,tt,tt,tt,tt,tt,tt,tt,tt,tt,tt,tt,tt,tt,tt,ff,ff,ff,ff,ff,ff,ff,ff,ff,ff,ff,ff,ff,ff,ff,ff,ff,ff,ff,ff,ff,ff,ff] rfl rfl (one_of HT_.out (by kernel_rfl)) (by decide) (fun K hK => ?_)
             refine Kd.R_lit_step k37 _ 37 ?hg (N:=83) ?hd (xs:=([(⟨(⟨#[97]⟩ : BA),(⟨#[120]⟩ : BA)⟩ : S37),(⟨(⟨#[98]⟩ : BA),(⟨#[121]⟩ : BA)⟩ : S37)] : List (S37))) (inner:=[.string (⟨#[97]⟩ : BA),.string (⟨#[120]⟩ : BA),.string (⟨#[98]⟩ : BA),.string (⟨#[121]⟩ : BA)]) (ok:=fun _ => True) (okp:=fun _ => True) ?hr ?hp (fun _ hk => hk) trivial (Below.refl _ _) (Nat.le_refl _) (by simp) ?_;(case hd => rfl);(case hg => rfl);(case hr => first|(go_simp;done)|(go_simp;rfl));(case hp => exact (Reps.c2 (show Kd.M k37 _ _ _ (⟨(⟨#[97]⟩ : BA),(⟨#[120]⟩ : BA)⟩ : S37) [.string (⟨#[97]⟩ : BA),.string (⟨#[120]⟩ : BA)] from (k37_mkM _ _ _ (⟨(⟨#[97]⟩ : BA),(⟨#[120]⟩ : BA)⟩ : S37) )) (Reps.c2 (show Kd.M k37 _ _ _ (⟨(⟨#[98]⟩ : BA),(⟨#[121]⟩ : BA)⟩ : S37) [.string (⟨#[98]⟩ : BA),.string (⟨#[121]⟩ : BA)] from (k37_mkM _ _ _ (⟨(⟨#[98]⟩ : BA),(⟨#[121]⟩ : BA)⟩ : S37) )) (Reps.none _ _))))
             intro v190 w58 ho59 hb hg_ hnew_
             have HS0_:=bC hb hHeld.1
             have HS1_:=bC hb hHeld.2.1
             have HS2_:=bC hb hHeld.2.2.1
             have HS3_:=bC hb hHeld.2.2.2.1
             have HS4_:=bC hb hHeld.2.2.2.2.1
             have HS5_:=bC hb hHeld.2.2.2.2.2.1
             have HS6_:=bC hb hHeld.2.2.2.2.2.2.1
             have HS7_:=bC hb hHeld.2.2.2.2.2.2.2.1
             have HS8_:=bC hb hHeld.2.2.2.2.2.2.2.2.1
             have HS9_:=bC hb hHeld.2.2.2.2.2.2.2.2.2.1
             have HS10_:=bC hb hHeld.2.2.2.2.2.2.2.2.2.2.1
             have HS11_:=bC hb hHeld.2.2.2.2.2.2.2.2.2.2.2.1
             have HS12_:=bC hb hHeld.2.2.2.2.2.2.2.2.2.2.2.2.1
             have HS13_:=bC hb hHeld.2.2.2.2.2.2.2.2.2.2.2.2.2.1
             have HS14_:=bC hb hHeld.2.2.2.2.2.2.2.2.2.2.2.2.2.2
             clear hg_ hnew_
             (first|rw [← Ny189.out] at ho59|(simp only [Int.reduceToNat] at ho59;rw [← Ny189.out] at ho59))
             have n0_:=Aside0.mk (Kd.N_elder' (by (with_reducible repeat (first|apply nA|apply nN|apply nD));exact HO164.out) (Kd.R_base ho59) hb)
             have n1_:=Aside0.mk (Kd.V_elder' (by (with_reducible repeat (first|apply vA|apply vN|apply vD));exact HL176_0.out) (Kd.R_base ho59) hb)
             have n2_:=Aside0.mk (Kd.V_elder' (by (with_reducible repeat (first|apply vA|apply vN|apply vD));exact HL178_0.out) (Kd.R_base ho59) hb)
             have n3_:=Aside0.mk (Kd.V_elder' (by (with_reducible repeat (first|apply vA|apply vN|apply vD));exact HL180_0.out) (Kd.R_base ho59) hb)
             have n4_:=Aside0.mk (Kd.R_below (by (with_reducible repeat (first|apply zA|apply zN|apply zD));exact HO175.out) hb)
             have n5_:=Aside0.mk (Kd.R_below (by (with_reducible repeat (first|apply zA|apply zN|apply zD));exact HO184.out) hb)
             have n6_:=Aside0.mk (Kd.R_elder' (by (with_reducible repeat (first|apply zA|apply zN|apply zD));exact HO188.out) (Kd.R_base ho59) hb)
             have n7_:=Aside0.mk (Kd.R_lower (Kd.R_new' ho59 (Kd.R_lt (by (with_reducible repeat (first|apply zA|apply zN|apply zD));exact HO188.out))) (below_size (by repeat (first|(with_reducible first|exact HB.out|apply below_alloc|apply pw_below_drewN|apply below_drew1)|exact HB.out))))
             have n8_:=Aside0.mk (below_step (by repeat (first|(with_reducible first|exact HB.out|apply below_alloc|apply pw_below_drewN|apply below_drew1)|exact HB.out)) hb)
             clear HO164
             clear HL176_0
             clear HL178_0
             clear HL180_0
             clear HO175
             clear HO184
             clear HO188
             clear HB
             have HO164:=n0_
             have HL176_0:=n1_
             have HL178_0:=n2_
             have HL180_0:=n3_
             have HO175:=n4_
             have HO184:=n5_
             have HO188:=n6_
             have HO191:=n7_
             have HB:=n8_
             clear n0_ n1_ n2_ n3_ n4_ n5_ n6_ n7_ n8_
             clear hb ho59
             refine hK.out _ _ ⟨HS0_,HS1_,HS2_,HS3_,HS4_,HS5_,HS6_,HS7_,HS8_,HS9_,HS10_,HS11_,HS12_,HS13_,HS14_⟩ (fun hHeld => ?_)
             clear hK K
             refine norm_ (a':=?_) ?_ ?_
             rotate_left
             ·show Act.put _ (some 83) _ = _
              simp only [Act.put,sA,sZ,sS,i64_w,i32_w]
              rfl
             exact norm_ (by first|(simp only [putAll,Act.put,sA,sZ,sS];done)|(simp only [putAll,Act.put,sA,sZ,sS];rfl)) (hJ1_17_18_43_46 (v174,v183,v187,v190) _ ⟨hHeld,(by (with_reducible repeat (first|apply vA|apply vN|apply vD));exact Kd.V_mono HL176_0.out (fun _ hk => ⟨hk.1.1,⟨hk.1.2.1,⟨hk.1.2.2.1,⟨hk.1.2.2.2,hk.2⟩⟩⟩⟩)),(by (with_reducible repeat (first|apply vA|apply vN|apply vD));exact Kd.V_mono HL178_0.out (fun _ hk => ⟨hk.1.1,⟨hk.1.2.1,⟨hk.1.2.2.1,⟨hk.1.2.2.2,hk.2⟩⟩⟩⟩)),(by (with_reducible repeat (first|apply vA|apply vN|apply vD));exact Kd.V_mono HL180_0.out (fun _ hk => ⟨hk.1.1,⟨hk.1.2.1,⟨hk.1.2.2.1,⟨hk.1.2.2.2,hk.2⟩⟩⟩⟩)),(by (with_reducible repeat (first|apply nA|apply nN|apply nD));exact Kd.N_mono HO164.out (fun _ hk => ⟨hk.1.1,⟨hk.1.2.1,⟨hk.1.2.2,hk.2⟩⟩⟩)),(by (with_reducible repeat (first|apply zA|apply zN|apply zD));exact HO175.out),(by (with_reducible repeat (first|apply zA|apply zN|apply zD));exact HO184.out),(by (with_reducible repeat (first|apply zA|apply zN|apply zD));exact Kd.R_mono HO188.out (fun _ hk => hk.2)),(by (with_reducible repeat (first|apply zA|apply zN|apply zD));exact Kd.R_mono HO191.out (fun _ hk => hk.2)),(by repeat (first|(with_reducible first|exact HB.out|apply below_alloc|apply pw_below_drewN|apply below_drew1)|exact HB.out))⟩)
           ·skip
            rintro ⟨v174,v183,v187,v190⟩ w59 ⟨hS_,h0_,h1_,h2_,h3_,h4_,h5_,h6_,h7_,h8_⟩
            have n0_ : Aside0 (Kd.V k41 41 w59 w.heap.size (fun k_ => nO k_ (.slice (some ad176) y162.length co45) ∧ nO k_ v174 ∧ nO k_ v183 ∧ nO k_ v187 ∧ nO k_ v190) (.slice (some ad177) (rd_L5 y162 0).length c176_0) (rd_L5 y162 0)):=⟨h0_⟩
            have n1_ : Aside0 (Kd.V k41 41 w59 w.heap.size (fun k_ => nO k_ (.slice (some ad176) y162.length co45) ∧ nO k_ v174 ∧ nO k_ v183 ∧ nO k_ v187 ∧ nO k_ v190) (.slice (some ad179) (rd_L5 y162 1).length c178_0) (rd_L5 y162 1)):=⟨h1_⟩
            have n2_ : Aside0 (Kd.V k41 41 w59 w.heap.size (fun k_ => nO k_ (.slice (some ad176) y162.length co45) ∧ nO k_ v174 ∧ nO k_ v183 ∧ nO k_ v187 ∧ nO k_ v190) (.slice (some ad177) (rd_L5 y162 0).length c176_0) (rd_L5 y162 0)):=⟨h2_⟩
            have n3_ : Aside0 (Kd.N (Kd.slice 41 k41) 29 w59 w.heap.size (fun k_ => nO k_ v174 ∧ nO k_ v183 ∧ nO k_ v187 ∧ nO k_ v190) (.slice (some ad176) y162.length co45) y162):=⟨h3_⟩
            have n4_ : Aside0 (Kd.R k41 41 w59 w.heap.size (fun k_ => nO k_ v183) v174 t173):=⟨h4_⟩
            have n5_ : Aside0 (Kd.R k41 41 w59 w.heap.size (fun k_ => nO k_ v174) v183 y182):=⟨h5_⟩
            have n6_ : Aside0 (Kd.R k37 37 w59 w.heap.size (fun k_ => nO k_ v190) v187 t186):=⟨h6_⟩
            have n7_ : Aside0 (Kd.R k37 37 w59 w.heap.size (fun k_ => nO k_ v187) v190 y189):=⟨h7_⟩
            have n8_ : Aside0 (Below w.heap.size w w59):=⟨h8_⟩
            clear HO164
            clear HB
            clear h0_ h1_ h2_ h3_ h4_ h5_ h6_ h7_ h8_
            have HL176_0:=n0_
            have HL178_0:=n1_
            have HL180_0:=n2_
            have HO164:=n3_
            have HO175:=n4_
            have HO184:=n5_
            have HO188:=n6_
            have HO191:=n7_
            have HB:=n8_
            clear n0_ n1_ n2_ n3_ n4_ n5_ n6_ n7_ n8_
            have hHeld : Hd0 w59 ad176 ad177 ad179 c176_0 c178_0 y162:=hS_
            obtain ⟨Ao60,co60,eo60⟩:=Kd.R_slice HO188.out
            (first|subst eo60|(injection eo60 with f1_ f2_ f3_;have f4_:=f1_.symm;have f5_:=f3_.symm;clear f1_ f2_ f3_;subst f4_;subst f5_))
            obtain ⟨Ao61,co61,eo61⟩:=Kd.R_slice HO191.out
            (first|subst eo61|(injection eo61 with f1_ f2_ f3_;have f4_:=f1_.symm;have f5_:=f3_.symm;clear f1_ f2_ f3_;subst f4_;subst f5_))
            refine norm_ (a':=?_) ?_ ?_
            rotate_left
            ·simp only [putAll,Act.put,sA,sZ,sS]
             rfl
            refine one_ (i:=47) (N:=some 84) #[tt,tt,tt,tt,tt,tt,tt,tt,tt,tt,tt,tt,tt,tt,tt,tt,tt,tt,tt,tt,tt,tt,tt,tt,tt,tt,tt,tt,tt,tt,tt,tt,tt,tt,tt,tt,tt,tt,tt,tt,tt,tt,tt,tt,tt,tt,tt,tt,ff,ff,ff,ff,ff,ff,ff,ff,ff,ff,ff,ff,ff,ff,ff,ff,ff,ff,ff,ff,ff,ff] rfl rfl (one_of HT_.out (by kernel_rfl)) (by decide) (fun K hK => ?_)
            refine goes_ Try.func21 (by kernel_rfl) rfl #[.slice Ao60 t186.length co60,.slice Ao61 y189.length co61] (by rfl) rfl rfl (by (try simp only [List.map_toArray,List.map_cons,List.map_nil]);first|done|rfl|(simp only [List.length_drop,List.length_take];rfl)) ?_
            with_reducible refine (ratlinelaw11_Pairs.calls k _ _ t186 _ _ y189 true _ ?side1 ?side2 ?side3 ?side4 A24.out).mono ?_
            (case side1 => repeat (first|exact (Kd.R_reads' HO188.out).2.2|(with_reducible refine Kd.C_alloc ?_ _)|(with_reducible refine Kd.C_drewN ?_ _)|(with_reducible refine Kd.C_drew ?_)))
            (case side2 => exact (Kd.R_reads' HO188.out).2.1)
            (case side3 => repeat (first|exact (Kd.R_reads' HO191.out).2.2|(with_reducible refine Kd.C_alloc ?_ _)|(with_reducible refine Kd.C_drewN ?_ _)|(with_reducible refine Kd.C_drew ?_)))
            (case side4 => exact (Kd.R_reads' HO191.out).2.1)
            rintro e w' ⟨rfl,⟨nd,rfl⟩⟩
            refine ⟨_,rfl,?_⟩
            refine hK.out _ _ ⟨hHeld.1,hHeld.2.1,hHeld.2.2.1,hHeld.2.2.2.1,hHeld.2.2.2.2.1,hHeld.2.2.2.2.2.1,hHeld.2.2.2.2.2.2.1,hHeld.2.2.2.2.2.2.2.1,hHeld.2.2.2.2.2.2.2.2.1,hHeld.2.2.2.2.2.2.2.2.2.1,hHeld.2.2.2.2.2.2.2.2.2.2.1,hHeld.2.2.2.2.2.2.2.2.2.2.2.1,hHeld.2.2.2.2.2.2.2.2.2.2.2.2.1,hHeld.2.2.2.2.2.2.2.2.2.2.2.2.2.1,hHeld.2.2.2.2.2.2.2.2.2.2.2.2.2.2⟩ (fun hHeld => ?_)
            clear hK K
            refine norm_ (a':=?_) ?_ ?_
            rotate_left
            ·show Act.put _ (some 84) _ = _
             simp only [Act.put,sA,sZ,sS,i64_w,i32_w]
             rfl
            refine pure_ (i:=48) (N:=some 85) (v:=?_) (a':=?_) #[tt,tt,tt,tt,tt,tt,tt,tt,tt,tt,tt,tt,tt,tt,tt,tt,tt,tt,tt,tt,tt,tt,tt,tt,tt,tt,tt,tt,tt,tt,tt,tt,tt,tt,tt,tt,tt,tt,tt,tt,tt,tt,tt,tt,tt,tt,tt,tt,tt,ff,ff,ff,ff,ff,ff,ff,ff,ff,ff,ff,ff,ff,ff,ff,ff,ff,ff,ff,ff,ff] rfl rfl (any_of HT_.out (by kernel_rfl)) (fun _ _ _ h => h) (Or.inl ⟨by rfl,?_⟩) ?_ ?_
            rotate_left
            ·intro w'
             go_simp
             with_reducible rfl
            rotate_left
            ·simp only [Act.put,sA,sZ,sS,i64_w,i32_w]
             rfl
            refine pure_ (i:=49) (N:=some 86) (v:=?_) (a':=?_) #[tt,tt,tt,tt,tt,tt,tt,tt,tt,tt,tt,tt,tt,tt,tt,tt,tt,tt,tt,tt,tt,tt,tt,tt,tt,tt,tt,tt,tt,tt,tt,tt,tt,tt,tt,tt,tt,tt,tt,tt,tt,tt,tt,tt,tt,tt,tt,tt,tt,tt,ff,ff,ff,ff,ff,ff,ff,ff,ff,ff,ff,ff,ff,ff,ff,ff,ff,ff,ff,ff] rfl rfl (any_of HT_.out (by kernel_rfl)) (fun _ _ _ h => h) (Or.inl ⟨by rfl,?_⟩) ?_ ?_
            rotate_left
            ·intro w'
             go_simp
             with_reducible rfl
            rotate_left
            ·simp only [Act.put,sA,sZ,sS,i64_w,i32_w]
             rfl
            refine pure_ (i:=50) (N:=some 87) (v:=?_) (a':=?_) #[tt,tt,tt,tt,tt,tt,tt,tt,tt,tt,tt,tt,tt,tt,tt,tt,tt,tt,tt,tt,tt,tt,tt,tt,tt,tt,tt,tt,tt,tt,tt,tt,tt,tt,tt,tt,tt,tt,tt,tt,tt,tt,tt,tt,tt,tt,tt,tt,tt,tt,tt,ff,ff,ff,ff,ff,ff,ff,ff,ff,ff,ff,ff,ff,ff,ff,ff,ff,ff,ff] rfl rfl (any_of HT_.out (by kernel_rfl)) (fun _ _ _ h => h) (Or.inl ⟨by rfl,?_⟩) ?_ ?_
            rotate_left
            ·intro w'
             go_simp
             with_reducible rfl
            rotate_left
            ·simp only [Act.put,sA,sZ,sS,i64_w,i32_w]
             rfl
            refine pure_ (i:=52) (N:=some 89) (v:=?_) (a':=?_) #[tt,tt,tt,tt,tt,tt,tt,tt,tt,tt,tt,tt,tt,tt,tt,tt,tt,tt,tt,tt,tt,tt,tt,tt,tt,tt,tt,tt,tt,tt,tt,tt,tt,tt,tt,tt,tt,tt,tt,tt,tt,tt,tt,tt,tt,tt,tt,tt,tt,tt,tt,ff,tt,ff,ff,ff,ff,ff,ff,ff,ff,ff,ff,ff,ff,ff,ff,ff,ff,ff] rfl rfl (any_of HT_.out (by kernel_rfl)) (fun _ _ _ h => h) (Or.inl ⟨by rfl,?_⟩) ?_ ?_
            rotate_left
            ·intro w'
             go_simp
             with_reducible rfl
            rotate_left
            ·simp only [Act.put,sA,sZ,sS,i64_w,i32_w]
             rfl
            exact norm_ (by first|(simp only [putAll,Act.put,sA,sZ,sS];done)|(simp only [putAll,Act.put,sA,sZ,sS];rfl)) (hJ1_17_18_43_46_47 (v174,v183,.slice Ao60 t186.length co60,.slice Ao61 y189.length co61) _ ⟨hHeld,(by (with_reducible repeat (first|apply vA|apply vN|apply vD));exact HL176_0.out),(by (with_reducible repeat (first|apply vA|apply vN|apply vD));exact HL178_0.out),(by (with_reducible repeat (first|apply vA|apply vN|apply vD));exact HL180_0.out),(by (with_reducible repeat (first|apply nA|apply nN|apply nD));exact HO164.out),(by (with_reducible repeat (first|apply zA|apply zN|apply zD));exact HO175.out),(by (with_reducible repeat (first|apply zA|apply zN|apply zD));exact HO184.out),(by (with_reducible repeat (first|apply zA|apply zN|apply zD));exact HO188.out),(by (with_reducible repeat (first|apply zA|apply zN|apply zD));exact HO191.out),(by repeat (first|(with_reducible first|exact HB.out|apply below_alloc|apply pw_below_drewN|apply below_drew1)|exact HB.out))⟩)
          ·skip
           rintro ⟨v174,v183,v187,v190⟩ w61 ⟨hS_,h0_,h1_,h2_,h3_,h4_,h5_,h6_,h7_,h8_⟩
           have n0_ : Aside0 (Kd.V k41 41 w61 w.heap.size (fun k_ => nO k_ (.slice (some ad176) y162.length co45) ∧ nO k_ v174 ∧ nO k_ v183 ∧ nO k_ v187 ∧ nO k_ v190) (.slice (some ad177) (rd_L5 y162 0).length c176_0) (rd_L5 y162 0)):=⟨h0_⟩
           have n1_ : Aside0 (Kd.V k41 41 w61 w.heap.size (fun k_ => nO k_ (.slice (some ad176) y162.length co45) ∧ nO k_ v174 ∧ nO k_ v183 ∧ nO k_ v187 ∧ nO k_ v190) (.slice (some ad179) (rd_L5 y162 1).length c178_0) (rd_L5 y162 1)):=⟨h1_⟩
           have n2_ : Aside0 (Kd.V k41 41 w61 w.heap.size (fun k_ => nO k_ (.slice (some ad176) y162.length co45) ∧ nO k_ v174 ∧ nO k_ v183 ∧ nO k_ v187 ∧ nO k_ v190) (.slice (some ad177) (rd_L5 y162 0).length c176_0) (rd_L5 y162 0)):=⟨h2_⟩
           have n3_ : Aside0 (Kd.N (Kd.slice 41 k41) 29 w61 w.heap.size (fun k_ => nO k_ v174 ∧ nO k_ v183 ∧ nO k_ v187 ∧ nO k_ v190) (.slice (some ad176) y162.length co45) y162):=⟨h3_⟩
           have n4_ : Aside0 (Kd.R k41 41 w61 w.heap.size (fun k_ => nO k_ v183) v174 t173):=⟨h4_⟩
           have n5_ : Aside0 (Kd.R k41 41 w61 w.heap.size (fun k_ => nO k_ v174) v183 y182):=⟨h5_⟩
           have n6_ : Aside0 (Kd.R k37 37 w61 w.heap.size (fun k_ => nO k_ v190) v187 t186):=⟨h6_⟩
           have n7_ : Aside0 (Kd.R k37 37 w61 w.heap.size (fun k_ => nO k_ v187) v190 y189):=⟨h7_⟩
           have n8_ : Aside0 (Below w.heap.size w w61):=⟨h8_⟩
           clear HO164
           clear HB
           clear h0_ h1_ h2_ h3_ h4_ h5_ h6_ h7_ h8_
           have HL176_0:=n0_
           have HL178_0:=n1_
           have HL180_0:=n2_
           have HO164:=n3_
           have HO175:=n4_
           have HO184:=n5_
           have HO188:=n6_
           have HO191:=n7_
           have HB:=n8_
           clear n0_ n1_ n2_ n3_ n4_ n5_ n6_ n7_ n8_
           have hHeld : Hd0 w61 ad176 ad177 ad179 c176_0 c178_0 y162:=hS_
           refine norm_ (a':=?_) ?_ ?_
           rotate_left
           ·simp only [putAll,Act.put,sA,sZ,sS]
            rfl
           refine two_ (i:=51) (j:=53) (Ni:=some 88) (Nj:=some 90) #[tt,tt,tt,tt,tt,tt,tt,tt,tt,tt,tt,tt,tt,tt,tt,tt,tt,tt,tt,tt,tt,tt,tt,tt,tt,tt,tt,tt,tt,tt,tt,tt,tt,tt,tt,tt,tt,tt,tt,tt,tt,tt,tt,tt,tt,tt,tt,tt,tt,tt,tt,tt,tt,ff,ff,ff,ff,ff,ff,ff,ff,ff,ff,ff,ff,ff,ff,ff,ff,ff] #[tt,tt,tt,tt,tt,tt,tt,tt,tt,tt,tt,tt,tt,tt,tt,tt,tt,tt,tt,tt,tt,tt,tt,tt,tt,tt,tt,tt,tt,tt,tt,tt,tt,tt,tt,tt,tt,tt,tt,tt,tt,tt,tt,tt,tt,tt,tt,tt,tt,tt,tt,ff,tt,tt,ff,ff,ff,ff,ff,ff,ff,ff,ff,ff,ff,ff,ff,ff,ff,ff] rfl rfl rfl rfl (two_of HT_.out (by kernel_rfl)) (by decide) (by decide) (fun K hK => ?_) (fun K hK => ?_)
           ·skip
            refine goes_ Try.func22 (by kernel_rfl) rfl #[.slice (some ad176) y162.length co45,.string (⟨#[97]⟩ : BA),.string (⟨#[99]⟩ : BA),.int .u64 9,.int .i64 9] (by rfl) rfl rfl (by (try simp only [List.map_toArray,List.map_cons,List.map_nil]);first|done|rfl|(simp only [List.length_drop,List.length_take];rfl)) ?_
            with_reducible refine (merge_Scan.calls _ _ y162 (⟨#[97]⟩ : BA) (⟨#[99]⟩ : BA) 9 9 t193 _ ?side1 ?side2 A26.out).mono ?_
            (case side1 => repeat (first|exact (Kd.N_reads' HO164.out).2.2|(with_reducible refine Kd.C_alloc ?_ _)|(with_reducible refine Kd.C_drewN ?_ _)|(with_reducible refine Kd.C_drew ?_)))
            (case side2 => exact (Kd.N_reads' HO164.out).2.1)
            rintro e w62 ⟨v194,rfl,ho0,hb⟩
            have HS0_:=bC hb hHeld.1
            have HS1_:=bC hb hHeld.2.1
            have HS2_:=bC hb hHeld.2.2.1
            have HS3_:=bC hb hHeld.2.2.2.1
            have HS4_:=bC hb hHeld.2.2.2.2.1
            have HS5_:=bC hb hHeld.2.2.2.2.2.1
            have HS6_:=bC hb hHeld.2.2.2.2.2.2.1
            have HS7_:=bC hb hHeld.2.2.2.2.2.2.2.1
            have HS8_:=bC hb hHeld.2.2.2.2.2.2.2.2.1
            have HS9_:=bC hb hHeld.2.2.2.2.2.2.2.2.2.1
            have HS10_:=bC hb hHeld.2.2.2.2.2.2.2.2.2.2.1
            have HS11_:=bC hb hHeld.2.2.2.2.2.2.2.2.2.2.2.1
            have HS12_:=bC hb hHeld.2.2.2.2.2.2.2.2.2.2.2.2.1
            have HS13_:=bC hb hHeld.2.2.2.2.2.2.2.2.2.2.2.2.2.1
            have HS14_:=bC hb hHeld.2.2.2.2.2.2.2.2.2.2.2.2.2.2
            refine ⟨_,rfl,?_⟩
            have n0_:=Aside0.mk (Kd.N_elder' (by (with_reducible repeat (first|apply nA|apply nN|apply nD));exact HO164.out) (Kd.R_base ho0) hb)
            have n1_:=Aside0.mk (Kd.V_elder' (by (with_reducible repeat (first|apply vA|apply vN|apply vD));exact HL176_0.out) (Kd.R_base ho0) hb)
            have n2_:=Aside0.mk (Kd.V_elder' (by (with_reducible repeat (first|apply vA|apply vN|apply vD));exact HL178_0.out) (Kd.R_base ho0) hb)
            have n3_:=Aside0.mk (Kd.V_elder' (by (with_reducible repeat (first|apply vA|apply vN|apply vD));exact HL180_0.out) (Kd.R_base ho0) hb)
            have n4_:=Aside0.mk (Kd.R_below (by (with_reducible repeat (first|apply zA|apply zN|apply zD));exact HO175.out) hb)
            have n5_:=Aside0.mk (Kd.R_below (by (with_reducible repeat (first|apply zA|apply zN|apply zD));exact HO184.out) hb)
            have n6_:=Aside0.mk (Kd.R_elder' (by (with_reducible repeat (first|apply zA|apply zN|apply zD));exact HO188.out) (Kd.R_base ho0) hb)
            have n7_:=Aside0.mk (Kd.R_elder' (by (with_reducible repeat (first|apply zA|apply zN|apply zD));exact HO191.out) (Kd.R_base ho0) hb)
            have n8_:=Aside0.mk (Kd.R_lower (Kd.R_new' (Kd.R_new' ho0 (Kd.R_lt (by (with_reducible repeat (first|apply zA|apply zN|apply zD));exact HO188.out))) (Kd.R_lt (by (with_reducible repeat (first|apply zA|apply zN|apply zD));exact HO191.out))) (below_size (by repeat (first|(with_reducible first|exact HB.out|apply below_alloc|apply pw_below_drewN|apply below_drew1)|exact HB.out))))
            have n9_:=Aside0.mk (below_step (by repeat (first|(with_reducible first|exact HB.out|apply below_alloc|apply pw_below_drewN|apply below_drew1)|exact HB.out)) hb)
            clear HO164
            clear HL176_0
            clear HL178_0
            clear HL180_0
            clear HO175
            clear HO184
            clear HO188
            clear HO191
            clear HB
            have HO164:=n0_
            have HL176_0:=n1_
            have HL178_0:=n2_
            have HL180_0:=n3_
            have HO175:=n4_
            have HO184:=n5_
            have HO188:=n6_
            have HO191:=n7_
            have HO195:=n8_
            have HB:=n9_
            clear n0_ n1_ n2_ n3_ n4_ n5_ n6_ n7_ n8_ n9_
            (try clear hb)
            (try clear hb2)
            (try clear hk)
            (try clear hi)
            (try clear ho0)
            refine hK.out _ _ ⟨HS0_,HS1_,HS2_,HS3_,HS4_,HS5_,HS6_,HS7_,HS8_,HS9_,HS10_,HS11_,HS12_,HS13_,HS14_⟩ (fun hHeld => ?_)
            clear hK K
            refine norm_ (a':=?_) ?_ ?_
            rotate_left
            ·show Act.put _ (some 88) _ = _
             simp only [Act.put,sA,sZ,sS,i64_w,i32_w]
             rfl
            exact norm_ (by first|(simp only [putAll,Act.put,sA,sZ,sS];done)|(simp only [putAll,Act.put,sA,sZ,sS];rfl)) (hJ1_17_18_43_46_47_51 (v174,v183,v187,v190,v194) _ ⟨hHeld,(by (with_reducible repeat (first|apply vA|apply vN|apply vD));exact Kd.V_mono HL176_0.out (fun _ hk => ⟨hk.1.1,⟨hk.1.2.1,⟨hk.1.2.2.1,⟨hk.1.2.2.2.1,⟨hk.1.2.2.2.2,hk.2⟩⟩⟩⟩⟩)),(by (with_reducible repeat (first|apply vA|apply vN|apply vD));exact Kd.V_mono HL178_0.out (fun _ hk => ⟨hk.1.1,⟨hk.1.2.1,⟨hk.1.2.2.1,⟨hk.1.2.2.2.1,⟨hk.1.2.2.2.2,hk.2⟩⟩⟩⟩⟩)),(by (with_reducible repeat (first|apply vA|apply vN|apply vD));exact Kd.V_mono HL180_0.out (fun _ hk => ⟨hk.1.1,⟨hk.1.2.1,⟨hk.1.2.2.1,⟨hk.1.2.2.2.1,⟨hk.1.2.2.2.2,hk.2⟩⟩⟩⟩⟩)),(by (with_reducible repeat (first|apply nA|apply nN|apply nD));exact Kd.N_mono HO164.out (fun _ hk => ⟨hk.1.1,⟨hk.1.2.1,⟨hk.1.2.2.1,⟨hk.1.2.2.2,hk.2⟩⟩⟩⟩)),(by (with_reducible repeat (first|apply zA|apply zN|apply zD));exact HO175.out),(by (with_reducible repeat (first|apply zA|apply zN|apply zD));exact HO184.out),(by (with_reducible repeat (first|apply zA|apply zN|apply zD));exact HO188.out),(by (with_reducible repeat (first|apply zA|apply zN|apply zD));exact HO191.out),(by (with_reducible repeat (first|apply zA|apply zN|apply zD));exact Kd.R_mono HO195.out (fun _ hk => ⟨hk.1.2,hk.2⟩)),(by repeat (first|(with_reducible first|exact HB.out|apply below_alloc|apply pw_below_drewN|apply below_drew1)|exact HB.out))⟩)
           ·skip
            refine Kd.R_lit_step k37 _ 37 ?hg (N:=90) ?hd (xs:=([(⟨(⟨#[98]⟩ : BA),(⟨#[121]⟩ : BA)⟩ : S37)] : List (S37))) (inner:=[.string (⟨#[98]⟩ : BA),.string (⟨#[121]⟩ : BA)]) (ok:=fun _ => True) (okp:=fun _ => True) ?hr ?hp (fun _ hk => hk) trivial (Below.refl _ _) (Nat.le_refl _) (by simp) ?_;(case hd => rfl);(case hg => rfl);(case hr => first|(go_simp;done)|(go_simp;rfl));(case hp => exact (Reps.c2 (show Kd.M k37 _ _ _ (⟨(⟨#[98]⟩ : BA),(⟨#[121]⟩ : BA)⟩ : S37) [.string (⟨#[98]⟩ : BA),.string (⟨#[121]⟩ : BA)] from (k37_mkM _ _ _ (⟨(⟨#[98]⟩ : BA),(⟨#[121]⟩ : BA)⟩ : S37) )) (Reps.none _ _)))
            intro v197 w62 ho63 hb hg_ hnew_
            have HS0_:=bC hb hHeld.1
            have HS1_:=bC hb hHeld.2.1
            have HS2_:=bC hb hHeld.2.2.1
            have HS3_:=bC hb hHeld.2.2.2.1
            have HS4_:=bC hb hHeld.2.2.2.2.1
            have HS5_:=bC hb hHeld.2.2.2.2.2.1
            have HS6_:=bC hb hHeld.2.2.2.2.2.2.1
            have HS7_:=bC hb hHeld.2.2.2.2.2.2.2.1
            have HS8_:=bC hb hHeld.2.2.2.2.2.2.2.2.1
            have HS9_:=bC hb hHeld.2.2.2.2.2.2.2.2.2.1
            have HS10_:=bC hb hHeld.2.2.2.2.2.2.2.2.2.2.1
            have HS11_:=bC hb hHeld.2.2.2.2.2.2.2.2.2.2.2.1
            have HS12_:=bC hb hHeld.2.2.2.2.2.2.2.2.2.2.2.2.1
            have HS13_:=bC hb hHeld.2.2.2.2.2.2.2.2.2.2.2.2.2.1
            have HS14_:=bC hb hHeld.2.2.2.2.2.2.2.2.2.2.2.2.2.2
            clear hg_ hnew_
            (first|rw [← Ny196.out] at ho63|(simp only [Int.reduceToNat] at ho63;rw [← Ny196.out] at ho63))
            have n0_:=Aside0.mk (Kd.N_elder' (by (with_reducible repeat (first|apply nA|apply nN|apply nD));exact HO164.out) (Kd.R_base ho63) hb)
            have n1_:=Aside0.mk (Kd.V_elder' (by (with_reducible repeat (first|apply vA|apply vN|apply vD));exact HL176_0.out) (Kd.R_base ho63) hb)
            have n2_:=Aside0.mk (Kd.V_elder' (by (with_reducible repeat (first|apply vA|apply vN|apply vD));exact HL178_0.out) (Kd.R_base ho63) hb)
            have n3_:=Aside0.mk (Kd.V_elder' (by (with_reducible repeat (first|apply vA|apply vN|apply vD));exact HL180_0.out) (Kd.R_base ho63) hb)
            have n4_:=Aside0.mk (Kd.R_below (by (with_reducible repeat (first|apply zA|apply zN|apply zD));exact HO175.out) hb)
            have n5_:=Aside0.mk (Kd.R_below (by (with_reducible repeat (first|apply zA|apply zN|apply zD));exact HO184.out) hb)
            have n6_:=Aside0.mk (Kd.R_elder' (by (with_reducible repeat (first|apply zA|apply zN|apply zD));exact HO188.out) (Kd.R_base ho63) hb)
            have n7_:=Aside0.mk (Kd.R_elder' (by (with_reducible repeat (first|apply zA|apply zN|apply zD));exact HO191.out) (Kd.R_base ho63) hb)
            have n8_:=Aside0.mk (Kd.R_lower (Kd.R_new' (Kd.R_new' ho63 (Kd.R_lt (by (with_reducible repeat (first|apply zA|apply zN|apply zD));exact HO188.out))) (Kd.R_lt (by (with_reducible repeat (first|apply zA|apply zN|apply zD));exact HO191.out))) (below_size (by repeat (first|(with_reducible first|exact HB.out|apply below_alloc|apply pw_below_drewN|apply below_drew1)|exact HB.out))))
            have n9_:=Aside0.mk (below_step (by repeat (first|(with_reducible first|exact HB.out|apply below_alloc|apply pw_below_drewN|apply below_drew1)|exact HB.out)) hb)
            clear HO164
            clear HL176_0
            clear HL178_0
            clear HL180_0
            clear HO175
            clear HO184
            clear HO188
            clear HO191
            clear HB
            have HO164:=n0_
            have HL176_0:=n1_
            have HL178_0:=n2_
            have HL180_0:=n3_
            have HO175:=n4_
            have HO184:=n5_
            have HO188:=n6_
            have HO191:=n7_
            have HO198:=n8_
            have HB:=n9_
            clear n0_ n1_ n2_ n3_ n4_ n5_ n6_ n7_ n8_ n9_
            clear hb ho63
            refine hK.out _ _ ⟨HS0_,HS1_,HS2_,HS3_,HS4_,HS5_,HS6_,HS7_,HS8_,HS9_,HS10_,HS11_,HS12_,HS13_,HS14_⟩ (fun hHeld => ?_)
            clear hK K
            refine norm_ (a':=?_) ?_ ?_
            rotate_left
            ·show Act.put _ (some 90) _ = _
             simp only [Act.put,sA,sZ,sS,i64_w,i32_w]
             rfl
            exact norm_ (by first|(simp only [putAll,Act.put,sA,sZ,sS];done)|(simp only [putAll,Act.put,sA,sZ,sS];rfl)) (hJ1_17_18_43_46_47_53 (v174,v183,v187,v190,v197) _ ⟨hHeld,(by (with_reducible repeat (first|apply vA|apply vN|apply vD));exact Kd.V_mono HL176_0.out (fun _ hk => ⟨hk.1.1,⟨hk.1.2.1,⟨hk.1.2.2.1,⟨hk.1.2.2.2.1,⟨hk.1.2.2.2.2,hk.2⟩⟩⟩⟩⟩)),(by (with_reducible repeat (first|apply vA|apply vN|apply vD));exact Kd.V_mono HL178_0.out (fun _ hk => ⟨hk.1.1,⟨hk.1.2.1,⟨hk.1.2.2.1,⟨hk.1.2.2.2.1,⟨hk.1.2.2.2.2,hk.2⟩⟩⟩⟩⟩)),(by (with_reducible repeat (first|apply vA|apply vN|apply vD));exact Kd.V_mono HL180_0.out (fun _ hk => ⟨hk.1.1,⟨hk.1.2.1,⟨hk.1.2.2.1,⟨hk.1.2.2.2.1,⟨hk.1.2.2.2.2,hk.2⟩⟩⟩⟩⟩)),(by (with_reducible repeat (first|apply nA|apply nN|apply nD));exact Kd.N_mono HO164.out (fun _ hk => ⟨hk.1.1,⟨hk.1.2.1,⟨hk.1.2.2.1,⟨hk.1.2.2.2,hk.2⟩⟩⟩⟩)),(by (with_reducible repeat (first|apply zA|apply zN|apply zD));exact HO175.out),(by (with_reducible repeat (first|apply zA|apply zN|apply zD));exact HO184.out),(by (with_reducible repeat (first|apply zA|apply zN|apply zD));exact HO188.out),(by (with_reducible repeat (first|apply zA|apply zN|apply zD));exact HO191.out),(by (with_reducible repeat (first|apply zA|apply zN|apply zD));exact Kd.R_mono HO198.out (fun _ hk => ⟨hk.1.2,hk.2⟩)),(by repeat (first|(with_reducible first|exact HB.out|apply below_alloc|apply pw_below_drewN|apply below_drew1)|exact HB.out))⟩)
         ·skip
          rintro ⟨v174,v183,v187,v190,v197⟩ w63 ⟨hS_,h0_,h1_,h2_,h3_,h4_,h5_,h6_,h7_,h8_,h9_⟩
          have n0_ : Aside0 (Kd.V k41 41 w63 w.heap.size (fun k_ => nO k_ (.slice (some ad176) y162.length co45) ∧ nO k_ v174 ∧ nO k_ v183 ∧ nO k_ v187 ∧ nO k_ v190 ∧ nO k_ v197) (.slice (some ad177) (rd_L5 y162 0).length c176_0) (rd_L5 y162 0)):=⟨h0_⟩
          have n1_ : Aside0 (Kd.V k41 41 w63 w.heap.size (fun k_ => nO k_ (.slice (some ad176) y162.length co45) ∧ nO k_ v174 ∧ nO k_ v183 ∧ nO k_ v187 ∧ nO k_ v190 ∧ nO k_ v197) (.slice (some ad179) (rd_L5 y162 1).length c178_0) (rd_L5 y162 1)):=⟨h1_⟩
          have n2_ : Aside0 (Kd.V k41 41 w63 w.heap.size (fun k_ => nO k_ (.slice (some ad176) y162.length co45) ∧ nO k_ v174 ∧ nO k_ v183 ∧ nO k_ v187 ∧ nO k_ v190 ∧ nO k_ v197) (.slice (some ad177) (rd_L5 y162 0).length c176_0) (rd_L5 y162 0)):=⟨h2_⟩
          have n3_ : Aside0 (Kd.N (Kd.slice 41 k41) 29 w63 w.heap.size (fun k_ => nO k_ v174 ∧ nO k_ v183 ∧ nO k_ v187 ∧ nO k_ v190 ∧ nO k_ v197) (.slice (some ad176) y162.length co45) y162):=⟨h3_⟩
          have n4_ : Aside0 (Kd.R k41 41 w63 w.heap.size (fun k_ => nO k_ v183) v174 t173):=⟨h4_⟩
          have n5_ : Aside0 (Kd.R k41 41 w63 w.heap.size (fun k_ => nO k_ v174) v183 y182):=⟨h5_⟩
          have n6_ : Aside0 (Kd.R k37 37 w63 w.heap.size (fun k_ => nO k_ v190 ∧ nO k_ v197) v187 t186):=⟨h6_⟩
          have n7_ : Aside0 (Kd.R k37 37 w63 w.heap.size (fun k_ => nO k_ v187 ∧ nO k_ v197) v190 y189):=⟨h7_⟩
          have n8_ : Aside0 (Kd.R k37 37 w63 w.heap.size (fun k_ => nO k_ v187 ∧ nO k_ v190) v197 y196):=⟨h8_⟩
          have n9_ : Aside0 (Below w.heap.size w w63):=⟨h9_⟩
          clear HO164
          clear HB
          clear h0_ h1_ h2_ h3_ h4_ h5_ h6_ h7_ h8_ h9_
          have HL176_0:=n0_
          have HL178_0:=n1_
          have HL180_0:=n2_
          have HO164:=n3_
          have HO175:=n4_
          have HO184:=n5_
          have HO188:=n6_
          have HO191:=n7_
          have HO198:=n8_
          have HB:=n9_
          clear n0_ n1_ n2_ n3_ n4_ n5_ n6_ n7_ n8_ n9_
          have hHeld : Hd0 w63 ad176 ad177 ad179 c176_0 c178_0 y162:=hS_
          refine norm_ (a':=?_) ?_ ?_
          rotate_left
          ·simp only [putAll,Act.put,sA,sZ,sS]
           rfl
          refine one_ (i:=51) (N:=some 88) #[tt,tt,tt,tt,tt,tt,tt,tt,tt,tt,tt,tt,tt,tt,tt,tt,tt,tt,tt,tt,tt,tt,tt,tt,tt,tt,tt,tt,tt,tt,tt,tt,tt,tt,tt,tt,tt,tt,tt,tt,tt,tt,tt,tt,tt,tt,tt,tt,tt,tt,tt,tt,tt,tt,ff,ff,ff,ff,ff,ff,ff,ff,ff,ff,ff,ff,ff,ff,ff,ff] rfl rfl (one_of HT_.out (by kernel_rfl)) (by decide) (fun K hK => ?_)
          refine goes_ Try.func22 (by kernel_rfl) rfl #[.slice (some ad176) y162.length co45,.string (⟨#[97]⟩ : BA),.string (⟨#[99]⟩ : BA),.int .u64 9,.int .i64 9] (by rfl) rfl rfl (by (try simp only [List.map_toArray,List.map_cons,List.map_nil]);first|done|rfl|(simp only [List.length_drop,List.length_take];rfl)) ?_
          with_reducible refine (merge_Scan.calls _ _ y162 (⟨#[97]⟩ : BA) (⟨#[99]⟩ : BA) 9 9 t193 _ ?side1 ?side2 A26.out).mono ?_
          (case side1 => repeat (first|exact (Kd.N_reads' HO164.out).2.2|(with_reducible refine Kd.C_alloc ?_ _)|(with_reducible refine Kd.C_drewN ?_ _)|(with_reducible refine Kd.C_drew ?_)))
          (case side2 => exact (Kd.N_reads' HO164.out).2.1)
          rintro e w64 ⟨v194,rfl,ho0,hb⟩
          have HS0_:=bC hb hHeld.1
          have HS1_:=bC hb hHeld.2.1
          have HS2_:=bC hb hHeld.2.2.1
          have HS3_:=bC hb hHeld.2.2.2.1
          have HS4_:=bC hb hHeld.2.2.2.2.1
          have HS5_:=bC hb hHeld.2.2.2.2.2.1
          have HS6_:=bC hb hHeld.2.2.2.2.2.2.1
          have HS7_:=bC hb hHeld.2.2.2.2.2.2.2.1
          have HS8_:=bC hb hHeld.2.2.2.2.2.2.2.2.1
          have HS9_:=bC hb hHeld.2.2.2.2.2.2.2.2.2.1
          have HS10_:=bC hb hHeld.2.2.2.2.2.2.2.2.2.2.1
          have HS11_:=bC hb hHeld.2.2.2.2.2.2.2.2.2.2.2.1
          have HS12_:=bC hb hHeld.2.2.2.2.2.2.2.2.2.2.2.2.1
          have HS13_:=bC hb hHeld.2.2.2.2.2.2.2.2.2.2.2.2.2.1
          have HS14_:=bC hb hHeld.2.2.2.2.2.2.2.2.2.2.2.2.2.2
          refine ⟨_,rfl,?_⟩
          have n0_:=Aside0.mk (Kd.N_elder' (by (with_reducible repeat (first|apply nA|apply nN|apply nD));exact HO164.out) (Kd.R_base ho0) hb)
          have n1_:=Aside0.mk (Kd.V_elder' (by (with_reducible repeat (first|apply vA|apply vN|apply vD));exact HL176_0.out) (Kd.R_base ho0) hb)
          have n2_:=Aside0.mk (Kd.V_elder' (by (with_reducible repeat (first|apply vA|apply vN|apply vD));exact HL178_0.out) (Kd.R_base ho0) hb)
          have n3_:=Aside0.mk (Kd.V_elder' (by (with_reducible repeat (first|apply vA|apply vN|apply vD));exact HL180_0.out) (Kd.R_base ho0) hb)
          have n4_:=Aside0.mk (Kd.R_below (by (with_reducible repeat (first|apply zA|apply zN|apply zD));exact HO175.out) hb)
          have n5_:=Aside0.mk (Kd.R_below (by (with_reducible repeat (first|apply zA|apply zN|apply zD));exact HO184.out) hb)
          have n6_:=Aside0.mk (Kd.R_elder' (by (with_reducible repeat (first|apply zA|apply zN|apply zD));exact HO188.out) (Kd.R_base ho0) hb)
          have n7_:=Aside0.mk (Kd.R_elder' (by (with_reducible repeat (first|apply zA|apply zN|apply zD));exact HO191.out) (Kd.R_base ho0) hb)
          have n8_:=Aside0.mk (Kd.R_elder' (by (with_reducible repeat (first|apply zA|apply zN|apply zD));exact HO198.out) (Kd.R_base ho0) hb)
          have n9_:=Aside0.mk (Kd.R_lower (Kd.R_new' (Kd.R_new' (Kd.R_new' ho0 (Kd.R_lt (by (with_reducible repeat (first|apply zA|apply zN|apply zD));exact HO188.out))) (Kd.R_lt (by (with_reducible repeat (first|apply zA|apply zN|apply zD));exact HO191.out))) (Kd.R_lt (by (with_reducible repeat (first|apply zA|apply zN|apply zD));exact HO198.out))) (below_size (by repeat (first|(with_reducible first|exact HB.out|apply below_alloc|apply pw_below_drewN|apply below_drew1)|exact HB.out))))
          have n10_:=Aside0.mk (below_step (by repeat (first|(with_reducible first|exact HB.out|apply below_alloc|apply pw_below_drewN|apply below_drew1)|exact HB.out)) hb)
          clear HO164
          clear HL176_0
          clear HL178_0
          clear HL180_0
          clear HO175
          clear HO184
          clear HO188
          clear HO191
          clear HO198
          clear HB
          have HO164:=n0_
          have HL176_0:=n1_
          have HL178_0:=n2_
          have HL180_0:=n3_
          have HO175:=n4_
          have HO184:=n5_
          have HO188:=n6_
          have HO191:=n7_
          have HO198:=n8_
          have HO195:=n9_
          have HB:=n10_
          clear n0_ n1_ n2_ n3_ n4_ n5_ n6_ n7_ n8_ n9_ n10_
          (try clear hb)
          (try clear hb2)
          (try clear hk)
          (try clear hi)
          (try clear ho0)
          refine hK.out _ _ ⟨HS0_,HS1_,HS2_,HS3_,HS4_,HS5_,HS6_,HS7_,HS8_,HS9_,HS10_,HS11_,HS12_,HS13_,HS14_⟩ (fun hHeld => ?_)
          clear hK K
          refine norm_ (a':=?_) ?_ ?_
          rotate_left
          ·show Act.put _ (some 88) _ = _
           simp only [Act.put,sA,sZ,sS,i64_w,i32_w]
           rfl
          exact norm_ (by first|(simp only [putAll,Act.put,sA,sZ,sS];done)|(simp only [putAll,Act.put,sA,sZ,sS];rfl)) (hJ1_17_18_43_46_47_51_53 (v174,v183,v187,v190,v194,v197) _ ⟨hHeld,(by (with_reducible repeat (first|apply vA|apply vN|apply vD));exact Kd.V_mono HL176_0.out (fun _ hk => ⟨hk.1.1,⟨hk.1.2.1,⟨hk.1.2.2.1,⟨hk.1.2.2.2.1,⟨hk.1.2.2.2.2.1,⟨hk.2,hk.1.2.2.2.2.2⟩⟩⟩⟩⟩⟩)),(by (with_reducible repeat (first|apply vA|apply vN|apply vD));exact Kd.V_mono HL178_0.out (fun _ hk => ⟨hk.1.1,⟨hk.1.2.1,⟨hk.1.2.2.1,⟨hk.1.2.2.2.1,⟨hk.1.2.2.2.2.1,⟨hk.2,hk.1.2.2.2.2.2⟩⟩⟩⟩⟩⟩)),(by (with_reducible repeat (first|apply vA|apply vN|apply vD));exact Kd.V_mono HL180_0.out (fun _ hk => ⟨hk.1.1,⟨hk.1.2.1,⟨hk.1.2.2.1,⟨hk.1.2.2.2.1,⟨hk.1.2.2.2.2.1,⟨hk.2,hk.1.2.2.2.2.2⟩⟩⟩⟩⟩⟩)),(by (with_reducible repeat (first|apply nA|apply nN|apply nD));exact Kd.N_mono HO164.out (fun _ hk => ⟨hk.1.1,⟨hk.1.2.1,⟨hk.1.2.2.1,⟨hk.1.2.2.2.1,⟨hk.2,hk.1.2.2.2.2⟩⟩⟩⟩⟩)),(by (with_reducible repeat (first|apply zA|apply zN|apply zD));exact HO175.out),(by (with_reducible repeat (first|apply zA|apply zN|apply zD));exact HO184.out),(by (with_reducible repeat (first|apply zA|apply zN|apply zD));exact Kd.R_mono HO188.out (fun _ hk => ⟨hk.1.1,⟨hk.2,hk.1.2⟩⟩)),(by (with_reducible repeat (first|apply zA|apply zN|apply zD));exact Kd.R_mono HO191.out (fun _ hk => ⟨hk.1.1,⟨hk.2,hk.1.2⟩⟩)),(by (with_reducible repeat (first|apply zA|apply zN|apply zD));exact Kd.R_mono HO195.out (fun _ hk => ⟨hk.1.1.2,⟨hk.1.2,hk.2⟩⟩)),(by (with_reducible repeat (first|apply zA|apply zN|apply zD));exact Kd.R_mono HO198.out (fun _ hk => ⟨hk.1.1,⟨hk.1.2,hk.2⟩⟩)),(by repeat (first|(with_reducible first|exact HB.out|apply below_alloc|apply pw_below_drewN|apply below_drew1)|exact HB.out))⟩)
        ·skip
         rintro ⟨v174,v183,v187,v190,v194⟩ w62 ⟨hS_,h0_,h1_,h2_,h3_,h4_,h5_,h6_,h7_,h8_,h9_⟩
         have n0_ : Aside0 (Kd.V k41 41 w62 w.heap.size (fun k_ => nO k_ (.slice (some ad176) y162.length co45) ∧ nO k_ v174 ∧ nO k_ v183 ∧ nO k_ v187 ∧ nO k_ v190 ∧ nO k_ v194) (.slice (some ad177) (rd_L5 y162 0).length c176_0) (rd_L5 y162 0)):=⟨h0_⟩
         have n1_ : Aside0 (Kd.V k41 41 w62 w.heap.size (fun k_ => nO k_ (.slice (some ad176) y162.length co45) ∧ nO k_ v174 ∧ nO k_ v183 ∧ nO k_ v187 ∧ nO k_ v190 ∧ nO k_ v194) (.slice (some ad179) (rd_L5 y162 1).length c178_0) (rd_L5 y162 1)):=⟨h1_⟩
         have n2_ : Aside0 (Kd.V k41 41 w62 w.heap.size (fun k_ => nO k_ (.slice (some ad176) y162.length co45) ∧ nO k_ v174 ∧ nO k_ v183 ∧ nO k_ v187 ∧ nO k_ v190 ∧ nO k_ v194) (.slice (some ad177) (rd_L5 y162 0).length c176_0) (rd_L5 y162 0)):=⟨h2_⟩
         have n3_ : Aside0 (Kd.N (Kd.slice 41 k41) 29 w62 w.heap.size (fun k_ => nO k_ v174 ∧ nO k_ v183 ∧ nO k_ v187 ∧ nO k_ v190 ∧ nO k_ v194) (.slice (some ad176) y162.length co45) y162):=⟨h3_⟩
         have n4_ : Aside0 (Kd.R k41 41 w62 w.heap.size (fun k_ => nO k_ v183) v174 t173):=⟨h4_⟩
         have n5_ : Aside0 (Kd.R k41 41 w62 w.heap.size (fun k_ => nO k_ v174) v183 y182):=⟨h5_⟩
         have n6_ : Aside0 (Kd.R k37 37 w62 w.heap.size (fun k_ => nO k_ v190 ∧ nO k_ v194) v187 t186):=⟨h6_⟩
         have n7_ : Aside0 (Kd.R k37 37 w62 w.heap.size (fun k_ => nO k_ v187 ∧ nO k_ v194) v190 y189):=⟨h7_⟩
         have n8_ : Aside0 (Kd.R k37 37 w62 w.heap.size (fun k_ => nO k_ v187 ∧ nO k_ v190) v194 t193):=⟨h8_⟩
         have n9_ : Aside0 (Below w.heap.size w w62):=⟨h9_⟩
         clear HO164
         clear HB
         clear h0_ h1_ h2_ h3_ h4_ h5_ h6_ h7_ h8_ h9_
         have HL176_0:=n0_
         have HL178_0:=n1_
         have HL180_0:=n2_
         have HO164:=n3_
         have HO175:=n4_
         have HO184:=n5_
         have HO188:=n6_
         have HO191:=n7_
         have HO195:=n8_
         have HB:=n9_
         clear n0_ n1_ n2_ n3_ n4_ n5_ n6_ n7_ n8_ n9_
         have hHeld : Hd0 w62 ad176 ad177 ad179 c176_0 c178_0 y162:=hS_
         refine norm_ (a':=?_) ?_ ?_
         rotate_left
         ·simp only [putAll,Act.put,sA,sZ,sS]
          rfl
         refine one_ (i:=53) (N:=some 90) #[tt,tt,tt,tt,tt,tt,tt,tt,tt,tt,tt,tt,tt,tt,tt,tt,tt,tt,tt,tt,tt,tt,tt,tt,tt,tt,tt,tt,tt,tt,tt,tt,tt,tt,tt,tt,tt,tt,tt,tt,tt,tt,tt,tt,tt,tt,tt,tt,tt,tt,tt,tt,tt,tt,ff,ff,ff,ff,ff,ff,ff,ff,ff,ff,ff,ff,ff,ff,ff,ff] rfl rfl (one_of HT_.out (by kernel_rfl)) (by decide) (fun K hK => ?_)
         refine Kd.R_lit_step k37 _ 37 ?hg (N:=90) ?hd (xs:=([(⟨(⟨#[98]⟩ : BA),(⟨#[121]⟩ : BA)⟩ : S37)] : List (S37))) (inner:=[.string (⟨#[98]⟩ : BA),.string (⟨#[121]⟩ : BA)]) (ok:=fun _ => True) (okp:=fun _ => True) ?hr ?hp (fun _ hk => hk) trivial (Below.refl _ _) (Nat.le_refl _) (by simp) ?_;(case hd => rfl);(case hg => rfl);(case hr => first|(go_simp;done)|(go_simp;rfl));(case hp => exact (Reps.c2 (show Kd.M k37 _ _ _ (⟨(⟨#[98]⟩ : BA),(⟨#[121]⟩ : BA)⟩ : S37) [.string (⟨#[98]⟩ : BA),.string (⟨#[121]⟩ : BA)] from (k37_mkM _ _ _ (⟨(⟨#[98]⟩ : BA),(⟨#[121]⟩ : BA)⟩ : S37) )) (Reps.none _ _)))
         intro v197 w63 ho64 hb hg_ hnew_
         have HS0_:=bC hb hHeld.1
         have HS1_:=bC hb hHeld.2.1
         have HS2_:=bC hb hHeld.2.2.1
         have HS3_:=bC hb hHeld.2.2.2.1
         have HS4_:=bC hb hHeld.2.2.2.2.1
         have HS5_:=bC hb hHeld.2.2.2.2.2.1
         have HS6_:=bC hb hHeld.2.2.2.2.2.2.1
         have HS7_:=bC hb hHeld.2.2.2.2.2.2.2.1
         have HS8_:=bC hb hHeld.2.2.2.2.2.2.2.2.1
         have HS9_:=bC hb hHeld.2.2.2.2.2.2.2.2.2.1
         have HS10_:=bC hb hHeld.2.2.2.2.2.2.2.2.2.2.1
         have HS11_:=bC hb hHeld.2.2.2.2.2.2.2.2.2.2.2.1
         have HS12_:=bC hb hHeld.2.2.2.2.2.2.2.2.2.2.2.2.1
         have HS13_:=bC hb hHeld.2.2.2.2.2.2.2.2.2.2.2.2.2.1
         have HS14_:=bC hb hHeld.2.2.2.2.2.2.2.2.2.2.2.2.2.2
         clear hg_ hnew_
         (first|rw [← Ny196.out] at ho64|(simp only [Int.reduceToNat] at ho64;rw [← Ny196.out] at ho64))
         have n0_:=Aside0.mk (Kd.N_elder' (by (with_reducible repeat (first|apply nA|apply nN|apply nD));exact HO164.out) (Kd.R_base ho64) hb)
         have n1_:=Aside0.mk (Kd.V_elder' (by (with_reducible repeat (first|apply vA|apply vN|apply vD));exact HL176_0.out) (Kd.R_base ho64) hb)
         have n2_:=Aside0.mk (Kd.V_elder' (by (with_reducible repeat (first|apply vA|apply vN|apply vD));exact HL178_0.out) (Kd.R_base ho64) hb)
         have n3_:=Aside0.mk (Kd.V_elder' (by (with_reducible repeat (first|apply vA|apply vN|apply vD));exact HL180_0.out) (Kd.R_base ho64) hb)
         have n4_:=Aside0.mk (Kd.R_below (by (with_reducible repeat (first|apply zA|apply zN|apply zD));exact HO175.out) hb)
         have n5_:=Aside0.mk (Kd.R_below (by (with_reducible repeat (first|apply zA|apply zN|apply zD));exact HO184.out) hb)
         have n6_:=Aside0.mk (Kd.R_elder' (by (with_reducible repeat (first|apply zA|apply zN|apply zD));exact HO188.out) (Kd.R_base ho64) hb)
         have n7_:=Aside0.mk (Kd.R_elder' (by (with_reducible repeat (first|apply zA|apply zN|apply zD));exact HO191.out) (Kd.R_base ho64) hb)
         have n8_:=Aside0.mk (Kd.R_elder' (by (with_reducible repeat (first|apply zA|apply zN|apply zD));exact HO195.out) (Kd.R_base ho64) hb)
         have n9_:=Aside0.mk (Kd.R_lower (Kd.R_new' (Kd.R_new' (Kd.R_new' ho64 (Kd.R_lt (by (with_reducible repeat (first|apply zA|apply zN|apply zD));exact HO188.out))) (Kd.R_lt (by (with_reducible repeat (first|apply zA|apply zN|apply zD));exact HO191.out))) (Kd.R_lt (by (with_reducible repeat (first|apply zA|apply zN|apply zD));exact HO195.out))) (below_size (by repeat (first|(with_reducible first|exact HB.out|apply below_alloc|apply pw_below_drewN|apply below_drew1)|exact HB.out))))
         have n10_:=Aside0.mk (below_step (by repeat (first|(with_reducible first|exact HB.out|apply below_alloc|apply pw_below_drewN|apply below_drew1)|exact HB.out)) hb)
         clear HO164
         clear HL176_0
         clear HL178_0
         clear HL180_0
         clear HO175
         clear HO184
         clear HO188
         clear HO191
         clear HO195
         clear HB
         have HO164:=n0_
         have HL176_0:=n1_
         have HL178_0:=n2_
         have HL180_0:=n3_
         have HO175:=n4_
         have HO184:=n5_
         have HO188:=n6_
         have HO191:=n7_
         have HO195:=n8_
         have HO198:=n9_
         have HB:=n10_
         clear n0_ n1_ n2_ n3_ n4_ n5_ n6_ n7_ n8_ n9_ n10_
         clear hb ho64
         refine hK.out _ _ ⟨HS0_,HS1_,HS2_,HS3_,HS4_,HS5_,HS6_,HS7_,HS8_,HS9_,HS10_,HS11_,HS12_,HS13_,HS14_⟩ (fun hHeld => ?_)
         clear hK K
         refine norm_ (a':=?_) ?_ ?_
         rotate_left
         ·show Act.put _ (some 90) _ = _
          simp only [Act.put,sA,sZ,sS,i64_w,i32_w]
          rfl
         exact norm_ (by first|(simp only [putAll,Act.put,sA,sZ,sS];done)|(simp only [putAll,Act.put,sA,sZ,sS];rfl)) (hJ1_17_18_43_46_47_51_53 (v174,v183,v187,v190,v194,v197) _ ⟨hHeld,(by (with_reducible repeat (first|apply vA|apply vN|apply vD));exact Kd.V_mono HL176_0.out (fun _ hk => ⟨hk.1.1,⟨hk.1.2.1,⟨hk.1.2.2.1,⟨hk.1.2.2.2.1,⟨hk.1.2.2.2.2.1,⟨hk.1.2.2.2.2.2,hk.2⟩⟩⟩⟩⟩⟩)),(by (with_reducible repeat (first|apply vA|apply vN|apply vD));exact Kd.V_mono HL178_0.out (fun _ hk => ⟨hk.1.1,⟨hk.1.2.1,⟨hk.1.2.2.1,⟨hk.1.2.2.2.1,⟨hk.1.2.2.2.2.1,⟨hk.1.2.2.2.2.2,hk.2⟩⟩⟩⟩⟩⟩)),(by (with_reducible repeat (first|apply vA|apply vN|apply vD));exact Kd.V_mono HL180_0.out (fun _ hk => ⟨hk.1.1,⟨hk.1.2.1,⟨hk.1.2.2.1,⟨hk.1.2.2.2.1,⟨hk.1.2.2.2.2.1,⟨hk.1.2.2.2.2.2,hk.2⟩⟩⟩⟩⟩⟩)),(by (with_reducible repeat (first|apply nA|apply nN|apply nD));exact Kd.N_mono HO164.out (fun _ hk => ⟨hk.1.1,⟨hk.1.2.1,⟨hk.1.2.2.1,⟨hk.1.2.2.2.1,⟨hk.1.2.2.2.2,hk.2⟩⟩⟩⟩⟩)),(by (with_reducible repeat (first|apply zA|apply zN|apply zD));exact HO175.out),(by (with_reducible repeat (first|apply zA|apply zN|apply zD));exact HO184.out),(by (with_reducible repeat (first|apply zA|apply zN|apply zD));exact Kd.R_mono HO188.out (fun _ hk => ⟨hk.1.1,⟨hk.1.2,hk.2⟩⟩)),(by (with_reducible repeat (first|apply zA|apply zN|apply zD));exact Kd.R_mono HO191.out (fun _ hk => ⟨hk.1.1,⟨hk.1.2,hk.2⟩⟩)),(by (with_reducible repeat (first|apply zA|apply zN|apply zD));exact Kd.R_mono HO195.out (fun _ hk => ⟨hk.1.1,⟨hk.1.2,hk.2⟩⟩)),(by (with_reducible repeat (first|apply zA|apply zN|apply zD));exact Kd.R_mono HO198.out (fun _ hk => ⟨hk.1.1.2,⟨hk.1.2,hk.2⟩⟩)),(by repeat (first|(with_reducible first|exact HB.out|apply below_alloc|apply pw_below_drewN|apply below_drew1)|exact HB.out))⟩)
       ·skip
        rintro ⟨v174,v183,v187,v190,v194,v197⟩ w64 ⟨hS_,h0_,h1_,h2_,h3_,h4_,h5_,h6_,h7_,h8_,h9_,h10_⟩
        have n0_ : Aside0 (Kd.V k41 41 w64 w.heap.size (fun k_ => nO k_ (.slice (some ad176) y162.length co45) ∧ nO k_ v174 ∧ nO k_ v183 ∧ nO k_ v187 ∧ nO k_ v190 ∧ nO k_ v194 ∧ nO k_ v197) (.slice (some ad177) (rd_L5 y162 0).length c176_0) (rd_L5 y162 0)):=⟨h0_⟩
        have n1_ : Aside0 (Kd.V k41 41 w64 w.heap.size (fun k_ => nO k_ (.slice (some ad176) y162.length co45) ∧ nO k_ v174 ∧ nO k_ v183 ∧ nO k_ v187 ∧ nO k_ v190 ∧ nO k_ v194 ∧ nO k_ v197) (.slice (some ad179) (rd_L5 y162 1).length c178_0) (rd_L5 y162 1)):=⟨h1_⟩
        have n2_ : Aside0 (Kd.V k41 41 w64 w.heap.size (fun k_ => nO k_ (.slice (some ad176) y162.length co45) ∧ nO k_ v174 ∧ nO k_ v183 ∧ nO k_ v187 ∧ nO k_ v190 ∧ nO k_ v194 ∧ nO k_ v197) (.slice (some ad177) (rd_L5 y162 0).length c176_0) (rd_L5 y162 0)):=⟨h2_⟩
        have n3_ : Aside0 (Kd.N (Kd.slice 41 k41) 29 w64 w.heap.size (fun k_ => nO k_ v174 ∧ nO k_ v183 ∧ nO k_ v187 ∧ nO k_ v190 ∧ nO k_ v194 ∧ nO k_ v197) (.slice (some ad176) y162.length co45) y162):=⟨h3_⟩
        have n4_ : Aside0 (Kd.R k41 41 w64 w.heap.size (fun k_ => nO k_ v183) v174 t173):=⟨h4_⟩
        have n5_ : Aside0 (Kd.R k41 41 w64 w.heap.size (fun k_ => nO k_ v174) v183 y182):=⟨h5_⟩
        have n6_ : Aside0 (Kd.R k37 37 w64 w.heap.size (fun k_ => nO k_ v190 ∧ nO k_ v194 ∧ nO k_ v197) v187 t186):=⟨h6_⟩
        have n7_ : Aside0 (Kd.R k37 37 w64 w.heap.size (fun k_ => nO k_ v187 ∧ nO k_ v194 ∧ nO k_ v197) v190 y189):=⟨h7_⟩
        have n8_ : Aside0 (Kd.R k37 37 w64 w.heap.size (fun k_ => nO k_ v187 ∧ nO k_ v190 ∧ nO k_ v197) v194 t193):=⟨h8_⟩
        have n9_ : Aside0 (Kd.R k37 37 w64 w.heap.size (fun k_ => nO k_ v187 ∧ nO k_ v190 ∧ nO k_ v194) v197 y196):=⟨h9_⟩
        have n10_ : Aside0 (Below w.heap.size w w64):=⟨h10_⟩
        clear HO164
        clear HB
        clear h0_ h1_ h2_ h3_ h4_ h5_ h6_ h7_ h8_ h9_ h10_
        have HL176_0:=n0_
        have HL178_0:=n1_
        have HL180_0:=n2_
        have HO164:=n3_
        have HO175:=n4_
        have HO184:=n5_
        have HO188:=n6_
        have HO191:=n7_
        have HO195:=n8_
        have HO198:=n9_
        have HB:=n10_
        clear n0_ n1_ n2_ n3_ n4_ n5_ n6_ n7_ n8_ n9_ n10_
        have hHeld : Hd0 w64 ad176 ad177 ad179 c176_0 c178_0 y162:=hS_
        obtain ⟨Ao65,co65,eo65⟩:=Kd.R_slice HO195.out
        (first|subst eo65|(injection eo65 with f1_ f2_ f3_;have f4_:=f1_.symm;have f5_:=f3_.symm;clear f1_ f2_ f3_;subst f4_;subst f5_))
        obtain ⟨Ao66,co66,eo66⟩:=Kd.R_slice HO198.out
        (first|subst eo66|(injection eo66 with f1_ f2_ f3_;have f4_:=f1_.symm;have f5_:=f3_.symm;clear f1_ f2_ f3_;subst f4_;subst f5_))
        refine norm_ (a':=?_) ?_ ?_
        rotate_left
        ·simp only [putAll,Act.put,sA,sZ,sS]
         rfl
        refine one_ (i:=54) (N:=some 91) #[tt,tt,tt,tt,tt,tt,tt,tt,tt,tt,tt,tt,tt,tt,tt,tt,tt,tt,tt,tt,tt,tt,tt,tt,tt,tt,tt,tt,tt,tt,tt,tt,tt,tt,tt,tt,tt,tt,tt,tt,tt,tt,tt,tt,tt,tt,tt,tt,tt,tt,tt,tt,tt,tt,tt,ff,ff,ff,ff,ff,ff,ff,ff,ff,ff,ff,ff,ff,ff,ff] rfl rfl (one_of HT_.out (by kernel_rfl)) (by decide) (fun K hK => ?_)
        refine goes_ Try.func21 (by kernel_rfl) rfl #[.slice Ao65 t193.length co65,.slice Ao66 y196.length co66] (by rfl) rfl rfl (by (try simp only [List.map_toArray,List.map_cons,List.map_nil]);first|done|rfl|(simp only [List.length_drop,List.length_take];rfl)) ?_
        with_reducible refine (ratlinelaw11_Pairs.calls k _ _ t193 _ _ y196 true _ ?side1 ?side2 ?side3 ?side4 A27.out).mono ?_
        (case side1 => repeat (first|exact (Kd.R_reads' HO195.out).2.2|(with_reducible refine Kd.C_alloc ?_ _)|(with_reducible refine Kd.C_drewN ?_ _)|(with_reducible refine Kd.C_drew ?_)))
        (case side2 => exact (Kd.R_reads' HO195.out).2.1)
        (case side3 => repeat (first|exact (Kd.R_reads' HO198.out).2.2|(with_reducible refine Kd.C_alloc ?_ _)|(with_reducible refine Kd.C_drewN ?_ _)|(with_reducible refine Kd.C_drew ?_)))
        (case side4 => exact (Kd.R_reads' HO198.out).2.1)
        rintro e w' ⟨rfl,⟨nd,rfl⟩⟩
        refine ⟨_,rfl,?_⟩
        refine hK.out _ _ ⟨hHeld.1,hHeld.2.1,hHeld.2.2.1,hHeld.2.2.2.1,hHeld.2.2.2.2.1,hHeld.2.2.2.2.2.1,hHeld.2.2.2.2.2.2.1,hHeld.2.2.2.2.2.2.2.1,hHeld.2.2.2.2.2.2.2.2.1,hHeld.2.2.2.2.2.2.2.2.2.1,hHeld.2.2.2.2.2.2.2.2.2.2.1,hHeld.2.2.2.2.2.2.2.2.2.2.2.1,hHeld.2.2.2.2.2.2.2.2.2.2.2.2.1,hHeld.2.2.2.2.2.2.2.2.2.2.2.2.2.1,hHeld.2.2.2.2.2.2.2.2.2.2.2.2.2.2⟩ (fun hHeld => ?_)
        clear hK K
        refine norm_ (a':=?_) ?_ ?_
        rotate_left
        ·show Act.put _ (some 91) _ = _
         simp only [Act.put,sA,sZ,sS,i64_w,i32_w]
         rfl
        refine pure_ (i:=55) (N:=some 92) (v:=?_) (a':=?_) #[tt,tt,tt,tt,tt,tt,tt,tt,tt,tt,tt,tt,tt,tt,tt,tt,tt,tt,tt,tt,tt,tt,tt,tt,tt,tt,tt,tt,tt,tt,tt,tt,tt,tt,tt,tt,tt,tt,tt,tt,tt,tt,tt,tt,tt,tt,tt,tt,tt,tt,tt,tt,tt,tt,tt,tt,ff,ff,ff,ff,ff,ff,ff,ff,ff,ff,ff,ff,ff,ff] rfl rfl (any_of HT_.out (by kernel_rfl)) (fun _ _ _ h => h) (Or.inl ⟨by rfl,?_⟩) ?_ ?_
        rotate_left
        ·intro w'
         go_simp
         with_reducible rfl
        rotate_left
        ·simp only [Act.put,sA,sZ,sS,i64_w,i32_w]
         rfl
        refine pure_ (i:=56) (N:=some 93) (v:=?_) (a':=?_) #[tt,tt,tt,tt,tt,tt,tt,tt,tt,tt,tt,tt,tt,tt,tt,tt,tt,tt,tt,tt,tt,tt,tt,tt,tt,tt,tt,tt,tt,tt,tt,tt,tt,tt,tt,tt,tt,tt,tt,tt,tt,tt,tt,tt,tt,tt,tt,tt,tt,tt,tt,tt,tt,tt,tt,tt,tt,ff,ff,ff,ff,ff,ff,ff,ff,ff,ff,ff,ff,ff] rfl rfl (any_of HT_.out (by kernel_rfl)) (fun _ _ _ h => h) (Or.inl ⟨by rfl,?_⟩) ?_ ?_
        rotate_left
        ·intro w'
         go_simp
         with_reducible rfl
        rotate_left
        ·simp only [Act.put,sA,sZ,sS,i64_w,i32_w]
         rfl
        refine pure_ (i:=57) (N:=some 94) (v:=?_) (a':=?_) #[tt,tt,tt,tt,tt,tt,tt,tt,tt,tt,tt,tt,tt,tt,tt,tt,tt,tt,tt,tt,tt,tt,tt,tt,tt,tt,tt,tt,tt,tt,tt,tt,tt,tt,tt,tt,tt,tt,tt,tt,tt,tt,tt,tt,tt,tt,tt,tt,tt,tt,tt,tt,tt,tt,tt,tt,tt,tt,ff,ff,ff,ff,ff,ff,ff,ff,ff,ff,ff,ff] rfl rfl (any_of HT_.out (by kernel_rfl)) (fun _ _ _ h => h) (Or.inl ⟨by rfl,?_⟩) ?_ ?_
        rotate_left
        ·intro w'
         go_simp
         with_reducible rfl
        rotate_left
        ·simp only [Act.put,sA,sZ,sS,i64_w,i32_w]
         rfl
        refine pure_ (i:=59) (N:=some 96) (v:=?_) (a':=?_) #[tt,tt,tt,tt,tt,tt,tt,tt,tt,tt,tt,tt,tt,tt,tt,tt,tt,tt,tt,tt,tt,tt,tt,tt,tt,tt,tt,tt,tt,tt,tt,tt,tt,tt,tt,tt,tt,tt,tt,tt,tt,tt,tt,tt,tt,tt,tt,tt,tt,tt,tt,tt,tt,tt,tt,tt,tt,tt,ff,tt,ff,ff,ff,ff,ff,ff,ff,ff,ff,ff] rfl rfl (any_of HT_.out (by kernel_rfl)) (fun _ _ _ h => h) (Or.inl ⟨by rfl,?_⟩) ?_ ?_
        rotate_left
        ·intro w'
         go_simp
         with_reducible rfl
        rotate_left
        ·simp only [Act.put,sA,sZ,sS,i64_w,i32_w]
         rfl
        exact norm_ (by first|(simp only [putAll,Act.put,sA,sZ,sS];done)|(simp only [putAll,Act.put,sA,sZ,sS];rfl)) (hJ1_17_18_43_46_47_51_53_54 (v174,v183,v187,v190,.slice Ao65 t193.length co65,.slice Ao66 y196.length co66) _ ⟨hHeld,(by (with_reducible repeat (first|apply vA|apply vN|apply vD));exact HL176_0.out),(by (with_reducible repeat (first|apply vA|apply vN|apply vD));exact HL178_0.out),(by (with_reducible repeat (first|apply vA|apply vN|apply vD));exact HL180_0.out),(by (with_reducible repeat (first|apply nA|apply nN|apply nD));exact HO164.out),(by (with_reducible repeat (first|apply zA|apply zN|apply zD));exact HO175.out),(by (with_reducible repeat (first|apply zA|apply zN|apply zD));exact HO184.out),(by (with_reducible repeat (first|apply zA|apply zN|apply zD));exact HO188.out),(by (with_reducible repeat (first|apply zA|apply zN|apply zD));exact HO191.out),(by (with_reducible repeat (first|apply zA|apply zN|apply zD));exact HO195.out),(by (with_reducible repeat (first|apply zA|apply zN|apply zD));exact HO198.out),(by repeat (first|(with_reducible first|exact HB.out|apply below_alloc|apply pw_below_drewN|apply below_drew1)|exact HB.out))⟩)
      ·skip
       rintro ⟨v174,v183,v187,v190,v194,v197⟩ w66 ⟨hS_,h0_,h1_,h2_,h3_,h4_,h5_,h6_,h7_,h8_,h9_,h10_⟩
       have n0_ : Aside0 (Kd.V k41 41 w66 w.heap.size (fun k_ => nO k_ (.slice (some ad176) y162.length co45) ∧ nO k_ v174 ∧ nO k_ v183 ∧ nO k_ v187 ∧ nO k_ v190 ∧ nO k_ v194 ∧ nO k_ v197) (.slice (some ad177) (rd_L5 y162 0).length c176_0) (rd_L5 y162 0)):=⟨h0_⟩
       have n1_ : Aside0 (Kd.V k41 41 w66 w.heap.size (fun k_ => nO k_ (.slice (some ad176) y162.length co45) ∧ nO k_ v174 ∧ nO k_ v183 ∧ nO k_ v187 ∧ nO k_ v190 ∧ nO k_ v194 ∧ nO k_ v197) (.slice (some ad179) (rd_L5 y162 1).length c178_0) (rd_L5 y162 1)):=⟨h1_⟩
       have n2_ : Aside0 (Kd.V k41 41 w66 w.heap.size (fun k_ => nO k_ (.slice (some ad176) y162.length co45) ∧ nO k_ v174 ∧ nO k_ v183 ∧ nO k_ v187 ∧ nO k_ v190 ∧ nO k_ v194 ∧ nO k_ v197) (.slice (some ad177) (rd_L5 y162 0).length c176_0) (rd_L5 y162 0)):=⟨h2_⟩
       have n3_ : Aside0 (Kd.N (Kd.slice 41 k41) 29 w66 w.heap.size (fun k_ => nO k_ v174 ∧ nO k_ v183 ∧ nO k_ v187 ∧ nO k_ v190 ∧ nO k_ v194 ∧ nO k_ v197) (.slice (some ad176) y162.length co45) y162):=⟨h3_⟩
       have n4_ : Aside0 (Kd.R k41 41 w66 w.heap.size (fun k_ => nO k_ v183) v174 t173):=⟨h4_⟩
       have n5_ : Aside0 (Kd.R k41 41 w66 w.heap.size (fun k_ => nO k_ v174) v183 y182):=⟨h5_⟩
       have n6_ : Aside0 (Kd.R k37 37 w66 w.heap.size (fun k_ => nO k_ v190 ∧ nO k_ v194 ∧ nO k_ v197) v187 t186):=⟨h6_⟩
       have n7_ : Aside0 (Kd.R k37 37 w66 w.heap.size (fun k_ => nO k_ v187 ∧ nO k_ v194 ∧ nO k_ v197) v190 y189):=⟨h7_⟩
       have n8_ : Aside0 (Kd.R k37 37 w66 w.heap.size (fun k_ => nO k_ v187 ∧ nO k_ v190 ∧ nO k_ v197) v194 t193):=⟨h8_⟩
       have n9_ : Aside0 (Kd.R k37 37 w66 w.heap.size (fun k_ => nO k_ v187 ∧ nO k_ v190 ∧ nO k_ v194) v197 y196):=⟨h9_⟩
       have n10_ : Aside0 (Below w.heap.size w w66):=⟨h10_⟩
       clear HO164
       clear HB
       clear h0_ h1_ h2_ h3_ h4_ h5_ h6_ h7_ h8_ h9_ h10_
       have HL176_0:=n0_
       have HL178_0:=n1_
       have HL180_0:=n2_
       have HO164:=n3_
       have HO175:=n4_
       have HO184:=n5_
       have HO188:=n6_
       have HO191:=n7_
       have HO195:=n8_
       have HO198:=n9_
       have HB:=n10_
       clear n0_ n1_ n2_ n3_ n4_ n5_ n6_ n7_ n8_ n9_ n10_
       have hHeld : Hd0 w66 ad176 ad177 ad179 c176_0 c178_0 y162:=hS_
       refine norm_ (a':=?_) ?_ ?_
       rotate_left
       ·simp only [putAll,Act.put,sA,sZ,sS]
        rfl
       refine two_ (i:=58) (j:=60) (Ni:=some 95) (Nj:=some 97) #[tt,tt,tt,tt,tt,tt,tt,tt,tt,tt,tt,tt,tt,tt,tt,tt,tt,tt,tt,tt,tt,tt,tt,tt,tt,tt,tt,tt,tt,tt,tt,tt,tt,tt,tt,tt,tt,tt,tt,tt,tt,tt,tt,tt,tt,tt,tt,tt,tt,tt,tt,tt,tt,tt,tt,tt,tt,tt,tt,tt,ff,ff,ff,ff,ff,ff,ff,ff,ff,ff] #[tt,tt,tt,tt,tt,tt,tt,tt,tt,tt,tt,tt,tt,tt,tt,tt,tt,tt,tt,tt,tt,tt,tt,tt,tt,tt,tt,tt,tt,tt,tt,tt,tt,tt,tt,tt,tt,tt,tt,tt,tt,tt,tt,tt,tt,tt,tt,tt,tt,tt,tt,tt,tt,tt,tt,tt,tt,tt,ff,tt,tt,ff,ff,ff,ff,ff,ff,ff,ff,ff] rfl rfl rfl rfl (two_of HT_.out (by kernel_rfl)) (by decide) (by decide) (fun K hK => ?_) (fun K hK => ?_)
       ·skip
        refine goes_ Try.func22 (by kernel_rfl) rfl #[.slice (some ad176) y162.length co45,.string (⟨#[97]⟩ : BA),.string (⟨#[99]⟩ : BA),.int .u64 5,.int .i64 1] (by rfl) rfl rfl (by (try simp only [List.map_toArray,List.map_cons,List.map_nil]);first|done|rfl|(simp only [List.length_drop,List.length_take];rfl)) ?_
        with_reducible refine (merge_Scan.calls _ _ y162 (⟨#[97]⟩ : BA) (⟨#[99]⟩ : BA) 5 1 t200 _ ?side1 ?side2 A29.out).mono ?_
        (case side1 => repeat (first|exact (Kd.N_reads' HO164.out).2.2|(with_reducible refine Kd.C_alloc ?_ _)|(with_reducible refine Kd.C_drewN ?_ _)|(with_reducible refine Kd.C_drew ?_)))
        (case side2 => exact (Kd.N_reads' HO164.out).2.1)
        rintro e w67 ⟨v201,rfl,ho0,hb⟩
        have HS0_:=bC hb hHeld.1
        have HS1_:=bC hb hHeld.2.1
        have HS2_:=bC hb hHeld.2.2.1
        have HS3_:=bC hb hHeld.2.2.2.1
        have HS4_:=bC hb hHeld.2.2.2.2.1
        have HS5_:=bC hb hHeld.2.2.2.2.2.1
        have HS6_:=bC hb hHeld.2.2.2.2.2.2.1
        have HS7_:=bC hb hHeld.2.2.2.2.2.2.2.1
        have HS8_:=bC hb hHeld.2.2.2.2.2.2.2.2.1
        have HS9_:=bC hb hHeld.2.2.2.2.2.2.2.2.2.1
        have HS10_:=bC hb hHeld.2.2.2.2.2.2.2.2.2.2.1
        have HS11_:=bC hb hHeld.2.2.2.2.2.2.2.2.2.2.2.1
        have HS12_:=bC hb hHeld.2.2.2.2.2.2.2.2.2.2.2.2.1
        have HS13_:=bC hb hHeld.2.2.2.2.2.2.2.2.2.2.2.2.2.1
        have HS14_:=bC hb hHeld.2.2.2.2.2.2.2.2.2.2.2.2.2.2
        refine ⟨_,rfl,?_⟩
        have n0_:=Aside0.mk (Kd.N_elder' (by (with_reducible repeat (first|apply nA|apply nN|apply nD));exact HO164.out) (Kd.R_base ho0) hb)
        have n1_:=Aside0.mk (Kd.V_elder' (by (with_reducible repeat (first|apply vA|apply vN|apply vD));exact HL176_0.out) (Kd.R_base ho0) hb)
        have n2_:=Aside0.mk (Kd.V_elder' (by (with_reducible repeat (first|apply vA|apply vN|apply vD));exact HL178_0.out) (Kd.R_base ho0) hb)
        have n3_:=Aside0.mk (Kd.V_elder' (by (with_reducible repeat (first|apply vA|apply vN|apply vD));exact HL180_0.out) (Kd.R_base ho0) hb)
        have n4_:=Aside0.mk (Kd.R_below (by (with_reducible repeat (first|apply zA|apply zN|apply zD));exact HO175.out) hb)
        have n5_:=Aside0.mk (Kd.R_below (by (with_reducible repeat (first|apply zA|apply zN|apply zD));exact HO184.out) hb)
        have n6_:=Aside0.mk (Kd.R_elder' (by (with_reducible repeat (first|apply zA|apply zN|apply zD));exact HO188.out) (Kd.R_base ho0) hb)
        have n7_:=Aside0.mk (Kd.R_elder' (by (with_reducible repeat (first|apply zA|apply zN|apply zD));exact HO191.out) (Kd.R_base ho0) hb)
        have n8_:=Aside0.mk (Kd.R_elder' (by (with_reducible repeat (first|apply zA|apply zN|apply zD));exact HO195.out) (Kd.R_base ho0) hb)
        have n9_:=Aside0.mk (Kd.R_elder' (by (with_reducible repeat (first|apply zA|apply zN|apply zD));exact HO198.out) (Kd.R_base ho0) hb)
        have n10_:=Aside0.mk (Kd.R_lower (Kd.R_new' (Kd.R_new' (Kd.R_new' (Kd.R_new' ho0 (Kd.R_lt (by (with_reducible repeat (first|apply zA|apply zN|apply zD));exact HO188.out))) (Kd.R_lt (by (with_reducible repeat (first|apply zA|apply zN|apply zD));exact HO191.out))) (Kd.R_lt (by (with_reducible repeat (first|apply zA|apply zN|apply zD));exact HO195.out))) (Kd.R_lt (by (with_reducible repeat (first|apply zA|apply zN|apply zD));exact HO198.out))) (below_size (by repeat (first|(with_reducible first|exact HB.out|apply below_alloc|apply pw_below_drewN|apply below_drew1)|exact HB.out))))
        have n11_:=Aside0.mk (below_step (by repeat (first|(with_reducible first|exact HB.out|apply below_alloc|apply pw_below_drewN|apply below_drew1)|exact HB.out)) hb)
        clear HO164
        clear HL176_0
        clear HL178_0
        clear HL180_0
        clear HO175
        clear HO184
        clear HO188
        clear HO191
        clear HO195
        clear HO198
        clear HB
        have HO164:=n0_
        have HL176_0:=n1_
        have HL178_0:=n2_
        have HL180_0:=n3_
        have HO175:=n4_
        have HO184:=n5_
        have HO188:=n6_
        have HO191:=n7_
        have HO195:=n8_
        have HO198:=n9_
        have HO202:=n10_
        have HB:=n11_
        clear n0_ n1_ n2_ n3_ n4_ n5_ n6_ n7_ n8_ n9_ n10_ n11_
        (try clear hb)
        (try clear hb2)
        (try clear hk)
        (try clear hi)
        (try clear ho0)
        refine hK.out _ _ ⟨HS0_,HS1_,HS2_,HS3_,HS4_,HS5_,HS6_,HS7_,HS8_,HS9_,HS10_,HS11_,HS12_,HS13_,HS14_⟩ (fun hHeld => ?_)
        clear hK K
        refine norm_ (a':=?_) ?_ ?_
        rotate_left
        ·show Act.put _ (some 95) _ = _
         simp only [Act.put,sA,sZ,sS,i64_w,i32_w]
         rfl
        exact norm_ (by first|(simp only [putAll,Act.put,sA,sZ,sS];done)|(simp only [putAll,Act.put,sA,sZ,sS];rfl)) (hJ1_17_18_43_46_47_51_53_54_58 (v174,v183,v187,v190,v194,v197,v201) _ ⟨hHeld,(by (with_reducible repeat (first|apply vA|apply vN|apply vD));exact Kd.V_mono HL176_0.out (fun _ hk => ⟨hk.1.1,⟨hk.1.2.1,⟨hk.1.2.2.1,⟨hk.1.2.2.2.1,⟨hk.1.2.2.2.2.1,⟨hk.1.2.2.2.2.2.1,⟨hk.1.2.2.2.2.2.2,hk.2⟩⟩⟩⟩⟩⟩⟩)),(by (with_reducible repeat (first|apply vA|apply vN|apply vD));exact Kd.V_mono HL178_0.out (fun _ hk => ⟨hk.1.1,⟨hk.1.2.1,⟨hk.1.2.2.1,⟨hk.1.2.2.2.1,⟨hk.1.2.2.2.2.1,⟨hk.1.2.2.2.2.2.1,⟨hk.1.2.2.2.2.2.2,hk.2⟩⟩⟩⟩⟩⟩⟩)),(by (with_reducible repeat (first|apply vA|apply vN|apply vD));exact Kd.V_mono HL180_0.out (fun _ hk => ⟨hk.1.1,⟨hk.1.2.1,⟨hk.1.2.2.1,⟨hk.1.2.2.2.1,⟨hk.1.2.2.2.2.1,⟨hk.1.2.2.2.2.2.1,⟨hk.1.2.2.2.2.2.2,hk.2⟩⟩⟩⟩⟩⟩⟩)),(by (with_reducible repeat (first|apply nA|apply nN|apply nD));exact Kd.N_mono HO164.out (fun _ hk => ⟨hk.1.1,⟨hk.1.2.1,⟨hk.1.2.2.1,⟨hk.1.2.2.2.1,⟨hk.1.2.2.2.2.1,⟨hk.1.2.2.2.2.2,hk.2⟩⟩⟩⟩⟩⟩)),(by (with_reducible repeat (first|apply zA|apply zN|apply zD));exact HO175.out),(by (with_reducible repeat (first|apply zA|apply zN|apply zD));exact HO184.out),(by (with_reducible repeat (first|apply zA|apply zN|apply zD));exact Kd.R_mono HO188.out (fun _ hk => ⟨hk.1.1,⟨hk.1.2.1,⟨hk.1.2.2,hk.2⟩⟩⟩)),(by (with_reducible repeat (first|apply zA|apply zN|apply zD));exact Kd.R_mono HO191.out (fun _ hk => ⟨hk.1.1,⟨hk.1.2.1,⟨hk.1.2.2,hk.2⟩⟩⟩)),(by (with_reducible repeat (first|apply zA|apply zN|apply zD));exact Kd.R_mono HO195.out (fun _ hk => ⟨hk.1.1,⟨hk.1.2.1,⟨hk.1.2.2,hk.2⟩⟩⟩)),(by (with_reducible repeat (first|apply zA|apply zN|apply zD));exact Kd.R_mono HO198.out (fun _ hk => ⟨hk.1.1,⟨hk.1.2.1,⟨hk.1.2.2,hk.2⟩⟩⟩)),(by (with_reducible repeat (first|apply zA|apply zN|apply zD));exact Kd.R_mono HO202.out (fun _ hk => ⟨hk.1.1.1.2,⟨hk.1.1.2,⟨hk.1.2,hk.2⟩⟩⟩)),(by repeat (first|(with_reducible first|exact HB.out|apply below_alloc|apply pw_below_drewN|apply below_drew1)|exact HB.out))⟩)
       ·skip
        refine Kd.R_lit_step k37 _ 37 ?hg (N:=97) ?hd (xs:=([(⟨(⟨#[97]⟩ : BA),(⟨#[120]⟩ : BA)⟩ : S37)] : List (S37))) (inner:=[.string (⟨#[97]⟩ : BA),.string (⟨#[120]⟩ : BA)]) (ok:=fun _ => True) (okp:=fun _ => True) ?hr ?hp (fun _ hk => hk) trivial (Below.refl _ _) (Nat.le_refl _) (by simp) ?_;(case hd => rfl);(case hg => rfl);(case hr => first|(go_simp;done)|(go_simp;rfl));(case hp => exact (Reps.c2 (show Kd.M k37 _ _ _ (⟨(⟨#[97]⟩ : BA),(⟨#[120]⟩ : BA)⟩ : S37) [.string (⟨#[97]⟩ : BA),.string (⟨#[120]⟩ : BA)] from (k37_mkM _ _ _ (⟨(⟨#[97]⟩ : BA),(⟨#[120]⟩ : BA)⟩ : S37) )) (Reps.none _ _)))
        intro v204 w67 ho68 hb hg_ hnew_
        have HS0_:=bC hb hHeld.1
        have HS1_:=bC hb hHeld.2.1
        have HS2_:=bC hb hHeld.2.2.1
        have HS3_:=bC hb hHeld.2.2.2.1
        have HS4_:=bC hb hHeld.2.2.2.2.1
        have HS5_:=bC hb hHeld.2.2.2.2.2.1
        have HS6_:=bC hb hHeld.2.2.2.2.2.2.1
        have HS7_:=bC hb hHeld.2.2.2.2.2.2.2.1
        have HS8_:=bC hb hHeld.2.2.2.2.2.2.2.2.1
        have HS9_:=bC hb hHeld.2.2.2.2.2.2.2.2.2.1
        have HS10_:=bC hb hHeld.2.2.2.2.2.2.2.2.2.2.1
        have HS11_:=bC hb hHeld.2.2.2.2.2.2.2.2.2.2.2.1
        have HS12_:=bC hb hHeld.2.2.2.2.2.2.2.2.2.2.2.2.1
        have HS13_:=bC hb hHeld.2.2.2.2.2.2.2.2.2.2.2.2.2.1
        have HS14_:=bC hb hHeld.2.2.2.2.2.2.2.2.2.2.2.2.2.2
        clear hg_ hnew_
        (first|rw [← Ny203.out] at ho68|(simp only [Int.reduceToNat] at ho68;rw [← Ny203.out] at ho68))
        have n0_:=Aside0.mk (Kd.N_elder' (by (with_reducible repeat (first|apply nA|apply nN|apply nD));exact HO164.out) (Kd.R_base ho68) hb)
        have n1_:=Aside0.mk (Kd.V_elder' (by (with_reducible repeat (first|apply vA|apply vN|apply vD));exact HL176_0.out) (Kd.R_base ho68) hb)
        have n2_:=Aside0.mk (Kd.V_elder' (by (with_reducible repeat (first|apply vA|apply vN|apply vD));exact HL178_0.out) (Kd.R_base ho68) hb)
        have n3_:=Aside0.mk (Kd.V_elder' (by (with_reducible repeat (first|apply vA|apply vN|apply vD));exact HL180_0.out) (Kd.R_base ho68) hb)
        have n4_:=Aside0.mk (Kd.R_below (by (with_reducible repeat (first|apply zA|apply zN|apply zD));exact HO175.out) hb)
        have n5_:=Aside0.mk (Kd.R_below (by (with_reducible repeat (first|apply zA|apply zN|apply zD));exact HO184.out) hb)
        have n6_:=Aside0.mk (Kd.R_elder' (by (with_reducible repeat (first|apply zA|apply zN|apply zD));exact HO188.out) (Kd.R_base ho68) hb)
        have n7_:=Aside0.mk (Kd.R_elder' (by (with_reducible repeat (first|apply zA|apply zN|apply zD));exact HO191.out) (Kd.R_base ho68) hb)
        have n8_:=Aside0.mk (Kd.R_elder' (by (with_reducible repeat (first|apply zA|apply zN|apply zD));exact HO195.out) (Kd.R_base ho68) hb)
        have n9_:=Aside0.mk (Kd.R_elder' (by (with_reducible repeat (first|apply zA|apply zN|apply zD));exact HO198.out) (Kd.R_base ho68) hb)
        have n10_:=Aside0.mk (Kd.R_lower (Kd.R_new' (Kd.R_new' (Kd.R_new' (Kd.R_new' ho68 (Kd.R_lt (by (with_reducible repeat (first|apply zA|apply zN|apply zD));exact HO188.out))) (Kd.R_lt (by (with_reducible repeat (first|apply zA|apply zN|apply zD));exact HO191.out))) (Kd.R_lt (by (with_reducible repeat (first|apply zA|apply zN|apply zD));exact HO195.out))) (Kd.R_lt (by (with_reducible repeat (first|apply zA|apply zN|apply zD));exact HO198.out))) (below_size (by repeat (first|(with_reducible first|exact HB.out|apply below_alloc|apply pw_below_drewN|apply below_drew1)|exact HB.out))))
        have n11_:=Aside0.mk (below_step (by repeat (first|(with_reducible first|exact HB.out|apply below_alloc|apply pw_below_drewN|apply below_drew1)|exact HB.out)) hb)
        clear HO164
        clear HL176_0
        clear HL178_0
        clear HL180_0
        clear HO175
        clear HO184
        clear HO188
        clear HO191
        clear HO195
        clear HO198
        clear HB
        have HO164:=n0_
        have HL176_0:=n1_
        have HL178_0:=n2_
        have HL180_0:=n3_
        have HO175:=n4_
        have HO184:=n5_
        have HO188:=n6_
        have HO191:=n7_
        have HO195:=n8_
        have HO198:=n9_
        have HO205:=n10_
        have HB:=n11_
        clear n0_ n1_ n2_ n3_ n4_ n5_ n6_ n7_ n8_ n9_ n10_ n11_
        clear hb ho68
        refine hK.out _ _ ⟨HS0_,HS1_,HS2_,HS3_,HS4_,HS5_,HS6_,HS7_,HS8_,HS9_,HS10_,HS11_,HS12_,HS13_,HS14_⟩ (fun hHeld => ?_)
        clear hK K
        refine norm_ (a':=?_) ?_ ?_
        rotate_left
        ·show Act.put _ (some 97) _ = _
         simp only [Act.put,sA,sZ,sS,i64_w,i32_w]
         rfl
        exact norm_ (by first|(simp only [putAll,Act.put,sA,sZ,sS];done)|(simp only [putAll,Act.put,sA,sZ,sS];rfl)) (hJ1_17_18_43_46_47_51_53_54_60 (v174,v183,v187,v190,v194,v197,v204) _ ⟨hHeld,(by (with_reducible repeat (first|apply vA|apply vN|apply vD));exact Kd.V_mono HL176_0.out (fun _ hk => ⟨hk.1.1,⟨hk.1.2.1,⟨hk.1.2.2.1,⟨hk.1.2.2.2.1,⟨hk.1.2.2.2.2.1,⟨hk.1.2.2.2.2.2.1,⟨hk.1.2.2.2.2.2.2,hk.2⟩⟩⟩⟩⟩⟩⟩)),(by (with_reducible repeat (first|apply vA|apply vN|apply vD));exact Kd.V_mono HL178_0.out (fun _ hk => ⟨hk.1.1,⟨hk.1.2.1,⟨hk.1.2.2.1,⟨hk.1.2.2.2.1,⟨hk.1.2.2.2.2.1,⟨hk.1.2.2.2.2.2.1,⟨hk.1.2.2.2.2.2.2,hk.2⟩⟩⟩⟩⟩⟩⟩)),(by (with_reducible repeat (first|apply vA|apply vN|apply vD));exact Kd.V_mono HL180_0.out (fun _ hk => ⟨hk.1.1,⟨hk.1.2.1,⟨hk.1.2.2.1,⟨hk.1.2.2.2.1,⟨hk.1.2.2.2.2.1,⟨hk.1.2.2.2.2.2.1,⟨hk.1.2.2.2.2.2.2,hk.2⟩⟩⟩⟩⟩⟩⟩)),(by (with_reducible repeat (first|apply nA|apply nN|apply nD));exact Kd.N_mono HO164.out (fun _ hk => ⟨hk.1.1,⟨hk.1.2.1,⟨hk.1.2.2.1,⟨hk.1.2.2.2.1,⟨hk.1.2.2.2.2.1,⟨hk.1.2.2.2.2.2,hk.2⟩⟩⟩⟩⟩⟩)),(by (with_reducible repeat (first|apply zA|apply zN|apply zD));exact HO175.out),(by (with_reducible repeat (first|apply zA|apply zN|apply zD));exact HO184.out),(by (with_reducible repeat (first|apply zA|apply zN|apply zD));exact Kd.R_mono HO188.out (fun _ hk => ⟨hk.1.1,⟨hk.1.2.1,⟨hk.1.2.2,hk.2⟩⟩⟩)),(by (with_reducible repeat (first|apply zA|apply zN|apply zD));exact Kd.R_mono HO191.out (fun _ hk => ⟨hk.1.1,⟨hk.1.2.1,⟨hk.1.2.2,hk.2⟩⟩⟩)),(by (with_reducible repeat (first|apply zA|apply zN|apply zD));exact Kd.R_mono HO195.out (fun _ hk => ⟨hk.1.1,⟨hk.1.2.1,⟨hk.1.2.2,hk.2⟩⟩⟩)),(by (with_reducible repeat (first|apply zA|apply zN|apply zD));exact Kd.R_mono HO198.out (fun _ hk => ⟨hk.1.1,⟨hk.1.2.1,⟨hk.1.2.2,hk.2⟩⟩⟩)),(by (with_reducible repeat (first|apply zA|apply zN|apply zD));exact Kd.R_mono HO205.out (fun _ hk => ⟨hk.1.1.1.2,⟨hk.1.1.2,⟨hk.1.2,hk.2⟩⟩⟩)),(by repeat (first|(with_reducible first|exact HB.out|apply below_alloc|apply pw_below_drewN|apply below_drew1)|exact HB.out))⟩)
     ·skip
      rintro ⟨v174,v183,v187,v190,v194,v197,v204⟩ w68 ⟨hS_,h0_,h1_,h2_,h3_,h4_,h5_,h6_,h7_,h8_,h9_,h10_,h11_⟩
      have n0_ : Aside0 (Kd.V k41 41 w68 w.heap.size (fun k_ => nO k_ (.slice (some ad176) y162.length co45) ∧ nO k_ v174 ∧ nO k_ v183 ∧ nO k_ v187 ∧ nO k_ v190 ∧ nO k_ v194 ∧ nO k_ v197 ∧ nO k_ v204) (.slice (some ad177) (rd_L5 y162 0).length c176_0) (rd_L5 y162 0)):=⟨h0_⟩
      have n1_ : Aside0 (Kd.V k41 41 w68 w.heap.size (fun k_ => nO k_ (.slice (some ad176) y162.length co45) ∧ nO k_ v174 ∧ nO k_ v183 ∧ nO k_ v187 ∧ nO k_ v190 ∧ nO k_ v194 ∧ nO k_ v197 ∧ nO k_ v204) (.slice (some ad179) (rd_L5 y162 1).length c178_0) (rd_L5 y162 1)):=⟨h1_⟩
      have n2_ : Aside0 (Kd.V k41 41 w68 w.heap.size (fun k_ => nO k_ (.slice (some ad176) y162.length co45) ∧ nO k_ v174 ∧ nO k_ v183 ∧ nO k_ v187 ∧ nO k_ v190 ∧ nO k_ v194 ∧ nO k_ v197 ∧ nO k_ v204) (.slice (some ad177) (rd_L5 y162 0).length c176_0) (rd_L5 y162 0)):=⟨h2_⟩
      have n3_ : Aside0 (Kd.N (Kd.slice 41 k41) 29 w68 w.heap.size (fun k_ => nO k_ v174 ∧ nO k_ v183 ∧ nO k_ v187 ∧ nO k_ v190 ∧ nO k_ v194 ∧ nO k_ v197 ∧ nO k_ v204) (.slice (some ad176) y162.length co45) y162):=⟨h3_⟩
      have n4_ : Aside0 (Kd.R k41 41 w68 w.heap.size (fun k_ => nO k_ v183) v174 t173):=⟨h4_⟩
      have n5_ : Aside0 (Kd.R k41 41 w68 w.heap.size (fun k_ => nO k_ v174) v183 y182):=⟨h5_⟩
      have n6_ : Aside0 (Kd.R k37 37 w68 w.heap.size (fun k_ => nO k_ v190 ∧ nO k_ v194 ∧ nO k_ v197 ∧ nO k_ v204) v187 t186):=⟨h6_⟩
      have n7_ : Aside0 (Kd.R k37 37 w68 w.heap.size (fun k_ => nO k_ v187 ∧ nO k_ v194 ∧ nO k_ v197 ∧ nO k_ v204) v190 y189):=⟨h7_⟩
      have n8_ : Aside0 (Kd.R k37 37 w68 w.heap.size (fun k_ => nO k_ v187 ∧ nO k_ v190 ∧ nO k_ v197 ∧ nO k_ v204) v194 t193):=⟨h8_⟩
      have n9_ : Aside0 (Kd.R k37 37 w68 w.heap.size (fun k_ => nO k_ v187 ∧ nO k_ v190 ∧ nO k_ v194 ∧ nO k_ v204) v197 y196):=⟨h9_⟩
      have n10_ : Aside0 (Kd.R k37 37 w68 w.heap.size (fun k_ => nO k_ v187 ∧ nO k_ v190 ∧ nO k_ v194 ∧ nO k_ v197) v204 y203):=⟨h10_⟩
      have n11_ : Aside0 (Below w.heap.size w w68):=⟨h11_⟩
      clear HO164
      clear HB
      clear h0_ h1_ h2_ h3_ h4_ h5_ h6_ h7_ h8_ h9_ h10_ h11_
      have HL176_0:=n0_
      have HL178_0:=n1_
      have HL180_0:=n2_
      have HO164:=n3_
      have HO175:=n4_
      have HO184:=n5_
      have HO188:=n6_
      have HO191:=n7_
      have HO195:=n8_
      have HO198:=n9_
      have HO205:=n10_
      have HB:=n11_
      clear n0_ n1_ n2_ n3_ n4_ n5_ n6_ n7_ n8_ n9_ n10_ n11_
      have hHeld : Hd0 w68 ad176 ad177 ad179 c176_0 c178_0 y162:=hS_
      refine norm_ (a':=?_) ?_ ?_
      rotate_left
      ·simp only [putAll,Act.put,sA,sZ,sS]
       rfl
      refine one_ (i:=58) (N:=some 95) #[tt,tt,tt,tt,tt,tt,tt,tt,tt,tt,tt,tt,tt,tt,tt,tt,tt,tt,tt,tt,tt,tt,tt,tt,tt,tt,tt,tt,tt,tt,tt,tt,tt,tt,tt,tt,tt,tt,tt,tt,tt,tt,tt,tt,tt,tt,tt,tt,tt,tt,tt,tt,tt,tt,tt,tt,tt,tt,tt,tt,tt,ff,ff,ff,ff,ff,ff,ff,ff,ff] rfl rfl (one_of HT_.out (by kernel_rfl)) (by decide) (fun K hK => ?_)
      refine goes_ Try.func22 (by kernel_rfl) rfl #[.slice (some ad176) y162.length co45,.string (⟨#[97]⟩ : BA),.string (⟨#[99]⟩ : BA),.int .u64 5,.int .i64 1] (by rfl) rfl rfl (by (try simp only [List.map_toArray,List.map_cons,List.map_nil]);first|done|rfl|(simp only [List.length_drop,List.length_take];rfl)) ?_
      with_reducible refine (merge_Scan.calls _ _ y162 (⟨#[97]⟩ : BA) (⟨#[99]⟩ : BA) 5 1 t200 _ ?side1 ?side2 A29.out).mono ?_
      (case side1 => repeat (first|exact (Kd.N_reads' HO164.out).2.2|(with_reducible refine Kd.C_alloc ?_ _)|(with_reducible refine Kd.C_drewN ?_ _)|(with_reducible refine Kd.C_drew ?_)))
      (case side2 => exact (Kd.N_reads' HO164.out).2.1)
      rintro e w69 ⟨v201,rfl,ho0,hb⟩
      have HS0_:=bC hb hHeld.1
      have HS1_:=bC hb hHeld.2.1
      have HS2_:=bC hb hHeld.2.2.1
      have HS3_:=bC hb hHeld.2.2.2.1
      have HS4_:=bC hb hHeld.2.2.2.2.1
      have HS5_:=bC hb hHeld.2.2.2.2.2.1
      have HS6_:=bC hb hHeld.2.2.2.2.2.2.1
      have HS7_:=bC hb hHeld.2.2.2.2.2.2.2.1
      have HS8_:=bC hb hHeld.2.2.2.2.2.2.2.2.1
      have HS9_:=bC hb hHeld.2.2.2.2.2.2.2.2.2.1
      have HS10_:=bC hb hHeld.2.2.2.2.2.2.2.2.2.2.1
      have HS11_:=bC hb hHeld.2.2.2.2.2.2.2.2.2.2.2.1
      have HS12_:=bC hb hHeld.2.2.2.2.2.2.2.2.2.2.2.2.1
      have HS13_:=bC hb hHeld.2.2.2.2.2.2.2.2.2.2.2.2.2.1
      have HS14_:=bC hb hHeld.2.2.2.2.2.2.2.2.2.2.2.2.2.2
      refine ⟨_,rfl,?_⟩
      have n0_:=Aside0.mk (Kd.N_elder' (by (with_reducible repeat (first|apply nA|apply nN|apply nD));exact HO164.out) (Kd.R_base ho0) hb)
      have n1_:=Aside0.mk (Kd.V_elder' (by (with_reducible repeat (first|apply vA|apply vN|apply vD));exact HL176_0.out) (Kd.R_base ho0) hb)
      have n2_:=Aside0.mk (Kd.V_elder' (by (with_reducible repeat (first|apply vA|apply vN|apply vD));exact HL178_0.out) (Kd.R_base ho0) hb)
      have n3_:=Aside0.mk (Kd.V_elder' (by (with_reducible repeat (first|apply vA|apply vN|apply vD));exact HL180_0.out) (Kd.R_base ho0) hb)
      have n4_:=Aside0.mk (Kd.R_below (by (with_reducible repeat (first|apply zA|apply zN|apply zD));exact HO175.out) hb)
      have n5_:=Aside0.mk (Kd.R_below (by (with_reducible repeat (first|apply zA|apply zN|apply zD));exact HO184.out) hb)
      have n6_:=Aside0.mk (Kd.R_elder' (by (with_reducible repeat (first|apply zA|apply zN|apply zD));exact HO188.out) (Kd.R_base ho0) hb)
      have n7_:=Aside0.mk (Kd.R_elder' (by (with_reducible repeat (first|apply zA|apply zN|apply zD));exact HO191.out) (Kd.R_base ho0) hb)
      have n8_:=Aside0.mk (Kd.R_elder' (by (with_reducible repeat (first|apply zA|apply zN|apply zD));exact HO195.out) (Kd.R_base ho0) hb)
      have n9_:=Aside0.mk (Kd.R_elder' (by (with_reducible repeat (first|apply zA|apply zN|apply zD));exact HO198.out) (Kd.R_base ho0) hb)
      have n10_:=Aside0.mk (Kd.R_elder' (by (with_reducible repeat (first|apply zA|apply zN|apply zD));exact HO205.out) (Kd.R_base ho0) hb)
      have n11_:=Aside0.mk (Kd.R_lower (Kd.R_new' (Kd.R_new' (Kd.R_new' (Kd.R_new' (Kd.R_new' ho0 (Kd.R_lt (by (with_reducible repeat (first|apply zA|apply zN|apply zD));exact HO188.out))) (Kd.R_lt (by (with_reducible repeat (first|apply zA|apply zN|apply zD));exact HO191.out))) (Kd.R_lt (by (with_reducible repeat (first|apply zA|apply zN|apply zD));exact HO195.out))) (Kd.R_lt (by (with_reducible repeat (first|apply zA|apply zN|apply zD));exact HO198.out))) (Kd.R_lt (by (with_reducible repeat (first|apply zA|apply zN|apply zD));exact HO205.out))) (below_size (by repeat (first|(with_reducible first|exact HB.out|apply below_alloc|apply pw_below_drewN|apply below_drew1)|exact HB.out))))
      have n12_:=Aside0.mk (below_step (by repeat (first|(with_reducible first|exact HB.out|apply below_alloc|apply pw_below_drewN|apply below_drew1)|exact HB.out)) hb)
      clear HO164
      clear HL176_0
      clear HL178_0
      clear HL180_0
      clear HO175
      clear HO184
      clear HO188
      clear HO191
      clear HO195
      clear HO198
      clear HO205
      clear HB
      have HO164:=n0_
      have HL176_0:=n1_
      have HL178_0:=n2_
      have HL180_0:=n3_
      have HO175:=n4_
      have HO184:=n5_
      have HO188:=n6_
      have HO191:=n7_
      have HO195:=n8_
      have HO198:=n9_
      have HO205:=n10_
      have HO202:=n11_
      have HB:=n12_
      clear n0_ n1_ n2_ n3_ n4_ n5_ n6_ n7_ n8_ n9_ n10_ n11_ n12_
      (try clear hb)
      (try clear hb2)
      (try clear hk)
      (try clear hi)
      (try clear ho0)
      refine hK.out _ _ ⟨HS0_,HS1_,HS2_,HS3_,HS4_,HS5_,HS6_,HS7_,HS8_,HS9_,HS10_,HS11_,HS12_,HS13_,HS14_⟩ (fun hHeld => ?_)
      clear hK K
      refine norm_ (a':=?_) ?_ ?_
      rotate_left
      ·show Act.put _ (some 95) _ = _
       simp only [Act.put,sA,sZ,sS,i64_w,i32_w]
       rfl
      exact norm_ (by first|(simp only [putAll,Act.put,sA,sZ,sS];done)|(simp only [putAll,Act.put,sA,sZ,sS];rfl)) (hJ1_17_18_43_46_47_51_53_54_58_60 (v174,v183,v187,v190,v194,v197,v201,v204) _ ⟨hHeld,(by (with_reducible repeat (first|apply vA|apply vN|apply vD));exact Kd.V_mono HL176_0.out (fun _ hk => ⟨hk.1.1,⟨hk.1.2.1,⟨hk.1.2.2.1,⟨hk.1.2.2.2.1,⟨hk.1.2.2.2.2.1,⟨hk.1.2.2.2.2.2.1,⟨hk.1.2.2.2.2.2.2.1,⟨hk.2,hk.1.2.2.2.2.2.2.2⟩⟩⟩⟩⟩⟩⟩⟩)),(by (with_reducible repeat (first|apply vA|apply vN|apply vD));exact Kd.V_mono HL178_0.out (fun _ hk => ⟨hk.1.1,⟨hk.1.2.1,⟨hk.1.2.2.1,⟨hk.1.2.2.2.1,⟨hk.1.2.2.2.2.1,⟨hk.1.2.2.2.2.2.1,⟨hk.1.2.2.2.2.2.2.1,⟨hk.2,hk.1.2.2.2.2.2.2.2⟩⟩⟩⟩⟩⟩⟩⟩)),(by (with_reducible repeat (first|apply vA|apply vN|apply vD));exact Kd.V_mono HL180_0.out (fun _ hk => ⟨hk.1.1,⟨hk.1.2.1,⟨hk.1.2.2.1,⟨hk.1.2.2.2.1,⟨hk.1.2.2.2.2.1,⟨hk.1.2.2.2.2.2.1,⟨hk.1.2.2.2.2.2.2.1,⟨hk.2,hk.1.2.2.2.2.2.2.2⟩⟩⟩⟩⟩⟩⟩⟩)),(by (with_reducible repeat (first|apply nA|apply nN|apply nD));exact Kd.N_mono HO164.out (fun _ hk => ⟨hk.1.1,⟨hk.1.2.1,⟨hk.1.2.2.1,⟨hk.1.2.2.2.1,⟨hk.1.2.2.2.2.1,⟨hk.1.2.2.2.2.2.1,⟨hk.2,hk.1.2.2.2.2.2.2⟩⟩⟩⟩⟩⟩⟩)),(by (with_reducible repeat (first|apply zA|apply zN|apply zD));exact HO175.out),(by (with_reducible repeat (first|apply zA|apply zN|apply zD));exact HO184.out),(by (with_reducible repeat (first|apply zA|apply zN|apply zD));exact Kd.R_mono HO188.out (fun _ hk => ⟨hk.1.1,⟨hk.1.2.1,⟨hk.1.2.2.1,⟨hk.2,hk.1.2.2.2⟩⟩⟩⟩)),(by (with_reducible repeat (first|apply zA|apply zN|apply zD));exact Kd.R_mono HO191.out (fun _ hk => ⟨hk.1.1,⟨hk.1.2.1,⟨hk.1.2.2.1,⟨hk.2,hk.1.2.2.2⟩⟩⟩⟩)),(by (with_reducible repeat (first|apply zA|apply zN|apply zD));exact Kd.R_mono HO195.out (fun _ hk => ⟨hk.1.1,⟨hk.1.2.1,⟨hk.1.2.2.1,⟨hk.2,hk.1.2.2.2⟩⟩⟩⟩)),(by (with_reducible repeat (first|apply zA|apply zN|apply zD));exact Kd.R_mono HO198.out (fun _ hk => ⟨hk.1.1,⟨hk.1.2.1,⟨hk.1.2.2.1,⟨hk.2,hk.1.2.2.2⟩⟩⟩⟩)),(by (with_reducible repeat (first|apply zA|apply zN|apply zD));exact Kd.R_mono HO202.out (fun _ hk => ⟨hk.1.1.1.1.2,⟨hk.1.1.1.2,⟨hk.1.1.2,⟨hk.1.2,hk.2⟩⟩⟩⟩)),(by (with_reducible repeat (first|apply zA|apply zN|apply zD));exact Kd.R_mono HO205.out (fun _ hk => ⟨hk.1.1,⟨hk.1.2.1,⟨hk.1.2.2.1,⟨hk.1.2.2.2,hk.2⟩⟩⟩⟩)),(by repeat (first|(with_reducible first|exact HB.out|apply below_alloc|apply pw_below_drewN|apply below_drew1)|exact HB.out))⟩)
    ·skip
     rintro ⟨v174,v183,v187,v190,v194,v197,v201⟩ w67 ⟨hS_,h0_,h1_,h2_,h3_,h4_,h5_,h6_,h7_,h8_,h9_,h10_,h11_⟩
     have n0_ : Aside0 (Kd.V k41 41 w67 w.heap.size (fun k_ => nO k_ (.slice (some ad176) y162.length co45) ∧ nO k_ v174 ∧ nO k_ v183 ∧ nO k_ v187 ∧ nO k_ v190 ∧ nO k_ v194 ∧ nO k_ v197 ∧ nO k_ v201) (.slice (some ad177) (rd_L5 y162 0).length c176_0) (rd_L5 y162 0)):=⟨h0_⟩
     have n1_ : Aside0 (Kd.V k41 41 w67 w.heap.size (fun k_ => nO k_ (.slice (some ad176) y162.length co45) ∧ nO k_ v174 ∧ nO k_ v183 ∧ nO k_ v187 ∧ nO k_ v190 ∧ nO k_ v194 ∧ nO k_ v197 ∧ nO k_ v201) (.slice (some ad179) (rd_L5 y162 1).length c178_0) (rd_L5 y162 1)):=⟨h1_⟩
     have n2_ : Aside0 (Kd.V k41 41 w67 w.heap.size (fun k_ => nO k_ (.slice (some ad176) y162.length co45) ∧ nO k_ v174 ∧ nO k_ v183 ∧ nO k_ v187 ∧ nO k_ v190 ∧ nO k_ v194 ∧ nO k_ v197 ∧ nO k_ v201) (.slice (some ad177) (rd_L5 y162 0).length c176_0) (rd_L5 y162 0)):=⟨h2_⟩
     have n3_ : Aside0 (Kd.N (Kd.slice 41 k41) 29 w67 w.heap.size (fun k_ => nO k_ v174 ∧ nO k_ v183 ∧ nO k_ v187 ∧ nO k_ v190 ∧ nO k_ v194 ∧ nO k_ v197 ∧ nO k_ v201) (.slice (some ad176) y162.length co45) y162):=⟨h3_⟩
     have n4_ : Aside0 (Kd.R k41 41 w67 w.heap.size (fun k_ => nO k_ v183) v174 t173):=⟨h4_⟩
     have n5_ : Aside0 (Kd.R k41 41 w67 w.heap.size (fun k_ => nO k_ v174) v183 y182):=⟨h5_⟩
     have n6_ : Aside0 (Kd.R k37 37 w67 w.heap.size (fun k_ => nO k_ v190 ∧ nO k_ v194 ∧ nO k_ v197 ∧ nO k_ v201) v187 t186):=⟨h6_⟩
     have n7_ : Aside0 (Kd.R k37 37 w67 w.heap.size (fun k_ => nO k_ v187 ∧ nO k_ v194 ∧ nO k_ v197 ∧ nO k_ v201) v190 y189):=⟨h7_⟩
     have n8_ : Aside0 (Kd.R k37 37 w67 w.heap.size (fun k_ => nO k_ v187 ∧ nO k_ v190 ∧ nO k_ v197 ∧ nO k_ v201) v194 t193):=⟨h8_⟩
     have n9_ : Aside0 (Kd.R k37 37 w67 w.heap.size (fun k_ => nO k_ v187 ∧ nO k_ v190 ∧ nO k_ v194 ∧ nO k_ v201) v197 y196):=⟨h9_⟩
     have n10_ : Aside0 (Kd.R k37 37 w67 w.heap.size (fun k_ => nO k_ v187 ∧ nO k_ v190 ∧ nO k_ v194 ∧ nO k_ v197) v201 t200):=⟨h10_⟩
     have n11_ : Aside0 (Below w.heap.size w w67):=⟨h11_⟩
     clear HO164
     clear HB
     clear h0_ h1_ h2_ h3_ h4_ h5_ h6_ h7_ h8_ h9_ h10_ h11_
     have HL176_0:=n0_
     have HL178_0:=n1_
     have HL180_0:=n2_
     have HO164:=n3_
     have HO175:=n4_
     have HO184:=n5_
     have HO188:=n6_
     have HO191:=n7_
     have HO195:=n8_
     have HO198:=n9_
     have HO202:=n10_
     have HB:=n11_
     clear n0_ n1_ n2_ n3_ n4_ n5_ n6_ n7_ n8_ n9_ n10_ n11_
     have hHeld : Hd0 w67 ad176 ad177 ad179 c176_0 c178_0 y162:=hS_
     refine norm_ (a':=?_) ?_ ?_
     rotate_left
     ·simp only [putAll,Act.put,sA,sZ,sS]
      rfl
     refine one_ (i:=60) (N:=some 97) #[tt,tt,tt,tt,tt,tt,tt,tt,tt,tt,tt,tt,tt,tt,tt,tt,tt,tt,tt,tt,tt,tt,tt,tt,tt,tt,tt,tt,tt,tt,tt,tt,tt,tt,tt,tt,tt,tt,tt,tt,tt,tt,tt,tt,tt,tt,tt,tt,tt,tt,tt,tt,tt,tt,tt,tt,tt,tt,tt,tt,tt,ff,ff,ff,ff,ff,ff,ff,ff,ff] rfl rfl (one_of HT_.out (by kernel_rfl)) (by decide) (fun K hK => ?_)
     refine Kd.R_lit_step k37 _ 37 ?hg (N:=97) ?hd (xs:=([(⟨(⟨#[97]⟩ : BA),(⟨#[120]⟩ : BA)⟩ : S37)] : List (S37))) (inner:=[.string (⟨#[97]⟩ : BA),.string (⟨#[120]⟩ : BA)]) (ok:=fun _ => True) (okp:=fun _ => True) ?hr ?hp (fun _ hk => hk) trivial (Below.refl _ _) (Nat.le_refl _) (by simp) ?_;(case hd => rfl);(case hg => rfl);(case hr => first|(go_simp;done)|(go_simp;rfl));(case hp => exact (Reps.c2 (show Kd.M k37 _ _ _ (⟨(⟨#[97]⟩ : BA),(⟨#[120]⟩ : BA)⟩ : S37) [.string (⟨#[97]⟩ : BA),.string (⟨#[120]⟩ : BA)] from (k37_mkM _ _ _ (⟨(⟨#[97]⟩ : BA),(⟨#[120]⟩ : BA)⟩ : S37) )) (Reps.none _ _)))
     intro v204 w68 ho69 hb hg_ hnew_
     have HS0_:=bC hb hHeld.1
     have HS1_:=bC hb hHeld.2.1
     have HS2_:=bC hb hHeld.2.2.1
     have HS3_:=bC hb hHeld.2.2.2.1
     have HS4_:=bC hb hHeld.2.2.2.2.1
     have HS5_:=bC hb hHeld.2.2.2.2.2.1
     have HS6_:=bC hb hHeld.2.2.2.2.2.2.1
     have HS7_:=bC hb hHeld.2.2.2.2.2.2.2.1
     have HS8_:=bC hb hHeld.2.2.2.2.2.2.2.2.1
     have HS9_:=bC hb hHeld.2.2.2.2.2.2.2.2.2.1
     have HS10_:=bC hb hHeld.2.2.2.2.2.2.2.2.2.2.1
     have HS11_:=bC hb hHeld.2.2.2.2.2.2.2.2.2.2.2.1
     have HS12_:=bC hb hHeld.2.2.2.2.2.2.2.2.2.2.2.2.1
     have HS13_:=bC hb hHeld.2.2.2.2.2.2.2.2.2.2.2.2.2.1
     have HS14_:=bC hb hHeld.2.2.2.2.2.2.2.2.2.2.2.2.2.2
     clear hg_ hnew_
     (first|rw [← Ny203.out] at ho69|(simp only [Int.reduceToNat] at ho69;rw [← Ny203.out] at ho69))
     have n0_:=Aside0.mk (Kd.N_elder' (by (with_reducible repeat (first|apply nA|apply nN|apply nD));exact HO164.out) (Kd.R_base ho69) hb)
     have n1_:=Aside0.mk (Kd.V_elder' (by (with_reducible repeat (first|apply vA|apply vN|apply vD));exact HL176_0.out) (Kd.R_base ho69) hb)
     have n2_:=Aside0.mk (Kd.V_elder' (by (with_reducible repeat (first|apply vA|apply vN|apply vD));exact HL178_0.out) (Kd.R_base ho69) hb)
     have n3_:=Aside0.mk (Kd.V_elder' (by (with_reducible repeat (first|apply vA|apply vN|apply vD));exact HL180_0.out) (Kd.R_base ho69) hb)
     have n4_:=Aside0.mk (Kd.R_below (by (with_reducible repeat (first|apply zA|apply zN|apply zD));exact HO175.out) hb)
     have n5_:=Aside0.mk (Kd.R_below (by (with_reducible repeat (first|apply zA|apply zN|apply zD));exact HO184.out) hb)
     have n6_:=Aside0.mk (Kd.R_elder' (by (with_reducible repeat (first|apply zA|apply zN|apply zD));exact HO188.out) (Kd.R_base ho69) hb)
     have n7_:=Aside0.mk (Kd.R_elder' (by (with_reducible repeat (first|apply zA|apply zN|apply zD));exact HO191.out) (Kd.R_base ho69) hb)
     have n8_:=Aside0.mk (Kd.R_elder' (by (with_reducible repeat (first|apply zA|apply zN|apply zD));exact HO195.out) (Kd.R_base ho69) hb)
     have n9_:=Aside0.mk (Kd.R_elder' (by (with_reducible repeat (first|apply zA|apply zN|apply zD));exact HO198.out) (Kd.R_base ho69) hb)
     have n10_:=Aside0.mk (Kd.R_elder' (by (with_reducible repeat (first|apply zA|apply zN|apply zD));exact HO202.out) (Kd.R_base ho69) hb)
     have n11_:=Aside0.mk (Kd.R_lower (Kd.R_new' (Kd.R_new' (Kd.R_new' (Kd.R_new' (Kd.R_new' ho69 (Kd.R_lt (by (with_reducible repeat (first|apply zA|apply zN|apply zD));exact HO188.out))) (Kd.R_lt (by (with_reducible repeat (first|apply zA|apply zN|apply zD));exact HO191.out))) (Kd.R_lt (by (with_reducible repeat (first|apply zA|apply zN|apply zD));exact HO195.out))) (Kd.R_lt (by (with_reducible repeat (first|apply zA|apply zN|apply zD));exact HO198.out))) (Kd.R_lt (by (with_reducible repeat (first|apply zA|apply zN|apply zD));exact HO202.out))) (below_size (by repeat (first|(with_reducible first|exact HB.out|apply below_alloc|apply pw_below_drewN|apply below_drew1)|exact HB.out))))
     have n12_:=Aside0.mk (below_step (by repeat (first|(with_reducible first|exact HB.out|apply below_alloc|apply pw_below_drewN|apply below_drew1)|exact HB.out)) hb)
     clear HO164
     clear HL176_0
     clear HL178_0
     clear HL180_0
     clear HO175
     clear HO184
     clear HO188
     clear HO191
     clear HO195
     clear HO198
     clear HO202
     clear HB
     have HO164:=n0_
     have HL176_0:=n1_
     have HL178_0:=n2_
     have HL180_0:=n3_
     have HO175:=n4_
     have HO184:=n5_
     have HO188:=n6_
     have HO191:=n7_
     have HO195:=n8_
     have HO198:=n9_
     have HO202:=n10_
     have HO205:=n11_
     have HB:=n12_
     clear n0_ n1_ n2_ n3_ n4_ n5_ n6_ n7_ n8_ n9_ n10_ n11_ n12_
     clear hb ho69
     refine hK.out _ _ ⟨HS0_,HS1_,HS2_,HS3_,HS4_,HS5_,HS6_,HS7_,HS8_,HS9_,HS10_,HS11_,HS12_,HS13_,HS14_⟩ (fun hHeld => ?_)
     clear hK K
     refine norm_ (a':=?_) ?_ ?_
     rotate_left
     ·show Act.put _ (some 97) _ = _
      simp only [Act.put,sA,sZ,sS,i64_w,i32_w]
      rfl
     exact norm_ (by first|(simp only [putAll,Act.put,sA,sZ,sS];done)|(simp only [putAll,Act.put,sA,sZ,sS];rfl)) (hJ1_17_18_43_46_47_51_53_54_58_60 (v174,v183,v187,v190,v194,v197,v201,v204) _ ⟨hHeld,(by (with_reducible repeat (first|apply vA|apply vN|apply vD));exact Kd.V_mono HL176_0.out (fun _ hk => ⟨hk.1.1,⟨hk.1.2.1,⟨hk.1.2.2.1,⟨hk.1.2.2.2.1,⟨hk.1.2.2.2.2.1,⟨hk.1.2.2.2.2.2.1,⟨hk.1.2.2.2.2.2.2.1,⟨hk.1.2.2.2.2.2.2.2,hk.2⟩⟩⟩⟩⟩⟩⟩⟩)),(by (with_reducible repeat (first|apply vA|apply vN|apply vD));exact Kd.V_mono HL178_0.out (fun _ hk => ⟨hk.1.1,⟨hk.1.2.1,⟨hk.1.2.2.1,⟨hk.1.2.2.2.1,⟨hk.1.2.2.2.2.1,⟨hk.1.2.2.2.2.2.1,⟨hk.1.2.2.2.2.2.2.1,⟨hk.1.2.2.2.2.2.2.2,hk.2⟩⟩⟩⟩⟩⟩⟩⟩)),(by (with_reducible repeat (first|apply vA|apply vN|apply vD));exact Kd.V_mono HL180_0.out (fun _ hk => ⟨hk.1.1,⟨hk.1.2.1,⟨hk.1.2.2.1,⟨hk.1.2.2.2.1,⟨hk.1.2.2.2.2.1,⟨hk.1.2.2.2.2.2.1,⟨hk.1.2.2.2.2.2.2.1,⟨hk.1.2.2.2.2.2.2.2,hk.2⟩⟩⟩⟩⟩⟩⟩⟩)),(by (with_reducible repeat (first|apply nA|apply nN|apply nD));exact Kd.N_mono HO164.out (fun _ hk => ⟨hk.1.1,⟨hk.1.2.1,⟨hk.1.2.2.1,⟨hk.1.2.2.2.1,⟨hk.1.2.2.2.2.1,⟨hk.1.2.2.2.2.2.1,⟨hk.1.2.2.2.2.2.2,hk.2⟩⟩⟩⟩⟩⟩⟩)),(by (with_reducible repeat (first|apply zA|apply zN|apply zD));exact HO175.out),(by (with_reducible repeat (first|apply zA|apply zN|apply zD));exact HO184.out),(by (with_reducible repeat (first|apply zA|apply zN|apply zD));exact Kd.R_mono HO188.out (fun _ hk => ⟨hk.1.1,⟨hk.1.2.1,⟨hk.1.2.2.1,⟨hk.1.2.2.2,hk.2⟩⟩⟩⟩)),(by (with_reducible repeat (first|apply zA|apply zN|apply zD));exact Kd.R_mono HO191.out (fun _ hk => ⟨hk.1.1,⟨hk.1.2.1,⟨hk.1.2.2.1,⟨hk.1.2.2.2,hk.2⟩⟩⟩⟩)),(by (with_reducible repeat (first|apply zA|apply zN|apply zD));exact Kd.R_mono HO195.out (fun _ hk => ⟨hk.1.1,⟨hk.1.2.1,⟨hk.1.2.2.1,⟨hk.1.2.2.2,hk.2⟩⟩⟩⟩)),(by (with_reducible repeat (first|apply zA|apply zN|apply zD));exact Kd.R_mono HO198.out (fun _ hk => ⟨hk.1.1,⟨hk.1.2.1,⟨hk.1.2.2.1,⟨hk.1.2.2.2,hk.2⟩⟩⟩⟩)),(by (with_reducible repeat (first|apply zA|apply zN|apply zD));exact Kd.R_mono HO202.out (fun _ hk => ⟨hk.1.1,⟨hk.1.2.1,⟨hk.1.2.2.1,⟨hk.1.2.2.2,hk.2⟩⟩⟩⟩)),(by (with_reducible repeat (first|apply zA|apply zN|apply zD));exact Kd.R_mono HO205.out (fun _ hk => ⟨hk.1.1.1.1.2,⟨hk.1.1.1.2,⟨hk.1.1.2,⟨hk.1.2,hk.2⟩⟩⟩⟩)),(by repeat (first|(with_reducible first|exact HB.out|apply below_alloc|apply pw_below_drewN|apply below_drew1)|exact HB.out))⟩)
   rintro ⟨v174,v183,v187,v190,v194,v197,v201,v204⟩ w69 ⟨hS_,h0_,h1_,h2_,h3_,h4_,h5_,h6_,h7_,h8_,h9_,h10_,h11_,h12_⟩
   have n0_ : Aside0 (Kd.V k41 41 w69 w.heap.size (fun k_ => nO k_ (.slice (some ad176) y162.length co45) ∧ nO k_ v174 ∧ nO k_ v183 ∧ nO k_ v187 ∧ nO k_ v190 ∧ nO k_ v194 ∧ nO k_ v197 ∧ nO k_ v201 ∧ nO k_ v204) (.slice (some ad177) (rd_L5 y162 0).length c176_0) (rd_L5 y162 0)):=⟨h0_⟩
   have n1_ : Aside0 (Kd.V k41 41 w69 w.heap.size (fun k_ => nO k_ (.slice (some ad176) y162.length co45) ∧ nO k_ v174 ∧ nO k_ v183 ∧ nO k_ v187 ∧ nO k_ v190 ∧ nO k_ v194 ∧ nO k_ v197 ∧ nO k_ v201 ∧ nO k_ v204) (.slice (some ad179) (rd_L5 y162 1).length c178_0) (rd_L5 y162 1)):=⟨h1_⟩
   have n2_ : Aside0 (Kd.V k41 41 w69 w.heap.size (fun k_ => nO k_ (.slice (some ad176) y162.length co45) ∧ nO k_ v174 ∧ nO k_ v183 ∧ nO k_ v187 ∧ nO k_ v190 ∧ nO k_ v194 ∧ nO k_ v197 ∧ nO k_ v201 ∧ nO k_ v204) (.slice (some ad177) (rd_L5 y162 0).length c176_0) (rd_L5 y162 0)):=⟨h2_⟩
   have n3_ : Aside0 (Kd.N (Kd.slice 41 k41) 29 w69 w.heap.size (fun k_ => nO k_ v174 ∧ nO k_ v183 ∧ nO k_ v187 ∧ nO k_ v190 ∧ nO k_ v194 ∧ nO k_ v197 ∧ nO k_ v201 ∧ nO k_ v204) (.slice (some ad176) y162.length co45) y162):=⟨h3_⟩
   have n4_ : Aside0 (Kd.R k41 41 w69 w.heap.size (fun k_ => nO k_ v183) v174 t173):=⟨h4_⟩
   have n5_ : Aside0 (Kd.R k41 41 w69 w.heap.size (fun k_ => nO k_ v174) v183 y182):=⟨h5_⟩
   have n6_ : Aside0 (Kd.R k37 37 w69 w.heap.size (fun k_ => nO k_ v190 ∧ nO k_ v194 ∧ nO k_ v197 ∧ nO k_ v201 ∧ nO k_ v204) v187 t186):=⟨h6_⟩
   have n7_ : Aside0 (Kd.R k37 37 w69 w.heap.size (fun k_ => nO k_ v187 ∧ nO k_ v194 ∧ nO k_ v197 ∧ nO k_ v201 ∧ nO k_ v204) v190 y189):=⟨h7_⟩
   have n8_ : Aside0 (Kd.R k37 37 w69 w.heap.size (fun k_ => nO k_ v187 ∧ nO k_ v190 ∧ nO k_ v197 ∧ nO k_ v201 ∧ nO k_ v204) v194 t193):=⟨h8_⟩
   have n9_ : Aside0 (Kd.R k37 37 w69 w.heap.size (fun k_ => nO k_ v187 ∧ nO k_ v190 ∧ nO k_ v194 ∧ nO k_ v201 ∧ nO k_ v204) v197 y196):=⟨h9_⟩
   have n10_ : Aside0 (Kd.R k37 37 w69 w.heap.size (fun k_ => nO k_ v187 ∧ nO k_ v190 ∧ nO k_ v194 ∧ nO k_ v197 ∧ nO k_ v204) v201 t200):=⟨h10_⟩
   have n11_ : Aside0 (Kd.R k37 37 w69 w.heap.size (fun k_ => nO k_ v187 ∧ nO k_ v190 ∧ nO k_ v194 ∧ nO k_ v197 ∧ nO k_ v201) v204 y203):=⟨h11_⟩
   have n12_ : Aside0 (Below w.heap.size w w69):=⟨h12_⟩
   clear HO164
   clear HB
   clear h0_ h1_ h2_ h3_ h4_ h5_ h6_ h7_ h8_ h9_ h10_ h11_ h12_
   have HL176_0:=n0_
   have HL178_0:=n1_
   have HL180_0:=n2_
   have HO164:=n3_
   have HO175:=n4_
   have HO184:=n5_
   have HO188:=n6_
   have HO191:=n7_
   have HO195:=n8_
   have HO198:=n9_
   have HO202:=n10_
   have HO205:=n11_
   have HB:=n12_
   clear n0_ n1_ n2_ n3_ n4_ n5_ n6_ n7_ n8_ n9_ n10_ n11_ n12_
   have hHeld : Hd0 w69 ad176 ad177 ad179 c176_0 c178_0 y162:=hS_
   obtain ⟨Ao70,co70,eo70⟩:=Kd.R_slice HO202.out
   (first|subst eo70|(injection eo70 with f1_ f2_ f3_;have f4_:=f1_.symm;have f5_:=f3_.symm;clear f1_ f2_ f3_;subst f4_;subst f5_))
   obtain ⟨Ao71,co71,eo71⟩:=Kd.R_slice HO205.out
   (first|subst eo71|(injection eo71 with f1_ f2_ f3_;have f4_:=f1_.symm;have f5_:=f3_.symm;clear f1_ f2_ f3_;subst f4_;subst f5_))
   refine norm_ (a':=?_) ?_ ?_
   rotate_left
   ·simp only [putAll,Act.put,sA,sZ,sS]
    rfl
   refine one_ (i:=61) (N:=some 98) #[tt,tt,tt,tt,tt,tt,tt,tt,tt,tt,tt,tt,tt,tt,tt,tt,tt,tt,tt,tt,tt,tt,tt,tt,tt,tt,tt,tt,tt,tt,tt,tt,tt,tt,tt,tt,tt,tt,tt,tt,tt,tt,tt,tt,tt,tt,tt,tt,tt,tt,tt,tt,tt,tt,tt,tt,tt,tt,tt,tt,tt,tt,ff,ff,ff,ff,ff,ff,ff,ff] rfl rfl (one_of HT_.out (by kernel_rfl)) (by decide) (fun K hK => ?_)
   refine goes_ Try.func21 (by kernel_rfl) rfl #[.slice Ao70 t200.length co70,.slice Ao71 y203.length co71] (by rfl) rfl rfl (by (try simp only [List.map_toArray,List.map_cons,List.map_nil]);first|done|rfl|(simp only [List.length_drop,List.length_take];rfl)) ?_
   with_reducible refine (ratlinelaw11_Pairs.calls k _ _ t200 _ _ y203 true _ ?side1 ?side2 ?side3 ?side4 A30.out).mono ?_
   (case side1 => repeat (first|exact (Kd.R_reads' HO202.out).2.2|(with_reducible refine Kd.C_alloc ?_ _)|(with_reducible refine Kd.C_drewN ?_ _)|(with_reducible refine Kd.C_drew ?_)))
   (case side2 => exact (Kd.R_reads' HO202.out).2.1)
   (case side3 => repeat (first|exact (Kd.R_reads' HO205.out).2.2|(with_reducible refine Kd.C_alloc ?_ _)|(with_reducible refine Kd.C_drewN ?_ _)|(with_reducible refine Kd.C_drew ?_)))
   (case side4 => exact (Kd.R_reads' HO205.out).2.1)
   rintro e w' ⟨rfl,⟨nd,rfl⟩⟩
   refine ⟨_,rfl,?_⟩
   refine hK.out _ _ ⟨hHeld.1,hHeld.2.1,hHeld.2.2.1,hHeld.2.2.2.1,hHeld.2.2.2.2.1,hHeld.2.2.2.2.2.1,hHeld.2.2.2.2.2.2.1,hHeld.2.2.2.2.2.2.2.1,hHeld.2.2.2.2.2.2.2.2.1,hHeld.2.2.2.2.2.2.2.2.2.1,hHeld.2.2.2.2.2.2.2.2.2.2.1,hHeld.2.2.2.2.2.2.2.2.2.2.2.1,hHeld.2.2.2.2.2.2.2.2.2.2.2.2.1,hHeld.2.2.2.2.2.2.2.2.2.2.2.2.2.1,hHeld.2.2.2.2.2.2.2.2.2.2.2.2.2.2⟩ (fun hHeld => ?_)
   clear hK K
   refine norm_ (a':=?_) ?_ ?_
   rotate_left
   ·show Act.put _ (some 98) _ = _
    simp only [Act.put,sA,sZ,sS,i64_w,i32_w]
    rfl
   refine pure_ (i:=62) (N:=some 99) (v:=?_) (a':=?_) #[tt,tt,tt,tt,tt,tt,tt,tt,tt,tt,tt,tt,tt,tt,tt,tt,tt,tt,tt,tt,tt,tt,tt,tt,tt,tt,tt,tt,tt,tt,tt,tt,tt,tt,tt,tt,tt,tt,tt,tt,tt,tt,tt,tt,tt,tt,tt,tt,tt,tt,tt,tt,tt,tt,tt,tt,tt,tt,tt,tt,tt,tt,tt,ff,ff,ff,ff,ff,ff,ff] rfl rfl (any_of HT_.out (by kernel_rfl)) (fun _ _ _ h => h) (Or.inl ⟨by rfl,?_⟩) ?_ ?_
   rotate_left
   ·intro w'
    go_simp
    with_reducible rfl
   rotate_left
   ·simp only [Act.put,sA,sZ,sS,i64_w,i32_w]
    rfl
   refine pure_ (i:=63) (N:=some 100) (v:=?_) (a':=?_) #[tt,tt,tt,tt,tt,tt,tt,tt,tt,tt,tt,tt,tt,tt,tt,tt,tt,tt,tt,tt,tt,tt,tt,tt,tt,tt,tt,tt,tt,tt,tt,tt,tt,tt,tt,tt,tt,tt,tt,tt,tt,tt,tt,tt,tt,tt,tt,tt,tt,tt,tt,tt,tt,tt,tt,tt,tt,tt,tt,tt,tt,tt,tt,tt,ff,ff,ff,ff,ff,ff] rfl rfl (any_of HT_.out (by kernel_rfl)) (fun _ _ _ h => h) (Or.inl ⟨by rfl,?_⟩) ?_ ?_
   rotate_left
   ·intro w'
    go_simp
    with_reducible rfl
   rotate_left
   ·simp only [Act.put,sA,sZ,sS,i64_w,i32_w]
    rfl
   refine pure_ (i:=64) (N:=some 101) (v:=?_) (a':=?_) #[tt,tt,tt,tt,tt,tt,tt,tt,tt,tt,tt,tt,tt,tt,tt,tt,tt,tt,tt,tt,tt,tt,tt,tt,tt,tt,tt,tt,tt,tt,tt,tt,tt,tt,tt,tt,tt,tt,tt,tt,tt,tt,tt,tt,tt,tt,tt,tt,tt,tt,tt,tt,tt,tt,tt,tt,tt,tt,tt,tt,tt,tt,tt,tt,tt,ff,ff,ff,ff,ff] rfl rfl (any_of HT_.out (by kernel_rfl)) (fun _ _ _ h => h) (Or.inl ⟨by rfl,?_⟩) ?_ ?_
   rotate_left
   ·intro w'
    go_simp
    with_reducible rfl
   rotate_left
   ·simp only [Act.put,sA,sZ,sS,i64_w,i32_w]
    rfl
   refine one_ (i:=65) (N:=some 102) #[tt,tt,tt,tt,tt,tt,tt,tt,tt,tt,tt,tt,tt,tt,tt,tt,tt,tt,tt,tt,tt,tt,tt,tt,tt,tt,tt,tt,tt,tt,tt,tt,tt,tt,tt,tt,tt,tt,tt,tt,tt,tt,tt,tt,tt,tt,tt,tt,tt,tt,tt,tt,tt,tt,tt,tt,tt,tt,tt,tt,tt,tt,tt,tt,tt,tt,ff,ff,ff,ff] rfl rfl (one_of HT_.out (by kernel_rfl)) (by decide) (fun K hK => ?_)
   refine goes_ Try.func22 (by kernel_rfl) rfl #[.slice (some ad176) y162.length co45,.string (⟨#[98]⟩ : BA),.string (⟨#[98]⟩ : BA),.int .u64 9,.int .i64 9] (by rfl) rfl rfl (by (try simp only [List.map_toArray,List.map_cons,List.map_nil]);first|done|rfl|(simp only [List.length_drop,List.length_take];rfl)) ?_
   with_reducible refine (merge_Scan.calls _ _ y162 (⟨#[98]⟩ : BA) (⟨#[98]⟩ : BA) 9 9 t207 _ ?side1 ?side2 A32.out).mono ?_
   (case side1 => repeat (first|exact (Kd.N_reads' HO164.out).2.2|(with_reducible refine Kd.C_alloc ?_ _)|(with_reducible refine Kd.C_drewN ?_ _)|(with_reducible refine Kd.C_drew ?_)))
   (case side2 => exact (Kd.N_reads' HO164.out).2.1)
   rintro e w72 ⟨v208,rfl,ho0,hb⟩
   have HS0_:=bC hb hHeld.1
   have HS1_:=bC hb hHeld.2.1
   have HS2_:=bC hb hHeld.2.2.1
   have HS3_:=bC hb hHeld.2.2.2.1
   have HS4_:=bC hb hHeld.2.2.2.2.1
   have HS5_:=bC hb hHeld.2.2.2.2.2.1
   have HS6_:=bC hb hHeld.2.2.2.2.2.2.1
   have HS7_:=bC hb hHeld.2.2.2.2.2.2.2.1
   have HS8_:=bC hb hHeld.2.2.2.2.2.2.2.2.1
   have HS9_:=bC hb hHeld.2.2.2.2.2.2.2.2.2.1
   have HS10_:=bC hb hHeld.2.2.2.2.2.2.2.2.2.2.1
   have HS11_:=bC hb hHeld.2.2.2.2.2.2.2.2.2.2.2.1
   have HS12_:=bC hb hHeld.2.2.2.2.2.2.2.2.2.2.2.2.1
   have HS13_:=bC hb hHeld.2.2.2.2.2.2.2.2.2.2.2.2.2.1
   have HS14_:=bC hb hHeld.2.2.2.2.2.2.2.2.2.2.2.2.2.2
   refine ⟨_,rfl,?_⟩
   have n0_:=Aside0.mk (Kd.N_elder' (by (with_reducible repeat (first|apply nA|apply nN|apply nD));exact HO164.out) (Kd.R_base ho0) hb)
   have n1_:=Aside0.mk (Kd.V_elder' (by (with_reducible repeat (first|apply vA|apply vN|apply vD));exact HL176_0.out) (Kd.R_base ho0) hb)
   have n2_:=Aside0.mk (Kd.V_elder' (by (with_reducible repeat (first|apply vA|apply vN|apply vD));exact HL178_0.out) (Kd.R_base ho0) hb)
   have n3_:=Aside0.mk (Kd.V_elder' (by (with_reducible repeat (first|apply vA|apply vN|apply vD));exact HL180_0.out) (Kd.R_base ho0) hb)
   have n4_:=Aside0.mk (Kd.R_below (by (with_reducible repeat (first|apply zA|apply zN|apply zD));exact HO175.out) hb)
   have n5_:=Aside0.mk (Kd.R_below (by (with_reducible repeat (first|apply zA|apply zN|apply zD));exact HO184.out) hb)
   have n6_:=Aside0.mk (Kd.R_elder' (by (with_reducible repeat (first|apply zA|apply zN|apply zD));exact HO188.out) (Kd.R_base ho0) hb)
   have n7_:=Aside0.mk (Kd.R_elder' (by (with_reducible repeat (first|apply zA|apply zN|apply zD));exact HO191.out) (Kd.R_base ho0) hb)
   have n8_:=Aside0.mk (Kd.R_elder' (by (with_reducible repeat (first|apply zA|apply zN|apply zD));exact HO195.out) (Kd.R_base ho0) hb)
   have n9_:=Aside0.mk (Kd.R_elder' (by (with_reducible repeat (first|apply zA|apply zN|apply zD));exact HO198.out) (Kd.R_base ho0) hb)
   have n10_:=Aside0.mk (Kd.R_elder' (by (with_reducible repeat (first|apply zA|apply zN|apply zD));exact HO202.out) (Kd.R_base ho0) hb)
   have n11_:=Aside0.mk (Kd.R_elder' (by (with_reducible repeat (first|apply zA|apply zN|apply zD));exact HO205.out) (Kd.R_base ho0) hb)
   have n12_:=Aside0.mk (Kd.R_lower (Kd.R_new' (Kd.R_new' (Kd.R_new' (Kd.R_new' (Kd.R_new' (Kd.R_new' ho0 (Kd.R_lt (by (with_reducible repeat (first|apply zA|apply zN|apply zD));exact HO188.out))) (Kd.R_lt (by (with_reducible repeat (first|apply zA|apply zN|apply zD));exact HO191.out))) (Kd.R_lt (by (with_reducible repeat (first|apply zA|apply zN|apply zD));exact HO195.out))) (Kd.R_lt (by (with_reducible repeat (first|apply zA|apply zN|apply zD));exact HO198.out))) (Kd.R_lt (by (with_reducible repeat (first|apply zA|apply zN|apply zD));exact HO202.out))) (Kd.R_lt (by (with_reducible repeat (first|apply zA|apply zN|apply zD));exact HO205.out))) (below_size (by repeat (first|(with_reducible first|exact HB.out|apply below_alloc|apply pw_below_drewN|apply below_drew1)|exact HB.out))))
   have n13_:=Aside0.mk (below_step (by repeat (first|(with_reducible first|exact HB.out|apply below_alloc|apply pw_below_drewN|apply below_drew1)|exact HB.out)) hb)
   clear HO164
   clear HL176_0
   clear HL178_0
   clear HL180_0
   clear HO175
   clear HO184
   clear HO188
   clear HO191
   clear HO195
   clear HO198
   clear HO202
   clear HO205
   clear HB
   have HO164:=n0_
   have HL176_0:=n1_
   have HL178_0:=n2_
   have HL180_0:=n3_
   have HO175:=n4_
   have HO184:=n5_
   have HO188:=n6_
   have HO191:=n7_
   have HO195:=n8_
   have HO198:=n9_
   have HO202:=n10_
   have HO205:=n11_
   have HO209:=n12_
   have HB:=n13_
   clear n0_ n1_ n2_ n3_ n4_ n5_ n6_ n7_ n8_ n9_ n10_ n11_ n12_ n13_
   (try clear hb)
   (try clear hb2)
   (try clear hk)
   (try clear hi)
   (try clear ho0)
   obtain ⟨Ao73,co73,eo73⟩:=Kd.R_slice HO209.out
   (first|subst eo73|(injection eo73 with f1_ f2_ f3_;have f4_:=f1_.symm;have f5_:=f3_.symm;clear f1_ f2_ f3_;subst f4_;subst f5_))
   refine hK.out _ _ ⟨HS0_,HS1_,HS2_,HS3_,HS4_,HS5_,HS6_,HS7_,HS8_,HS9_,HS10_,HS11_,HS12_,HS13_,HS14_⟩ (fun hHeld => ?_)
   clear hK K
   refine norm_ (a':=?_) ?_ ?_
   rotate_left
   ·show Act.put _ (some 102) _ = _
    simp only [Act.put,sA,sZ,sS,i64_w,i32_w]
    rfl
   refine pure_ (i:=66) (N:=some 103) (v:=?_) (a':=?_) #[tt,tt,tt,tt,tt,tt,tt,tt,tt,tt,tt,tt,tt,tt,tt,tt,tt,tt,tt,tt,tt,tt,tt,tt,tt,tt,tt,tt,tt,tt,tt,tt,tt,tt,tt,tt,tt,tt,tt,tt,tt,tt,tt,tt,tt,tt,tt,tt,tt,tt,tt,tt,tt,tt,tt,tt,tt,tt,tt,tt,tt,tt,tt,tt,tt,tt,tt,ff,ff,ff] rfl rfl (any_of HT_.out (by kernel_rfl)) (fun _ _ _ h => h) (Or.inl ⟨by rfl,?_⟩) ?_ ?_
   rotate_left
   ·intro w'
    go_simp
    with_reducible rfl
   rotate_left
   ·simp only [Act.put,sA,sZ,sS,i64_w,i32_w]
    rfl
   refine pure_ (i:=67) (N:=some 104) (v:=?_) (a':=?_) #[tt,tt,tt,tt,tt,tt,tt,tt,tt,tt,tt,tt,tt,tt,tt,tt,tt,tt,tt,tt,tt,tt,tt,tt,tt,tt,tt,tt,tt,tt,tt,tt,tt,tt,tt,tt,tt,tt,tt,tt,tt,tt,tt,tt,tt,tt,tt,tt,tt,tt,tt,tt,tt,tt,tt,tt,tt,tt,tt,tt,tt,tt,tt,tt,tt,tt,tt,tt,ff,ff] rfl rfl (any_of HT_.out (by kernel_rfl)) (fun _ _ _ h => h) (Or.inl ⟨by rfl,?_⟩) ?_ ?_
   rotate_left
   ·intro w'
    go_simp
    with_reducible rfl
   rotate_left
   ·simp only [Act.put,sA,sZ,sS,i64_w,i32_w]
    rfl
   refine pure_ (i:=68) (N:=some 105) (v:=?_) (a':=?_) #[tt,tt,tt,tt,tt,tt,tt,tt,tt,tt,tt,tt,tt,tt,tt,tt,tt,tt,tt,tt,tt,tt,tt,tt,tt,tt,tt,tt,tt,tt,tt,tt,tt,tt,tt,tt,tt,tt,tt,tt,tt,tt,tt,tt,tt,tt,tt,tt,tt,tt,tt,tt,tt,tt,tt,tt,tt,tt,tt,tt,tt,tt,tt,tt,tt,tt,tt,tt,tt,ff] rfl rfl (any_of HT_.out (by kernel_rfl)) (fun _ _ _ h => h) (Or.inl ⟨by rfl,?_⟩) ?_ ?_
   rotate_left
   ·intro w'
    go_simp
    with_reducible rfl
   rotate_left
   ·simp only [Act.put,sA,sZ,sS,i64_w,i32_w]
    rfl
   refine pure_ (i:=69) (N:=some 0) (v:=?_) (a':=?_) #[tt,tt,tt,tt,tt,tt,tt,tt,tt,tt,tt,tt,tt,tt,tt,tt,tt,tt,tt,tt,tt,tt,tt,tt,tt,tt,tt,tt,tt,tt,tt,tt,tt,tt,tt,tt,tt,tt,tt,tt,tt,tt,tt,tt,tt,tt,tt,tt,tt,tt,tt,tt,tt,tt,tt,tt,tt,tt,tt,tt,tt,tt,tt,tt,tt,tt,tt,tt,tt,tt] rfl rfl (any_of HT_.out (by kernel_rfl)) (fun _ _ _ h => h) (Or.inl ⟨by rfl,?_⟩) ?_ ?_
   rotate_left
   ·intro w'
    go_simp
    with_reducible rfl
   rotate_left
   ·simp only [Act.put,sA,sZ,sS,i64_w,i32_w]
    rfl
   refine done_ (done_of HT_.out (by kernel_rfl)) ?_
   try go_wp2
   go_ret
   exact ⟨by first|rfl|(simp [errW_none,errW_some] <;> rfl)|(simp [*,errW_none,errW_some] <;> rfl),by repeat (first|(with_reducible first|exact HB.out|apply below_alloc|apply pw_below_drewN|apply below_drew1)|exact HB.out)⟩
end Go.Proofs.Ytojemmipkpckbaa.P

end
