/- Proved here: what the row of EditRefused needs, part 3. Conditions: those of each theorem. Written for this claim by programs; what the claim does not use is left out. -/
import Derived.Test.YtlaihdipagejfaaSEditRefused2
section
namespace Go.Proofs.Ytlaihdipagejfaa.P
open Go.RowKit Go.Proofs.YtlaihdipagejfaaG Go.Proofs.YtlaihdipagejfaaW.PrintWords Go.Proofs.YtlaihdipagejfaaW.PrintLast Go.Proofs.YtlaihdipagejfaaW.PrintMore
attribute [local go_sem] str_gtr str_geq str_leq max2_int min2_int max_two min_two max_three min_three max_four min_four   -- for this text's walks alone
set_option linter.unusedVariables false
set_option linter.unusedSimpArgs false

open ratlinelaw09_EditRefused
set_option linter.unusedVariables false
set_option linter.unusedSimpArgs false
abbrev aW := @pw_below_drewN
abbrev aA := @below_alloc
abbrev aD := @below_drew1
abbrev aV := @Kd.V_elder'
abbrev aQ := @Kd.R_reads'
abbrev aO := @Kd.V_reads'
abbrev aF := @blk_frozen
abbrev aZ := @below_size
abbrev aT := @below_step
abbrev aP := @Kd.R_types
abbrev aK := @Aside0.mk
abbrev aS := @below_set
abbrev aB := @blk_below
abbrev aM := @Kd.R_mono
abbrev aN := @Kd.V_mono
abbrev aJ := @Kd.R_base
abbrev aC := @blk_cell
abbrev aY := @Kd.R_far
abbrev aU := @Kd.V_far
abbrev aX := @blk_far
set_option maxHeartbeats 8000000 in
set_option maxRecDepth 100000 in
theorem tailt1 (P0_0_ : Nat → Prop) (A0_0 : Option Addr) (c0_0 : Nat) (l0_0 : List S62) (a0_1 : Int) (a0_2 : Int) (a0_3 : Int) (P1_0_ : Nat → Prop) (A1_0 : Option Addr) (c1_0 : Nat) (l1_0 : List S62) (a1_1 : Int) (a1_2 : Int) (a1_3 : Int) (r : Bool) (w : World) (t419 : List MetaS) (t422 : Int) (t423 : Int) (t424 : Int) (t425 : Int) (qQp_0 : Exit → Act → World → Prop) (qhlet_Qp_0 : qQp_0 = (bodyPost Try.prog Try.f8 fun e w' => e = Ending.returned (Value.bool r) ∧ Below (Array.size (World.heap w)) w w')) (gb412 : Nat) (E412 : Aside0 (Array.size (World.heap w) ≤ gb412)) (gb413 : Nat) (E413 : Aside0 (Array.size (World.heap w) ≤ gb413)) (N412_413 : Aside0 (gb412 ≠ gb413)) (N413_412 : Aside0 (gb413 ≠ gb412)) (gb426 : Nat) (E426 : Aside0 (Array.size (World.heap w) ≤ gb426)) (N412_426 : Aside0 (gb412 ≠ gb426)) (N426_412 : Aside0 (gb426 ≠ gb412)) (N413_426 : Aside0 (gb413 ≠ gb426)) (N426_413 : Aside0 (gb426 ≠ gb413)) (Ao19 : Option Addr) (co19 : Nat) (t430 : List MetaS) (t433 : Int) (t434 : Int) (t435 : Int) (t436 : Int) (gb437 : Nat) (E437 : Aside0 (Array.size (World.heap w) ≤ gb437)) (N413_437 : Aside0 (gb413 ≠ gb437)) (N437_413 : Aside0 (gb437 ≠ gb413)) (N426_437 : Aside0 (gb426 ≠ gb437)) (N437_426 : Aside0 (gb437 ≠ gb426)) (Ao47 : Option Addr) (co47 : Nat) (x9_38 : Bool) (x10_63 : Bool) (qK_1 : Act → World → Prop) (qa_1 :  ∀ (a : Act) (w : World), Code.wp Try.prog (Code.seq (Code.region 11 #[Oper.mk (some 115) (Op.load 54 (Operand.tmp 3)) 54 "outright.go:86" #[] none, Oper.mk (some 11) (Op.alloc 54) 0 "outright.go:86" #[] none, Oper.mk none (Op.store 54 (Operand.tmp 11) (Operand.tmp 115)) 0 "outright.go:86" #[Edge.mk 1 Ground.data, Edge.mk 0 Ground.data, Edge.mk 0 Ground.phase, Edge.mk 1 Ground.phase] none] false) (Code.seq (Code.seq (Code.region 12 #[Oper.mk (some 116) (Op.move (Operand.tmp 9)) 4 "outright.go:87" #[] none] false) (Code.cond (Operand.tmp 116) (Code.region 13 #[Oper.mk (some 117) (Op.fieldAddr 54 (Operand.tmp 11) 0) 0 "outright.go:88" #[] none, Oper.mk none (Op.store 52 (Operand.tmp 117) (Operand.const (Value.slice none 0 0))) 0 "outright.go:88" #[Edge.mk 0 Ground.data] none] false) Code.skip)) (Code.seq (Code.region 14 #[Oper.mk (some 118) (Op.fieldAddr 54 (Operand.tmp 3) 1) 0 "outright.go:90" #[] none, Oper.mk (some 119) (Op.load 35 (Operand.tmp 118)) 35 "outright.go:90" #[Edge.mk 0 Ground.data] none, Oper.mk (some 120) (Op.fieldAddr 57 (Operand.tmp 5) 1) 0 "outright.go:90" #[] none, Oper.mk (some 121) (Op.load 35 (Operand.tmp 120)) 35 "outright.go:90" #[Edge.mk 2 Ground.data] none, Oper.mk (some 122) (Op.call (Call.mk (Callee.builtin Builtin.max) #[Operand.tmp 119, Operand.tmp 121] #[35, 35])) 35 "outright.go:90" #[Edge.mk 1 Ground.data, Edge.mk 3 Ground.data] none, Oper.mk (some 123) (Op.fieldAddr 54 (Operand.tmp 3) 2) 0 "outright.go:90" #[] none, Oper.mk (some 124) (Op.load 35 (Operand.tmp 123)) 35 "outright.go:90" #[Edge.mk 5 Ground.data] none, Oper.mk (some 125) (Op.fieldAddr 57 (Operand.tmp 5) 2) 0 "outright.go:90" #[] none, Oper.mk (some 126) (Op.load 35 (Operand.tmp 125)) 35 "outright.go:90" #[Edge.mk 7 Ground.data] none, Oper.mk (some 127) (Op.call (Call.mk (Callee.builtin Builtin.max) #[Operand.tmp 124, Operand.tmp 126] #[35, 35])) 35 "outright.go:90" #[Edge.mk 6 Ground.data, Edge.mk 8 Ground.data] none, Oper.mk (some 128) (Op.fieldAddr 54 (Operand.tmp 3) 3) 0 "outright.go:90" #[] none, Oper.mk (some 129) (Op.load 35 (Operand.tmp 128)) 35 "outright.go:90" #[Edge.mk 10 Ground.data] none, Oper.mk (some 130) (Op.fieldAddr 57 (Operand.tmp 5) 3) 0 "outright.go:90" #[] none, Oper.mk (some 131) (Op.load 35 (Operand.tmp 130)) 35 "outright.go:90" #[Edge.mk 12 Ground.data] none, Oper.mk (some 132) (Op.call (Call.mk (Callee.builtin Builtin.max) #[Operand.tmp 129, Operand.tmp 131] #[35, 35])) 35 "outright.go:90" #[Edge.mk 11 Ground.data, Edge.mk 13 Ground.data] none, Oper.mk (some 133) (Op.fieldAddr 54 (Operand.tmp 11) 1) 0 "outright.go:90" #[Edge.mk 0 Ground.phase, Edge.mk 1 Ground.phase, Edge.mk 2 Ground.phase, Edge.mk 3 Ground.phase, Edge.mk 4 Ground.phase, Edge.mk 5 (Ground.textOnly Departure.lateStores), Edge.mk 6 (Ground.textOnly Departure.lateStores), Edge.mk 7 (Ground.textOnly Departure.lateStores), Edge.mk 8 (Ground.textOnly Departure.lateStores), Edge.mk 9 (Ground.textOnly Departure.lateStoresUnsure), Edge.mk 10 (Ground.textOnly Departure.lateStores), Edge.mk 11 (Ground.textOnly Departure.lateStores), Edge.mk 12 (Ground.textOnly Departure.lateStores), Edge.mk 13 (Ground.textOnly Departure.lateStores), Edge.mk 14 (Ground.textOnly Departure.lateStoresUnsure)] none, Oper.mk none (Op.store 35 (Operand.tmp 133) (Operand.tmp 122)) 0 "outright.go:90" #[Edge.mk 15 Ground.data, Edge.mk 4 Ground.data, Edge.mk 0 Ground.phase, Edge.mk 1 Ground.phase, Edge.mk 2 Ground.phase, Edge.mk 3 Ground.phase, Edge.mk 4 Ground.phase, Edge.mk 5 (Ground.textOnly Departure.lateStores), Edge.mk 6 (Ground.textOnly Departure.lateStores), Edge.mk 7 (Ground.textOnly Departure.lateStores), Edge.mk 8 (Ground.textOnly Departure.lateStores), Edge.mk 9 (Ground.textOnly Departure.lateStoresUnsure), Edge.mk 10 (Ground.textOnly Departure.lateStores), Edge.mk 11 (Ground.textOnly Departure.lateStores), Edge.mk 12 (Ground.textOnly Departure.lateStores), Edge.mk 13 (Ground.textOnly Departure.lateStores), Edge.mk 14 (Ground.textOnly Departure.lateStoresUnsure)] none, Oper.mk (some 134) (Op.fieldAddr 54 (Operand.tmp 11) 2) 0 "outright.go:90" #[Edge.mk 0 Ground.phase, Edge.mk 1 Ground.phase, Edge.mk 2 Ground.phase, Edge.mk 3 Ground.phase, Edge.mk 4 Ground.phase, Edge.mk 5 Ground.phase, Edge.mk 6 Ground.phase, Edge.mk 7 Ground.phase, Edge.mk 8 Ground.phase, Edge.mk 9 Ground.phase, Edge.mk 10 (Ground.textOnly Departure.lateStores), Edge.mk 11 (Ground.textOnly Departure.lateStores), Edge.mk 12 (Ground.textOnly Departure.lateStores), Edge.mk 13 (Ground.textOnly Departure.lateStores), Edge.mk 14 (Ground.textOnly Departure.lateStoresUnsure), Edge.mk 15 Ground.phase, Edge.mk 16 Ground.phase] none, Oper.mk none (Op.store 35 (Operand.tmp 134) (Operand.tmp 127)) 0 "outright.go:90" #[Edge.mk 17 Ground.data, Edge.mk 9 Ground.data, Edge.mk 16 Ground.chain, Edge.mk 0 Ground.phase, Edge.mk 1 Ground.phase, Edge.mk 2 Ground.phase, Edge.mk 3 Ground.phase, Edge.mk 4 Ground.phase, Edge.mk 5 Ground.phase, Edge.mk 6 Ground.phase, Edge.mk 7 Ground.phase, Edge.mk 8 Ground.phase, Edge.mk 9 Ground.phase, Edge.mk 10 (Ground.textOnly Departure.lateStores), Edge.mk 11 (Ground.textOnly Departure.lateStores), Edge.mk 12 (Ground.textOnly Departure.lateStores), Edge.mk 13 (Ground.textOnly Departure.lateStores), Edge.mk 14 (Ground.textOnly Departure.lateStoresUnsure), Edge.mk 15 Ground.phase, Edge.mk 16 Ground.phase] none, Oper.mk (some 135) (Op.fieldAddr 54 (Operand.tmp 11) 3) 0 "outright.go:90" #[Edge.mk 0 Ground.phase, Edge.mk 1 Ground.phase, Edge.mk 2 Ground.phase, Edge.mk 3 Ground.phase, Edge.mk 4 Ground.phase, Edge.mk 5 Ground.phase, Edge.mk 6 Ground.phase, Edge.mk 7 Ground.phase, Edge.mk 8 Ground.phase, Edge.mk 9 Ground.phase, Edge.mk 10 Ground.phase, Edge.mk 11 Ground.phase, Edge.mk 12 Ground.phase, Edge.mk 13 Ground.phase, Edge.mk 14 Ground.phase, Edge.mk 15 Ground.phase, Edge.mk 16 Ground.phase, Edge.mk 17 Ground.phase, Edge.mk 18 Ground.phase] none, Oper.mk none (Op.store 35 (Operand.tmp 135) (Operand.tmp 132)) 0 "outright.go:90" #[Edge.mk 19 Ground.data, Edge.mk 14 Ground.data, Edge.mk 18 Ground.chain, Edge.mk 0 Ground.phase, Edge.mk 1 Ground.phase, Edge.mk 2 Ground.phase, Edge.mk 3 Ground.phase, Edge.mk 4 Ground.phase, Edge.mk 5 Ground.phase, Edge.mk 6 Ground.phase, Edge.mk 7 Ground.phase, Edge.mk 8 Ground.phase, Edge.mk 9 Ground.phase, Edge.mk 10 Ground.phase, Edge.mk 11 Ground.phase, Edge.mk 12 Ground.phase, Edge.mk 13 Ground.phase, Edge.mk 14 Ground.phase, Edge.mk 15 Ground.phase, Edge.mk 16 Ground.phase, Edge.mk 17 Ground.phase, Edge.mk 18 Ground.phase] none] true) (Code.seq (Code.region 15 #[Oper.mk (some 137) (Op.load 57 (Operand.tmp 5)) 57 "outright.go:91" #[] none, Oper.mk (some 138) (Op.load 54 (Operand.tmp 11)) 54 "outright.go:91" #[] none, Oper.mk (some 139) (Op.call (Call.mk (Callee.value (Operand.func 32)) #[Operand.tmp 137, Operand.tmp 138] #[57, 54])) 58 "outright.go:91" #[Edge.mk 0 Ground.data, Edge.mk 1 Ground.data] none, Oper.mk (some 136) (Op.move (Operand.tmp 139)) 58 "outright.go:91" #[Edge.mk 2 Ground.data] none, Oper.mk (some 140) (Op.extract (Operand.tmp 136) 0) 57 "outright.go:91" #[Edge.mk 3 Ground.data] none, Oper.mk (some 141) (Op.extract (Operand.tmp 136) 1) 26 "outright.go:91" #[Edge.mk 3 Ground.data, Edge.mk 7 (Ground.gcOnly Departure.lateStores)] none, Oper.mk (some 12) (Op.alloc 57) 0 "outright.go:91" #[] none, Oper.mk none (Op.store 57 (Operand.tmp 12) (Operand.tmp 140)) 0 "outright.go:91" #[Edge.mk 6 Ground.data, Edge.mk 4 Ground.data, Edge.mk 2 Ground.chain, Edge.mk 0 Ground.phase, Edge.mk 1 Ground.phase, Edge.mk 2 Ground.phase, Edge.mk 3 Ground.phase, Edge.mk 4 Ground.phase, Edge.mk 5 (Ground.textOnly Departure.lateStores), Edge.mk 6 Ground.phase] none, Oper.mk (some 13) (Op.assign (Operand.tmp 141)) 26 "outright.go:91" #[Edge.mk 5 Ground.data, Edge.mk 7 Ground.chain, Edge.mk 0 Ground.phase, Edge.mk 1 Ground.phase, Edge.mk 2 Ground.phase, Edge.mk 3 Ground.phase, Edge.mk 4 Ground.phase, Edge.mk 5 Ground.phase, Edge.mk 6 Ground.phase, Edge.mk 7 Ground.phase] none] false) (Code.seq (Code.region 16 #[Oper.mk (some 142) (Op.move (Operand.tmp 13)) 26 "outright.go:92" #[] none, Oper.mk (some 143) (Op.binOp BinOp.eql 26 (Operand.tmp 142) (Operand.const (Value.int IntKind.i64 0)) 26) 4 "outright.go:92" #[Edge.mk 0 Ground.data] none, Oper.mk (some 144) (Op.load 54 (Operand.tmp 11)) 54 "outright.go:92" #[] none, Oper.mk (some 145) (Op.call (Call.mk (Callee.value (Operand.func 33)) #[Operand.tmp 144] #[54])) 4 "outright.go:92" #[Edge.mk 2 Ground.data] none, Oper.mk (some 146) (Op.binOp BinOp.eql 4 (Operand.tmp 143) (Operand.tmp 145) 4) 4 "outright.go:92" #[Edge.mk 1 Ground.data, Edge.mk 3 Ground.data] none, Oper.mk (some 147) (Op.move (Operand.tmp 146)) 4 "outright.go:92" #[Edge.mk 4 Ground.data, Edge.mk 3 Ground.chain] none, Oper.mk (some 148) (Op.call (Call.mk (Callee.value (Operand.func 31)) #[] #[])) 4 "outright.go:92" #[Edge.mk 5 Ground.chain, Edge.mk 5 Ground.guard] (some (5, true)), Oper.mk (some 149) (Op.pick (Operand.tmp 147) (Operand.tmp 148) (Operand.const (Value.bool false))) 4 "outright.go:92" #[Edge.mk 5 Ground.data, Edge.mk 6 Ground.data] none, Oper.mk (some 4) (Op.assign (Operand.tmp 149)) 4 "outright.go:92" #[Edge.mk 7 Ground.data, Edge.mk 6 Ground.chain, Edge.mk 0 Ground.phase, Edge.mk 1 Ground.phase, Edge.mk 2 Ground.phase, Edge.mk 3 Ground.phase, Edge.mk 4 Ground.phase, Edge.mk 5 Ground.phase, Edge.mk 6 Ground.phase, Edge.mk 7 Ground.phase] none] false) Code.ret))))) qQp_0 a w → qK_1 a w) (qK_0 : Act → World → Prop) (qa_0 :  ∀ (a : Act) (w : World), Code.wp Try.prog (Code.cond (Operand.tmp 114) (Code.seq (Code.region 10 #[Oper.mk (some 4) (Op.assign (Operand.const (Value.bool false))) 4 "outright.go:84" #[] none] false) Code.ret) Code.skip) (Exit.then qK_1 qQp_0) a w → qK_0 a w) (wc : World) (u7 :  Value) (u12 :  Value) (u14 :  Value) (u15 :  Value) (u16 :  Value) (u17 :  Value) (u18 :  Value) (u19 :  Value) (u20 :  Value) (u21 :  Value) (u22 :  Value) (u23 :  Value) (u24 :  Value) (u25 :  Value) (u26 :  Value) (u27 :  Value) (u28 :  Value) (u29 :  Value) (u30 :  Value) (u31 :  Value) (u32 :  Value) (u33 :  Value) (u34 :  Value) (u35 :  Value) (u36 :  Value) (u37 :  Value) (u38 :  Value) (u39 :  Value) (u40 :  Value) (u41 :  Value) (u42 :  Value) (u43 :  Value) (u44 :  Value) (u45 :  Value) (u46 :  Value) (u47 :  Value) (u48 :  Value) (u49 :  Value) (u50 :  Value) (u51 :  Value) (u52 :  Value) (u53 :  Value) (u54 :  Value) (u55 :  Value) (u56 :  Value) (u57 :  Value) (u58 :  Value) (u59 :  Value) (u60 :  Value) (u61 :  Value) (u62 :  Value) (u63 :  Value) (u64 :  Value) (u65 :  Value) (u66 :  Value) (u67 :  Value) (u68 :  Value) (u69 :  Value) (u70 :  Value) (u71 :  Value) (u72 :  Value) (u73 :  Value) (u74 :  Value) (u75 :  Value) (u76 :  Value) (u77 :  Value) (u78 :  Value) (u79 :  Value) (u80 :  Value) (u81 :  Value) (u82 :  Value) (u83 :  Value) (u84 :  Value) (u85 :  Value) (u86 :  Value) (u87 :  Value) (u88 :  Value) (u89 :  Value) (u90 :  Value) (u91 :  Value) (u92 :  Value) (u93 :  Value) (u94 :  Value) (u95 :  Value) (u96 :  Value) (u97 :  Value) (u98 :  Value) (u99 :  Value) (u100 :  Value) (u101 :  Value) (u102 :  Value) (u103 :  Value) (u104 :  Value) (u105 :  Value) (u106 :  Value) (u107 :  Value) (u108 :  Value) (u109 :  Value) (u110 :  Value) (u111 :  Value) (u112 :  Value) (u113 :  Value) (u115 :  Value) (u116 :  Value) (u117 :  Value) (u118 :  Value) (u119 :  Value) (u120 :  Value) (u121 :  Value) (u122 :  Value) (u123 :  Value) (u124 :  Value) (u125 :  Value) (u126 :  Value) (u127 :  Value) (u128 :  Value) (u129 :  Value) (u130 :  Value) (u131 :  Value) (u132 :  Value) (u133 :  Value) (u134 :  Value) (u135 :  Value) (u136 :  Value) (u137 :  Value) (u138 :  Value) (u139 :  Value) (u140 :  Value) (u141 :  Value) (u142 :  Value) (u143 :  Value) (u144 :  Value) (u145 :  Value) (u146 :  Value) (u147 :  Value) (u148 :  Value) (u149 :  Value) (kq : Nat) (x114_148 : Bool) (HA : Aside0 (j3 kq x9_38 x114_148 l1_0 a1_1 a1_2 a1_3 t419 t422 t423 t424 = some r)) (HO_413000 :  Aside0 (Kd.V k62 62 wc (Array.size (World.heap w)) (fun k_ => ((P0_0_ k_ ∨ P1_0_ k_) ∨ Array.size (World.heap w) ≤ k_) ∧ nO k_ (Value.slice Ao19 (List.length t419) co19) ∧ nO k_ (Value.slice Ao47 (List.length t430) co47) ∧ k_ ≠ gb412 ∧ k_ ≠ gb413 ∧ k_ ≠ gb426 ∧ k_ ≠ gb437) (Value.slice A0_0 (List.length l0_0) c0_0) l0_0)) (HO_414000 :  Aside0 (Kd.V k62 62 wc (Array.size (World.heap w)) (fun k_ => ((P0_0_ k_ ∨ P1_0_ k_) ∨ Array.size (World.heap w) ≤ k_) ∧ nO k_ (Value.slice Ao19 (List.length t419) co19) ∧ nO k_ (Value.slice Ao47 (List.length t430) co47) ∧ k_ ≠ gb412 ∧ k_ ≠ gb413 ∧ k_ ≠ gb426 ∧ k_ ≠ gb437) (Value.slice A1_0 (List.length l1_0) c1_0) l1_0)) (HO_427000 :  Aside0 (Kd.R k62 62 wc (Array.size (World.heap w)) (fun k_ => Array.size (World.heap w) ≤ k_ ∧ nO k_ (Value.slice Ao47 (List.length t430) co47)) (Value.slice Ao19 (List.length t419) co19) t419)) (HO_438000 :  Aside0 (Kd.R k62 62 wc (Array.size (World.heap w)) (fun k_ => Array.size (World.heap w) ≤ k_ ∧ nO k_ (Value.slice Ao19 (List.length t419) co19)) (Value.slice Ao47 (List.length t430) co47) t430)) (B412 :  Aside0 ((World.heap wc)[gb412]? = some (Obj.cells #[Value.slice A0_0 (List.length l0_0) c0_0, Value.int IntKind.u64 a0_1, Value.int IntKind.u64 a0_2, Value.int IntKind.u64 a0_3] 54))) (B413 :  Aside0 ((World.heap wc)[gb413]? = some (Obj.cells #[Value.slice A1_0 (List.length l1_0) c1_0, Value.int IntKind.u64 a1_1, Value.int IntKind.u64 a1_2, Value.int IntKind.u64 a1_3] 54))) (B426 :  Aside0 ((World.heap wc)[gb426]? = some (Obj.cells #[Value.slice Ao19 (List.length t419) co19, Value.int IntKind.u64 t422, Value.int IntKind.u64 t423, Value.int IntKind.u64 t424] 57))) (B437 :  Aside0 ((World.heap wc)[gb437]? = some (Obj.cells #[Value.slice Ao47 (List.length t430) co47, Value.int IntKind.u64 t433, Value.int IntKind.u64 t434, Value.int IntKind.u64 t435] 57))) (HB : Aside0 (Below (Array.size (World.heap w)) w wc)) :
  qK_0 (Act.mk #[Value.agg #[Value.slice A0_0 (List.length l0_0) c0_0, Value.int IntKind.u64 a0_1, Value.int IntKind.u64 a0_2, Value.int IntKind.u64 a0_3], Value.agg #[Value.slice A1_0 (List.length l1_0) c1_0, Value.int IntKind.u64 a1_1, Value.int IntKind.u64 a1_2, Value.int IntKind.u64 a1_3], Value.pointer (some (Addr.mk gb412 0 none)), Value.pointer (some (Addr.mk gb413 0 none)), Value.bool false, Value.pointer (some (Addr.mk gb426 0 none)), Value.int IntKind.i64 t425, u7, Value.int IntKind.i64 t436, Value.bool x9_38, Value.bool x10_63, undef, u12, undef, u14, u15, u16, u17, u18, u19, u20, u21, u22, u23, u24, u25, u26, u27, u28, u29, u30, u31, u32, u33, u34, u35, u36, u37, u38, u39, u40, u41, u42, u43, u44, u45, u46, u47, u48, u49, u50, u51, u52, u53, u54, u55, u56, u57, u58, u59, u60, u61, u62, u63, u64, u65, u66, u67, u68, u69, u70, u71, u72, u73, u74, u75, u76, u77, u78, u79, u80, u81, u82, u83, u84, u85, u86, u87, u88, u89, u90, u91, u92, u93, u94, u95, u96, u97, u98, u99, u100, u101, u102, u103, u104, u105, u106, u107, u108, u109, u110, u111, u112, u113, Value.bool x114_148, u115, u116, u117, u118, u119, u120, u121, u122, u123, u124, u125, u126, u127, u128, u129, u130, u131, u132, u133, u134, u135, u136, u137, u138, u139, u140, u141, u142, u143, u144, u145, u146, u147, u148, u149] []) wc := by
 subst qhlet_Qp_0
 cases kq with
 | zero => exact absurd HA.out (by simp [j3])
 | succ kj148 =>
  have H:=HA.out
  clear HA
  simp only [j3] at H
  by_cases c151 : x114_148 = true
  ·subst c151
   have H1 : (none) = some r:=by rw [if_pos rfl] at H;exact H
   clear H
   have H:=H1
   clear H1
   exact absurd H (by simp)
  ·replace c151:=Bool.eq_false_iff.mpr c151
   subst c151
   have H1 : (if x9_38 = true then ((edit_Apply.f t419 t422 t423 t424 ([] : List (S62)) (mx a1_1 t422) (mx a1_2 t423) (mx a1_3 t424)).bind fun bt441 => ((edit_Right.f kj148 ([] : List (S62)) (mx a1_1 t422) (mx a1_2 t423) (mx a1_3 t424)).bind fun t449 => (if ((bt441.2.2.2.2 == 0) == t449) = true then ((ratlinelaw09_awake.f).bind fun t450 => (some t450)) else (none)))) else ((edit_Apply.f t419 t422 t423 t424 l1_0 (mx a1_1 t422) (mx a1_2 t423) (mx a1_3 t424)).bind fun bt451 => ((edit_Right.f kj148 l1_0 (mx a1_1 t422) (mx a1_2 t423) (mx a1_3 t424)).bind fun t459 => (if ((bt451.2.2.2.2 == 0) == t459) = true then ((ratlinelaw09_awake.f).bind fun t460 => (some t460)) else (none))))) = some r:=by rw [if_neg (show ¬ (false = true) by decide)] at H;exact H
   clear H
   have H:=H1
   clear H1
   by_cases c152 : x9_38 = true
   ·subst c152
    have H1 : ((edit_Apply.f t419 t422 t423 t424 ([] : List (S62)) (mx a1_1 t422) (mx a1_2 t423) (mx a1_3 t424)).bind fun bt441 => ((edit_Right.f kj148 ([] : List (S62)) (mx a1_1 t422) (mx a1_2 t423) (mx a1_3 t424)).bind fun t449 => (if ((bt441.2.2.2.2 == 0) == t449) = true then ((ratlinelaw09_awake.f).bind fun t450 => (some t450)) else (none)))) = some r:=by rw [if_pos rfl] at H;exact H
    clear H
    have H:=H1
    clear H1
    obtain ⟨ji153,hji153⟩ : ∃ j_ : Int,(mx a1_1 t422) = j_:=⟨_,rfl⟩
    replace H : ((edit_Apply.f t419 t422 t423 t424 ([] : List (S62)) (ji153) (mx a1_2 t423) (mx a1_3 t424)).bind fun bt441 => ((edit_Right.f kj148 ([] : List (S62)) (ji153) (mx a1_2 t423) (mx a1_3 t424)).bind fun t449 => (if ((bt441.2.2.2.2 == 0) == t449) = true then ((ratlinelaw09_awake.f).bind fun t450 => (some t450)) else (none)))) = some r:=by first|(rw [hji153] at H;exact H)|(simp only [hji153] at H ⊢;exact H)
    have hji153_ : (if a1_1 < t422 then t422 else a1_1) = ji153:=hji153
    obtain ⟨ji154,hji154⟩ : ∃ j_ : Int,(mx a1_2 t423) = j_:=⟨_,rfl⟩
    replace H : ((edit_Apply.f t419 t422 t423 t424 ([] : List (S62)) (ji153) (ji154) (mx a1_3 t424)).bind fun bt441 => ((edit_Right.f kj148 ([] : List (S62)) (ji153) (ji154) (mx a1_3 t424)).bind fun t449 => (if ((bt441.2.2.2.2 == 0) == t449) = true then ((ratlinelaw09_awake.f).bind fun t450 => (some t450)) else (none)))) = some r:=by first|(rw [hji154] at H;exact H)|(simp only [hji154] at H ⊢;exact H)
    have hji154_ : (if a1_2 < t423 then t423 else a1_2) = ji154:=hji154
    obtain ⟨ji155,hji155⟩ : ∃ j_ : Int,(mx a1_3 t424) = j_:=⟨_,rfl⟩
    replace H : ((edit_Apply.f t419 t422 t423 t424 ([] : List (S62)) (ji153) (ji154) (ji155)).bind fun bt441 => ((edit_Right.f kj148 ([] : List (S62)) (ji153) (ji154) (ji155)).bind fun t449 => (if ((bt441.2.2.2.2 == 0) == t449) = true then ((ratlinelaw09_awake.f).bind fun t450 => (some t450)) else (none)))) = some r:=by first|(rw [hji155] at H;exact H)|(simp only [hji155] at H ⊢;exact H)
    have hji155_ : (if a1_3 < t424 then t424 else a1_3) = ji155:=hji155
    replace H:=Option.bind_eq_some_iff.mp H
    obtain ⟨⟨t441,t444,t445,t446,t447⟩,A1560,H⟩:=H
    replace H : ((edit_Right.f kj148 ([] : List (S62)) (ji153) (ji154) (ji155)).bind fun t449 => (if ((t447 == 0) == t449) = true then ((ratlinelaw09_awake.f).bind fun t450 => (some t450)) else (none))) = some r:=H
    have A156:=aK A1560
    clear A1560
    replace H:=Option.bind_eq_some_iff.mp H
    obtain ⟨t449,A1570,H⟩:=H
    replace H : (if ((t447 == 0) == t449) = true then ((ratlinelaw09_awake.f).bind fun t450 => (some t450)) else (none)) = some r:=H
    have A157:=aK A1570
    clear A1570
    by_cases c158 : ((t447 == 0) == t449) = true
    rotate_left
    ·rw [if_neg c158] at H
     exact absurd H (by simp)
    rw [if_pos c158] at H
    have c158b0 : ((t447 == 0) == t449) = true:=c158
    (try (have c158b1 : decide ((t447 == 0) = t449) = true:=by simpa using c158))
    (try (have c158b2 : ((t447 == 0) == t449) = true:=by simpa using c158))
    clear c158
    replace H:=Option.bind_eq_some_iff.mp H
    obtain ⟨t450,A1590,H⟩:=H
    replace H : (some t450) = some r:=H
    have A159:=aK A1590
    clear A1590
    obtain rfl:=Option.some.inj H
    have hnb160:=N413_412.out
    have hnc160:=N412_413.out
    have hnb161:=N413_426.out
    have hnc161:=N426_413.out
    have hnb162:=N413_437.out
    have hnc162:=N437_413.out
    have z163_0 : wc.cell? ⟨gb413,0,none⟩ = some (.slice A1_0 l1_0.length c1_0):=(aC B413.out 0).trans rfl
    have z163_1 : wc.cell? ⟨gb413,1,none⟩ = some (.int .u64 a1_1):=(aC B413.out 1).trans rfl
    have z163_2 : wc.cell? ⟨gb413,2,none⟩ = some (.int .u64 a1_2):=(aC B413.out 2).trans rfl
    have z163_3 : wc.cell? ⟨gb413,3,none⟩ = some (.int .u64 a1_3):=(aC B413.out 3).trans rfl
    have f163_0:=aF B413.out 0
    have f163_1:=aF B413.out 1
    have f163_2:=aF B413.out 2
    have f163_3:=aF B413.out 3
    try go_wp2_with (first|((with_reducible refine gate_dst (N:=11) rfl ?_);(try (refine gate_guard (by rfl) ?_;dsimp only));refine box_event ?hg (N:=11) ?hd (cs:=#[.slice none 0 0,.int .u64 0,.int .u64 0,.int .u64 0]) (t:=54) ?hr ?_;(case hd => rfl);(case hg => rfl);(case hr => first|(go_simp;done)|(go_simp;rfl));intro gb440 hg w164 hbox hb;have n0_:=aK (Kd.V_below (Kd.V_elderB (by (with_reducible repeat (first|apply vA|apply vN|apply vD));exact HO_413000.out) gb440 (Nat.le_of_eq hg.symm)) hb);have n1_:=aK (Kd.V_below (Kd.V_elderB (by (with_reducible repeat (first|apply vA|apply vN|apply vD));exact HO_414000.out) gb440 (Nat.le_of_eq hg.symm)) hb);have n2_:=aK (Kd.R_below (by (with_reducible repeat (first|apply zA|apply zN|apply zD));exact HO_427000.out) hb);have n3_:=aK (Kd.R_below (by (with_reducible repeat (first|apply zA|apply zN|apply zD));exact HO_438000.out) hb);have n4_:=aK (aB (g:=gb412) (o:=.cells #[.slice A0_0 l0_0.length c0_0,.int .u64 a0_1,.int .u64 a0_2,.int .u64 a0_3] 54 (0,0)) (by (with_reducible repeat (first|refine bN ?_ _|refine bD ?_|refine bA ?_ _));exact B412.out) hb);have n5_:=aK (aB (g:=gb413) (o:=.cells #[.slice A1_0 l1_0.length c1_0,.int .u64 a1_1,.int .u64 a1_2,.int .u64 a1_3] 54 (0,0)) (by (with_reducible repeat (first|refine bN ?_ _|refine bD ?_|refine bA ?_ _));exact B413.out) hb);have n6_:=aK (aB (g:=gb426) (o:=.cells #[.slice Ao19 t419.length co19,.int .u64 t422,.int .u64 t423,.int .u64 t424] 57 (0,0)) (by (with_reducible repeat (first|refine bN ?_ _|refine bD ?_|refine bA ?_ _));exact B426.out) hb);have n7_:=aK (aB (g:=gb437) (o:=.cells #[.slice Ao47 t430.length co47,.int .u64 t433,.int .u64 t434,.int .u64 t435] 57 (0,0)) (by (with_reducible repeat (first|refine bN ?_ _|refine bD ?_|refine bA ?_ _));exact B437.out) hb);have n8_:=aK (aT (by repeat (first|(with_reducible first|exact HB.out|apply aA|apply aW|apply aD|refine aS ?_ E412.out|refine aS ?_ E413.out|refine aS ?_ E426.out|refine aS ?_ E437.out)|exact HB.out)) hb);have n9_:=aK (hbox);have n10_:=aK ((by rw [hg];exact (aZ (by repeat (first|(with_reducible first|exact HB.out|apply aA|apply aW|apply aD|refine aS ?_ E412.out|refine aS ?_ E413.out|refine aS ?_ E426.out|refine aS ?_ E437.out)|exact HB.out))) : w.heap.size ≤ gb440));have n11_:=aK ((by rw [hg];exact (aZ (by repeat (first|(with_reducible first|exact HB.out|apply aA|apply aW|apply aD|refine aS ?_ E412.out|refine aS ?_ E413.out|refine aS ?_ E426.out|refine aS ?_ E437.out)|exact HB.out))) : w.heap.size ≤ gb440));have n12_:=aK ((by rw [hg];exact Nat.ne_of_lt (blk_lt (g:=gb412) (o:=.cells #[.slice A0_0 l0_0.length c0_0,.int .u64 a0_1,.int .u64 a0_2,.int .u64 a0_3] 54 (0,0)) (by (with_reducible repeat (first|refine bN ?_ _|refine bD ?_|refine bA ?_ _));exact B412.out)) : gb412 ≠ gb440));have n13_:=aK ((by rw [hg];exact Nat.ne_of_gt (blk_lt (g:=gb412) (o:=.cells #[.slice A0_0 l0_0.length c0_0,.int .u64 a0_1,.int .u64 a0_2,.int .u64 a0_3] 54 (0,0)) (by (with_reducible repeat (first|refine bN ?_ _|refine bD ?_|refine bA ?_ _));exact B412.out)) : gb440 ≠ gb412));have n14_:=aK ((by rw [hg];exact Nat.ne_of_lt (blk_lt (g:=gb413) (o:=.cells #[.slice A1_0 l1_0.length c1_0,.int .u64 a1_1,.int .u64 a1_2,.int .u64 a1_3] 54 (0,0)) (by (with_reducible repeat (first|refine bN ?_ _|refine bD ?_|refine bA ?_ _));exact B413.out)) : gb413 ≠ gb440));have n15_:=aK ((by rw [hg];exact Nat.ne_of_gt (blk_lt (g:=gb413) (o:=.cells #[.slice A1_0 l1_0.length c1_0,.int .u64 a1_1,.int .u64 a1_2,.int .u64 a1_3] 54 (0,0)) (by (with_reducible repeat (first|refine bN ?_ _|refine bD ?_|refine bA ?_ _));exact B413.out)) : gb440 ≠ gb413));have n16_:=aK ((by rw [hg];exact Nat.ne_of_lt (blk_lt (g:=gb426) (o:=.cells #[.slice Ao19 t419.length co19,.int .u64 t422,.int .u64 t423,.int .u64 t424] 57 (0,0)) (by (with_reducible repeat (first|refine bN ?_ _|refine bD ?_|refine bA ?_ _));exact B426.out)) : gb426 ≠ gb440));have n17_:=aK ((by rw [hg];exact Nat.ne_of_gt (blk_lt (g:=gb426) (o:=.cells #[.slice Ao19 t419.length co19,.int .u64 t422,.int .u64 t423,.int .u64 t424] 57 (0,0)) (by (with_reducible repeat (first|refine bN ?_ _|refine bD ?_|refine bA ?_ _));exact B426.out)) : gb440 ≠ gb426));have n18_:=aK ((by rw [hg];exact Nat.ne_of_lt (blk_lt (g:=gb437) (o:=.cells #[.slice Ao47 t430.length co47,.int .u64 t433,.int .u64 t434,.int .u64 t435] 57 (0,0)) (by (with_reducible repeat (first|refine bN ?_ _|refine bD ?_|refine bA ?_ _));exact B437.out)) : gb437 ≠ gb440));have n19_:=aK ((by rw [hg];exact Nat.ne_of_gt (blk_lt (g:=gb437) (o:=.cells #[.slice Ao47 t430.length co47,.int .u64 t433,.int .u64 t434,.int .u64 t435] 57 (0,0)) (by (with_reducible repeat (first|refine bN ?_ _|refine bD ?_|refine bA ?_ _));exact B437.out)) : gb440 ≠ gb437));clear HO_413000;clear HO_414000;clear HO_427000;clear HO_438000;clear B412;clear B413;clear B426;clear B437;clear HB;have HO_413000:=n0_;have HO_414000:=n1_;have HO_427000:=n2_;have HO_438000:=n3_;have B412:=n4_;have B413:=n5_;have B426:=n6_;have B437:=n7_;have HB:=n8_;have B440:=n9_;have W440:=n10_;have E440:=n11_;have N412_440:=n12_;have N440_412:=n13_;have N413_440:=n14_;have N440_413:=n15_;have N426_440:=n16_;have N440_426:=n17_;have N437_440:=n18_;have N440_437:=n19_;clear n0_ n1_ n2_ n3_ n4_ n5_ n6_ n7_ n8_ n9_ n10_ n11_ n12_ n13_ n14_ n15_ n16_ n17_ n18_ n19_;clear hb hbox hg;have hnb165:=N440_412.out;have hnc165:=N412_440.out;have hnb166:=N440_413.out;have hnc166:=N413_440.out;have hnb167:=N440_426.out;have hnc167:=N426_440.out;have hnb168:=N440_437.out;have hnc168:=N437_440.out;have z169_0 : w164.cell? ⟨gb440,0,none⟩ = some (.slice none 0 0):=(aC B440.out 0).trans rfl;have z169_1 : w164.cell? ⟨gb440,1,none⟩ = some (.int .u64 0):=(aC B440.out 1).trans rfl;have z169_2 : w164.cell? ⟨gb440,2,none⟩ = some (.int .u64 0):=(aC B440.out 2).trans rfl;have z169_3 : w164.cell? ⟨gb440,3,none⟩ = some (.int .u64 0):=(aC B440.out 3).trans rfl;have f169_0:=aF B440.out 0;have f169_1:=aF B440.out 1;have f169_2:=aF B440.out 2;have f169_3:=aF B440.out 3))
    have n0_ : Aside0 (Kd.V k62 62 (((((w164.setCell ⟨gb440,0,none⟩ (.slice A1_0 l1_0.length c1_0)).setCell ⟨gb440,1,none⟩ (.int .u64 a1_1)).setCell ⟨gb440,2,none⟩ (.int .u64 a1_2)).setCell ⟨gb440,3,none⟩ (.int .u64 a1_3)).setCell ⟨gb440,0,none⟩ (.slice none 0 0)) w.heap.size (fun k_ => ((P0_0_ k_ ∨ P1_0_ k_) ∨ w.heap.size ≤ k_) ∧ nB k_ Ao19 t419.length co19 ∧ nB k_ Ao47 t430.length co47 ∧ k_ ≠ gb412 ∧ k_ ≠ gb413 ∧ k_ ≠ gb426 ∧ k_ ≠ gb437 ∧ k_ ≠ gb440) (.slice A0_0 l0_0.length c0_0) l0_0):=⟨by (with_reducible repeat (first|apply vA|apply vN|apply vD));exact aN (aU (p:=⟨gb440,0,none⟩) (aU (p:=⟨gb440,3,none⟩) (aU (p:=⟨gb440,2,none⟩) (aU (p:=⟨gb440,1,none⟩) (aU (p:=⟨gb440,0,none⟩) (aN HO_413000.out (fun k_ hk => (⟨hk,hk.2⟩ : _ ∧ k_ ≠ gb440))) (fun _ hk => hk.2) (.slice A1_0 l1_0.length c1_0)) (fun _ hk => hk.2) (.int .u64 a1_1)) (fun _ hk => hk.2) (.int .u64 a1_2)) (fun _ hk => hk.2) (.int .u64 a1_3)) (fun _ hk => hk.2) (.slice none 0 0)) (fun _ hk => ⟨hk.1.1.1,⟨hk.1.1.2.1,⟨hk.1.1.2.2.1,⟨hk.1.1.2.2.2.1,⟨hk.1.1.2.2.2.2.1,⟨hk.1.1.2.2.2.2.2.1,⟨hk.1.1.2.2.2.2.2.2,hk.1.2⟩⟩⟩⟩⟩⟩⟩)⟩
    have n1_ : Aside0 (Kd.V k62 62 (((((w164.setCell ⟨gb440,0,none⟩ (.slice A1_0 l1_0.length c1_0)).setCell ⟨gb440,1,none⟩ (.int .u64 a1_1)).setCell ⟨gb440,2,none⟩ (.int .u64 a1_2)).setCell ⟨gb440,3,none⟩ (.int .u64 a1_3)).setCell ⟨gb440,0,none⟩ (.slice none 0 0)) w.heap.size (fun k_ => ((P0_0_ k_ ∨ P1_0_ k_) ∨ w.heap.size ≤ k_) ∧ nB k_ Ao19 t419.length co19 ∧ nB k_ Ao47 t430.length co47 ∧ k_ ≠ gb412 ∧ k_ ≠ gb413 ∧ k_ ≠ gb426 ∧ k_ ≠ gb437 ∧ k_ ≠ gb440) (.slice A1_0 l1_0.length c1_0) l1_0):=⟨by (with_reducible repeat (first|apply vA|apply vN|apply vD));exact aN (aU (p:=⟨gb440,0,none⟩) (aU (p:=⟨gb440,3,none⟩) (aU (p:=⟨gb440,2,none⟩) (aU (p:=⟨gb440,1,none⟩) (aU (p:=⟨gb440,0,none⟩) (aN HO_414000.out (fun k_ hk => (⟨hk,hk.2⟩ : _ ∧ k_ ≠ gb440))) (fun _ hk => hk.2) (.slice A1_0 l1_0.length c1_0)) (fun _ hk => hk.2) (.int .u64 a1_1)) (fun _ hk => hk.2) (.int .u64 a1_2)) (fun _ hk => hk.2) (.int .u64 a1_3)) (fun _ hk => hk.2) (.slice none 0 0)) (fun _ hk => ⟨hk.1.1.1,⟨hk.1.1.2.1,⟨hk.1.1.2.2.1,⟨hk.1.1.2.2.2.1,⟨hk.1.1.2.2.2.2.1,⟨hk.1.1.2.2.2.2.2.1,⟨hk.1.1.2.2.2.2.2.2,hk.1.2⟩⟩⟩⟩⟩⟩⟩)⟩
    have n2_ : Aside0 (Kd.R k62 62 (((((w164.setCell ⟨gb440,0,none⟩ (.slice A1_0 l1_0.length c1_0)).setCell ⟨gb440,1,none⟩ (.int .u64 a1_1)).setCell ⟨gb440,2,none⟩ (.int .u64 a1_2)).setCell ⟨gb440,3,none⟩ (.int .u64 a1_3)).setCell ⟨gb440,0,none⟩ (.slice none 0 0)) w.heap.size (fun k_ => (w.heap.size ≤ k_) ∧ nB k_ Ao47 t430.length co47) (.slice Ao19 t419.length co19) t419):=⟨by (with_reducible repeat (first|apply zA|apply zN|apply zD));exact aM (aY (p:=⟨gb440,0,none⟩) (aY (p:=⟨gb440,3,none⟩) (aY (p:=⟨gb440,2,none⟩) (aY (p:=⟨gb440,1,none⟩) (aY (p:=⟨gb440,0,none⟩) (aP HO_427000.out B440.out (by decide)) (fun _ hk => hk.2) (.slice A1_0 l1_0.length c1_0)) (fun _ hk => hk.2) (.int .u64 a1_1)) (fun _ hk => hk.2) (.int .u64 a1_2)) (fun _ hk => hk.2) (.int .u64 a1_3)) (fun _ hk => hk.2) (.slice none 0 0)) (fun _ hk => ⟨hk.1.1,hk.1.2⟩)⟩
    have n3_ : Aside0 (Kd.R k62 62 (((((w164.setCell ⟨gb440,0,none⟩ (.slice A1_0 l1_0.length c1_0)).setCell ⟨gb440,1,none⟩ (.int .u64 a1_1)).setCell ⟨gb440,2,none⟩ (.int .u64 a1_2)).setCell ⟨gb440,3,none⟩ (.int .u64 a1_3)).setCell ⟨gb440,0,none⟩ (.slice none 0 0)) w.heap.size (fun k_ => (w.heap.size ≤ k_) ∧ nB k_ Ao19 t419.length co19) (.slice Ao47 t430.length co47) t430):=⟨by (with_reducible repeat (first|apply zA|apply zN|apply zD));exact aM (aY (p:=⟨gb440,0,none⟩) (aY (p:=⟨gb440,3,none⟩) (aY (p:=⟨gb440,2,none⟩) (aY (p:=⟨gb440,1,none⟩) (aY (p:=⟨gb440,0,none⟩) (aP HO_438000.out B440.out (by decide)) (fun _ hk => hk.2) (.slice A1_0 l1_0.length c1_0)) (fun _ hk => hk.2) (.int .u64 a1_1)) (fun _ hk => hk.2) (.int .u64 a1_2)) (fun _ hk => hk.2) (.int .u64 a1_3)) (fun _ hk => hk.2) (.slice none 0 0)) (fun _ hk => ⟨hk.1.1,hk.1.2⟩)⟩
    have n4_ : Aside0 ((((((w164.setCell ⟨gb440,0,none⟩ (.slice A1_0 l1_0.length c1_0)).setCell ⟨gb440,1,none⟩ (.int .u64 a1_1)).setCell ⟨gb440,2,none⟩ (.int .u64 a1_2)).setCell ⟨gb440,3,none⟩ (.int .u64 a1_3)).setCell ⟨gb440,0,none⟩ (.slice none 0 0)).heap[gb412]? = some (.cells #[.slice A0_0 l0_0.length c0_0,.int .u64 a0_1,.int .u64 a0_2,.int .u64 a0_3] 54 (0,0))):=⟨by (with_reducible repeat (first|refine bN ?_ _|refine bD ?_|refine bA ?_ _));refine aX ?_ N412_440.out _;(with_reducible repeat (first|refine bN ?_ _|refine bD ?_|refine bA ?_ _));refine aX ?_ N412_440.out _;(with_reducible repeat (first|refine bN ?_ _|refine bD ?_|refine bA ?_ _));refine aX ?_ N412_440.out _;(with_reducible repeat (first|refine bN ?_ _|refine bD ?_|refine bA ?_ _));refine aX ?_ N412_440.out _;(with_reducible repeat (first|refine bN ?_ _|refine bD ?_|refine bA ?_ _));refine aX ?_ N412_440.out _;(with_reducible repeat (first|refine bN ?_ _|refine bD ?_|refine bA ?_ _));exact B412.out⟩
    have n5_ : Aside0 ((((((w164.setCell ⟨gb440,0,none⟩ (.slice A1_0 l1_0.length c1_0)).setCell ⟨gb440,1,none⟩ (.int .u64 a1_1)).setCell ⟨gb440,2,none⟩ (.int .u64 a1_2)).setCell ⟨gb440,3,none⟩ (.int .u64 a1_3)).setCell ⟨gb440,0,none⟩ (.slice none 0 0)).heap[gb413]? = some (.cells #[.slice A1_0 l1_0.length c1_0,.int .u64 a1_1,.int .u64 a1_2,.int .u64 a1_3] 54 (0,0))):=⟨by (with_reducible repeat (first|refine bN ?_ _|refine bD ?_|refine bA ?_ _));refine aX ?_ N413_440.out _;(with_reducible repeat (first|refine bN ?_ _|refine bD ?_|refine bA ?_ _));refine aX ?_ N413_440.out _;(with_reducible repeat (first|refine bN ?_ _|refine bD ?_|refine bA ?_ _));refine aX ?_ N413_440.out _;(with_reducible repeat (first|refine bN ?_ _|refine bD ?_|refine bA ?_ _));refine aX ?_ N413_440.out _;(with_reducible repeat (first|refine bN ?_ _|refine bD ?_|refine bA ?_ _));refine aX ?_ N413_440.out _;(with_reducible repeat (first|refine bN ?_ _|refine bD ?_|refine bA ?_ _));exact B413.out⟩
    have n6_ : Aside0 ((((((w164.setCell ⟨gb440,0,none⟩ (.slice A1_0 l1_0.length c1_0)).setCell ⟨gb440,1,none⟩ (.int .u64 a1_1)).setCell ⟨gb440,2,none⟩ (.int .u64 a1_2)).setCell ⟨gb440,3,none⟩ (.int .u64 a1_3)).setCell ⟨gb440,0,none⟩ (.slice none 0 0)).heap[gb426]? = some (.cells #[.slice Ao19 t419.length co19,.int .u64 t422,.int .u64 t423,.int .u64 t424] 57 (0,0))):=⟨by (with_reducible repeat (first|refine bN ?_ _|refine bD ?_|refine bA ?_ _));refine aX ?_ N426_440.out _;(with_reducible repeat (first|refine bN ?_ _|refine bD ?_|refine bA ?_ _));refine aX ?_ N426_440.out _;(with_reducible repeat (first|refine bN ?_ _|refine bD ?_|refine bA ?_ _));refine aX ?_ N426_440.out _;(with_reducible repeat (first|refine bN ?_ _|refine bD ?_|refine bA ?_ _));refine aX ?_ N426_440.out _;(with_reducible repeat (first|refine bN ?_ _|refine bD ?_|refine bA ?_ _));refine aX ?_ N426_440.out _;(with_reducible repeat (first|refine bN ?_ _|refine bD ?_|refine bA ?_ _));exact B426.out⟩
    have n7_ : Aside0 ((((((w164.setCell ⟨gb440,0,none⟩ (.slice A1_0 l1_0.length c1_0)).setCell ⟨gb440,1,none⟩ (.int .u64 a1_1)).setCell ⟨gb440,2,none⟩ (.int .u64 a1_2)).setCell ⟨gb440,3,none⟩ (.int .u64 a1_3)).setCell ⟨gb440,0,none⟩ (.slice none 0 0)).heap[gb437]? = some (.cells #[.slice Ao47 t430.length co47,.int .u64 t433,.int .u64 t434,.int .u64 t435] 57 (0,0))):=⟨by (with_reducible repeat (first|refine bN ?_ _|refine bD ?_|refine bA ?_ _));refine aX ?_ N437_440.out _;(with_reducible repeat (first|refine bN ?_ _|refine bD ?_|refine bA ?_ _));refine aX ?_ N437_440.out _;(with_reducible repeat (first|refine bN ?_ _|refine bD ?_|refine bA ?_ _));refine aX ?_ N437_440.out _;(with_reducible repeat (first|refine bN ?_ _|refine bD ?_|refine bA ?_ _));refine aX ?_ N437_440.out _;(with_reducible repeat (first|refine bN ?_ _|refine bD ?_|refine bA ?_ _));refine aX ?_ N437_440.out _;(with_reducible repeat (first|refine bN ?_ _|refine bD ?_|refine bA ?_ _));exact B437.out⟩
    have n8_ : Aside0 ((((((w164.setCell ⟨gb440,0,none⟩ (.slice A1_0 l1_0.length c1_0)).setCell ⟨gb440,1,none⟩ (.int .u64 a1_1)).setCell ⟨gb440,2,none⟩ (.int .u64 a1_2)).setCell ⟨gb440,3,none⟩ (.int .u64 a1_3)).setCell ⟨gb440,0,none⟩ (.slice none 0 0)).heap[gb440]? = some (.cells #[.slice none 0 0,.int .u64 a1_1,.int .u64 a1_2,.int .u64 a1_3] 54 (0,0))):=⟨by (with_reducible repeat (first|refine bN ?_ _|refine bD ?_|refine bA ?_ _));refine blk_put (cs:=#[.slice A1_0 l1_0.length c1_0,.int .u64 a1_1,.int .u64 a1_2,.int .u64 a1_3]) ?_ 0 _ rfl;(with_reducible repeat (first|refine bN ?_ _|refine bD ?_|refine bA ?_ _));refine blk_put (cs:=#[.slice A1_0 l1_0.length c1_0,.int .u64 a1_1,.int .u64 a1_2,.int .u64 0]) ?_ 3 _ rfl;(with_reducible repeat (first|refine bN ?_ _|refine bD ?_|refine bA ?_ _));refine blk_put (cs:=#[.slice A1_0 l1_0.length c1_0,.int .u64 a1_1,.int .u64 0,.int .u64 0]) ?_ 2 _ rfl;(with_reducible repeat (first|refine bN ?_ _|refine bD ?_|refine bA ?_ _));refine blk_put (cs:=#[.slice A1_0 l1_0.length c1_0,.int .u64 0,.int .u64 0,.int .u64 0]) ?_ 1 _ rfl;(with_reducible repeat (first|refine bN ?_ _|refine bD ?_|refine bA ?_ _));refine blk_put (cs:=#[.slice none 0 0,.int .u64 0,.int .u64 0,.int .u64 0]) ?_ 0 _ rfl;(with_reducible repeat (first|refine bN ?_ _|refine bD ?_|refine bA ?_ _));exact B440.out⟩
    have n9_ : Aside0 (Below w.heap.size w (((((w164.setCell ⟨gb440,0,none⟩ (.slice A1_0 l1_0.length c1_0)).setCell ⟨gb440,1,none⟩ (.int .u64 a1_1)).setCell ⟨gb440,2,none⟩ (.int .u64 a1_2)).setCell ⟨gb440,3,none⟩ (.int .u64 a1_3)).setCell ⟨gb440,0,none⟩ (.slice none 0 0))):=⟨by repeat (first|(with_reducible first|exact HB.out|apply aA|apply aW|apply aD|refine aS ?_ E412.out|refine aS ?_ E413.out|refine aS ?_ E426.out|refine aS ?_ E437.out|refine aS ?_ E440.out)|exact HB.out)⟩
    (try clear HO_413000)
    (try clear HO_414000)
    (try clear HO_427000)
    (try clear HO_438000)
    (try clear B412)
    (try clear B413)
    (try clear B426)
    (try clear B437)
    (try clear B440)
    (try clear HB)
    generalize (((((w164.setCell ⟨gb440,0,none⟩ (.slice A1_0 l1_0.length c1_0)).setCell ⟨gb440,1,none⟩ (.int .u64 a1_1)).setCell ⟨gb440,2,none⟩ (.int .u64 a1_2)).setCell ⟨gb440,3,none⟩ (.int .u64 a1_3)).setCell ⟨gb440,0,none⟩ (.slice none 0 0)) = w170 at n0_ n1_ n2_ n3_ n4_ n5_ n6_ n7_ n8_ n9_ ⊢
    have HO_413000:=n0_
    have HO_414000:=n1_
    have HO_427000:=n2_
    have HO_438000:=n3_
    have B412:=n4_
    have B413:=n5_
    have B426:=n6_
    have B437:=n7_
    have B440:=n8_
    have HB:=n9_
    clear n0_ n1_ n2_ n3_ n4_ n5_ n6_ n7_ n8_ n9_
    have n0_:=aK (Kd.V_drew HO_413000.out)
    have n1_:=aK (Kd.V_drew HO_414000.out)
    have n2_:=aK (Kd.R_drew HO_427000.out)
    have n3_:=aK (Kd.R_drew HO_438000.out)
    have n4_:=aK (blk_drew B412.out)
    have n5_:=aK (blk_drew B413.out)
    have n6_:=aK (blk_drew B426.out)
    have n7_:=aK (blk_drew B437.out)
    have n8_:=aK (blk_drew B440.out)
    have n9_:=aK (aD HB.out)
    clear HO_413000
    clear HO_414000
    clear HO_427000
    clear HO_438000
    clear B412
    clear B413
    clear B426
    clear B437
    clear B440
    clear HB
    have HO_413000:=n0_
    have HO_414000:=n1_
    have HO_427000:=n2_
    have HO_438000:=n3_
    have B412:=n4_
    have B413:=n5_
    have B426:=n6_
    have B437:=n7_
    have B440:=n8_
    have HB:=n9_
    clear n0_ n1_ n2_ n3_ n4_ n5_ n6_ n7_ n8_ n9_
    refine start_ (n:=21) (S:=fun w' => w'.cell? ⟨gb413,0,none⟩ = some (.slice A1_0 l1_0.length c1_0) ∧ w'.cell? ⟨gb413,1,none⟩ = some (.int .u64 a1_1) ∧ w'.cell? ⟨gb413,2,none⟩ = some (.int .u64 a1_2) ∧ w'.cell? ⟨gb413,3,none⟩ = some (.int .u64 a1_3) ∧ w'.cell? ⟨gb426,0,none⟩ = some (.slice Ao19 t419.length co19) ∧ w'.cell? ⟨gb426,1,none⟩ = some (.int .u64 t422) ∧ w'.cell? ⟨gb426,2,none⟩ = some (.int .u64 t423) ∧ w'.cell? ⟨gb426,3,none⟩ = some (.int .u64 t424)) (ds:=[]) #[ff,ff,ff,ff,ff,ff,ff,ff,ff,ff,ff,ff,ff,ff,ff,ff,ff,ff,ff,ff,ff] (by kernel_rfl) rfl rfl ⟨(aC B413.out 0).trans rfl,(aC B413.out 1).trans rfl,(aC B413.out 2).trans rfl,(aC B413.out 3).trans rfl,(aC B426.out 0).trans rfl,(aC B426.out 1).trans rfl,(aC B426.out 2).trans rfl,(aC B426.out 3).trans rfl⟩ (fun hHeld => ?_);refine with_tabW tab14 bits14 (fun HT_ HW_ => ?_)
    generalize w170.drew = w171 at HO_413000 HO_414000 HO_427000 HO_438000 B412 B413 B426 B437 B440 HB hHeld ⊢
    refine pure_ (i:=0) (N:=some 118) (v:=?_) (a':=?_) #[tt,ff,ff,ff,ff,ff,ff,ff,ff,ff,ff,ff,ff,ff,ff,ff,ff,ff,ff,ff,ff] rfl rfl (any_of HT_.out (by kernel_rfl)) (fun _ _ _ h => h) (Or.inl ⟨by rfl,?_⟩) ?_ ?_
    rotate_left
    ·intro w'
     go_simp
     with_reducible rfl
    rotate_left
    ·simp only [Act.put,sA,sZ,sS,i64_w,i32_w]
     rfl
    refine pure_ (i:=2) (N:=some 120) (v:=?_) (a':=?_) #[tt,ff,tt,ff,ff,ff,ff,ff,ff,ff,ff,ff,ff,ff,ff,ff,ff,ff,ff,ff,ff] rfl rfl (any_of HT_.out (by kernel_rfl)) (fun _ _ _ h => h) (Or.inl ⟨by rfl,?_⟩) ?_ ?_
    rotate_left
    ·intro w'
     go_simp
     with_reducible rfl
    rotate_left
    ·simp only [Act.put,sA,sZ,sS,i64_w,i32_w]
     rfl
    refine pure_ (i:=5) (N:=some 123) (v:=?_) (a':=?_) #[tt,ff,tt,ff,ff,tt,ff,ff,ff,ff,ff,ff,ff,ff,ff,ff,ff,ff,ff,ff,ff] rfl rfl (any_of HT_.out (by kernel_rfl)) (fun _ _ _ h => h) (Or.inl ⟨by rfl,?_⟩) ?_ ?_
    rotate_left
    ·intro w'
     go_simp
     with_reducible rfl
    rotate_left
    ·simp only [Act.put,sA,sZ,sS,i64_w,i32_w]
     rfl
    refine pure_ (i:=7) (N:=some 125) (v:=?_) (a':=?_) #[tt,ff,tt,ff,ff,tt,ff,tt,ff,ff,ff,ff,ff,ff,ff,ff,ff,ff,ff,ff,ff] rfl rfl (any_of HT_.out (by kernel_rfl)) (fun _ _ _ h => h) (Or.inl ⟨by rfl,?_⟩) ?_ ?_
    rotate_left
    ·intro w'
     go_simp
     with_reducible rfl
    rotate_left
    ·simp only [Act.put,sA,sZ,sS,i64_w,i32_w]
     rfl
    refine pure_ (i:=10) (N:=some 128) (v:=?_) (a':=?_) #[tt,ff,tt,ff,ff,tt,ff,tt,ff,ff,tt,ff,ff,ff,ff,ff,ff,ff,ff,ff,ff] rfl rfl (any_of HT_.out (by kernel_rfl)) (fun _ _ _ h => h) (Or.inl ⟨by rfl,?_⟩) ?_ ?_
    rotate_left
    ·intro w'
     go_simp
     with_reducible rfl
    rotate_left
    ·simp only [Act.put,sA,sZ,sS,i64_w,i32_w]
     rfl
    refine pure_ (i:=12) (N:=some 130) (v:=?_) (a':=?_) #[tt,ff,tt,ff,ff,tt,ff,tt,ff,ff,tt,ff,tt,ff,ff,ff,ff,ff,ff,ff,ff] rfl rfl (any_of HT_.out (by kernel_rfl)) (fun _ _ _ h => h) (Or.inl ⟨by rfl,?_⟩) ?_ ?_
    rotate_left
    ·intro w'
     go_simp
     with_reducible rfl
    rotate_left
    ·simp only [Act.put,sA,sZ,sS,i64_w,i32_w]
     rfl
    refine take_ (i:=1) (N:=some 119) (v:=?_) (a':=?_) #[tt,tt,tt,ff,ff,tt,ff,tt,ff,ff,tt,ff,tt,ff,ff,ff,ff,ff,ff,ff,ff] rfl rfl (take_ofW HT_.out HW_.out (by kernel_rfl)) (fun _ _ _ h => h) (Or.inl ⟨by rfl,?_⟩) hHeld ?_ ?_
    rotate_left
    ·rintro w' ⟨s0,s1,s2,s3,s4,s5,s6,s7⟩
     go_simp
     with_reducible rfl
    rotate_left
    ·simp only [Act.put,sA,sZ,sS,i64_w,i32_w]
     rfl
    refine take_ (i:=3) (N:=some 121) (v:=?_) (a':=?_) #[tt,tt,tt,tt,ff,tt,ff,tt,ff,ff,tt,ff,tt,ff,ff,ff,ff,ff,ff,ff,ff] rfl rfl (take_ofW HT_.out HW_.out (by kernel_rfl)) (fun _ _ _ h => h) (Or.inl ⟨by rfl,?_⟩) hHeld ?_ ?_
    rotate_left
    ·rintro w' ⟨s0,s1,s2,s3,s4,s5,s6,s7⟩
     go_simp
     with_reducible rfl
    rotate_left
    ·simp only [Act.put,sA,sZ,sS,i64_w,i32_w]
     rfl
    refine pure_ (i:=4) (N:=some 122) (v:=?_) (a':=?_) #[tt,tt,tt,tt,tt,tt,ff,tt,ff,ff,tt,ff,tt,ff,ff,ff,ff,ff,ff,ff,ff] rfl rfl (any_of HT_.out (by kernel_rfl)) (fun _ _ _ h => h) (Or.inl ⟨by rfl,?_⟩) ?_ ?_
    rotate_left
    ·intro w'
     go_simp
     with_reducible rfl
    rotate_left
    ·simp only [Act.put,sA,sZ,sS,i64_w,i32_w]
     rfl
    refine pure_ (i:=15) (N:=some 133) (v:=?_) (a':=?_) #[tt,tt,tt,tt,tt,tt,ff,tt,ff,ff,tt,ff,tt,ff,ff,tt,ff,ff,ff,ff,ff] rfl rfl (any_of HT_.out (by kernel_rfl)) (fun _ _ _ h => h) (Or.inl ⟨by rfl,?_⟩) ?_ ?_
    rotate_left
    ·intro w'
     go_simp
     with_reducible rfl
    rotate_left
    ·simp only [Act.put,sA,sZ,sS,i64_w,i32_w]
     rfl
    refine take_ (i:=6) (N:=some 124) (v:=?_) (a':=?_) #[tt,tt,tt,tt,tt,tt,tt,tt,ff,ff,tt,ff,tt,ff,ff,tt,ff,ff,ff,ff,ff] rfl rfl (take_ofW HT_.out HW_.out (by kernel_rfl)) (fun _ _ _ h => h) (Or.inl ⟨by rfl,?_⟩) hHeld ?_ ?_
    rotate_left
    ·rintro w' ⟨s0,s1,s2,s3,s4,s5,s6,s7⟩
     go_simp
     with_reducible rfl
    rotate_left
    ·simp only [Act.put,sA,sZ,sS,i64_w,i32_w]
     rfl
    refine take_ (i:=8) (N:=some 126) (v:=?_) (a':=?_) #[tt,tt,tt,tt,tt,tt,tt,tt,tt,ff,tt,ff,tt,ff,ff,tt,ff,ff,ff,ff,ff] rfl rfl (take_ofW HT_.out HW_.out (by kernel_rfl)) (fun _ _ _ h => h) (Or.inl ⟨by rfl,?_⟩) hHeld ?_ ?_
    rotate_left
    ·rintro w' ⟨s0,s1,s2,s3,s4,s5,s6,s7⟩
     go_simp
     with_reducible rfl
    rotate_left
    ·simp only [Act.put,sA,sZ,sS,i64_w,i32_w]
     rfl
    refine pure_ (i:=9) (N:=some 127) (v:=?_) (a':=?_) #[tt,tt,tt,tt,tt,tt,tt,tt,tt,tt,tt,ff,tt,ff,ff,tt,ff,ff,ff,ff,ff] rfl rfl (any_of HT_.out (by kernel_rfl)) (fun _ _ _ h => h) (Or.inl ⟨by rfl,?_⟩) ?_ ?_
    rotate_left
    ·intro w'
     go_simp
     with_reducible rfl
    rotate_left
    ·simp only [Act.put,sA,sZ,sS,i64_w,i32_w]
     rfl
    refine take_ (i:=11) (N:=some 129) (v:=?_) (a':=?_) #[tt,tt,tt,tt,tt,tt,tt,tt,tt,tt,tt,tt,tt,ff,ff,tt,ff,ff,ff,ff,ff] rfl rfl (take_ofW HT_.out HW_.out (by kernel_rfl)) (fun _ _ _ h => h) (Or.inl ⟨by rfl,?_⟩) hHeld ?_ ?_
    rotate_left
    ·rintro w' ⟨s0,s1,s2,s3,s4,s5,s6,s7⟩
     go_simp
     with_reducible rfl
    rotate_left
    ·simp only [Act.put,sA,sZ,sS,i64_w,i32_w]
     rfl
    refine take_ (i:=13) (N:=some 131) (v:=?_) (a':=?_) #[tt,tt,tt,tt,tt,tt,tt,tt,tt,tt,tt,tt,tt,tt,ff,tt,ff,ff,ff,ff,ff] rfl rfl (take_ofW HT_.out HW_.out (by kernel_rfl)) (fun _ _ _ h => h) (Or.inl ⟨by rfl,?_⟩) hHeld ?_ ?_
    rotate_left
    ·rintro w' ⟨s0,s1,s2,s3,s4,s5,s6,s7⟩
     go_simp
     with_reducible rfl
    rotate_left
    ·simp only [Act.put,sA,sZ,sS,i64_w,i32_w]
     rfl
    refine pure_ (i:=14) (N:=some 132) (v:=?_) (a':=?_) #[tt,tt,tt,tt,tt,tt,tt,tt,tt,tt,tt,tt,tt,tt,tt,tt,ff,ff,ff,ff,ff] rfl rfl (any_of HT_.out (by kernel_rfl)) (fun _ _ _ h => h) (Or.inl ⟨by rfl,?_⟩) ?_ ?_
    rotate_left
    ·intro w'
     go_simp
     with_reducible rfl
    rotate_left
    ·simp only [Act.put,sA,sZ,sS,i64_w,i32_w]
     rfl
    refine one_ (i:=16) (N:=none) #[tt,tt,tt,tt,tt,tt,tt,tt,tt,tt,tt,tt,tt,tt,tt,tt,tt,ff,ff,ff,ff] rfl rfl (one_of HT_.out (by kernel_rfl)) (by decide) (fun K hK => ?_)
    have hs172 : w171.cell? ⟨gb440,1,none⟩ = some (.int .u64 a1_1):=(aC B440.out 1).trans rfl
    have hfs172:=aF B440.out 1
    have hns172_0:=N412_440.out
    have hns172_1:=N413_440.out
    have hns172_2:=N426_440.out
    have hns172_3:=N437_440.out
    have hms172_0:=N440_412.out
    have hms172_1:=N440_413.out
    have hms172_2:=N440_426.out
    have hms172_3:=N440_437.out
    refine skip_ (w1:=?_) (by rfl) rfl ?_ ?_
    rotate_left
    ·go_simp
     rfl
    refine hK.out _ _ ⟨((cell_far (p:=⟨gb440,_,none⟩) N413_440.out _).trans (hHeld.1)),((cell_far (p:=⟨gb440,_,none⟩) N413_440.out _).trans (hHeld.2.1)),((cell_far (p:=⟨gb440,_,none⟩) N413_440.out _).trans (hHeld.2.2.1)),((cell_far (p:=⟨gb440,_,none⟩) N413_440.out _).trans (hHeld.2.2.2.1)),((cell_far (p:=⟨gb440,_,none⟩) N426_440.out _).trans (hHeld.2.2.2.2.1)),((cell_far (p:=⟨gb440,_,none⟩) N426_440.out _).trans (hHeld.2.2.2.2.2.1)),((cell_far (p:=⟨gb440,_,none⟩) N426_440.out _).trans (hHeld.2.2.2.2.2.2.1)),((cell_far (p:=⟨gb440,_,none⟩) N426_440.out _).trans (hHeld.2.2.2.2.2.2.2))⟩ (fun hHeld => ?_)
    clear hK K
    refine pure_ (i:=17) (N:=some 134) (v:=?_) (a':=?_) #[tt,tt,tt,tt,tt,tt,tt,tt,tt,tt,tt,tt,tt,tt,tt,tt,tt,tt,ff,ff,ff] rfl rfl (any_of HT_.out (by kernel_rfl)) (fun _ _ _ h => h) (Or.inl ⟨by rfl,?_⟩) ?_ ?_
    rotate_left
    ·intro w'
     go_simp
     with_reducible rfl
    rotate_left
    ·simp only [Act.put,sA,sZ,sS,i64_w,i32_w]
     rfl
    refine one_ (i:=18) (N:=none) #[tt,tt,tt,tt,tt,tt,tt,tt,tt,tt,tt,tt,tt,tt,tt,tt,tt,tt,tt,ff,ff] rfl rfl (one_of HT_.out (by kernel_rfl)) (by decide) (fun K hK => ?_)
    have hs173 : w171.cell? ⟨gb440,2,none⟩ = some (.int .u64 a1_2):=(aC B440.out 2).trans rfl
    have hfs173:=aF B440.out 2
    have hns173_0:=N412_440.out
    have hns173_1:=N413_440.out
    have hns173_2:=N426_440.out
    have hns173_3:=N437_440.out
    have hms173_0:=N440_412.out
    have hms173_1:=N440_413.out
    have hms173_2:=N440_426.out
    have hms173_3:=N440_437.out
    refine skip_ (w1:=?_) (by rfl) rfl ?_ ?_
    rotate_left
    ·go_simp
     rfl
    refine hK.out _ _ ⟨((cell_far (p:=⟨gb440,_,none⟩) N413_440.out _).trans (hHeld.1)),((cell_far (p:=⟨gb440,_,none⟩) N413_440.out _).trans (hHeld.2.1)),((cell_far (p:=⟨gb440,_,none⟩) N413_440.out _).trans (hHeld.2.2.1)),((cell_far (p:=⟨gb440,_,none⟩) N413_440.out _).trans (hHeld.2.2.2.1)),((cell_far (p:=⟨gb440,_,none⟩) N426_440.out _).trans (hHeld.2.2.2.2.1)),((cell_far (p:=⟨gb440,_,none⟩) N426_440.out _).trans (hHeld.2.2.2.2.2.1)),((cell_far (p:=⟨gb440,_,none⟩) N426_440.out _).trans (hHeld.2.2.2.2.2.2.1)),((cell_far (p:=⟨gb440,_,none⟩) N426_440.out _).trans (hHeld.2.2.2.2.2.2.2))⟩ (fun hHeld => ?_)
    clear hK K
    refine pure_ (i:=19) (N:=some 135) (v:=?_) (a':=?_) #[tt,tt,tt,tt,tt,tt,tt,tt,tt,tt,tt,tt,tt,tt,tt,tt,tt,tt,tt,tt,ff] rfl rfl (any_of HT_.out (by kernel_rfl)) (fun _ _ _ h => h) (Or.inl ⟨by rfl,?_⟩) ?_ ?_
    rotate_left
    ·intro w'
     go_simp
     with_reducible rfl
    rotate_left
    ·simp only [Act.put,sA,sZ,sS,i64_w,i32_w]
     rfl
    refine one_ (i:=20) (N:=none) #[tt,tt,tt,tt,tt,tt,tt,tt,tt,tt,tt,tt,tt,tt,tt,tt,tt,tt,tt,tt,tt] rfl rfl (one_of HT_.out (by kernel_rfl)) (by decide) (fun K hK => ?_)
    have hs174 : w171.cell? ⟨gb440,3,none⟩ = some (.int .u64 a1_3):=(aC B440.out 3).trans rfl
    have hfs174:=aF B440.out 3
    have hns174_0:=N412_440.out
    have hns174_1:=N413_440.out
    have hns174_2:=N426_440.out
    have hns174_3:=N437_440.out
    have hms174_0:=N440_412.out
    have hms174_1:=N440_413.out
    have hms174_2:=N440_426.out
    have hms174_3:=N440_437.out
    refine skip_ (w1:=?_) (by rfl) rfl ?_ ?_
    rotate_left
    ·go_simp
     rfl
    refine hK.out _ _ ⟨((cell_far (p:=⟨gb440,_,none⟩) N413_440.out _).trans (hHeld.1)),((cell_far (p:=⟨gb440,_,none⟩) N413_440.out _).trans (hHeld.2.1)),((cell_far (p:=⟨gb440,_,none⟩) N413_440.out _).trans (hHeld.2.2.1)),((cell_far (p:=⟨gb440,_,none⟩) N413_440.out _).trans (hHeld.2.2.2.1)),((cell_far (p:=⟨gb440,_,none⟩) N426_440.out _).trans (hHeld.2.2.2.2.1)),((cell_far (p:=⟨gb440,_,none⟩) N426_440.out _).trans (hHeld.2.2.2.2.2.1)),((cell_far (p:=⟨gb440,_,none⟩) N426_440.out _).trans (hHeld.2.2.2.2.2.2.1)),((cell_far (p:=⟨gb440,_,none⟩) N426_440.out _).trans (hHeld.2.2.2.2.2.2.2))⟩ (fun hHeld => ?_)
    clear hK K
    refine done_ (done_of HT_.out (by kernel_rfl)) ?_
    have hnb175:=N426_412.out
    have hnc175:=N412_426.out
    have hnb176:=N426_437.out
    have hnc176:=N437_426.out
    have z177_0 : w171.cell? ⟨gb426,0,none⟩ = some (.slice Ao19 t419.length co19):=(aC B426.out 0).trans rfl
    have z177_1 : w171.cell? ⟨gb426,1,none⟩ = some (.int .u64 t422):=(aC B426.out 1).trans rfl
    have z177_2 : w171.cell? ⟨gb426,2,none⟩ = some (.int .u64 t423):=(aC B426.out 2).trans rfl
    have z177_3 : w171.cell? ⟨gb426,3,none⟩ = some (.int .u64 t424):=(aC B426.out 3).trans rfl
    have f177_0:=aF B426.out 0
    have f177_1:=aF B426.out 1
    have f177_2:=aF B426.out 2
    have f177_3:=aF B426.out 3
    have z178_0 : w171.cell? ⟨gb440,0,none⟩ = some (.slice none 0 0):=(aC B440.out 0).trans rfl
    have z178_1 : w171.cell? ⟨gb440,1,none⟩ = some (.int .u64 a1_1):=(aC B440.out 1).trans rfl
    have z178_2 : w171.cell? ⟨gb440,2,none⟩ = some (.int .u64 a1_2):=(aC B440.out 2).trans rfl
    have z178_3 : w171.cell? ⟨gb440,3,none⟩ = some (.int .u64 a1_3):=(aC B440.out 3).trans rfl
    have f178_0:=aF B440.out 0
    have f178_1:=aF B440.out 1
    have f178_2:=aF B440.out 2
    have f178_3:=aF B440.out 3
    try go_wp2_with (first|((with_reducible refine gate_callee (f:=32) rfl ?_);refine goesL_ (some 139) rfl rfl Try.func32 (by kernel_rfl) rfl #[.agg #[.slice Ao19 t419.length co19,.int .u64 t422,.int .u64 t423,.int .u64 t424],.agg #[.slice none 0 0,.int .u64 ji153,.int .u64 ji154,.int .u64 ji155]] rfl (by (try simp only [List.map_toArray,List.map_cons,List.map_nil]);first|done|(simp only [hji153,hji154,hji155];rfl)|rfl|(simp only [List.length_drop,List.length_take];rfl)) ?_;(refine calls_of_args (args':=#[.agg #[.slice Ao19 t419.length co19,.int .u64 t422,.int .u64 t423,.int .u64 t424],.agg #[.slice none (([] : List (S62))).length 0,.int .u64 ji153,.int .u64 ji154,.int .u64 ji155]]) (by rfl) ?_;with_reducible refine (edit_Apply.calls _ _ t419 t422 t423 t424 _ _ ([] : List (S62)) ji153 ji154 ji155 t441 t444 t445 t446 t447 _ ?side1 ?side2 ?side3 ?side4 A156.out).mono ?_);(case side1 => refine (aQ (e:=62) (base:=w.heap.size) (ok:=fun k_ => ((w.heap.size ≤ k_) ∧ nB k_ Ao47 t430.length co47)) (n:=t419.length) (c:=co19) ?_).2.2;exact (by (with_reducible repeat (first|apply zA|apply zN|apply zD));exact (aM (aY (p:=⟨gb440,3,none⟩) (aY (p:=⟨gb440,2,none⟩) (aY (p:=⟨gb440,1,none⟩) (aP HO_427000.out B440.out (by decide)) (fun _ hk => hk.2) (.int .u64 ji153)) (fun _ hk => hk.2) (.int .u64 ji154)) (fun _ hk => hk.2) (.int .u64 ji155)) (fun _ h_ => h_.1))));(case side2 => exact (aQ HO_427000.out).2.1);(case side3 => exact Kd.C_nil _ _);(case side4 => exact Nat.le_refl _);rintro e w179 ⟨v442,rfl,ho0,hb⟩;refine ⟨_,rfl,?_⟩;have n0_:=aK (aV (by (with_reducible repeat (first|apply vA|apply vN|apply vD));exact (aN (aU (p:=⟨gb440,3,none⟩) (aU (p:=⟨gb440,2,none⟩) (aU (p:=⟨gb440,1,none⟩) (aN HO_413000.out (fun k_ hk => (⟨hk,hk.2.2.2.2.2.2.2⟩ : _ ∧ k_ ≠ gb440))) (fun _ hk => hk.2) (.int .u64 ji153)) (fun _ hk => hk.2) (.int .u64 ji154)) (fun _ hk => hk.2) (.int .u64 ji155)) (fun _ h_ => h_.1))) (aJ ho0) hb);have n1_:=aK (aV (by (with_reducible repeat (first|apply vA|apply vN|apply vD));exact (aN (aU (p:=⟨gb440,3,none⟩) (aU (p:=⟨gb440,2,none⟩) (aU (p:=⟨gb440,1,none⟩) (aN HO_414000.out (fun k_ hk => (⟨hk,hk.2.2.2.2.2.2.2⟩ : _ ∧ k_ ≠ gb440))) (fun _ hk => hk.2) (.int .u64 ji153)) (fun _ hk => hk.2) (.int .u64 ji154)) (fun _ hk => hk.2) (.int .u64 ji155)) (fun _ h_ => h_.1))) (aJ ho0) hb);have n2_:=aK (Kd.R_elder' (by (with_reducible repeat (first|apply zA|apply zN|apply zD));exact (aM (aY (p:=⟨gb440,3,none⟩) (aY (p:=⟨gb440,2,none⟩) (aY (p:=⟨gb440,1,none⟩) (aP HO_427000.out B440.out (by decide)) (fun _ hk => hk.2) (.int .u64 ji153)) (fun _ hk => hk.2) (.int .u64 ji154)) (fun _ hk => hk.2) (.int .u64 ji155)) (fun _ h_ => h_.1))) (aJ ho0) hb);have n3_:=aK (Kd.R_elder' (by (with_reducible repeat (first|apply zA|apply zN|apply zD));exact (aM (aY (p:=⟨gb440,3,none⟩) (aY (p:=⟨gb440,2,none⟩) (aY (p:=⟨gb440,1,none⟩) (aP HO_438000.out B440.out (by decide)) (fun _ hk => hk.2) (.int .u64 ji153)) (fun _ hk => hk.2) (.int .u64 ji154)) (fun _ hk => hk.2) (.int .u64 ji155)) (fun _ h_ => h_.1))) (aJ ho0) hb);have n4_:=aK (Kd.R_lower (Kd.R_new' (Kd.R_new' (Kd.R_newM (M:=fun k_ => (w.heap.size ≤ k_)) ho0 (aZ (by repeat (first|(with_reducible first|exact HB.out|apply aA|apply aW|apply aD|refine aS ?_ E412.out|refine aS ?_ E413.out|refine aS ?_ E426.out|refine aS ?_ E437.out|refine aS ?_ E440.out)|exact HB.out))) (fun k_ h_ => h_)) (Kd.R_lt (by (with_reducible repeat (first|apply zA|apply zN|apply zD));exact (aM (aY (p:=⟨gb440,3,none⟩) (aY (p:=⟨gb440,2,none⟩) (aY (p:=⟨gb440,1,none⟩) (aP HO_427000.out B440.out (by decide)) (fun _ hk => hk.2) (.int .u64 ji153)) (fun _ hk => hk.2) (.int .u64 ji154)) (fun _ hk => hk.2) (.int .u64 ji155)) (fun _ h_ => h_.1))))) (Kd.R_lt (by (with_reducible repeat (first|apply zA|apply zN|apply zD));exact (aM (aY (p:=⟨gb440,3,none⟩) (aY (p:=⟨gb440,2,none⟩) (aY (p:=⟨gb440,1,none⟩) (aP HO_438000.out B440.out (by decide)) (fun _ hk => hk.2) (.int .u64 ji153)) (fun _ hk => hk.2) (.int .u64 ji154)) (fun _ hk => hk.2) (.int .u64 ji155)) (fun _ h_ => h_.1))))) (aZ (by repeat (first|(with_reducible first|exact HB.out|apply aA|apply aW|apply aD|refine aS ?_ E412.out|refine aS ?_ E413.out|refine aS ?_ E426.out|refine aS ?_ E437.out|refine aS ?_ E440.out)|exact HB.out))));have n5_:=aK (aB (g:=gb412) (o:=.cells #[.slice A0_0 l0_0.length c0_0,.int .u64 a0_1,.int .u64 a0_2,.int .u64 a0_3] 54 (0,0)) (by (with_reducible repeat (first|refine bN ?_ _|refine bD ?_|refine bA ?_ _));refine aX ?_ N412_440.out _;(with_reducible repeat (first|refine bN ?_ _|refine bD ?_|refine bA ?_ _));refine aX ?_ N412_440.out _;(with_reducible repeat (first|refine bN ?_ _|refine bD ?_|refine bA ?_ _));refine aX ?_ N412_440.out _;(with_reducible repeat (first|refine bN ?_ _|refine bD ?_|refine bA ?_ _));exact B412.out) hb);have n6_:=aK (aB (g:=gb413) (o:=.cells #[.slice A1_0 l1_0.length c1_0,.int .u64 a1_1,.int .u64 a1_2,.int .u64 a1_3] 54 (0,0)) (by (with_reducible repeat (first|refine bN ?_ _|refine bD ?_|refine bA ?_ _));refine aX ?_ N413_440.out _;(with_reducible repeat (first|refine bN ?_ _|refine bD ?_|refine bA ?_ _));refine aX ?_ N413_440.out _;(with_reducible repeat (first|refine bN ?_ _|refine bD ?_|refine bA ?_ _));refine aX ?_ N413_440.out _;(with_reducible repeat (first|refine bN ?_ _|refine bD ?_|refine bA ?_ _));exact B413.out) hb);have n7_:=aK (aB (g:=gb426) (o:=.cells #[.slice Ao19 t419.length co19,.int .u64 t422,.int .u64 t423,.int .u64 t424] 57 (0,0)) (by (with_reducible repeat (first|refine bN ?_ _|refine bD ?_|refine bA ?_ _));refine aX ?_ N426_440.out _;(with_reducible repeat (first|refine bN ?_ _|refine bD ?_|refine bA ?_ _));refine aX ?_ N426_440.out _;(with_reducible repeat (first|refine bN ?_ _|refine bD ?_|refine bA ?_ _));refine aX ?_ N426_440.out _;(with_reducible repeat (first|refine bN ?_ _|refine bD ?_|refine bA ?_ _));exact B426.out) hb);have n8_:=aK (aB (g:=gb437) (o:=.cells #[.slice Ao47 t430.length co47,.int .u64 t433,.int .u64 t434,.int .u64 t435] 57 (0,0)) (by (with_reducible repeat (first|refine bN ?_ _|refine bD ?_|refine bA ?_ _));refine aX ?_ N437_440.out _;(with_reducible repeat (first|refine bN ?_ _|refine bD ?_|refine bA ?_ _));refine aX ?_ N437_440.out _;(with_reducible repeat (first|refine bN ?_ _|refine bD ?_|refine bA ?_ _));refine aX ?_ N437_440.out _;(with_reducible repeat (first|refine bN ?_ _|refine bD ?_|refine bA ?_ _));exact B437.out) hb);have n9_:=aK (aB (g:=gb440) (o:=.cells #[.slice none 0 0,.int .u64 ji153,.int .u64 ji154,.int .u64 ji155] 54 (0,0)) (by (with_reducible repeat (first|refine bN ?_ _|refine bD ?_|refine bA ?_ _));refine blk_put (cs:=#[.slice none 0 0,.int .u64 ji153,.int .u64 ji154,.int .u64 a1_3]) ?_ 3 _ rfl;(with_reducible repeat (first|refine bN ?_ _|refine bD ?_|refine bA ?_ _));refine blk_put (cs:=#[.slice none 0 0,.int .u64 ji153,.int .u64 a1_2,.int .u64 a1_3]) ?_ 2 _ rfl;(with_reducible repeat (first|refine bN ?_ _|refine bD ?_|refine bA ?_ _));refine blk_put (cs:=#[.slice none 0 0,.int .u64 a1_1,.int .u64 a1_2,.int .u64 a1_3]) ?_ 1 _ rfl;(with_reducible repeat (first|refine bN ?_ _|refine bD ?_|refine bA ?_ _));exact B440.out) hb);have n10_:=aK (aT (by repeat (first|(with_reducible first|exact HB.out|apply aA|apply aW|apply aD|refine aS ?_ E412.out|refine aS ?_ E413.out|refine aS ?_ E426.out|refine aS ?_ E437.out|refine aS ?_ E440.out)|exact HB.out)) hb);clear HO_413000;clear HO_414000;clear HO_427000;clear HO_438000;clear B412;clear B413;clear B426;clear B437;clear B440;clear HB;have HO_413000:=n0_;have HO_414000:=n1_;have HO_427000:=n2_;have HO_438000:=n3_;have O443:=n4_;have B412:=n5_;have B413:=n6_;have B426:=n7_;have B437:=n8_;have B440:=n9_;have HB:=n10_;clear n0_ n1_ n2_ n3_ n4_ n5_ n6_ n7_ n8_ n9_ n10_;(try clear hb);skip;(try clear ho0))|((with_reducible refine gate_dst (N:=12) rfl ?_);(try (refine gate_guard (by rfl) ?_;dsimp only));refine box_event ?hg (N:=12) ?hd (cs:=#[.slice none 0 0,.int .u64 0,.int .u64 0,.int .u64 0]) (t:=57) ?hr ?_;(case hd => rfl);(case hg => rfl);(case hr => first|(go_simp;done)|(go_simp;rfl));intro gb448 hg w180 hbox hb;have n0_:=aK (Kd.V_below (Kd.V_elderB (by (with_reducible repeat (first|apply vA|apply vN|apply vD));exact HO_413000.out) gb448 (Nat.le_of_eq hg.symm)) hb);have n1_:=aK (Kd.V_below (Kd.V_elderB (by (with_reducible repeat (first|apply vA|apply vN|apply vD));exact HO_414000.out) gb448 (Nat.le_of_eq hg.symm)) hb);have n2_:=aK (Kd.R_below (by (with_reducible repeat (first|apply zA|apply zN|apply zD));exact HO_427000.out) hb);have n3_:=aK (Kd.R_below (by (with_reducible repeat (first|apply zA|apply zN|apply zD));exact HO_438000.out) hb);have n4_:=aK (Kd.R_below (by (with_reducible repeat (first|apply zA|apply zN|apply zD));exact O443.out) hb);have n5_:=aK (aB (g:=gb412) (o:=.cells #[.slice A0_0 l0_0.length c0_0,.int .u64 a0_1,.int .u64 a0_2,.int .u64 a0_3] 54 (0,0)) (by (with_reducible repeat (first|refine bN ?_ _|refine bD ?_|refine bA ?_ _));exact B412.out) hb);have n6_:=aK (aB (g:=gb413) (o:=.cells #[.slice A1_0 l1_0.length c1_0,.int .u64 a1_1,.int .u64 a1_2,.int .u64 a1_3] 54 (0,0)) (by (with_reducible repeat (first|refine bN ?_ _|refine bD ?_|refine bA ?_ _));exact B413.out) hb);have n7_:=aK (aB (g:=gb426) (o:=.cells #[.slice Ao19 t419.length co19,.int .u64 t422,.int .u64 t423,.int .u64 t424] 57 (0,0)) (by (with_reducible repeat (first|refine bN ?_ _|refine bD ?_|refine bA ?_ _));exact B426.out) hb);have n8_:=aK (aB (g:=gb437) (o:=.cells #[.slice Ao47 t430.length co47,.int .u64 t433,.int .u64 t434,.int .u64 t435] 57 (0,0)) (by (with_reducible repeat (first|refine bN ?_ _|refine bD ?_|refine bA ?_ _));exact B437.out) hb);have n9_:=aK (aB (g:=gb440) (o:=.cells #[.slice none 0 0,.int .u64 ji153,.int .u64 ji154,.int .u64 ji155] 54 (0,0)) (by (with_reducible repeat (first|refine bN ?_ _|refine bD ?_|refine bA ?_ _));exact B440.out) hb);have n10_:=aK (aT (by repeat (first|(with_reducible first|exact HB.out|apply aA|apply aW|apply aD|refine aS ?_ E412.out|refine aS ?_ E413.out|refine aS ?_ E426.out|refine aS ?_ E437.out|refine aS ?_ E440.out)|exact HB.out)) hb);have n11_:=aK (hbox);have n12_:=aK ((by rw [hg];exact (aZ (by repeat (first|(with_reducible first|exact HB.out|apply aA|apply aW|apply aD|refine aS ?_ E412.out|refine aS ?_ E413.out|refine aS ?_ E426.out|refine aS ?_ E437.out|refine aS ?_ E440.out)|exact HB.out))) : w.heap.size ≤ gb448));have n13_:=aK ((by rw [hg];exact (aZ (by repeat (first|(with_reducible first|exact HB.out|apply aA|apply aW|apply aD|refine aS ?_ E412.out|refine aS ?_ E413.out|refine aS ?_ E426.out|refine aS ?_ E437.out|refine aS ?_ E440.out)|exact HB.out))) : w.heap.size ≤ gb448));have n14_:=aK ((by rw [hg];exact Nat.ne_of_lt (blk_lt (g:=gb412) (o:=.cells #[.slice A0_0 l0_0.length c0_0,.int .u64 a0_1,.int .u64 a0_2,.int .u64 a0_3] 54 (0,0)) (by (with_reducible repeat (first|refine bN ?_ _|refine bD ?_|refine bA ?_ _));exact B412.out)) : gb412 ≠ gb448));have n15_:=aK ((by rw [hg];exact Nat.ne_of_gt (blk_lt (g:=gb412) (o:=.cells #[.slice A0_0 l0_0.length c0_0,.int .u64 a0_1,.int .u64 a0_2,.int .u64 a0_3] 54 (0,0)) (by (with_reducible repeat (first|refine bN ?_ _|refine bD ?_|refine bA ?_ _));exact B412.out)) : gb448 ≠ gb412));have n16_:=aK ((by rw [hg];exact Nat.ne_of_lt (blk_lt (g:=gb413) (o:=.cells #[.slice A1_0 l1_0.length c1_0,.int .u64 a1_1,.int .u64 a1_2,.int .u64 a1_3] 54 (0,0)) (by (with_reducible repeat (first|refine bN ?_ _|refine bD ?_|refine bA ?_ _));exact B413.out)) : gb413 ≠ gb448));have n17_:=aK ((by rw [hg];exact Nat.ne_of_gt (blk_lt (g:=gb413) (o:=.cells #[.slice A1_0 l1_0.length c1_0,.int .u64 a1_1,.int .u64 a1_2,.int .u64 a1_3] 54 (0,0)) (by (with_reducible repeat (first|refine bN ?_ _|refine bD ?_|refine bA ?_ _));exact B413.out)) : gb448 ≠ gb413));have n18_:=aK ((by rw [hg];exact Nat.ne_of_lt (blk_lt (g:=gb426) (o:=.cells #[.slice Ao19 t419.length co19,.int .u64 t422,.int .u64 t423,.int .u64 t424] 57 (0,0)) (by (with_reducible repeat (first|refine bN ?_ _|refine bD ?_|refine bA ?_ _));exact B426.out)) : gb426 ≠ gb448));have n19_:=aK ((by rw [hg];exact Nat.ne_of_gt (blk_lt (g:=gb426) (o:=.cells #[.slice Ao19 t419.length co19,.int .u64 t422,.int .u64 t423,.int .u64 t424] 57 (0,0)) (by (with_reducible repeat (first|refine bN ?_ _|refine bD ?_|refine bA ?_ _));exact B426.out)) : gb448 ≠ gb426));have n20_:=aK ((by rw [hg];exact Nat.ne_of_lt (blk_lt (g:=gb437) (o:=.cells #[.slice Ao47 t430.length co47,.int .u64 t433,.int .u64 t434,.int .u64 t435] 57 (0,0)) (by (with_reducible repeat (first|refine bN ?_ _|refine bD ?_|refine bA ?_ _));exact B437.out)) : gb437 ≠ gb448));have n21_:=aK ((by rw [hg];exact Nat.ne_of_gt (blk_lt (g:=gb437) (o:=.cells #[.slice Ao47 t430.length co47,.int .u64 t433,.int .u64 t434,.int .u64 t435] 57 (0,0)) (by (with_reducible repeat (first|refine bN ?_ _|refine bD ?_|refine bA ?_ _));exact B437.out)) : gb448 ≠ gb437));have n22_:=aK ((by rw [hg];exact Nat.ne_of_lt (blk_lt (g:=gb440) (o:=.cells #[.slice none 0 0,.int .u64 ji153,.int .u64 ji154,.int .u64 ji155] 54 (0,0)) (by (with_reducible repeat (first|refine bN ?_ _|refine bD ?_|refine bA ?_ _));exact B440.out)) : gb440 ≠ gb448));have n23_:=aK ((by rw [hg];exact Nat.ne_of_gt (blk_lt (g:=gb440) (o:=.cells #[.slice none 0 0,.int .u64 ji153,.int .u64 ji154,.int .u64 ji155] 54 (0,0)) (by (with_reducible repeat (first|refine bN ?_ _|refine bD ?_|refine bA ?_ _));exact B440.out)) : gb448 ≠ gb440));clear HO_413000;clear HO_414000;clear HO_427000;clear HO_438000;clear O443;clear B412;clear B413;clear B426;clear B437;clear B440;clear HB;have HO_413000:=n0_;have HO_414000:=n1_;have HO_427000:=n2_;have HO_438000:=n3_;have O443:=n4_;have B412:=n5_;have B413:=n6_;have B426:=n7_;have B437:=n8_;have B440:=n9_;have HB:=n10_;have B448:=n11_;have W448:=n12_;have E448:=n13_;have N412_448:=n14_;have N448_412:=n15_;have N413_448:=n16_;have N448_413:=n17_;have N426_448:=n18_;have N448_426:=n19_;have N437_448:=n20_;have N448_437:=n21_;have N440_448:=n22_;have N448_440:=n23_;clear n0_ n1_ n2_ n3_ n4_ n5_ n6_ n7_ n8_ n9_ n10_ n11_ n12_ n13_ n14_ n15_ n16_ n17_ n18_ n19_ n20_ n21_ n22_ n23_;clear hb hbox hg;obtain ⟨Ao181,co181,eo181⟩:=Kd.R_slice O443.out;subst eo181;have hnb182:=N448_412.out;have hnc182:=N412_448.out;have hnb183:=N448_413.out;have hnc183:=N413_448.out;have hnb184:=N448_426.out;have hnc184:=N426_448.out;have hnb185:=N448_437.out;have hnc185:=N437_448.out;have hnb186:=N448_440.out;have hnc186:=N440_448.out;have z187_0 : w180.cell? ⟨gb448,0,none⟩ = some (.slice none 0 0):=(aC B448.out 0).trans rfl;have z187_1 : w180.cell? ⟨gb448,1,none⟩ = some (.int .u64 0):=(aC B448.out 1).trans rfl;have z187_2 : w180.cell? ⟨gb448,2,none⟩ = some (.int .u64 0):=(aC B448.out 2).trans rfl;have z187_3 : w180.cell? ⟨gb448,3,none⟩ = some (.int .u64 0):=(aC B448.out 3).trans rfl;have f187_0:=aF B448.out 0;have f187_1:=aF B448.out 1;have f187_2:=aF B448.out 2;have f187_3:=aF B448.out 3;have z188_0 : w180.cell? ⟨gb440,0,none⟩ = some (.slice none 0 0):=(aC B440.out 0).trans rfl;have z188_1 : w180.cell? ⟨gb440,1,none⟩ = some (.int .u64 ji153):=(aC B440.out 1).trans rfl;have z188_2 : w180.cell? ⟨gb440,2,none⟩ = some (.int .u64 ji154):=(aC B440.out 2).trans rfl;have z188_3 : w180.cell? ⟨gb440,3,none⟩ = some (.int .u64 ji155):=(aC B440.out 3).trans rfl;have f188_0:=aF B440.out 0;have f188_1:=aF B440.out 1;have f188_2:=aF B440.out 2;have f188_3:=aF B440.out 3)|((with_reducible refine gate_callee (f:=33) rfl ?_);refine goesL_ (some 145) rfl rfl Try.func33 (by kernel_rfl) rfl #[.agg #[.slice none 0 0,.int .u64 ji153,.int .u64 ji154,.int .u64 ji155]] rfl (by (try simp only [List.map_toArray,List.map_cons,List.map_nil]);first|done|(simp only [hji153,hji154,hji155];rfl)|rfl|(simp only [List.length_drop,List.length_take];rfl)) ?_;(refine calls_of_args (args':=#[.agg #[.slice none (([] : List (S62))).length 0,.int .u64 ji153,.int .u64 ji154,.int .u64 ji155]]) (by rfl) ?_;with_reducible refine (edit_Right.calls kj148 _ _ ([] : List (S62)) ji153 ji154 ji155 t449 _ ?side1 ?side2 A157.out).mono ?_);(case side1 => exact Kd.C_nil _ _);(case side2 => exact Nat.le_refl _);rintro e w189 ⟨rfl,hb⟩;refine ⟨_,rfl,?_⟩;have n11_:=aK (aT (by repeat (first|(with_reducible first|exact HB.out|apply aA|apply aW|apply aD|refine aS ?_ E412.out|refine aS ?_ E413.out|refine aS ?_ E426.out|refine aS ?_ E437.out|refine aS ?_ E440.out|refine aS ?_ E448.out)|exact HB.out)) hb);clear HB;have HB:=n11_;clear n11_;(try clear hb))|(go_at_call 31;(with_reducible refine (ratlinelaw09_awake.calls  t450 _ A159.out).mono ?_);rintro e w190 ⟨rfl,hb⟩;have n11_:=aK (aT (by repeat (first|(with_reducible first|exact HB.out|apply aA|apply aW|apply aD|refine aS ?_ E412.out|refine aS ?_ E413.out|refine aS ?_ E426.out|refine aS ?_ E437.out|refine aS ?_ E440.out|refine aS ?_ E448.out)|exact HB.out)) hb);clear HB;have HB:=n11_;clear n11_;(try clear hb)))
    go_ret
    exact ⟨by first|rfl|(simp [errW_none,errW_some] <;> rfl)|(simp only [← hji153,← hji154,← hji155];first|rfl|(simp [errW_none,errW_some] <;> rfl))|(simp [*,errW_none,errW_some] <;> rfl),by repeat (first|(with_reducible first|exact HB.out|apply aA|apply aW|apply aD|refine aS ?_ E412.out|refine aS ?_ E413.out|refine aS ?_ E426.out|refine aS ?_ E437.out|refine aS ?_ E440.out|refine aS ?_ E448.out)|exact HB.out)⟩
   ·replace c152:=Bool.eq_false_iff.mpr c152
    subst c152
    have H1 : ((edit_Apply.f t419 t422 t423 t424 l1_0 (mx a1_1 t422) (mx a1_2 t423) (mx a1_3 t424)).bind fun bt451 => ((edit_Right.f kj148 l1_0 (mx a1_1 t422) (mx a1_2 t423) (mx a1_3 t424)).bind fun t459 => (if ((bt451.2.2.2.2 == 0) == t459) = true then ((ratlinelaw09_awake.f).bind fun t460 => (some t460)) else (none)))) = some r:=by rw [if_neg (show ¬ (false = true) by decide)] at H;exact H
    clear H
    have H:=H1
    clear H1
    obtain ⟨ji191,hji191⟩ : ∃ j_ : Int,(mx a1_1 t422) = j_:=⟨_,rfl⟩
    replace H : ((edit_Apply.f t419 t422 t423 t424 l1_0 (ji191) (mx a1_2 t423) (mx a1_3 t424)).bind fun bt451 => ((edit_Right.f kj148 l1_0 (ji191) (mx a1_2 t423) (mx a1_3 t424)).bind fun t459 => (if ((bt451.2.2.2.2 == 0) == t459) = true then ((ratlinelaw09_awake.f).bind fun t460 => (some t460)) else (none)))) = some r:=by first|(rw [hji191] at H;exact H)|(simp only [hji191] at H ⊢;exact H)
    have hji191_ : (if a1_1 < t422 then t422 else a1_1) = ji191:=hji191
    obtain ⟨ji192,hji192⟩ : ∃ j_ : Int,(mx a1_2 t423) = j_:=⟨_,rfl⟩
    replace H : ((edit_Apply.f t419 t422 t423 t424 l1_0 (ji191) (ji192) (mx a1_3 t424)).bind fun bt451 => ((edit_Right.f kj148 l1_0 (ji191) (ji192) (mx a1_3 t424)).bind fun t459 => (if ((bt451.2.2.2.2 == 0) == t459) = true then ((ratlinelaw09_awake.f).bind fun t460 => (some t460)) else (none)))) = some r:=by first|(rw [hji192] at H;exact H)|(simp only [hji192] at H ⊢;exact H)
    have hji192_ : (if a1_2 < t423 then t423 else a1_2) = ji192:=hji192
    obtain ⟨ji193,hji193⟩ : ∃ j_ : Int,(mx a1_3 t424) = j_:=⟨_,rfl⟩
    replace H : ((edit_Apply.f t419 t422 t423 t424 l1_0 (ji191) (ji192) (ji193)).bind fun bt451 => ((edit_Right.f kj148 l1_0 (ji191) (ji192) (ji193)).bind fun t459 => (if ((bt451.2.2.2.2 == 0) == t459) = true then ((ratlinelaw09_awake.f).bind fun t460 => (some t460)) else (none)))) = some r:=by first|(rw [hji193] at H;exact H)|(simp only [hji193] at H ⊢;exact H)
    have hji193_ : (if a1_3 < t424 then t424 else a1_3) = ji193:=hji193
    replace H:=Option.bind_eq_some_iff.mp H
    obtain ⟨⟨t451,t454,t455,t456,t457⟩,A1940,H⟩:=H
    replace H : ((edit_Right.f kj148 l1_0 (ji191) (ji192) (ji193)).bind fun t459 => (if ((t457 == 0) == t459) = true then ((ratlinelaw09_awake.f).bind fun t460 => (some t460)) else (none))) = some r:=H
    have A194:=aK A1940
    clear A1940
    replace H:=Option.bind_eq_some_iff.mp H
    obtain ⟨t459,A1950,H⟩:=H
    replace H : (if ((t457 == 0) == t459) = true then ((ratlinelaw09_awake.f).bind fun t460 => (some t460)) else (none)) = some r:=H
    have A195:=aK A1950
    clear A1950
    by_cases c196 : ((t457 == 0) == t459) = true
    rotate_left
    ·rw [if_neg c196] at H
     exact absurd H (by simp)
    rw [if_pos c196] at H
    have c196b0 : ((t457 == 0) == t459) = true:=c196
    (try (have c196b1 : decide ((t457 == 0) = t459) = true:=by simpa using c196))
    (try (have c196b2 : ((t457 == 0) == t459) = true:=by simpa using c196))
    clear c196
    replace H:=Option.bind_eq_some_iff.mp H
    obtain ⟨t460,A1970,H⟩:=H
    replace H : (some t460) = some r:=H
    have A197:=aK A1970
    clear A1970
    obtain rfl:=Option.some.inj H
    have hnb198:=N413_412.out
    have hnc198:=N412_413.out
    have hnb199:=N413_426.out
    have hnc199:=N426_413.out
    have hnb200:=N413_437.out
    have hnc200:=N437_413.out
    have z201_0 : wc.cell? ⟨gb413,0,none⟩ = some (.slice A1_0 l1_0.length c1_0):=(aC B413.out 0).trans rfl
    have z201_1 : wc.cell? ⟨gb413,1,none⟩ = some (.int .u64 a1_1):=(aC B413.out 1).trans rfl
    have z201_2 : wc.cell? ⟨gb413,2,none⟩ = some (.int .u64 a1_2):=(aC B413.out 2).trans rfl
    have z201_3 : wc.cell? ⟨gb413,3,none⟩ = some (.int .u64 a1_3):=(aC B413.out 3).trans rfl
    have f201_0:=aF B413.out 0
    have f201_1:=aF B413.out 1
    have f201_2:=aF B413.out 2
    have f201_3:=aF B413.out 3
    try go_wp2_with (first|((with_reducible refine gate_dst (N:=11) rfl ?_);(try (refine gate_guard (by rfl) ?_;dsimp only));refine box_event ?hg (N:=11) ?hd (cs:=#[.slice none 0 0,.int .u64 0,.int .u64 0,.int .u64 0]) (t:=54) ?hr ?_;(case hd => rfl);(case hg => rfl);(case hr => first|(go_simp;done)|(go_simp;rfl));intro gb440 hg w202 hbox hb;have n0_:=aK (Kd.V_below (Kd.V_elderB (by (with_reducible repeat (first|apply vA|apply vN|apply vD));exact HO_413000.out) gb440 (Nat.le_of_eq hg.symm)) hb);have n1_:=aK (Kd.V_below (Kd.V_elderB (by (with_reducible repeat (first|apply vA|apply vN|apply vD));exact HO_414000.out) gb440 (Nat.le_of_eq hg.symm)) hb);have n2_:=aK (Kd.R_below (by (with_reducible repeat (first|apply zA|apply zN|apply zD));exact HO_427000.out) hb);have n3_:=aK (Kd.R_below (by (with_reducible repeat (first|apply zA|apply zN|apply zD));exact HO_438000.out) hb);have n4_:=aK (aB (g:=gb412) (o:=.cells #[.slice A0_0 l0_0.length c0_0,.int .u64 a0_1,.int .u64 a0_2,.int .u64 a0_3] 54 (0,0)) (by (with_reducible repeat (first|refine bN ?_ _|refine bD ?_|refine bA ?_ _));exact B412.out) hb);have n5_:=aK (aB (g:=gb413) (o:=.cells #[.slice A1_0 l1_0.length c1_0,.int .u64 a1_1,.int .u64 a1_2,.int .u64 a1_3] 54 (0,0)) (by (with_reducible repeat (first|refine bN ?_ _|refine bD ?_|refine bA ?_ _));exact B413.out) hb);have n6_:=aK (aB (g:=gb426) (o:=.cells #[.slice Ao19 t419.length co19,.int .u64 t422,.int .u64 t423,.int .u64 t424] 57 (0,0)) (by (with_reducible repeat (first|refine bN ?_ _|refine bD ?_|refine bA ?_ _));exact B426.out) hb);have n7_:=aK (aB (g:=gb437) (o:=.cells #[.slice Ao47 t430.length co47,.int .u64 t433,.int .u64 t434,.int .u64 t435] 57 (0,0)) (by (with_reducible repeat (first|refine bN ?_ _|refine bD ?_|refine bA ?_ _));exact B437.out) hb);have n8_:=aK (aT (by repeat (first|(with_reducible first|exact HB.out|apply aA|apply aW|apply aD|refine aS ?_ E412.out|refine aS ?_ E413.out|refine aS ?_ E426.out|refine aS ?_ E437.out)|exact HB.out)) hb);have n9_:=aK (hbox);have n10_:=aK ((by rw [hg];exact (aZ (by repeat (first|(with_reducible first|exact HB.out|apply aA|apply aW|apply aD|refine aS ?_ E412.out|refine aS ?_ E413.out|refine aS ?_ E426.out|refine aS ?_ E437.out)|exact HB.out))) : w.heap.size ≤ gb440));have n11_:=aK ((by rw [hg];exact (aZ (by repeat (first|(with_reducible first|exact HB.out|apply aA|apply aW|apply aD|refine aS ?_ E412.out|refine aS ?_ E413.out|refine aS ?_ E426.out|refine aS ?_ E437.out)|exact HB.out))) : w.heap.size ≤ gb440));have n12_:=aK ((by rw [hg];exact Nat.ne_of_lt (blk_lt (g:=gb412) (o:=.cells #[.slice A0_0 l0_0.length c0_0,.int .u64 a0_1,.int .u64 a0_2,.int .u64 a0_3] 54 (0,0)) (by (with_reducible repeat (first|refine bN ?_ _|refine bD ?_|refine bA ?_ _));exact B412.out)) : gb412 ≠ gb440));have n13_:=aK ((by rw [hg];exact Nat.ne_of_gt (blk_lt (g:=gb412) (o:=.cells #[.slice A0_0 l0_0.length c0_0,.int .u64 a0_1,.int .u64 a0_2,.int .u64 a0_3] 54 (0,0)) (by (with_reducible repeat (first|refine bN ?_ _|refine bD ?_|refine bA ?_ _));exact B412.out)) : gb440 ≠ gb412));have n14_:=aK ((by rw [hg];exact Nat.ne_of_lt (blk_lt (g:=gb413) (o:=.cells #[.slice A1_0 l1_0.length c1_0,.int .u64 a1_1,.int .u64 a1_2,.int .u64 a1_3] 54 (0,0)) (by (with_reducible repeat (first|refine bN ?_ _|refine bD ?_|refine bA ?_ _));exact B413.out)) : gb413 ≠ gb440));have n15_:=aK ((by rw [hg];exact Nat.ne_of_gt (blk_lt (g:=gb413) (o:=.cells #[.slice A1_0 l1_0.length c1_0,.int .u64 a1_1,.int .u64 a1_2,.int .u64 a1_3] 54 (0,0)) (by (with_reducible repeat (first|refine bN ?_ _|refine bD ?_|refine bA ?_ _));exact B413.out)) : gb440 ≠ gb413));have n16_:=aK ((by rw [hg];exact Nat.ne_of_lt (blk_lt (g:=gb426) (o:=.cells #[.slice Ao19 t419.length co19,.int .u64 t422,.int .u64 t423,.int .u64 t424] 57 (0,0)) (by (with_reducible repeat (first|refine bN ?_ _|refine bD ?_|refine bA ?_ _));exact B426.out)) : gb426 ≠ gb440));have n17_:=aK ((by rw [hg];exact Nat.ne_of_gt (blk_lt (g:=gb426) (o:=.cells #[.slice Ao19 t419.length co19,.int .u64 t422,.int .u64 t423,.int .u64 t424] 57 (0,0)) (by (with_reducible repeat (first|refine bN ?_ _|refine bD ?_|refine bA ?_ _));exact B426.out)) : gb440 ≠ gb426));have n18_:=aK ((by rw [hg];exact Nat.ne_of_lt (blk_lt (g:=gb437) (o:=.cells #[.slice Ao47 t430.length co47,.int .u64 t433,.int .u64 t434,.int .u64 t435] 57 (0,0)) (by (with_reducible repeat (first|refine bN ?_ _|refine bD ?_|refine bA ?_ _));exact B437.out)) : gb437 ≠ gb440));have n19_:=aK ((by rw [hg];exact Nat.ne_of_gt (blk_lt (g:=gb437) (o:=.cells #[.slice Ao47 t430.length co47,.int .u64 t433,.int .u64 t434,.int .u64 t435] 57 (0,0)) (by (with_reducible repeat (first|refine bN ?_ _|refine bD ?_|refine bA ?_ _));exact B437.out)) : gb440 ≠ gb437));clear HO_413000;clear HO_414000;clear HO_427000;clear HO_438000;clear B412;clear B413;clear B426;clear B437;clear HB;have HO_413000:=n0_;have HO_414000:=n1_;have HO_427000:=n2_;have HO_438000:=n3_;have B412:=n4_;have B413:=n5_;have B426:=n6_;have B437:=n7_;have HB:=n8_;have B440:=n9_;have W440:=n10_;have E440:=n11_;have N412_440:=n12_;have N440_412:=n13_;have N413_440:=n14_;have N440_413:=n15_;have N426_440:=n16_;have N440_426:=n17_;have N437_440:=n18_;have N440_437:=n19_;clear n0_ n1_ n2_ n3_ n4_ n5_ n6_ n7_ n8_ n9_ n10_ n11_ n12_ n13_ n14_ n15_ n16_ n17_ n18_ n19_;clear hb hbox hg;have hnb203:=N440_412.out;have hnc203:=N412_440.out;have hnb204:=N440_413.out;have hnc204:=N413_440.out;have hnb205:=N440_426.out;have hnc205:=N426_440.out;have hnb206:=N440_437.out;have hnc206:=N437_440.out;have z207_0 : w202.cell? ⟨gb440,0,none⟩ = some (.slice none 0 0):=(aC B440.out 0).trans rfl;have z207_1 : w202.cell? ⟨gb440,1,none⟩ = some (.int .u64 0):=(aC B440.out 1).trans rfl;have z207_2 : w202.cell? ⟨gb440,2,none⟩ = some (.int .u64 0):=(aC B440.out 2).trans rfl;have z207_3 : w202.cell? ⟨gb440,3,none⟩ = some (.int .u64 0):=(aC B440.out 3).trans rfl;have f207_0:=aF B440.out 0;have f207_1:=aF B440.out 1;have f207_2:=aF B440.out 2;have f207_3:=aF B440.out 3))
    have n0_ : Aside0 (Kd.V k62 62 ((((w202.setCell ⟨gb440,0,none⟩ (.slice A1_0 l1_0.length c1_0)).setCell ⟨gb440,1,none⟩ (.int .u64 a1_1)).setCell ⟨gb440,2,none⟩ (.int .u64 a1_2)).setCell ⟨gb440,3,none⟩ (.int .u64 a1_3)) w.heap.size (fun k_ => ((P0_0_ k_ ∨ P1_0_ k_) ∨ w.heap.size ≤ k_) ∧ nB k_ Ao19 t419.length co19 ∧ nB k_ Ao47 t430.length co47 ∧ k_ ≠ gb412 ∧ k_ ≠ gb413 ∧ k_ ≠ gb426 ∧ k_ ≠ gb437 ∧ k_ ≠ gb440) (.slice A0_0 l0_0.length c0_0) l0_0):=⟨by (with_reducible repeat (first|apply vA|apply vN|apply vD));exact aN (aU (p:=⟨gb440,3,none⟩) (aU (p:=⟨gb440,2,none⟩) (aU (p:=⟨gb440,1,none⟩) (aU (p:=⟨gb440,0,none⟩) (aN HO_413000.out (fun k_ hk => (⟨hk,hk.2⟩ : _ ∧ k_ ≠ gb440))) (fun _ hk => hk.2) (.slice A1_0 l1_0.length c1_0)) (fun _ hk => hk.2) (.int .u64 a1_1)) (fun _ hk => hk.2) (.int .u64 a1_2)) (fun _ hk => hk.2) (.int .u64 a1_3)) (fun _ hk => ⟨hk.1.1.1,⟨hk.1.1.2.1,⟨hk.1.1.2.2.1,⟨hk.1.1.2.2.2.1,⟨hk.1.1.2.2.2.2.1,⟨hk.1.1.2.2.2.2.2.1,⟨hk.1.1.2.2.2.2.2.2,hk.1.2⟩⟩⟩⟩⟩⟩⟩)⟩
    have n1_ : Aside0 (Kd.V k62 62 ((((w202.setCell ⟨gb440,0,none⟩ (.slice A1_0 l1_0.length c1_0)).setCell ⟨gb440,1,none⟩ (.int .u64 a1_1)).setCell ⟨gb440,2,none⟩ (.int .u64 a1_2)).setCell ⟨gb440,3,none⟩ (.int .u64 a1_3)) w.heap.size (fun k_ => ((P0_0_ k_ ∨ P1_0_ k_) ∨ w.heap.size ≤ k_) ∧ nB k_ Ao19 t419.length co19 ∧ nB k_ Ao47 t430.length co47 ∧ k_ ≠ gb412 ∧ k_ ≠ gb413 ∧ k_ ≠ gb426 ∧ k_ ≠ gb437 ∧ k_ ≠ gb440) (.slice A1_0 l1_0.length c1_0) l1_0):=⟨by (with_reducible repeat (first|apply vA|apply vN|apply vD));exact aN (aU (p:=⟨gb440,3,none⟩) (aU (p:=⟨gb440,2,none⟩) (aU (p:=⟨gb440,1,none⟩) (aU (p:=⟨gb440,0,none⟩) (aN HO_414000.out (fun k_ hk => (⟨hk,hk.2⟩ : _ ∧ k_ ≠ gb440))) (fun _ hk => hk.2) (.slice A1_0 l1_0.length c1_0)) (fun _ hk => hk.2) (.int .u64 a1_1)) (fun _ hk => hk.2) (.int .u64 a1_2)) (fun _ hk => hk.2) (.int .u64 a1_3)) (fun _ hk => ⟨hk.1.1.1,⟨hk.1.1.2.1,⟨hk.1.1.2.2.1,⟨hk.1.1.2.2.2.1,⟨hk.1.1.2.2.2.2.1,⟨hk.1.1.2.2.2.2.2.1,⟨hk.1.1.2.2.2.2.2.2,hk.1.2⟩⟩⟩⟩⟩⟩⟩)⟩
    have n2_ : Aside0 (Kd.R k62 62 ((((w202.setCell ⟨gb440,0,none⟩ (.slice A1_0 l1_0.length c1_0)).setCell ⟨gb440,1,none⟩ (.int .u64 a1_1)).setCell ⟨gb440,2,none⟩ (.int .u64 a1_2)).setCell ⟨gb440,3,none⟩ (.int .u64 a1_3)) w.heap.size (fun k_ => (w.heap.size ≤ k_) ∧ nB k_ Ao47 t430.length co47) (.slice Ao19 t419.length co19) t419):=⟨by (with_reducible repeat (first|apply zA|apply zN|apply zD));exact aM (aY (p:=⟨gb440,3,none⟩) (aY (p:=⟨gb440,2,none⟩) (aY (p:=⟨gb440,1,none⟩) (aY (p:=⟨gb440,0,none⟩) (aP HO_427000.out B440.out (by decide)) (fun _ hk => hk.2) (.slice A1_0 l1_0.length c1_0)) (fun _ hk => hk.2) (.int .u64 a1_1)) (fun _ hk => hk.2) (.int .u64 a1_2)) (fun _ hk => hk.2) (.int .u64 a1_3)) (fun _ hk => ⟨hk.1.1,hk.1.2⟩)⟩
    have n3_ : Aside0 (Kd.R k62 62 ((((w202.setCell ⟨gb440,0,none⟩ (.slice A1_0 l1_0.length c1_0)).setCell ⟨gb440,1,none⟩ (.int .u64 a1_1)).setCell ⟨gb440,2,none⟩ (.int .u64 a1_2)).setCell ⟨gb440,3,none⟩ (.int .u64 a1_3)) w.heap.size (fun k_ => (w.heap.size ≤ k_) ∧ nB k_ Ao19 t419.length co19) (.slice Ao47 t430.length co47) t430):=⟨by (with_reducible repeat (first|apply zA|apply zN|apply zD));exact aM (aY (p:=⟨gb440,3,none⟩) (aY (p:=⟨gb440,2,none⟩) (aY (p:=⟨gb440,1,none⟩) (aY (p:=⟨gb440,0,none⟩) (aP HO_438000.out B440.out (by decide)) (fun _ hk => hk.2) (.slice A1_0 l1_0.length c1_0)) (fun _ hk => hk.2) (.int .u64 a1_1)) (fun _ hk => hk.2) (.int .u64 a1_2)) (fun _ hk => hk.2) (.int .u64 a1_3)) (fun _ hk => ⟨hk.1.1,hk.1.2⟩)⟩
    have n4_ : Aside0 (((((w202.setCell ⟨gb440,0,none⟩ (.slice A1_0 l1_0.length c1_0)).setCell ⟨gb440,1,none⟩ (.int .u64 a1_1)).setCell ⟨gb440,2,none⟩ (.int .u64 a1_2)).setCell ⟨gb440,3,none⟩ (.int .u64 a1_3)).heap[gb412]? = some (.cells #[.slice A0_0 l0_0.length c0_0,.int .u64 a0_1,.int .u64 a0_2,.int .u64 a0_3] 54 (0,0))):=⟨by (with_reducible repeat (first|refine bN ?_ _|refine bD ?_|refine bA ?_ _));refine aX ?_ N412_440.out _;(with_reducible repeat (first|refine bN ?_ _|refine bD ?_|refine bA ?_ _));refine aX ?_ N412_440.out _;(with_reducible repeat (first|refine bN ?_ _|refine bD ?_|refine bA ?_ _));refine aX ?_ N412_440.out _;(with_reducible repeat (first|refine bN ?_ _|refine bD ?_|refine bA ?_ _));refine aX ?_ N412_440.out _;(with_reducible repeat (first|refine bN ?_ _|refine bD ?_|refine bA ?_ _));exact B412.out⟩
    have n5_ : Aside0 (((((w202.setCell ⟨gb440,0,none⟩ (.slice A1_0 l1_0.length c1_0)).setCell ⟨gb440,1,none⟩ (.int .u64 a1_1)).setCell ⟨gb440,2,none⟩ (.int .u64 a1_2)).setCell ⟨gb440,3,none⟩ (.int .u64 a1_3)).heap[gb413]? = some (.cells #[.slice A1_0 l1_0.length c1_0,.int .u64 a1_1,.int .u64 a1_2,.int .u64 a1_3] 54 (0,0))):=⟨by (with_reducible repeat (first|refine bN ?_ _|refine bD ?_|refine bA ?_ _));refine aX ?_ N413_440.out _;(with_reducible repeat (first|refine bN ?_ _|refine bD ?_|refine bA ?_ _));refine aX ?_ N413_440.out _;(with_reducible repeat (first|refine bN ?_ _|refine bD ?_|refine bA ?_ _));refine aX ?_ N413_440.out _;(with_reducible repeat (first|refine bN ?_ _|refine bD ?_|refine bA ?_ _));refine aX ?_ N413_440.out _;(with_reducible repeat (first|refine bN ?_ _|refine bD ?_|refine bA ?_ _));exact B413.out⟩
    have n6_ : Aside0 (((((w202.setCell ⟨gb440,0,none⟩ (.slice A1_0 l1_0.length c1_0)).setCell ⟨gb440,1,none⟩ (.int .u64 a1_1)).setCell ⟨gb440,2,none⟩ (.int .u64 a1_2)).setCell ⟨gb440,3,none⟩ (.int .u64 a1_3)).heap[gb426]? = some (.cells #[.slice Ao19 t419.length co19,.int .u64 t422,.int .u64 t423,.int .u64 t424] 57 (0,0))):=⟨by (with_reducible repeat (first|refine bN ?_ _|refine bD ?_|refine bA ?_ _));refine aX ?_ N426_440.out _;(with_reducible repeat (first|refine bN ?_ _|refine bD ?_|refine bA ?_ _));refine aX ?_ N426_440.out _;(with_reducible repeat (first|refine bN ?_ _|refine bD ?_|refine bA ?_ _));refine aX ?_ N426_440.out _;(with_reducible repeat (first|refine bN ?_ _|refine bD ?_|refine bA ?_ _));refine aX ?_ N426_440.out _;(with_reducible repeat (first|refine bN ?_ _|refine bD ?_|refine bA ?_ _));exact B426.out⟩
    have n7_ : Aside0 (((((w202.setCell ⟨gb440,0,none⟩ (.slice A1_0 l1_0.length c1_0)).setCell ⟨gb440,1,none⟩ (.int .u64 a1_1)).setCell ⟨gb440,2,none⟩ (.int .u64 a1_2)).setCell ⟨gb440,3,none⟩ (.int .u64 a1_3)).heap[gb437]? = some (.cells #[.slice Ao47 t430.length co47,.int .u64 t433,.int .u64 t434,.int .u64 t435] 57 (0,0))):=⟨by (with_reducible repeat (first|refine bN ?_ _|refine bD ?_|refine bA ?_ _));refine aX ?_ N437_440.out _;(with_reducible repeat (first|refine bN ?_ _|refine bD ?_|refine bA ?_ _));refine aX ?_ N437_440.out _;(with_reducible repeat (first|refine bN ?_ _|refine bD ?_|refine bA ?_ _));refine aX ?_ N437_440.out _;(with_reducible repeat (first|refine bN ?_ _|refine bD ?_|refine bA ?_ _));refine aX ?_ N437_440.out _;(with_reducible repeat (first|refine bN ?_ _|refine bD ?_|refine bA ?_ _));exact B437.out⟩
    have n8_ : Aside0 (((((w202.setCell ⟨gb440,0,none⟩ (.slice A1_0 l1_0.length c1_0)).setCell ⟨gb440,1,none⟩ (.int .u64 a1_1)).setCell ⟨gb440,2,none⟩ (.int .u64 a1_2)).setCell ⟨gb440,3,none⟩ (.int .u64 a1_3)).heap[gb440]? = some (.cells #[.slice A1_0 l1_0.length c1_0,.int .u64 a1_1,.int .u64 a1_2,.int .u64 a1_3] 54 (0,0))):=⟨by (with_reducible repeat (first|refine bN ?_ _|refine bD ?_|refine bA ?_ _));refine blk_put (cs:=#[.slice A1_0 l1_0.length c1_0,.int .u64 a1_1,.int .u64 a1_2,.int .u64 0]) ?_ 3 _ rfl;(with_reducible repeat (first|refine bN ?_ _|refine bD ?_|refine bA ?_ _));refine blk_put (cs:=#[.slice A1_0 l1_0.length c1_0,.int .u64 a1_1,.int .u64 0,.int .u64 0]) ?_ 2 _ rfl;(with_reducible repeat (first|refine bN ?_ _|refine bD ?_|refine bA ?_ _));refine blk_put (cs:=#[.slice A1_0 l1_0.length c1_0,.int .u64 0,.int .u64 0,.int .u64 0]) ?_ 1 _ rfl;(with_reducible repeat (first|refine bN ?_ _|refine bD ?_|refine bA ?_ _));refine blk_put (cs:=#[.slice none 0 0,.int .u64 0,.int .u64 0,.int .u64 0]) ?_ 0 _ rfl;(with_reducible repeat (first|refine bN ?_ _|refine bD ?_|refine bA ?_ _));exact B440.out⟩
    have n9_ : Aside0 (Below w.heap.size w ((((w202.setCell ⟨gb440,0,none⟩ (.slice A1_0 l1_0.length c1_0)).setCell ⟨gb440,1,none⟩ (.int .u64 a1_1)).setCell ⟨gb440,2,none⟩ (.int .u64 a1_2)).setCell ⟨gb440,3,none⟩ (.int .u64 a1_3))):=⟨by repeat (first|(with_reducible first|exact HB.out|apply aA|apply aW|apply aD|refine aS ?_ E412.out|refine aS ?_ E413.out|refine aS ?_ E426.out|refine aS ?_ E437.out|refine aS ?_ E440.out)|exact HB.out)⟩
    (try clear HO_413000)
    (try clear HO_414000)
    (try clear HO_427000)
    (try clear HO_438000)
    (try clear B412)
    (try clear B413)
    (try clear B426)
    (try clear B437)
    (try clear B440)
    (try clear HB)
    generalize ((((w202.setCell ⟨gb440,0,none⟩ (.slice A1_0 l1_0.length c1_0)).setCell ⟨gb440,1,none⟩ (.int .u64 a1_1)).setCell ⟨gb440,2,none⟩ (.int .u64 a1_2)).setCell ⟨gb440,3,none⟩ (.int .u64 a1_3)) = w208 at n0_ n1_ n2_ n3_ n4_ n5_ n6_ n7_ n8_ n9_ ⊢
    have HO_413000:=n0_
    have HO_414000:=n1_
    have HO_427000:=n2_
    have HO_438000:=n3_
    have B412:=n4_
    have B413:=n5_
    have B426:=n6_
    have B437:=n7_
    have B440:=n8_
    have HB:=n9_
    clear n0_ n1_ n2_ n3_ n4_ n5_ n6_ n7_ n8_ n9_
    have n0_:=aK (Kd.V_drew HO_413000.out)
    have n1_:=aK (Kd.V_drew HO_414000.out)
    have n2_:=aK (Kd.R_drew HO_427000.out)
    have n3_:=aK (Kd.R_drew HO_438000.out)
    have n4_:=aK (blk_drew B412.out)
    have n5_:=aK (blk_drew B413.out)
    have n6_:=aK (blk_drew B426.out)
    have n7_:=aK (blk_drew B437.out)
    have n8_:=aK (blk_drew B440.out)
    have n9_:=aK (aD HB.out)
    clear HO_413000
    clear HO_414000
    clear HO_427000
    clear HO_438000
    clear B412
    clear B413
    clear B426
    clear B437
    clear B440
    clear HB
    have HO_413000:=n0_
    have HO_414000:=n1_
    have HO_427000:=n2_
    have HO_438000:=n3_
    have B412:=n4_
    have B413:=n5_
    have B426:=n6_
    have B437:=n7_
    have B440:=n8_
    have HB:=n9_
    clear n0_ n1_ n2_ n3_ n4_ n5_ n6_ n7_ n8_ n9_
    refine start_ (n:=21) (S:=fun w' => w'.cell? ⟨gb413,0,none⟩ = some (.slice A1_0 l1_0.length c1_0) ∧ w'.cell? ⟨gb413,1,none⟩ = some (.int .u64 a1_1) ∧ w'.cell? ⟨gb413,2,none⟩ = some (.int .u64 a1_2) ∧ w'.cell? ⟨gb413,3,none⟩ = some (.int .u64 a1_3) ∧ w'.cell? ⟨gb426,0,none⟩ = some (.slice Ao19 t419.length co19) ∧ w'.cell? ⟨gb426,1,none⟩ = some (.int .u64 t422) ∧ w'.cell? ⟨gb426,2,none⟩ = some (.int .u64 t423) ∧ w'.cell? ⟨gb426,3,none⟩ = some (.int .u64 t424)) (ds:=[]) #[ff,ff,ff,ff,ff,ff,ff,ff,ff,ff,ff,ff,ff,ff,ff,ff,ff,ff,ff,ff,ff] (by kernel_rfl) rfl rfl ⟨(aC B413.out 0).trans rfl,(aC B413.out 1).trans rfl,(aC B413.out 2).trans rfl,(aC B413.out 3).trans rfl,(aC B426.out 0).trans rfl,(aC B426.out 1).trans rfl,(aC B426.out 2).trans rfl,(aC B426.out 3).trans rfl⟩ (fun hHeld => ?_);refine with_tabW tab14 bits14 (fun HT_ HW_ => ?_)
    generalize w208.drew = w209 at HO_413000 HO_414000 HO_427000 HO_438000 B412 B413 B426 B437 B440 HB hHeld ⊢
    refine pure_ (i:=0) (N:=some 118) (v:=?_) (a':=?_) #[tt,ff,ff,ff,ff,ff,ff,ff,ff,ff,ff,ff,ff,ff,ff,ff,ff,ff,ff,ff,ff] rfl rfl (any_of HT_.out (by kernel_rfl)) (fun _ _ _ h => h) (Or.inl ⟨by rfl,?_⟩) ?_ ?_
    rotate_left
    ·intro w'
     go_simp
     with_reducible rfl
    rotate_left
    ·simp only [Act.put,sA,sZ,sS,i64_w,i32_w]
     rfl
    refine pure_ (i:=2) (N:=some 120) (v:=?_) (a':=?_) #[tt,ff,tt,ff,ff,ff,ff,ff,ff,ff,ff,ff,ff,ff,ff,ff,ff,ff,ff,ff,ff] rfl rfl (any_of HT_.out (by kernel_rfl)) (fun _ _ _ h => h) (Or.inl ⟨by rfl,?_⟩) ?_ ?_
    rotate_left
    ·intro w'
     go_simp
     with_reducible rfl
    rotate_left
    ·simp only [Act.put,sA,sZ,sS,i64_w,i32_w]
     rfl
    refine pure_ (i:=5) (N:=some 123) (v:=?_) (a':=?_) #[tt,ff,tt,ff,ff,tt,ff,ff,ff,ff,ff,ff,ff,ff,ff,ff,ff,ff,ff,ff,ff] rfl rfl (any_of HT_.out (by kernel_rfl)) (fun _ _ _ h => h) (Or.inl ⟨by rfl,?_⟩) ?_ ?_
    rotate_left
    ·intro w'
     go_simp
     with_reducible rfl
    rotate_left
    ·simp only [Act.put,sA,sZ,sS,i64_w,i32_w]
     rfl
    refine pure_ (i:=7) (N:=some 125) (v:=?_) (a':=?_) #[tt,ff,tt,ff,ff,tt,ff,tt,ff,ff,ff,ff,ff,ff,ff,ff,ff,ff,ff,ff,ff] rfl rfl (any_of HT_.out (by kernel_rfl)) (fun _ _ _ h => h) (Or.inl ⟨by rfl,?_⟩) ?_ ?_
    rotate_left
    ·intro w'
     go_simp
     with_reducible rfl
    rotate_left
    ·simp only [Act.put,sA,sZ,sS,i64_w,i32_w]
     rfl
    refine pure_ (i:=10) (N:=some 128) (v:=?_) (a':=?_) #[tt,ff,tt,ff,ff,tt,ff,tt,ff,ff,tt,ff,ff,ff,ff,ff,ff,ff,ff,ff,ff] rfl rfl (any_of HT_.out (by kernel_rfl)) (fun _ _ _ h => h) (Or.inl ⟨by rfl,?_⟩) ?_ ?_
    rotate_left
    ·intro w'
     go_simp
     with_reducible rfl
    rotate_left
    ·simp only [Act.put,sA,sZ,sS,i64_w,i32_w]
     rfl
    refine pure_ (i:=12) (N:=some 130) (v:=?_) (a':=?_) #[tt,ff,tt,ff,ff,tt,ff,tt,ff,ff,tt,ff,tt,ff,ff,ff,ff,ff,ff,ff,ff] rfl rfl (any_of HT_.out (by kernel_rfl)) (fun _ _ _ h => h) (Or.inl ⟨by rfl,?_⟩) ?_ ?_
    rotate_left
    ·intro w'
     go_simp
     with_reducible rfl
    rotate_left
    ·simp only [Act.put,sA,sZ,sS,i64_w,i32_w]
     rfl
    refine take_ (i:=1) (N:=some 119) (v:=?_) (a':=?_) #[tt,tt,tt,ff,ff,tt,ff,tt,ff,ff,tt,ff,tt,ff,ff,ff,ff,ff,ff,ff,ff] rfl rfl (take_ofW HT_.out HW_.out (by kernel_rfl)) (fun _ _ _ h => h) (Or.inl ⟨by rfl,?_⟩) hHeld ?_ ?_
    rotate_left
    ·rintro w' ⟨s0,s1,s2,s3,s4,s5,s6,s7⟩
     go_simp
     with_reducible rfl
    rotate_left
    ·simp only [Act.put,sA,sZ,sS,i64_w,i32_w]
     rfl
    refine take_ (i:=3) (N:=some 121) (v:=?_) (a':=?_) #[tt,tt,tt,tt,ff,tt,ff,tt,ff,ff,tt,ff,tt,ff,ff,ff,ff,ff,ff,ff,ff] rfl rfl (take_ofW HT_.out HW_.out (by kernel_rfl)) (fun _ _ _ h => h) (Or.inl ⟨by rfl,?_⟩) hHeld ?_ ?_
    rotate_left
    ·rintro w' ⟨s0,s1,s2,s3,s4,s5,s6,s7⟩
     go_simp
     with_reducible rfl
    rotate_left
    ·simp only [Act.put,sA,sZ,sS,i64_w,i32_w]
     rfl
    refine pure_ (i:=4) (N:=some 122) (v:=?_) (a':=?_) #[tt,tt,tt,tt,tt,tt,ff,tt,ff,ff,tt,ff,tt,ff,ff,ff,ff,ff,ff,ff,ff] rfl rfl (any_of HT_.out (by kernel_rfl)) (fun _ _ _ h => h) (Or.inl ⟨by rfl,?_⟩) ?_ ?_
    rotate_left
    ·intro w'
     go_simp
     with_reducible rfl
    rotate_left
    ·simp only [Act.put,sA,sZ,sS,i64_w,i32_w]
     rfl
    refine pure_ (i:=15) (N:=some 133) (v:=?_) (a':=?_) #[tt,tt,tt,tt,tt,tt,ff,tt,ff,ff,tt,ff,tt,ff,ff,tt,ff,ff,ff,ff,ff] rfl rfl (any_of HT_.out (by kernel_rfl)) (fun _ _ _ h => h) (Or.inl ⟨by rfl,?_⟩) ?_ ?_
    rotate_left
    ·intro w'
     go_simp
     with_reducible rfl
    rotate_left
    ·simp only [Act.put,sA,sZ,sS,i64_w,i32_w]
     rfl
    refine take_ (i:=6) (N:=some 124) (v:=?_) (a':=?_) #[tt,tt,tt,tt,tt,tt,tt,tt,ff,ff,tt,ff,tt,ff,ff,tt,ff,ff,ff,ff,ff] rfl rfl (take_ofW HT_.out HW_.out (by kernel_rfl)) (fun _ _ _ h => h) (Or.inl ⟨by rfl,?_⟩) hHeld ?_ ?_
    rotate_left
    ·rintro w' ⟨s0,s1,s2,s3,s4,s5,s6,s7⟩
     go_simp
     with_reducible rfl
    rotate_left
    ·simp only [Act.put,sA,sZ,sS,i64_w,i32_w]
     rfl
    refine take_ (i:=8) (N:=some 126) (v:=?_) (a':=?_) #[tt,tt,tt,tt,tt,tt,tt,tt,tt,ff,tt,ff,tt,ff,ff,tt,ff,ff,ff,ff,ff] rfl rfl (take_ofW HT_.out HW_.out (by kernel_rfl)) (fun _ _ _ h => h) (Or.inl ⟨by rfl,?_⟩) hHeld ?_ ?_
    rotate_left
    ·rintro w' ⟨s0,s1,s2,s3,s4,s5,s6,s7⟩
     go_simp
     with_reducible rfl
    rotate_left
    ·simp only [Act.put,sA,sZ,sS,i64_w,i32_w]
     rfl
    refine pure_ (i:=9) (N:=some 127) (v:=?_) (a':=?_) #[tt,tt,tt,tt,tt,tt,tt,tt,tt,tt,tt,ff,tt,ff,ff,tt,ff,ff,ff,ff,ff] rfl rfl (any_of HT_.out (by kernel_rfl)) (fun _ _ _ h => h) (Or.inl ⟨by rfl,?_⟩) ?_ ?_
    rotate_left
    ·intro w'
     go_simp
     with_reducible rfl
    rotate_left
    ·simp only [Act.put,sA,sZ,sS,i64_w,i32_w]
     rfl
    refine take_ (i:=11) (N:=some 129) (v:=?_) (a':=?_) #[tt,tt,tt,tt,tt,tt,tt,tt,tt,tt,tt,tt,tt,ff,ff,tt,ff,ff,ff,ff,ff] rfl rfl (take_ofW HT_.out HW_.out (by kernel_rfl)) (fun _ _ _ h => h) (Or.inl ⟨by rfl,?_⟩) hHeld ?_ ?_
    rotate_left
    ·rintro w' ⟨s0,s1,s2,s3,s4,s5,s6,s7⟩
     go_simp
     with_reducible rfl
    rotate_left
    ·simp only [Act.put,sA,sZ,sS,i64_w,i32_w]
     rfl
    refine take_ (i:=13) (N:=some 131) (v:=?_) (a':=?_) #[tt,tt,tt,tt,tt,tt,tt,tt,tt,tt,tt,tt,tt,tt,ff,tt,ff,ff,ff,ff,ff] rfl rfl (take_ofW HT_.out HW_.out (by kernel_rfl)) (fun _ _ _ h => h) (Or.inl ⟨by rfl,?_⟩) hHeld ?_ ?_
    rotate_left
    ·rintro w' ⟨s0,s1,s2,s3,s4,s5,s6,s7⟩
     go_simp
     with_reducible rfl
    rotate_left
    ·simp only [Act.put,sA,sZ,sS,i64_w,i32_w]
     rfl
    refine pure_ (i:=14) (N:=some 132) (v:=?_) (a':=?_) #[tt,tt,tt,tt,tt,tt,tt,tt,tt,tt,tt,tt,tt,tt,tt,tt,ff,ff,ff,ff,ff] rfl rfl (any_of HT_.out (by kernel_rfl)) (fun _ _ _ h => h) (Or.inl ⟨by rfl,?_⟩) ?_ ?_
    rotate_left
    ·intro w'
     go_simp
     with_reducible rfl
    rotate_left
    ·simp only [Act.put,sA,sZ,sS,i64_w,i32_w]
     rfl
    refine one_ (i:=16) (N:=none) #[tt,tt,tt,tt,tt,tt,tt,tt,tt,tt,tt,tt,tt,tt,tt,tt,tt,ff,ff,ff,ff] rfl rfl (one_of HT_.out (by kernel_rfl)) (by decide) (fun K hK => ?_)
    have hs210 : w209.cell? ⟨gb440,1,none⟩ = some (.int .u64 a1_1):=(aC B440.out 1).trans rfl
    have hfs210:=aF B440.out 1
    have hns210_0:=N412_440.out
    have hns210_1:=N413_440.out
    have hns210_2:=N426_440.out
    have hns210_3:=N437_440.out
    have hms210_0:=N440_412.out
    have hms210_1:=N440_413.out
    have hms210_2:=N440_426.out
    have hms210_3:=N440_437.out
    refine skip_ (w1:=?_) (by rfl) rfl ?_ ?_
    rotate_left
    ·go_simp
     rfl
    refine hK.out _ _ ⟨((cell_far (p:=⟨gb440,_,none⟩) N413_440.out _).trans (hHeld.1)),((cell_far (p:=⟨gb440,_,none⟩) N413_440.out _).trans (hHeld.2.1)),((cell_far (p:=⟨gb440,_,none⟩) N413_440.out _).trans (hHeld.2.2.1)),((cell_far (p:=⟨gb440,_,none⟩) N413_440.out _).trans (hHeld.2.2.2.1)),((cell_far (p:=⟨gb440,_,none⟩) N426_440.out _).trans (hHeld.2.2.2.2.1)),((cell_far (p:=⟨gb440,_,none⟩) N426_440.out _).trans (hHeld.2.2.2.2.2.1)),((cell_far (p:=⟨gb440,_,none⟩) N426_440.out _).trans (hHeld.2.2.2.2.2.2.1)),((cell_far (p:=⟨gb440,_,none⟩) N426_440.out _).trans (hHeld.2.2.2.2.2.2.2))⟩ (fun hHeld => ?_)
    clear hK K
    refine pure_ (i:=17) (N:=some 134) (v:=?_) (a':=?_) #[tt,tt,tt,tt,tt,tt,tt,tt,tt,tt,tt,tt,tt,tt,tt,tt,tt,tt,ff,ff,ff] rfl rfl (any_of HT_.out (by kernel_rfl)) (fun _ _ _ h => h) (Or.inl ⟨by rfl,?_⟩) ?_ ?_
    rotate_left
    ·intro w'
     go_simp
     with_reducible rfl
    rotate_left
    ·simp only [Act.put,sA,sZ,sS,i64_w,i32_w]
     rfl
    refine one_ (i:=18) (N:=none) #[tt,tt,tt,tt,tt,tt,tt,tt,tt,tt,tt,tt,tt,tt,tt,tt,tt,tt,tt,ff,ff] rfl rfl (one_of HT_.out (by kernel_rfl)) (by decide) (fun K hK => ?_)
    have hs211 : w209.cell? ⟨gb440,2,none⟩ = some (.int .u64 a1_2):=(aC B440.out 2).trans rfl
    have hfs211:=aF B440.out 2
    have hns211_0:=N412_440.out
    have hns211_1:=N413_440.out
    have hns211_2:=N426_440.out
    have hns211_3:=N437_440.out
    have hms211_0:=N440_412.out
    have hms211_1:=N440_413.out
    have hms211_2:=N440_426.out
    have hms211_3:=N440_437.out
    refine skip_ (w1:=?_) (by rfl) rfl ?_ ?_
    rotate_left
    ·go_simp
     rfl
    refine hK.out _ _ ⟨((cell_far (p:=⟨gb440,_,none⟩) N413_440.out _).trans (hHeld.1)),((cell_far (p:=⟨gb440,_,none⟩) N413_440.out _).trans (hHeld.2.1)),((cell_far (p:=⟨gb440,_,none⟩) N413_440.out _).trans (hHeld.2.2.1)),((cell_far (p:=⟨gb440,_,none⟩) N413_440.out _).trans (hHeld.2.2.2.1)),((cell_far (p:=⟨gb440,_,none⟩) N426_440.out _).trans (hHeld.2.2.2.2.1)),((cell_far (p:=⟨gb440,_,none⟩) N426_440.out _).trans (hHeld.2.2.2.2.2.1)),((cell_far (p:=⟨gb440,_,none⟩) N426_440.out _).trans (hHeld.2.2.2.2.2.2.1)),((cell_far (p:=⟨gb440,_,none⟩) N426_440.out _).trans (hHeld.2.2.2.2.2.2.2))⟩ (fun hHeld => ?_)
    clear hK K
    refine pure_ (i:=19) (N:=some 135) (v:=?_) (a':=?_) #[tt,tt,tt,tt,tt,tt,tt,tt,tt,tt,tt,tt,tt,tt,tt,tt,tt,tt,tt,tt,ff] rfl rfl (any_of HT_.out (by kernel_rfl)) (fun _ _ _ h => h) (Or.inl ⟨by rfl,?_⟩) ?_ ?_
    rotate_left
    ·intro w'
     go_simp
     with_reducible rfl
    rotate_left
    ·simp only [Act.put,sA,sZ,sS,i64_w,i32_w]
     rfl
    refine one_ (i:=20) (N:=none) #[tt,tt,tt,tt,tt,tt,tt,tt,tt,tt,tt,tt,tt,tt,tt,tt,tt,tt,tt,tt,tt] rfl rfl (one_of HT_.out (by kernel_rfl)) (by decide) (fun K hK => ?_)
    have hs212 : w209.cell? ⟨gb440,3,none⟩ = some (.int .u64 a1_3):=(aC B440.out 3).trans rfl
    have hfs212:=aF B440.out 3
    have hns212_0:=N412_440.out
    have hns212_1:=N413_440.out
    have hns212_2:=N426_440.out
    have hns212_3:=N437_440.out
    have hms212_0:=N440_412.out
    have hms212_1:=N440_413.out
    have hms212_2:=N440_426.out
    have hms212_3:=N440_437.out
    refine skip_ (w1:=?_) (by rfl) rfl ?_ ?_
    rotate_left
    ·go_simp
     rfl
    refine hK.out _ _ ⟨((cell_far (p:=⟨gb440,_,none⟩) N413_440.out _).trans (hHeld.1)),((cell_far (p:=⟨gb440,_,none⟩) N413_440.out _).trans (hHeld.2.1)),((cell_far (p:=⟨gb440,_,none⟩) N413_440.out _).trans (hHeld.2.2.1)),((cell_far (p:=⟨gb440,_,none⟩) N413_440.out _).trans (hHeld.2.2.2.1)),((cell_far (p:=⟨gb440,_,none⟩) N426_440.out _).trans (hHeld.2.2.2.2.1)),((cell_far (p:=⟨gb440,_,none⟩) N426_440.out _).trans (hHeld.2.2.2.2.2.1)),((cell_far (p:=⟨gb440,_,none⟩) N426_440.out _).trans (hHeld.2.2.2.2.2.2.1)),((cell_far (p:=⟨gb440,_,none⟩) N426_440.out _).trans (hHeld.2.2.2.2.2.2.2))⟩ (fun hHeld => ?_)
    clear hK K
    refine done_ (done_of HT_.out (by kernel_rfl)) ?_
    have hnb213:=N426_412.out
    have hnc213:=N412_426.out
    have hnb214:=N426_437.out
    have hnc214:=N437_426.out
    have z215_0 : w209.cell? ⟨gb426,0,none⟩ = some (.slice Ao19 t419.length co19):=(aC B426.out 0).trans rfl
    have z215_1 : w209.cell? ⟨gb426,1,none⟩ = some (.int .u64 t422):=(aC B426.out 1).trans rfl
    have z215_2 : w209.cell? ⟨gb426,2,none⟩ = some (.int .u64 t423):=(aC B426.out 2).trans rfl
    have z215_3 : w209.cell? ⟨gb426,3,none⟩ = some (.int .u64 t424):=(aC B426.out 3).trans rfl
    have f215_0:=aF B426.out 0
    have f215_1:=aF B426.out 1
    have f215_2:=aF B426.out 2
    have f215_3:=aF B426.out 3
    have z216_0 : w209.cell? ⟨gb440,0,none⟩ = some (.slice A1_0 l1_0.length c1_0):=(aC B440.out 0).trans rfl
    have z216_1 : w209.cell? ⟨gb440,1,none⟩ = some (.int .u64 a1_1):=(aC B440.out 1).trans rfl
    have z216_2 : w209.cell? ⟨gb440,2,none⟩ = some (.int .u64 a1_2):=(aC B440.out 2).trans rfl
    have z216_3 : w209.cell? ⟨gb440,3,none⟩ = some (.int .u64 a1_3):=(aC B440.out 3).trans rfl
    have f216_0:=aF B440.out 0
    have f216_1:=aF B440.out 1
    have f216_2:=aF B440.out 2
    have f216_3:=aF B440.out 3
    try go_wp2_with (first|((with_reducible refine gate_callee (f:=32) rfl ?_);refine goesL_ (some 139) rfl rfl Try.func32 (by kernel_rfl) rfl #[.agg #[.slice Ao19 t419.length co19,.int .u64 t422,.int .u64 t423,.int .u64 t424],.agg #[.slice A1_0 l1_0.length c1_0,.int .u64 ji191,.int .u64 ji192,.int .u64 ji193]] rfl (by (try simp only [List.map_toArray,List.map_cons,List.map_nil]);first|done|(simp only [hji191,hji192,hji193];rfl)|rfl|(simp only [List.length_drop,List.length_take];rfl)) ?_;(with_reducible refine (edit_Apply.calls _ _ t419 t422 t423 t424 _ _ l1_0 ji191 ji192 ji193 t451 t454 t455 t456 t457 _ ?side1 ?side2 ?side3 ?side4 A194.out).mono ?_);(case side1 => refine (aQ (e:=62) (base:=w.heap.size) (ok:=fun k_ => ((w.heap.size ≤ k_) ∧ nB k_ Ao47 t430.length co47)) (n:=t419.length) (c:=co19) ?_).2.2;exact (by (with_reducible repeat (first|apply zA|apply zN|apply zD));exact (aM (aY (p:=⟨gb440,3,none⟩) (aY (p:=⟨gb440,2,none⟩) (aY (p:=⟨gb440,1,none⟩) (aP HO_427000.out B440.out (by decide)) (fun _ hk => hk.2) (.int .u64 ji191)) (fun _ hk => hk.2) (.int .u64 ji192)) (fun _ hk => hk.2) (.int .u64 ji193)) (fun _ h_ => h_.1))));(case side2 => exact (aQ HO_427000.out).2.1);(case side3 => refine (aO (e:=62) (base:=w.heap.size) (ok:=fun k_ => (((P0_0_ k_ ∨ P1_0_ k_) ∨ w.heap.size ≤ k_) ∧ (nB k_ Ao19 t419.length co19 ∧ (nB k_ Ao47 t430.length co47 ∧ (k_ ≠ gb412 ∧ (k_ ≠ gb413 ∧ (k_ ≠ gb426 ∧ (k_ ≠ gb437 ∧ k_ ≠ gb440)))))))) (n:=l1_0.length) (c:=c1_0) ?_).2.2;exact (by (with_reducible repeat (first|apply vA|apply vN|apply vD));exact (aN (aU (p:=⟨gb440,3,none⟩) (aU (p:=⟨gb440,2,none⟩) (aU (p:=⟨gb440,1,none⟩) (aN HO_414000.out (fun k_ hk => (⟨hk,hk.2.2.2.2.2.2.2⟩ : _ ∧ k_ ≠ gb440))) (fun _ hk => hk.2) (.int .u64 ji191)) (fun _ hk => hk.2) (.int .u64 ji192)) (fun _ hk => hk.2) (.int .u64 ji193)) (fun _ h_ => h_.1))));(case side4 => exact (aO HO_414000.out).2.1);rintro e w217 ⟨v452,rfl,ho0,hb⟩;refine ⟨_,rfl,?_⟩;have n0_:=aK (aV (by (with_reducible repeat (first|apply vA|apply vN|apply vD));exact (aN (aU (p:=⟨gb440,3,none⟩) (aU (p:=⟨gb440,2,none⟩) (aU (p:=⟨gb440,1,none⟩) (aN HO_413000.out (fun k_ hk => (⟨hk,hk.2.2.2.2.2.2.2⟩ : _ ∧ k_ ≠ gb440))) (fun _ hk => hk.2) (.int .u64 ji191)) (fun _ hk => hk.2) (.int .u64 ji192)) (fun _ hk => hk.2) (.int .u64 ji193)) (fun _ h_ => h_.1))) (aJ ho0) hb);have n1_:=aK (aV (by (with_reducible repeat (first|apply vA|apply vN|apply vD));exact (aN (aU (p:=⟨gb440,3,none⟩) (aU (p:=⟨gb440,2,none⟩) (aU (p:=⟨gb440,1,none⟩) (aN HO_414000.out (fun k_ hk => (⟨hk,hk.2.2.2.2.2.2.2⟩ : _ ∧ k_ ≠ gb440))) (fun _ hk => hk.2) (.int .u64 ji191)) (fun _ hk => hk.2) (.int .u64 ji192)) (fun _ hk => hk.2) (.int .u64 ji193)) (fun _ h_ => h_.1))) (aJ ho0) hb);have n2_:=aK (Kd.R_elder' (by (with_reducible repeat (first|apply zA|apply zN|apply zD));exact (aM (aY (p:=⟨gb440,3,none⟩) (aY (p:=⟨gb440,2,none⟩) (aY (p:=⟨gb440,1,none⟩) (aP HO_427000.out B440.out (by decide)) (fun _ hk => hk.2) (.int .u64 ji191)) (fun _ hk => hk.2) (.int .u64 ji192)) (fun _ hk => hk.2) (.int .u64 ji193)) (fun _ h_ => h_.1))) (aJ ho0) hb);have n3_:=aK (Kd.R_elder' (by (with_reducible repeat (first|apply zA|apply zN|apply zD));exact (aM (aY (p:=⟨gb440,3,none⟩) (aY (p:=⟨gb440,2,none⟩) (aY (p:=⟨gb440,1,none⟩) (aP HO_438000.out B440.out (by decide)) (fun _ hk => hk.2) (.int .u64 ji191)) (fun _ hk => hk.2) (.int .u64 ji192)) (fun _ hk => hk.2) (.int .u64 ji193)) (fun _ h_ => h_.1))) (aJ ho0) hb);have n4_:=aK (Kd.R_lower (Kd.R_new' (Kd.R_new' (Kd.R_newM (M:=fun k_ => (w.heap.size ≤ k_)) ho0 (aZ (by repeat (first|(with_reducible first|exact HB.out|apply aA|apply aW|apply aD|refine aS ?_ E412.out|refine aS ?_ E413.out|refine aS ?_ E426.out|refine aS ?_ E437.out|refine aS ?_ E440.out)|exact HB.out))) (fun k_ h_ => h_)) (Kd.R_lt (by (with_reducible repeat (first|apply zA|apply zN|apply zD));exact (aM (aY (p:=⟨gb440,3,none⟩) (aY (p:=⟨gb440,2,none⟩) (aY (p:=⟨gb440,1,none⟩) (aP HO_427000.out B440.out (by decide)) (fun _ hk => hk.2) (.int .u64 ji191)) (fun _ hk => hk.2) (.int .u64 ji192)) (fun _ hk => hk.2) (.int .u64 ji193)) (fun _ h_ => h_.1))))) (Kd.R_lt (by (with_reducible repeat (first|apply zA|apply zN|apply zD));exact (aM (aY (p:=⟨gb440,3,none⟩) (aY (p:=⟨gb440,2,none⟩) (aY (p:=⟨gb440,1,none⟩) (aP HO_438000.out B440.out (by decide)) (fun _ hk => hk.2) (.int .u64 ji191)) (fun _ hk => hk.2) (.int .u64 ji192)) (fun _ hk => hk.2) (.int .u64 ji193)) (fun _ h_ => h_.1))))) (aZ (by repeat (first|(with_reducible first|exact HB.out|apply aA|apply aW|apply aD|refine aS ?_ E412.out|refine aS ?_ E413.out|refine aS ?_ E426.out|refine aS ?_ E437.out|refine aS ?_ E440.out)|exact HB.out))));have n5_:=aK (aB (g:=gb412) (o:=.cells #[.slice A0_0 l0_0.length c0_0,.int .u64 a0_1,.int .u64 a0_2,.int .u64 a0_3] 54 (0,0)) (by (with_reducible repeat (first|refine bN ?_ _|refine bD ?_|refine bA ?_ _));refine aX ?_ N412_440.out _;(with_reducible repeat (first|refine bN ?_ _|refine bD ?_|refine bA ?_ _));refine aX ?_ N412_440.out _;(with_reducible repeat (first|refine bN ?_ _|refine bD ?_|refine bA ?_ _));refine aX ?_ N412_440.out _;(with_reducible repeat (first|refine bN ?_ _|refine bD ?_|refine bA ?_ _));exact B412.out) hb);have n6_:=aK (aB (g:=gb413) (o:=.cells #[.slice A1_0 l1_0.length c1_0,.int .u64 a1_1,.int .u64 a1_2,.int .u64 a1_3] 54 (0,0)) (by (with_reducible repeat (first|refine bN ?_ _|refine bD ?_|refine bA ?_ _));refine aX ?_ N413_440.out _;(with_reducible repeat (first|refine bN ?_ _|refine bD ?_|refine bA ?_ _));refine aX ?_ N413_440.out _;(with_reducible repeat (first|refine bN ?_ _|refine bD ?_|refine bA ?_ _));refine aX ?_ N413_440.out _;(with_reducible repeat (first|refine bN ?_ _|refine bD ?_|refine bA ?_ _));exact B413.out) hb);have n7_:=aK (aB (g:=gb426) (o:=.cells #[.slice Ao19 t419.length co19,.int .u64 t422,.int .u64 t423,.int .u64 t424] 57 (0,0)) (by (with_reducible repeat (first|refine bN ?_ _|refine bD ?_|refine bA ?_ _));refine aX ?_ N426_440.out _;(with_reducible repeat (first|refine bN ?_ _|refine bD ?_|refine bA ?_ _));refine aX ?_ N426_440.out _;(with_reducible repeat (first|refine bN ?_ _|refine bD ?_|refine bA ?_ _));refine aX ?_ N426_440.out _;(with_reducible repeat (first|refine bN ?_ _|refine bD ?_|refine bA ?_ _));exact B426.out) hb);have n8_:=aK (aB (g:=gb437) (o:=.cells #[.slice Ao47 t430.length co47,.int .u64 t433,.int .u64 t434,.int .u64 t435] 57 (0,0)) (by (with_reducible repeat (first|refine bN ?_ _|refine bD ?_|refine bA ?_ _));refine aX ?_ N437_440.out _;(with_reducible repeat (first|refine bN ?_ _|refine bD ?_|refine bA ?_ _));refine aX ?_ N437_440.out _;(with_reducible repeat (first|refine bN ?_ _|refine bD ?_|refine bA ?_ _));refine aX ?_ N437_440.out _;(with_reducible repeat (first|refine bN ?_ _|refine bD ?_|refine bA ?_ _));exact B437.out) hb);have n9_:=aK (aB (g:=gb440) (o:=.cells #[.slice A1_0 l1_0.length c1_0,.int .u64 ji191,.int .u64 ji192,.int .u64 ji193] 54 (0,0)) (by (with_reducible repeat (first|refine bN ?_ _|refine bD ?_|refine bA ?_ _));refine blk_put (cs:=#[.slice A1_0 l1_0.length c1_0,.int .u64 ji191,.int .u64 ji192,.int .u64 a1_3]) ?_ 3 _ rfl;(with_reducible repeat (first|refine bN ?_ _|refine bD ?_|refine bA ?_ _));refine blk_put (cs:=#[.slice A1_0 l1_0.length c1_0,.int .u64 ji191,.int .u64 a1_2,.int .u64 a1_3]) ?_ 2 _ rfl;(with_reducible repeat (first|refine bN ?_ _|refine bD ?_|refine bA ?_ _));refine blk_put (cs:=#[.slice A1_0 l1_0.length c1_0,.int .u64 a1_1,.int .u64 a1_2,.int .u64 a1_3]) ?_ 1 _ rfl;(with_reducible repeat (first|refine bN ?_ _|refine bD ?_|refine bA ?_ _));exact B440.out) hb);have n10_:=aK (aT (by repeat (first|(with_reducible first|exact HB.out|apply aA|apply aW|apply aD|refine aS ?_ E412.out|refine aS ?_ E413.out|refine aS ?_ E426.out|refine aS ?_ E437.out|refine aS ?_ E440.out)|exact HB.out)) hb);clear HO_413000;clear HO_414000;clear HO_427000;clear HO_438000;clear B412;clear B413;clear B426;clear B437;clear B440;clear HB;have HO_413000:=n0_;have HO_414000:=n1_;have HO_427000:=n2_;have HO_438000:=n3_;have O453:=n4_;have B412:=n5_;have B413:=n6_;have B426:=n7_;have B437:=n8_;have B440:=n9_;have HB:=n10_;clear n0_ n1_ n2_ n3_ n4_ n5_ n6_ n7_ n8_ n9_ n10_;(try clear hb);skip;(try clear ho0))|((with_reducible refine gate_dst (N:=12) rfl ?_);(try (refine gate_guard (by rfl) ?_;dsimp only));refine box_event ?hg (N:=12) ?hd (cs:=#[.slice none 0 0,.int .u64 0,.int .u64 0,.int .u64 0]) (t:=57) ?hr ?_;(case hd => rfl);(case hg => rfl);(case hr => first|(go_simp;done)|(go_simp;rfl));intro gb458 hg w218 hbox hb;have n0_:=aK (Kd.V_below (Kd.V_elderB (by (with_reducible repeat (first|apply vA|apply vN|apply vD));exact HO_413000.out) gb458 (Nat.le_of_eq hg.symm)) hb);have n1_:=aK (Kd.V_below (Kd.V_elderB (by (with_reducible repeat (first|apply vA|apply vN|apply vD));exact HO_414000.out) gb458 (Nat.le_of_eq hg.symm)) hb);have n2_:=aK (Kd.R_below (by (with_reducible repeat (first|apply zA|apply zN|apply zD));exact HO_427000.out) hb);have n3_:=aK (Kd.R_below (by (with_reducible repeat (first|apply zA|apply zN|apply zD));exact HO_438000.out) hb);have n4_:=aK (Kd.R_below (by (with_reducible repeat (first|apply zA|apply zN|apply zD));exact O453.out) hb);have n5_:=aK (aB (g:=gb412) (o:=.cells #[.slice A0_0 l0_0.length c0_0,.int .u64 a0_1,.int .u64 a0_2,.int .u64 a0_3] 54 (0,0)) (by (with_reducible repeat (first|refine bN ?_ _|refine bD ?_|refine bA ?_ _));exact B412.out) hb);have n6_:=aK (aB (g:=gb413) (o:=.cells #[.slice A1_0 l1_0.length c1_0,.int .u64 a1_1,.int .u64 a1_2,.int .u64 a1_3] 54 (0,0)) (by (with_reducible repeat (first|refine bN ?_ _|refine bD ?_|refine bA ?_ _));exact B413.out) hb);have n7_:=aK (aB (g:=gb426) (o:=.cells #[.slice Ao19 t419.length co19,.int .u64 t422,.int .u64 t423,.int .u64 t424] 57 (0,0)) (by (with_reducible repeat (first|refine bN ?_ _|refine bD ?_|refine bA ?_ _));exact B426.out) hb);have n8_:=aK (aB (g:=gb437) (o:=.cells #[.slice Ao47 t430.length co47,.int .u64 t433,.int .u64 t434,.int .u64 t435] 57 (0,0)) (by (with_reducible repeat (first|refine bN ?_ _|refine bD ?_|refine bA ?_ _));exact B437.out) hb);have n9_:=aK (aB (g:=gb440) (o:=.cells #[.slice A1_0 l1_0.length c1_0,.int .u64 ji191,.int .u64 ji192,.int .u64 ji193] 54 (0,0)) (by (with_reducible repeat (first|refine bN ?_ _|refine bD ?_|refine bA ?_ _));exact B440.out) hb);have n10_:=aK (aT (by repeat (first|(with_reducible first|exact HB.out|apply aA|apply aW|apply aD|refine aS ?_ E412.out|refine aS ?_ E413.out|refine aS ?_ E426.out|refine aS ?_ E437.out|refine aS ?_ E440.out)|exact HB.out)) hb);have n11_:=aK (hbox);have n12_:=aK ((by rw [hg];exact (aZ (by repeat (first|(with_reducible first|exact HB.out|apply aA|apply aW|apply aD|refine aS ?_ E412.out|refine aS ?_ E413.out|refine aS ?_ E426.out|refine aS ?_ E437.out|refine aS ?_ E440.out)|exact HB.out))) : w.heap.size ≤ gb458));have n13_:=aK ((by rw [hg];exact (aZ (by repeat (first|(with_reducible first|exact HB.out|apply aA|apply aW|apply aD|refine aS ?_ E412.out|refine aS ?_ E413.out|refine aS ?_ E426.out|refine aS ?_ E437.out|refine aS ?_ E440.out)|exact HB.out))) : w.heap.size ≤ gb458));have n14_:=aK ((by rw [hg];exact Nat.ne_of_lt (blk_lt (g:=gb412) (o:=.cells #[.slice A0_0 l0_0.length c0_0,.int .u64 a0_1,.int .u64 a0_2,.int .u64 a0_3] 54 (0,0)) (by (with_reducible repeat (first|refine bN ?_ _|refine bD ?_|refine bA ?_ _));exact B412.out)) : gb412 ≠ gb458));have n15_:=aK ((by rw [hg];exact Nat.ne_of_gt (blk_lt (g:=gb412) (o:=.cells #[.slice A0_0 l0_0.length c0_0,.int .u64 a0_1,.int .u64 a0_2,.int .u64 a0_3] 54 (0,0)) (by (with_reducible repeat (first|refine bN ?_ _|refine bD ?_|refine bA ?_ _));exact B412.out)) : gb458 ≠ gb412));have n16_:=aK ((by rw [hg];exact Nat.ne_of_lt (blk_lt (g:=gb413) (o:=.cells #[.slice A1_0 l1_0.length c1_0,.int .u64 a1_1,.int .u64 a1_2,.int .u64 a1_3] 54 (0,0)) (by (with_reducible repeat (first|refine bN ?_ _|refine bD ?_|refine bA ?_ _));exact B413.out)) : gb413 ≠ gb458));have n17_:=aK ((by rw [hg];exact Nat.ne_of_gt (blk_lt (g:=gb413) (o:=.cells #[.slice A1_0 l1_0.length c1_0,.int .u64 a1_1,.int .u64 a1_2,.int .u64 a1_3] 54 (0,0)) (by (with_reducible repeat (first|refine bN ?_ _|refine bD ?_|refine bA ?_ _));exact B413.out)) : gb458 ≠ gb413));have n18_:=aK ((by rw [hg];exact Nat.ne_of_lt (blk_lt (g:=gb426) (o:=.cells #[.slice Ao19 t419.length co19,.int .u64 t422,.int .u64 t423,.int .u64 t424] 57 (0,0)) (by (with_reducible repeat (first|refine bN ?_ _|refine bD ?_|refine bA ?_ _));exact B426.out)) : gb426 ≠ gb458));have n19_:=aK ((by rw [hg];exact Nat.ne_of_gt (blk_lt (g:=gb426) (o:=.cells #[.slice Ao19 t419.length co19,.int .u64 t422,.int .u64 t423,.int .u64 t424] 57 (0,0)) (by (with_reducible repeat (first|refine bN ?_ _|refine bD ?_|refine bA ?_ _));exact B426.out)) : gb458 ≠ gb426));have n20_:=aK ((by rw [hg];exact Nat.ne_of_lt (blk_lt (g:=gb437) (o:=.cells #[.slice Ao47 t430.length co47,.int .u64 t433,.int .u64 t434,.int .u64 t435] 57 (0,0)) (by (with_reducible repeat (first|refine bN ?_ _|refine bD ?_|refine bA ?_ _));exact B437.out)) : gb437 ≠ gb458));have n21_:=aK ((by rw [hg];exact Nat.ne_of_gt (blk_lt (g:=gb437) (o:=.cells #[.slice Ao47 t430.length co47,.int .u64 t433,.int .u64 t434,.int .u64 t435] 57 (0,0)) (by (with_reducible repeat (first|refine bN ?_ _|refine bD ?_|refine bA ?_ _));exact B437.out)) : gb458 ≠ gb437));have n22_:=aK ((by rw [hg];exact Nat.ne_of_lt (blk_lt (g:=gb440) (o:=.cells #[.slice A1_0 l1_0.length c1_0,.int .u64 ji191,.int .u64 ji192,.int .u64 ji193] 54 (0,0)) (by (with_reducible repeat (first|refine bN ?_ _|refine bD ?_|refine bA ?_ _));exact B440.out)) : gb440 ≠ gb458));have n23_:=aK ((by rw [hg];exact Nat.ne_of_gt (blk_lt (g:=gb440) (o:=.cells #[.slice A1_0 l1_0.length c1_0,.int .u64 ji191,.int .u64 ji192,.int .u64 ji193] 54 (0,0)) (by (with_reducible repeat (first|refine bN ?_ _|refine bD ?_|refine bA ?_ _));exact B440.out)) : gb458 ≠ gb440));clear HO_413000;clear HO_414000;clear HO_427000;clear HO_438000;clear O453;clear B412;clear B413;clear B426;clear B437;clear B440;clear HB;have HO_413000:=n0_;have HO_414000:=n1_;have HO_427000:=n2_;have HO_438000:=n3_;have O453:=n4_;have B412:=n5_;have B413:=n6_;have B426:=n7_;have B437:=n8_;have B440:=n9_;have HB:=n10_;have B458:=n11_;have W458:=n12_;have E458:=n13_;have N412_458:=n14_;have N458_412:=n15_;have N413_458:=n16_;have N458_413:=n17_;have N426_458:=n18_;have N458_426:=n19_;have N437_458:=n20_;have N458_437:=n21_;have N440_458:=n22_;have N458_440:=n23_;clear n0_ n1_ n2_ n3_ n4_ n5_ n6_ n7_ n8_ n9_ n10_ n11_ n12_ n13_ n14_ n15_ n16_ n17_ n18_ n19_ n20_ n21_ n22_ n23_;clear hb hbox hg;obtain ⟨Ao219,co219,eo219⟩:=Kd.R_slice O453.out;subst eo219;have hnb220:=N458_412.out;have hnc220:=N412_458.out;have hnb221:=N458_413.out;have hnc221:=N413_458.out;have hnb222:=N458_426.out;have hnc222:=N426_458.out;have hnb223:=N458_437.out;have hnc223:=N437_458.out;have hnb224:=N458_440.out;have hnc224:=N440_458.out;have z225_0 : w218.cell? ⟨gb458,0,none⟩ = some (.slice none 0 0):=(aC B458.out 0).trans rfl;have z225_1 : w218.cell? ⟨gb458,1,none⟩ = some (.int .u64 0):=(aC B458.out 1).trans rfl;have z225_2 : w218.cell? ⟨gb458,2,none⟩ = some (.int .u64 0):=(aC B458.out 2).trans rfl;have z225_3 : w218.cell? ⟨gb458,3,none⟩ = some (.int .u64 0):=(aC B458.out 3).trans rfl;have f225_0:=aF B458.out 0;have f225_1:=aF B458.out 1;have f225_2:=aF B458.out 2;have f225_3:=aF B458.out 3;have z226_0 : w218.cell? ⟨gb440,0,none⟩ = some (.slice A1_0 l1_0.length c1_0):=(aC B440.out 0).trans rfl;have z226_1 : w218.cell? ⟨gb440,1,none⟩ = some (.int .u64 ji191):=(aC B440.out 1).trans rfl;have z226_2 : w218.cell? ⟨gb440,2,none⟩ = some (.int .u64 ji192):=(aC B440.out 2).trans rfl;have z226_3 : w218.cell? ⟨gb440,3,none⟩ = some (.int .u64 ji193):=(aC B440.out 3).trans rfl;have f226_0:=aF B440.out 0;have f226_1:=aF B440.out 1;have f226_2:=aF B440.out 2;have f226_3:=aF B440.out 3)|((with_reducible refine gate_callee (f:=33) rfl ?_);refine goesL_ (some 145) rfl rfl Try.func33 (by kernel_rfl) rfl #[.agg #[.slice A1_0 l1_0.length c1_0,.int .u64 ji191,.int .u64 ji192,.int .u64 ji193]] rfl (by (try simp only [List.map_toArray,List.map_cons,List.map_nil]);first|done|(simp only [hji191,hji192,hji193];rfl)|rfl|(simp only [List.length_drop,List.length_take];rfl)) ?_;(with_reducible refine (edit_Right.calls kj148 _ _ l1_0 ji191 ji192 ji193 t459 _ ?side1 ?side2 A195.out).mono ?_);(case side1 => refine (aO (e:=62) (base:=w.heap.size) (ok:=fun k_ => (((((P0_0_ k_ ∨ P1_0_ k_) ∨ w.heap.size ≤ k_) ∧ (nB k_ Ao19 t419.length co19 ∧ (nB k_ Ao47 t430.length co47 ∧ (k_ ≠ gb412 ∧ (k_ ≠ gb413 ∧ (k_ ≠ gb426 ∧ (k_ ≠ gb437 ∧ k_ ≠ gb440))))))) ∧ nB k_ Ao219 t451.length co219) ∧ k_ ≠ gb458)) (n:=l1_0.length) (c:=c1_0) ?_).2.2;exact (by (with_reducible repeat (first|apply vA|apply vN|apply vD));exact (aN (aU (p:=⟨gb458,3,none⟩) (aU (p:=⟨gb458,2,none⟩) (aU (p:=⟨gb458,1,none⟩) (aU (p:=⟨gb458,0,none⟩) (aN HO_414000.out (fun k_ hk => (⟨hk,hk.2⟩ : _ ∧ k_ ≠ gb458))) (fun _ hk => hk.2) (.slice Ao219 t451.length co219)) (fun _ hk => hk.2) (.int .u64 t454)) (fun _ hk => hk.2) (.int .u64 t455)) (fun _ hk => hk.2) (.int .u64 t456)) (fun _ h_ => h_.1))));(case side2 => exact (aO HO_414000.out).2.1);rintro e w227 ⟨rfl,hb⟩;refine ⟨_,rfl,?_⟩;have n11_:=aK (aT (by repeat (first|(with_reducible first|exact HB.out|apply aA|apply aW|apply aD|refine aS ?_ E412.out|refine aS ?_ E413.out|refine aS ?_ E426.out|refine aS ?_ E437.out|refine aS ?_ E440.out|refine aS ?_ E458.out)|exact HB.out)) hb);clear HB;have HB:=n11_;clear n11_;(try clear hb))|(go_at_call 31;(with_reducible refine (ratlinelaw09_awake.calls  t460 _ A197.out).mono ?_);rintro e w228 ⟨rfl,hb⟩;have n11_:=aK (aT (by repeat (first|(with_reducible first|exact HB.out|apply aA|apply aW|apply aD|refine aS ?_ E412.out|refine aS ?_ E413.out|refine aS ?_ E426.out|refine aS ?_ E437.out|refine aS ?_ E440.out|refine aS ?_ E458.out)|exact HB.out)) hb);clear HB;have HB:=n11_;clear n11_;(try clear hb)))
    go_ret
    exact ⟨by first|rfl|(simp [errW_none,errW_some] <;> rfl)|(simp only [← hji191,← hji192,← hji193];first|rfl|(simp [errW_none,errW_some] <;> rfl))|(simp [*,errW_none,errW_some] <;> rfl),by repeat (first|(with_reducible first|exact HB.out|apply aA|apply aW|apply aD|refine aS ?_ E412.out|refine aS ?_ E413.out|refine aS ?_ E426.out|refine aS ?_ E437.out|refine aS ?_ E440.out|refine aS ?_ E458.out)|exact HB.out)⟩
end Go.Proofs.Ytlaihdipagejfaa.P

end
