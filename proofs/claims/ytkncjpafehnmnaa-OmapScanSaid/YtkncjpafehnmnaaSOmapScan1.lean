/- Proved here: what the row of OmapScan needs, part 1. Conditions: those of each theorem. Written for this claim by programs; what the claim does not use is left out. -/
import Derived.Test.YtkncjpafehnmnaaProg
import Derived.Below
import Derived.Deep.Draws
import Derived.Deep.AppendLies
import Derived.Maps.AppendAt
import Derived.OwnWalk
import Derived.Laws.BytesArg
import Derived.Laws.MakeOwn
import Derived.Laws.OwnMore
import Derived.Deep.OwnRows
import Derived.Tactics
import Derived.Lib.ConvBytes
import Derived.Laws.Slices
import Derived.WalkKit
import Derived.KernelRfl
import Derived.RowKit3
import Derived.Deep.LoopGhost
import Derived.Deep.QuietTactic
import Derived.BigQuiet
import Derived.WideLaws
import Derived.Deep.DeepCutAuto
import Derived.Deep.CutBlock
import Derived.Deep.RegionHeld3
import Derived.Laws.Rows
import Derived.Lib.AppendStr
import Derived.ArgAppend
import Derived.Laws.IdiomCopy
import Derived.OrdersHeld
import Derived.Laws.BitsLemmas
import Derived.RowKit
import Derived.RangeFuncNested
import Derived.RangeFuncBound
import Derived.RangeFuncCalls
import Derived.RangeFuncLeaves
import Derived.OwnWalkIn
import Derived.Lib.Strings
import Derived.TacticsInMore
import Derived.Shelf.Abstract
import Derived.Shelf.RegionOpen
import Derived.Lib.SliceRun
import Derived.Lib.AppendZerosOnto
import Derived.Lib.Overlaps
import Derived.Deep.RegionLaw
import Derived.Lib.Walk
import Derived.Test.YtkncjpafehnmnaaSOmapScan0
section
set_option linter.unusedVariables false
namespace Go.Proofs.YtkncjpafehnmnaaG
open Go Go.RowKit Go.Proofs.YtkncjpafehnmnaaW.PrintWords Go.Proofs.YtkncjpafehnmnaaW.PrintLast
theorem bytesLess_gtr : ∀ x y : List UInt8, (!(Op.bytesLess x y || x == y)) = Op.bytesLess y x
  | [], [] => rfl
  | _ :: _, [] => rfl
  | [], _ :: _ => rfl
  | a :: x, b :: y => by
    have ih := bytesLess_gtr x y
    have hc : ((a :: x) == (b :: y)) = (a == b && x == y) := rfl
    rw [hc]
    simp only [Op.bytesLess]
    by_cases h1 : a < b
    · have h2 : ¬ b < a := fun h => absurd (UInt8.lt_trans h1 h) (UInt8.lt_irrefl _)
      have h3 : ¬ b = a := fun h => by subst h; exact UInt8.lt_irrefl _ h1
      simp [h1, h2, h3]
    · by_cases h2 : b < a
      · have h3 : ¬ a = b := fun h => by subst h; exact UInt8.lt_irrefl _ h2
        simp [h1, h2, h3]
      · have h3 : a = b := UInt8.le_antisymm (UInt8.not_lt.1 h2) (UInt8.not_lt.1 h1)
        subst h3
        simp only [h1, decide_false, Bool.false_or, beq_self_eq_true, Bool.true_and]
        exact ih
theorem str_gtr (t : TypeId) (a b : ByteArray) : binOp .gtr t (.string a) (.string b) = pure (.bool (Op.bytesLess b.toList a.toList)) := by
  rw [← bytesLess_gtr]; simp [binOp, Op.stringOp]
theorem str_geq (t : TypeId) (a b : ByteArray) : binOp .geq t (.string a) (.string b) = pure (.bool !(Op.bytesLess a.toList b.toList)) := by simp [binOp, Op.stringOp]
theorem str_leq (t : TypeId) (a b : ByteArray) : binOp .leq t (.string a) (.string b) = pure (.bool !(Op.bytesLess b.toList a.toList)) := by
  rw [← bytesLess_gtr]; simp [binOp, Op.stringOp]
section
variable {P : Program} {ops : Array Oper} {Q : Exit → Act → World → Prop}
theorem gate_calleeT {rest : List Oper} {o : Oper} {a : Act} {W : World} {t : Tmp} {as_ : Array Operand} {ts : Array TypeId} (_ho : o.op = .call { callee := .value (.tmp t), args := as_, argTypes := ts }) (h : wpList P ops Q (o :: rest) a W) : wpList P ops Q (o :: rest) a W := h
/-- A call of a function's value, as_ an arm of go_wp2_with. -/
theorem goesT_ {rest : List Oper} {oi : Oper} {a : Act} {w : World} {f : FuncId} (kt : Tmp) (hk : a.tmps.getD kt undef = .func (.func f) #[] #[]) (N : Option Tmp) (hd : oi.dst = N) (hg : oi.guard = none) {fn : Func} {as_ : Array Operand} {ts : Array TypeId} (hf : P.funcs[f]? = some fn) (hname : (fn.name == "runtime.NumGoroutine") = false) (hb : fn.body.isSome = true) (args : Array Value)
    (hop : oi.op = .call { callee := .value (.tmp kt), args := as_, argTypes := ts }) (hargs : as_.map a.eval = args)
    (h : Calls P f args w fun e w' => ∃ v, e = .returned v ∧ wpList P ops Q rest (a.put N v) w') : wpList P ops Q (oi :: rest) a w := by
  refine wpList_plain hg fun K hK => ?_
  have he := enters_ hf hname hb args w
  have hk2 : a.eval (.tmp kt) = .func (.func f) #[] #[] := hk
  have hrun : (execOp a.eval oi).run P w = .ok (.enter f args) w := by
    unfold execOp
    simp [hop, resolve, Deferred.ofValue, invoke, hk2, hargs, he]
  unfold Oper.wp
  rw [hrun, Oper.upon_enter]
  refine h.mono fun e w'' hh => ?_
  obtain ⟨v, rfl, hk⟩ := hh
  subst hd
  exact hK _ _ hk
theorem goesT1_ {oi : Oper} {N : Option Tmp} {a : Act} {w : World} {K : Act → World → Prop} {f : FuncId} (kt : Tmp) (hk : a.tmps.getD kt undef = .func (.func f) #[] #[]) {fn : Func} {as_ : Array Operand} {ts : Array TypeId} (hf : P.funcs[f]? = some fn) (hname : (fn.name == "runtime.NumGoroutine") = false) (hb : fn.body.isSome = true) (args : Array Value)
    (hw : Region.wanted oi (yielded ops a.tmps) = true) (hN : oi.dst = N) (hop : oi.op = .call { callee := .value (.tmp kt), args := as_, argTypes := ts }) (hargs : as_.map a.eval = args)
    (h : Calls P f args w fun e w' => ∃ v, e = .returned v ∧ K (a.put N v) w') : if Region.wanted oi (yielded ops a.tmps) = true then Oper.wp P oi a w K Q else K (a.put N undef) w := by
  refine call_ f args hw hN ?_ h
  have he := enters_ hf hname hb args w
  have hk2 : a.eval (.tmp kt) = .func (.func f) #[] #[] := hk
  unfold execOp
  simp [hop, resolve, Deferred.ofValue, invoke, hk2, hargs, he]
end
end Go.Proofs.YtkncjpafehnmnaaG

end

section
namespace Go.Proofs.Ytkncjpafehnmnaa.P
open Go.RowKit Go.Proofs.YtkncjpafehnmnaaG Go.Proofs.YtkncjpafehnmnaaW.PrintWords Go.Proofs.YtkncjpafehnmnaaW.PrintLast Go.Proofs.YtkncjpafehnmnaaW.PrintMore
attribute [local go_sem] str_gtr str_geq str_leq max2_int min2_int max_two min_two max_three min_three max_four min_four   -- for this text's walks alone
set_option linter.unusedVariables false
set_option linter.unusedSimpArgs false



def errW : Option Int → Value
  | none => .nilIface
  | some c => .iface 0 (.int .i64 c)
theorem errW_none : errW none = .nilIface := rfl
theorem errW_some (c : Int) : errW (some c) = .iface 0 (.int .i64 c) := rfl

theorem info39 : (Try.prog.info? 39).map (fun i => (i.zero, i.size, i.bytes)) = some (some (.agg #[(.string ⟨#[]⟩), (.string ⟨#[]⟩)]), 2, 32) := by kernel_rfl
-- the values' own types
structure S39 where
  f0 : ByteArray
  f1 : ByteArray
def z39 : S39 := ⟨(⟨#[]⟩ : ByteArray), (⟨#[]⟩ : ByteArray)⟩
def k39 : Kd S39 := Kd.iso (Kd.pair Kd.string Kd.string) (fun x : S39 => (x.f0, x.f1))
theorem k39_open {w : World} {x : S39} {cs : List Value} (h : k39.K w x cs) : cs = [.string x.f0, .string x.f1] := by
  obtain ⟨_, _, rfl, rfl, rfl⟩ := h
  exact rfl
theorem k39_openM {w : World} {base : Nat} {ok : Nat → Prop} {x : S39} {cs : List Value} (h : k39.M w base ok x cs) : cs = [.string x.f0, .string x.f1] := by
  obtain ⟨_, _, rfl, rfl, rfl⟩ := h
  exact rfl
theorem k39_mk (w : World) (x : S39)  : k39.K w x [.string x.f0, .string x.f1] := ⟨[.string x.f0], [.string x.f1], rfl, rfl, rfl⟩
theorem k39_mkM (w : World) (base : Nat) (ok : Nat → Prop) (x : S39)  : k39.M w base ok x [.string x.f0, .string x.f1] := ⟨[.string x.f0], [.string x.f1], rfl, rfl, rfl⟩
def rd_T39 (xs : List S39) (i : Int) : S39 := xs.getD i.toNat z39
theorem at_T39 {w : World} {A : Option Addr} {n : Nat} {xs : List S39} (h : Kd.C k39 w A n xs) (i : Int) (h0 : 0 ≤ i) (h1 : i < n) : ∃ ad , A = some ad ∧ w.cell? (ad.add (i.toNat * 2)) = some (.string (rd_T39 xs i).f0) ∧ w.cell? ⟨(ad.add (i.toNat * 2)).block, (ad.add (i.toNat * 2)).off + 1, none⟩ = some (.string (rd_T39 xs i).f1) := by
  obtain ⟨ad, c, e, _, hK, hc0⟩ := Kd.C_get h z39 i h0 h1
  have hc : ∀ j u, c[j]? = some u → w.cell? (ad.add (i.toNat * 2 + j)) = some u := hc0
  obtain rfl := k39_open hK
  exact ⟨ad, e, hc 0 _ rfl, by rw [← add_field _ _ 1 (by omega)]; exact hc 1 _ rfl⟩

structure S36 where
  f0 : Int
  f1 : ByteArray
  f2 : ByteArray
def z36 : S36 := ⟨(0 : Int), (⟨#[]⟩ : ByteArray), (⟨#[]⟩ : ByteArray)⟩
def k36 : Kd S36 := Kd.iso (Kd.pair (Kd.int .u8) (Kd.pair Kd.string Kd.string)) (fun x : S36 => (x.f0, x.f1, x.f2))
theorem k36_open {w : World} {x : S36} {cs : List Value} (h : k36.K w x cs) : cs = [.int .u8 x.f0, .string x.f1, .string x.f2] := by
  obtain ⟨_, _, rfl, rfl, ⟨_, _, rfl, rfl, rfl⟩⟩ := h
  exact rfl
theorem k36_mkM (w : World) (base : Nat) (ok : Nat → Prop) (x : S36)  : k36.M w base ok x [.int .u8 x.f0, .string x.f1, .string x.f2] := ⟨[.int .u8 x.f0], [.string x.f1, .string x.f2], rfl, rfl, ⟨[.string x.f1], [.string x.f2], rfl, rfl, rfl⟩⟩
def rd_T36 (xs : List S36) (i : Int) : S36 := xs.getD i.toNat z36
theorem at_T36 {w : World} {A : Option Addr} {n : Nat} {xs : List S36} (h : Kd.C k36 w A n xs) (i : Int) (h0 : 0 ≤ i) (h1 : i < n) : ∃ ad , A = some ad ∧ w.cell? (ad.add (i.toNat * 3)) = some (.int .u8 (rd_T36 xs i).f0) ∧ w.cell? ⟨(ad.add (i.toNat * 3)).block, (ad.add (i.toNat * 3)).off + 1, none⟩ = some (.string (rd_T36 xs i).f1) ∧ w.cell? ⟨(ad.add (i.toNat * 3)).block, (ad.add (i.toNat * 3)).off + 2, none⟩ = some (.string (rd_T36 xs i).f2) := by
  obtain ⟨ad, c, e, _, hK, hc0⟩ := Kd.C_get h z36 i h0 h1
  have hc : ∀ j u, c[j]? = some u → w.cell? (ad.add (i.toNat * 3 + j)) = some u := hc0
  obtain rfl := k36_open hK
  exact ⟨ad, e, hc 0 _ rfl, by rw [← add_field _ _ 1 (by omega)]; exact hc 1 _ rfl, by rw [← add_field _ _ 2 (by omega)]; exact hc 2 _ rfl⟩

end Go.Proofs.Ytkncjpafehnmnaa.P

end

section
namespace Go.Proofs.Ytkncjpafehnmnaa.P
open Go.RowKit Go.Proofs.YtkncjpafehnmnaaG Go.Proofs.YtkncjpafehnmnaaW.PrintWords Go.Proofs.YtkncjpafehnmnaaW.PrintLast Go.Proofs.YtkncjpafehnmnaaW.PrintMore
attribute [local go_sem] str_gtr str_geq str_leq max2_int min2_int max_two min_two max_three min_three max_four min_four   -- for this text's walks alone
set_option linter.unusedVariables false
set_option linter.unusedSimpArgs false

def ratlinelaw12_few.l0 : Nat → List (S39) → Int → List (S39) → Int → Int → Option (Bool)
  | 0, _, _, _, _, _ => none
  | k + 1, x0, x1, x7, x8, x9 => if x9 < x8 then (if 0 ≤ x9 then (if x9 < (x7.length : Int) then (if (((rd_T39 x7 x9).f0).size : Int) > 70 then (some false) else (if (((rd_T39 x7 x9).f1).size : Int) > 300 then (some false) else (ratlinelaw12_few.l0 k x0 x1 x7 x8 (wrap64 (x9 + 1))))) else (none)) else (none)) else (some (decide ((x0.length : Int) ≤ x1)))
def ratlinelaw12_few.f (k : Nat) (l0 : List (S39)) (a1 : Int) : Option (Bool) := ratlinelaw12_few.l0 k l0 a1 l0 (l0.length : Int) 0
set_option maxHeartbeats 8000000 in
set_option maxRecDepth 100000 in
theorem ratlinelaw12_few.calls (k : Nat) (A0 : Option Addr) (c0 : Nat) (l0 : List (S39)) (a1 : Int) (r : Bool) (w : World) (hr0 : Kd.C k39 w A0 l0.length l0) (hc0 : l0.length ≤ c0) (h : ratlinelaw12_few.f k l0 a1 = some r) :
    Calls Try.prog 13 #[.slice A0 l0.length c0, .int .i64 a1] w fun e w' => e = .returned (.bool r) ∧ Below w.heap.size w w' := by
  have hu39 := Try.underlying39
  have HR0 := Aside0.mk hr0
  have HC0 := Aside0.mk hc0
  clear hr0 hc0
  have HB := Aside0.mk (Below.refl w.heap.size w)
  have H : (ratlinelaw12_few.l0 k l0 a1 l0 (l0.length : Int) 0) = some r := h
  clear h
  have H' := Aside0.mk H
  clear H
  go_enter Try.func13, Try.ntmps13
  go_wp2
  go_loopg [9] k (fun kq v9 w' => ∃ (x9_1 : Int), v9 = .int .i64 x9_1 ∧ Aside0 (ratlinelaw12_few.l0 kq l0 a1 l0 (l0.length : Int) x9_1 = some r) ∧ Aside0 (kq ≤ k) ∧ Aside0 (Below w.heap.size w w'))
  case atStart => exact ⟨(0), (by first | rfl | (simp; done) | (simp [*]; done)), H', ⟨Nat.le_refl _⟩, ⟨by repeat (first | (with_reducible first | exact HB.out | apply below_alloc | apply pw_below_drewN | apply below_drew1) | exact HB.out)⟩⟩
  case round =>
    clear H'
    try clear c1
    try clear p2
    obtain ⟨x9_1, rfl, HA, HK1, HB⟩ := hrel
    cases gk with
    | zero => exact absurd HA.out (by simp [ratlinelaw12_few.l0])
    | succ k1 =>
      have H := HA.out
      clear HA
      simp only [ratlinelaw12_few.l0] at H
      by_cases c3 : x9_1 < (l0.length : Int)
      · rw [if_pos c3] at H
        have c3b0 : decide (x9_1 < (l0.length : Int)) = true := decide_eq_true c3
        clear c3
        by_cases c4 : 0 ≤ x9_1
        · rw [if_pos c4] at H
          have c4b0 : decide (0 ≤ x9_1) = true := decide_eq_true c4
          clear c4
          by_cases c5 : x9_1 < (l0.length : Int)
          · rw [if_pos c5] at H
            have c5b0 : decide (x9_1 < (l0.length : Int)) = true := decide_eq_true c5
            clear c5
            by_cases c6 : (((rd_T39 l0 x9_1).f0).size : Int) > 70
            · rw [if_pos c6] at H
              have c6b0 : decide (70 < (((rd_T39 l0 x9_1).f0).size : Int)) = true := decide_eq_true c6
              have c6b1 : decide (70 < ((rd_T39 l0 x9_1).f0).size) = true := decide_eq_true (by omega)
              clear c6
              obtain rfl := Option.some.inj H
              have p101 : 0 ≤ (x9_1 : Int) := of_decide_eq_true (by first | (with_reducible assumption) | assumption)
              have q101 : x9_1 < (l0.length : Int) := of_decide_eq_true (by first | (with_reducible assumption) | assumption)
              obtain ⟨ad101, e101, hx101_0, hx101_1⟩ := at_T39 HR0.out x9_1 p101 q101
              cases e101
              replace hx101_0 := (HB.out.cell (World.block_lt_of_cell? w _ hx101_0)).trans hx101_0
              replace hx101_1 := (HB.out.cell (World.block_lt_of_cell? w _ hx101_1)).trans hx101_1
              replace p101 := eq_true p101
              replace q101 := eq_true q101
              go_wp2_with (first | ((with_reducible refine gate_dst (N := 6) rfl ?_); (try (refine gate_guard (by rfl) ?_; dsimp only)); refine box_event ?hg (N := 6) ?hd (cs := #[.string (⟨#[]⟩ : ByteArray), .string (⟨#[]⟩ : ByteArray)]) (t := 39) ?hr ?_; (case hd => rfl); (case hg => rfl); (case hr => first | (go_simp; done) | (go_simp; rfl)); intro gb102 hg w7 hbox hb; have n0_ := Aside0.mk (below_step (by repeat (first | (with_reducible first | exact HB.out | apply below_alloc | apply pw_below_drewN | apply below_drew1) | exact HB.out)) hb); have n1_ := Aside0.mk (hbox); have n2_ := Aside0.mk ((by rw [hg]; exact (below_size (by repeat (first | (with_reducible first | exact HB.out | apply below_alloc | apply pw_below_drewN | apply below_drew1) | exact HB.out))) : w.heap.size ≤ gb102)); have n3_ := Aside0.mk ((by rw [hg]; exact (below_size (by repeat (first | (with_reducible first | exact HB.out | apply below_alloc | apply pw_below_drewN | apply below_drew1) | exact HB.out))) : w.heap.size ≤ gb102)); clear HB; have HB := n0_; have BK102 := n1_; have GW102 := n2_; have GE102 := n3_; clear n0_ n1_ n2_ n3_; clear hb hbox hg; have hcz8_0 : w7.cell? ⟨gb102, 0, none⟩ = some (.string (⟨#[]⟩ : ByteArray)) := (blk_cell BK102.out 0).trans rfl; have hcz8_1 : w7.cell? ⟨gb102, 1, none⟩ = some (.string (⟨#[]⟩ : ByteArray)) := (blk_cell BK102.out 1).trans rfl; have hfz8_0 := blk_frozen BK102.out 0; have hfz8_1 := blk_frozen BK102.out 1))
              go_ret
              exact ⟨by first | rfl | (simp [errW_none, errW_some] <;> rfl) | (simp [*, errW_none, errW_some] <;> rfl), by repeat (first | (with_reducible first | exact HB.out | apply below_alloc | apply pw_below_drewN | apply below_drew1 | refine below_set ?_ GE102.out) | exact HB.out)⟩
            · rw [if_neg c6] at H
              have c6b0 : decide (70 < (((rd_T39 l0 x9_1).f0).size : Int)) = false := decide_eq_false c6
              have c6b1 : decide (70 < ((rd_T39 l0 x9_1).f0).size) = false := decide_eq_false (by omega)
              clear c6
              by_cases c9 : (((rd_T39 l0 x9_1).f1).size : Int) > 300
              · rw [if_pos c9] at H
                have c9b0 : decide (300 < (((rd_T39 l0 x9_1).f1).size : Int)) = true := decide_eq_true c9
                have c9b1 : decide (300 < ((rd_T39 l0 x9_1).f1).size) = true := decide_eq_true (by omega)
                clear c9
                obtain rfl := Option.some.inj H
                have p101 : 0 ≤ (x9_1 : Int) := of_decide_eq_true (by first | (with_reducible assumption) | assumption)
                have q101 : x9_1 < (l0.length : Int) := of_decide_eq_true (by first | (with_reducible assumption) | assumption)
                obtain ⟨ad101, e101, hx101_0, hx101_1⟩ := at_T39 HR0.out x9_1 p101 q101
                cases e101
                replace hx101_0 := (HB.out.cell (World.block_lt_of_cell? w _ hx101_0)).trans hx101_0
                replace hx101_1 := (HB.out.cell (World.block_lt_of_cell? w _ hx101_1)).trans hx101_1
                replace p101 := eq_true p101
                replace q101 := eq_true q101
                go_wp2_with (first | ((with_reducible refine gate_dst (N := 6) rfl ?_); (try (refine gate_guard (by rfl) ?_; dsimp only)); refine box_event ?hg (N := 6) ?hd (cs := #[.string (⟨#[]⟩ : ByteArray), .string (⟨#[]⟩ : ByteArray)]) (t := 39) ?hr ?_; (case hd => rfl); (case hg => rfl); (case hr => first | (go_simp; done) | (go_simp; rfl)); intro gb102 hg w10 hbox hb; have n0_ := Aside0.mk (below_step (by repeat (first | (with_reducible first | exact HB.out | apply below_alloc | apply pw_below_drewN | apply below_drew1) | exact HB.out)) hb); have n1_ := Aside0.mk (hbox); have n2_ := Aside0.mk ((by rw [hg]; exact (below_size (by repeat (first | (with_reducible first | exact HB.out | apply below_alloc | apply pw_below_drewN | apply below_drew1) | exact HB.out))) : w.heap.size ≤ gb102)); have n3_ := Aside0.mk ((by rw [hg]; exact (below_size (by repeat (first | (with_reducible first | exact HB.out | apply below_alloc | apply pw_below_drewN | apply below_drew1) | exact HB.out))) : w.heap.size ≤ gb102)); clear HB; have HB := n0_; have BK102 := n1_; have GW102 := n2_; have GE102 := n3_; clear n0_ n1_ n2_ n3_; clear hb hbox hg; have hcz11_0 : w10.cell? ⟨gb102, 0, none⟩ = some (.string (⟨#[]⟩ : ByteArray)) := (blk_cell BK102.out 0).trans rfl; have hcz11_1 : w10.cell? ⟨gb102, 1, none⟩ = some (.string (⟨#[]⟩ : ByteArray)) := (blk_cell BK102.out 1).trans rfl; have hfz11_0 := blk_frozen BK102.out 0; have hfz11_1 := blk_frozen BK102.out 1))
                go_ret
                exact ⟨by first | rfl | (simp [errW_none, errW_some] <;> rfl) | (simp [*, errW_none, errW_some] <;> rfl), by repeat (first | (with_reducible first | exact HB.out | apply below_alloc | apply pw_below_drewN | apply below_drew1 | refine below_set ?_ GE102.out) | exact HB.out)⟩
              · rw [if_neg c9] at H
                have c9b0 : decide (300 < (((rd_T39 l0 x9_1).f1).size : Int)) = false := decide_eq_false c9
                have c9b1 : decide (300 < ((rd_T39 l0 x9_1).f1).size) = false := decide_eq_false (by omega)
                clear c9
                have H' := Aside0.mk H
                clear H
                have p101 : 0 ≤ (x9_1 : Int) := of_decide_eq_true (by first | (with_reducible assumption) | assumption)
                have q101 : x9_1 < (l0.length : Int) := of_decide_eq_true (by first | (with_reducible assumption) | assumption)
                obtain ⟨ad101, e101, hx101_0, hx101_1⟩ := at_T39 HR0.out x9_1 p101 q101
                cases e101
                replace hx101_0 := (HB.out.cell (World.block_lt_of_cell? w _ hx101_0)).trans hx101_0
                replace hx101_1 := (HB.out.cell (World.block_lt_of_cell? w _ hx101_1)).trans hx101_1
                replace p101 := eq_true p101
                replace q101 := eq_true q101
                go_wp2_with (first | ((with_reducible refine gate_dst (N := 6) rfl ?_); (try (refine gate_guard (by rfl) ?_; dsimp only)); refine box_event ?hg (N := 6) ?hd (cs := #[.string (⟨#[]⟩ : ByteArray), .string (⟨#[]⟩ : ByteArray)]) (t := 39) ?hr ?_; (case hd => rfl); (case hg => rfl); (case hr => first | (go_simp; done) | (go_simp; rfl)); intro gb102 hg w12 hbox hb; have n0_ := Aside0.mk (below_step (by repeat (first | (with_reducible first | exact HB.out | apply below_alloc | apply pw_below_drewN | apply below_drew1) | exact HB.out)) hb); have n1_ := Aside0.mk (hbox); have n2_ := Aside0.mk ((by rw [hg]; exact (below_size (by repeat (first | (with_reducible first | exact HB.out | apply below_alloc | apply pw_below_drewN | apply below_drew1) | exact HB.out))) : w.heap.size ≤ gb102)); have n3_ := Aside0.mk ((by rw [hg]; exact (below_size (by repeat (first | (with_reducible first | exact HB.out | apply below_alloc | apply pw_below_drewN | apply below_drew1) | exact HB.out))) : w.heap.size ≤ gb102)); clear HB; have HB := n0_; have BK102 := n1_; have GW102 := n2_; have GE102 := n3_; clear n0_ n1_ n2_ n3_; clear hb hbox hg; have hcz13_0 : w12.cell? ⟨gb102, 0, none⟩ = some (.string (⟨#[]⟩ : ByteArray)) := (blk_cell BK102.out 0).trans rfl; have hcz13_1 : w12.cell? ⟨gb102, 1, none⟩ = some (.string (⟨#[]⟩ : ByteArray)) := (blk_cell BK102.out 1).trans rfl; have hfz13_0 := blk_frozen BK102.out 0; have hfz13_1 := blk_frozen BK102.out 1))
                go_roundg k1
                case measure => have := HK1.out; omega
                case rel => exact ⟨(wrap64 (x9_1 + 1)), (by first | rfl | (simp; done) | (simp [*]; done)), H', ⟨by have := HK1.out; omega⟩, ⟨by repeat (first | (with_reducible first | exact HB.out | apply below_alloc | apply pw_below_drewN | apply below_drew1 | refine below_set ?_ GE102.out) | exact HB.out)⟩⟩
          · rw [if_neg c5] at H
            exact absurd H (by simp)
        · rw [if_neg c4] at H
          exact absurd H (by simp)
      · rw [if_neg c3] at H
        have c3b0 : decide (x9_1 < (l0.length : Int)) = false := decide_eq_false c3
        clear c3
        obtain rfl := Option.some.inj H
        go_wp2
        go_ret
        exact ⟨by first | rfl | (simp [errW_none, errW_some] <;> rfl) | (simp [*, errW_none, errW_some] <;> rfl), by repeat (first | (with_reducible first | exact HB.out | apply below_alloc | apply pw_below_drewN | apply below_drew1) | exact HB.out)⟩

end Go.Proofs.Ytkncjpafehnmnaa.P

end

section
set_option linter.unusedVariables false
namespace Go.Proofs.YtkncjpafehnmnaaR
open Go Go.RowKit

/-- W' is W but for blocks of C, and new ones. -/
structure Stays (C : Nat → Prop) (W W' : World) : Prop where
  os : W'.os = W.os
  tape : W'.tape = W.tape
  output : W'.output = W.output
  size : W.heap.size ≤ W'.heap.size
  block : ∀ i, i < W.heap.size → ¬ C i → W'.heap[i]? = W.heap[i]?

theorem Stays.setCell {C : Nat → Prop} {W : World} {p : Addr} (hp : C p.block) (u : Value) : Stays C W (W.setCell p u) :=
  ⟨rfl, rfl, rfl, by simp [World.setCell], fun i hi hn => Below.heap_setCell W p u i (fun e => hn (by rw [e]; exact hp))⟩
/-- The blocks of C hold in W' what they hold in W. -/
def Hold (C : Nat → Prop) (W W' : World) : Prop := ∀ i, C i → W'.heap[i]? = W.heap[i]?
theorem Hold.setCell {C : Nat → Prop} {W : World} {p : Addr} (hn : ¬ C p.block) (u : Value) : Hold C W (W.setCell p u) := fun i hi => Below.heap_setCell W p u i (fun e => hn (by rw [← e]; exact hi))
/-- What J says, it says of blocks that are not of C: it stays where these are written, where blocks come, and C may take in blocks that were not there. -/
def Fits {β : Type} (J : (Nat → Prop) → β → World → Prop) : Prop :=
  ∀ C C' s W W', J C s W → Stays C W W' → (∀ k, C' k → C k ∨ W.heap.size ≤ k) → J C' s W'

theorem Fits.false {β : Type} : Fits (fun _ (_ : β) _ => False) := fun _ _ _ _ _ hj _ _ => hj
end Go.Proofs.YtkncjpafehnmnaaR

end

section
set_option linter.unusedVariables false
namespace Go.Proofs.YtkncjpafehnmnaaR
open Go Go.RowKit Go.Proofs.YtkncjpafehnmnaaW.PrintWords

theorem box_cell {b : Nat} {w : World} {t : TypeId} {v : Value} (h : w.heap[b]? = some (.cells #[v] t)) : w.cell? ⟨b, 0, none⟩ = some v := by simp [World.cell?, h]
theorem box_new (W : World) (v : Value) (t : TypeId) : (W.alloc (.cells #[v] t)).heap[W.heap.size]? = some (.cells #[v] t) := World.alloc_heap_new W _
end Go.Proofs.YtkncjpafehnmnaaR
end

section
set_option linter.unusedVariables false
namespace Go.Proofs.YtkncjpafehnmnaaL
open Go Go.RowKit Go.Proofs.YtkncjpafehnmnaaW.PrintWords
section
variable {α β γ δ ε ζ : Type} {r : α}
theorem ev_some (r : α) : Ev (fun _ => some r) r := Ev.now r
theorem ev_bind {o : Option β} {a : β} {f : Nat → β → Option α} (h : o = some a) (k : Ev (fun n => f n a) r) : Ev (fun n => o.bind (f n)) r := Ev.bind (g := fun _ => o) (by rw [h]; exact Ev.now a) k
theorem ev_call {g : Nat → Option β} {a : β} {f : Nat → β → Option α} (h : Ev g a) (k : Ev (fun n => f n a) r) : Ev (fun n => (g n).bind (f n)) r := Ev.bind h k
theorem ev_pos {c : Prop} [Decidable c] {a b : Nat → Option α} (h : c) (k : Ev a r) : Ev (fun n => if c then a n else b n) r := k.congr (fun n => if_pos h)
theorem ev_neg {c : Prop} [Decidable c] {a b : Nat → Option α} (h : ¬ c) (k : Ev b r) : Ev (fun n => if c then a n else b n) r := k.congr (fun n => if_neg h)
/-- One round of what has rounds. -/
theorem ev_step {g f : Nat → Option α} (h : ∀ k, g (k + 1) = f k) (k : Ev f r) : Ev g r := Ev.step h k
end
theorem up1 {a : Nat} (h : a < 9223372036854775800) : wrap64 ((a : Int) + 1) = ((a + 1 : Nat) : Int) := by unfold wrap64; omega
theorem getD_at {α : Type} {l : List α} {z : α} {j : Nat} (h : j < l.length) : l.getD ((j : Int)).toNat z = l[j] := by
  rw [Int.toNat_natCast, List.getD_eq_getElem?_getD, List.getElem?_eq_getElem h]
  rfl
end Go.Proofs.YtkncjpafehnmnaaL

end

section
set_option linter.unusedVariables false
namespace Go.Proofs.YtkncjpafehnmnaaL
open Go Go.RowKit Go.Proofs.YtkncjpafehnmnaaW.PrintWords

/-- Bytes. -/
def By (l : List Int) : Prop := ∀ c ∈ l, 0 ≤ c ∧ c < 256
theorem By.take {l : List Int} (h : By l) (n : Nat) : By (l.take n) := fun c hc => h c (List.mem_of_mem_take hc)
theorem By.drop {l : List Int} (h : By l) (n : Nat) : By (l.drop n) := fun c hc => h c (List.mem_of_mem_drop hc)
theorem toList_data (s : ByteArray) : s.toList = s.data.toList := Lib.toList_data s
theorem ba_ext {s t : ByteArray} (h : s.toList = t.toList) : s = t := by
  rw [toList_data, toList_data] at h
  cases s; cases t
  simpa using h
end Go.Proofs.YtkncjpafehnmnaaL

end

section
set_option linter.unusedVariables false
namespace Go.Proofs.YtkncjpafehnmnaaL
open Go Go.RowKit Go.Proofs.YtkncjpafehnmnaaG Go.Proofs.Ytkncjpafehnmnaa.P Go.Proofs.YtkncjpafehnmnaaW.PrintWords Go.Proofs.YtkncjpafehnmnaaW.PrintMore

def lt (a b : ByteArray) : Prop := Op.bytesLess a.toList b.toList = true
instance (a b : ByteArray) : Decidable (lt a b) := inferInstanceAs (Decidable (_ = true))
theorem bl_trans : ∀ x y z : List UInt8, Op.bytesLess x y = true → Op.bytesLess y z = true → Op.bytesLess x z = true
  | _, [], _ => fun h => by simp [Op.bytesLess] at h
  | _, _ :: _, [] => fun _ h => by simp [Op.bytesLess] at h
  | [], b :: y, c :: z => fun _ _ => rfl
  | a :: x, b :: y, c :: z => fun h1 h2 => by
    have ih := bl_trans x y z
    simp only [Op.bytesLess, Bool.or_eq_true, decide_eq_true_eq, Bool.and_eq_true, beq_iff_eq] at *
    rcases h1 with h1 | ⟨rfl, h1⟩
    · rcases h2 with h2 | ⟨rfl, h2⟩
      · exact .inl (UInt8.lt_trans h1 h2)
      · exact .inl h1
    · rcases h2 with h2 | ⟨rfl, h2⟩
      · exact .inl h2
      · exact .inr ⟨rfl, ih h1 h2⟩
theorem lt_trans {a b c : ByteArray} (h : lt a b) (h2 : lt b c) : lt a c := bl_trans _ _ _ h h2
theorem lt_asymm {a b : ByteArray} (h : lt a b) : ¬ lt b a := by
  unfold lt at *
  rw [← bytesLess_gtr, h]
  simp
theorem lt_irrefl (a : ByteArray) : ¬ lt a a := fun h => lt_asymm h h
theorem lt_tri (a b : ByteArray) : lt a b ∨ a = b ∨ lt b a := by
  by_cases h : lt a b
  · exact .inl h
  · by_cases h2 : a = b
    · exact .inr (.inl h2)
    · refine .inr (.inr ?_)
      unfold lt at *
      rw [← bytesLess_gtr]
      have h3 : ¬ a.toList = b.toList := fun e => h2 (ba_ext e)
      simp [h, h3]
theorem ba_eq_iff {a b : ByteArray} : a.toList = b.toList ↔ a = b := ⟨ba_ext, fun h => by rw [h]⟩
theorem ba_nil_iff {a : ByteArray} : a.toList = [] ↔ a.size = 0 := by
  rw [toList_data]
  exact ⟨fun h => by show a.data.size = 0; rw [← Array.length_toList, h]; rfl, fun h => List.eq_nil_of_length_eq_zero (by rw [Array.length_toList]; exact h)⟩

end Go.Proofs.YtkncjpafehnmnaaL

end

section
set_option linter.unusedVariables false
set_option linter.unusedSimpArgs false
namespace Go.Proofs.YtkncjpafehnmnaaG
open Go Go.RowKit Go.Proofs.YtkncjpafehnmnaaL Go.Proofs.Ytkncjpafehnmnaa.P
abbrev MPr := S39
abbrev MOp := S36
/-- Where a key is, or would be. -/
def oAt (m : List MPr) (key : ByteArray) : Nat := (m.takeWhile fun p => Op.bytesLess p.f0.toList key.toList).length
def oIs (m : List MPr) (key : ByteArray) : Bool := match m[oAt m key]? with | none => false | some p => p.f0.toList == key.toList
/-- Behind a key that is not ahead of it, no key is ahead of it. -/
def oUp (m : List MPr) (key : ByteArray) : Prop := ∀ i, oAt m key ≤ i → (h : i < m.length) → Op.bytesLess m[i].f0.toList key.toList = false
/-- Keys rise. -/
def oRise (m : List MPr) : Prop := m.Pairwise fun p q => lt p.f0 q.f0
instance oRiseDec (m : List MPr) : Decidable (oRise m) := by unfold oRise; exact (inferInstance : Decidable (m.Pairwise fun p q => Op.bytesLess p.f0.toList q.f0.toList = true))
theorem nlt_iff {a b : ByteArray} : Op.bytesLess a.toList b.toList = false ↔ ¬ lt a b := by unfold lt; simp
theorem oAt_cons_lt {p : MPr} {m : List MPr} {key : ByteArray} (h : lt p.f0 key) : oAt (p :: m) key = oAt m key + 1 := by
  have h' : Op.bytesLess p.f0.toList key.toList = true := h
  unfold oAt
  rw [List.takeWhile_cons, if_pos h']
  rfl
theorem oAt_cons_ge {p : MPr} {m : List MPr} {key : ByteArray} (h : ¬ lt p.f0 key) : oAt (p :: m) key = 0 := by
  have h' : ¬ Op.bytesLess p.f0.toList key.toList = true := h
  unfold oAt
  rw [List.takeWhile_cons, if_neg h']
  rfl
/-- A map, cut at a key. -/
structure Cut (m : List MPr) (key : ByteArray) (A mid B : List MPr) : Prop where
  eq : m = A ++ (mid ++ B)
  low : ∀ p ∈ A, lt p.f0 key
  high : ∀ p ∈ B, lt key p.f0
  mids : mid = [] ∨ ∃ p, mid = [p] ∧ p.f0 = key
theorem Cut.at {m : List MPr} {key : ByteArray} {A mid B : List MPr} (h : Cut m key A mid B) : oAt m key = A.length := by
  obtain ⟨rfl, hl, hh, hm⟩ := h
  induction A with
  | nil =>
    rcases hm with rfl | ⟨p, rfl, hp⟩
    · cases B with
      | nil => rfl
      | cons b B => exact oAt_cons_ge (fun h => lt_asymm h (hh b (by simp)))
    · exact oAt_cons_ge (by rw [hp]; exact lt_irrefl _)
  | cons a A ih =>
    rw [List.cons_append, oAt_cons_lt (hl a (by simp)), ih (fun p hp => hl p (by simp [hp]))]
    rfl
theorem Cut.is {m : List MPr} {key : ByteArray} {A mid B : List MPr} (h : Cut m key A mid B) : oIs m key = !mid.isEmpty := by
  have ha := h.at
  obtain ⟨rfl, hl, hh, hm⟩ := h
  unfold oIs
  rw [ha, List.getElem?_append_right (Nat.le_refl _), Nat.sub_self]
  rcases hm with rfl | ⟨p, rfl, hp⟩
  · cases B with
    | nil => rfl
    | cons b B =>
      show (b.f0.toList == key.toList) = false
      have : b.f0 ≠ key := fun e => lt_irrefl key (by have := hh b (by simp); rwa [e] at this)
      simpa [ba_eq_iff] using this
  · show (p.f0.toList == key.toList) = true
    simp [hp]
theorem Cut.up {m : List MPr} {key : ByteArray} {A mid B : List MPr} (h : Cut m key A mid B) : oUp m key := by
  have ha := h.at
  obtain ⟨rfl, hl, hh, hm⟩ := h
  intro i hi hlt
  rw [ha] at hi
  rw [nlt_iff, List.getElem_append_right hi]
  have hmem := List.getElem_mem (l := mid ++ B) (n := i - A.length) (by rw [List.length_append] at hlt; omega)
  rcases List.mem_append.1 hmem with hx | hx
  · rcases hm with rfl | ⟨p, rfl, hp⟩
    · simp at hx
    · rw [List.mem_singleton.1 hx, hp]
      exact lt_irrefl _
  · exact fun h => lt_asymm h (hh _ hx)
theorem cut_of {key : ByteArray} : ∀ {m : List MPr}, oRise m → ∃ A mid B, Cut m key A mid B
  | [], _ => ⟨[], [], [], rfl, by simp, by simp, .inl rfl⟩
  | p :: m, h => by
    obtain ⟨h1, h2⟩ := List.pairwise_cons.1 h
    rcases lt_tri p.f0 key with hp | hp | hp
    · obtain ⟨A, mid, B, rfl, hl, hh, hm⟩ := cut_of (key := key) (m := m) h2
      exact ⟨p :: A, mid, B, rfl, fun q hq => (List.mem_cons.1 hq).elim (fun e => by rw [e]; exact hp) (hl q), hh, hm⟩
    · exact ⟨[], [p], m, rfl, by simp, fun q hq => by rw [← hp]; exact h1 q hq, .inr ⟨p, rfl, hp⟩⟩
    · exact ⟨[], [], p :: m, rfl, by simp, fun q hq => by
        rcases List.mem_cons.1 hq with rfl | hq
        · exact hp
        · exact lt_trans hp (h1 q hq), .inl rfl⟩
def OpK (o : MOp) : Prop := 1 ≤ o.f1.size ∧ o.f1.size ≤ 64 ∧ o.f0 ≤ 1 ∧ (o.f2.size : Int) ≤ (if o.f0 = 0 then 0 else 256)
instance opKDec (o : MOp) : Decidable (OpK o) := inferInstanceAs (Decidable (_ ∧ _))
def oDo (m : List MPr) (o : MOp) : List MPr :=
  if OpK o then
    if o.f0 = 0 then if oIs m o.f1 = true then m.eraseIdx (oAt m o.f1) else m
    else if oIs m o.f1 = true then m.set (oAt m o.f1) ⟨o.f1, o.f2⟩ else m.insertIdx (oAt m o.f1) ⟨o.f1, o.f2⟩
  else m
def oAll (m : List MPr) (l : List MOp) : List MPr := l.foldl oDo m
def oNew (o : MOp) : List MPr := if o.f0 = 0 then [] else [⟨o.f1, o.f2⟩]
theorem ins_app {α : Type} (x : α) (B : List α) : ∀ A : List α, (A ++ B).insertIdx A.length x = A ++ x :: B
  | [] => by simp
  | a :: A => by rw [List.cons_append, List.length_cons, List.insertIdx_succ_cons, ins_app x B A]; rfl
theorem oDo_cut {m : List MPr} {o : MOp} {A mid B : List MPr} (h : Cut m o.f1 A mid B) (hk : OpK o) : oDo m o = A ++ (oNew o ++ B) := by
  have h1 := h.at
  have h2 := h.is
  obtain ⟨rfl, hl, hh, hm⟩ := h
  unfold oDo oNew
  rw [if_pos hk, h1, h2]
  rcases hm with rfl | ⟨p, rfl, hp⟩
  · rw [show (!([] : List MPr).isEmpty) = false from rfl]
    by_cases h0 : o.f0 = 0
    · rw [if_pos h0, if_pos h0, if_neg (by decide)]
    · rw [if_neg h0, if_neg h0, if_neg (by decide), List.nil_append, ins_app]
      rfl
  · rw [show (!([p] : List MPr).isEmpty) = true from rfl]
    by_cases h0 : o.f0 = 0
    · rw [if_pos h0, if_pos h0, if_pos rfl, List.eraseIdx_append_of_length_le (Nat.le_refl _)]
      simp
    · rw [if_neg h0, if_neg h0, if_pos rfl, List.set_append_right _ _ (Nat.le_refl _)]
      simp
theorem oRise_cut {key : ByteArray} {A N B : List MPr} (hA : oRise A) (hB : oRise B) (hl : ∀ p ∈ A, lt p.f0 key) (hh : ∀ p ∈ B, lt key p.f0) (hN : N = [] ∨ ∃ p, N = [p] ∧ p.f0 = key) : oRise (A ++ (N ++ B)) := by
  rcases hN with rfl | ⟨p, rfl, hp⟩
  · exact List.pairwise_append.2 ⟨hA, hB, fun a ha b hb => lt_trans (hl a ha) (hh b hb)⟩
  · refine List.pairwise_append.2 ⟨hA, List.pairwise_cons.2 ⟨fun b hb => by rw [hp]; exact hh b hb, hB⟩, fun a ha b hb => ?_⟩
    rcases List.mem_cons.1 hb with rfl | hb
    · rw [hp]; exact hl a ha
    · exact lt_trans (hl a ha) (hh b hb)
theorem Cut.parts {m : List MPr} {key : ByteArray} {A mid B : List MPr} (h : Cut m key A mid B) (hr : oRise m) : oRise A ∧ oRise B := by
  have hr' := hr
  rw [h.eq] at hr'
  obtain ⟨a, b, _⟩ := List.pairwise_append.1 hr'
  exact ⟨a, (List.pairwise_append.1 b).2.1⟩
theorem oNew_or (o : MOp) : oNew o = [] ∨ ∃ p, oNew o = [p] ∧ p.f0 = o.f1 := by
  unfold oNew
  by_cases h0 : o.f0 = 0
  · rw [if_pos h0]; exact .inl rfl
  · rw [if_neg h0]; exact .inr ⟨_, rfl, rfl⟩
theorem oDo_rise {m : List MPr} (o : MOp) (hr : oRise m) : oRise (oDo m o) := by
  by_cases hk : OpK o
  · obtain ⟨A, mid, B, h⟩ := cut_of (key := o.f1) hr
    rw [oDo_cut h hk]
    obtain ⟨hA, hB⟩ := h.parts hr
    exact oRise_cut hA hB h.low h.high (oNew_or o)
  · unfold oDo; rw [if_neg hk]; exact hr
theorem oDo_len (m : List MPr) (o : MOp) : (oDo m o).length ≤ m.length + 1 := by
  unfold oDo
  split
  · split
    · split
      · have := List.length_eraseIdx_le m (oAt m o.f1); omega
      · omega
    · split
      · rw [List.length_set]; omega
      · rw [List.length_insertIdx]; split <;> omega
  · omega
theorem oAll_rise : ∀ (l : List MOp) {m : List MPr}, oRise m → oRise (oAll m l)
  | [], _, h => h
  | o :: l, m, h => oAll_rise l (oDo_rise o h)
theorem oAll_len : ∀ (l : List MOp) (m : List MPr), (oAll m l).length ≤ m.length + l.length
  | [], m => Nat.le_refl _
  | o :: l, m => by
    have h1 := oAll_len l (oDo m o)
    have h2 := oDo_len m o
    show (oAll (oDo m o) l).length ≤ m.length + (l.length + 1)
    omega
def oVal (m : List MPr) (key : ByteArray) : Option ByteArray := if oIs m key = true then (m[oAt m key]?).map (·.f1) else none
theorem Cut.val {m : List MPr} {key : ByteArray} {A mid B : List MPr} (h : Cut m key A mid B) : oVal m key = mid.head?.map (·.f1) := by
  unfold oVal
  rw [h.is, h.at, h.eq, List.getElem?_append_right (Nat.le_refl _), Nat.sub_self]
  rcases h.mids with rfl | ⟨p, rfl, hp⟩
  · rfl
  · rfl
theorem val_iff {m : List MPr} (hr : oRise m) (p : MPr) : p ∈ m ↔ oVal m p.f0 = some p.f1 := by
  obtain ⟨A, mid, B, h⟩ := cut_of (key := p.f0) hr
  rw [h.val, h.eq]
  constructor
  · intro hp
    rcases List.mem_append.1 hp with hp | hp
    · exact absurd (h.low p hp) (lt_irrefl _)
    · rcases List.mem_append.1 hp with hp | hp
      · rcases h.mids with rfl | ⟨q, rfl, hq⟩
        · simp at hp
        · rw [List.mem_singleton.1 hp]; rfl
      · exact absurd (h.high p hp) (lt_irrefl _)
  · intro hv
    rcases h.mids with rfl | ⟨q, rfl, hq⟩
    · simp at hv
    · have hv' : q.f1 = p.f1 := by simpa using hv
      have : q = p := by
        cases q; cases p
        simp at hq hv'
        rw [hq, hv']
      subst this
      simp
end Go.Proofs.YtkncjpafehnmnaaG

end

section
set_option linter.unusedVariables false
set_option linter.unusedSimpArgs false
namespace Go.Proofs.YtkncjpafehnmnaaG
open Go Go.RowKit Go.Proofs.YtkncjpafehnmnaaR Go.Proofs.YtkncjpafehnmnaaL Go.Proofs.Ytkncjpafehnmnaa.P Go.Proofs.YtkncjpafehnmnaaW.PrintWords
attribute [local go_sem] str_geq

set_option maxRecDepth 100000 in
set_option maxHeartbeats 2000000 in
/-- sort.Search, where the function given tells p. -/
theorem search_calls (n r : Nat) (g : Nat) (lb : Array Value) (p : Nat → Bool) (w : World) (hn : n ≤ 1000000000) (hr : r ≤ n) (h0 : ∀ i, i < r → p i = false) (h1 : ∀ i, r ≤ i → i < n → p i = true)
    (eg : ∀ args w, (callFunc g args).run Try.prog w = .ok (.enter g args) w)
    (hc : ∀ (i : Nat) (W : World), i < n → Below w.heap.size w W → Calls Try.prog g (#[.int .i64 i] ++ lb) W fun e W' => e = .returned (.bool (p i)) ∧ Below W.heap.size W W') :
    Calls Try.prog 63 #[.int .i64 n, .func (.func g) #[] lb] w fun e w' => e = .returned (.int .i64 r) ∧ Below w.heap.size w w' := by
  have HC := Aside0.mk hc
  clear hc
  go_enter Try.func63, Try.ntmps63
  go_wp2
  go_loopg [5, 6] n (fun kq v5 v6 wr => ∃ i j : Nat, v5 = .int .i64 (i : Int) ∧ v6 = .int .i64 (j : Int) ∧ Aside0 (i ≤ r ∧ r ≤ j ∧ j ≤ n ∧ j ≤ i + kq) ∧ Aside0 (Below w.heap.size w wr))
  case atStart => exact ⟨0, n, rfl, rfl, ⟨Nat.zero_le _, hr, Nat.le_refl _, by omega⟩, ⟨Below.refl _ _⟩⟩
  case round =>
    obtain ⟨i, j, rfl, rfl, HI, HB⟩ := hrel
    by_cases hij : i < j
    · have hb : decide ((i : Int) < (j : Int)) = true := decide_eq_true (by omega)
      cases gk with
      | zero => exact absurd HI.out.2.2.2 (by omega)
      | succ k1 =>
        have hw1 : wrap64 ((i : Int) + (j : Int)) = ((i + j : Nat) : Int) := by have := HI.out; unfold wrap64; omega
        obtain ⟨m, hm⟩ : ∃ m, m = (i + j) / 2 := ⟨_, rfl⟩
        have hmw : wrap64 (IntKind.u64.wrap ((i : Int) + (j : Int)) / 2) = (m : Int) := by
          have := HI.out
          rw [IntKind.wrap_u64]
          unfold wrap64
          omega
        have hm1 : wrap64 ((m : Int) + 1) = ((m + 1 : Nat) : Int) := by have := HI.out; unfold wrap64; omega
        have hmij : i ≤ m ∧ m < j := by omega
        have hcm := HC.out m wr (by have := HI.out; omega) HB.out
        have HCM := Aside0.mk hcm
        have HM := Aside0.mk hmij
        clear hcm hmij hm
        go_wp2_with fail
        refine HCM.out.mono ?_
        rintro e W2 ⟨rfl, hb2⟩
        have HB2 := Aside0.mk hb2
        clear hb2
        obtain ⟨pm, hpm⟩ : ∃ b, p m = b := ⟨_, rfl⟩
        have HPM := Aside0.mk hpm
        rw [hpm]
        clear hpm
        cases pm with
        | true =>
          have hrm : r ≤ m := by
            by_cases h : r ≤ m
            · exact h
            · have := h0 m (by omega); rw [HPM.out] at this; cases this
          go_wp2
          go_roundg k1
          case measure => exact Nat.lt_succ_self _
          case rel => exact ⟨i, m, rfl, rfl, ⟨HI.out.1, hrm, by have := HI.out; have := HM.out; omega, by have := HI.out; have := HM.out; omega⟩, ⟨below_step HB.out HB2.out⟩⟩
        | false =>
          have hrm : m + 1 ≤ r := by
            by_cases h : m + 1 ≤ r
            · exact h
            · have := h1 m (by omega) (by have := HI.out; have := HM.out; omega); rw [HPM.out] at this; cases this
          go_wp2
          go_roundg k1
          case measure => exact Nat.lt_succ_self _
          case rel => exact ⟨m + 1, j, rfl, rfl, ⟨hrm, HI.out.2.1, HI.out.2.2.1, by have := HI.out; have := HM.out; omega⟩, ⟨below_step HB.out HB2.out⟩⟩
    · have hb : decide ((i : Int) < (j : Int)) = false := decide_eq_false (by omega)
      have hir : i = r := by have := HI.out; omega
      subst hir
      go_wp2
      go_ret
      exact ⟨rfl, HB.out⟩
theorem tw_lt {α : Type} (f : α → Bool) : ∀ (l : List α) (i : Nat), i < (l.takeWhile f).length → ∃ x, l[i]? = some x ∧ f x = true
  | [], i, h => by simp at h
  | a :: l, i, h => by
    rw [List.takeWhile_cons] at h
    by_cases ha : f a = true
    · rw [if_pos ha] at h
      cases i with
      | zero => exact ⟨a, rfl, ha⟩
      | succ i =>
        obtain ⟨x, h1, h2⟩ := tw_lt f l i (by simpa using h)
        exact ⟨x, by simpa using h1, h2⟩
    · rw [if_neg ha] at h
      simp at h
theorem tw_le {α : Type} (f : α → Bool) (l : List α) : (l.takeWhile f).length ≤ l.length := (List.takeWhile_sublist f).length_le
def oP (m : List MPr) (key : ByteArray) (i : Nat) : Bool := match m[i]? with | none => true | some q => !(Op.bytesLess q.f0.toList key.toList)
set_option maxRecDepth 100000 in
set_option maxHeartbeats 2000000 in
theorem pred_calls (b b' : Nat) (A0 : Option Addr) (c0 : Nat) (m : List MPr) (key : ByteArray) (W : World) (h0 : W.heap[b]? = some (.cells #[.slice A0 m.length c0] 22)) (h1 : W.heap[b']? = some (.cells #[.string key] 9)) (hC : Kd.C k39 W A0 m.length m) (i : Nat) (hi : i < m.length) :
    Calls Try.prog 64 #[.int .i64 i, .pointer (some ⟨b, 0, none⟩), .pointer (some ⟨b', 0, none⟩)] W fun e W' => e = .returned (.bool (oP m key i)) ∧ Below W.heap.size W W' := by
  have hc0 := box_cell h0
  have hc1 := box_cell h1
  obtain ⟨ad, he, hx0, hx1⟩ := at_T39 hC (i : Int) (by omega) (by omega)
  subst he
  have hb : decide ((i : Int) < (m.length : Int)) = true := decide_eq_true (by omega)
  have hP : oP m key i = !(Op.bytesLess (rd_T39 m (i : Int)).f0.toList key.toList) := by
    have : rd_T39 m (i : Int) = m[i] := by
      show m.getD ((i : Int)).toNat _ = _
      rw [Int.toNat_natCast, List.getD_eq_getElem?_getD, List.getElem?_eq_getElem hi]
      rfl
    unfold oP
    rw [List.getElem?_eq_getElem hi, this]
  rw [hP]
  have hm := hC.2.1
  simp only [Int.toNat_natCast] at hx0 hx1
  clear h0 h1 hC hP
  go_enter Try.func64, Try.ntmps64
  go_wp2
  go_quiet (fail)
  go_wp2
  go_ret
  exact ⟨rfl, pw_below_drewN (Below.refl _ _) _⟩
set_option maxRecDepth 100000 in
set_option maxHeartbeats 2000000 in
theorem find_calls (A0 : Option Addr) (c0 : Nat) (m : List MPr) (key : ByteArray) (w : World) (hr0 : Kd.C k39 w A0 m.length m) (hc0 : m.length ≤ c0) (hm : m.length ≤ 1000000000) (hu : oUp m key) :
    Calls Try.prog 42 #[.slice A0 m.length c0, .string key] w fun e w' => e = .returned (.tuple #[.int .i64 (oAt m key), .bool (oIs m key)]) ∧ Below w.heap.size w w' := by
  have HR0 := Aside0.mk hr0
  have HU := Aside0.mk hu
  have HM := Aside0.mk hm
  have HC0 := Aside0.mk hc0
  clear hr0 hu hm hc0
  go_enter Try.func42, Try.ntmps42
  have hle := tw_le (fun p : MPr => Op.bytesLess p.f0.toList key.toList) m
  have hcl : ∀ W : World, Below w.heap.size w W → W.heap.size = w.heap.size + 2 → W.heap[w.heap.size]? = some (.cells #[.slice A0 m.length c0] 22) → W.heap[w.heap.size + 1]? = some (.cells #[.string key] 9) →
      Calls Try.prog 63 #[.int .i64 m.length, .func (.func 64) #[] #[.pointer (some ⟨w.heap.size, 0, none⟩), .pointer (some ⟨w.heap.size + 1, 0, none⟩)]] W fun e w' => e = .returned (.int .i64 (oAt m key)) ∧ Below W.heap.size W w' := fun W hB hsz h1 h2 => by
    refine search_calls m.length (oAt m key) 64 _ (oP m key) W HM.out hle (fun i hi => ?_) (fun i hi hl => ?_) (enters_of Try.func64 (by kernel_rfl) rfl) (fun i W2 hi hB2 => ?_)
    · obtain ⟨x, hx, hf⟩ := tw_lt _ m i hi
      unfold oP
      rw [hx]
      simp only
      rw [hf]
      rfl
    · unfold oP
      rw [List.getElem?_eq_getElem hl]
      simp only
      rw [HU.out i hi hl]
      rfl
    · exact pred_calls w.heap.size (w.heap.size + 1) A0 c0 m key W2 ((hB2.block _ (by omega)).trans h1) ((hB2.block _ (by omega)).trans h2) (Kd.C_below (Kd.C_below HR0.out hB) hB2) i hi
  have HCL := Aside0.mk hcl
  clear hcl
  go_wp2_with (go_at_call 63; refine (HCL.out _ (below_alloc (below_alloc (Below.refl _ _) _) _) (by simp) ((Below.heap_alloc _ _ _ (by simp)).trans (box_new w _ _)) (by have := box_new (w.alloc (.cells #[.slice A0 m.length c0] 22)) (.string key) 9; rwa [World.size_alloc] at this)).mono ?_; rintro e w2 ⟨rfl, hb2⟩; have HB2 := Aside0.mk hb2; clear hb2)
  have hB := below_then (below_alloc (below_alloc (Below.refl w.heap.size w) (.cells #[.slice A0 m.length c0] 22)) (.cells #[.string key] 9)) (by simp; omega) HB2.out
  have HB := Aside0.mk hB
  have hc0 := box_cell ((HB2.out.block _ (by simp; omega)).trans ((Below.heap_alloc (w.alloc (.cells #[.slice A0 m.length c0] 22)) (.cells #[.string key] 9) w.heap.size (by simp)).trans (box_new w (.slice A0 m.length c0) 22)))
  have hc1 : w2.cell? ⟨w.heap.size + 1, 0, none⟩ = some (.string key) := box_cell ((HB2.out.block _ (by simp)).trans (by have := box_new (w.alloc (.cells #[.slice A0 m.length c0] 22)) (.string key) 9; rwa [World.size_alloc] at this))
  have hm := HR0.out.2.1
  have hC := Kd.C_below HR0.out hB
  clear hB HB2 HCL
  by_cases hlt : oAt m key < m.length
  · obtain ⟨ad, he, hx0, hx1⟩ := at_T39 hC (oAt m key : Int) (by omega) (by omega)
    subst he
    have hb : decide ((oAt m key : Int) < (m.length : Int)) = true := decide_eq_true (by omega)
    have hrd : rd_T39 m (oAt m key : Int) = m[oAt m key] := by
      show m.getD ((oAt m key : Int)).toNat _ = _
      rw [Int.toNat_natCast, List.getD_eq_getElem?_getD, List.getElem?_eq_getElem hlt]
      rfl
    have hI : oIs m key = (m[oAt m key].f0.toList == key.toList) := by unfold oIs; rw [List.getElem?_eq_getElem hlt]
    rw [hrd] at hx0 hx1
    have HI := Aside0.mk hI
    simp only [Int.toNat_natCast] at hx0 hx1
    clear hC hI hrd
    go_wp2
    go_quiet (fail)
    go_wp2
    go_ret2
    rw [HI.out]
    exact ⟨rfl, pw_below_drewN HB.out _⟩
  · have hb : decide ((oAt m key : Int) < (m.length : Int)) = false := decide_eq_false (by omega)
    have hI : oIs m key = false := by unfold oIs; rw [List.getElem?_eq_none (by omega)]
    have HI := Aside0.mk hI
    clear hC hI
    go_wp2
    go_quiet (fail)
    go_wp2
    go_ret2
    rw [HI.out]
    exact ⟨rfl, pw_below_drewN HB.out _⟩
def omap_find.f (l0 : List MPr) (a1 : ByteArray) : Option (Int × Bool) := if l0.length ≤ 1000000 ∧ oRise l0 then some ((oAt l0 a1 : Int), oIs l0 a1) else none
theorem omap_find.calls (A0 : Option Addr) (c0 : Nat) (l0 : List MPr) (a1 : ByteArray) (r1 : Int) (r2 : Bool) (w : World) (hr0 : Kd.C k39 w A0 l0.length l0) (hc0 : l0.length ≤ c0) (h : omap_find.f l0 a1 = some (r1, r2)) :
    Calls Try.prog 42 #[.slice A0 l0.length c0, .string a1] w fun e w' => e = .returned (.tuple #[.int .i64 r1, .bool r2]) ∧ Below w.heap.size w w' := by
  unfold omap_find.f at h
  by_cases hc : l0.length ≤ 1000000 ∧ oRise l0
  · rw [if_pos hc] at h
    injection h with h
    injection h with h1 h2
    subst h1; subst h2
    obtain ⟨A, mid, B, hcut⟩ := cut_of (key := a1) hc.2
    exact find_calls A0 c0 l0 a1 w hr0 hc0 (by omega) hcut.up
  · rw [if_neg hc] at h
    cases h
theorem R_lit0 {α : Type} (d : Kd α) (W : World) (e : TypeId) (ok : Nat → Prop) (hok : ok W.heap.size) : d.R e (W.alloc (.cells #[] e)) W.heap.size ok (.slice (some ⟨W.heap.size, 0, none⟩) 0 0) ([] : List α) := by
  refine ⟨fun k hk => ?_, [], ?_, ⟨by simp, fun j p hj => by simp at hj⟩⟩
  · have : W.heap.size = k := by simpa [Value.ownBlock] using hk
    rw [← this]
    exact hok
  · have h2 := World.ownsRow_lit (base := W.heap.size) (e := e) (size := d.sz) W #[] 0 (Nat.le_refl _) (by simp) (by simp)
    simpa using h2
def api_Pair.f (l0 : List MPr) : Option (List MPr) := if l0.length < 4398046511104 then some l0 else none
set_option maxHeartbeats 1000000 in
theorem clone_calls (A0 : Option Addr) (c0 : Nat) (l0 : List MPr) (w : World) (hr0 : Kd.C k39 w A0 l0.length l0) (hc0 : l0.length ≤ c0) (hl : l0.length < 4398046511104) :
    Calls Try.prog 43 #[.slice A0 l0.length c0] w fun e w' => ∃ v0_ : Value, e = .returned (v0_) ∧ Kd.R k39 39 w' w.heap.size (fun _ => True) v0_ l0 ∧ Below w.heap.size w w' := by
  have HR0 := Aside0.mk hr0
  have HC0 := Aside0.mk hc0
  have HL := Aside0.mk hl
  clear hr0 hc0 hl
  have hnil := fun W => Lib.run_eql_slice_nil (P := Try.prog) W 22 39 A0 l0.length c0 0 0 Try.underlying22
  cases A0 with
  | none =>
    have hz : l0 = [] := by
      cases l0 with
      | nil => rfl
      | cons x xs =>
        obtain ⟨ad, e, _⟩ := HR0.out.2.2 (by simp)
        cases e
    subst hz
    have hnil0 := fun W => Lib.run_eql_slice_nil (P := Try.prog) W 22 39 none 0 c0 0 0 Try.underlying22
    clear hnil
    go_enter Try.func43, Try.ntmps43
    go_wp2
    go_ret
    exact ⟨_, rfl, Kd.R_nil _ _ _ _ _, Below.refl _ _⟩
  | some ad =>
    have HE : Aside0 (Kd.R k39 39 (w.alloc (.cells #[] 39)) w.heap.size (fun _ => True) (.slice (some ⟨w.heap.size, 0, none⟩) 0 0) ([] : List MPr)) := ⟨R_lit0 _ w _ _ trivial⟩
    go_enter Try.func43, Try.ntmps43
    go_wp2_with (first | ((with_reducible refine gate_builtin (b := .append) (xs := #[.tmp 5, .tmp 6]) rfl ?_); at_builtin; refine Kd.R_append_rows k39 (w0 := w) w.heap.size rfl (.tmp 5) (.tmp 6) 22 39 (.agg #[.string ⟨#[]⟩, .string ⟨#[]⟩]) 32 rfl Try.underlying22 info39 rfl (by decide) (by decide) (.slice (some ⟨w.heap.size, 0, none⟩) 0 0) ([] : List MPr) l0 _ _ _ (fun _ => True) (fun _ => False) rfl rfl ?aO ?aR (fun _ _ h => h) (fun _ h => h.elim) ?aF ?aB ?aS ?aL ?_; (case aR => exact Kd.C_alloc HR0.out _); (case aB => exact (Below.refl _ _).alloc (Nat.le_refl _) _); (case aF => exact (fun _ _ => trivial)); (case aO => exact HE.out); (case aS => exact by simp); (case aL => have := HL.out; simp; omega); intro v1 w1 ho hb hg hat; have HO := Aside0.mk ho; have HB := Aside0.mk hb; clear ho hb hg hat))
    go_ret
    exact ⟨_, rfl, HO.out, HB.out⟩
theorem api_Pair.calls (A0 : Option Addr) (c0 : Nat) (l0 : List MPr) (r : List MPr) (w : World) (hr0 : Kd.C k39 w A0 l0.length l0) (hc0 : l0.length ≤ c0) (h : api_Pair.f l0 = some r) :
    Calls Try.prog 43 #[.slice A0 l0.length c0] w fun e w' => ∃ v0_ : Value, e = .returned (v0_) ∧ Kd.R k39 39 w' w.heap.size (fun _ => True) v0_ r ∧ Below w.heap.size w w' := by
  unfold api_Pair.f at h
  by_cases hc : l0.length < 4398046511104
  · rw [if_pos hc] at h
    obtain rfl := Option.some.inj h
    exact clone_calls A0 c0 l0 w hr0 hc0 hc
  · rw [if_neg hc] at h
    cases h
end Go.Proofs.YtkncjpafehnmnaaG

end

section
namespace Go.Proofs.Ytkncjpafehnmnaa.P
open Go.RowKit Go.Proofs.YtkncjpafehnmnaaG Go.Proofs.YtkncjpafehnmnaaW.PrintWords Go.Proofs.YtkncjpafehnmnaaW.PrintLast Go.Proofs.YtkncjpafehnmnaaW.PrintMore
attribute [local go_sem] str_gtr str_geq str_leq max2_int min2_int max_two min_two max_three min_three max_four min_four   -- for this text's walks alone
set_option linter.unusedVariables false
set_option linter.unusedSimpArgs false

def omap_Get.f (l0 : List (S39)) (a1 : ByteArray) : Option (ByteArray × Bool) := (omap_find.f l0 a1).bind fun bt105 => (if bt105.2 = true then (if 0 ≤ bt105.1 then (if bt105.1 < (l0.length : Int) then (some ((rd_T39 l0 bt105.1).f1, true)) else (none)) else (none)) else (some ((⟨#[]⟩ : ByteArray), false)))
set_option maxHeartbeats 8000000 in
set_option maxRecDepth 100000 in
theorem omap_Get.calls (A0 : Option Addr) (c0 : Nat) (l0 : List (S39)) (a1 : ByteArray) (r1 : ByteArray) (r2 : Bool) (w : World) (hr0 : Kd.C k39 w A0 l0.length l0) (hc0 : l0.length ≤ c0) (h : omap_Get.f l0 a1 = some (r1, r2)) :
    Calls Try.prog 18 #[.slice A0 l0.length c0, .string a1] w fun e w' => e = .returned (.tuple #[.string r1, .bool r2]) ∧ Below w.heap.size w w' := by
  have HR0 := Aside0.mk hr0
  have HC0 := Aside0.mk hc0
  clear hr0 hc0
  have HB := Aside0.mk (Below.refl w.heap.size w)
  have H : ((omap_find.f l0 a1).bind fun bt105 => (if bt105.2 = true then (if 0 ≤ bt105.1 then (if bt105.1 < (l0.length : Int) then (some ((rd_T39 l0 bt105.1).f1, true)) else (none)) else (none)) else (some ((⟨#[]⟩ : ByteArray), false)))) = some (r1, r2) := h
  clear h
  replace H := Option.bind_eq_some_iff.mp H
  obtain ⟨⟨t105, t106⟩, A30, H⟩ := H
  replace H : (if t106 = true then (if 0 ≤ t105 then (if t105 < (l0.length : Int) then (some ((rd_T39 l0 t105).f1, true)) else (none)) else (none)) else (some ((⟨#[]⟩ : ByteArray), false))) = some (r1, r2) := H
  have A3 := Aside0.mk A30
  clear A30
  by_cases c4 : t106 = true
  · subst c4
    have H1 : (if 0 ≤ t105 then (if t105 < (l0.length : Int) then (some ((rd_T39 l0 t105).f1, true)) else (none)) else (none)) = some (r1, r2) := by rw [if_pos rfl] at H; exact H
    clear H
    have H := H1
    clear H1
    by_cases c5 : 0 ≤ t105
    · rw [if_pos c5] at H
      have c5b0 : decide (0 ≤ t105) = true := decide_eq_true c5
      clear c5
      by_cases c6 : t105 < (l0.length : Int)
      · rw [if_pos c6] at H
        have c6b0 : decide (t105 < (l0.length : Int)) = true := decide_eq_true c6
        clear c6
        simp only [Option.some.injEq, Prod.mk.injEq] at H
        obtain ⟨rfl, rfl⟩ := H
        go_enter Try.func18, Try.ntmps18
        go_wp2_with (first | ((with_reducible refine gate_callee (f := 42) rfl ?_); refine goesL_ (some 11) rfl rfl Try.func42 (by kernel_rfl) rfl #[.slice A0 l0.length c0, .string a1] rfl (by (try simp only [List.map_toArray, List.map_cons, List.map_nil]); first | done | rfl | (simp only [List.length_drop, List.length_take]; rfl)) ?_; (with_reducible refine (omap_find.calls _ _ l0 a1 t105 true _ ?side1 ?side2 A3.out).mono ?_); (case side1 => repeat (first | exact HR0.out | (with_reducible refine Kd.C_alloc ?_ _) | (with_reducible refine Kd.C_drewN ?_ _) | (with_reducible refine Kd.C_drew ?_))); (case side2 => exact HC0.out); rintro e w7 ⟨rfl, hb⟩; refine ⟨_, rfl, ?_⟩; have n0_ := Aside0.mk (below_step (by repeat (first | (with_reducible first | exact HB.out | apply below_alloc | apply pw_below_drewN | apply below_drew1) | exact HB.out)) hb); clear HB; have HB := n0_; clear n0_; (try clear hb); (try clear hb2); (try clear hk); (try clear hi); have p107 : 0 ≤ (t105 : Int) := of_decide_eq_true (by first | (with_reducible assumption) | assumption); have q107 : t105 < (l0.length : Int) := of_decide_eq_true (by first | (with_reducible assumption) | assumption); obtain ⟨ad107, e107, hx107_0, hx107_1⟩ := at_T39 HR0.out t105 p107 q107; cases e107; replace hx107_0 := (HB.out.cell (World.block_lt_of_cell? w _ hx107_0)).trans hx107_0; replace hx107_1 := (HB.out.cell (World.block_lt_of_cell? w _ hx107_1)).trans hx107_1; replace p107 := eq_true p107; replace q107 := eq_true q107))
        go_ret2
        exact ⟨by first | rfl | (simp [errW_none, errW_some] <;> rfl) | (simp [*, errW_none, errW_some] <;> rfl), by repeat (first | (with_reducible first | exact HB.out | apply below_alloc | apply pw_below_drewN | apply below_drew1) | exact HB.out)⟩
      · rw [if_neg c6] at H
        exact absurd H (by simp)
    · rw [if_neg c5] at H
      exact absurd H (by simp)
  · replace c4 := Bool.eq_false_iff.mpr c4
    subst c4
    have H1 : (some ((⟨#[]⟩ : ByteArray), false)) = some (r1, r2) := by rw [if_neg (show ¬ (false = true) by decide)] at H; exact H
    clear H
    have H := H1
    clear H1
    simp only [Option.some.injEq, Prod.mk.injEq] at H
    obtain ⟨rfl, rfl⟩ := H
    go_enter Try.func18, Try.ntmps18
    go_wp2_with (first | ((with_reducible refine gate_callee (f := 42) rfl ?_); refine goesL_ (some 11) rfl rfl Try.func42 (by kernel_rfl) rfl #[.slice A0 l0.length c0, .string a1] rfl (by (try simp only [List.map_toArray, List.map_cons, List.map_nil]); first | done | rfl | (simp only [List.length_drop, List.length_take]; rfl)) ?_; (with_reducible refine (omap_find.calls _ _ l0 a1 t105 false _ ?side1 ?side2 A3.out).mono ?_); (case side1 => repeat (first | exact HR0.out | (with_reducible refine Kd.C_alloc ?_ _) | (with_reducible refine Kd.C_drewN ?_ _) | (with_reducible refine Kd.C_drew ?_))); (case side2 => exact HC0.out); rintro e w8 ⟨rfl, hb⟩; refine ⟨_, rfl, ?_⟩; have n0_ := Aside0.mk (below_step (by repeat (first | (with_reducible first | exact HB.out | apply below_alloc | apply pw_below_drewN | apply below_drew1) | exact HB.out)) hb); clear HB; have HB := n0_; clear n0_; (try clear hb); (try clear hb2); (try clear hk); (try clear hi)))
    go_ret2
    exact ⟨by first | rfl | (simp [errW_none, errW_some] <;> rfl) | (simp [*, errW_none, errW_some] <;> rfl), by repeat (first | (with_reducible first | exact HB.out | apply below_alloc | apply pw_below_drewN | apply below_drew1) | exact HB.out)⟩

end Go.Proofs.Ytkncjpafehnmnaa.P

end

section
namespace Go.Proofs.Ytkncjpafehnmnaa.P
open Go.RowKit Go.Proofs.YtkncjpafehnmnaaG Go.Proofs.YtkncjpafehnmnaaW.PrintWords Go.Proofs.YtkncjpafehnmnaaW.PrintLast Go.Proofs.YtkncjpafehnmnaaW.PrintMore
attribute [local go_sem] str_gtr str_geq str_leq max2_int min2_int max_two min_two max_three min_three max_four min_four   -- for this text's walks alone
set_option linter.unusedVariables false
set_option linter.unusedSimpArgs false

theorem eqA39 (d : Nat) (w : World) (x0 y0 : ByteArray) (x1 y1 : ByteArray) :
    (Op.equalIn (d + 2) 39 (.agg #[.string x0, .string x1]) (.agg #[.string y0, .string y1])).run Try.prog w = .ok (x0.toList == y0.toList && (x1.toList == y1.toList)) w := by
  refine eqA_of Try.underlying39 (by kernel_rfl) ?_
  refine eqf_cons (by rfl) (by go_simp; rfl) (by go_simp; rfl) (by go_simp) ?_
  exact eqf_last (by rfl) (by go_simp; rfl) (by go_simp; rfl) (by go_simp)
end Go.Proofs.Ytkncjpafehnmnaa.P

end

section
namespace Go.Proofs.Ytkncjpafehnmnaa.P
open Go.RowKit Go.Proofs.YtkncjpafehnmnaaG Go.Proofs.YtkncjpafehnmnaaW.PrintWords Go.Proofs.YtkncjpafehnmnaaW.PrintLast Go.Proofs.YtkncjpafehnmnaaW.PrintMore
attribute [local go_sem] str_gtr str_geq str_leq max2_int min2_int max_two min_two max_three min_three max_four min_four   -- for this text's walks alone
set_option linter.unusedVariables false
set_option linter.unusedSimpArgs false

attribute [local go_sem high] eqA39
def ratlinelaw11_Pairs.l0 : Nat → List (S39) → List (S39) → Int → Int → Option (Bool)
  | 0, _, _, _, _ => none
  | k + 1, x0, x1, x12, x13 => if x13 < x12 then (if 0 ≤ x13 then (if x13 < (x0.length : Int) then (if x13 < (x1.length : Int) then (if (!((((rd_T39 x0 x13).f0).toList) == (((rd_T39 x1 x13).f0).toList)) || (!((((rd_T39 x0 x13).f1).toList) == (((rd_T39 x1 x13).f1).toList)))) = true then (some false) else (ratlinelaw11_Pairs.l0 k x0 x1 x12 (wrap64 (x13 + 1)))) else (none)) else (none)) else (none)) else (some true)
def ratlinelaw11_Pairs.f (k : Nat) (l0 : List (S39)) (l1 : List (S39)) : Option (Bool) := if (l0.length : Int) = (l1.length : Int) then (ratlinelaw11_Pairs.l0 k l0 l1 (l0.length : Int) 0) else (some false)
theorem ratlinelaw11_Pairs.mono_l : ∀ k, (∀ y0 y1 y2 y3, LeO (ratlinelaw11_Pairs.l0 k y0 y1 y2 y3) (ratlinelaw11_Pairs.l0 (k + 1) y0 y1 y2 y3))
  | 0 => fun _ _ _ _ r h => by simp [ratlinelaw11_Pairs.l0] at h
  | k + 1 => by
    have ih0 := ratlinelaw11_Pairs.mono_l k
    · intro y0 y1 y2 y3
      unfold ratlinelaw11_Pairs.l0
      repeat' first
      | (with_reducible exact ih0 _ _ _ _)
      | (with_reducible exact LeO.refl _)
      | (with_reducible exact LeO.none _)
      | (with_reducible refine LeO.ite ?_ ?_)
      | (with_reducible refine LeO.bind ?_ (fun _ => ?_))
      | exact ih0 _ _ _ _
      | exact LeO.none _
      | refine LeO.ite ?_ ?_
      | refine LeO.bind ?_ (fun _ => ?_)
theorem ratlinelaw11_Pairs.mono : ∀ a0 a1 k, LeO (ratlinelaw11_Pairs.f k a0 a1) (ratlinelaw11_Pairs.f (k + 1) a0 a1) := by
  intro a0 a1 k
  have ih0 := ratlinelaw11_Pairs.mono_l k
  unfold ratlinelaw11_Pairs.f
  repeat' first
      | (with_reducible exact ih0 _ _ _ _)
      | (with_reducible exact LeO.refl _)
      | (with_reducible exact LeO.none _)
      | (with_reducible refine LeO.ite ?_ ?_)
      | (with_reducible refine LeO.bind ?_ (fun _ => ?_))
      | exact ih0 _ _ _ _
      | exact LeO.none _
      | refine LeO.ite ?_ ?_
      | refine LeO.bind ?_ (fun _ => ?_)
set_option maxHeartbeats 8000000 in
set_option maxRecDepth 100000 in
theorem ratlinelaw11_Pairs.calls (k : Nat) (A0 : Option Addr) (c0 : Nat) (l0 : List (S39)) (A1 : Option Addr) (c1 : Nat) (l1 : List (S39)) (r : Bool) (w : World) (hr0 : Kd.C k39 w A0 l0.length l0) (hc0 : l0.length ≤ c0) (hr1 : Kd.C k39 w A1 l1.length l1) (hc1 : l1.length ≤ c1) (h : ratlinelaw11_Pairs.f k l0 l1 = some r) :
    Calls Try.prog 20 #[.slice A0 l0.length c0, .slice A1 l1.length c1] w fun e w' => e = .returned (.bool r) ∧ Drawn0 w w' := by
  have hu39 := Try.underlying39
  have HR0 := Aside0.mk hr0
  have HC0 := Aside0.mk hc0
  clear hr0 hc0
  have HR1 := Aside0.mk hr1
  have HC1 := Aside0.mk hc1
  clear hr1 hc1
  have H : (if (l0.length : Int) = (l1.length : Int) then (ratlinelaw11_Pairs.l0 k l0 l1 (l0.length : Int) 0) else (some false)) = some r := h
  clear h
  by_cases c3 : (l0.length : Int) = (l1.length : Int)
  · rw [if_pos c3] at H
    have c3b0 : ((l0.length : Int) == (l1.length : Int)) = true := beq_iff_eq.mpr c3
    have c3b1 : ((l0.length : Int) != (l1.length : Int)) = false := bne_eq_false_iff_eq.mpr c3
    have c3b2 : (l0.length == l1.length) = true := by first | simpa using c3 | (simp at c3 ⊢; omega)
    clear c3
    have H' := Aside0.mk H
    clear H
    go_enter Try.func20, Try.ntmps20
    go_wp2
    repeat (go_quiet (fail); try go_wp2)
    go_loopg [13] k (fun kq v13 w' => ∃ (x13_1 : Int), v13 = .int .i64 x13_1 ∧ Aside0 (ratlinelaw11_Pairs.l0 kq l0 l1 (l0.length : Int) x13_1 = some r) ∧ Aside0 (kq ≤ k) ∧ Drawn0 w w')
    case atStart => exact ⟨(0), (by first | rfl | (simp; done) | (simp [*]; done)), H', ⟨Nat.le_refl _⟩, by repeat (first | exact Drawn0.refl _ | apply Drawn0.step)⟩
    case round =>
      clear H'
      try clear c1
      try clear c2
      try clear p2
      try clear c3
      try clear c3b0
      try clear c3b1
      try clear c3b2
      obtain ⟨x13_1, rfl, HA, HK1, ⟨m1, rfl⟩⟩ := hrel
      cases gk with
      | zero => exact absurd HA.out (by simp [ratlinelaw11_Pairs.l0])
      | succ k1 =>
        have H := HA.out
        clear HA
        simp only [ratlinelaw11_Pairs.l0] at H
        by_cases c4 : x13_1 < (l0.length : Int)
        · rw [if_pos c4] at H
          have c4b0 : decide (x13_1 < (l0.length : Int)) = true := decide_eq_true c4
          clear c4
          by_cases c5 : 0 ≤ x13_1
          · rw [if_pos c5] at H
            have c5b0 : decide (0 ≤ x13_1) = true := decide_eq_true c5
            clear c5
            by_cases c6 : x13_1 < (l0.length : Int)
            · rw [if_pos c6] at H
              have c6b0 : decide (x13_1 < (l0.length : Int)) = true := decide_eq_true c6
              clear c6
              by_cases c7 : x13_1 < (l1.length : Int)
              · rw [if_pos c7] at H
                have c7b0 : decide (x13_1 < (l1.length : Int)) = true := decide_eq_true c7
                clear c7
                by_cases c8 : (!((((rd_T39 l0 x13_1).f0).toList) == (((rd_T39 l1 x13_1).f0).toList)) || (!((((rd_T39 l0 x13_1).f1).toList) == (((rd_T39 l1 x13_1).f1).toList)))) = true
                · rw [if_pos c8] at H
                  have c8b0 : (!((((rd_T39 l0 x13_1).f0).toList) == (((rd_T39 l1 x13_1).f0).toList)) || (!((((rd_T39 l0 x13_1).f1).toList) == (((rd_T39 l1 x13_1).f1).toList)))) = true := c8
                  clear c8
                  obtain rfl := Option.some.inj H
                  have p108 : 0 ≤ (x13_1 : Int) := of_decide_eq_true (by first | (with_reducible assumption) | assumption)
                  have q108 : x13_1 < (l0.length : Int) := of_decide_eq_true (by first | (with_reducible assumption) | assumption)
                  obtain ⟨ad108, e108, hx108_0, hx108_1⟩ := at_T39 HR0.out x13_1 p108 q108
                  cases e108
                  replace p108 := eq_true p108
                  replace q108 := eq_true q108
                  have p109 : 0 ≤ (x13_1 : Int) := of_decide_eq_true (by first | (with_reducible assumption) | assumption)
                  have q109 : x13_1 < (l1.length : Int) := of_decide_eq_true (by first | (with_reducible assumption) | assumption)
                  obtain ⟨ad109, e109, hx109_0, hx109_1⟩ := at_T39 HR1.out x13_1 p109 q109
                  cases e109
                  replace p109 := eq_true p109
                  replace q109 := eq_true q109
                  go_wp2
                  repeat (go_quiet (fail); try go_wp2)
                  go_ret
                  exact ⟨by first | rfl | (simp; done) | (simp [*]; done), by repeat (first | exact Drawn0.refl _ | apply Drawn0.step)⟩
                · rw [if_neg c8] at H
                  have c8b0 : (!((((rd_T39 l0 x13_1).f0).toList) == (((rd_T39 l1 x13_1).f0).toList)) || (!((((rd_T39 l0 x13_1).f1).toList) == (((rd_T39 l1 x13_1).f1).toList)))) = false := by simpa using c8
                  clear c8
                  have H' := Aside0.mk H
                  clear H
                  have p108 : 0 ≤ (x13_1 : Int) := of_decide_eq_true (by first | (with_reducible assumption) | assumption)
                  have q108 : x13_1 < (l0.length : Int) := of_decide_eq_true (by first | (with_reducible assumption) | assumption)
                  obtain ⟨ad108, e108, hx108_0, hx108_1⟩ := at_T39 HR0.out x13_1 p108 q108
                  cases e108
                  replace p108 := eq_true p108
                  replace q108 := eq_true q108
                  have p109 : 0 ≤ (x13_1 : Int) := of_decide_eq_true (by first | (with_reducible assumption) | assumption)
                  have q109 : x13_1 < (l1.length : Int) := of_decide_eq_true (by first | (with_reducible assumption) | assumption)
                  obtain ⟨ad109, e109, hx109_0, hx109_1⟩ := at_T39 HR1.out x13_1 p109 q109
                  cases e109
                  replace p109 := eq_true p109
                  replace q109 := eq_true q109
                  go_wp2
                  repeat (go_quiet (fail); try go_wp2)
                  go_roundg k1
                  case measure => have := HK1.out; omega
                  case rel => exact ⟨(wrap64 (x13_1 + 1)), (by first | rfl | (simp; done) | (simp [*]; done)), H', ⟨by have := HK1.out; omega⟩, by repeat (first | exact Drawn0.refl _ | apply Drawn0.step)⟩
              · rw [if_neg c7] at H
                exact absurd H (by simp)
            · rw [if_neg c6] at H
              exact absurd H (by simp)
          · rw [if_neg c5] at H
            exact absurd H (by simp)
        · rw [if_neg c4] at H
          have c4b0 : decide (x13_1 < (l0.length : Int)) = false := decide_eq_false c4
          clear c4
          obtain rfl := Option.some.inj H
          go_wp2
          repeat (go_quiet (fail); try go_wp2)
          go_ret
          exact ⟨by first | rfl | (simp; done) | (simp [*]; done), by repeat (first | exact Drawn0.refl _ | apply Drawn0.step)⟩
  · rw [if_neg c3] at H
    have c3b0 : ((l0.length : Int) == (l1.length : Int)) = false := beq_eq_false_iff_ne.mpr c3
    have c3b1 : ((l0.length : Int) != (l1.length : Int)) = true := bne_iff_ne.mpr c3
    have c3b2 : (l0.length == l1.length) = false := by first | simpa using c3 | (simp at c3 ⊢; omega)
    obtain rfl := Option.some.inj H
    go_enter Try.func20, Try.ntmps20
    go_wp2
    repeat (go_quiet (fail); try go_wp2)
    go_ret
    exact ⟨by first | rfl | (simp; done) | (simp [*]; done), by repeat (first | exact Drawn0.refl _ | apply Drawn0.step)⟩

end Go.Proofs.Ytkncjpafehnmnaa.P

end

section
namespace Go.Proofs.Ytkncjpafehnmnaa.P
open Go.RowKit Go.Proofs.YtkncjpafehnmnaaG Go.Proofs.YtkncjpafehnmnaaW.PrintWords Go.Proofs.YtkncjpafehnmnaaW.PrintLast Go.Proofs.YtkncjpafehnmnaaW.PrintMore
attribute [local go_sem] str_gtr str_geq str_leq max2_int min2_int max_two min_two max_three min_three max_four min_four   -- for this text's walks alone
set_option linter.unusedVariables false
set_option linter.unusedSimpArgs false

def omap_Scan.f (l0 : List (S39)) (a1 : ByteArray) (a2 : ByteArray) (a3 : Int) : Option ((List (S39))) := (omap_find.f l0 a1).bind fun bt116 => (if a2.toList = ([] : List UInt8) then (if 0 ≤ bt116.1 then (if bt116.1 ≤ (mx bt116.1 (mn (l0.length : Int) (wrap64 (bt116.1 + (mn (mx a3 0) (l0.length : Int)))))) then (if (mx bt116.1 (mn (l0.length : Int) (wrap64 (bt116.1 + (mn (mx a3 0) (l0.length : Int)))))) ≤ (l0.length : Int) then ((api_Pair.f ((l0.take ((mx bt116.1 (mn (l0.length : Int) (wrap64 (bt116.1 + (mn (mx a3 0) (l0.length : Int)))))) : Int).toNat).drop (bt116.1 : Int).toNat)).bind fun t122 => (some t122)) else (none)) else (none)) else (none)) else ((omap_find.f l0 a2).bind fun bt125 => (if 0 ≤ bt116.1 then (if bt116.1 ≤ (mx bt116.1 (mn bt125.1 (wrap64 (bt116.1 + (mn (mx a3 0) (l0.length : Int)))))) then (if (mx bt116.1 (mn bt125.1 (wrap64 (bt116.1 + (mn (mx a3 0) (l0.length : Int)))))) ≤ (l0.length : Int) then ((api_Pair.f ((l0.take ((mx bt116.1 (mn bt125.1 (wrap64 (bt116.1 + (mn (mx a3 0) (l0.length : Int)))))) : Int).toNat).drop (bt116.1 : Int).toNat)).bind fun t131 => (some t131)) else (none)) else (none)) else (none))))
set_option maxHeartbeats 8000000 in
set_option maxRecDepth 100000 in
theorem omap_Scan.calls (A0 : Option Addr) (c0 : Nat) (l0 : List (S39)) (a1 : ByteArray) (a2 : ByteArray) (a3 : Int) (r : List (S39)) (w : World) (hr0 : Kd.C k39 w A0 l0.length l0) (hc0 : l0.length ≤ c0) (h : omap_Scan.f l0 a1 a2 a3 = some r) :
    Calls Try.prog 23 #[.slice A0 l0.length c0, .string a1, .string a2, .int .i64 a3] w fun e w' => ∃ v0_ : Value, e = .returned (v0_) ∧ Kd.R k39 39 w' w.heap.size (fun _ => True) v0_ r ∧ Below w.heap.size w w' := by
  have HR0 := Aside0.mk hr0
  have HC0 := Aside0.mk hc0
  clear hr0 hc0
  have HB := Aside0.mk (Below.refl w.heap.size w)
  have H : ((omap_find.f l0 a1).bind fun bt116 => (if a2.toList = ([] : List UInt8) then (if 0 ≤ bt116.1 then (if bt116.1 ≤ (mx bt116.1 (mn (l0.length : Int) (wrap64 (bt116.1 + (mn (mx a3 0) (l0.length : Int)))))) then (if (mx bt116.1 (mn (l0.length : Int) (wrap64 (bt116.1 + (mn (mx a3 0) (l0.length : Int)))))) ≤ (l0.length : Int) then ((api_Pair.f ((l0.take ((mx bt116.1 (mn (l0.length : Int) (wrap64 (bt116.1 + (mn (mx a3 0) (l0.length : Int)))))) : Int).toNat).drop (bt116.1 : Int).toNat)).bind fun t122 => (some t122)) else (none)) else (none)) else (none)) else ((omap_find.f l0 a2).bind fun bt125 => (if 0 ≤ bt116.1 then (if bt116.1 ≤ (mx bt116.1 (mn bt125.1 (wrap64 (bt116.1 + (mn (mx a3 0) (l0.length : Int)))))) then (if (mx bt116.1 (mn bt125.1 (wrap64 (bt116.1 + (mn (mx a3 0) (l0.length : Int)))))) ≤ (l0.length : Int) then ((api_Pair.f ((l0.take ((mx bt116.1 (mn bt125.1 (wrap64 (bt116.1 + (mn (mx a3 0) (l0.length : Int)))))) : Int).toNat).drop (bt116.1 : Int).toNat)).bind fun t131 => (some t131)) else (none)) else (none)) else (none))))) = some r := h
  clear h
  replace H := Option.bind_eq_some_iff.mp H
  obtain ⟨⟨t116, t117⟩, A50, H⟩ := H
  replace H : (if a2.toList = ([] : List UInt8) then (if 0 ≤ t116 then (if t116 ≤ (mx t116 (mn (l0.length : Int) (wrap64 (t116 + (mn (mx a3 0) (l0.length : Int)))))) then (if (mx t116 (mn (l0.length : Int) (wrap64 (t116 + (mn (mx a3 0) (l0.length : Int)))))) ≤ (l0.length : Int) then ((api_Pair.f ((l0.take ((mx t116 (mn (l0.length : Int) (wrap64 (t116 + (mn (mx a3 0) (l0.length : Int)))))) : Int).toNat).drop (t116 : Int).toNat)).bind fun t122 => (some t122)) else (none)) else (none)) else (none)) else ((omap_find.f l0 a2).bind fun bt125 => (if 0 ≤ t116 then (if t116 ≤ (mx t116 (mn bt125.1 (wrap64 (t116 + (mn (mx a3 0) (l0.length : Int)))))) then (if (mx t116 (mn bt125.1 (wrap64 (t116 + (mn (mx a3 0) (l0.length : Int)))))) ≤ (l0.length : Int) then ((api_Pair.f ((l0.take ((mx t116 (mn bt125.1 (wrap64 (t116 + (mn (mx a3 0) (l0.length : Int)))))) : Int).toNat).drop (t116 : Int).toNat)).bind fun t131 => (some t131)) else (none)) else (none)) else (none)))) = some r := H
  have A5 := Aside0.mk A50
  clear A50
  by_cases c6 : a2.toList = ([] : List UInt8)
  · rw [if_pos c6] at H
    have c6b0 : (a2.toList == ([] : List UInt8)) = true := beq_iff_eq.mpr c6
    have c6b1 : (a2.toList != ([] : List UInt8)) = false := bne_eq_false_iff_eq.mpr c6
    clear c6
    obtain ⟨ji7, hji7⟩ : ∃ j_ : Int, (mx a3 0) = j_ := ⟨_, rfl⟩
    replace H : (if 0 ≤ t116 then (if t116 ≤ (mx t116 (mn (l0.length : Int) (wrap64 (t116 + (mn (ji7) (l0.length : Int)))))) then (if (mx t116 (mn (l0.length : Int) (wrap64 (t116 + (mn (ji7) (l0.length : Int)))))) ≤ (l0.length : Int) then ((api_Pair.f ((l0.take ((mx t116 (mn (l0.length : Int) (wrap64 (t116 + (mn (ji7) (l0.length : Int)))))) : Int).toNat).drop (t116 : Int).toNat)).bind fun t122 => (some t122)) else (none)) else (none)) else (none)) = some r := by first | (rw [hji7] at H; exact H) | (simp only [hji7] at H ⊢; exact H)
    (try rw [hji7] at A5)
    (try (have hji7l : 0 ≤ ji7 := by (rw [← hji7]; unfold mx; (repeat' split) <;> omega)))
    (try (have hji7m : 0 ≤ ji7 := by omega))
    have hji7_ : (if a3 < 0 then 0 else a3) = ji7 := hji7
    obtain ⟨ji8, hji8⟩ : ∃ j_ : Int, (mn (ji7) (l0.length : Int)) = j_ := ⟨_, rfl⟩
    replace H : (if 0 ≤ t116 then (if t116 ≤ (mx t116 (mn (l0.length : Int) (wrap64 (t116 + (ji8))))) then (if (mx t116 (mn (l0.length : Int) (wrap64 (t116 + (ji8))))) ≤ (l0.length : Int) then ((api_Pair.f ((l0.take ((mx t116 (mn (l0.length : Int) (wrap64 (t116 + (ji8))))) : Int).toNat).drop (t116 : Int).toNat)).bind fun t122 => (some t122)) else (none)) else (none)) else (none)) = some r := by first | (rw [hji8] at H; exact H) | (simp only [hji8] at H ⊢; exact H)
    (try rw [hji8] at A5)
    have hji8_ : (if (l0.length : Int) < (ji7) then (l0.length : Int) else (ji7)) = ji8 := hji8
    obtain ⟨ji9, hji9⟩ : ∃ j_ : Int, (mn (l0.length : Int) (wrap64 (t116 + (ji8)))) = j_ := ⟨_, rfl⟩
    replace H : (if 0 ≤ t116 then (if t116 ≤ (mx t116 (ji9)) then (if (mx t116 (ji9)) ≤ (l0.length : Int) then ((api_Pair.f ((l0.take ((mx t116 (ji9)) : Int).toNat).drop (t116 : Int).toNat)).bind fun t122 => (some t122)) else (none)) else (none)) else (none)) = some r := by first | (rw [hji9] at H; exact H) | (simp only [hji9] at H ⊢; exact H)
    (try rw [hji9] at A5)
    have hji9_ : (if (wrap64 (t116 + (ji8))) < (l0.length : Int) then (wrap64 (t116 + (ji8))) else (l0.length : Int)) = ji9 := hji9
    obtain ⟨ji10, hji10⟩ : ∃ j_ : Int, (mx t116 (ji9)) = j_ := ⟨_, rfl⟩
    replace H : (if 0 ≤ t116 then (if t116 ≤ (ji10) then (if (ji10) ≤ (l0.length : Int) then ((api_Pair.f ((l0.take ((ji10) : Int).toNat).drop (t116 : Int).toNat)).bind fun t122 => (some t122)) else (none)) else (none)) else (none)) = some r := by first | (rw [hji10] at H; exact H) | (simp only [hji10] at H ⊢; exact H)
    (try rw [hji10] at A5)
    have hji10_ : (if t116 < (ji9) then (ji9) else t116) = ji10 := hji10
    by_cases c11 : 0 ≤ t116
    · rw [if_pos c11] at H
      have c11b0 := eq_true c11
      have c11b1 : decide (0 ≤ t116) = true := decide_eq_true c11
      clear c11
      by_cases c12 : t116 ≤ (ji10)
      · rw [if_pos c12] at H
        have c12b0 := eq_true c12
        have c12b1 : decide (t116 ≤ (ji10)) = true := decide_eq_true c12
        clear c12
        by_cases c13 : (ji10) ≤ (l0.length : Int)
        · rw [if_pos c13] at H
          have c13b0 := eq_true c13
          have c13b1 : decide ((ji10) ≤ (l0.length : Int)) = true := decide_eq_true c13
          clear c13
          obtain ⟨y118, hy118⟩ : ∃ y_ : List (S39), y_ = ((l0.take ((ji10) : Int).toNat).drop (t116 : Int).toNat) := ⟨_, rfl⟩
          replace H : ((api_Pair.f y118).bind fun t122 => (some t122)) = some r := by first | (rw [hy118]; with_reducible exact H) | (have H2_ := (Option.bind_some _ _).symm.trans H; rw [hy118]; with_reducible exact H2_) | (have H2_ := (Option.bind_some _ _).symm.trans H; with_reducible exact H2_) | with_reducible exact H | (rw [hy118]; exact H) | exact H
          have Ny118 := Aside0.mk hy118
          clear hy118
          replace H := Option.bind_eq_some_iff.mp H
          obtain ⟨t122, A140, H⟩ := H
          replace H : (some t122) = some r := H
          have A14 := Aside0.mk A140
          clear A140
          obtain rfl := Option.some.inj H
          go_enter Try.func23, Try.ntmps23
          go_wp2_with (first | ((with_reducible refine gate_callee (f := 42) rfl ?_); refine goesL_ (some 15) rfl rfl Try.func42 (by kernel_rfl) rfl #[.slice A0 l0.length c0, .string a1] rfl (by (try simp only [List.map_toArray, List.map_cons, List.map_nil]); first | done | rfl | (simp only [List.length_drop, List.length_take]; rfl)) ?_; (with_reducible refine (omap_find.calls _ _ l0 a1 t116 t117 _ ?side1 ?side2 A5.out).mono ?_); (case side1 => repeat (first | exact HR0.out | (with_reducible refine Kd.C_alloc ?_ _) | (with_reducible refine Kd.C_drewN ?_ _) | (with_reducible refine Kd.C_drew ?_))); (case side2 => exact HC0.out); rintro e w15 ⟨rfl, hb⟩; refine ⟨_, rfl, ?_⟩; have n0_ := Aside0.mk (below_step (by repeat (first | (with_reducible first | exact HB.out | apply below_alloc | apply pw_below_drewN | apply below_drew1) | exact HB.out)) hb); clear HB; have HB := n0_; clear n0_; (try clear hb); (try clear hb2); (try clear hk); (try clear hi); have q16 : ((ji10) : Int) ≤ ((l0.length : Int) : Int) := of_decide_eq_true (by first | (with_reducible assumption) | assumption); obtain ⟨i016, hi016, _, hsz16, _⟩ := info_parts info39; have hroom16 : l0.length ≤ c0 := HC0.out; have hC16 : Kd.C k39 _ A0 l0.length l0 := HR0.out; have ql16 : (t116 : Int) ≤ ((ji10) : Int) := of_decide_eq_true (by first | (with_reducible assumption) | assumption); have q016 : (0 : Int) ≤ (t116 : Int) := of_decide_eq_true (by first | (with_reducible assumption) | assumption); have hcut16 := cut_mid (P := Try.prog) 22 39 .i64 .i64 Try.underlying22 hi016 2 hsz16 A0 l0.length c0 t116 (ji10) q016 ql16 q16 hroom16; have hr16 := Kd.C_mid (lo := (t116 : Int).toNat) (hi := ((ji10) : Int).toNat) (c := c0) hC16 (by omega) (by omega) hroom16; obtain ⟨A16, hA16⟩ : ∃ A1, A1 = (if c0 = (t116 : Int).toNat then A0 else (A0 : Option Addr).map (·.add ((t116 : Int).toNat * 2))) := ⟨_, rfl⟩; obtain ⟨c16, hc16⟩ : ∃ c1, c1 = c0 - (t116 : Int).toNat := ⟨_, rfl⟩; have hy16 : y118.length = ((ji10) : Int).toNat - (t116 : Int).toNat := (by rw [Ny118.out, List.length_drop, List.length_take] <;> omega); rw [show ((l0).take ((ji10) : Int).toNat).drop (t116 : Int).toNat = y118 from Ny118.out.symm] at hr16; replace hr16 : Kd.C k39 _ A16 y118.length y118 := (by rw [hA16]; exact hr16); rw [← hy16, ← hA16, ← hc16] at hcut16; have HR121 := Aside0.mk hr16; have HC121 := Aside0.mk (show y118.length ≤ c16 from by rw [hy16, hc16]; exact Nat.sub_le_sub_right (Nat.le_trans (by omega) hroom16) _); clear hr16 hC16 hroom16 hi016 hsz16 hc16; have KY16 := Aside0.mk hy16; have KA16 := Aside0.mk hA16; clear hy16 hA16; replace q16 := eq_true q16) | ((with_reducible refine gate_callee (f := 43) rfl ?_); refine goesL_ (some 42) rfl rfl Try.func43 (by kernel_rfl) rfl #[.slice A16 y118.length c16] rfl (by (try simp only [List.map_toArray, List.map_cons, List.map_nil]); first | done | rfl | (simp only [List.length_drop, List.length_take]; rfl)) ?_; (with_reducible refine (api_Pair.calls _ _ y118 t122 _ ?side1 ?side2 A14.out).mono ?_); (case side1 => repeat (first | exact (Kd.C_below HR121.out HB.out) | (with_reducible refine Kd.C_alloc ?_ _) | (with_reducible refine Kd.C_drewN ?_ _) | (with_reducible refine Kd.C_drew ?_))); (case side2 => exact HC121.out); rintro e w17 ⟨v123, rfl, ho0, hb⟩; refine ⟨_, rfl, ?_⟩; have n0_ := Aside0.mk (Kd.R_lower ho0 (below_size (by repeat (first | (with_reducible first | exact HB.out | apply below_alloc | apply pw_below_drewN | apply below_drew1) | exact HB.out)))); have n1_ := Aside0.mk (below_step (by repeat (first | (with_reducible first | exact HB.out | apply below_alloc | apply pw_below_drewN | apply below_drew1) | exact HB.out)) hb); clear HB; have HO124 := n0_; have HB := n1_; clear n0_ n1_; (try clear hb); (try clear hb2); (try clear hk); (try clear hi); (try clear ho0)))
          go_ret
          exact ⟨_, by first | rfl | (simp [errW_none, errW_some] <;> rfl) | (simp only [← hji7, ← hji8, ← hji9, ← hji10]; first | rfl | (simp [errW_none, errW_some] <;> rfl)) | (simp [*, errW_none, errW_some] <;> rfl), by (with_reducible repeat (first | apply Kd.R_alloc | apply Kd.R_drewN | apply Kd.R_drew)); exact HO124.out, by repeat (first | (with_reducible first | exact HB.out | apply below_alloc | apply pw_below_drewN | apply below_drew1) | exact HB.out)⟩
        · rw [if_neg c13] at H
          exact absurd H (by simp)
      · rw [if_neg c12] at H
        exact absurd H (by simp)
    · rw [if_neg c11] at H
      exact absurd H (by simp)
  · rw [if_neg c6] at H
    have c6b0 : (a2.toList == ([] : List UInt8)) = false := beq_eq_false_iff_ne.mpr c6
    have c6b1 : (a2.toList != ([] : List UInt8)) = true := bne_iff_ne.mpr c6
    replace H := Option.bind_eq_some_iff.mp H
    obtain ⟨⟨t125, t126⟩, A180, H⟩ := H
    replace H : (if 0 ≤ t116 then (if t116 ≤ (mx t116 (mn t125 (wrap64 (t116 + (mn (mx a3 0) (l0.length : Int)))))) then (if (mx t116 (mn t125 (wrap64 (t116 + (mn (mx a3 0) (l0.length : Int)))))) ≤ (l0.length : Int) then ((api_Pair.f ((l0.take ((mx t116 (mn t125 (wrap64 (t116 + (mn (mx a3 0) (l0.length : Int)))))) : Int).toNat).drop (t116 : Int).toNat)).bind fun t131 => (some t131)) else (none)) else (none)) else (none)) = some r := H
    have A18 := Aside0.mk A180
    clear A180
    obtain ⟨ji19, hji19⟩ : ∃ j_ : Int, (mx a3 0) = j_ := ⟨_, rfl⟩
    replace H : (if 0 ≤ t116 then (if t116 ≤ (mx t116 (mn t125 (wrap64 (t116 + (mn (ji19) (l0.length : Int)))))) then (if (mx t116 (mn t125 (wrap64 (t116 + (mn (ji19) (l0.length : Int)))))) ≤ (l0.length : Int) then ((api_Pair.f ((l0.take ((mx t116 (mn t125 (wrap64 (t116 + (mn (ji19) (l0.length : Int)))))) : Int).toNat).drop (t116 : Int).toNat)).bind fun t131 => (some t131)) else (none)) else (none)) else (none)) = some r := by first | (rw [hji19] at H; exact H) | (simp only [hji19] at H ⊢; exact H)
    (try rw [hji19] at A5)
    (try rw [hji19] at A18)
    (try (have hji19l : 0 ≤ ji19 := by (rw [← hji19]; unfold mx; (repeat' split) <;> omega)))
    (try (have hji19m : 0 ≤ ji19 := by omega))
    have hji19_ : (if a3 < 0 then 0 else a3) = ji19 := hji19
    obtain ⟨ji20, hji20⟩ : ∃ j_ : Int, (mn (ji19) (l0.length : Int)) = j_ := ⟨_, rfl⟩
    replace H : (if 0 ≤ t116 then (if t116 ≤ (mx t116 (mn t125 (wrap64 (t116 + (ji20))))) then (if (mx t116 (mn t125 (wrap64 (t116 + (ji20))))) ≤ (l0.length : Int) then ((api_Pair.f ((l0.take ((mx t116 (mn t125 (wrap64 (t116 + (ji20))))) : Int).toNat).drop (t116 : Int).toNat)).bind fun t131 => (some t131)) else (none)) else (none)) else (none)) = some r := by first | (rw [hji20] at H; exact H) | (simp only [hji20] at H ⊢; exact H)
    (try rw [hji20] at A5)
    (try rw [hji20] at A18)
    have hji20_ : (if (l0.length : Int) < (ji19) then (l0.length : Int) else (ji19)) = ji20 := hji20
    obtain ⟨ji21, hji21⟩ : ∃ j_ : Int, (mn t125 (wrap64 (t116 + (ji20)))) = j_ := ⟨_, rfl⟩
    replace H : (if 0 ≤ t116 then (if t116 ≤ (mx t116 (ji21)) then (if (mx t116 (ji21)) ≤ (l0.length : Int) then ((api_Pair.f ((l0.take ((mx t116 (ji21)) : Int).toNat).drop (t116 : Int).toNat)).bind fun t131 => (some t131)) else (none)) else (none)) else (none)) = some r := by first | (rw [hji21] at H; exact H) | (simp only [hji21] at H ⊢; exact H)
    (try rw [hji21] at A5)
    (try rw [hji21] at A18)
    have hji21_ : (if (wrap64 (t116 + (ji20))) < t125 then (wrap64 (t116 + (ji20))) else t125) = ji21 := hji21
    obtain ⟨ji22, hji22⟩ : ∃ j_ : Int, (mx t116 (ji21)) = j_ := ⟨_, rfl⟩
    replace H : (if 0 ≤ t116 then (if t116 ≤ (ji22) then (if (ji22) ≤ (l0.length : Int) then ((api_Pair.f ((l0.take ((ji22) : Int).toNat).drop (t116 : Int).toNat)).bind fun t131 => (some t131)) else (none)) else (none)) else (none)) = some r := by first | (rw [hji22] at H; exact H) | (simp only [hji22] at H ⊢; exact H)
    (try rw [hji22] at A5)
    (try rw [hji22] at A18)
    have hji22_ : (if t116 < (ji21) then (ji21) else t116) = ji22 := hji22
    by_cases c23 : 0 ≤ t116
    · rw [if_pos c23] at H
      have c23b0 := eq_true c23
      have c23b1 : decide (0 ≤ t116) = true := decide_eq_true c23
      clear c23
      by_cases c24 : t116 ≤ (ji22)
      · rw [if_pos c24] at H
        have c24b0 := eq_true c24
        have c24b1 : decide (t116 ≤ (ji22)) = true := decide_eq_true c24
        clear c24
        by_cases c25 : (ji22) ≤ (l0.length : Int)
        · rw [if_pos c25] at H
          have c25b0 := eq_true c25
          have c25b1 : decide ((ji22) ≤ (l0.length : Int)) = true := decide_eq_true c25
          clear c25
          obtain ⟨y127, hy127⟩ : ∃ y_ : List (S39), y_ = ((l0.take ((ji22) : Int).toNat).drop (t116 : Int).toNat) := ⟨_, rfl⟩
          replace H : ((api_Pair.f y127).bind fun t131 => (some t131)) = some r := by first | (rw [hy127]; with_reducible exact H) | (have H2_ := (Option.bind_some _ _).symm.trans H; rw [hy127]; with_reducible exact H2_) | (have H2_ := (Option.bind_some _ _).symm.trans H; with_reducible exact H2_) | with_reducible exact H | (rw [hy127]; exact H) | exact H
          have Ny127 := Aside0.mk hy127
          clear hy127
          replace H := Option.bind_eq_some_iff.mp H
          obtain ⟨t131, A260, H⟩ := H
          replace H : (some t131) = some r := H
          have A26 := Aside0.mk A260
          clear A260
          obtain rfl := Option.some.inj H
          go_enter Try.func23, Try.ntmps23
          go_wp2_with (first | ((with_reducible refine gate_callee (f := 42) rfl ?_); refine goesL_ (some 15) rfl rfl Try.func42 (by kernel_rfl) rfl #[.slice A0 l0.length c0, .string a1] rfl (by (try simp only [List.map_toArray, List.map_cons, List.map_nil]); first | done | rfl | (simp only [List.length_drop, List.length_take]; rfl)) ?_; (with_reducible refine (omap_find.calls _ _ l0 a1 t116 t117 _ ?side1 ?side2 A5.out).mono ?_); (case side1 => repeat (first | exact HR0.out | (with_reducible refine Kd.C_alloc ?_ _) | (with_reducible refine Kd.C_drewN ?_ _) | (with_reducible refine Kd.C_drew ?_))); (case side2 => exact HC0.out); rintro e w27 ⟨rfl, hb⟩; refine ⟨_, rfl, ?_⟩; have n0_ := Aside0.mk (below_step (by repeat (first | (with_reducible first | exact HB.out | apply below_alloc | apply pw_below_drewN | apply below_drew1) | exact HB.out)) hb); clear HB; have HB := n0_; clear n0_; (try clear hb); (try clear hb2); (try clear hk); (try clear hi)) | ((with_reducible refine gate_callee (f := 42) rfl ?_); refine goesL_ (some 25) rfl rfl Try.func42 (by kernel_rfl) rfl #[.slice A0 l0.length c0, .string a2] rfl (by (try simp only [List.map_toArray, List.map_cons, List.map_nil]); first | done | rfl | (simp only [List.length_drop, List.length_take]; rfl)) ?_; (with_reducible refine (omap_find.calls _ _ l0 a2 t125 t126 _ ?side1 ?side2 A18.out).mono ?_); (case side1 => repeat (first | exact (Kd.C_below HR0.out HB.out) | (with_reducible refine Kd.C_alloc ?_ _) | (with_reducible refine Kd.C_drewN ?_ _) | (with_reducible refine Kd.C_drew ?_))); (case side2 => exact HC0.out); rintro e w28 ⟨rfl, hb⟩; refine ⟨_, rfl, ?_⟩; have n0_ := Aside0.mk (below_step (by repeat (first | (with_reducible first | exact HB.out | apply below_alloc | apply pw_below_drewN | apply below_drew1) | exact HB.out)) hb); clear HB; have HB := n0_; clear n0_; (try clear hb); (try clear hb2); (try clear hk); (try clear hi); have q29 : ((ji22) : Int) ≤ ((l0.length : Int) : Int) := of_decide_eq_true (by first | (with_reducible assumption) | assumption); obtain ⟨i029, hi029, _, hsz29, _⟩ := info_parts info39; have hroom29 : l0.length ≤ c0 := HC0.out; have hC29 : Kd.C k39 _ A0 l0.length l0 := HR0.out; have ql29 : (t116 : Int) ≤ ((ji22) : Int) := of_decide_eq_true (by first | (with_reducible assumption) | assumption); have q029 : (0 : Int) ≤ (t116 : Int) := of_decide_eq_true (by first | (with_reducible assumption) | assumption); have hcut29 := cut_mid (P := Try.prog) 22 39 .i64 .i64 Try.underlying22 hi029 2 hsz29 A0 l0.length c0 t116 (ji22) q029 ql29 q29 hroom29; have hr29 := Kd.C_mid (lo := (t116 : Int).toNat) (hi := ((ji22) : Int).toNat) (c := c0) hC29 (by omega) (by omega) hroom29; obtain ⟨A29, hA29⟩ : ∃ A1, A1 = (if c0 = (t116 : Int).toNat then A0 else (A0 : Option Addr).map (·.add ((t116 : Int).toNat * 2))) := ⟨_, rfl⟩; obtain ⟨c29, hc29⟩ : ∃ c1, c1 = c0 - (t116 : Int).toNat := ⟨_, rfl⟩; have hy29 : y127.length = ((ji22) : Int).toNat - (t116 : Int).toNat := (by rw [Ny127.out, List.length_drop, List.length_take] <;> omega); rw [show ((l0).take ((ji22) : Int).toNat).drop (t116 : Int).toNat = y127 from Ny127.out.symm] at hr29; replace hr29 : Kd.C k39 _ A29 y127.length y127 := (by rw [hA29]; exact hr29); rw [← hy29, ← hA29, ← hc29] at hcut29; have HR130 := Aside0.mk hr29; have HC130 := Aside0.mk (show y127.length ≤ c29 from by rw [hy29, hc29]; exact Nat.sub_le_sub_right (Nat.le_trans (by omega) hroom29) _); clear hr29 hC29 hroom29 hi029 hsz29 hc29; have KY29 := Aside0.mk hy29; have KA29 := Aside0.mk hA29; clear hy29 hA29; replace q29 := eq_true q29) | ((with_reducible refine gate_callee (f := 43) rfl ?_); refine goesL_ (some 42) rfl rfl Try.func43 (by kernel_rfl) rfl #[.slice A29 y127.length c29] rfl (by (try simp only [List.map_toArray, List.map_cons, List.map_nil]); first | done | rfl | (simp only [List.length_drop, List.length_take]; rfl)) ?_; (with_reducible refine (api_Pair.calls _ _ y127 t131 _ ?side1 ?side2 A26.out).mono ?_); (case side1 => repeat (first | exact (Kd.C_below HR130.out HB.out) | (with_reducible refine Kd.C_alloc ?_ _) | (with_reducible refine Kd.C_drewN ?_ _) | (with_reducible refine Kd.C_drew ?_))); (case side2 => exact HC130.out); rintro e w30 ⟨v132, rfl, ho0, hb⟩; refine ⟨_, rfl, ?_⟩; have n0_ := Aside0.mk (Kd.R_lower ho0 (below_size (by repeat (first | (with_reducible first | exact HB.out | apply below_alloc | apply pw_below_drewN | apply below_drew1) | exact HB.out)))); have n1_ := Aside0.mk (below_step (by repeat (first | (with_reducible first | exact HB.out | apply below_alloc | apply pw_below_drewN | apply below_drew1) | exact HB.out)) hb); clear HB; have HO133 := n0_; have HB := n1_; clear n0_ n1_; (try clear hb); (try clear hb2); (try clear hk); (try clear hi); (try clear ho0)))
          go_ret
          exact ⟨_, by first | rfl | (simp [errW_none, errW_some] <;> rfl) | (simp only [← hji19, ← hji20, ← hji21, ← hji22]; first | rfl | (simp [errW_none, errW_some] <;> rfl)) | (simp [*, errW_none, errW_some] <;> rfl), by (with_reducible repeat (first | apply Kd.R_alloc | apply Kd.R_drewN | apply Kd.R_drew)); exact HO133.out, by repeat (first | (with_reducible first | exact HB.out | apply below_alloc | apply pw_below_drewN | apply below_drew1) | exact HB.out)⟩
        · rw [if_neg c25] at H
          exact absurd H (by simp)
      · rw [if_neg c24] at H
        exact absurd H (by simp)
    · rw [if_neg c23] at H
      exact absurd H (by simp)

end Go.Proofs.Ytkncjpafehnmnaa.P

end

section
set_option linter.unusedVariables false
set_option linter.unusedSimpArgs false
namespace Go.Proofs.YtkncjpafehnmnaaG
open Go Go.RowKit Go.Proofs.YtkncjpafehnmnaaR Go.Proofs.YtkncjpafehnmnaaL Go.Proofs.Ytkncjpafehnmnaa.P Go.Proofs.YtkncjpafehnmnaaW.PrintWords
def encP (xs : List MPr) : List Value := xs.flatMap fun p => [.string p.f0, .string p.f1]
theorem encP_nil : encP [] = [] := rfl
theorem encP_cons (p : MPr) (xs : List MPr) : encP (p :: xs) = [.string p.f0, .string p.f1] ++ encP xs := rfl
theorem encP_app (a b : List MPr) : encP (a ++ b) = encP a ++ encP b := List.flatMap_append ..
theorem encP_len : ∀ xs : List MPr, (encP xs).length = xs.length * 2
  | [] => rfl
  | p :: xs => by rw [encP_cons, List.length_append, encP_len xs, List.length_cons]; simp only [List.length_cons, List.length_nil]; omega
theorem encP_take : ∀ (xs : List MPr) (i : Nat), (encP xs).take (i * 2) = encP (xs.take i)
  | [], i => by simp [encP_nil]
  | p :: xs, 0 => by simp [encP_nil]
  | p :: xs, i + 1 => by
    rw [encP_cons, List.take_succ_cons, encP_cons, ← encP_take xs i, show (i + 1) * 2 = i * 2 + 2 by omega]
    rfl
theorem encP_drop : ∀ (xs : List MPr) (i : Nat), (encP xs).drop (i * 2) = encP (xs.drop i)
  | [], i => by simp [encP_nil]
  | p :: xs, 0 => by simp
  | p :: xs, i + 1 => by
    rw [encP_cons, List.drop_succ_cons, ← encP_drop xs i, show (i + 1) * 2 = i * 2 + 2 by omega]
    rfl
theorem encP_one {xs : List MPr} {v : Value} (h : v ∈ encP xs) : v.oneCell' = true := by
  obtain ⟨p, _, hp⟩ := List.mem_flatMap.1 h
  rcases List.mem_cons.1 hp with rfl | hp
  · rfl
  · rw [List.mem_singleton.1 hp]; rfl
theorem reps_enc (w : World) (base : Nat) (ok : Nat → Prop) (xs : List MPr) : Reps (k39.M w base ok) 2 xs (encP xs) := by
  refine ⟨encP_len xs, fun j p hj => ?_⟩
  rw [encP_drop]
  have h1 := (List.getElem?_eq_some_iff.1 hj).1
  rw [List.drop_eq_getElem_cons h1, encP_cons]
  have : xs[j] = p := (List.getElem?_eq_some_iff.1 hj).2
  rw [this]
  exact k39_mkM w base ok p
theorem enc_of_reps {w : World} {base : Nat} {ok : Nat → Prop} {xs : List MPr} {cs : List Value} (h : Reps (k39.M w base ok) 2 xs cs) : cs = encP xs := by
  induction xs generalizing cs with
  | nil => exact List.eq_nil_of_length_eq_zero (by rw [h.1]; simp)
  | cons p xs ih =>
    have h0 := k39_openM (h.2 0 p rfl)
    have h1 := ih (Kd.reps_drop (m := 1) h)
    rw [Nat.zero_mul, List.drop_zero] at h0
    rw [encP_cons, ← h0, ← h1, Nat.one_mul, List.take_append_drop]
/-- A row of its own, in cells. -/
structure OwnC (w : World) (g c : Nat) (cs : List Value) : Prop where
  ex : ∃ cur, w.heap[g]? = some (.cells cur 39 (0, 0)) ∧ cur.size = c * 2 ∧ cur.toList.take cs.length = cs
  fit : cs.length ≤ c * 2
  cap : c ≤ maxLen
theorem OwnC.cell {w : World} {g c : Nat} {cs : List Value} (h : OwnC w g c cs) {j : Nat} {v : Value} (hj : cs[j]? = some v) : w.cell? ⟨g, j, none⟩ = some v := by
  obtain ⟨⟨cur, h1, h2, h3⟩, hf, _⟩ := h
  have hl := (List.getElem?_eq_some_iff.1 hj).1
  rw [← h3, List.getElem?_take, if_pos hl, Array.getElem?_toList] at hj
  simp [World.cell?, h1, hj]
theorem OwnC.there {w : World} {g c : Nat} {cs : List Value} (h : OwnC w g c cs) {j : Nat} (hj : j < c * 2) : (w.cell? ⟨g, j, none⟩).isSome = true := by
  obtain ⟨⟨cur, h1, h2, h3⟩, hf, _⟩ := h
  simp [World.cell?, h1, h2, hj]
theorem OwnC.thaw {w : World} {g c : Nat} {cs : List Value} (h : OwnC w g c cs) (j : Nat) : w.frozen? ⟨g, j, none⟩ = false := by
  obtain ⟨⟨cur, h1, h2, h3⟩, hf, _⟩ := h
  simp [World.frozen?, h1]
theorem OwnC.lt {w : World} {g c : Nat} {cs : List Value} (h : OwnC w g c cs) : g < w.heap.size := by
  obtain ⟨⟨cur, h1, h2, h3⟩, hf, _⟩ := h
  exact (Array.getElem?_eq_some_iff.1 h1).1
theorem OwnC.shape {w : World} {g c : Nat} {cs : List Value} (h : OwnC w g c cs) : w.shape? g = some (39, c * 2) := by
  obtain ⟨⟨cur, h1, h2, h3⟩, hf, _⟩ := h
  simp [World.shape?, h1, h2]
theorem OwnC.move {w w1 : World} {g c : Nat} {cs : List Value} (h : OwnC w g c cs) (hm : w1.heap[g]? = w.heap[g]?) : OwnC w1 g c cs := by
  obtain ⟨⟨cur, h1, h2, h3⟩, hf, hc⟩ := h
  exact ⟨⟨cur, hm.trans h1, h2, h3⟩, hf, hc⟩
theorem OwnC.set {w : World} {g c : Nat} {cs : List Value} (h : OwnC w g c cs) (o : Nat) (vs : List Value) (ho : o ≤ cs.length) (hv : o + vs.length ≤ c * 2) : OwnC (w.setCells g o vs) g c (cs.take o ++ vs ++ cs.drop (o + vs.length)) := by
  obtain ⟨⟨cur, h1, h2, h3⟩, hf, hc⟩ := h
  obtain ⟨cur', a, b, d⟩ := setCells_row vs o w cur h1 (by omega)
  have hlen : (cs.take o ++ vs ++ cs.drop (o + vs.length)).length = max cs.length (o + vs.length) := by simp; omega
  refine ⟨⟨cur', a, by rw [b, h2], ?_⟩, by rw [hlen]; omega, hc⟩
  rw [hlen, d]
  have hcl : cur.toList.length = c * 2 := by simpa using h2
  have e1 : cur.toList.take o = cs.take o := by rw [← h3, List.take_take, Nat.min_eq_left ho]
  have e2 : cs.drop (o + vs.length) = (cur.toList.drop (o + vs.length)).take (cs.length - (o + vs.length)) := by
    conv => lhs; rw [← h3]
    rw [List.drop_take]
  rw [e1, e2]
  have e3 : (cs.take o ++ vs).length = o + vs.length := by simp; omega
  rw [List.take_append, e3, List.take_of_length_le (by rw [e3]; omega)]
  congr 1
  congr 1
  omega
theorem OwnC.cut {w : World} {g c : Nat} {cs : List Value} (h : OwnC w g c cs) (m : Nat) : OwnC w g c (cs.take m) := by
  obtain ⟨⟨cur, h1, h2, h3⟩, hf, hc⟩ := h
  refine ⟨⟨cur, h1, h2, ?_⟩, by rw [List.length_take]; omega, hc⟩
  rw [List.length_take]
  conv => rhs; rw [← h3]
  rw [List.take_take, Nat.min_comm]
theorem R_own {w : World} {base g n c : Nat} {ok : Nat → Prop} {xs : List MPr} (h : Kd.R k39 39 w base ok (.slice (some ⟨g, 0, none⟩) n c) xs) : OwnC w g c (encP xs) ∧ n = xs.length ∧ base ≤ g ∧ n ≤ c ∧ ok g := by
  obtain ⟨hok, inner, ⟨hl, ho⟩, hr⟩ := h
  obtain rfl := enc_of_reps hr
  rcases ho with ⟨h0, _⟩ | ⟨g', c', cur, hv, hb, hh, hnc, hcm, hcs, htk⟩
  · cases h0
  · injection hv with ha hn hc
    injection ha with ha
    injection ha with hg
    subst hg; subst hn; subst hc
    exact ⟨⟨⟨cur, hh, hcs, by rw [encP_len]; exact htk⟩, by rw [encP_len]; omega, hcm⟩, rfl, hb, hnc, hok g (by simp [Value.ownBlock])⟩
theorem own_R {w : World} {base g n c : Nat} {ok : Nat → Prop} {xs : List MPr} (h : OwnC w g c (encP xs)) (hn : n = xs.length) (hb : base ≤ g) (hok : ok g) : Kd.R k39 39 w base ok (.slice (some ⟨g, 0, none⟩) n c) xs := by
  obtain ⟨⟨cur, h1, h2, h3⟩, hf, hc⟩ := h
  subst hn
  rw [encP_len] at hf h3
  refine ⟨fun k hk => ?_, encP xs, ⟨encP_len xs, .inr ⟨g, c, cur, rfl, hb, h1, by omega, hc, h2, h3⟩⟩, reps_enc _ _ _ _⟩
  have : g = k := by simpa [Value.ownBlock] using hk
  rw [← this]
  exact hok
/-- What is copied, elements of two cells each. -/
theorem run_copy_two {P : Program} (w : World) (dT sT ty elem : TypeId) (b o dLen dCap : Nat) (a : Addr) (sLen sCap : Nat) (cs : List Value)
    (hu : P.underlying dT = some (.slice elem)) (hs : (P.info? elem).map (·.size) = some 2) (hn : cs.length = Nat.min sLen dLen * 2)
    (hsrc : ∀ j v, cs[j]? = some v → w.cell? (a.add j) = some v) (hc : ∀ j, j < cs.length → (w.cell? ⟨b, o + j, none⟩).isSome = true) (hf : ∀ j, j < cs.length → w.frozen? ⟨b, o + j, none⟩ = false) (h1 : ∀ v ∈ cs, v.oneCell' = true) :
    (Builtin.copy_ #[dT, sT] ty #[.slice (some ⟨b, o, none⟩) dLen dCap, .slice (some a) sLen sCap]).run P w = .ok (goInt (Nat.min sLen dLen)) (w.setCells b o cs) := by
  have hl := run_loadCells_list (P := P) w a cs hsrc
  have hst := run_storeCells_cells (P := P) b o cs 0 w (by simpa using hc) (by simpa using hf) h1
  cases hq : P.info? elem with
  | none => simp [hq] at hs
  | some i =>
    have hi : i.size = 2 := by simpa [hq] using hs
    rw [hn] at hl
    simp [Builtin.copy_, run_underlying hu, Builtin.lenOf, Builtin.firstCells, sizeOf, typeInfo, hq, hi, hl, hst]
/-- One element of two cells is cleared. -/
theorem run_clear_two {P : Program} (w : World) (t e ty : TypeId) (z u v : Value) (ht : P.underlying t = some (.slice e)) (hv : ∀ w, (zeroValue e).run P w = .ok z w) (hz : z.cells = #[u, v]) (h1 : u.oneCell' = true) (h2 : v.oneCell' = true) (b o c : Nat)
    (hc : ∀ j, j < 2 → (w.cell? ⟨b, o + j, none⟩).isSome = true) (hf : ∀ j, j < 2 → w.frozen? ⟨b, o + j, none⟩ = false) :
    (Builtin.clear_ #[t] ty #[.slice (some ⟨b, o, none⟩) 1 c]).run P w = .ok (.tuple #[]) (w.setCells b o [u, v]) := by
  have hzc : (Builtin.zeroCells z.cells 1).toList = [u, v] := by
    rw [hz]
    simp [Builtin.zeroCells]
    rfl
  have hst := run_storeCells_cells (P := P) b o [u, v] 0 w (by simpa using hc) (by simpa using hf) (by intro x hx; simp at hx; rcases hx with rfl | rfl; exact h1; exact h2)
  simp only [Nat.add_zero] at hst
  simp [Builtin.clear_, run_underlying ht, hv, hzc, hst]
end Go.Proofs.YtkncjpafehnmnaaG

end

section
set_option linter.unusedVariables false
set_option linter.unusedSimpArgs false
namespace Go.Proofs.YtkncjpafehnmnaaG
open Go Go.RowKit Go.Proofs.YtkncjpafehnmnaaR Go.Proofs.YtkncjpafehnmnaaL Go.Proofs.Ytkncjpafehnmnaa.P Go.Proofs.YtkncjpafehnmnaaW.PrintWords
/-- An append whose run is known, as a step of a region that draws. -/
theorem step_append_eq {P : Program} {ops : Array Oper} {o : Oper} {a : Act} {w : World} {K : Act → World → Prop} {Q : Exit → Act → World → Prop} {E : Prop}
    (hg : o.guard = none) (d x : Operand) (dT sT : TypeId) (hop : o.op = Op.call { callee := Callee.builtin Builtin.append, args := #[d, x], argTypes := #[dT, sT] })
    (v u : Value) (hd : a.eval d = v) (hx : a.eval x = u) {v' : Value} {w' : World} (hr : (Builtin.append_ #[dT, sT] o.type #[v, u]).run P w = .ok v' w') (hK : K (a.put o.dst v') w') :
    if Region.wanted o (yielded ops a.tmps) = true then Oper.wp P o a w K Q else E := by
  have hw : Region.wanted o (yielded ops a.tmps) = true := by simp [Region.wanted, hg]
  rw [if_pos hw]
  unfold Oper.wp
  simp [execOp, hop, resolve, invoke, builtin, hd, hx, hr, Result.andThen]
  exact hK
theorem step_copy_eq {P : Program} {ops : Array Oper} {o : Oper} {a : Act} {w : World} {K : Act → World → Prop} {Q : Exit → Act → World → Prop} {E : Prop}
    (hg : o.guard = none) (d x : Operand) (dT sT : TypeId) (hop : o.op = Op.call { callee := Callee.builtin Builtin.copy, args := #[d, x], argTypes := #[dT, sT] })
    (v u : Value) (hd : a.eval d = v) (hx : a.eval x = u) {v' : Value} {w' : World} (hr : (Builtin.copy_ #[dT, sT] o.type #[v, u]).run P w = .ok v' w') (hK : K (a.put o.dst v') w') :
    if Region.wanted o (yielded ops a.tmps) = true then Oper.wp P o a w K Q else E := by
  have hw : Region.wanted o (yielded ops a.tmps) = true := by simp [Region.wanted, hg]
  rw [if_pos hw]
  unfold Oper.wp
  simp [execOp, hop, resolve, invoke, builtin, hd, hx, hr, Result.andThen]
  exact hK
theorem wpList_copy_eq {P : Program} (w : World) {ops : Array Oper} {rest : List Oper} {o : Oper} {a : Act} {Q : Exit → Act → World → Prop} (hgd : o.guard = none) (d s : Operand) (t t' : TypeId)
    (ho : o.op = .call { callee := .builtin .copy, args := #[d, s], argTypes := #[t, t'] }) (v u : Value) (hd : a.eval d = v) (hs : a.eval s = u) {v' : Value} {w' : World}
    (hr : (Builtin.copy_ #[t, t'] o.type #[v, u]).run P w = .ok v' w') (h : wpList P ops Q rest (a.put o.dst v') w') : wpList P ops Q (o :: rest) a w :=
  wpList_plain hgd fun _ hK => by
    unfold Oper.wp execOp
    simp only [ho, resolve, invoke, builtin, Sem.run_bind, Sem.run_pure, Result.andThen_ok, List.map_toArray, List.map_cons, List.map_nil, hd, hs, hr]
    exact hK _ _ h
theorem wpList_append_eq {P : Program} (w : World) {ops : Array Oper} {rest : List Oper} {o : Oper} {a : Act} {Q : Exit → Act → World → Prop} (hgd : o.guard = none) (d s : Operand) (t t' : TypeId)
    (ho : o.op = .call { callee := .builtin .append, args := #[d, s], argTypes := #[t, t'] }) (v u : Value) (hd : a.eval d = v) (hs : a.eval s = u) {v' : Value} {w' : World}
    (hr : (Builtin.append_ #[t, t'] o.type #[v, u]).run P w = .ok v' w') (h : wpList P ops Q rest (a.put o.dst v') w') : wpList P ops Q (o :: rest) a w :=
  wpList_plain hgd fun _ hK => by
    unfold Oper.wp execOp
    simp only [ho, resolve, invoke, builtin, Sem.run_bind, Sem.run_pure, Result.andThen_ok, List.map_toArray, List.map_cons, List.map_nil, hd, hs, hr]
    exact hK _ _ h
theorem grown_cells (w : World) (g o : Nat) (vs : List Value) : w.grownBy (w.setCells g o vs) (some g) := by
  obtain ⟨s1, s2, s3, s4⟩ := setCells_same g vs o w
  exact ⟨s1, s2, s3, by rw [s4]; exact Nat.le_refl _, fun k _ hk => setCells_far vs _ k (fun he => hk (by rw [he]))⟩
theorem grown_then {w w1 w2 : World} {r : Option Nat} (h1 : w.grownBy w1 r) (h2 : w1.grownBy w2 r) : w.grownBy w2 r := ⟨h2.os.trans h1.os, h2.tape.trans h1.tape, h2.output.trans h1.output, Nat.le_trans h1.size h2.size, fun k hk hr => (h2.block k (Nat.lt_of_lt_of_le hk h1.size) hr).trans (h1.block k hk hr)⟩
theorem grown_drew (w : World) (r : Option Nat) : w.grownBy w.drew r := ⟨rfl, rfl, rfl, Nat.le_refl _, fun _ _ _ => rfl⟩
set_option maxRecDepth 100000 in
set_option maxHeartbeats 2000000 in
theorem delete_calls (g n c k : Nat) (xs : List MPr) (w : World) (HO : OwnC w g c (encP xs)) (hn : n = xs.length) (hnc : n ≤ c) (hk : k < n) (hc : c ≤ 9223372036854775807) :
    Calls Try.prog 44 #[.slice (some ⟨g, 0, none⟩) n c, .int .i64 k, .int .i64 ((k : Int) + 1)] w fun e w' => e = .returned (.slice (some ⟨g, 0, none⟩) (n - 1) c) ∧ OwnC w' g c (encP (xs.eraseIdx k)) ∧ w.grownBy w' (some g) := by
  have hne : decide ((k : Int) = (k : Int) + 1) = false := decide_eq_false (by omega)
  have hlen := encP_len xs
  obtain ⟨news, hnews⟩ : ∃ news, news = (encP xs).drop ((k + 1) * 2) := ⟨_, rfl⟩
  have hnl : news.length = (n - (k + 1)) * 2 := by rw [hnews, List.length_drop, hlen]; omega
  have HD : OwnC w.drew g c (encP xs) := HO.move rfl
  obtain ⟨W1, hW1⟩ : ∃ W1, W1 = w.drew.setCells g (0 + k * 2) news := ⟨_, rfl⟩
  have H1 : OwnC W1 g c (encP (xs.eraseIdx k)) := by
    have h := (HD.set (0 + k * 2) news (by omega) (by have := HO.fit; omega)).cut ((n - 1) * 2)
    rw [← hW1] at h
    have e : (((encP xs).take (0 + k * 2) ++ news ++ (encP xs).drop (0 + k * 2 + news.length)).take ((n - 1) * 2)) = encP (xs.eraseIdx k) := by
      rw [List.take_left' (by rw [List.length_append, List.length_take, hnl]; omega), hnews, Nat.zero_add, encP_take, encP_drop, ← encP_app, List.eraseIdx_eq_take_drop_succ]
    rw [e] at h
    exact h
  have hrun : ∀ (a : Addr) (c2 : Nat) ty, (k + 1 < n → a = ⟨g, (k + 1) * 2, none⟩) → (Builtin.append_ #[22, 22] ty #[.slice (some ⟨g, 0, none⟩) k c, .slice (some a) (n - (k + 1)) c2]).run Try.prog w.drew = .ok (.slice (some ⟨g, 0, none⟩) (n - 1) c) W1 := fun a c2 ty ha => by
    obtain ⟨i0, hi0, hz1⟩ := Option.map_eq_some_iff.1 info39
    have hz0 : i0.size = 2 := by injection hz1 with _ h; injection h
    have h := run_append_room_cells (P := Try.prog) (w := w.drew) 22 ty 39 i0 Try.underlying22 hi0 g 0 k c a (n - (k + 1)) c2 news (by rw [hnl, hz0]) (fun j u hu => by
        have hj := (List.getElem?_eq_some_iff.1 hu).1
        rw [ha (by omega), Addr.add_lit]
        rw [hnews, List.getElem?_drop] at hu
        exact HD.cell hu) (fun u hu => by rw [hnews] at hu; exact encP_one (List.mem_of_mem_drop hu)) (by omega) (fun j hj => by rw [hz0]; exact HD.there (by omega)) (fun j _ => HD.thaw _)
    rw [hz0, ← hW1, show k + (n - (k + 1)) = n - 1 by omega] at h
    exact h
  have hcl : ∀ ty c2, (Builtin.clear_ #[22] ty #[.slice (some ⟨g, (n - 1) * 2, none⟩) 1 c2]).run Try.prog W1 = .ok (.tuple #[]) (W1.setCells g ((n - 1) * 2) [.string ⟨#[]⟩, .string ⟨#[]⟩]) := fun ty c2 =>
    run_clear_two W1 22 39 ty (.agg #[.string ⟨#[]⟩, .string ⟨#[]⟩]) (.string ⟨#[]⟩) (.string ⟨#[]⟩) Try.underlying22 (fun w => by kernel_rfl) rfl rfl rfl g ((n - 1) * 2) c2 (fun j hj => H1.there (by omega)) (fun j _ => H1.thaw _)
  have H2 : OwnC (W1.setCells g ((n - 1) * 2) [.string ⟨#[]⟩, .string ⟨#[]⟩]) g c (encP (xs.eraseIdx k)) := by
    have hel : (xs.eraseIdx k).length = n - 1 := by rw [List.length_eraseIdx_of_lt (by omega), hn]
    have hl2 : (encP (xs.eraseIdx k)).length = (n - 1) * 2 := by rw [encP_len, hel]
    have h := (H1.set ((n - 1) * 2) [.string ⟨#[]⟩, .string ⟨#[]⟩] (by omega) (by simp; omega)).cut ((n - 1) * 2)
    have e : (((encP (xs.eraseIdx k)).take ((n - 1) * 2) ++ [Value.string ⟨#[]⟩, .string ⟨#[]⟩] ++ (encP (xs.eraseIdx k)).drop ((n - 1) * 2 + [Value.string ⟨#[]⟩, .string ⟨#[]⟩].length)).take ((n - 1) * 2)) = encP (xs.eraseIdx k) := by
      rw [List.append_assoc, List.take_left' (by rw [List.length_take]; omega), List.take_of_length_le (by omega)]
    rw [e] at h
    exact h
  have hG : w.grownBy (W1.setCells g ((n - 1) * 2) [.string ⟨#[]⟩, .string ⟨#[]⟩]) (some g) := grown_then (by rw [hW1]; exact grown_then (grown_drew w _) (grown_cells _ _ _ _)) (grown_cells _ _ _ _)
  have hrun2 : ∀ ty, (Builtin.append_ #[22, 22] ty #[.slice (some ⟨g, 0, none⟩) k c, .slice (if c = k + 1 then some ⟨g, 0, none⟩ else some ⟨g, (k + 1) * 2, none⟩) (n - (k + 1)) (c - (k + 1))]).run Try.prog w.drew = .ok (.slice (some ⟨g, 0, none⟩) (n - 1) c) W1 := fun ty => by
    by_cases hck : c = k + 1
    · rw [if_pos hck]; exact hrun _ _ _ (fun h => absurd h (by omega))
    · rw [if_neg hck]; exact hrun _ _ _ (fun _ => rfl)
  have HRUN := Aside0.mk hrun2
  have HCL := Aside0.mk hcl
  have HH2 := Aside0.mk H2
  have HHG := Aside0.mk hG
  clear hrun hrun2 hcl H2 hG H1 HD hW1 hnl hnews hlen HO hn
  have hb1 : (k : Int) ≤ (c : Int) := by omega
  have hb2 : (k : Int) + 1 ≤ (n : Int) := by omega
  have hb3 : (n : Int) ≤ (c : Int) := by omega
  have htn : ((k : Int) + 1).toNat = k + 1 := by omega
  have hb4 : (0 : Int) ≤ (k : Int) + 1 := by omega
  have hb5 : k ≤ c := by omega
  have hb6 : k + 1 ≤ n := by omega
  have hb7 : (k : Int) ≤ (k : Int) + 1 := by omega
  have hm1 : ((n - 1 : Nat) : Int) ≤ (n : Int) := by omega
  have hm2 : n - (n - 1) = 1 := by omega
  have hm3 : ¬ (c = n - 1) := by omega
  have hm4 : n - 1 ≤ n := by omega
  go_enter Try.func44, Try.ntmps44
  go_wp2_with fail
  go_region_law (refine step_append_eq ?hg (.tmp 22) (.tmp 25) 22 22 ?ho _ _ ?hd ?hx (HRUN.out _) ?_; (case hg => rfl); (case ho => rfl); (case hd => rfl); (case hx => rfl))
  have hcl := HCL.out
  go_wp2
  · rename_i h
    go_ret
    exact ⟨rfl, by have := HH2.out; rwa [h] at this, HHG.out⟩
  · go_ret
    exact ⟨rfl, HH2.out, HHG.out⟩
end Go.Proofs.YtkncjpafehnmnaaG

end

section
set_option linter.unusedVariables false
set_option linter.unusedSimpArgs false
namespace Go.Proofs.YtkncjpafehnmnaaG
open Go Go.RowKit Go.Proofs.YtkncjpafehnmnaaR Go.Proofs.YtkncjpafehnmnaaL Go.Proofs.Ytkncjpafehnmnaa.P Go.Proofs.YtkncjpafehnmnaaW.PrintWords
theorem ins_enc (xs : List MPr) (i : Nat) (p : MPr) (hi : i ≤ xs.length) : encP (xs.insertIdx i p) = (encP xs).take (i * 2) ++ [.string p.f0, .string p.f1] ++ (encP xs).drop (i * 2) := by
  have e : xs.insertIdx i p = xs.take i ++ p :: xs.drop i := by
    have h := ins_app p (xs.drop i) (xs.take i)
    rwa [List.take_append_drop, List.length_take, Nat.min_eq_left hi] at h
  rw [e, encP_app, encP_cons, encP_take, encP_drop, List.append_assoc]
/-- A box with one pair. -/
def Box1 (w : World) (vb : Nat) (p : MPr) : Prop := ∃ tA, w.heap[vb]? = some (.cells #[.string p.f0, .string p.f1] tA (0, 0))
theorem Box1.cell {w : World} {vb : Nat} {p : MPr} (h : Box1 w vb p) {j : Nat} {v : Value} (hj : ([.string p.f0, .string p.f1] : List Value)[j]? = some v) : w.cell? ⟨vb, j, none⟩ = some v := by
  obtain ⟨t, h⟩ := h
  rw [List.getElem?_eq_some_iff] at hj
  obtain ⟨hl, hv⟩ := hj
  have hl' : j < 2 := hl
  match j, hl' with
  | 0, _ => simp [World.cell?, h]; simpa using hv
  | 1, _ => simp [World.cell?, h]; simpa using hv
theorem pair_one {p : MPr} : ∀ v ∈ ([.string p.f0, .string p.f1] : List Value), v.oneCell' = true := by
  intro v hv
  simp at hv
  rcases hv with rfl | rfl <;> rfl
set_option maxRecDepth 100000 in
set_option maxHeartbeats 4000000 in
theorem ins_shift (g n c i vb vc : Nat) (xs : List MPr) (p : MPr) (w : World) (HO : OwnC w g c (encP xs)) (hn : n = xs.length) (hi : i < n) (hnc : n + 1 ≤ c) (hc : c ≤ 9223372036854775807) (hvb : vb ≠ g) (HV : Box1 w vb p) :
    Calls Try.prog 45 #[.slice (some ⟨g, 0, none⟩) n c, .int .i64 i, .slice (some ⟨vb, 0, none⟩) 1 vc] w fun e w' => e = .returned (.slice (some ⟨g, 0, none⟩) (n + 1) c) ∧ OwnC w' g c (encP (xs.insertIdx i p)) ∧ w.grownBy w' (some g) := by
  have hlen := encP_len xs
  have hsz : (Try.prog.info? 39).map (·.size) = some 2 := by
    obtain ⟨i0, hi0, hz1⟩ := Option.map_eq_some_iff.1 info39
    rw [hi0]
    injection hz1 with _ h
    injection h with h
    simp [h]
  have HD : OwnC w.drew g c (encP xs) := HO.move rfl
  have hdl : ((encP xs).drop (i * 2)).length = (n - i) * 2 := by rw [List.length_drop, hlen]; omega
  obtain ⟨W1, hW1⟩ : ∃ W1, W1 = w.drew.setCells g ((i + 1) * 2) ((encP xs).drop (i * 2)) := ⟨_, rfl⟩
  have H1 := HD.set ((i + 1) * 2) ((encP xs).drop (i * 2)) (by omega) (by omega)
  rw [← hW1] at H1
  obtain ⟨cs1, hcs1⟩ : ∃ cs1, cs1 = (encP xs).take ((i + 1) * 2) ++ (encP xs).drop (i * 2) ++ (encP xs).drop ((i + 1) * 2 + ((encP xs).drop (i * 2)).length) := ⟨_, rfl⟩
  rw [← hcs1] at H1
  have hc1l : cs1.length = (n + 1) * 2 := by rw [hcs1]; simp only [List.length_append, List.length_take, List.length_drop, hlen]; omega
  have H2 := H1.set (i * 2) [.string p.f0, .string p.f1] (by omega) (by simp; omega)
  have e2 : cs1.take (i * 2) ++ [Value.string p.f0, .string p.f1] ++ cs1.drop (i * 2 + [Value.string p.f0, .string p.f1].length) = encP (xs.insertIdx i p) := by
    rw [ins_enc xs i p (by omega), hcs1]
    congr 1
    · congr 1
      rw [List.append_assoc, List.take_append_of_le_length (by rw [List.length_take]; omega), List.take_take, Nat.min_eq_left (by omega)]
    · rw [List.append_assoc, show i * 2 + [Value.string p.f0, .string p.f1].length = (i + 1) * 2 by simp; omega, List.drop_left' (by rw [List.length_take]; omega), show (encP xs).drop ((i + 1) * 2 + ((encP xs).drop (i * 2)).length) = [] from List.drop_eq_nil_of_le (by omega), List.append_nil]
  rw [e2] at H2
  have hcp1 : ∀ ty dc sc, (Builtin.copy_ #[22, 22] ty #[.slice (some ⟨g, (i + 1) * 2, none⟩) (n - i) dc, .slice (some ⟨g, i * 2, none⟩) (n + 1 - i) sc]).run Try.prog w.drew = .ok (goInt ((n - i : Nat) : Int)) W1 := fun ty dc sc => by
    have hmin : Nat.min (n + 1 - i) (n - i) = n - i := by simp only [Nat.min_def]; split <;> omega
    have h := run_copy_two (P := Try.prog) w.drew 22 22 ty 39 g ((i + 1) * 2) (n - i) dc ⟨g, i * 2, none⟩ (n + 1 - i) sc ((encP xs).drop (i * 2)) Try.underlying22 hsz (by rw [hdl, hmin])
      (fun j v hj => by rw [Addr.add_lit]; rw [List.getElem?_drop] at hj; exact HD.cell hj) (fun j hj => HD.there (by omega)) (fun j _ => HD.thaw _) (fun v hv => encP_one (List.mem_of_mem_drop hv))
    rw [hmin, ← hW1] at h
    exact h
  have hcp2 : ∀ (W : World), (∀ x, W.cell? x = W1.cell? x) → (∀ x, W.frozen? x = W1.frozen? x) → ∀ ty dc, (Builtin.copy_ #[22, 22] ty #[.slice (some ⟨g, i * 2, none⟩) (n + 1 - i) dc, .slice (some ⟨vb, 0, none⟩) 1 vc]).run Try.prog W = .ok (goInt (1 : Nat)) (W.setCells g (i * 2) [.string p.f0, .string p.f1]) := fun W hWc hWf ty dc => by
    have hmin : Nat.min 1 (n + 1 - i) = 1 := by simp only [Nat.min_def]; split <;> omega
    have h := run_copy_two (P := Try.prog) W 22 22 ty 39 g (i * 2) (n + 1 - i) dc ⟨vb, 0, none⟩ 1 vc [.string p.f0, .string p.f1] Try.underlying22 hsz (by rw [hmin]; rfl)
      (fun j v hj => by
        rw [Addr.add_lit, hWc, hW1, World.cell?_setCells_out g _ _ _ _ (fun h _ => absurd h hvb), Nat.zero_add]
        exact HV.cell hj) (fun j hj => by rw [hWc]; exact H1.there (by simp at hj; omega)) (fun j _ => by rw [hWf]; exact H1.thaw _) pair_one
    rw [hmin] at h
    exact h
  have hov : ∀ lb cb, (callFunc 65 #[.slice (some ⟨vb, 0, none⟩) 1 vc, .slice (some ⟨g, (i + 1) * 2, none⟩) lb cb]).run Try.prog w = .ok (.value (.bool false)) w := fun lb cb => by
    obtain ⟨tA, hbx⟩ := HV
    rw [run_callFunc_extern Try.func65 (by kernel_rfl) (by kernel_rfl) (by kernel_rfl) (e := Extern.SlicesOverlaps.overlaps #[22, 22] #[4]) (by kernel_rfl),
      Lib.run_overlaps_apart w 22 4 39 Try.underlying22 2 (fun w => by kernel_rfl) ⟨vb, 0, none⟩ ⟨g, (i + 1) * 2, none⟩ 1 vc lb cb hvb tA 39 2 (c * 2) (by simp [World.shape?, hbx]) HO.shape (by omega) (by simp [World.frozen?, hbx]) (by simp [World.frozen?, hbx])]
    rfl
  have hG : w.grownBy (W1.setCells g (i * 2) [.string p.f0, .string p.f1]) (some g) := grown_then (by rw [hW1]; exact grown_then (grown_drew w _) (grown_cells _ _ _ _)) (grown_cells _ _ _ _)
  have HCP1 := Aside0.mk hcp1
  have HCP2 := Aside0.mk hcp2
  have HH2 := Aside0.mk H2
  have HHG := Aside0.mk hG
  clear hcp1 hcp2 H2 hG H1 HD hW1 hdl hlen HO hn e2 hc1l hcs1 HV hsz
  have hw1 : IntKind.i64.wrap ((i : Int) + 1) = (i : Int) + 1 := by rw [IntKind.wrap_i64]; omega
  have hw2 : wrap64 ((i : Int) + 1) = ((i + 1 : Nat) : Int) := by unfold wrap64; omega
  have hw3 : wrap64 ((n : Int) + 1) = ((n + 1 : Nat) : Int) := by unfold wrap64; omega
  have hb1 : (0 : Int) ≤ (i : Int) + 1 := by omega
  have hin : i ≤ n := by omega
  have htn : ((i : Int) + 1).toNat = i + 1 := by omega
  have hb2 : ¬ (c = i + 1) := by omega
  have hb3 : (i : Int) ≤ (n : Int) + 1 := by omega
  have hb4 : ¬ (c = i) := by omega
  have hne : ¬ ((i : Int) = (n : Int)) := by omega
  go_enter Try.func45, Try.ntmps45
  go_wp2_with (simp only [hov])
  go_region_law (refine step_copy_eq ?hg (.tmp 73) (.tmp 76) 22 22 ?ho (.slice (some ⟨g, (i + 1) * 2, none⟩) (n - i) (c - (i + 1))) (.slice (some ⟨g, i * 2, none⟩) (n + 1 - i) (c - i)) ?hd ?hx (HCP1.out _ _ _) ?_; (case hg => rfl); (case ho => rfl); (case hd => simp [Act.eval, Act.put]); (case hx => simp [Act.eval, Act.put]))
  go_wp2_with ((with_reducible refine gate_builtin (b := .copy) (xs := #[.tmp 80, .tmp 81]) rfl ?_); refine wpList_copy_eq _ rfl (.tmp 80) (.tmp 81) 22 22 rfl (.slice (some ⟨g, i * 2, none⟩) (n + 1 - i) (c - i)) (.slice (some ⟨vb, 0, none⟩) 1 vc) rfl rfl (HCP2.out W1 (fun _ => rfl) (fun _ => rfl) _ _) ?_)
  go_ret
  exact ⟨rfl, HH2.out, HHG.out⟩
theorem info_pair : ∃ i0, Try.prog.info? 39 = some i0 ∧ i0.zero = some (.agg #[.string ⟨#[]⟩, .string ⟨#[]⟩]) ∧ i0.size = 2 ∧ i0.bytes = 32 := by
  obtain ⟨i0, hi0, hz1⟩ := Option.map_eq_some_iff.1 info39
  injection hz1 with h0 h
  injection h with h1 h2
  exact ⟨i0, hi0, h0, h1, h2⟩
set_option maxRecDepth 100000 in
set_option maxHeartbeats 4000000 in
theorem ins_grow (g n c i vb vc : Nat) (xs : List MPr) (p : MPr) (w : World) (HO : OwnC w g c (encP xs)) (hn : n = xs.length) (hi : i < n) (hnc : n ≤ c) (hroom : c < n + 1) (hbig : n ≤ 1000000000) (hvb : vb < w.heap.size) (HV : Box1 w vb p) :
    Calls Try.prog 45 #[.slice (some ⟨g, 0, none⟩) n c, .int .i64 i, .slice (some ⟨vb, 0, none⟩) 1 vc] w fun e w' => ∃ G, e = .returned (.slice (some ⟨w.heap.size, 0, none⟩) (n + 1) G) ∧ n + 1 ≤ G ∧ OwnC w' w.heap.size G (encP (xs.insertIdx i p)) ∧ Below w.heap.size w w' := by
  have hlen := encP_len xs
  obtain ⟨i0, hi0, hz0, hzs, hzb⟩ := info_pair
  have hsz : (Try.prog.info? 39).map (·.size) = some 2 := by rw [hi0]; simp [hzs]
  have hgw := HO.lt
  have hkk : (n : Int) + 1 - (i : Int) = ((n + 1 - i : Nat) : Int) := by omega
  have hik : i + (n + 1 - i) = n + 1 := by omega
  have hold : (Builtin.firstCells i0.size i (.slice (some ⟨g, 0, none⟩) i c)).run Try.prog w.drew = .ok ((encP xs).take (i * 2)).toArray w.drew := by
    rw [hzs]
    exact run_firstCells_some w.drew 2 i ⟨g, 0, none⟩ i c ((encP xs).take (i * 2)) (by rw [List.length_take]; omega) (fun j v hj => by
      rw [Addr.add_lit, Nat.zero_add]
      rw [List.getElem?_take] at hj
      split at hj
      · exact (HO.move (w1 := w.drew) rfl).cell hj
      · cases hj)
  obtain ⟨G, hG⟩ : ∃ G, G = grownCap w (n + 1) c 39 := ⟨_, rfl⟩
  obtain ⟨ROW, hROW⟩ : ∃ ROW : Array Value, ROW = ((encP xs).take (i * 2)).toArray ++ Builtin.zeroCells (Value.agg #[.string ⟨#[]⟩, .string ⟨#[]⟩]).cells (n + 1 - i) ++ Builtin.zeroCells (Value.agg #[.string ⟨#[]⟩, .string ⟨#[]⟩]).cells (G - (n + 1)) := ⟨_, rfl⟩
  have hrz : ∀ ty, (Builtin.append_ #[22, 3] ty #[.slice (some ⟨g, 0, none⟩) i c, .int .i64 ((n : Int) + 1 - (i : Int))]).run Try.prog w =
      .ok (.slice (some ⟨w.heap.size, 0, none⟩) (n + 1) G) (w.drew.alloc (.cells ROW 39)) := fun ty => by
    have h := Lib.run_append_grow_zeros w 22 3 ty 39 i0 _ .i64 .i64 Try.underlying22 Try.underlying3 hi0 hz0 (some ⟨g, 0, none⟩) i c ((encP xs).take (i * 2)) hold (n + 1 - i) (by omega) (by omega) (by omega) (by omega) (by rw [hzb]; omega) (by rw [hzb, hik]; exact growslice_fits hroom (by omega))
    rw [hik, ← hG, ← hROW] at h
    rw [hkk]
    exact h
  have hGn : n + 1 ≤ G := by rw [hG]; exact grownCap_ge w _ _ _
  have hGm : G ≤ maxLen := by rw [hG]; exact grownCap_le_maxLen w (n + 1) c 39 (by unfold maxLen; omega)
  have hG63 : G ≤ 9223372036854775807 := by unfold maxLen at hGm; omega
  have hRs : ROW.size = G * 2 := by
    rw [hROW]
    simp [Builtin.zeroCells, Value.cells, hlen]
    omega
  obtain ⟨W1, hW1⟩ : ∃ W1, W1 = w.drew.alloc (.cells ROW 39) := ⟨_, rfl⟩
  rw [← hW1] at hrz
  have HN : OwnC W1 w.heap.size G (ROW.toList.take ((n + 1) * 2)) := by
    refine ⟨⟨ROW, by rw [hW1]; exact heap_alloc_new w.drew _, hRs, ?_⟩, by rw [List.length_take, Array.length_toList, hRs]; omega, hGm⟩
    rw [List.length_take, Array.length_toList, hRs, Nat.min_eq_left (by omega)]
  obtain ⟨N, hN0⟩ : ∃ N, N = w.heap.size := ⟨_, rfl⟩
  rw [← hN0] at HN hrz ⊢
  obtain ⟨pc, hpc⟩ : ∃ pc : List Value, pc = [.string p.f0, .string p.f1] := ⟨_, rfl⟩
  have hpl : pc.length = 2 := by rw [hpc]; rfl
  have hNl : (ROW.toList.take ((n + 1) * 2)).length = (n + 1) * 2 := by rw [List.length_take, Array.length_toList, hRs]; omega
  have hold1 : ∀ k, k < N → W1.heap[k]? = w.heap[k]? := fun k hk => by rw [hW1]; exact Below.heap_alloc w.drew _ k (by show k < w.heap.size; omega)
  have HA := HN.set (i * 2) pc (by rw [hNl]; omega) (by rw [hpl]; omega)
  obtain ⟨W2, hW2⟩ : ∃ W2, W2 = W1.setCells N (i * 2) pc := ⟨_, rfl⟩
  rw [← hW2] at HA
  obtain ⟨csA, hcsA⟩ : ∃ csA, csA = (ROW.toList.take ((n + 1) * 2)).take (i * 2) ++ pc ++ (ROW.toList.take ((n + 1) * 2)).drop (i * 2 + pc.length) := ⟨_, rfl⟩
  rw [← hcsA] at HA
  have hAl : csA.length = (n + 1) * 2 := by rw [hcsA]; simp only [List.length_append, List.length_take, List.length_drop, hNl, hpl, Array.length_toList, hRs]; omega
  have hold2 : ∀ k, k < N → W2.heap[k]? = w.heap[k]? := fun k hk => by rw [hW2]; exact (setCells_far pc _ k (by omega)).trans (hold1 k hk)
  have hDl : ((encP xs).drop (i * 2)).length = (n - i) * 2 := by rw [List.length_drop, hlen]; omega
  have hcpA : ∀ (W : World), W.heap = W1.heap → ∀ ty dc, (Builtin.copy_ #[22, 22] ty #[.slice (some ⟨N, i * 2, none⟩) (n + 1 - i) dc, .slice (some ⟨vb, 0, none⟩) 1 vc]).run Try.prog W = .ok (goInt (1 : Nat)) (W.setCells N (i * 2) pc) := fun W hWh ty dc => by
    have hmin : Nat.min 1 (n + 1 - i) = 1 := by simp only [Nat.min_def]; split <;> omega
    have HNW := HN.move (w1 := W) (by rw [hWh])
    have HVW : Box1 W vb p := by
      obtain ⟨tA, h⟩ := HV
      exact ⟨tA, by rw [hWh, hold1 vb (by omega)]; exact h⟩
    have h := run_copy_two (P := Try.prog) W 22 22 ty 39 N (i * 2) (n + 1 - i) dc ⟨vb, 0, none⟩ 1 vc pc Try.underlying22 hsz (by rw [hmin, hpl])
      (fun j v hj => by
        rw [Addr.add_lit, Nat.zero_add]
        rw [hpc] at hj
        exact HVW.cell hj) (fun j hj => HNW.there (by omega)) (fun j _ => HNW.thaw _) (by rw [hpc]; exact pair_one)
    rw [hmin] at h
    exact h
  have hcpB : ∀ (W : World), W.heap = W2.heap → ∀ ty dc sc, (Builtin.copy_ #[22, 22] ty #[.slice (some ⟨N, (i + 1) * 2, none⟩) (n - i) dc, .slice (some ⟨g, i * 2, none⟩) (n - i) sc]).run Try.prog W = .ok (goInt ((n - i : Nat) : Int)) (W.setCells N ((i + 1) * 2) ((encP xs).drop (i * 2))) := fun W hWh ty dc sc => by
    have hmin : Nat.min (n - i) (n - i) = n - i := Nat.min_self _
    have HAW := HA.move (w1 := W) (by rw [hWh])
    have HOW := HO.move (w1 := W) (by rw [hWh, hold2 g (by omega)])
    have h := run_copy_two (P := Try.prog) W 22 22 ty 39 N ((i + 1) * 2) (n - i) dc ⟨g, i * 2, none⟩ (n - i) sc ((encP xs).drop (i * 2)) Try.underlying22 hsz (by rw [hDl, hmin])
      (fun j v hj => by
        rw [Addr.add_lit]
        rw [List.getElem?_drop] at hj
        exact HOW.cell hj) (fun j hj => HAW.there (by omega)) (fun j _ => HAW.thaw _) (fun v hv => encP_one (List.mem_of_mem_drop hv))
    rw [hmin] at h
    exact h
  have hfin : ∀ X : World, X.heap = W2.heap → X.os = w.os → X.tape = w.tape → X.output = w.output → OwnC (X.setCells N ((i + 1) * 2) ((encP xs).drop (i * 2))) N G (encP (xs.insertIdx i p)) ∧ Below N w (X.setCells N ((i + 1) * 2) ((encP xs).drop (i * 2))) := fun X hX h1 h2 h3 => by
    have HAX := HA.move (w1 := X) (by rw [hX])
    have h := HAX.set ((i + 1) * 2) ((encP xs).drop (i * 2)) (by omega) (by omega)
    have e : csA.take ((i + 1) * 2) ++ (encP xs).drop (i * 2) ++ csA.drop ((i + 1) * 2 + ((encP xs).drop (i * 2)).length) = encP (xs.insertIdx i p) := by
      have hcut : (ROW.toList.take ((n + 1) * 2)).take (i * 2) = (encP xs).take (i * 2) := by
        rw [List.take_take, Nat.min_eq_left (by omega), hROW, Array.toList_append, Array.toList_append, List.append_assoc]
        exact List.take_left' (by simp; omega)
      rw [ins_enc xs i p (by omega), show csA.drop ((i + 1) * 2 + ((encP xs).drop (i * 2)).length) = [] from List.drop_eq_nil_of_le (by rw [hAl, hDl]; omega), List.append_nil, hcsA, hcut, ← hpc]
      congr 1
      exact List.take_left' (by rw [List.length_append, List.length_take, hpl]; omega)
    rw [e] at h
    obtain ⟨s1, s2, s3, s4⟩ := setCells_same N ((encP xs).drop (i * 2)) ((i + 1) * 2) X
    have hsz2 : W2.heap.size = w.heap.size + 1 := by rw [hW2, (setCells_same N pc (i * 2) W1).2.2.2, hW1]; simp
    exact ⟨h, s1.trans h1, s2.trans h2, s3.trans h3, by rw [s4, hX, hsz2]; omega, fun k hk => (setCells_far _ _ k (by omega)).trans (by rw [hX]; exact hold2 k (by omega))⟩
  have HRZ := Aside0.mk hrz
  have HCB := Aside0.mk hcpB
  have HFIN := Aside0.mk (hfin W2.drew rfl (by rw [hW2]; exact (setCells_same N pc (i * 2) W1).1.trans (by rw [hW1]; rfl)) (by rw [hW2]; exact (setCells_same N pc (i * 2) W1).2.1.trans (by rw [hW1]; rfl)) (by rw [hW2]; exact (setCells_same N pc (i * 2) W1).2.2.1.trans (by rw [hW1]; rfl)))
  have HCA := Aside0.mk (fun ty dc => hW2 ▸ hcpA W1 rfl ty dc)
  have hci : ¬ (c = i) := by omega
  have hGi : ¬ (G = i) := by omega
  have hGim : ¬ (G = i + 1) := by omega
  have hw1 : IntKind.i64.wrap ((i : Int) + 1) = (i : Int) + 1 := by rw [IntKind.wrap_i64]; omega
  have hb1 : (0 : Int) ≤ (i : Int) + 1 := by omega
  have hin : i ≤ n := by omega
  have htn : ((i : Int) + 1).toNat = i + 1 := by omega
  have hb3 : (i : Int) ≤ (n : Int) := by omega
  have hne : ¬ ((i : Int) = (n : Int)) := by omega
  have hz3 : (c : Int) < (n : Int) + 1 := by omega
  clear hW1 hW2 hpc hN0 hrz hcpA hcpB hfin hold1 hold2 HA HN hROW hRs hNl hDl hAl hcsA hlen HO hn hG hold hkk hik hsz HV
  go_enter Try.func45, Try.ntmps45
  go_wp2_with (first | ((with_reducible refine gate_builtin (b := .append) rfl ?_); refine wpList_append_eq _ rfl (.tmp 34) (.tmp 39) 22 3 rfl (.slice (some ⟨g, 0, none⟩) i c) (.int .i64 ((n : Int) + 1 - (i : Int))) rfl rfl (HRZ.out _) ?_) | ((with_reducible refine gate_builtin (b := .copy) (xs := #[.tmp 43, .tmp 44]) rfl ?_); refine wpList_copy_eq _ rfl (.tmp 43) (.tmp 44) 22 22 rfl (.slice (some ⟨N, i * 2, none⟩) (n + 1 - i) (G - i)) (.slice (some ⟨vb, 0, none⟩) 1 vc) rfl rfl (HCA.out _ _) ?_))
  trace_state
  go_region_law (refine step_copy_eq ?hg (.tmp 50) (.tmp 53) 22 22 ?ho (.slice (some ⟨N, (i + 1) * 2, none⟩) (n - i) (G - (i + 1))) (.slice (some ⟨g, i * 2, none⟩) (n - i) (c - i)) ?hd ?hx (HCB.out W2.drew rfl _ _ _) ?_; (case hg => rfl); (case ho => rfl); (case hd => simp [Act.eval, Act.put]); (case hx => simp [Act.eval, Act.put]))
  go_wp2
  go_ret
  exact ⟨G, rfl, hGn, HFIN.out⟩
end Go.Proofs.YtkncjpafehnmnaaG

end

section
set_option linter.unusedVariables false
set_option linter.unusedSimpArgs false
namespace Go.Proofs.YtkncjpafehnmnaaG
open Go Go.RowKit Go.Proofs.YtkncjpafehnmnaaR Go.Proofs.YtkncjpafehnmnaaL Go.Proofs.Ytkncjpafehnmnaa.P Go.Proofs.YtkncjpafehnmnaaW.PrintWords
theorem Box1.reads {w : World} {vb : Nat} {p : MPr} (h : Box1 w vb p) : Kd.C k39 w (some ⟨vb, 0, none⟩) ([p] : List MPr).length [p] :=
  ⟨rfl, by simp, fun _ => ⟨_, rfl, fun j q hj => by
    cases j with
    | succ j => simp at hj
    | zero =>
      obtain rfl : p = q := by simpa using hj
      refine ⟨[.string p.f0, .string p.f1], rfl, k39_mk w p, fun i u hu => ?_⟩
      rw [Addr.add_lit, Nat.zero_add]
      simp only [Nat.zero_mul, Nat.zero_add]
      exact h.cell hu⟩⟩
set_option maxRecDepth 100000 in
set_option maxHeartbeats 4000000 in
theorem ins_end (base n c vb vc : Nat) (A : Option Addr) (xs : List MPr) (p : MPr) (w : World) (HO : Kd.R k39 39 w base (fun _ => True) (.slice A n c) xs) (hn : n = xs.length) (hnc : n ≤ c) (hcm : c ≤ 9223372036854775807) (hbase : base ≤ w.heap.size) (hbig : n ≤ 1000000000) (HV : Box1 w vb p) :
    Calls Try.prog 45 #[.slice A n c, .int .i64 n, .slice (some ⟨vb, 0, none⟩) 1 vc] w fun e w' => ∃ v1, e = .returned v1 ∧ Kd.R k39 39 w' base (fun _ => True) v1 (xs ++ [p]) ∧ Below base w w' := by
  by_cases hcn : c = n
  · subst hcn
    have HHO := Aside0.mk HO
    have HHN := Aside0.mk hn
    have HC := Aside0.mk HV.reads
    clear HO hn HV
    go_enter Try.func45, Try.ntmps45
    go_wp2_with ((with_reducible refine gate_builtin (b := .append) (xs := #[.tmp 23, .tmp 24]) rfl ?_); at_builtin; refine Kd.R_append_rows k39 (w0 := w) base rfl (.tmp 23) (.tmp 24) 22 39 (.agg #[.string ⟨#[]⟩, .string ⟨#[]⟩]) 32 rfl Try.underlying22 info39 rfl (by decide) (by decide) (.slice A c c) xs [p] _ _ _ (fun _ => True) (fun _ => False) rfl rfl ?aO ?aR (fun _ _ h => h) (fun _ h => h.elim) ?aF ?aB ?aS ?aL ?_; (case aR => exact HC.out); (case aB => exact Below.refl _ _); (case aF => exact (fun _ _ => trivial)); (case aO => exact HHO.out); (case aS => exact hbase); (case aL => have := HHN.out; omega); intro v1 w1 ho hb hg hat; have HO := Aside0.mk ho; have HB := Aside0.mk hb; clear ho hb hg hat)
    go_ret
    exact ⟨_, rfl, HO.out, HB.out⟩
  · have HHO := Aside0.mk HO
    have HHN := Aside0.mk hn
    have HC := Aside0.mk HV.reads
    clear HO hn HV
    go_enter Try.func45, Try.ntmps45
    go_wp2_with ((with_reducible refine gate_builtin (b := .append) (xs := #[.tmp 23, .tmp 24]) rfl ?_); at_builtin; refine Kd.R_append_rows k39 (w0 := w) base rfl (.tmp 23) (.tmp 24) 22 39 (.agg #[.string ⟨#[]⟩, .string ⟨#[]⟩]) 32 rfl Try.underlying22 info39 rfl (by decide) (by decide) (.slice A n c) xs [p] _ _ _ (fun _ => True) (fun _ => False) rfl rfl ?aO ?aR (fun _ _ h => h) (fun _ h => h.elim) ?aF ?aB ?aS ?aL ?_; (case aR => exact HC.out); (case aB => exact Below.refl _ _); (case aF => exact (fun _ _ => trivial)); (case aO => exact HHO.out); (case aS => exact hbase); (case aL => have := HHN.out; omega); intro v1 w1 ho hb hg hat; have HO := Aside0.mk ho; have HB := Aside0.mk hb; clear ho hb hg hat)
    go_ret
    exact ⟨_, rfl, HO.out, HB.out⟩
theorem ins_calls (base n c i vb vc : Nat) (A : Option Addr) (xs : List MPr) (p : MPr) (w : World) (HO : Kd.R k39 39 w base (fun _ => True) (.slice A n c) xs) (hn : n = xs.length) (hi : i ≤ n) (hbase : base ≤ w.heap.size) (hbig : n ≤ 1000000000) (HV : Box1 w vb p) (hvb : vb < w.heap.size) (hne : ∀ a, A = some a → vb ≠ a.block) :
    Calls Try.prog 45 #[.slice A n c, .int .i64 i, .slice (some ⟨vb, 0, none⟩) 1 vc] w fun e w' => ∃ v1, e = .returned v1 ∧ Kd.R k39 39 w' base (fun _ => True) v1 (xs.insertIdx i p) ∧ Below base w w' := by
  obtain ⟨hn2, hnc, _⟩ := Kd.R_reads' HO
  rcases Nat.lt_or_ge i n with hlt | hge
  · have hxs : A ≠ none := by
      intro hA
      subst hA
      obtain ⟨_, inner, ⟨_, h⟩, _⟩ := HO
      rcases h with ⟨h0, h1⟩ | ⟨g, cap, cur, hv, _⟩
      · injection h0; omega
      · cases hv
    obtain ⟨g, hA⟩ : ∃ g, A = some ⟨g, 0, none⟩ := by
      obtain ⟨_, inner, ⟨_, h⟩, _⟩ := HO
      rcases h with ⟨h0, h1⟩ | ⟨g, cap, cur, hv, _⟩
      · injection h0; contradiction
      · injection hv with ha; exact ⟨g, ha⟩
    subst hA
    obtain ⟨H1, _, hbg, _, _⟩ := R_own HO
    have hcm := H1.cap
    have hlen : (xs.insertIdx i p).length = n + 1 := by rw [List.length_insertIdx_of_le_length (by omega), hn]
    by_cases hroom : n + 1 ≤ c
    · refine (ins_shift g n c i vb vc xs p w H1 hn hlt hroom (by simp only [maxLen] at hcm; omega) (hne _ rfl) HV).mono ?_
      rintro e w' ⟨rfl, h2, h3⟩
      exact ⟨_, rfl, own_R h2 hlen.symm hbg trivial, (Below.refl base w).grown h3 hbase (fun k hk => by injection hk with hk; omega)⟩
    · refine (ins_grow g n c i vb vc xs p w H1 hn hlt hnc (by omega) hbig hvb HV).mono ?_
      rintro e w' ⟨G, rfl, hG, h2, h3⟩
      exact ⟨_, rfl, own_R h2 hlen.symm hbase trivial, h3.mono hbase⟩
  · have hin : i = n := by omega
    subst hin
    have hcm : c ≤ 9223372036854775807 := by
      obtain ⟨_, inner, ⟨_, h⟩, _⟩ := HO
      rcases h with ⟨h0, h1⟩ | ⟨g, cap, cur, hv, _, _, _, hm, _⟩
      · injection h0; omega
      · injection hv with _ _ hc; simp only [maxLen] at hm; omega
    have e : xs.insertIdx i p = xs ++ [p] := by rw [hn]; have := ins_app p [] xs; rw [List.append_nil] at this; exact this
    rw [e]
    exact ins_end base i c vb vc A xs p w HO hn hnc hcm hbase hbig HV
theorem del_calls (base n c k : Nat) (A : Option Addr) (xs : List MPr) (w : World) (HO : Kd.R k39 39 w base (fun _ => True) (.slice A n c) xs) (hn : n = xs.length) (hk : k < n) (hbase : base ≤ w.heap.size) :
    Calls Try.prog 44 #[.slice A n c, .int .i64 k, .int .i64 ((k : Int) + 1)] w fun e w' => ∃ v1, e = .returned v1 ∧ Kd.R k39 39 w' base (fun _ => True) v1 (xs.eraseIdx k) ∧ Below base w w' := by
  obtain ⟨hn2, hnc, _⟩ := Kd.R_reads' HO
  obtain ⟨g, hA⟩ : ∃ g, A = some ⟨g, 0, none⟩ := by
    obtain ⟨_, inner, ⟨_, h⟩, _⟩ := HO
    rcases h with ⟨h0, h1⟩ | ⟨g, cap, cur, hv, _⟩
    · injection h0; omega
    · injection hv with ha; exact ⟨g, ha⟩
  subst hA
  obtain ⟨H1, _, hbg, _, _⟩ := R_own HO
  have hcm := H1.cap
  have hlen : (xs.eraseIdx k).length = n - 1 := by rw [List.length_eraseIdx_of_lt (by omega), hn]
  refine (delete_calls g n c k xs w H1 hn hnc hk (by simp only [maxLen] at hcm; omega)).mono ?_
  rintro e w' ⟨rfl, h2, h3⟩
  exact ⟨_, rfl, own_R h2 hlen.symm hbg trivial, (Below.refl base w).grown h3 hbase (fun k hk => by injection hk with hk; omega)⟩
/-- A pair is written over. -/
theorem R_over {W : World} {base n c g i : Nat} {xs : List MPr} (p : MPr) (h : Kd.R k39 39 W base (fun _ => True) (.slice (some ⟨g, 0, none⟩) n c) xs) (hi : i < n) : Kd.R k39 39 (W.setCells g (i * 2) [.string p.f0, .string p.f1]) base (fun _ => True) (.slice (some ⟨g, 0, none⟩) n c) (xs.set i p) := by
  obtain ⟨H1, hn, hbg, hnc, _⟩ := R_own h
  have hl := encP_len xs
  have h2 := H1.set (i * 2) [.string p.f0, .string p.f1] (by omega) (by simp; omega)
  have e : (encP xs).take (i * 2) ++ [Value.string p.f0, .string p.f1] ++ (encP xs).drop (i * 2 + [Value.string p.f0, .string p.f1].length) = encP (xs.set i p) := by
    rw [show i * 2 + [Value.string p.f0, .string p.f1].length = (i + 1) * 2 by simp; omega, encP_take, encP_drop, List.set_eq_take_append_cons_drop, if_pos (by omega), encP_app, encP_cons, List.append_assoc]
  rw [e] at h2
  exact own_R h2 (by rw [List.length_set]; exact hn) hbg trivial
end Go.Proofs.YtkncjpafehnmnaaG

end

section
namespace Go.Proofs.Ytkncjpafehnmnaa.P
open Go.RowKit Go.Proofs.YtkncjpafehnmnaaG Go.Proofs.YtkncjpafehnmnaaW.PrintWords Go.Proofs.YtkncjpafehnmnaaW.PrintLast Go.Proofs.YtkncjpafehnmnaaW.PrintMore
attribute [local go_sem] str_gtr str_geq str_leq max2_int min2_int max_two min_two max_three min_three max_four min_four   -- for this text's walks alone
set_option linter.unusedVariables false
set_option linter.unusedSimpArgs false

def ikey_Right.f (a0_0 : ByteArray) (a0_1 : Int) (a0_2 : Int) : Option (Bool) := if a0_0.toList = ([] : List UInt8) then (some false) else (if (a0_0.size : Int) ≤ 64 then (if a0_1 ≤ 72057594037927935 then (some (decide (a0_2 ≤ 1))) else (some false)) else (some false))
set_option maxHeartbeats 8000000 in
set_option maxRecDepth 100000 in
theorem ikey_Right.calls (a0_0 : ByteArray) (a0_1 : Int) (a0_2 : Int) (r : Bool) (w : World) (h : ikey_Right.f a0_0 a0_1 a0_2 = some r) :
    Calls Try.prog 67 #[.agg #[.string a0_0, .int .u64 a0_1, .int .u8 a0_2]] w fun e w' => e = .returned (.bool r) ∧ Below w.heap.size w w' := by
  have hu79 := Try.underlying79
  have HB := Aside0.mk (Below.refl w.heap.size w)
  have H : (if a0_0.toList = ([] : List UInt8) then (some false) else (if (a0_0.size : Int) ≤ 64 then (if a0_1 ≤ 72057594037927935 then (some (decide (a0_2 ≤ 1))) else (some false)) else (some false))) = some r := h
  clear h
  by_cases c2 : a0_0.toList = ([] : List UInt8)
  · rw [if_pos c2] at H
    have c2b0 : (a0_0.toList == ([] : List UInt8)) = true := beq_iff_eq.mpr c2
    have c2b1 : (a0_0.toList != ([] : List UInt8)) = false := bne_eq_false_iff_eq.mpr c2
    clear c2
    obtain rfl := Option.some.inj H
    go_enter Try.func67, Try.ntmps67
    go_wp2_with (first | ((with_reducible refine gate_dst (N := 1) rfl ?_); (try (refine gate_guard (by rfl) ?_; dsimp only)); refine box_event ?hg (N := 1) ?hd (cs := #[.string a0_0, .int .u64 a0_1, .int .u8 a0_2]) (t := 79) ?hr ?_; (case hd => rfl); (case hg => rfl); (case hr => first | (go_simp; done) | (go_simp; rfl)); intro gb110 hg w3 hbox hb; have n0_ := Aside0.mk (below_step (by repeat (first | (with_reducible first | exact HB.out | apply below_alloc | apply pw_below_drewN | apply below_drew1) | exact HB.out)) hb); have n1_ := Aside0.mk (hbox); have n2_ := Aside0.mk ((by rw [hg]; exact (below_size (by repeat (first | (with_reducible first | exact HB.out | apply below_alloc | apply pw_below_drewN | apply below_drew1) | exact HB.out))) : w.heap.size ≤ gb110)); have n3_ := Aside0.mk ((by rw [hg]; exact (below_size (by repeat (first | (with_reducible first | exact HB.out | apply below_alloc | apply pw_below_drewN | apply below_drew1) | exact HB.out))) : w.heap.size ≤ gb110)); clear HB; have HB := n0_; have BK110 := n1_; have GW110 := n2_; have GE110 := n3_; clear n0_ n1_ n2_ n3_; clear hb hbox hg; have hcz4_0 : w3.cell? ⟨gb110, 0, none⟩ = some (.string a0_0) := (blk_cell BK110.out 0).trans rfl; have hcz4_1 : w3.cell? ⟨gb110, 1, none⟩ = some (.int .u64 a0_1) := (blk_cell BK110.out 1).trans rfl; have hcz4_2 : w3.cell? ⟨gb110, 2, none⟩ = some (.int .u8 a0_2) := (blk_cell BK110.out 2).trans rfl; have hfz4_0 := blk_frozen BK110.out 0; have hfz4_1 := blk_frozen BK110.out 1; have hfz4_2 := blk_frozen BK110.out 2))
    go_ret
    exact ⟨by first | rfl | (simp [errW_none, errW_some] <;> rfl) | (simp [*, errW_none, errW_some] <;> rfl), by repeat (first | (with_reducible first | exact HB.out | apply below_alloc | apply pw_below_drewN | apply below_drew1 | refine below_set ?_ GE110.out) | exact HB.out)⟩
  · rw [if_neg c2] at H
    have c2b0 : (a0_0.toList == ([] : List UInt8)) = false := beq_eq_false_iff_ne.mpr c2
    have c2b1 : (a0_0.toList != ([] : List UInt8)) = true := bne_iff_ne.mpr c2
    by_cases c5 : (a0_0.size : Int) ≤ 64
    · rw [if_pos c5] at H
      have c5b0 : decide ((a0_0.size : Int) ≤ 64) = true := decide_eq_true c5
      have c5b1 : decide (a0_0.size ≤ 64) = true := decide_eq_true (by omega)
      clear c5
      by_cases c6 : a0_1 ≤ 72057594037927935
      · rw [if_pos c6] at H
        have c6b0 : decide (a0_1 ≤ 72057594037927935) = true := decide_eq_true c6
        clear c6
        obtain rfl := Option.some.inj H
        go_enter Try.func67, Try.ntmps67
        go_wp2_with (first | ((with_reducible refine gate_dst (N := 1) rfl ?_); (try (refine gate_guard (by rfl) ?_; dsimp only)); refine box_event ?hg (N := 1) ?hd (cs := #[.string a0_0, .int .u64 a0_1, .int .u8 a0_2]) (t := 79) ?hr ?_; (case hd => rfl); (case hg => rfl); (case hr => first | (go_simp; done) | (go_simp; rfl)); intro gb110 hg w7 hbox hb; have n0_ := Aside0.mk (below_step (by repeat (first | (with_reducible first | exact HB.out | apply below_alloc | apply pw_below_drewN | apply below_drew1) | exact HB.out)) hb); have n1_ := Aside0.mk (hbox); have n2_ := Aside0.mk ((by rw [hg]; exact (below_size (by repeat (first | (with_reducible first | exact HB.out | apply below_alloc | apply pw_below_drewN | apply below_drew1) | exact HB.out))) : w.heap.size ≤ gb110)); have n3_ := Aside0.mk ((by rw [hg]; exact (below_size (by repeat (first | (with_reducible first | exact HB.out | apply below_alloc | apply pw_below_drewN | apply below_drew1) | exact HB.out))) : w.heap.size ≤ gb110)); clear HB; have HB := n0_; have BK110 := n1_; have GW110 := n2_; have GE110 := n3_; clear n0_ n1_ n2_ n3_; clear hb hbox hg; have hcz8_0 : w7.cell? ⟨gb110, 0, none⟩ = some (.string a0_0) := (blk_cell BK110.out 0).trans rfl; have hcz8_1 : w7.cell? ⟨gb110, 1, none⟩ = some (.int .u64 a0_1) := (blk_cell BK110.out 1).trans rfl; have hcz8_2 : w7.cell? ⟨gb110, 2, none⟩ = some (.int .u8 a0_2) := (blk_cell BK110.out 2).trans rfl; have hfz8_0 := blk_frozen BK110.out 0; have hfz8_1 := blk_frozen BK110.out 1; have hfz8_2 := blk_frozen BK110.out 2))
        go_ret
        exact ⟨by first | rfl | (simp [errW_none, errW_some] <;> rfl) | (simp [*, errW_none, errW_some] <;> rfl), by repeat (first | (with_reducible first | exact HB.out | apply below_alloc | apply pw_below_drewN | apply below_drew1 | refine below_set ?_ GE110.out) | exact HB.out)⟩
      · rw [if_neg c6] at H
        have c6b0 : decide (a0_1 ≤ 72057594037927935) = false := decide_eq_false c6
        clear c6
        obtain rfl := Option.some.inj H
        go_enter Try.func67, Try.ntmps67
        go_wp2_with (first | ((with_reducible refine gate_dst (N := 1) rfl ?_); (try (refine gate_guard (by rfl) ?_; dsimp only)); refine box_event ?hg (N := 1) ?hd (cs := #[.string a0_0, .int .u64 a0_1, .int .u8 a0_2]) (t := 79) ?hr ?_; (case hd => rfl); (case hg => rfl); (case hr => first | (go_simp; done) | (go_simp; rfl)); intro gb110 hg w9 hbox hb; have n0_ := Aside0.mk (below_step (by repeat (first | (with_reducible first | exact HB.out | apply below_alloc | apply pw_below_drewN | apply below_drew1) | exact HB.out)) hb); have n1_ := Aside0.mk (hbox); have n2_ := Aside0.mk ((by rw [hg]; exact (below_size (by repeat (first | (with_reducible first | exact HB.out | apply below_alloc | apply pw_below_drewN | apply below_drew1) | exact HB.out))) : w.heap.size ≤ gb110)); have n3_ := Aside0.mk ((by rw [hg]; exact (below_size (by repeat (first | (with_reducible first | exact HB.out | apply below_alloc | apply pw_below_drewN | apply below_drew1) | exact HB.out))) : w.heap.size ≤ gb110)); clear HB; have HB := n0_; have BK110 := n1_; have GW110 := n2_; have GE110 := n3_; clear n0_ n1_ n2_ n3_; clear hb hbox hg; have hcz10_0 : w9.cell? ⟨gb110, 0, none⟩ = some (.string a0_0) := (blk_cell BK110.out 0).trans rfl; have hcz10_1 : w9.cell? ⟨gb110, 1, none⟩ = some (.int .u64 a0_1) := (blk_cell BK110.out 1).trans rfl; have hcz10_2 : w9.cell? ⟨gb110, 2, none⟩ = some (.int .u8 a0_2) := (blk_cell BK110.out 2).trans rfl; have hfz10_0 := blk_frozen BK110.out 0; have hfz10_1 := blk_frozen BK110.out 1; have hfz10_2 := blk_frozen BK110.out 2))
        go_ret
        exact ⟨by first | rfl | (simp [errW_none, errW_some] <;> rfl) | (simp [*, errW_none, errW_some] <;> rfl), by repeat (first | (with_reducible first | exact HB.out | apply below_alloc | apply pw_below_drewN | apply below_drew1 | refine below_set ?_ GE110.out) | exact HB.out)⟩
    · rw [if_neg c5] at H
      have c5b0 : decide ((a0_0.size : Int) ≤ 64) = false := decide_eq_false c5
      have c5b1 : decide (a0_0.size ≤ 64) = false := decide_eq_false (by omega)
      clear c5
      obtain rfl := Option.some.inj H
      go_enter Try.func67, Try.ntmps67
      go_wp2_with (first | ((with_reducible refine gate_dst (N := 1) rfl ?_); (try (refine gate_guard (by rfl) ?_; dsimp only)); refine box_event ?hg (N := 1) ?hd (cs := #[.string a0_0, .int .u64 a0_1, .int .u8 a0_2]) (t := 79) ?hr ?_; (case hd => rfl); (case hg => rfl); (case hr => first | (go_simp; done) | (go_simp; rfl)); intro gb110 hg w11 hbox hb; have n0_ := Aside0.mk (below_step (by repeat (first | (with_reducible first | exact HB.out | apply below_alloc | apply pw_below_drewN | apply below_drew1) | exact HB.out)) hb); have n1_ := Aside0.mk (hbox); have n2_ := Aside0.mk ((by rw [hg]; exact (below_size (by repeat (first | (with_reducible first | exact HB.out | apply below_alloc | apply pw_below_drewN | apply below_drew1) | exact HB.out))) : w.heap.size ≤ gb110)); have n3_ := Aside0.mk ((by rw [hg]; exact (below_size (by repeat (first | (with_reducible first | exact HB.out | apply below_alloc | apply pw_below_drewN | apply below_drew1) | exact HB.out))) : w.heap.size ≤ gb110)); clear HB; have HB := n0_; have BK110 := n1_; have GW110 := n2_; have GE110 := n3_; clear n0_ n1_ n2_ n3_; clear hb hbox hg; have hcz12_0 : w11.cell? ⟨gb110, 0, none⟩ = some (.string a0_0) := (blk_cell BK110.out 0).trans rfl; have hcz12_1 : w11.cell? ⟨gb110, 1, none⟩ = some (.int .u64 a0_1) := (blk_cell BK110.out 1).trans rfl; have hcz12_2 : w11.cell? ⟨gb110, 2, none⟩ = some (.int .u8 a0_2) := (blk_cell BK110.out 2).trans rfl; have hfz12_0 := blk_frozen BK110.out 0; have hfz12_1 := blk_frozen BK110.out 1; have hfz12_2 := blk_frozen BK110.out 2))
      go_ret
      exact ⟨by first | rfl | (simp [errW_none, errW_some] <;> rfl) | (simp [*, errW_none, errW_some] <;> rfl), by repeat (first | (with_reducible first | exact HB.out | apply below_alloc | apply pw_below_drewN | apply below_drew1 | refine below_set ?_ GE110.out) | exact HB.out)⟩

end Go.Proofs.Ytkncjpafehnmnaa.P

end

section
namespace Go.Proofs.Ytkncjpafehnmnaa.P
open Go.RowKit Go.Proofs.YtkncjpafehnmnaaG Go.Proofs.YtkncjpafehnmnaaW.PrintWords Go.Proofs.YtkncjpafehnmnaaW.PrintLast Go.Proofs.YtkncjpafehnmnaaW.PrintMore
attribute [local go_sem] str_gtr str_geq str_leq max2_int min2_int max_two min_two max_three min_three max_four min_four   -- for this text's walks alone
set_option linter.unusedVariables false
set_option linter.unusedSimpArgs false

def ikey_Entry.f (a0_0 : ByteArray) (a0_1 : Int) (a0_2 : Int) (a0_3 : ByteArray) : Option (Bool) := if a0_2 = 0 then ((ikey_Right.f a0_0 a0_1 a0_2).bind fun t112 => (if t112 = true then (some (decide ((a0_3.size : Int) ≤ 0))) else (some false))) else ((ikey_Right.f a0_0 a0_1 a0_2).bind fun t113 => (if t113 = true then (some (decide ((a0_3.size : Int) ≤ 256))) else (some false)))
set_option maxHeartbeats 8000000 in
set_option maxRecDepth 100000 in
theorem ikey_Entry.calls (a0_0 : ByteArray) (a0_1 : Int) (a0_2 : Int) (a0_3 : ByteArray) (r : Bool) (w : World) (h : ikey_Entry.f a0_0 a0_1 a0_2 a0_3 = some r) :
    Calls Try.prog 48 #[.agg #[.string a0_0, .int .u64 a0_1, .int .u8 a0_2, .string a0_3]] w fun e w' => e = .returned (.bool r) ∧ Below w.heap.size w w' := by
  have hu81 := Try.underlying81
  have hu79 := Try.underlying79
  have HB := Aside0.mk (Below.refl w.heap.size w)
  have H : (if a0_2 = 0 then ((ikey_Right.f a0_0 a0_1 a0_2).bind fun t112 => (if t112 = true then (some (decide ((a0_3.size : Int) ≤ 0))) else (some false))) else ((ikey_Right.f a0_0 a0_1 a0_2).bind fun t113 => (if t113 = true then (some (decide ((a0_3.size : Int) ≤ 256))) else (some false)))) = some r := h
  clear h
  by_cases c2 : a0_2 = 0
  · rw [if_pos c2] at H
    have c2b0 : (a0_2 == 0) = true := beq_iff_eq.mpr c2
    have c2b1 : (a0_2 != 0) = false := bne_eq_false_iff_eq.mpr c2
    clear c2
    replace H := Option.bind_eq_some_iff.mp H
    obtain ⟨t112, A30, H⟩ := H
    replace H : (if t112 = true then (some (decide ((a0_3.size : Int) ≤ 0))) else (some false)) = some r := H
    have A3 := Aside0.mk A30
    clear A30
    by_cases c4 : t112 = true
    · subst c4
      have H1 : (some (decide ((a0_3.size : Int) ≤ 0))) = some r := by rw [if_pos rfl] at H; exact H
      clear H
      have H := H1
      clear H1
      obtain rfl := Option.some.inj H
      go_enter Try.func48, Try.ntmps48
      go_wp2_with (first | ((with_reducible refine gate_dst (N := 1) rfl ?_); (try (refine gate_guard (by rfl) ?_; dsimp only)); refine box_event ?hg (N := 1) ?hd (cs := #[.string a0_0, .int .u64 a0_1, .int .u8 a0_2, .string a0_3]) (t := 81) ?hr ?_; (case hd => rfl); (case hg => rfl); (case hr => first | (go_simp; done) | (go_simp; rfl)); intro gb111 hg w5 hbox hb; have n0_ := Aside0.mk (below_step (by repeat (first | (with_reducible first | exact HB.out | apply below_alloc | apply pw_below_drewN | apply below_drew1) | exact HB.out)) hb); have n1_ := Aside0.mk (hbox); have n2_ := Aside0.mk ((by rw [hg]; exact (below_size (by repeat (first | (with_reducible first | exact HB.out | apply below_alloc | apply pw_below_drewN | apply below_drew1) | exact HB.out))) : w.heap.size ≤ gb111)); have n3_ := Aside0.mk ((by rw [hg]; exact (below_size (by repeat (first | (with_reducible first | exact HB.out | apply below_alloc | apply pw_below_drewN | apply below_drew1) | exact HB.out))) : w.heap.size ≤ gb111)); clear HB; have HB := n0_; have BK111 := n1_; have GW111 := n2_; have GE111 := n3_; clear n0_ n1_ n2_ n3_; clear hb hbox hg; have hcz6_0 : w5.cell? ⟨gb111, 0, none⟩ = some (.string a0_0) := (blk_cell BK111.out 0).trans rfl; have hcz6_1 : w5.cell? ⟨gb111, 1, none⟩ = some (.int .u64 a0_1) := (blk_cell BK111.out 1).trans rfl; have hcz6_2 : w5.cell? ⟨gb111, 2, none⟩ = some (.int .u8 a0_2) := (blk_cell BK111.out 2).trans rfl; have hcz6_3 : w5.cell? ⟨gb111, 3, none⟩ = some (.string a0_3) := (blk_cell BK111.out 3).trans rfl; have hfz6_0 := blk_frozen BK111.out 0; have hfz6_1 := blk_frozen BK111.out 1; have hfz6_2 := blk_frozen BK111.out 2; have hfz6_3 := blk_frozen BK111.out 3) | ((with_reducible refine gate_callee (f := 67) rfl ?_); refine goesL_ (some 10) rfl rfl Try.func67 (by kernel_rfl) rfl #[.agg #[.string a0_0, .int .u64 a0_1, .int .u8 a0_2]] rfl (by (try simp only [List.map_toArray, List.map_cons, List.map_nil]); first | done | rfl | (simp only [List.length_drop, List.length_take]; rfl)) ?_; (with_reducible refine (ikey_Right.calls a0_0 a0_1 a0_2 true _ A3.out).mono ?_); rintro e w7 ⟨rfl, hb⟩; refine ⟨_, rfl, ?_⟩; have n0_ := Aside0.mk (blk_below (g := gb111) (o := .cells #[.string a0_0, .int .u64 a0_1, .int .u8 a0_2, .string a0_3] 81 (0, 0)) (by (with_reducible repeat (first | refine blk_drewN ?_ _ | refine blk_drew ?_ | refine blk_alloc ?_ _)); exact BK111.out) hb); have n1_ := Aside0.mk (below_step (by repeat (first | (with_reducible first | exact HB.out | apply below_alloc | apply pw_below_drewN | apply below_drew1 | refine below_set ?_ GE111.out) | exact HB.out)) hb); clear BK111; clear HB; have BK111 := n0_; have HB := n1_; clear n0_ n1_; (try clear hb); (try clear hb2); (try clear hk); (try clear hi); have hcz8_0 : w7.cell? ⟨gb111, 0, none⟩ = some (.string a0_0) := (blk_cell BK111.out 0).trans rfl; have hcz8_1 : w7.cell? ⟨gb111, 1, none⟩ = some (.int .u64 a0_1) := (blk_cell BK111.out 1).trans rfl; have hcz8_2 : w7.cell? ⟨gb111, 2, none⟩ = some (.int .u8 a0_2) := (blk_cell BK111.out 2).trans rfl; have hcz8_3 : w7.cell? ⟨gb111, 3, none⟩ = some (.string a0_3) := (blk_cell BK111.out 3).trans rfl; have hfz8_0 := blk_frozen BK111.out 0; have hfz8_1 := blk_frozen BK111.out 1; have hfz8_2 := blk_frozen BK111.out 2; have hfz8_3 := blk_frozen BK111.out 3))
      go_ret
      exact ⟨by first | rfl | (simp [errW_none, errW_some] <;> rfl) | (simp [*, errW_none, errW_some] <;> rfl), by repeat (first | (with_reducible first | exact HB.out | apply below_alloc | apply pw_below_drewN | apply below_drew1 | refine below_set ?_ GE111.out) | exact HB.out)⟩
    · replace c4 := Bool.eq_false_iff.mpr c4
      subst c4
      have H1 : (some false) = some r := by rw [if_neg (show ¬ (false = true) by decide)] at H; exact H
      clear H
      have H := H1
      clear H1
      obtain rfl := Option.some.inj H
      go_enter Try.func48, Try.ntmps48
      go_wp2_with (first | ((with_reducible refine gate_dst (N := 1) rfl ?_); (try (refine gate_guard (by rfl) ?_; dsimp only)); refine box_event ?hg (N := 1) ?hd (cs := #[.string a0_0, .int .u64 a0_1, .int .u8 a0_2, .string a0_3]) (t := 81) ?hr ?_; (case hd => rfl); (case hg => rfl); (case hr => first | (go_simp; done) | (go_simp; rfl)); intro gb111 hg w9 hbox hb; have n0_ := Aside0.mk (below_step (by repeat (first | (with_reducible first | exact HB.out | apply below_alloc | apply pw_below_drewN | apply below_drew1) | exact HB.out)) hb); have n1_ := Aside0.mk (hbox); have n2_ := Aside0.mk ((by rw [hg]; exact (below_size (by repeat (first | (with_reducible first | exact HB.out | apply below_alloc | apply pw_below_drewN | apply below_drew1) | exact HB.out))) : w.heap.size ≤ gb111)); have n3_ := Aside0.mk ((by rw [hg]; exact (below_size (by repeat (first | (with_reducible first | exact HB.out | apply below_alloc | apply pw_below_drewN | apply below_drew1) | exact HB.out))) : w.heap.size ≤ gb111)); clear HB; have HB := n0_; have BK111 := n1_; have GW111 := n2_; have GE111 := n3_; clear n0_ n1_ n2_ n3_; clear hb hbox hg; have hcz10_0 : w9.cell? ⟨gb111, 0, none⟩ = some (.string a0_0) := (blk_cell BK111.out 0).trans rfl; have hcz10_1 : w9.cell? ⟨gb111, 1, none⟩ = some (.int .u64 a0_1) := (blk_cell BK111.out 1).trans rfl; have hcz10_2 : w9.cell? ⟨gb111, 2, none⟩ = some (.int .u8 a0_2) := (blk_cell BK111.out 2).trans rfl; have hcz10_3 : w9.cell? ⟨gb111, 3, none⟩ = some (.string a0_3) := (blk_cell BK111.out 3).trans rfl; have hfz10_0 := blk_frozen BK111.out 0; have hfz10_1 := blk_frozen BK111.out 1; have hfz10_2 := blk_frozen BK111.out 2; have hfz10_3 := blk_frozen BK111.out 3) | ((with_reducible refine gate_callee (f := 67) rfl ?_); refine goesL_ (some 10) rfl rfl Try.func67 (by kernel_rfl) rfl #[.agg #[.string a0_0, .int .u64 a0_1, .int .u8 a0_2]] rfl (by (try simp only [List.map_toArray, List.map_cons, List.map_nil]); first | done | rfl | (simp only [List.length_drop, List.length_take]; rfl)) ?_; (with_reducible refine (ikey_Right.calls a0_0 a0_1 a0_2 false _ A3.out).mono ?_); rintro e w11 ⟨rfl, hb⟩; refine ⟨_, rfl, ?_⟩; have n0_ := Aside0.mk (blk_below (g := gb111) (o := .cells #[.string a0_0, .int .u64 a0_1, .int .u8 a0_2, .string a0_3] 81 (0, 0)) (by (with_reducible repeat (first | refine blk_drewN ?_ _ | refine blk_drew ?_ | refine blk_alloc ?_ _)); exact BK111.out) hb); have n1_ := Aside0.mk (below_step (by repeat (first | (with_reducible first | exact HB.out | apply below_alloc | apply pw_below_drewN | apply below_drew1 | refine below_set ?_ GE111.out) | exact HB.out)) hb); clear BK111; clear HB; have BK111 := n0_; have HB := n1_; clear n0_ n1_; (try clear hb); (try clear hb2); (try clear hk); (try clear hi)))
      go_ret
      exact ⟨by first | rfl | (simp [errW_none, errW_some] <;> rfl) | (simp [*, errW_none, errW_some] <;> rfl), by repeat (first | (with_reducible first | exact HB.out | apply below_alloc | apply pw_below_drewN | apply below_drew1 | refine below_set ?_ GE111.out) | exact HB.out)⟩
  · rw [if_neg c2] at H
    have c2b0 : (a0_2 == 0) = false := beq_eq_false_iff_ne.mpr c2
    have c2b1 : (a0_2 != 0) = true := bne_iff_ne.mpr c2
    replace H := Option.bind_eq_some_iff.mp H
    obtain ⟨t113, A120, H⟩ := H
    replace H : (if t113 = true then (some (decide ((a0_3.size : Int) ≤ 256))) else (some false)) = some r := H
    have A12 := Aside0.mk A120
    clear A120
    by_cases c13 : t113 = true
    · subst c13
      have H1 : (some (decide ((a0_3.size : Int) ≤ 256))) = some r := by rw [if_pos rfl] at H; exact H
      clear H
      have H := H1
      clear H1
      obtain rfl := Option.some.inj H
      go_enter Try.func48, Try.ntmps48
      go_wp2_with (first | ((with_reducible refine gate_dst (N := 1) rfl ?_); (try (refine gate_guard (by rfl) ?_; dsimp only)); refine box_event ?hg (N := 1) ?hd (cs := #[.string a0_0, .int .u64 a0_1, .int .u8 a0_2, .string a0_3]) (t := 81) ?hr ?_; (case hd => rfl); (case hg => rfl); (case hr => first | (go_simp; done) | (go_simp; rfl)); intro gb111 hg w14 hbox hb; have n0_ := Aside0.mk (below_step (by repeat (first | (with_reducible first | exact HB.out | apply below_alloc | apply pw_below_drewN | apply below_drew1) | exact HB.out)) hb); have n1_ := Aside0.mk (hbox); have n2_ := Aside0.mk ((by rw [hg]; exact (below_size (by repeat (first | (with_reducible first | exact HB.out | apply below_alloc | apply pw_below_drewN | apply below_drew1) | exact HB.out))) : w.heap.size ≤ gb111)); have n3_ := Aside0.mk ((by rw [hg]; exact (below_size (by repeat (first | (with_reducible first | exact HB.out | apply below_alloc | apply pw_below_drewN | apply below_drew1) | exact HB.out))) : w.heap.size ≤ gb111)); clear HB; have HB := n0_; have BK111 := n1_; have GW111 := n2_; have GE111 := n3_; clear n0_ n1_ n2_ n3_; clear hb hbox hg; have hcz15_0 : w14.cell? ⟨gb111, 0, none⟩ = some (.string a0_0) := (blk_cell BK111.out 0).trans rfl; have hcz15_1 : w14.cell? ⟨gb111, 1, none⟩ = some (.int .u64 a0_1) := (blk_cell BK111.out 1).trans rfl; have hcz15_2 : w14.cell? ⟨gb111, 2, none⟩ = some (.int .u8 a0_2) := (blk_cell BK111.out 2).trans rfl; have hcz15_3 : w14.cell? ⟨gb111, 3, none⟩ = some (.string a0_3) := (blk_cell BK111.out 3).trans rfl; have hfz15_0 := blk_frozen BK111.out 0; have hfz15_1 := blk_frozen BK111.out 1; have hfz15_2 := blk_frozen BK111.out 2; have hfz15_3 := blk_frozen BK111.out 3) | ((with_reducible refine gate_callee (f := 67) rfl ?_); refine goesL_ (some 10) rfl rfl Try.func67 (by kernel_rfl) rfl #[.agg #[.string a0_0, .int .u64 a0_1, .int .u8 a0_2]] rfl (by (try simp only [List.map_toArray, List.map_cons, List.map_nil]); first | done | rfl | (simp only [List.length_drop, List.length_take]; rfl)) ?_; (with_reducible refine (ikey_Right.calls a0_0 a0_1 a0_2 true _ A12.out).mono ?_); rintro e w16 ⟨rfl, hb⟩; refine ⟨_, rfl, ?_⟩; have n0_ := Aside0.mk (blk_below (g := gb111) (o := .cells #[.string a0_0, .int .u64 a0_1, .int .u8 a0_2, .string a0_3] 81 (0, 0)) (by (with_reducible repeat (first | refine blk_drewN ?_ _ | refine blk_drew ?_ | refine blk_alloc ?_ _)); exact BK111.out) hb); have n1_ := Aside0.mk (below_step (by repeat (first | (with_reducible first | exact HB.out | apply below_alloc | apply pw_below_drewN | apply below_drew1 | refine below_set ?_ GE111.out) | exact HB.out)) hb); clear BK111; clear HB; have BK111 := n0_; have HB := n1_; clear n0_ n1_; (try clear hb); (try clear hb2); (try clear hk); (try clear hi); have hcz17_0 : w16.cell? ⟨gb111, 0, none⟩ = some (.string a0_0) := (blk_cell BK111.out 0).trans rfl; have hcz17_1 : w16.cell? ⟨gb111, 1, none⟩ = some (.int .u64 a0_1) := (blk_cell BK111.out 1).trans rfl; have hcz17_2 : w16.cell? ⟨gb111, 2, none⟩ = some (.int .u8 a0_2) := (blk_cell BK111.out 2).trans rfl; have hcz17_3 : w16.cell? ⟨gb111, 3, none⟩ = some (.string a0_3) := (blk_cell BK111.out 3).trans rfl; have hfz17_0 := blk_frozen BK111.out 0; have hfz17_1 := blk_frozen BK111.out 1; have hfz17_2 := blk_frozen BK111.out 2; have hfz17_3 := blk_frozen BK111.out 3))
      go_ret
      exact ⟨by first | rfl | (simp [errW_none, errW_some] <;> rfl) | (simp [*, errW_none, errW_some] <;> rfl), by repeat (first | (with_reducible first | exact HB.out | apply below_alloc | apply pw_below_drewN | apply below_drew1 | refine below_set ?_ GE111.out) | exact HB.out)⟩
    · replace c13 := Bool.eq_false_iff.mpr c13
      subst c13
      have H1 : (some false) = some r := by rw [if_neg (show ¬ (false = true) by decide)] at H; exact H
      clear H
      have H := H1
      clear H1
      obtain rfl := Option.some.inj H
      go_enter Try.func48, Try.ntmps48
      go_wp2_with (first | ((with_reducible refine gate_dst (N := 1) rfl ?_); (try (refine gate_guard (by rfl) ?_; dsimp only)); refine box_event ?hg (N := 1) ?hd (cs := #[.string a0_0, .int .u64 a0_1, .int .u8 a0_2, .string a0_3]) (t := 81) ?hr ?_; (case hd => rfl); (case hg => rfl); (case hr => first | (go_simp; done) | (go_simp; rfl)); intro gb111 hg w18 hbox hb; have n0_ := Aside0.mk (below_step (by repeat (first | (with_reducible first | exact HB.out | apply below_alloc | apply pw_below_drewN | apply below_drew1) | exact HB.out)) hb); have n1_ := Aside0.mk (hbox); have n2_ := Aside0.mk ((by rw [hg]; exact (below_size (by repeat (first | (with_reducible first | exact HB.out | apply below_alloc | apply pw_below_drewN | apply below_drew1) | exact HB.out))) : w.heap.size ≤ gb111)); have n3_ := Aside0.mk ((by rw [hg]; exact (below_size (by repeat (first | (with_reducible first | exact HB.out | apply below_alloc | apply pw_below_drewN | apply below_drew1) | exact HB.out))) : w.heap.size ≤ gb111)); clear HB; have HB := n0_; have BK111 := n1_; have GW111 := n2_; have GE111 := n3_; clear n0_ n1_ n2_ n3_; clear hb hbox hg; have hcz19_0 : w18.cell? ⟨gb111, 0, none⟩ = some (.string a0_0) := (blk_cell BK111.out 0).trans rfl; have hcz19_1 : w18.cell? ⟨gb111, 1, none⟩ = some (.int .u64 a0_1) := (blk_cell BK111.out 1).trans rfl; have hcz19_2 : w18.cell? ⟨gb111, 2, none⟩ = some (.int .u8 a0_2) := (blk_cell BK111.out 2).trans rfl; have hcz19_3 : w18.cell? ⟨gb111, 3, none⟩ = some (.string a0_3) := (blk_cell BK111.out 3).trans rfl; have hfz19_0 := blk_frozen BK111.out 0; have hfz19_1 := blk_frozen BK111.out 1; have hfz19_2 := blk_frozen BK111.out 2; have hfz19_3 := blk_frozen BK111.out 3) | ((with_reducible refine gate_callee (f := 67) rfl ?_); refine goesL_ (some 10) rfl rfl Try.func67 (by kernel_rfl) rfl #[.agg #[.string a0_0, .int .u64 a0_1, .int .u8 a0_2]] rfl (by (try simp only [List.map_toArray, List.map_cons, List.map_nil]); first | done | rfl | (simp only [List.length_drop, List.length_take]; rfl)) ?_; (with_reducible refine (ikey_Right.calls a0_0 a0_1 a0_2 false _ A12.out).mono ?_); rintro e w20 ⟨rfl, hb⟩; refine ⟨_, rfl, ?_⟩; have n0_ := Aside0.mk (blk_below (g := gb111) (o := .cells #[.string a0_0, .int .u64 a0_1, .int .u8 a0_2, .string a0_3] 81 (0, 0)) (by (with_reducible repeat (first | refine blk_drewN ?_ _ | refine blk_drew ?_ | refine blk_alloc ?_ _)); exact BK111.out) hb); have n1_ := Aside0.mk (below_step (by repeat (first | (with_reducible first | exact HB.out | apply below_alloc | apply pw_below_drewN | apply below_drew1 | refine below_set ?_ GE111.out) | exact HB.out)) hb); clear BK111; clear HB; have BK111 := n0_; have HB := n1_; clear n0_ n1_; (try clear hb); (try clear hb2); (try clear hk); (try clear hi)))
      go_ret
      exact ⟨by first | rfl | (simp [errW_none, errW_some] <;> rfl) | (simp [*, errW_none, errW_some] <;> rfl), by repeat (first | (with_reducible first | exact HB.out | apply below_alloc | apply pw_below_drewN | apply below_drew1 | refine below_set ?_ GE111.out) | exact HB.out)⟩

def batch_Op.f (a0_0 : Int) (a0_1 : ByteArray) (a0_2 : ByteArray) : Option (Bool) := (ikey_Entry.f a0_1 0 a0_0 a0_2).bind fun t115 => (some t115)
set_option maxHeartbeats 8000000 in
set_option maxRecDepth 100000 in
theorem batch_Op.calls (a0_0 : Int) (a0_1 : ByteArray) (a0_2 : ByteArray) (r : Bool) (w : World) (h : batch_Op.f a0_0 a0_1 a0_2 = some r) :
    Calls Try.prog 25 #[.agg #[.int .u8 a0_0, .string a0_1, .string a0_2]] w fun e w' => e = .returned (.bool r) ∧ Below w.heap.size w w' := by
  have hu36 := Try.underlying36
  have hu79 := Try.underlying79
  have hu81 := Try.underlying81
  have HB := Aside0.mk (Below.refl w.heap.size w)
  have H : ((ikey_Entry.f a0_1 0 a0_0 a0_2).bind fun t115 => (some t115)) = some r := h
  clear h
  replace H := Option.bind_eq_some_iff.mp H
  obtain ⟨t115, A20, H⟩ := H
  replace H : (some t115) = some r := H
  have A2 := Aside0.mk A20
  clear A20
  obtain rfl := Option.some.inj H
  go_enter Try.func25, Try.ntmps25
  go_wp2_with (first | ((with_reducible refine gate_dst (N := 1) rfl ?_); refine box_event ?hg (N := 1) ?hd (cs := #[.int .u8 a0_0, .string a0_1, .string a0_2]) (t := 36) ?hr ?_; (case hd => rfl); (case hg => rfl); (case hr => first | (go_simp; done) | (go_simp; rfl)); intro gb114 hg w3 hbox hb; have n0_ := Aside0.mk (below_step (by repeat (first | (with_reducible first | exact HB.out | apply below_alloc | apply pw_below_drewN | apply below_drew1) | exact HB.out)) hb); have n1_ := Aside0.mk (hbox); have n2_ := Aside0.mk ((by rw [hg]; exact (below_size (by repeat (first | (with_reducible first | exact HB.out | apply below_alloc | apply pw_below_drewN | apply below_drew1) | exact HB.out))) : w.heap.size ≤ gb114)); have n3_ := Aside0.mk ((by rw [hg]; exact (below_size (by repeat (first | (with_reducible first | exact HB.out | apply below_alloc | apply pw_below_drewN | apply below_drew1) | exact HB.out))) : w.heap.size ≤ gb114)); clear HB; have HB := n0_; have BK114 := n1_; have GW114 := n2_; have GE114 := n3_; clear n0_ n1_ n2_ n3_; clear hb hbox hg; have hcz4_0 : w3.cell? ⟨gb114, 0, none⟩ = some (.int .u8 a0_0) := (blk_cell BK114.out 0).trans rfl; have hcz4_1 : w3.cell? ⟨gb114, 1, none⟩ = some (.string a0_1) := (blk_cell BK114.out 1).trans rfl; have hcz4_2 : w3.cell? ⟨gb114, 2, none⟩ = some (.string a0_2) := (blk_cell BK114.out 2).trans rfl; have hfz4_0 := blk_frozen BK114.out 0; have hfz4_1 := blk_frozen BK114.out 1; have hfz4_2 := blk_frozen BK114.out 2) | ((with_reducible refine gate_callee (f := 48) rfl ?_); refine goesL_ (some 11) rfl rfl Try.func48 (by kernel_rfl) rfl #[.agg #[.string a0_1, .int .u64 0, .int .u8 a0_0, .string a0_2]] rfl (by (try simp only [List.map_toArray, List.map_cons, List.map_nil]); first | done | rfl | (simp only [List.length_drop, List.length_take]; rfl)) ?_; (with_reducible refine (ikey_Entry.calls a0_1 0 a0_0 a0_2 t115 _ A2.out).mono ?_); rintro e w5 ⟨rfl, hb⟩; refine ⟨_, rfl, ?_⟩; have n0_ := Aside0.mk (blk_below (g := gb114) (o := .cells #[.int .u8 a0_0, .string a0_1, .string a0_2] 36 (0, 0)) (by (with_reducible repeat (first | refine blk_drewN ?_ _ | refine blk_drew ?_ | refine blk_alloc ?_ _)); exact BK114.out) hb); have n1_ := Aside0.mk (below_step (by repeat (first | (with_reducible first | exact HB.out | apply below_alloc | apply pw_below_drewN | apply below_drew1 | refine below_set ?_ GE114.out) | exact HB.out)) hb); clear BK114; clear HB; have BK114 := n0_; have HB := n1_; clear n0_ n1_; (try clear hb); (try clear hb2); (try clear hk); (try clear hi)))
  go_ret
  exact ⟨by first | rfl | (simp [errW_none, errW_some] <;> rfl) | (simp [*, errW_none, errW_some] <;> rfl), by repeat (first | (with_reducible first | exact HB.out | apply below_alloc | apply pw_below_drewN | apply below_drew1 | refine below_set ?_ GE114.out) | exact HB.out)⟩

-- GIVEN: function 21 (omap_Apply)

-- GIVEN: function 43 (api_Pair)

end Go.Proofs.Ytkncjpafehnmnaa.P

end

section
set_option linter.unusedVariables false
namespace Go.Proofs.YtkncjpafehnmnaaL
open Go Go.RowKit Go.Proofs.YtkncjpafehnmnaaG Go.Proofs.Ytkncjpafehnmnaa.P Go.Proofs.YtkncjpafehnmnaaW.PrintWords
theorem iright_f (a : ByteArray) (b c : Int) : ikey_Right.f a b c = some (decide (1 ≤ a.size ∧ a.size ≤ 64 ∧ b ≤ 72057594037927935 ∧ c ≤ 1)) := by
  unfold ikey_Right.f
  by_cases h0 : a.size = 0
  · rw [if_pos (ba_nil_iff.2 h0), decide_eq_false (fun h => by have := h.1; omega)]
  · rw [if_neg (fun h => h0 (ba_nil_iff.1 h))]
    by_cases h1 : (a.size : Int) ≤ 64
    · rw [if_pos h1]
      by_cases h2 : b ≤ 72057594037927935
      · rw [if_pos h2]
        congr 1
        exact decide_eq_decide.2 ⟨fun h => ⟨by omega, by omega, h2, h⟩, fun h => h.2.2.2⟩
      · rw [if_neg h2, decide_eq_false (fun h => h2 h.2.2.1)]
    · rw [if_neg h1, decide_eq_false (fun h => h1 (by have := h.2.1; omega))]
theorem opK_f (o : MOp) : batch_Op.f o.f0 o.f1 o.f2 = some (decide (OpK o)) := by
  unfold batch_Op.f
  have h : ikey_Entry.f o.f1 0 o.f0 o.f2 = some (decide (OpK o)) := by
    unfold ikey_Entry.f
    rw [iright_f]
    by_cases h3 : 1 ≤ o.f1.size ∧ o.f1.size ≤ 64 ∧ (0 : Int) ≤ 72057594037927935 ∧ o.f0 ≤ 1
    · rw [decide_eq_true h3]
      by_cases h2 : o.f0 = 0
      · rw [if_pos h2]
        show some (decide ((o.f2.size : Int) ≤ 0)) = _
        congr 1
        exact decide_eq_decide.2 ⟨fun h => ⟨h3.1, h3.2.1, h3.2.2.2, by rw [if_pos h2]; exact h⟩, fun h => by have := h.2.2.2; rwa [if_pos h2] at this⟩
      · rw [if_neg h2]
        show some (decide ((o.f2.size : Int) ≤ 256)) = _
        congr 1
        exact decide_eq_decide.2 ⟨fun h => ⟨h3.1, h3.2.1, h3.2.2.2, by rw [if_neg h2]; exact h⟩, fun h => by have := h.2.2.2; rwa [if_neg h2] at this⟩
    · rw [decide_eq_false h3, decide_eq_false (show ¬ OpK o from fun h => h3 ⟨h.1, h.2.1, by omega, h.2.2.1⟩)]
      by_cases h2 : o.f0 = 0
      · rw [if_pos h2]; rfl
      · rw [if_neg h2]; rfl
  rw [h]
  rfl
end Go.Proofs.YtkncjpafehnmnaaL

end

section
set_option linter.unusedVariables false
set_option linter.unusedSimpArgs false
namespace Go.Proofs.YtkncjpafehnmnaaG
open Go Go.RowKit Go.Proofs.YtkncjpafehnmnaaR Go.Proofs.YtkncjpafehnmnaaL Go.Proofs.Ytkncjpafehnmnaa.P Go.Proofs.YtkncjpafehnmnaaW.PrintWords
theorem slice_of_R {α : Type} {d : Kd α} {e : TypeId} {W : World} {base : Nat} {ok : Nat → Prop} {v : Value} {xs : List α} (h : d.R e W base ok v xs) : ∃ A n c, v = .slice A n c := by
  obtain ⟨_, inner, ⟨_, h⟩, _⟩ := h
  rcases h with ⟨h0, _⟩ | ⟨g, cap, cur, h0, _⟩
  · exact ⟨_, _, _, h0⟩
  · exact ⟨_, _, _, h0⟩
theorem below_both {B : Nat} {w w1 w2 : World} (h : Below B w w1) (k : Below B w1 w2) : Below B w w2 := h.trans k
theorem R_lt {W : World} {base : Nat} {n c : Nat} {A : Option Addr} {xs : List MPr} {ok : Nat → Prop} (h : Kd.R k39 39 W base ok (.slice A n c) xs) : ∀ a, A = some a → a.block < W.heap.size := by
  obtain ⟨_, inner, ⟨_, h⟩, _⟩ := h
  intro a ha
  subst ha
  rcases h with ⟨h0, _⟩ | ⟨g, cap, cur, h0, _, hh, _⟩
  · cases h0
  · injection h0 with h1
    injection h1 with h1
    rw [h1]
    exact (Array.getElem?_eq_some_iff.1 hh).1
theorem R_some {W : World} {base : Nat} {n c : Nat} {A : Option Addr} {xs : List MPr} {ok : Nat → Prop} (h : Kd.R k39 39 W base ok (.slice A n c) xs) (hn : 0 < n) : ∃ g, A = some ⟨g, 0, none⟩ := by
  obtain ⟨_, inner, ⟨_, h⟩, _⟩ := h
  rcases h with ⟨h0, h1⟩ | ⟨g, cap, cur, hv, _⟩
  · injection h0; omega
  · injection hv with ha; exact ⟨g, ha⟩
theorem box3 {W : World} {b : Nat} {x y z : Value} {t : TypeId} (h : W.heap[b]? = some (.cells #[x, y, z] t)) : W.cell? ⟨b, 0, none⟩ = some x ∧ W.cell? ⟨b, 1, none⟩ = some y ∧ W.cell? ⟨b, 2, none⟩ = some z := by
  refine ⟨?_, ?_, ?_⟩ <;> simp [World.cell?, h]
theorem box2 {W : World} {b : Nat} {x y : Value} {t : TypeId} (h : W.heap[b]? = some (.cells #[x, y] t)) : W.cell? ⟨b, 0, none⟩ = some x ∧ W.cell? ⟨b, 1, none⟩ = some y := by
  refine ⟨?_, ?_⟩ <;> simp [World.cell?, h]
def omap_Apply.f (l0 : List MPr) (l1 : List MOp) : Option (List MPr) := if l0.length ≤ 1000 ∧ l1.length ≤ 1000 ∧ oRise l0 then some (oAll l0 l1) else none
set_option maxRecDepth 100000 in
set_option maxHeartbeats 4000000 in
theorem apply_calls (A0 A1 : Option Addr) (c0 c1 : Nat) (l0 : List MPr) (l1 : List MOp) (w : World) (hr0 : Kd.C k39 w A0 l0.length l0) (hc0 : l0.length ≤ c0) (hr1 : Kd.C k36 w A1 l1.length l1) (hc1 : l1.length ≤ c1) (hl0 : l0.length ≤ 1000) (hl1 : l1.length ≤ 1000) (hrise : oRise l0) :
    Calls Try.prog 21 #[.slice A0 l0.length c0, .slice A1 l1.length c1] w fun e w' => ∃ v0_ : Value, e = .returned (v0_) ∧ Kd.R k39 39 w' w.heap.size (fun _ => True) v0_ (oAll l0 l1) ∧ Below w.heap.size w w' := by
  have HR0 := Aside0.mk hr0
  have HC0 := Aside0.mk hc0
  have HR1 := Aside0.mk hr1
  have HC1 := Aside0.mk hc1
  have HL0 := Aside0.mk hl0
  have HL1 := Aside0.mk hl1
  have HRI := Aside0.mk hrise
  clear hr0 hc0 hr1 hc1 hl0 hl1 hrise
  go_enter Try.func21, Try.ntmps21
  go_wp2_with (go_at_call 43; refine (clone_calls A0 c0 l0 _ HR0.out HC0.out (by have := HL0.out; omega)).mono ?_; rintro e w2 ⟨v2, rfl, hr2, hb2⟩; have HR2 := Aside0.mk hr2; have HB2 := Aside0.mk hb2; clear hr2 hb2)
  go_loopg [5, 15] l1.length (fun kq v5 v15 wr => ∃ i : Nat, v15 = .int .i64 (i : Int) ∧ Aside0 (i + kq = l1.length) ∧ Aside0 (Below w.heap.size w wr) ∧ Aside0 (Kd.R k39 39 wr w.heap.size (fun _ => True) v5 (oAll l0 (l1.take i))))
  case atStart => exact ⟨0, rfl, ⟨by omega⟩, ⟨HB2.out⟩, ⟨HR2.out⟩⟩
  case round =>
    obtain ⟨i, rfl, HI, HB, HO⟩ := hrel
    by_cases hi : i < l1.length
    · cases gk with
      | zero => exact absurd HI.out (by omega)
      | succ k1 =>
        have hib : decide ((i : Int) < (l1.length : Int)) = true := decide_eq_true (by omega)
        have hib2 : decide (i < l1.length) = true := decide_eq_true hi
        have hi1 : wrap64 ((i : Int) + 1) = ((i + 1 : Nat) : Int) := by have := HL1.out; unfold wrap64; omega
        obtain ⟨ad, hA, hx0, hx1, hx2⟩ := at_T36 (Kd.C_below HR1.out HB.out) (i : Int) (by omega) (by omega)
        subst hA
        obtain ⟨o, ho⟩ : ∃ o, o = rd_T36 l1 (i : Int) := ⟨_, rfl⟩
        rw [← ho] at hx0 hx1 hx2
        have ho2 : l1[i]? = some o := by
          rw [ho]
          show _ = some (l1.getD ((i : Int)).toNat _)
          rw [Int.toNat_natCast, List.getD_eq_getElem?_getD, List.getElem?_eq_getElem hi]
          rfl
        simp only [Int.toNat_natCast] at hx0 hx1 hx2
        obtain ⟨A, n, c, hv⟩ := slice_of_R HO.out
        subst hv
        obtain ⟨m, hm⟩ : ∃ m, m = oAll l0 (l1.take i) := ⟨_, rfl⟩
        have hnext : oAll l0 (l1.take (i + 1)) = oDo m o := by rw [List.take_add_one, ho2, hm]; show oAll l0 (l1.take i ++ [o]) = _; unfold oAll; rw [List.foldl_append]; rfl
        have hmr : oRise m := by rw [hm]; exact oAll_rise _ HRI.out
        have hml : m.length ≤ 2000 := by have h1 := oAll_len (l1.take i) l0; have := HL0.out; have := HL1.out; rw [List.length_take] at h1; rw [hm]; omega
        rw [← hm] at HO
        obtain ⟨hn, hnc, hCm⟩ := Kd.R_reads' HO.out
        subst hn
        obtain ⟨ca, cm, cb, hcut⟩ := cut_of (key := o.f1) hmr
        have hat : oAt m o.f1 ≤ m.length := tw_le _ _
        have hfc := fun (W : World) (hW : Kd.C k39 W A m.length m) => find_calls A c m o.f1 W hW hnc (by omega) hcut.up
        have hlti : oIs m o.f1 = true → oAt m o.f1 < m.length := fun h => by
          unfold oIs at h
          by_cases hl : oAt m o.f1 < m.length
          · exact hl
          · rw [List.getElem?_eq_none (by omega)] at h; cases h
        have hdo : oDo m o = if OpK o then if o.f0 = 0 then if oIs m o.f1 = true then m.eraseIdx (oAt m o.f1) else m else if oIs m o.f1 = true then m.set (oAt m o.f1) ⟨o.f1, o.f2⟩ else m.insertIdx (oAt m o.f1) ⟨o.f1, o.f2⟩ else m := rfl
        obtain ⟨t, ht⟩ : ∃ t, t = oAt m o.f1 := ⟨_, rfl⟩
        obtain ⟨b, hb⟩ : ∃ b, b = oIs m o.f1 := ⟨_, rfl⟩
        rw [← ht] at hat hlti hdo hfc
        rw [← hb] at hlti hdo hfc
        have hop := opK_f o
        have HFC := Aside0.mk hfc
        have HNC := Aside0.mk hnc
        have HCM := Aside0.mk hCm
        have HML := Aside0.mk hml
        have HO2 := Aside0.mk ho2
        have HAT := Aside0.mk hat
        have HBL := Aside0.mk hb
        have hsB := HB.out.size
        have ht1 : wrap64 ((t : Int) + 1) = (t : Int) + 1 := by unfold wrap64; omega
        by_cases hk : OpK o
        · rw [if_pos hk] at hdo
          rw [decide_eq_true hk] at hop
          by_cases h0 : o.f0 = 0
          · rw [if_pos h0] at hdo
            have hz : (o.f0 == 0) = true := by rw [h0]; rfl
            clear h0
            cases b with
            | true =>
              rw [if_pos rfl] at hdo
              have HNX := Aside0.mk (hnext.trans hdo)
              have HOP := Aside0.mk hop
              have HLT := Aside0.mk (hlti rfl)
              clear ho ho2 hm hnext hmr hml hnc hCm hcut hop hat hlti hfc hb ht hdo hk
              go_wp2_with (first | (go_at_call 42; refine (HFC.out _ (Kd.C_alloc HCM.out _)).mono ?_; rintro e w3 ⟨rfl, hb3⟩; have HB3 := Aside0.mk (below_then (below_alloc (Below.refl wr.heap.size wr) _) (by simp) hb3); obtain ⟨ha3, hd3, he3⟩ := box3 ((hb3.block wr.heap.size (by simp)).trans (World.alloc_heap_new wr _)); have hs3 := Nat.lt_of_lt_of_le (show wr.heap.size < (wr.alloc (.cells #[.int .u8 o.f0, .string o.f1, .string o.f2] 36)).heap.size by simp) hb3.size; clear hb3) | (go_at_call 25; refine (batch_Op.calls o.f0 o.f1 o.f2 true _ HOP.out).mono ?_; rintro e w4 ⟨rfl, hb4⟩; have HB4 := Aside0.mk (below_then (below_alloc (Below.refl w3.heap.size w3) _) (by simp) hb4); have ha4 : w4.cell? ⟨wr.heap.size, 0, none⟩ = some (.int .u8 o.f0) := (World.cell?_of_block (HB4.out.block _ hs3)).trans ha3; obtain ⟨hp4, hq4⟩ := box2 ((hb4.block w3.heap.size (by simp)).trans (World.alloc_heap_new w3 _)); have hs4 := Nat.lt_of_lt_of_le (show w3.heap.size < (w3.alloc (.cells #[.string o.f1, .string o.f2] 39)).heap.size by simp) hb4.size; have HR4 := Aside0.mk (Kd.R_below (Kd.R_below HO.out HB3.out) HB4.out); have HBW := Aside0.mk (below_then (below_then HB.out hsB HB3.out) (Nat.le_of_lt (Nat.lt_of_le_of_lt hsB hs3)) HB4.out); clear hb4) | (go_at_call 44; refine (del_calls w.heap.size m.length c t A m w4 HR4.out rfl HLT.out (by omega)).mono ?_; rintro e w5 ⟨v5, rfl, hr5, hb5⟩; have HR5 := Aside0.mk hr5; have HB5 := Aside0.mk hb5; clear hr5 hb5))
              go_roundg k1
              case measure => exact Nat.lt_succ_self _
              case rel => exact ⟨i + 1, by rw [hi1], ⟨by have := HI.out; omega⟩, ⟨below_both HBW.out HB5.out⟩, ⟨by rw [HNX.out]; exact HR5.out⟩⟩
            | false =>
              rw [if_neg (by decide)] at hdo
              have HNX := Aside0.mk (hnext.trans hdo)
              have HOP := Aside0.mk hop
              clear ho ho2 hm hnext hmr hml hnc hCm hcut hop hat hlti hfc hb ht hdo hk
              go_wp2_with (first | (go_at_call 42; refine (HFC.out _ (Kd.C_alloc HCM.out _)).mono ?_; rintro e w3 ⟨rfl, hb3⟩; have HB3 := Aside0.mk (below_then (below_alloc (Below.refl wr.heap.size wr) _) (by simp) hb3); obtain ⟨ha3, hd3, he3⟩ := box3 ((hb3.block wr.heap.size (by simp)).trans (World.alloc_heap_new wr _)); have hs3 := Nat.lt_of_lt_of_le (show wr.heap.size < (wr.alloc (.cells #[.int .u8 o.f0, .string o.f1, .string o.f2] 36)).heap.size by simp) hb3.size; clear hb3) | (go_at_call 25; refine (batch_Op.calls o.f0 o.f1 o.f2 true _ HOP.out).mono ?_; rintro e w4 ⟨rfl, hb4⟩; have HB4 := Aside0.mk (below_then (below_alloc (Below.refl w3.heap.size w3) _) (by simp) hb4); have ha4 : w4.cell? ⟨wr.heap.size, 0, none⟩ = some (.int .u8 o.f0) := (World.cell?_of_block (HB4.out.block _ hs3)).trans ha3; obtain ⟨hp4, hq4⟩ := box2 ((hb4.block w3.heap.size (by simp)).trans (World.alloc_heap_new w3 _)); have hs4 := Nat.lt_of_lt_of_le (show w3.heap.size < (w3.alloc (.cells #[.string o.f1, .string o.f2] 39)).heap.size by simp) hb4.size; have HR4 := Aside0.mk (Kd.R_below (Kd.R_below HO.out HB3.out) HB4.out); have HBW := Aside0.mk (below_then (below_then HB.out hsB HB3.out) (Nat.le_of_lt (Nat.lt_of_le_of_lt hsB hs3)) HB4.out); clear hb4))
              go_roundg k1
              case measure => exact Nat.lt_succ_self _
              case rel => exact ⟨i + 1, by rw [hi1], ⟨by have := HI.out; omega⟩, ⟨HBW.out⟩, ⟨by rw [HNX.out]; exact HR4.out⟩⟩
          · rw [if_neg h0] at hdo
            have hz : (o.f0 == 0) = false := by simpa using h0
            clear h0
            cases b with
            | true =>
              rw [if_pos rfl] at hdo
              have HNX := Aside0.mk (hnext.trans hdo)
              have HOP := Aside0.mk hop
              have HLT := Aside0.mk (hlti rfl)
              obtain ⟨g, hAg⟩ := R_some HO.out (by have := HLT.out; omega)
              subst hAg
              have htl : (t : Int) < (m.length : Int) := by have := HLT.out; omega
              have htl2 : t < m.length := HLT.out
              clear ho ho2 hm hnext hmr hml hnc hCm hcut hop hat hlti hfc hb ht hdo hk
              go_wp2_with (first | (go_at_call 42; refine (HFC.out _ (Kd.C_alloc HCM.out _)).mono ?_; rintro e w3 ⟨rfl, hb3⟩; have HB3 := Aside0.mk (below_then (below_alloc (Below.refl wr.heap.size wr) _) (by simp) hb3); obtain ⟨ha3, hd3, he3⟩ := box3 ((hb3.block wr.heap.size (by simp)).trans (World.alloc_heap_new wr _)); have hs3 := Nat.lt_of_lt_of_le (show wr.heap.size < (wr.alloc (.cells #[.int .u8 o.f0, .string o.f1, .string o.f2] 36)).heap.size by simp) hb3.size; clear hb3) | (go_at_call 25; refine (batch_Op.calls o.f0 o.f1 o.f2 true _ HOP.out).mono ?_; rintro e w4 ⟨rfl, hb4⟩; have HB4 := Aside0.mk (below_then (below_alloc (Below.refl w3.heap.size w3) _) (by simp) hb4); have ha4 : w4.cell? ⟨wr.heap.size, 0, none⟩ = some (.int .u8 o.f0) := (World.cell?_of_block (HB4.out.block _ hs3)).trans ha3; obtain ⟨hp4, hq4⟩ := box2 ((hb4.block w3.heap.size (by simp)).trans (World.alloc_heap_new w3 _)); have hs4 := Nat.lt_of_lt_of_le (show w3.heap.size < (w3.alloc (.cells #[.string o.f1, .string o.f2] 39)).heap.size by simp) hb4.size; have HR4 := Aside0.mk (Kd.R_below (Kd.R_below HO.out HB3.out) HB4.out); obtain ⟨Ho4, _, hg4, hn4, _⟩ := R_own HR4.out; have HGG := Aside0.mk hg4; obtain ⟨u0, hu0⟩ := Option.isSome_iff_exists.1 (Ho4.there (j := t * 2) (by have := HLT.out; omega)); obtain ⟨u1, hu1⟩ := Option.isSome_iff_exists.1 (Ho4.there (j := t * 2 + 1) (by have := HLT.out; omega)); have hf0 := Ho4.thaw (t * 2); have hf1 := Ho4.thaw (t * 2 + 1); clear Ho4 hg4 hn4; have HBW := Aside0.mk (below_then (below_then HB.out hsB HB3.out) (Nat.le_of_lt (Nat.lt_of_le_of_lt hsB hs3)) HB4.out); clear hb4))
              go_roundg k1
              case measure => exact Nat.lt_succ_self _
              case rel => exact ⟨i + 1, by rw [hi1], ⟨by have := HI.out; omega⟩, ⟨HBW.out.grown (grown_cells w4 g (t * 2) [.string o.f1, .string o.f2]) HBW.out.size (fun k hk => by injection hk with hk; rw [← hk]; exact HGG.out)⟩, ⟨by rw [HNX.out]; exact R_over ⟨o.f1, o.f2⟩ HR4.out HLT.out⟩⟩
            | false =>
              rw [if_neg (by decide)] at hdo
              have HNX := Aside0.mk (hnext.trans hdo)
              have HOP := Aside0.mk hop
              clear ho ho2 hm hnext hmr hml hnc hCm hcut hop hat hlti hfc hb ht hdo hk
              go_wp2_with (first | (go_at_call 42; refine (HFC.out _ (Kd.C_alloc HCM.out _)).mono ?_; rintro e w3 ⟨rfl, hb3⟩; have HB3 := Aside0.mk (below_then (below_alloc (Below.refl wr.heap.size wr) _) (by simp) hb3); obtain ⟨ha3, hd3, he3⟩ := box3 ((hb3.block wr.heap.size (by simp)).trans (World.alloc_heap_new wr _)); have hs3 := Nat.lt_of_lt_of_le (show wr.heap.size < (wr.alloc (.cells #[.int .u8 o.f0, .string o.f1, .string o.f2] 36)).heap.size by simp) hb3.size; clear hb3) | (go_at_call 25; refine (batch_Op.calls o.f0 o.f1 o.f2 true _ HOP.out).mono ?_; rintro e w4 ⟨rfl, hb4⟩; have HB4 := Aside0.mk (below_then (below_alloc (Below.refl w3.heap.size w3) _) (by simp) hb4); have ha4 : w4.cell? ⟨wr.heap.size, 0, none⟩ = some (.int .u8 o.f0) := (World.cell?_of_block (HB4.out.block _ hs3)).trans ha3; obtain ⟨hp4, hq4⟩ := box2 ((hb4.block w3.heap.size (by simp)).trans (World.alloc_heap_new w3 _)); have hs4 := Nat.lt_of_lt_of_le (show w3.heap.size < (w3.alloc (.cells #[.string o.f1, .string o.f2] 39)).heap.size by simp) hb4.size; have HR4 := Aside0.mk (Kd.R_below (Kd.R_below HO.out HB3.out) HB4.out); have HBW := Aside0.mk (below_then (below_then HB.out hsB HB3.out) (Nat.le_of_lt (Nat.lt_of_le_of_lt hsB hs3)) HB4.out); clear hb4) | (go_at_call 45; refine (ins_calls w.heap.size m.length c t w4.heap.size 1 A m ⟨o.f1, o.f2⟩ _ (Kd.R_alloc HR4.out _) rfl HAT.out (by have := HBW.out.size; simp; omega) (by have := HML.out; omega) ⟨_, World.alloc_heap_new w4 _⟩ (by simp) (fun a ha => by have := R_lt HR4.out a ha; omega)).mono ?_; rintro e w5 ⟨v5, rfl, hr5, hb5⟩; have HR5 := Aside0.mk hr5; have HB5 := Aside0.mk (below_both (Below.alloc HBW.out HBW.out.size _) hb5); clear hr5 hb5))
              go_roundg k1
              case measure => exact Nat.lt_succ_self _
              case rel => exact ⟨i + 1, by rw [hi1], ⟨by have := HI.out; omega⟩, ⟨HB5.out⟩, ⟨by rw [HNX.out]; exact HR5.out⟩⟩
        · rw [if_neg hk] at hdo
          rw [decide_eq_false hk] at hop
          have HNX := Aside0.mk (hnext.trans hdo)
          have HOP := Aside0.mk hop
          clear ho ho2 hm hnext hmr hml hnc hCm hcut hop hat hlti hfc hb ht hdo hk
          go_wp2_with (first | (go_at_call 42; refine (HFC.out _ (Kd.C_alloc HCM.out _)).mono ?_; rintro e w3 ⟨rfl, hb3⟩; have HB3 := Aside0.mk (below_then (below_alloc (Below.refl wr.heap.size wr) _) (by simp) hb3); obtain ⟨ha3, hd3, he3⟩ := box3 ((hb3.block wr.heap.size (by simp)).trans (World.alloc_heap_new wr _)); have hs3 := Nat.lt_of_lt_of_le (show wr.heap.size < (wr.alloc (.cells #[.int .u8 o.f0, .string o.f1, .string o.f2] 36)).heap.size by simp) hb3.size; clear hb3) | (go_at_call 25; refine (batch_Op.calls o.f0 o.f1 o.f2 false _ HOP.out).mono ?_; rintro e w4 ⟨rfl, hb4⟩; have HB4 := Aside0.mk (below_then (below_alloc (Below.refl w3.heap.size w3) _) (by simp) hb4); have ha4 : w4.cell? ⟨wr.heap.size, 0, none⟩ = some (.int .u8 o.f0) := (World.cell?_of_block (HB4.out.block _ hs3)).trans ha3; obtain ⟨hp4, hq4⟩ := box2 ((hb4.block w3.heap.size (by simp)).trans (World.alloc_heap_new w3 _)); have hs4 := Nat.lt_of_lt_of_le (show w3.heap.size < (w3.alloc (.cells #[.string o.f1, .string o.f2] 39)).heap.size by simp) hb4.size; have HR4 := Aside0.mk (Kd.R_below (Kd.R_below HO.out HB3.out) HB4.out); have HBW := Aside0.mk (below_then (below_then HB.out hsB HB3.out) (Nat.le_of_lt (Nat.lt_of_le_of_lt hsB hs3)) HB4.out); clear hb4))
          go_roundg k1
          case measure => exact Nat.lt_succ_self _
          case rel => exact ⟨i + 1, by rw [hi1], ⟨by have := HI.out; omega⟩, ⟨HBW.out⟩, ⟨by rw [HNX.out]; exact HR4.out⟩⟩
    · have hib : decide ((i : Int) < (l1.length : Int)) = false := decide_eq_false (by omega)
      have hib2 : decide (i < l1.length) = false := decide_eq_false hi
      have he : l1.take i = l1 := List.take_of_length_le (by omega)
      have HE := Aside0.mk he
      clear he
      go_wp2
      go_ret
      exact ⟨_, rfl, by have := HO.out; rwa [HE.out] at this, HB.out⟩
theorem omap_Apply.calls (A0 : Option Addr) (c0 : Nat) (l0 : List MPr) (A1 : Option Addr) (c1 : Nat) (l1 : List MOp) (r : List MPr) (w : World) (hr0 : Kd.C k39 w A0 l0.length l0) (hc0 : l0.length ≤ c0) (hr1 : Kd.C k36 w A1 l1.length l1) (hc1 : l1.length ≤ c1) (h : omap_Apply.f l0 l1 = some r) :
    Calls Try.prog 21 #[.slice A0 l0.length c0, .slice A1 l1.length c1] w fun e w' => ∃ v0_ : Value, e = .returned (v0_) ∧ Kd.R k39 39 w' w.heap.size (fun _ => True) v0_ r ∧ Below w.heap.size w w' := by
  unfold omap_Apply.f at h
  by_cases hc : l0.length ≤ 1000 ∧ l1.length ≤ 1000 ∧ oRise l0
  · rw [if_pos hc] at h
    obtain rfl := Option.some.inj h
    exact apply_calls A0 A1 c0 c1 l0 l1 w hr0 hc0 hr1 hc1 hc.1 hc.2.1 hc.2.2
  · rw [if_neg hc] at h
    cases h
end Go.Proofs.YtkncjpafehnmnaaG

end
