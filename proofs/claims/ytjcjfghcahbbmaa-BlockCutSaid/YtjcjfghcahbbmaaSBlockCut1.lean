/- Proved here: what the row of BlockCut needs, part 1. Conditions: those of each theorem. Written for this claim by programs; what the claim does not use is left out. -/
import Derived.RangeFuncNested
import Derived.RangeFuncBound
import Derived.RangeFuncCalls
import Derived.RangeFuncLeaves
import Derived.Deep.QuietTactic
import Derived.OwnWalkIn
import Derived.Maps.AppendAt
import Derived.Test.YtjcjfghcahbbmaaProg
import Derived.Lib.SliceRun
import Derived.Shelf.Abstract
import Derived.Shelf.RegionOpen
import Derived.WalkKit
import Derived.TacticsInMore
import Derived.LoopNIn
import Derived.LoopIn
import Derived.Outline
import Derived.LoopTactic
import Derived.Deep.WholeRow
import Derived.Below
import Derived.Deep.Draws
import Derived.Deep.AppendLies
import Derived.OwnWalk
import Derived.Laws.BytesArg
import Derived.Laws.MakeOwn
import Derived.Laws.OwnMore
import Derived.Deep.OwnRows
import Derived.Tactics
import Derived.Lib.ConvBytes
import Derived.Laws.Slices
import Derived.KernelRfl
import Derived.RowKit3
import Derived.Deep.LoopGhost
import Derived.BigQuiet
import Derived.WideLaws
import Derived.Deep.DeepCutAuto
import Derived.Deep.CutBlock
import Derived.Deep.RegionHeld3
import Derived.Laws.Rows
import Derived.Lib.AppendStr
import Derived.ArgAppend
import Derived.Laws.IdiomCopy
import Derived.OrdersHeld
import Derived.Laws.BitsLemmas
import Derived.RowKit
import Derived.Lib.Strings
import Derived.Test.YtjcjfghcahbbmaaSBlockCut0
section
set_option linter.unusedVariables false
namespace Go.Proofs.YtjcjfghcahbbmaaG
open Go Go.RowKit Go.Proofs.YtjcjfghcahbbmaaW.PrintWords Go.Proofs.YtjcjfghcahbbmaaW.PrintLast
theorem bytesLess_gtr : ∀ x y : List UInt8, (!(Op.bytesLess x y || x == y)) = Op.bytesLess y x
  | [], [] => rfl
  | _ :: _, [] => rfl
  | [], _ :: _ => rfl
  | a :: x, b :: y => by
    have ih := bytesLess_gtr x y
    have hc : ((a :: x) == (b :: y)) = (a == b && x == y) := rfl
    rw [hc]
    simp only [Op.bytesLess]
    by_cases h1 : a < b
    · have h2 : ¬ b < a := fun h => absurd (UInt8.lt_trans h1 h) (UInt8.lt_irrefl _)
      have h3 : ¬ b = a := fun h => by subst h; exact UInt8.lt_irrefl _ h1
      simp [h1, h2, h3]
    · by_cases h2 : b < a
      · have h3 : ¬ a = b := fun h => by subst h; exact UInt8.lt_irrefl _ h2
        simp [h1, h2, h3]
      · have h3 : a = b := UInt8.le_antisymm (UInt8.not_lt.1 h2) (UInt8.not_lt.1 h1)
        subst h3
        simp only [h1, decide_false, Bool.false_or, beq_self_eq_true, Bool.true_and]
        exact ih
theorem str_gtr (t : TypeId) (a b : ByteArray) : binOp .gtr t (.string a) (.string b) = pure (.bool (Op.bytesLess b.toList a.toList)) := by
  rw [← bytesLess_gtr]; simp [binOp, Op.stringOp]
theorem str_geq (t : TypeId) (a b : ByteArray) : binOp .geq t (.string a) (.string b) = pure (.bool !(Op.bytesLess a.toList b.toList)) := by simp [binOp, Op.stringOp]
theorem str_leq (t : TypeId) (a b : ByteArray) : binOp .leq t (.string a) (.string b) = pure (.bool !(Op.bytesLess b.toList a.toList)) := by
  rw [← bytesLess_gtr]; simp [binOp, Op.stringOp]
section
variable {P : Program} {ops : Array Oper} {Q : Exit → Act → World → Prop}
theorem gate_calleeT {rest : List Oper} {o : Oper} {a : Act} {W : World} {t : Tmp} {as_ : Array Operand} {ts : Array TypeId} (_ho : o.op = .call { callee := .value (.tmp t), args := as_, argTypes := ts }) (h : wpList P ops Q (o :: rest) a W) : wpList P ops Q (o :: rest) a W := h
/-- A call of a function's value, as_ an arm of go_wp2_with. -/
theorem goesT_ {rest : List Oper} {oi : Oper} {a : Act} {w : World} {f : FuncId} (kt : Tmp) (hk : a.tmps.getD kt undef = .func (.func f) #[] #[]) (N : Option Tmp) (hd : oi.dst = N) (hg : oi.guard = none) {fn : Func} {as_ : Array Operand} {ts : Array TypeId} (hf : P.funcs[f]? = some fn) (hname : (fn.name == "runtime.NumGoroutine") = false) (hb : fn.body.isSome = true) (args : Array Value)
    (hop : oi.op = .call { callee := .value (.tmp kt), args := as_, argTypes := ts }) (hargs : as_.map a.eval = args)
    (h : Calls P f args w fun e w' => ∃ v, e = .returned v ∧ wpList P ops Q rest (a.put N v) w') : wpList P ops Q (oi :: rest) a w := by
  refine wpList_plain hg fun K hK => ?_
  have he := enters_ hf hname hb args w
  have hk2 : a.eval (.tmp kt) = .func (.func f) #[] #[] := hk
  have hrun : (execOp a.eval oi).run P w = .ok (.enter f args) w := by
    unfold execOp
    simp [hop, resolve, Deferred.ofValue, invoke, hk2, hargs, he]
  unfold Oper.wp
  rw [hrun, Oper.upon_enter]
  refine h.mono fun e w'' hh => ?_
  obtain ⟨v, rfl, hk⟩ := hh
  subst hd
  exact hK _ _ hk
end
end Go.Proofs.YtjcjfghcahbbmaaG

end

section
set_option linter.unusedVariables false
namespace Go.Proofs.YtjcjfghcahbbmaaR
open Go Go.RowKit

/-- W' is W but for blocks of C, and new ones. -/
structure Stays (C : Nat → Prop) (W W' : World) : Prop where
  os : W'.os = W.os
  tape : W'.tape = W.tape
  output : W'.output = W.output
  size : W.heap.size ≤ W'.heap.size
  block : ∀ i, i < W.heap.size → ¬ C i → W'.heap[i]? = W.heap[i]?

theorem or3 {a b c q : Prop} (h : a ∨ b ∨ c) (f : a → q) (g : b → q) (k : c → q) : q := h.elim f (fun h => h.elim g k)

theorem Stays.refl (C : Nat → Prop) (W : World) : Stays C W W := ⟨rfl, rfl, rfl, Nat.le_refl _, fun _ _ _ => rfl⟩
theorem Stays.mono {C C' : Nat → Prop} {W W' : World} (h : Stays C W W') (hc : ∀ k, C k → C' k) : Stays C' W W' :=
  ⟨h.os, h.tape, h.output, h.size, fun i hi hn => h.block i hi (fun hk => hn (hc i hk))⟩
theorem Stays.trans {C : Nat → Prop} {A B D : World} (h : Stays C A B) (k : Stays C B D) : Stays C A D :=
  ⟨k.os.trans h.os, k.tape.trans h.tape, k.output.trans h.output, Nat.le_trans h.size k.size, fun i hi hn => (k.block i (Nat.lt_of_lt_of_le hi h.size) hn).trans (h.block i hi hn)⟩
theorem Stays.alloc (C : Nat → Prop) (W : World) (o : Obj) : Stays C W (W.alloc o) := ⟨rfl, rfl, rfl, by simp, fun i hi _ => Below.heap_alloc W o i hi⟩
theorem Stays.putObj {C : Nat → Prop} {W : World} {l : Nat} (hl : C l) (o : Obj) : Stays C W (W.putObj l o) :=
  ⟨rfl, rfl, rfl, by simp, fun i hi hn => World.putObj_heap_other (fun e => hn (by rw [e]; exact hl))⟩
theorem Stays.setCell {C : Nat → Prop} {W : World} {p : Addr} (hp : C p.block) (u : Value) : Stays C W (W.setCell p u) :=
  ⟨rfl, rfl, rfl, by simp [World.setCell], fun i hi hn => Below.heap_setCell W p u i (fun e => hn (by rw [e]; exact hp))⟩
theorem Stays.of_below {C : Nat → Prop} {W W' : World} (h : Below W.heap.size W W') : Stays C W W' := ⟨h.os, h.tape, h.output, h.size, fun i hi _ => h.block i hi⟩
/-- The blocks of C hold in W' what they hold in W. -/
def Hold (C : Nat → Prop) (W W' : World) : Prop := ∀ i, C i → W'.heap[i]? = W.heap[i]?
theorem Hold.refl (C : Nat → Prop) (W : World) : Hold C W W := fun _ _ => rfl
theorem Hold.trans {C : Nat → Prop} {A B D : World} (h : Hold C A B) (k : Hold C B D) : Hold C A D := fun i hi => (k i hi).trans (h i hi)
theorem Hold.of_grownBy {C : Nat → Prop} {W W' : World} {row : Option Nat} (h : W.grownBy W' row) (hlt : ∀ k, C k → k < W.heap.size) (hr : ∀ k, row = some k → ¬ C k) : Hold C W W' :=
  fun i hi => h.block i (hlt i hi) (fun e => hr i e.symm hi)
theorem Hold.setCell {C : Nat → Prop} {W : World} {p : Addr} (hn : ¬ C p.block) (u : Value) : Hold C W (W.setCell p u) := fun i hi => Below.heap_setCell W p u i (fun e => hn (by rw [← e]; exact hi))
theorem below_putObj {n : Nat} {W : World} {D : Nat} (hD : n ≤ D) (o : Obj) : Below n W (W.putObj D o) := ⟨rfl, rfl, rfl, by simp, fun k hk => World.putObj_heap_other (by omega)⟩
/-- What J says, it says of blocks that are not of C: it stays where these are written, where blocks come, and C may take in blocks that were not there. -/
def Fits {β : Type} (J : (Nat → Prop) → β → World → Prop) : Prop :=
  ∀ C C' s W W', J C s W → Stays C W W' → (∀ k, C' k → C k ∨ W.heap.size ≤ k) → J C' s W'

theorem Fits.stay {β : Type} {J : (Nat → Prop) → β → World → Prop} (h : Fits J) {C : Nat → Prop} {s : β} {W W' : World} (hj : J C s W) (hs : Stays C W W') : J C s W' := h C C s W W' hj hs (fun _ hk => .inl hk)
theorem Fits.and {β : Type} {J K : (Nat → Prop) → β → World → Prop} (h : Fits J) (k : Fits K) : Fits (fun C s W => J C s W ∧ K C s W) :=
  fun C C' s W W' hj hs hc => ⟨h C C' s W W' hj.1 hs hc, k C C' s W W' hj.2 hs hc⟩
theorem Fits.false {β : Type} : Fits (fun _ (_ : β) _ => False) := fun _ _ _ _ _ hj _ _ => hj
theorem Fits.ex {β γ : Type} {J : γ → (Nat → Prop) → β → World → Prop} (h : ∀ x, Fits (J x)) : Fits (fun C s W => ∃ x, J x C s W) := fun C C' s W W' ⟨x, hj⟩ hs hc => ⟨x, h x C C' s W W' hj hs hc⟩
/-- One block, known whole. -/
theorem Fits.block {β : Type} (b : β → Nat) (o : β → Obj) : Fits (fun C s W => ¬ C (b s) ∧ W.heap[b s]? = some (o s)) := by
  intro C C' s W W' hj hs hc
  have hlt : b s < W.heap.size := (Array.getElem?_eq_some_iff.1 hj.2).1
  exact ⟨fun hk => (hc _ hk).elim hj.1 (fun h => by omega), (hs.block _ hlt hj.1).trans hj.2⟩
/-- What lay below n₀ in w0 lies there still; no block of C lies there. -/
theorem Fits.below {β : Type} (n₀ : Nat) (w0 : World) (hn : n₀ ≤ w0.heap.size) : Fits (fun C (_ : β) W => (∀ k, C k → n₀ ≤ k) ∧ Below n₀ w0 W) := by
  intro C C' s W W' hj hs hc
  have hsz := hj.2.size
  refine ⟨fun k hk => (hc k hk).elim (hj.1 k) (fun h => by omega), hs.os.trans hj.2.os, hs.tape.trans hj.2.tape, hs.output.trans hj.2.output, Nat.le_trans hsz hs.size, fun k hk => ?_⟩
  exact (hs.block k (by omega) (fun hck => by have := hj.1 k hck; omega)).trans (hj.2.block k hk)

/-- The contract of an iterator's value: whatever the caller's invariants J, Jx say of blocks that are none of C. C0: the blocks that the value has captured; n₀: below it nothing is written. -/
def Iter {α : Type} (P : Program) (g : Nat) (lb : Array Value) (encs : α → Array Value) (S Sp : List α → Prop) (N n₀ : Nat) (C0 : Nat → Prop) (w : World) : Prop :=
  ∀ (l : Nat) (J Jx : (Nat → Prop) → List α → World → Prop) (W : World), Fits J → Fits Jx → w.heap.size ≤ W.heap.size → Hold C0 w W → Below n₀ w W → (∀ k, C0 k → k < W.heap.size) →
    (∀ (C : Nat → Prop) (pre : List α) (x : α) (W1 : World), (∀ k, C k → k < W1.heap.size) → J C pre W1 → pre.length < N → YieldAt Fence.wide 0 P l (encs x) W1 fun e W' =>
      (e = .returned (.bool true) ∧ J C (pre ++ [x]) W' ∧ Hold C W1 W' ∧ Below n₀ W1 W') ∨ (e = .returned (.bool false) ∧ Jx C (pre ++ [x]) W' ∧ Hold C W1 W')) →
    J C0 [] W →
    Calls P g (#[.func (.yield l) #[] #[]] ++ lb) W fun e W' => (∃ v, e = .returned v) ∧ ((∃ xs C, S xs ∧ J C xs W') ∨ (∃ pre C, Sp pre ∧ Jx C pre W'))

/-- How a round's body may be left. -/
def bodyEnd {α : Type} (C : Nat → Prop) (n₀ : Nat) (I : (Nat → Prop) → List α → World → Prop) (Ix : Code → (Nat → Prop) → List α → World → Prop) (xs : List α) (W : World) : Exit → Act → World → Prop
  | .normal, _, W' => Hold C W W' ∧ Below n₀ W W' ∧ I C xs W'
  | .ret, _, W' => Hold C W W' ∧ Ix .ret C xs W'
  | .exit id, _, W' => Hold C W W' ∧ Ix (.exit id) C xs W'
  | .goto t, _, W' => Hold C W W' ∧ Ix (.goto t) C xs W'
  | .panic _, _, _ => False
  | .outgrown, _, _ => False

theorem yieldAt_any {m m' : Nat} {P : Program} {l : Nat} {args : Array Value} {W : World} {R : Ending → World → Prop} (h : YieldAt Fence.wide m P l args W R) : YieldAt Fence.wide m' P l args W R := by
  obtain ⟨fn, tmps, assign, body, hy, hR⟩ := h
  exact ⟨fn, tmps, assign, body, hy, hR.1, fun c cs hr => hR.2 c cs (room_wide _)⟩

/-- A range over a function. hround: one round, the assignment to the loop's variables and the body, from whatever world W'' that differs from the assignment's end in blocks of C alone. -/
theorem range_law {α : Type} {n : Nat} {P : Program} {g : Operand} {ps : Array Tmp} {assign body : Code} {Q : Exit → Act → World → Prop} {a : Act} {w : World}
    {gf : Nat} {lb : Array Value} (hg : a.eval g = .func (.func gf) #[] lb) (eg : ∀ args w, (callFunc gf args).run P w = .ok (.enter gf args) w)
    {encs : α → Array Value} {S Sp : List α → Prop} {N n₀ : Nat} {C0 : Nat → Prop} (hseq : Iter P gf lb encs S Sp N n₀ C0 w) (hC0 : ∀ k, C0 k → k < w.heap.size) (hn0 : n₀ ≤ w.heap.size) (hps : ∀ x, (encs x).size = ps.size)
    (I : (Nat → Prop) → List α → World → Prop) (Ix : Code → (Nat → Prop) → List α → World → Prop) (hI : Fits I) (hIx : ∀ c, Fits (Ix c)) (h0 : I C0 [] w)
    (hround : ∀ (l : Nat) (C : Nat → Prop) (pre : List α) (x : α) (W : World), (∀ k, C k → k < W.heap.size) → w.heap.size ≤ W.heap.size → I C pre W → pre.length < N →
      assign.wpIn (Fence.wide.inRound l) n P (Exit.then (fun a' W' => Hold C W W' ∧ Below n₀ W W' ∧ ∀ W'', Stays C W' W'' → (∀ k, C k → k < W''.heap.size) → Below n₀ W' W'' → W'.heap.size = W''.heap.size → body.wpIn (Fence.wide.inRound l) n P (bodyEnd C n₀ I Ix (pre ++ [x]) W'') a' W'') (fun _ _ _ => False))
        { tmps := (ps.zip (encs x)).foldl (fun t (p, v) => t.setIfInBounds p v) a.tmps, defers := [] } W)
    (hdone : ∀ (D : Nat) (C : Nat → Prop) (xs : List α) (W : World), C D → w.heap.size ≤ D → S xs → I C xs W → W.heap[D]? = some (.deferred (some [])) → Q .normal { a with defers := { target := .collected D, args := #[] } :: a.defers } W)
    (hstop : ∀ (D : Nat) (C : Nat → Prop) (c : Code) (pre : List α) (W : World), C D → w.heap.size ≤ D → Sp pre → Ix c C pre W → W.heap[D]? = some (.deferred (some [])) → c.wpIn Fence.wide n P Q { a with defers := { target := .collected D, args := #[] } :: a.defers } W) :
    (Code.rangeFunc g ps assign body).wpIn Fence.wide n P Q a w := by
  refine wpIn_rangeFunc ?_
  intro fn hfn
  obtain ⟨rec, hrec⟩ : ∃ rec : LoopState → Option Code → Loop, rec = fun st pe => { state := st, pending := pe, fn, tmps := a.tmps, params := ps, assign, body, defers := w.heap.size } := ⟨_, rfl⟩
  obtain ⟨W1, hW1⟩ : ∃ W1, (w.alloc (.deferred (some []))).alloc (.loop (rec .ready none)) = W1 := ⟨_, rfl⟩
  obtain ⟨L, hLl⟩ : ∃ L, L = w.heap.size + 1 := ⟨_, rfl⟩
  obtain ⟨D, hDl⟩ : ∃ D, D = w.heap.size := ⟨_, rfl⟩
  have hL1 : W1.heap[L]? = some (.loop (rec .ready none)) := by
    rw [← hW1, hLl]; have := World.alloc_heap_new (w.alloc (.deferred (some []))) (.loop (rec .ready none)); rwa [World.size_alloc] at this
  have hK1 : W1.heap[D]? = some (.deferred (some [])) := by
    rw [← hW1, hDl]; exact (Below.heap_alloc _ _ _ (by simp)).trans (World.alloc_heap_new w _)
  have hS1 : ∀ C, Stays C w W1 := fun C => by rw [← hW1]; exact (Stays.alloc C w _).trans (Stays.alloc C _ _)
  have hsz1 : W1.heap.size = w.heap.size + 2 := by rw [← hW1]; simp
  refine ⟨L, [{ target := .collected D, args := #[] }], W1, { target := .fn (.func gf) lb, args := #[.func (.yield L) #[] #[]] }, W1, gf,
    #[.func (.yield L) #[] #[]] ++ lb, W1, ?_, ?_, ?_, ?_, fun h => by simp [Fence.wide] at h, ?_⟩
  · rw [← hW1, hrec, hLl, hDl]; exact run_enterLoop_outer _ _ _ _ _
  · simp only [resolve, hg]
    simp [go_sem]
  · intro f' hf'; exact trivial
  · simp [invoke, go_sem, eg]
  · refine callsIn_wide.2 ?_
    have put : ∀ (C : Nat → Prop), (∀ k, C k → (C k ∨ k = L ∨ k = D)) := fun C k hk => .inl hk
    have fitJ : ∀ (K : (Nat → Prop) → List α → World → Prop) (o : Obj), Fits K → Fits (fun C pre W => K (fun k => C k ∨ k = L ∨ k = D) pre W ∧ (¬ C L ∧ W.heap[L]? = some o) ∧ (¬ C D ∧ W.heap[D]? = some (.deferred (some [])))) := by
      intro K o hK C C' s W W' hj hs hc
      refine ⟨hK _ _ s W W' hj.1 (hs.mono (fun k hk => .inl hk)) (fun k hk => ?_), Fits.block (fun _ => L) (fun _ => o) C C' s W W' hj.2.1 hs hc, Fits.block (fun _ => D) (fun _ => .deferred (some [])) C C' s W W' hj.2.2 hs hc⟩
      rcases hk with hk | hk
      · exact (hc k hk).elim (fun h => .inl (.inl h)) .inr
      · exact .inl (.inr hk)
    refine (hseq L
      (fun C pre W => I (fun k => C k ∨ k = L ∨ k = D) pre W ∧ (¬ C L ∧ W.heap[L]? = some (.loop (rec .ready none))) ∧ (¬ C D ∧ W.heap[D]? = some (.deferred (some []))))
      (fun C pre W => ∃ c, Ix c (fun k => C k ∨ k = L ∨ k = D) pre W ∧ (¬ C L ∧ W.heap[L]? = some (.loop (rec .done (some c)))) ∧ (¬ C D ∧ W.heap[D]? = some (.deferred (some []))))
      W1 (fitJ _ _ hI) (fun C C' s W W' ⟨c, hj⟩ hs hc => ⟨c, fitJ (Ix c) _ (hIx c) C C' s W W' hj hs hc⟩) (hS1 (fun _ => False)).size
      (fun i hi => (hS1 (fun _ => False)).block i (hC0 i hi) (fun h => h)) ⟨(hS1 (fun _ => False)).os, (hS1 (fun _ => False)).tape, (hS1 (fun _ => False)).output, (hS1 (fun _ => False)).size, fun k hk => (hS1 (fun _ => False)).block k (by omega) (fun h => h)⟩ (fun k hk => by have := hC0 k hk; omega) ?_
      ⟨hI C0 _ [] w W1 h0 (hS1 C0) (fun k hk => by exact or3 hk (fun h => .inl h) (fun h => .inr (by omega)) (fun h => .inr (by omega))), ⟨fun h => by have := hC0 _ h; omega, hL1⟩, fun h => by have := hC0 _ h; omega, hK1⟩).mono ?_
    · -- one round
      rintro C pre x W hlt ⟨hi, ⟨hnL, hl⟩, hnD, hk⟩ hlen
      have hLlt : L < W.heap.size := (Array.getElem?_eq_some_iff.1 hl).1
      have hDlt : D < W.heap.size := (Array.getElem?_eq_some_iff.1 hk).1
      have hy := run_yield (P := P) (args := encs x) hl (by rw [hrec]; exact hps x)
      rw [hrec] at hy
      have hR := hround L (fun k => C k ∨ k = L ∨ k = D) pre x W (fun k hk => by exact or3 hk (hlt k) (fun h => h ▸ hLlt) (fun h => h ▸ hDlt)) (by omega) hi hlen
      refine yieldAt_any (m := n) ⟨fn, _, assign, body, hy, roundIn_of_wpIn hfn (wpIn_mono hR ?_)⟩
      intro e a' Wa hpost
      cases e with
      | normal =>
        obtain ⟨hHa, hBa, hbody⟩ := hpost
        have hla : Wa.heap[L]? = some (.loop (rec .ready none)) := (hHa L (.inr (.inl rfl))).trans hl
        have hka : Wa.heap[D]? = some (.deferred (some [])) := (hHa D (.inr (.inr rfl))).trans hk
        have hLa : L < Wa.heap.size := (Array.getElem?_eq_some_iff.1 hla).1
        refine ⟨_, run_beginRound hla (by rw [hrec]), ?_⟩
        obtain ⟨W2, hW2⟩ : ∃ W2, W2 = Wa.putObj L (.loop { rec .ready none with state := .busy }) := ⟨_, rfl⟩
        rw [← hW2]
        have hS2 : Stays (fun k => C k ∨ k = L ∨ k = D) Wa W2 := by rw [hW2]; exact Stays.putObj (.inr (.inl rfl)) _
        have hl2 : W2.heap[L]? = some (.loop { rec .ready none with state := .busy }) := by rw [hW2]; exact World.putObj_heap_same hLa
        have hk2 : W2.heap[D]? = some (.deferred (some [])) := by rw [hW2]; exact (World.putObj_heap_other (by omega)).trans hka
        have hB2 : Below n₀ Wa W2 := by rw [hW2]; exact ⟨rfl, rfl, rfl, by simp, fun k hk => World.putObj_heap_other (by omega)⟩
        have hO2 : ∀ k, C k → W2.heap[k]? = Wa.heap[k]? := by
          intro k hk
          have hkL : k ≠ L := fun e => hnL (by rw [← e]; exact hk)
          rw [hW2]
          exact World.putObj_heap_other hkL
        have hsz2 : W2.heap.size = Wa.heap.size := by rw [hW2]; simp
        refine wpIn_mono (hbody W2 hS2 (fun k hk => by have hbs := hBa.size; exact or3 hk (fun h => by have := hlt k h; omega) (fun h => by omega) (fun h => by omega)) hB2 hsz2.symm) ?_
        have fin : ∀ (jump : Option Code) (W3 : World), Hold (fun k => C k ∨ k = L ∨ k = D) W2 W3 →
            (Instr.endRound L jump).run P W3 = .ok (.bool jump.isNone) (W3.putObj L (.loop (rec (if jump.isNone then .ready else .done) jump))) ∧
            (W3.putObj L (.loop (rec (if jump.isNone then .ready else .done) jump))).heap[L]? = some (.loop (rec (if jump.isNone then .ready else .done) jump)) ∧
            (W3.putObj L (.loop (rec (if jump.isNone then .ready else .done) jump))).heap[D]? = some (.deferred (some [])) := fun jump W3 hk3 => by
          have hl3 := (hk3 L (.inr (.inl rfl))).trans hl2
          have := run_endRound (P := P) jump hl3
          rw [hrec] at this ⊢
          exact ⟨this, World.putObj_heap_same (Array.getElem?_eq_some_iff.1 hl3).1, (World.putObj_heap_other (by omega)).trans ((hk3 D (.inr (.inr rfl))).trans hk2)⟩
        have fits : ∀ (K : (Nat → Prop) → List α → World → Prop), Fits K → ∀ (W3 : World) (o : Obj), K (fun k => C k ∨ k = L ∨ k = D) (pre ++ [x]) W3 → K (fun k => C k ∨ k = L ∨ k = D) (pre ++ [x]) (W3.putObj L o) := fun K hK W3 o h3 => hK.stay h3 (Stays.putObj (.inr (.inl rfl)) _)
        rintro e a3 W3 hp
        cases e with
        | normal =>
          obtain ⟨hH3, hB3, hi3⟩ := hp
          obtain ⟨hr, hl4, hk4⟩ := fin none W3 hH3
          refine ⟨_, _, hr, .inl ⟨rfl, ⟨fits I hI W3 _ hi3, ⟨hnL, hl4⟩, hnD, hk4⟩, fun k hk => ?_, ?_⟩⟩
          · have hkL : k ≠ L := fun e => hnL (by rw [← e]; exact hk)
            rw [World.putObj_heap_other hkL]
            exact (hH3 k (.inl hk)).trans ((hO2 k hk).trans (hHa k (.inl hk)))
          · exact hBa.trans (hB2.trans (hB3.trans ⟨rfl, rfl, rfl, by simp, fun k hk => World.putObj_heap_other (by omega)⟩))
        | ret =>
          obtain ⟨hH3, hi3⟩ := hp
          obtain ⟨hr, hl4, hk4⟩ := fin (some .ret) W3 hH3
          have hold : ∀ o : Obj, Hold C W (W3.putObj L o) := fun o k hk => by
            have hkL : k ≠ L := fun e => hnL (by rw [← e]; exact hk)
            rw [World.putObj_heap_other hkL]
            exact (hH3 k (.inl hk)).trans ((hO2 k hk).trans (hHa k (.inl hk)))
          exact ⟨_, _, hr, .inr ⟨rfl, ⟨.ret, fits _ (hIx _) W3 _ hi3, ⟨hnL, hl4⟩, hnD, hk4⟩, hold _⟩⟩
        | exit id =>
          obtain ⟨hH3, hi3⟩ := hp
          obtain ⟨hr, hl4, hk4⟩ := fin (some (.exit id)) W3 hH3
          have hold : ∀ o : Obj, Hold C W (W3.putObj L o) := fun o k hk => by
            have hkL : k ≠ L := fun e => hnL (by rw [← e]; exact hk)
            rw [World.putObj_heap_other hkL]
            exact (hH3 k (.inl hk)).trans ((hO2 k hk).trans (hHa k (.inl hk)))
          exact ⟨_, _, hr, .inr ⟨rfl, ⟨.exit id, fits _ (hIx _) W3 _ hi3, ⟨hnL, hl4⟩, hnD, hk4⟩, hold _⟩⟩
        | goto t =>
          obtain ⟨hH3, hi3⟩ := hp
          obtain ⟨hr, hl4, hk4⟩ := fin (some (.goto t)) W3 hH3
          have hold : ∀ o : Obj, Hold C W (W3.putObj L o) := fun o k hk => by
            have hkL : k ≠ L := fun e => hnL (by rw [← e]; exact hk)
            rw [World.putObj_heap_other hkL]
            exact (hH3 k (.inl hk)).trans ((hO2 k hk).trans (hHa k (.inl hk)))
          exact ⟨_, _, hr, .inr ⟨rfl, ⟨.goto t, fits _ (hIx _) W3 _ hi3, ⟨hnL, hl4⟩, hnD, hk4⟩, hold _⟩⟩
        | panic ch => exact hp.elim
        | outgrown => exact hp.elim
      | ret => exact hpost.elim
      | exit id => exact hpost.elim
      | goto t => exact hpost.elim
      | panic ch => exact hpost.elim
      | outgrown => exact hpost.elim
    · -- behind the iterator
      rintro e W2 ⟨⟨v, rfl⟩, (⟨xs, C, hS, hi, ⟨hnL, hl⟩, hnD, hk⟩ | ⟨pre, C, hSp, c, hi, ⟨hnL, hl⟩, hnD, hk⟩)⟩
      · exact ⟨none, _, by have := run_endLoop (P := P) hl (by rw [hrec]; simp); rw [hrec] at this; exact this,
          hdone D (fun k => C k ∨ k = L ∨ k = D) xs _ (.inr (.inr rfl)) (by omega) hS (hI.stay hi (Stays.putObj (.inr (.inl rfl)) _)) ((World.putObj_heap_other (by omega)).trans hk)⟩
      · exact ⟨some c, _, by have := run_endLoop (P := P) hl (by rw [hrec]; simp); rw [hrec] at this; exact this,
          hstop D (fun k => C k ∨ k = L ∨ k = D) c pre _ (.inr (.inr rfl)) (by omega) hSp ((hIx c).stay hi (Stays.putObj (.inr (.inl rfl)) _)) ((World.putObj_heap_other (by omega)).trans hk)⟩
end Go.Proofs.YtjcjfghcahbbmaaR

end

section
set_option linter.unusedVariables false
namespace Go.Proofs.YtjcjfghcahbbmaaR
open Go Go.RowKit Go.Proofs.YtjcjfghcahbbmaaW.PrintWords

theorem fits_R {β α : Type} (d : Kd α) (e base : Nat) (q : Nat → Prop) (v : β → Value) (f : β → List α) : Fits (fun C s W => d.R e W base (fun k => ¬ C k ∧ q k) (v s) (f s)) :=
  fun C C' s W W' h hs hc => Kd.R_mono (Kd.R_move (Kd.R_bound h) (fun k hk => hs.block k hk.2.2.1 hk.1.1)) (fun k hk => ⟨fun h' => (hc k h').elim hk.1.1 (fun h2 => by have := hk.2.2.1; omega), hk.1.2⟩)
theorem R_putObj {α : Type} {d : Kd α} {e base D : Nat} {W : World} {ok : Nat → Prop} {v : Value} {xs : List α} (h : d.R e W base ok v xs) (hD : ¬ ok D) (o : Obj) : d.R e (W.putObj D o) base (fun _ => True) v xs :=
  Kd.R_mono (Kd.R_move h (fun k hk => World.putObj_heap_other (fun e => hD (by rw [← e]; exact hk)))) (fun _ _ => trivial)
theorem R_setCell {α : Type} {d : Kd α} {e base : Nat} {p : Addr} {W : World} {ok : Nat → Prop} {v : Value} {xs : List α} (h : d.R e W base ok v xs) (hp : ¬ ok p.block) (u : Value) : d.R e (W.setCell p u) base ok v xs :=
  Kd.R_move h (fun k hk => Below.heap_setCell W p u k (fun e => hp (by rw [← e]; exact hk)))

theorem ret_int {k : IntKind} {a b : Int} (h : a = b) : Ending.returned (.int k a) = .returned (.int k b) := by rw [h]
theorem box_cell {b : Nat} {w : World} {t : TypeId} {v : Value} (h : w.heap[b]? = some (.cells #[v] t)) : w.cell? ⟨b, 0, none⟩ = some v := by simp [World.cell?, h]
theorem box_frozen {b : Nat} {w : World} {t : TypeId} {v : Value} (h : w.heap[b]? = some (.cells #[v] t)) : w.frozen? ⟨b, 0, none⟩ = false := by simp [World.frozen?, h]
theorem box_set {b : Nat} {w : World} {t : TypeId} {v : Value} (h : w.heap[b]? = some (.cells #[v] t)) (u : Value) : (w.setCell ⟨b, 0, none⟩ u).heap[b]? = some (.cells #[u] t) := blk_set h 0 u
theorem box_new (W : World) (v : Value) (t : TypeId) : (W.alloc (.cells #[v] t)).heap[W.heap.size]? = some (.cells #[v] t) := World.alloc_heap_new W _
def boxN (b : Nat) (w : World) : Nat := match w.cell? ⟨b, 0, none⟩ with | some (.int _ y) => y.toNat | _ => 0
theorem boxN_eq {b : Nat} {w : World} {k : IntKind} {y : Int} (h : w.cell? ⟨b, 0, none⟩ = some (.int k y)) : boxN b w = y.toNat := by simp [boxN, h]

section
variable {F : Fence} {n : Nat} {P : Program} {ops : Array Oper} {rest : List Oper} {o : Oper} {a : Act} {Q : Exit → Act → World → Prop} {α : Type}
/-- append(v, x) within a fence, behind 'gi_at_builtin'; the goal's world is 'W.alloc' of the variadic's box. -/
theorem appendIn (d : Kd α) {W : World} (base : Nat) (hgd : o.guard = none) (s x : Operand) (t e : TypeId) (z : Value) (bytes : Nat)
    (ho : o.op = .call { callee := .builtin .append, args := #[s, x], argTypes := #[t, t] })
    (ht : P.underlying t = some (.slice e)) (hinfo : (P.info? e).map (fun i => (i.zero, i.size, i.bytes)) = some (some z, d.sz, bytes)) (hz : z.cells.size = d.sz) (hs0 : 0 < d.sz) (hb0 : 0 < bytes)
    (v : Value) (xs : List α) (p : α) (cs : List Value) (ok okp : Nat → Prop) (hs : a.eval s = v) (hx : a.eval x = .slice (some ⟨W.heap.size, 0, none⟩) 1 1) (hp : d.M W base okp p cs) (hokp : ∀ k, okp k → ok k ∧ some k ≠ v.ownBlock) (hfresh : ∀ k, W.heap.size ≤ k → ok k)
    (HO : d.R e W base ok v xs) (hbase : base ≤ W.heap.size) (hl : (xs.length + 1) * bytes ≤ 140737488355328)
    (h : ∀ v1 w1, d.R e w1 base ok v1 (xs ++ [p]) → W.grownBy w1 v.ownBlock → (∃ g c, v1 = .slice (some ⟨g, 0, none⟩) (xs.length + 1) c) → wpListIn F n P ops Q rest (a.put o.dst v1) w1) :
    wpListIn F n P ops Q (o :: rest) a (W.alloc (.cells cs.toArray e)) := by
  obtain ⟨h0, inner, hown, hr⟩ := HO
  obtain ⟨i0, hi, hzz⟩ := Option.map_eq_some_iff.1 hinfo
  simp only [Prod.mk.injEq] at hzz
  obtain ⟨hz0, hz1, hz2⟩ := hzz
  have hys : cs.length = d.sz := d.K_len (d.K_of_M hp)
  have h1 := d.K_one (d.K_of_M hp)
  have hlen : xs.length + 1 ≤ 140737488355328 := Nat.le_trans (Nat.le_mul_of_pos_right _ hb0) hl
  refine wpListIn_plain hgd fun K hK' => ?_
  obtain ⟨v1, w1, hrun, hown1, hg1, _, hat⟩ := run_append_own_at (P := P) (W.alloc (.cells cs.toArray e)) base t o.type e i0 z d.sz bytes ht hi hz0 hz1 hz2 hz hs0 v xs.length inner (hown.alloc _) ⟨W.heap.size, 0, none⟩ 1 1 cs (by rw [hys]; simp)
    (by simpa using World.news_of_block (cs := cs.toArray) (t := e) (fr := (0, 0)) (heap_alloc_new W (.cells cs.toArray e))) h1 (by simp only [maxLen]; omega) hl (by simp; omega)
  have hg : W.grownBy w1 v.ownBlock := World.grownBy.trans (World.grownBy_alloc W _ _) hg1
  have hat' : v1.ownBlock = v.ownBlock ∨ ∃ b, v1.ownBlock = some b ∧ W.heap.size ≤ b := by
    rcases hat with hat | hat
    · exact .inl hat
    · exact .inr ⟨_, hat, by simp⟩
  have hR := Kd.R_appended h0 hr hp hokp hfresh hown1 hg hat'
  have hform : ∃ g c, v1 = .slice (some ⟨g, 0, none⟩) (xs.length + 1) c := by
    obtain ⟨g, cap, he, _⟩ := Kd.R_form hR (by simp)
    exact ⟨g, cap, by simpa using he⟩
  unfold Oper.wpIn
  refine ⟨?_, ?_⟩
  · simp [Oper.about, ho, resolve, Target.leads, Sem.run_pure]
  · rw [Oper.semAt_plain F _ _ (by rw [ho]; intro c hc'; cases hc')]
    simp [execOp, ho, resolve, invoke, builtin, hs, hx, hrun, Result.andThen]
    exact hK' _ _ (h v1 w1 hR hg hform)
end
end Go.Proofs.YtjcjfghcahbbmaaR
namespace Go.Proofs.YtjcjfghcahbbmaaG
open Go Go.RowKit Go.Proofs.YtjcjfghcahbbmaaW.PrintWords
/-- What a conversion of bytes to a string wants of the world stays where nothing that was there is written. -/
theorem conv_stays {P : Program} {w : World} {src dst e : TypeId} {A : Option Addr} {n c : Nat} {xs : List Int} (hs : P.underlying src = some (.slice e)) (he : P.underlying e = some (.int .u8)) (hd : P.underlying dst = some .string)
    (h : (Kd.int .u8).C w A n xs) : ∃ S : World → Prop, S w ∧ (∀ w1 w2, S w1 → Below w1.heap.size w1 w2 → S w2) ∧ ∀ w', S w' → (convert src dst (.slice A n c)).run P w' = .ok (.string (strOfNums xs)) w' :=
  ⟨fun w' => (Kd.int .u8).C w' A n xs, h, fun _ _ h hb => Kd.C_below h hb, fun _ h => Kd.C_string hs he hd h⟩
end Go.Proofs.YtjcjfghcahbbmaaG

end

section
set_option linter.unusedVariables false
set_option linter.unusedSimpArgs false
namespace Go.Proofs.YtjcjfghcahbbmaaG
open Go Go.RowKit Go.Proofs.YtjcjfghcahbbmaaR Go.Proofs.YtjcjfghcahbbmaaW.PrintWords
attribute [local go_sem] Oper.semAt_some

theorem info5 : (Try.prog.info? 5).map (fun i => (i.zero, i.size, i.bytes)) = some (some (.int .u8 0), 1, 1) := by kernel_rfl

def slices_Clone_byte_byte.f (l0 : List Int) : Option (List Int) := if l0.length < 140737488355328 then some l0 else none

set_option maxHeartbeats 1000000 in
theorem slices_Clone_byte_byte.calls (A0 : Option Addr) (c0 : Nat) (l0 : List Int) (r : List Int) (w : World) (hr0 : Kd.C (Kd.int .u8) w A0 l0.length l0) (hc0 : l0.length ≤ c0) (h : slices_Clone_byte_byte.f l0 = some r) :
    Calls Try.prog 82 #[.slice A0 l0.length c0] w fun e w' => ∃ v0_ : Value, e = .returned (v0_) ∧ Kd.R (Kd.int .u8) 5 w' w.heap.size (fun _ => True) v0_ r ∧ Below w.heap.size w w' := by
  have HR0 := Aside0.mk hr0
  have HC0 := Aside0.mk hc0
  clear hr0 hc0
  unfold slices_Clone_byte_byte.f at h
  by_cases hl : l0.length < 140737488355328
  · rw [if_pos hl] at h
    obtain rfl := Option.some.inj h
    clear h
    have HL := Aside0.mk hl
    clear hl
    have hnil := fun W => Lib.run_eql_slice_nil (P := Try.prog) W 26 5 A0 l0.length c0 0 0 Try.underlying26
    cases A0 with
    | none =>
      have hz : l0 = [] := by
        cases l0 with
        | nil => rfl
        | cons x xs =>
          obtain ⟨ad, e, _⟩ := HR0.out.2.2 (by simp)
          cases e
      subst hz
      have hnil0 := fun W => Lib.run_eql_slice_nil (P := Try.prog) W 26 5 none 0 c0 0 0 Try.underlying26
      clear hnil
      go_enter Try.func82, Try.ntmps82
      go_wp2
      go_ret
      exact ⟨_, rfl, Kd.R_nil _ _ _ _ _, Below.refl _ _⟩
    | some ad =>
      have HE : Aside0 ((w.alloc (.cells #[] 5)).ownsRow w.heap.size 5 1 (.slice (some ⟨w.heap.size, 0, none⟩) 0 0) 0 (nums .u8 [])) := ⟨own_lit w w.heap.size 5 .u8 [] (Nat.le_refl _) (by simp)⟩
      go_enter Try.func82, Try.ntmps82
      go_wp2_with (first | ((with_reducible refine gate_builtin (b := .append) (xs := #[.tmp 5, .tmp 6]) rfl ?_); at_builtin; refine Kd.R_append_rows (Kd.int .u8) (w0 := w) w.heap.size rfl (.tmp 5) (.tmp 6) 26 5 (.int .u8 0) 1 rfl Try.underlying26 info5 rfl (by decide) (by omega) (.slice (some ⟨w.heap.size, 0, none⟩) 0 0) ([] : List Int) l0 _ _ _ (fun _ => True) (fun _ => False) rfl rfl ?aO ?aR (fun _ _ h => h) (fun _ h => h.elim) ?aF ?aB ?aS ?aL ?_; (case aR => exact Kd.C_alloc HR0.out _); (case aB => exact (Below.refl _ _).alloc (Nat.le_refl _) _); (case aF => exact (fun _ _ => trivial)); (case aO => exact Kd.R_of_own (xs := ([] : List Int)) HE.out (fun _ _ => trivial)); (case aS => exact by simp); (case aL => have := HL.out; simp; omega); intro v1 w1 ho hb hg hat; have HO := Aside0.mk ho; have HB := Aside0.mk hb; clear ho hb hg hat))
      go_ret
      exact ⟨_, rfl, HO.out, HB.out⟩
  · rw [if_neg hl] at h
    cases h

def slices_IndexFunc_byte_byte.f (l0 : List Int) : Option Int := some (if l0.findIdx (· < 128) < l0.length then (l0.findIdx (· < 128) : Int) else -1)

set_option maxHeartbeats 1000000 in
theorem slices_IndexFunc_byte_byte.calls (A0 : Option Addr) (c0 : Nat) (l0 : List Int) (r : Int) (w : World) (hr0 : Kd.C (Kd.int .u8) w A0 l0.length l0) (hc0 : l0.length ≤ c0) (h : slices_IndexFunc_byte_byte.f l0 = some r) :
    Calls Try.prog 110 #[.slice A0 l0.length c0, .func (.func 111) #[] #[]] w fun e w' => e = .returned (.int .i64 r) ∧ Drawn0 w w' := by
  have hR := Aside0.mk (Kd.reads_of_C (d := (0 : Int)) hr0)
  have hm := hr0.2.1
  have HC0 := Aside0.mk hc0
  have H := Aside0.mk (Option.some.inj h)
  clear hr0 hc0 h
  go_enter Try.func110, Try.ntmps110
  go_wp2
  go_loop [5, 8] (fun v5 v8 => ∃ k : Nat, k ≤ l0.length ∧ v8 = .int .i64 k ∧ Aside0 (∀ j, j < k → ¬ (l0.getD j 0 < 128))) (fun _ v8 => l0.length - (intOf v8).toNat)
  case atStart => exact ⟨0, Nat.zero_le _, rfl, ⟨fun j hj => absurd hj (Nat.not_lt_zero _)⟩⟩
  case round =>
    obtain ⟨k, hk, rfl, hall⟩ := hrel
    by_cases hlt : k < l0.length
    · obtain ⟨ad, e, hc⟩ := hR.out.2.2 (by omega)
      subst e
      have hck := hc k hlt
      clear hc
      go_wp2
      case roundEnd =>
        rename_i h
        refine ⟨⟨k + 1, by omega, by go_num, ⟨fun j hj => ?_⟩⟩, by simp [intOf]; omega⟩
        rcases Nat.lt_or_ge j k with h1 | h1
        · exact hall.out j h1
        · obtain rfl : j = k := by omega
          simpa [hlt] using h
      have h : l0[k] < 128 := by assumption
      go_ret
      have e1 : l0.findIdx (· < 128) = k := by
        refine (List.findIdx_eq hlt).2 ⟨by simpa using h, fun j hj => ?_⟩
        have := hall.out j hj
        rw [List.getD_eq_getElem?_getD, List.getElem?_eq_getElem (by omega)] at this
        simpa using this
      have e2 := H.out
      rw [e1, if_pos hlt] at e2
      exact ⟨ret_int e2, Drawn0.refl _⟩
    · go_wp2
      go_ret
      have e1 : l0.findIdx (· < 128) = l0.length := by
        refine List.findIdx_eq_length.2 (fun x hx => ?_)
        obtain ⟨j, hj, rfl⟩ := List.getElem_of_mem hx
        have := hall.out j (by omega)
        rw [List.getD_eq_getElem?_getD, List.getElem?_eq_getElem hj] at this
        simpa using this
      have e2 := H.out
      rw [e1, if_neg (Nat.lt_irrefl _)] at e2
      exact ⟨ret_int e2, Drawn0.refl _⟩

theorem or128_fin : ∀ b : Fin 256, (b.val ||| 128) = b.val % 128 + 128 := by decide +kernel
theorem or128 (y : Nat) : bits .or .u8 ((y : Int) % 256) 128 = ((y % 128 + 128 : Nat) : Int) := by
  have h := or128_fin ⟨y % 256, by omega⟩
  show IntKind.u8.wrap ((BitVec.ofInt 8 ((y : Int) % 256) ||| BitVec.ofInt 8 128).toNat : Int) = _
  have e1 : BitVec.ofInt 8 ((y : Int) % 256) = BitVec.ofNat 8 (y % 256) := by
    rw [show ((y : Int) % 256) = ((y % 256 : Nat) : Int) from by omega, BitVec.ofInt_natCast]
  rw [e1, BitVec.toNat_or, BitVec.toNat_ofNat]
  simp only [Nat.reducePow, Nat.mod_mod]
  rw [show (BitVec.ofInt 8 128).toNat = 128 from rfl, h, IntKind.wrap_u8]
  simp only
  omega

/-- The number that bytes say, seven bits each, the lowest first. -/
def val7 : List Int → Nat
  | [] => 0
  | c :: cs => (c % 128).toNat + 128 * val7 cs
/-- Does a number stand ahead, in its shortest form, and is it no greater than a word? -/
def takeOk (l : List Int) : Bool := decide (l.findIdx (· < 128) < l.length) && decide (l.findIdx (· < 128) < 10) && !(decide (0 < l.findIdx (· < 128)) && decide (l.getD (l.findIdx (· < 128)) 0 = 0)) && !(decide (l.findIdx (· < 128) = 9) && decide (1 < l.getD 9 0))
def nums_Take.f (l0 : List Int) : Option (Int × List Int × Bool) :=
  if (∀ c ∈ l0, 0 ≤ c ∧ c < 256) ∧ l0.length < 140737488355328 then
    some (if takeOk l0 = true then ((val7 (l0.take (l0.findIdx (· < 128) + 1)) : Int), l0.drop (l0.findIdx (· < 128) + 1), true) else (0, [], false))
  else none

set_option maxRecDepth 100000 in
set_option maxHeartbeats 2000000 in
theorem take_no (A0 : Option Addr) (c0 : Nat) (l0 : List Int) (w : World) (hr0 : Kd.C (Kd.int .u8) w A0 l0.length l0) (hc0 : l0.length ≤ c0) (h : takeOk l0 = false) :
    Calls Try.prog 86 #[.slice A0 l0.length c0] w fun e w' => ∃ v1_ : Value, e = .returned (.tuple #[.int .u64 0, v1_, .bool false]) ∧ Kd.R (Kd.int .u8) 5 w' w.heap.size (fun _ => True) v1_ [] ∧ Below w.heap.size w w' := by
  have hm := hr0.2.1
  have HR := Aside0.mk hr0
  have hcl : ∀ W (hb : Below w.heap.size w W) (i : Int), i = (if l0.findIdx (· < 128) < l0.length then (l0.findIdx (· < 128) : Int) else -1) → Calls Try.prog 110 #[.slice A0 l0.length c0, .func (.func 111) #[] #[]] W fun e w' => e = .returned (.int .i64 i) ∧ Drawn0 W w' :=
    fun W hb i hi => slices_IndexFunc_byte_byte.calls A0 c0 l0 i W (Kd.C_below hr0 hb) hc0 (by rw [hi]; rfl)
  have HCL := Aside0.mk hcl
  clear hcl hr0 hc0
  by_cases h1 : l0.findIdx (· < 128) < l0.length
  · generalize hi : l0.findIdx (· < 128) = i at *
    rw [if_pos h1] at HCL
    obtain ⟨ad, e, hc⟩ := (Kd.reads_of_C (d := (0 : Int)) HR.out).2.2 (by omega)
    subst e
    have hcw : ∀ W (hd : Drawn0 w W) j, j < l0.length → W.cell? (ad.add j) = some (.int .u8 (l0.getD j 0)) := fun W hd j hj => pw_cell_below hd.below (hc j hj)
    have HCW := Aside0.mk hcw
    clear hcw hc
    have hnz : (((i : Int) + 1) == 0) = false := beq_eq_false_iff_ne.2 (by omega)
    by_cases h10 : 10 ≤ i
    · clear h
      go_enter Try.func86, Try.ntmps86
      go_wp2_with (go_at_call 110; refine (HCL.out _ (Below.refl _ _) (i : Int) rfl).mono ?_; rintro e w1 ⟨rfl, hd⟩; have HD := Aside0.mk hd; clear hd)
      go_ret3
      exact ⟨_, rfl, Kd.R_nil _ _ _ _ _, HD.out.below⟩
    · by_cases h0 : 0 < i ∧ l0.getD i 0 = 0
      · obtain ⟨h01, h02⟩ := h0
        clear h
        have H02 := Aside0.mk h02
        clear h02
        go_enter Try.func86, Try.ntmps86
        go_wp2_with (go_at_call 110; refine (HCL.out _ (Below.refl _ _) (i : Int) rfl).mono ?_; rintro e w1 ⟨rfl, hd⟩; have HD := Aside0.mk hd; have hck := HCW.out _ hd i h1; rw [H02.out] at hck; clear hd)
        go_ret3
        exact ⟨_, rfl, Kd.R_nil _ _ _ _ _, HD.out.below⟩
      · have h9 : i = 9 ∧ 1 < l0.getD i 0 := by
          simp only [takeOk, hi] at h
          have e9 : i < 10 := by omega
          by_cases e : i = 9
          · subst e
            simp [h1, e9] at h
            have h0' : ¬ l0[9] = 0 := fun e => h0 ⟨by omega, by rw [List.getD_eq_getElem?_getD, List.getElem?_eq_getElem h1]; exact e⟩
            refine ⟨rfl, ?_⟩
            rw [List.getD_eq_getElem?_getD, List.getElem?_eq_getElem h1]
            exact h h0'
          · simp [h1, e9, e] at h
            exact absurd ⟨h.1, by rw [List.getD_eq_getElem?_getD, List.getElem?_eq_getElem h1]; exact h.2⟩ h0
        obtain ⟨h9, h92⟩ := h9
        have h91 : ¬ l0.getD i 0 = 0 := fun e => h0 ⟨by omega, e⟩
        have hle : i ≤ 9 := by omega
        have hge : 9 ≤ i := by omega
        clear h h0 h9
        generalize hg : l0.getD i 0 = c at *
        have hb1 : (c == 0) = false := by simpa using h91
        have hb2 : (((i : Int) + 1) == 10) = true := beq_iff_eq.2 (by omega)
        have Hg := Aside0.mk hg
        clear hg h91
        go_enter Try.func86, Try.ntmps86
        go_wp2_with (go_at_call 110; refine (HCL.out _ (Below.refl _ _) (i : Int) rfl).mono ?_; rintro e w1 ⟨rfl, hd⟩; have HD := Aside0.mk hd; have hck := HCW.out _ hd i h1; rw [Hg.out] at hck; clear hd)
        go_ret3
        exact ⟨_, rfl, Kd.R_nil _ _ _ _ _, HD.out.below⟩
  · rw [if_neg h1] at HCL
    clear h
    go_enter Try.func86, Try.ntmps86
    go_wp2_with (go_at_call 110; refine (HCL.out _ (Below.refl _ _) (-1) rfl).mono ?_; rintro e w1 ⟨rfl, hd⟩; have HD := Aside0.mk hd; clear hd)
    go_ret3
    exact ⟨_, rfl, Kd.R_nil _ _ _ _ _, HD.out.below⟩

theorem and127_fin : ∀ b : Fin 256, (b.val &&& 127) = b.val % 128 := by decide +kernel
theorem and127 {d : Int} (h0 : 0 ≤ d) (h1 : d < 256) : bits .and .u8 d 127 = d % 128 := by
  obtain ⟨n, rfl⟩ := Int.eq_ofNat_of_zero_le h0
  have h := and127_fin ⟨n, by omega⟩
  show IntKind.u8.wrap ((BitVec.ofInt 8 (n : Int) &&& BitVec.ofInt 8 127).toNat : Int) = _
  rw [BitVec.ofInt_natCast, BitVec.toNat_and, BitVec.toNat_ofNat, show (BitVec.ofInt 8 127).toNat = 127 from rfl, Nat.mod_eq_of_lt (by omega)]
  simp only at h
  rw [h, IntKind.wrap_u8]
  omega
theorem bits_or_u64 (a b : Nat) (ha : a < 18446744073709551616) (hb : b < 18446744073709551616) : bits .or .u64 (a : Int) (b : Int) = ((a ||| b : Nat) : Int) := by
  have hx : a ||| b < 2 ^ 64 := Nat.or_lt_two_pow (by omega) (by omega)
  show IntKind.u64.wrap ((BitVec.ofInt 64 (a : Int) ||| BitVec.ofInt 64 (b : Int)).toNat : Int) = _
  rw [BitVec.ofInt_natCast, BitVec.ofInt_natCast, BitVec.toNat_or, BitVec.toNat_ofNat, BitVec.toNat_ofNat, Nat.mod_eq_of_lt (by omega), Nat.mod_eq_of_lt (by omega), IntKind.wrap_u64]
  omega
theorem or_add (a c k : Nat) (h : a < 2 ^ k) : a ||| c * 2 ^ k = a + c * 2 ^ k := by
  rw [Nat.or_comm, ← Nat.shiftLeft_eq, ← Nat.shiftLeft_add_eq_or_of_lt h, Nat.add_comm]
theorem val7_lt : ∀ l : List Int, val7 l < 128 ^ l.length
  | [] => by simp [val7]
  | c :: cs => by
    have := val7_lt cs
    have h2 : (c % 128).toNat < 128 := by omega
    rw [val7, List.length_cons, Nat.pow_succ]
    omega
theorem val7_snoc : ∀ (l : List Int) (c : Int), val7 (l ++ [c]) = val7 l + (c % 128).toNat * 128 ^ l.length
  | [], c => by simp [val7]
  | d :: ds, c => by
    rw [List.cons_append, val7, val7_snoc ds c, val7, List.length_cons, Nat.pow_succ, Nat.mul_add, Nat.add_assoc, Nat.mul_comm (128 ^ ds.length) 128, Nat.mul_left_comm]
theorem take_step (l : List Int) (k : Nat) (hk : k < l.length) (hk9 : k ≤ 9) (h0 : 0 ≤ l.getD k 0) (h1 : l.getD k 0 < 256) (h9 : k = 9 → l.getD k 0 ≤ 1) :
    bits .or .u64 ((val7 (l.take k) : Nat) : Int) (IntKind.u64.wrap (IntKind.u64.wrap (bits .and .u8 (l.getD k 0) 127) * 2 ^ (7 * k))) = ((val7 (l.take (k + 1)) : Nat) : Int) := by
  have e1 : l.take (k + 1) = l.take k ++ [l.getD k 0] := by
    rw [List.take_succ_eq_append_getElem hk, List.getD_eq_getElem?_getD, List.getElem?_eq_getElem hk]; rfl
  have hlen : (l.take k).length = k := by rw [List.length_take]; omega
  have hlt := val7_lt (l.take k)
  rw [hlen] at hlt
  rw [e1, val7_snoc, hlen, and127 h0 h1]
  generalize l.getD k 0 = d at *
  obtain ⟨n, rfl⟩ := Int.eq_ofNat_of_zero_le h0
  generalize val7 (l.take k) = X at *
  have e128 : (128 : Nat) ^ k = 2 ^ (7 * k) := by rw [show (128 : Nat) = 2 ^ 7 from rfl, ← Nat.pow_mul]
  have hm : ((n : Int) % 128).toNat = n % 128 := by omega
  have hb : n % 128 * 2 ^ (7 * k) < 18446744073709551616 := by
    rcases Nat.lt_or_ge k 9 with h | h
    · have : (2 : Nat) ^ (7 * k) ≤ 2 ^ 56 := Nat.pow_le_pow_right (by omega) (by omega)
      have h3 : n % 128 ≤ 127 := by omega
      calc n % 128 * 2 ^ (7 * k) ≤ 127 * 2 ^ 56 := Nat.mul_le_mul h3 this
        _ < 18446744073709551616 := by decide
    · obtain rfl : k = 9 := by omega
      have := h9 rfl
      have h3 : n % 128 ≤ 1 := by omega
      calc n % 128 * 2 ^ (7 * 9) ≤ 1 * 2 ^ (7 * 9) := Nat.mul_le_mul h3 (Nat.le_refl _)
        _ < 18446744073709551616 := by decide
  have hX : X < 18446744073709551616 := by
    have : (2 : Nat) ^ (7 * k) ≤ 2 ^ 63 := Nat.pow_le_pow_right (by omega) (by omega)
    rw [e128] at hlt
    have e63 : (2 : Nat) ^ 63 = 9223372036854775808 := rfl
    omega
  have ew : IntKind.u64.wrap (IntKind.u64.wrap ((n : Int) % 128) * 2 ^ (7 * k)) = ((n % 128 * 2 ^ (7 * k) : Nat) : Int) := by
    have e2 : IntKind.u64.wrap ((n : Int) % 128) = ((n % 128 : Nat) : Int) := by rw [IntKind.wrap_u64]; omega
    have e3 : (((n % 128 : Nat) : Int) * 2 ^ (7 * k)) = ((n % 128 * 2 ^ (7 * k) : Nat) : Int) := by push_cast; rfl
    rw [e2, e3, IntKind.wrap_u64]
    omega
  rw [ew, bits_or_u64 _ _ hX hb, hm, e128]
  rw [e128] at hlt
  rw [or_add _ _ _ hlt]

theorem clone_n (A0 : Option Addr) (n c0 : Nat) (l0 : List Int) (w : World) (hn : l0.length = n) (hr0 : Kd.C (Kd.int .u8) w A0 l0.length l0) (hc0 : l0.length ≤ c0) (h : l0.length < 140737488355328) :
    Calls Try.prog 82 #[.slice A0 n c0] w fun e w' => ∃ v0_ : Value, e = .returned (v0_) ∧ Kd.R (Kd.int .u8) 5 w' w.heap.size (fun _ => True) v0_ l0 ∧ Below w.heap.size w w' := by
  subst hn
  exact slices_Clone_byte_byte.calls A0 c0 l0 l0 w hr0 hc0 (by unfold slices_Clone_byte_byte.f; rw [if_pos h])

set_option maxRecDepth 100000 in
set_option maxHeartbeats 4000000 in
theorem take_yes (A0 : Option Addr) (c0 : Nat) (l0 : List Int) (w : World) (hr0 : Kd.C (Kd.int .u8) w A0 l0.length l0) (hc0 : l0.length ≤ c0) (h : takeOk l0 = true) (hby : ∀ c ∈ l0, 0 ≤ c ∧ c < 256) (hbig : l0.length < 140737488355328) :
    Calls Try.prog 86 #[.slice A0 l0.length c0] w fun e w' => ∃ v1_ : Value, e = .returned (.tuple #[.int .u64 (val7 (l0.take (l0.findIdx (· < 128) + 1)) : Int), v1_, .bool true]) ∧ Kd.R (Kd.int .u8) 5 w' w.heap.size (fun _ => True) v1_ (l0.drop (l0.findIdx (· < 128) + 1)) ∧ Below w.heap.size w w' := by
  have hm := hr0.2.1
  have HR := Aside0.mk hr0
  have HC0 := Aside0.mk hc0
  have hcl : ∀ W (hb : Below w.heap.size w W) (i : Int), i = (if l0.findIdx (· < 128) < l0.length then (l0.findIdx (· < 128) : Int) else -1) → Calls Try.prog 110 #[.slice A0 l0.length c0, .func (.func 111) #[] #[]] W fun e w' => e = .returned (.int .i64 i) ∧ Drawn0 W w' :=
    fun W hb i hi => slices_IndexFunc_byte_byte.calls A0 c0 l0 i W (Kd.C_below hr0 hb) hc0 (by rw [hi]; rfl)
  have HCL := Aside0.mk hcl
  clear hcl hr0 
  simp only [takeOk, Bool.and_eq_true, decide_eq_true_eq, Bool.not_eq_true', Bool.and_eq_false_iff, decide_eq_false_iff_not] at h
  generalize hi : l0.findIdx (· < 128) = i at *
  obtain ⟨⟨⟨h1, h2⟩, h3⟩, h4⟩ := h
  rw [if_pos h1] at HCL
  obtain ⟨ad, e, hc⟩ := (Kd.reads_of_C (d := (0 : Int)) HR.out).2.2 (by omega)
  subst e
  have hcw : ∀ W (hd : Drawn0 w W) j, j < l0.length → W.cell? (ad.add j) = some (.int .u8 (l0.getD j 0)) := fun W hd j hj => pw_cell_below hd.below (hc j hj)
  have HCW := Aside0.mk hcw
  clear hcw hc
  have hnz : (((i : Int) + 1) == 0) = false := beq_eq_false_iff_ne.2 (by omega)
  have hgd : l0.getD i 0 = l0[i] := by rw [List.getD_eq_getElem?_getD, List.getElem?_eq_getElem h1]; rfl
  have H3 := Aside0.mk h3
  have H4 := Aside0.mk h4
  clear h3 h4
  have HI := Aside0.mk hi
  have HBY := Aside0.mk hby
  clear hi hby
  generalize hg : l0.getD i 0 = c at *
  have Hg := Aside0.mk hg
  clear hg hgd
  have hw1 : IntKind.i64.wrap ((i : Int) + 1) = (i : Int) + 1 := IntWalk.i64_in _ (by omega)
  -- the two tests ahead
  have hcase : (0 < i ∧ (c == 0) = false ∧ 9 ≤ i ∧ c ≤ 1 ∧ (((i : Int) + 1) == 10) = true) ∨ (0 < i ∧ (c == 0) = false ∧ i < 9 ∧ (((i : Int) + 1) == 10) = false) ∨ (i ≤ 0 ∧ (((i : Int) + 1) == 10) = false) := by
    rcases Nat.eq_zero_or_pos i with h | h
    · exact .inr (.inr ⟨by omega, beq_eq_false_iff_ne.2 (by omega)⟩)
    · have hb1 : (c == 0) = false := by
        rcases H3.out with h' | h'
        · omega
        · simpa using h'
      by_cases h9 : i = 9
      · refine .inl ⟨h, hb1, by omega, ?_, beq_iff_eq.2 (by omega)⟩
        rcases H4.out with h' | h'
        · exact absurd h9 h'
        · rw [← Hg.out, h9]; omega
      · exact .inr (.inl ⟨h, hb1, by omega, beq_eq_false_iff_ne.2 (by omega)⟩)
  clear hw1
  have hcut : ∀ W, Drawn0 w W → Kd.C (Kd.int .u8) W (if c0 = i + 1 then some ad else some ⟨ad.block, ad.off + (i + 1), none⟩) (l0.drop (i + 1)).length (l0.drop (i + 1)) := fun W hd => by
    have := Kd.C_drop (Kd.C_below HR.out hd.below) (m := i + 1) (by omega) HC0.out
    have e : (i + 1) * (Kd.int .u8).sz = i + 1 := Nat.mul_one _
    rw [e] at this
    have e2 : (Option.map (fun x => Addr.add x (i + 1)) (some ad)) = some ⟨ad.block, ad.off + (i + 1), none⟩ := by simp [Addr.add]
    rwa [e2] at this
  have HCUT := Aside0.mk hcut
  have HBIG : Aside0 ((l0.drop (i + 1)).length < 140737488355328) := ⟨by rw [List.length_drop]; omega⟩
  have HLD : Aside0 ((l0.drop (i + 1)).length = l0.length - (i + 1)) := ⟨List.length_drop⟩
  have hstep : ∀ k, k < i + 1 → bits .or .u64 ((val7 (l0.take k) : Nat) : Int) (IntKind.u64.wrap (IntKind.u64.wrap (bits .and .u8 (l0.getD k 0) 127) * 2 ^ (7 * k))) = ((val7 (l0.take (k + 1)) : Nat) : Int) := fun k hk => by
    have hkl : k < l0.length := by omega
    have hmem : l0.getD k 0 ∈ l0 := by rw [List.getD_eq_getElem?_getD, List.getElem?_eq_getElem hkl]; exact List.getElem_mem hkl
    refine take_step l0 k hkl (by omega) (HBY.out _ hmem).1 (HBY.out _ hmem).2 (fun e => ?_)
    rcases H4.out with h' | h'
    · omega
    · rw [e]; omega
  have HSTEP := Aside0.mk hstep
  have hcn1 : c0 ≤ i + 1 → ∀ W, Drawn0 w W → Calls Try.prog 82 #[.slice (some ad) (l0.length - (i + 1)) 0] W fun e w' => ∃ v0_ : Value, e = .returned (v0_) ∧ Kd.R (Kd.int .u8) 5 w' W.heap.size (fun _ => True) v0_ (l0.drop (i + 1)) ∧ Below W.heap.size W w' := fun hc W hd => by
    have he : c0 = i + 1 := by have := HC0.out; omega
    have := HCUT.out W hd
    rw [if_pos he] at this
    exact clone_n _ _ _ _ W HLD.out this (by have := HLD.out; have := HC0.out; omega) HBIG.out
  have hcn2 : ¬ c0 ≤ i + 1 → ∀ W, Drawn0 w W → Calls Try.prog 82 #[.slice (some ⟨ad.block, ad.off + (i + 1), none⟩) (l0.length - (i + 1)) (c0 - (i + 1))] W fun e w' => ∃ v0_ : Value, e = .returned (v0_) ∧ Kd.R (Kd.int .u8) 5 w' W.heap.size (fun _ => True) v0_ (l0.drop (i + 1)) ∧ Below W.heap.size W w' := fun hc W hd => by
    have := HCUT.out W hd
    rw [if_neg (by omega)] at this
    exact clone_n _ _ _ _ W HLD.out this (by have := HLD.out; have := HC0.out; omega) HBIG.out
  have HCLN1 := Aside0.mk hcn1
  have HCLN2 := Aside0.mk hcn2
  clear hstep hcut hbig hc0 hcn1 hcn2
  obtain ⟨X, hX⟩ : ∃ X : Nat → Nat, X = fun k => val7 (l0.take k) := ⟨_, rfl⟩
  have HX := Aside0.mk hX
  have HX0 : Aside0 (X 0 = 0) := ⟨by rw [hX]; rfl⟩
  clear hX
  have hle : i + 1 ≤ c0 := by have := HC0.out; omega
  by_cases hcap : c0 ≤ i + 1
  all_goals
    rcases hcase with ⟨hp1, hp2, hp3, hp4, hp5⟩ | ⟨hp1, hp2, hp3, hp5⟩ | ⟨hp1, hp5⟩
    all_goals
      go_enter Try.func86, Try.ntmps86
      go_wp2_with (go_at_call 110; refine (HCL.out _ (Below.refl _ _) (i : Int) rfl).mono ?_; rintro e w1 ⟨rfl, hd⟩; have HD := Aside0.mk hd; have hck := HCW.out _ hd i h1; rw [Hg.out] at hck; clear hd)
      go_loop [6, 7, 8, 44] (fun v6 v7 v8 v44 => ∃ k : Nat, k ≤ i + 1 ∧ v44 = .int .i64 k ∧ v6 = .int .u64 (X k)) (fun _ _ _ v44 => i + 1 - (intOf v44).toNat)
      case atStart => exact ⟨0, Nat.zero_le _, rfl, by rw [HX0.out]; rfl⟩
      case round =>
        obtain ⟨k, hk, rfl, rfl⟩ := hrel
        by_cases hlt : k < i + 1
        · have hckk := HCW.out _ HD.out k (by omega)
          have HS := Aside0.mk (HSTEP.out k hlt)
          generalize hg2 : l0.getD k 0 = d at *
          have Hg2 := Aside0.mk hg2
          clear hg2 hck
          go_wp2
          case roundEnd =>
            refine ⟨⟨k + 1, by omega, by go_num, ?_⟩, by simp [intOf]; omega⟩
            rw [HX.out]
            exact congrArg (Value.int .u64) HS.out
        · have hki : k = i + 1 := by omega
          subst hki
          go_wp2_with fail
          first
            | (refine (HCLN1.out hcap _ HD.out).mono ?_; rintro e w2 ⟨v, rfl, hv, hb⟩; have HV := Aside0.mk hv; have HB2 := Aside0.mk hb; clear hv hb; go_wp2; go_ret3; exact ⟨_, by rw [HX.out]; rfl, Kd.R_lower HV.out HD.out.below.size, HD.out.below.trans (HB2.out.mono HD.out.below.size)⟩)
            | (refine (HCLN2.out hcap _ HD.out).mono ?_; rintro e w2 ⟨v, rfl, hv, hb⟩; have HV := Aside0.mk hv; have HB2 := Aside0.mk hb; clear hv hb; go_wp2; go_ret3; exact ⟨_, by rw [HX.out]; rfl, Kd.R_lower HV.out HD.out.below.size, HD.out.below.trans (HB2.out.mono HD.out.below.size)⟩)

theorem nums_Take.calls (A0 : Option Addr) (c0 : Nat) (l0 : List Int) (r1 : Int) (r2 : List Int) (r3 : Bool) (w : World) (hr0 : Kd.C (Kd.int .u8) w A0 l0.length l0) (hc0 : l0.length ≤ c0) (h : nums_Take.f l0 = some (r1, r2, r3)) :
    Calls Try.prog 86 #[.slice A0 l0.length c0] w fun e w' => ∃ v1_ : Value, e = .returned (.tuple #[.int .u64 r1, v1_, .bool r3]) ∧ Kd.R (Kd.int .u8) 5 w' w.heap.size (fun _ => True) v1_ r2 ∧ Below w.heap.size w w' := by
  unfold nums_Take.f at h
  by_cases hc : (∀ c ∈ l0, 0 ≤ c ∧ c < 256) ∧ l0.length < 140737488355328
  · rw [if_pos hc] at h
    have h := Option.some.inj h
    by_cases ho : takeOk l0 = true
    · rw [if_pos ho] at h
      simp only [Prod.mk.injEq] at h
      obtain ⟨rfl, rfl, rfl⟩ := h
      exact take_yes A0 c0 l0 w hr0 hc0 ho hc.1 hc.2
    · rw [if_neg ho] at h
      simp only [Prod.mk.injEq] at h
      obtain ⟨rfl, rfl, rfl⟩ := h
      exact take_no A0 c0 l0 w hr0 hc0 (by simpa using ho)
  · rw [if_neg hc] at h
    cases h

/-- The bytes of a number. -/
def vint (x : Nat) : List Int := if h : 127 < x then ((x % 128 + 128 : Nat) : Int) :: vint (x / 128) else [(x : Int)]
termination_by x
decreasing_by omega

theorem form_new (x : Nat) (w : World) : Calls Try.prog 108 #[.int .u64 x] w fun e w' => e = .returned (.func (.func 126) #[] #[.pointer (some ⟨w.heap.size, 0, none⟩)]) ∧ w.alloc (.cells #[.int .u64 x] 32) = w' := by
  go_enter Try.func108, Try.ntmps108
  go_wp2
  go_ret
  exact ⟨rfl, rfl⟩

set_option maxRecDepth 100000 in
set_option maxHeartbeats 1000000 in
theorem form_iter (bx n₀ x : Nat) (w : World) (hx : x < 18446744073709551616) (hn : n₀ ≤ bx) (hbx : w.heap[bx]? = some (.cells #[.int .u64 x] 32)) :
    Iter Try.prog 126 #[.pointer (some ⟨bx, 0, none⟩)] (fun c : Int => #[.int .u8 c]) (fun xs => xs = vint x) (fun _ => True) (vint x).length n₀ (· = bx) w := by
  intro l J Jx W hJ hJx hsz hH hB hlt hY h0
  refine (callsIn_wide (n := 1)).1 ?_
  refine callsIn_of_wp Try.func126 rfl trivial ?_ rfl
  simp only [Try.ntmps126, List.size_toArray, List.length_cons, List.length_nil, Nat.reduceAdd, Nat.reduceSub, Array.replicate_succ, Array.replicate_zero, List.push_toArray, List.append_toArray, List.nil_append, List.cons_append]
  gi_wp2
  gi_loopw [3] (fun v3 wr => ∃ (pre : List Int) (y : Nat), Aside0 (vint x = pre ++ vint y) ∧ y < 18446744073709551616 ∧ wr.heap[bx]? = some (.cells #[.int .u64 y] 32) ∧ Aside0 (bx < wr.heap.size) ∧ Aside0 (J (· = bx) pre wr))
    (fun v3 wr => boxN bx wr)
  case atStart => exact ⟨[], x, ⟨by simp⟩, hx, (hH bx rfl).trans hbx, ⟨hlt bx rfl⟩, ⟨h0⟩⟩
  case round =>
    obtain ⟨pre, y, hv, hy, hcell, hbl, hj⟩ := hrel
    have hc1 := box_cell hcell
    have hf1 := box_frozen hcell
    have hcellw := Aside0.mk hcell
    clear hcell
    have hlts : ∀ k, k = bx → k < wr.heap.size := fun k hk => hk ▸ hbl.out
    by_cases hb : 127 < y
    · obtain ⟨c, hc⟩ : ∃ c : Int, c = ((y % 128 + 128 : Nat) : Int) := ⟨_, rfl⟩
      have hbits : bits .or .u8 ((y : Int) % 256) 128 = c := (or128 y).trans hc.symm
      have hvy : vint y = c :: vint (y / 128) := by rw [vint, dif_pos hb, hc]
      have Hvy := Aside0.mk hvy
      clear hvy hc
      obtain ⟨fn, tmps, assign, body, hyy, hR⟩ := hY (· = bx) pre c wr hlts hj.out (by rw [hv.out, Hvy.out]; simp)
      gi_wp2
      refine hR.mono ?_
      rintro e W3 (⟨rfl, hJ3, hH3, hB3⟩ | ⟨rfl, hJx3, _⟩)
      · have hcell3 : W3.heap[bx]? = some (.cells #[.int .u64 y] 32) := (hH3 bx rfl).trans hcellw.out
        have hc3 := box_cell hcell3
        have hf3 := box_frozen hcell3
        have HJ3 := Aside0.mk hJ3
        have Hcell3 := Aside0.mk hcell3
        have Hbl : Aside0 (bx < W3.heap.size) := ⟨blk_lt hcell3⟩
        clear hJ3 hcell3 hH3 hB3 hR hyy hY h0 hB hH
        gi_wp2
        case roundEnd =>
          refine ⟨⟨pre ++ [c], y / 128, ⟨by rw [hv.out, Hvy.out]; simp⟩, by omega, by rw [box_set Hcell3.out]; simp, ⟨by simpa [World.setCell] using Hbl.out⟩, ⟨hJ.stay HJ3.out (Stays.setCell (C := (· = bx)) (p := ⟨bx, 0, none⟩) rfl _)⟩⟩, ?_⟩
          rw [boxN_eq hc1, boxN_eq (box_cell (box_set Hcell3.out _))]
          omega
      · gi_wp2
        refine bodyPost_ret (results_none rfl _ _ _) rfl ?_
        exact ⟨⟨_, rfl⟩, .inr ⟨_, _, trivial, hJx3⟩⟩
    · have hvy : vint y = [(y : Int)] := by rw [vint, dif_neg hb]
      have Hvy := Aside0.mk hvy
      clear hvy
      obtain ⟨fn, tmps, assign, body, hyy, hR⟩ := hY (· = bx) pre (y : Int) wr hlts hj.out (by rw [hv.out, Hvy.out]; simp)
      gi_wp2
      refine hR.mono ?_
      rintro e W3 (⟨rfl, hJ3, hH3, hB3⟩ | ⟨rfl, hJx3, _⟩)
      · gi_wp2
        go_end0
        exact ⟨⟨_, rfl⟩, .inl ⟨_, _, by rw [hv.out, Hvy.out], hJ3⟩⟩
      · gi_wp2
        go_end0
        exact ⟨⟨_, rfl⟩, .inr ⟨_, _, trivial, hJx3⟩⟩

theorem vint_len : ∀ (n x : Nat), x < 128 ^ (n + 1) → (vint x).length ≤ n + 1 := by
  intro n
  induction n with
  | zero => intro x hx; rw [vint, dif_neg (by omega)]; simp
  | succ n ih =>
    intro x hx
    rw [vint]
    split
    · have := ih (x / 128) (by rw [Nat.pow_succ] at hx; omega)
      simp; omega
    · simp
theorem vint_len10 {x : Nat} (hx : x < 18446744073709551616) : (vint x).length ≤ 10 := vint_len 9 x (by omega)

/-- Behind the bytes pre: the box bo holds a row of the call's own, l0 ++ pre. -/
def putI (w : World) (bo : Nat) (l0 : List Int) (C : Nat → Prop) (pre : List Int) (W : World) : Prop :=
  ∃ v, (¬ C bo ∧ W.heap[bo]? = some (.cells #[v] 26)) ∧ Kd.R (Kd.int .u8) 5 W w.heap.size (fun k => ¬ C k ∧ k ≠ bo) v (l0 ++ pre) ∧ ((∀ k, C k → w.heap.size ≤ k) ∧ Below w.heap.size w W)
theorem putI_fits (w : World) (bo : Nat) (l0 : List Int) : Fits (putI w bo l0) :=
  Fits.ex fun v => (Fits.block (fun _ => bo) (fun _ => .cells #[v] 26)).and ((fits_R (Kd.int .u8) 5 w.heap.size (· ≠ bo) (fun _ => v) (fun pre => l0 ++ pre)).and (Fits.below _ w (Nat.le_refl _)))

def nums_Put.f (l0 : List Int) (a1 : Int) : Option (List Int) := if 0 ≤ a1 ∧ a1 < 18446744073709551616 ∧ l0.length + 10 < 140737488355328 then some (l0 ++ vint a1.toNat) else none

set_option maxRecDepth 100000 in
set_option maxHeartbeats 2000000 in
theorem nums_Put.calls (A0 : Option Addr) (c0 : Nat) (l0 : List Int) (a1 : Int) (r : List Int) (w : World) (hr0 : Kd.C (Kd.int .u8) w A0 l0.length l0) (hc0 : l0.length ≤ c0) (h : nums_Put.f l0 a1 = some r) :
    Calls Try.prog 81 #[.slice A0 l0.length c0, .int .u64 a1] w fun e w' => ∃ v0_ : Value, e = .returned (v0_) ∧ Kd.R (Kd.int .u8) 5 w' w.heap.size (fun _ => True) v0_ r ∧ Below w.heap.size w w' := by
  unfold nums_Put.f at h
  by_cases hc : 0 ≤ a1 ∧ a1 < 18446744073709551616 ∧ l0.length + 10 < 140737488355328
  · rw [if_pos hc] at h
    obtain rfl := Option.some.inj h
    clear h
    obtain ⟨h1, h2, h3⟩ := hc
    obtain ⟨x, rfl⟩ := Int.eq_ofNat_of_zero_le h1
    rw [Int.toNat_natCast]
    have hx : x < 18446744073709551616 := by omega
    clear h1 h2
    have HL := Aside0.mk h3
    have HX := Aside0.mk hx
    clear h3 hx
    have hcl := fun W (hb : Below w.heap.size w W) => slices_Clone_byte_byte.calls A0 c0 l0 l0 W (Kd.C_below hr0 hb) hc0 (by unfold slices_Clone_byte_byte.f; rw [if_pos (by have := HL.out; omega)])
    have HCL := Aside0.mk hcl
    clear hcl hr0 hc0
    refine (callsIn_wide (n := 3)).1 ?_
    refine callsIn_of_wp_marks Try.func81 rfl trivial ?_ rfl
    simp only [Try.ntmps81, List.size_toArray, List.length_cons, List.length_nil, Nat.reduceAdd, Nat.reduceSub, Array.replicate_succ, Array.replicate_zero, List.push_toArray, List.append_toArray, List.nil_append, List.cons_append]
    gi_wp2_with (first | (refine ⟨trivial, ?_⟩; gi_at_call 82; refine (callsIn_wide.2 (HCL.out _ (Below.refl _ _))).mono ?_; rintro e w1 ⟨v, rfl, hv, hb⟩; have HV := Aside0.mk hv; have HB := Aside0.mk hb; obtain ⟨A1, c1, hv1, hl1, _⟩ := Kd.R_reads hv; subst hv1; clear hv hb hl1) | (refine ⟨trivial, ?_⟩; gi_at_call 108; refine (callsIn_wide.2 (form_new _ _)).mono ?_; rintro e w2 ⟨rfl, rfl⟩))
    have hsz1 := HB.out.size
    have hbo : ((w1.alloc (.cells #[.slice A1 l0.length c1] 26)).alloc (.cells #[.int .u64 x] 32)).heap[w1.heap.size]? = some (.cells #[.slice A1 l0.length c1] 26) :=
      (Below.heap_alloc _ _ _ (by simp)).trans (box_new w1 _ _)
    have hbx : ((w1.alloc (.cells #[.slice A1 l0.length c1] 26)).alloc (.cells #[.int .u64 x] 32)).heap[w1.heap.size + 1]? = some (.cells #[.int .u64 x] 32) := by
      have := box_new (w1.alloc (.cells #[.slice A1 l0.length c1] 26)) (.int .u64 x) 32
      rwa [World.size_alloc] at this
    have hB0 : Below w.heap.size w ((w1.alloc (.cells #[.slice A1 l0.length c1] 26)).alloc (.cells #[.int .u64 x] 32)) := (HB.out.alloc hsz1 _).alloc (by simp; omega) _
    have hR0 : Kd.R (Kd.int .u8) 5 ((w1.alloc (.cells #[.slice A1 l0.length c1] 26)).alloc (.cells #[.int .u64 x] 32)) w.heap.size (fun k => ¬ k = w1.heap.size + 1 ∧ k ≠ w1.heap.size) (.slice A1 l0.length c1) (l0 ++ []) := by
      rw [List.append_nil]
      exact Kd.R_mono (Kd.R_alloc (Kd.R_alloc (Kd.R_bound HV.out) _) _) (fun k hk => ⟨by have := hk.2.2.1; omega, by have := hk.2.2.1; omega⟩)
    refine range_law (gf := 126) (lb := #[.pointer (some ⟨w1.heap.size + 1, 0, none⟩)]) rfl (enters_of Try.func126 (by kernel_rfl) rfl)
      (form_iter (w1.heap.size + 1) w.heap.size x _ HX.out (by omega) hbx) (fun k hk => by subst hk; simp) (by simp; omega) (fun _ => rfl)
      (putI w w1.heap.size l0) (fun _ _ _ _ => False) (putI_fits w w1.heap.size l0) (fun _ => Fits.false)
      ⟨_, ⟨by omega, hbo⟩, hR0, fun k hk => by omega, hB0⟩ ?round ?done ?stop
    case round =>
      intro l C pre c W hlt hle hi hlen
      have HLen : Aside0 ((l0 ++ pre).length + 1 ≤ 140737488355328) := ⟨by have := HL.out; have := vint_len10 HX.out; rw [List.length_append]; omega⟩
      clear hbo hbx hB0 hR0 hlen HCL HV
      gi_wp2
      refine ⟨Hold.refl _ _, Below.refl _ _, fun W'' hst hlt2 hb2 hsz2 => ?_⟩
      obtain ⟨v, ⟨hnb, hbb⟩, hr, hcn, hB⟩ := (putI_fits w w1.heap.size l0).stay hi hst
      have hc1 := box_cell hbb
      have Hbb := Aside0.mk hbb
      have HR := Aside0.mk hr
      have HBW := Aside0.mk hB
      have Hcn := Aside0.mk hcn
      have Hlt2 := Aside0.mk hlt2
      have hbs : w.heap.size ≤ W''.heap.size := hB.size
      clear hbb hr hB hcn hi hst hlt2 hb2 hlt hsz2 hle
      gi_wp2_with (gi_at_builtin; refine appendIn (Kd.int .u8) w.heap.size rfl (.tmp 12) (.tmp 14) 26 5 (.int .u8 0) 1 rfl Try.underlying26 info5 rfl (by decide) (by decide) v (l0 ++ pre) c [.int .u8 c] _ (fun _ => False) rfl rfl ?aP (fun _ h => h.elim) ?aF HR.out hbs ?aL ?_; (case aP => exact rfl); (case aF => exact fun k hk => ⟨fun h => by have := Hlt2.out k h; omega, by have := blk_lt Hbb.out; omega⟩); (case aL => have := HLen.out; omega); intro v4 w4 hr4 hg4 hf4; obtain ⟨g, cap, hv4⟩ := hf4; subst hv4; have hb4 : w4.heap[w1.heap.size]? = some (.cells #[v] 26) := (hg4.block _ (blk_lt Hbb.out) (fun e => (HR.out.1 _ e.symm).2 rfl)).trans Hbb.out; have hc4 := box_cell hb4; have hf4 := box_frozen hb4; have HR4 := Aside0.mk hr4; have HG4 := Aside0.mk hg4; have Hb4 := Aside0.mk hb4; clear hr4 hg4 hb4)
      refine ⟨(Hold.of_grownBy HG4.out Hlt2.out (fun k hk => (HR.out.1 k hk).1)).trans (Hold.setCell hnb _), ((Below.refl _ _).grown HG4.out hbs (fun k hk => Kd.R_base HR.out k hk)).setCell (p := ⟨w1.heap.size, 0, none⟩) hsz1 _, _, ⟨hnb, box_set Hb4.out _⟩, ?_, Hcn.out, (HBW.out.grown HG4.out hbs (fun k hk => Kd.R_base HR.out k hk)).setCell (p := ⟨w1.heap.size, 0, none⟩) hsz1 _⟩
      have := R_setCell (p := ⟨w1.heap.size, 0, none⟩) HR4.out (fun h => h.2 rfl) (.slice (some ⟨g, 0, none⟩) ((l0 ++ pre).length + 1) cap)
      simpa using this
    case done =>
      rintro D C xs W hCD hD rfl ⟨v, ⟨hnb, hbb⟩, hr, hcn, hB⟩ hK
      have hc1 := box_cell hbb
      have Hr := Aside0.mk hr
      have HBW := Aside0.mk hB
      have HK := Aside0.mk hK
      clear hr hB hK hbo hbx hB0 hR0 hbb hcn
      gi_wp2
      refine ⟨by simp, .inl ⟨_, _, rfl, run_takeDeferred HK.out, ?_⟩⟩
      exact ⟨_, results_tmp rfl _ _ _, v, rfl, R_putObj Hr.out (fun h => h.1 hCD) _, HBW.out.trans (below_putObj (by simp at hD; omega) _)⟩
    case stop =>
      intro D C c pre W _ _ _ h _
      exact h.elim
  · rw [if_neg hc] at h
    cases h
end Go.Proofs.YtjcjfghcahbbmaaG

end

section
set_option linter.unusedVariables false
set_option linter.unusedSimpArgs false
namespace Go.Proofs.YtjcjfghcahbbmaaG
open Go Go.RowKit Go.Proofs.YtjcjfghcahbbmaaR Go.Proofs.YtjcjfghcahbbmaaW.PrintWords
attribute [local go_sem] Oper.semAt_some

/-- One bit. -/
def crcStep (x : Nat) : Nat := if x % 2 = 1 then (x / 2) ^^^ 3945912366 else x / 2
def crcSteps : Nat → Nat → Nat
  | 0, x => x
  | n + 1, x => crcStep (crcSteps n x)
/-- What a byte adds. -/
def crcTab (i : Nat) : Nat := crcSteps 8 i
def crcUpd (r : Nat) (c : Int) : Nat := (r / 256) ^^^ crcTab ((r % 256) ^^^ c.toNat)
def crcOf (l : List Int) : Nat := l.foldl crcUpd 4294967295
def frame_Sum.f (l0 : List Int) : Option Int := if (∀ c ∈ l0, 0 ≤ c ∧ c < 256) then some (crcOf l0 : Int) else none

end Go.Proofs.YtjcjfghcahbbmaaG

end

section
namespace Go.Proofs.Ytjcjfghcahbbmaa.P
open Go.RowKit Go.Proofs.YtjcjfghcahbbmaaG Go.Proofs.YtjcjfghcahbbmaaW.PrintWords Go.Proofs.YtjcjfghcahbbmaaW.PrintLast Go.Proofs.YtjcjfghcahbbmaaW.PrintMore
attribute [local go_sem] str_gtr str_geq str_leq max2_int min2_int max_two min_two max_three min_three max_four min_four   -- for this text's walks alone
set_option linter.unusedVariables false
set_option linter.unusedSimpArgs false



def errW : Option Int → Value
 | none=>.nilIface
 | some c=>.iface 0 (.int .i64 c)
theorem errW_none : errW none = .nilIface:=rfl
theorem errW_some (c : Int) : errW (some c) = .iface 0 (.int .i64 c):=rfl

theorem info5 : (Try.prog.info? 5).map (fun i=>(i.zero,i.size,i.bytes)) = some (some (.int .u8 0),1,1):=by kernel_rfl
theorem info59 : (Try.prog.info? 59).map (fun i=>(i.zero,i.size,i.bytes)) = some (some (.agg #[(.string ⟨#[]⟩),(.int .u64 0),(.int .u8 0),(.string ⟨#[]⟩)]),4,48):=by kernel_rfl
-- the values' own types
structure S50 where
 f0 : ByteArray
 f1 : Int
 f2 : Int
def z50 : S50:=⟨(⟨#[]⟩ : ByteArray),(0 : Int),(0 : Int)⟩
def k50 : Kd S50:=Kd.iso (Kd.pair Kd.string (Kd.pair (Kd.int .u64) (Kd.int .u8))) (fun x : S50=>(x.f0,x.f1,x.f2))
theorem k50_heap : Kd.Heap k50:=Kd.heap_iso _ (Kd.heap_pair Kd.heap_string (Kd.heap_pair (Kd.heap_int .u64) (Kd.heap_int .u8)))
theorem k50_open {w : World} {x : S50} {cs : List Value} (h : k50.K w x cs) : cs = [.string x.f0,.int .u64 x.f1,.int .u8 x.f2]:=by
 obtain ⟨_,_,rfl,rfl,⟨_,_,rfl,rfl,rfl⟩⟩:=h
 exact rfl
theorem k50_openM {w : World} {base : Nat} {ok : Nat → Prop} {x : S50} {cs : List Value} (h : k50.M w base ok x cs) : cs = [.string x.f0,.int .u64 x.f1,.int .u8 x.f2]:=by
 obtain ⟨_,_,rfl,rfl,⟨_,_,rfl,rfl,rfl⟩⟩:=h
 exact rfl
theorem k50_mkM (w : World) (base : Nat) (ok : Nat → Prop) (x : S50)  : k50.M w base ok x [.string x.f0,.int .u64 x.f1,.int .u8 x.f2]:=⟨[.string x.f0],[.int .u64 x.f1,.int .u8 x.f2],rfl,rfl,⟨[.int .u64 x.f1],[.int .u8 x.f2],rfl,rfl,rfl⟩⟩
structure S59 where
 f0 : S50
 f1 : ByteArray
def z59 : S59:=⟨z50,(⟨#[]⟩ : ByteArray)⟩
def k59 : Kd S59:=Kd.iso (Kd.pair k50 Kd.string) (fun x : S59=>(x.f0,x.f1))
theorem k59_heap : Kd.Heap k59:=Kd.heap_iso _ (Kd.heap_pair k50_heap Kd.heap_string)
theorem k59_open {w : World} {x : S59} {cs : List Value} (h : k59.K w x cs) : cs = [.string x.f0.f0,.int .u64 x.f0.f1,.int .u8 x.f0.f2,.string x.f1]:=by
 obtain ⟨_,_,rfl,s0,rfl⟩:=h
 obtain rfl:=k50_open s0
 exact rfl
theorem k59_openM {w : World} {base : Nat} {ok : Nat → Prop} {x : S59} {cs : List Value} (h : k59.M w base ok x cs) : cs = [.string x.f0.f0,.int .u64 x.f0.f1,.int .u8 x.f0.f2,.string x.f1]:=by
 obtain ⟨_,_,rfl,s0,rfl⟩:=h
 obtain rfl:=k50_openM s0
 exact rfl
theorem k59_mkM (w : World) (base : Nat) (ok : Nat → Prop) (x : S59)  : k59.M w base ok x [.string x.f0.f0,.int .u64 x.f0.f1,.int .u8 x.f0.f2,.string x.f1]:=⟨[.string x.f0.f0,.int .u64 x.f0.f1,.int .u8 x.f0.f2],[.string x.f1],rfl,(k50_mkM w base ok x.f0 ),rfl⟩
def rd_T59 (xs : List S59) (i : Int) : S59:=xs.getD i.toNat z59
theorem at_T59 {w : World} {A : Option Addr} {n : Nat} {xs : List S59} (h : Kd.C k59 w A n xs) (i : Int) (h0 : 0 ≤ i) (h1 : i < n) : ∃ ad ,A = some ad ∧ w.cell? (ad.add (i.toNat * 4)) = some (.string (rd_T59 xs i).f0.f0) ∧ w.cell? ⟨(ad.add (i.toNat * 4)).block,(ad.add (i.toNat * 4)).off + 1,none⟩ = some (.int .u64 (rd_T59 xs i).f0.f1) ∧ w.cell? ⟨(ad.add (i.toNat * 4)).block,(ad.add (i.toNat * 4)).off + 2,none⟩ = some (.int .u8 (rd_T59 xs i).f0.f2) ∧ w.cell? ⟨(ad.add (i.toNat * 4)).block,(ad.add (i.toNat * 4)).off + 3,none⟩ = some (.string (rd_T59 xs i).f1):=by
 obtain ⟨ad,c,e,_,hK,hc0⟩:=Kd.C_get h z59 i h0 h1
 have hc : ∀ j u,c[j]? = some u → w.cell? (ad.add (i.toNat * 4 + j)) = some u:=hc0
 obtain rfl:=k59_open hK
 exact ⟨ad,e,hc 0 _ rfl,by rw [← add_field _ _ 1 (by omega)];exact hc 1 _ rfl,by rw [← add_field _ _ 2 (by omega)];exact hc 2 _ rfl,by rw [← add_field _ _ 3 (by omega)];exact hc 3 _ rfl⟩

def rd_L5 (xs : List (List Int)) (i : Int) : (List Int):=xs.getD i.toNat ([] : List Int)
theorem at_L5 {w : World} {A : Option Addr} {n : Nat} {xs : List (List Int)} (h : Kd.C (Kd.slice 5 (Kd.int .u8)) w A n xs) (i : Int) (h0 : 0 ≤ i) (h1 : i < n) : ∃ ad A0 c0,A = some ad ∧ w.cell? (ad.add i.toNat) = some (.slice A0 (rd_L5 xs i).length c0) ∧ (rd_L5 xs i).length ≤ c0 ∧ (Kd.int .u8).C w A0 (rd_L5 xs i).length (rd_L5 xs i):=by
 obtain ⟨ad,c,e,_,hK,hc0⟩:=Kd.C_get h ([] : List Int) i h0 h1
 have hc : ∀ j u,c[j]? = some u → w.cell? (ad.add (i.toNat * 1 + j)) = some u:=hc0
 obtain ⟨A0,c0,rfl,l0,g0⟩:=hK
 exact ⟨ad,A0,c0,e,by have hq:=hc 0 _ rfl;rwa [Nat.mul_one,Nat.add_zero] at hq,l0,g0⟩

end Go.Proofs.Ytjcjfghcahbbmaa.P

end

section
namespace Go.Proofs.Ytjcjfghcahbbmaa.P
open Go.RowKit Go.Proofs.YtjcjfghcahbbmaaG Go.Proofs.YtjcjfghcahbbmaaW.PrintWords Go.Proofs.YtjcjfghcahbbmaaW.PrintLast Go.Proofs.YtjcjfghcahbbmaaW.PrintMore
attribute [local go_sem] str_gtr str_geq str_leq max2_int min2_int max_two min_two max_three min_three max_four min_four   -- for this text's walks alone
set_option linter.unusedVariables false
set_option linter.unusedSimpArgs false

def ratlinelaw03_Few.l0 : Nat → List (S59) → Int → List (S59) → Int → Int → Option (Bool)
 | 0,_,_,_,_,_=>none
 | k + 1,x0,x1,x7,x8,x9=>if x9 < x8 then (if 0 ≤ x9 then (if x9 < (x7.length : Int) then (if (((rd_T59 x7 x9).f0.f0).size : Int) > 70 then (some false) else (if (((rd_T59 x7 x9).f1).size : Int) > 300 then (some false) else (ratlinelaw03_Few.l0 k x0 x1 x7 x8 (wrap64 (x9 + 1))))) else (none)) else (none)) else (some (decide ((x0.length : Int) ≤ x1)))
def ratlinelaw03_Few.f (k : Nat) (l0 : List (S59)) (a1 : Int) : Option (Bool):=ratlinelaw03_Few.l0 k l0 a1 l0 (l0.length : Int) 0
set_option maxHeartbeats 8000000 in
set_option maxRecDepth 100000 in
theorem ratlinelaw03_Few.calls (k : Nat) (A0 : Option Addr) (c0 : Nat) (l0 : List (S59)) (a1 : Int) (r : Bool) (w : World) (hr0 : Kd.C k59 w A0 l0.length l0) (hc0 : l0.length ≤ c0) (h : ratlinelaw03_Few.f k l0 a1 = some r) :
  Calls Try.prog 20 #[.slice A0 l0.length c0,.int .i64 a1] w fun e w'=>e = .returned (.bool r) ∧ Below w.heap.size w w':=by
 have hu59:=Try.underlying59
 have HR0:=Aside0.mk hr0
 have HC0:=Aside0.mk hc0
 clear hr0 hc0
 have HB:=Aside0.mk (Below.refl w.heap.size w)
 have H : (ratlinelaw03_Few.l0 k l0 a1 l0 (l0.length : Int) 0) = some r:=h
 clear h
 have H':=Aside0.mk H
 clear H
 go_enter Try.func20,Try.ntmps20
 go_wp2
 go_loopg [9] k (fun kq v9 w'=>∃ (x9_1 : Int),v9 = .int .i64 x9_1 ∧ Aside0 (ratlinelaw03_Few.l0 kq l0 a1 l0 (l0.length : Int) x9_1 = some r) ∧ Aside0 (kq ≤ k) ∧ Aside0 (Below w.heap.size w w'))
 case atStart=>exact ⟨(0),(by first|rfl|(simp;done)|(simp [*];done)),H',⟨Nat.le_refl _⟩,⟨by repeat (first|(with_reducible first|exact HB.out|apply below_alloc|apply pw_below_drewN|apply below_drew1)|exact HB.out)⟩⟩
 case round =>
  clear H'
  try clear c2
  try clear p2
  obtain ⟨x9_1,rfl,HA,HK1,HB⟩:=hrel
  cases gk with
  | zero=>exact absurd HA.out (by simp [ratlinelaw03_Few.l0])
  | succ k1 =>
   have H:=HA.out
   clear HA
   simp only [ratlinelaw03_Few.l0] at H
   by_cases c3 : x9_1 < (l0.length : Int)
   ·rw [if_pos c3] at H
    have c3b0 : decide (x9_1 < (l0.length : Int)) = true:=decide_eq_true c3
    clear c3
    by_cases c4 : 0 ≤ x9_1
    ·rw [if_pos c4] at H
     have c4b0 : decide (0 ≤ x9_1) = true:=decide_eq_true c4
     clear c4
     by_cases c5 : x9_1 < (l0.length : Int)
     ·rw [if_pos c5] at H
      have c5b0 : decide (x9_1 < (l0.length : Int)) = true:=decide_eq_true c5
      clear c5
      by_cases c6 : (((rd_T59 l0 x9_1).f0.f0).size : Int) > 70
      ·rw [if_pos c6] at H
       have c6b0 : decide (70 < (((rd_T59 l0 x9_1).f0.f0).size : Int)) = true:=decide_eq_true c6
       have c6b1 : decide (70 < ((rd_T59 l0 x9_1).f0.f0).size) = true:=decide_eq_true (by omega)
       clear c6
       obtain rfl:=Option.some.inj H
       have p101 : 0 ≤ (x9_1 : Int):=of_decide_eq_true (by first|(with_reducible assumption)|assumption)
       have q101 : x9_1 < (l0.length : Int):=of_decide_eq_true (by first|(with_reducible assumption)|assumption)
       obtain ⟨ad101,e101,hx101_0,hx101_1,hx101_2,hx101_3⟩:=at_T59 HR0.out x9_1 p101 q101
       cases e101
       replace hx101_0:=(HB.out.cell (World.block_lt_of_cell? w _ hx101_0)).trans hx101_0
       replace hx101_1:=(HB.out.cell (World.block_lt_of_cell? w _ hx101_1)).trans hx101_1
       replace hx101_2:=(HB.out.cell (World.block_lt_of_cell? w _ hx101_2)).trans hx101_2
       replace hx101_3:=(HB.out.cell (World.block_lt_of_cell? w _ hx101_3)).trans hx101_3
       replace p101:=eq_true p101
       replace q101:=eq_true q101
       go_wp2_with (first|((with_reducible refine gate_dst (N:=6) rfl ?_);(try (refine gate_guard (by rfl) ?_;dsimp only));refine box_event ?hg (N:=6) ?hd (cs:=#[.string (⟨#[]⟩ : ByteArray),.int .u64 0,.int .u8 0,.string (⟨#[]⟩ : ByteArray)]) (t:=59) ?hr ?_;(case hd=>rfl);(case hg=>rfl);(case hr=>first|(go_simp;done)|(go_simp;rfl));intro gb102 hg w7 hbox hb;have n0_:=Aside0.mk (below_step (by repeat (first|(with_reducible first|exact HB.out|apply below_alloc|apply pw_below_drewN|apply below_drew1)|exact HB.out)) hb);have n1_:=Aside0.mk (hbox);have n2_:=Aside0.mk ((by rw [hg];exact (below_size (by repeat (first|(with_reducible first|exact HB.out|apply below_alloc|apply pw_below_drewN|apply below_drew1)|exact HB.out))) : w.heap.size ≤ gb102));have n3_:=Aside0.mk ((by rw [hg];exact (below_size (by repeat (first|(with_reducible first|exact HB.out|apply below_alloc|apply pw_below_drewN|apply below_drew1)|exact HB.out))) : w.heap.size ≤ gb102));clear HB;have HB:=n0_;have BK102:=n1_;have GW102:=n2_;have GE102:=n3_;clear n0_ n1_ n2_ n3_;clear hb hbox hg;have hcz8_0 : w7.cell? ⟨gb102,0,none⟩ = some (.string (⟨#[]⟩ : ByteArray)):=(blk_cell BK102.out 0).trans rfl;have hcz8_1 : w7.cell? ⟨gb102,1,none⟩ = some (.int .u64 0):=(blk_cell BK102.out 1).trans rfl;have hcz8_2 : w7.cell? ⟨gb102,2,none⟩ = some (.int .u8 0):=(blk_cell BK102.out 2).trans rfl;have hcz8_3 : w7.cell? ⟨gb102,3,none⟩ = some (.string (⟨#[]⟩ : ByteArray)):=(blk_cell BK102.out 3).trans rfl;have hfz8_0:=blk_frozen BK102.out 0;have hfz8_1:=blk_frozen BK102.out 1;have hfz8_2:=blk_frozen BK102.out 2;have hfz8_3:=blk_frozen BK102.out 3))
       go_ret
       exact ⟨by first|rfl|(simp [errW_none,errW_some] <;> rfl)|(simp [*,errW_none,errW_some] <;> rfl),by repeat (first|(with_reducible first|exact HB.out|apply below_alloc|apply pw_below_drewN|apply below_drew1|refine below_set ?_ GE102.out)|exact HB.out)⟩
      ·rw [if_neg c6] at H
       have c6b0 : decide (70 < (((rd_T59 l0 x9_1).f0.f0).size : Int)) = false:=decide_eq_false c6
       have c6b1 : decide (70 < ((rd_T59 l0 x9_1).f0.f0).size) = false:=decide_eq_false (by omega)
       clear c6
       by_cases c9 : (((rd_T59 l0 x9_1).f1).size : Int) > 300
       ·rw [if_pos c9] at H
        have c9b0 : decide (300 < (((rd_T59 l0 x9_1).f1).size : Int)) = true:=decide_eq_true c9
        have c9b1 : decide (300 < ((rd_T59 l0 x9_1).f1).size) = true:=decide_eq_true (by omega)
        clear c9
        obtain rfl:=Option.some.inj H
        have p101 : 0 ≤ (x9_1 : Int):=of_decide_eq_true (by first|(with_reducible assumption)|assumption)
        have q101 : x9_1 < (l0.length : Int):=of_decide_eq_true (by first|(with_reducible assumption)|assumption)
        obtain ⟨ad101,e101,hx101_0,hx101_1,hx101_2,hx101_3⟩:=at_T59 HR0.out x9_1 p101 q101
        cases e101
        replace hx101_0:=(HB.out.cell (World.block_lt_of_cell? w _ hx101_0)).trans hx101_0
        replace hx101_1:=(HB.out.cell (World.block_lt_of_cell? w _ hx101_1)).trans hx101_1
        replace hx101_2:=(HB.out.cell (World.block_lt_of_cell? w _ hx101_2)).trans hx101_2
        replace hx101_3:=(HB.out.cell (World.block_lt_of_cell? w _ hx101_3)).trans hx101_3
        replace p101:=eq_true p101
        replace q101:=eq_true q101
        go_wp2_with (first|((with_reducible refine gate_dst (N:=6) rfl ?_);(try (refine gate_guard (by rfl) ?_;dsimp only));refine box_event ?hg (N:=6) ?hd (cs:=#[.string (⟨#[]⟩ : ByteArray),.int .u64 0,.int .u8 0,.string (⟨#[]⟩ : ByteArray)]) (t:=59) ?hr ?_;(case hd=>rfl);(case hg=>rfl);(case hr=>first|(go_simp;done)|(go_simp;rfl));intro gb102 hg w10 hbox hb;have n0_:=Aside0.mk (below_step (by repeat (first|(with_reducible first|exact HB.out|apply below_alloc|apply pw_below_drewN|apply below_drew1)|exact HB.out)) hb);have n1_:=Aside0.mk (hbox);have n2_:=Aside0.mk ((by rw [hg];exact (below_size (by repeat (first|(with_reducible first|exact HB.out|apply below_alloc|apply pw_below_drewN|apply below_drew1)|exact HB.out))) : w.heap.size ≤ gb102));have n3_:=Aside0.mk ((by rw [hg];exact (below_size (by repeat (first|(with_reducible first|exact HB.out|apply below_alloc|apply pw_below_drewN|apply below_drew1)|exact HB.out))) : w.heap.size ≤ gb102));clear HB;have HB:=n0_;have BK102:=n1_;have GW102:=n2_;have GE102:=n3_;clear n0_ n1_ n2_ n3_;clear hb hbox hg;have hcz11_0 : w10.cell? ⟨gb102,0,none⟩ = some (.string (⟨#[]⟩ : ByteArray)):=(blk_cell BK102.out 0).trans rfl;have hcz11_1 : w10.cell? ⟨gb102,1,none⟩ = some (.int .u64 0):=(blk_cell BK102.out 1).trans rfl;have hcz11_2 : w10.cell? ⟨gb102,2,none⟩ = some (.int .u8 0):=(blk_cell BK102.out 2).trans rfl;have hcz11_3 : w10.cell? ⟨gb102,3,none⟩ = some (.string (⟨#[]⟩ : ByteArray)):=(blk_cell BK102.out 3).trans rfl;have hfz11_0:=blk_frozen BK102.out 0;have hfz11_1:=blk_frozen BK102.out 1;have hfz11_2:=blk_frozen BK102.out 2;have hfz11_3:=blk_frozen BK102.out 3))
        go_ret
        exact ⟨by first|rfl|(simp [errW_none,errW_some] <;> rfl)|(simp [*,errW_none,errW_some] <;> rfl),by repeat (first|(with_reducible first|exact HB.out|apply below_alloc|apply pw_below_drewN|apply below_drew1|refine below_set ?_ GE102.out)|exact HB.out)⟩
       ·rw [if_neg c9] at H
        have c9b0 : decide (300 < (((rd_T59 l0 x9_1).f1).size : Int)) = false:=decide_eq_false c9
        have c9b1 : decide (300 < ((rd_T59 l0 x9_1).f1).size) = false:=decide_eq_false (by omega)
        clear c9
        have H':=Aside0.mk H
        clear H
        have p101 : 0 ≤ (x9_1 : Int):=of_decide_eq_true (by first|(with_reducible assumption)|assumption)
        have q101 : x9_1 < (l0.length : Int):=of_decide_eq_true (by first|(with_reducible assumption)|assumption)
        obtain ⟨ad101,e101,hx101_0,hx101_1,hx101_2,hx101_3⟩:=at_T59 HR0.out x9_1 p101 q101
        cases e101
        replace hx101_0:=(HB.out.cell (World.block_lt_of_cell? w _ hx101_0)).trans hx101_0
        replace hx101_1:=(HB.out.cell (World.block_lt_of_cell? w _ hx101_1)).trans hx101_1
        replace hx101_2:=(HB.out.cell (World.block_lt_of_cell? w _ hx101_2)).trans hx101_2
        replace hx101_3:=(HB.out.cell (World.block_lt_of_cell? w _ hx101_3)).trans hx101_3
        replace p101:=eq_true p101
        replace q101:=eq_true q101
        go_wp2_with (first|((with_reducible refine gate_dst (N:=6) rfl ?_);(try (refine gate_guard (by rfl) ?_;dsimp only));refine box_event ?hg (N:=6) ?hd (cs:=#[.string (⟨#[]⟩ : ByteArray),.int .u64 0,.int .u8 0,.string (⟨#[]⟩ : ByteArray)]) (t:=59) ?hr ?_;(case hd=>rfl);(case hg=>rfl);(case hr=>first|(go_simp;done)|(go_simp;rfl));intro gb102 hg w12 hbox hb;have n0_:=Aside0.mk (below_step (by repeat (first|(with_reducible first|exact HB.out|apply below_alloc|apply pw_below_drewN|apply below_drew1)|exact HB.out)) hb);have n1_:=Aside0.mk (hbox);have n2_:=Aside0.mk ((by rw [hg];exact (below_size (by repeat (first|(with_reducible first|exact HB.out|apply below_alloc|apply pw_below_drewN|apply below_drew1)|exact HB.out))) : w.heap.size ≤ gb102));have n3_:=Aside0.mk ((by rw [hg];exact (below_size (by repeat (first|(with_reducible first|exact HB.out|apply below_alloc|apply pw_below_drewN|apply below_drew1)|exact HB.out))) : w.heap.size ≤ gb102));clear HB;have HB:=n0_;have BK102:=n1_;have GW102:=n2_;have GE102:=n3_;clear n0_ n1_ n2_ n3_;clear hb hbox hg;have hcz13_0 : w12.cell? ⟨gb102,0,none⟩ = some (.string (⟨#[]⟩ : ByteArray)):=(blk_cell BK102.out 0).trans rfl;have hcz13_1 : w12.cell? ⟨gb102,1,none⟩ = some (.int .u64 0):=(blk_cell BK102.out 1).trans rfl;have hcz13_2 : w12.cell? ⟨gb102,2,none⟩ = some (.int .u8 0):=(blk_cell BK102.out 2).trans rfl;have hcz13_3 : w12.cell? ⟨gb102,3,none⟩ = some (.string (⟨#[]⟩ : ByteArray)):=(blk_cell BK102.out 3).trans rfl;have hfz13_0:=blk_frozen BK102.out 0;have hfz13_1:=blk_frozen BK102.out 1;have hfz13_2:=blk_frozen BK102.out 2;have hfz13_3:=blk_frozen BK102.out 3))
        go_roundg k1
        case measure=>have:=HK1.out;omega
        case rel=>exact ⟨(wrap64 (x9_1 + 1)),(by first|rfl|(simp;done)|(simp [*];done)),H',⟨by have:=HK1.out;omega⟩,⟨by repeat (first|(with_reducible first|exact HB.out|apply below_alloc|apply pw_below_drewN|apply below_drew1|refine below_set ?_ GE102.out)|exact HB.out)⟩⟩
     ·rw [if_neg c5] at H
      exact absurd H (by simp)
    ·rw [if_neg c4] at H
     exact absurd H (by simp)
   ·rw [if_neg c3] at H
    have c3b0 : decide (x9_1 < (l0.length : Int)) = false:=decide_eq_false c3
    clear c3
    obtain rfl:=Option.some.inj H
    go_wp2
    go_ret
    exact ⟨by first|rfl|(simp [errW_none,errW_some] <;> rfl)|(simp [*,errW_none,errW_some] <;> rfl),by repeat (first|(with_reducible first|exact HB.out|apply below_alloc|apply pw_below_drewN|apply below_drew1)|exact HB.out)⟩

end Go.Proofs.Ytjcjfghcahbbmaa.P

end

section
namespace Go.Proofs.Ytjcjfghcahbbmaa.P
open Go.RowKit Go.Proofs.YtjcjfghcahbbmaaG Go.Proofs.YtjcjfghcahbbmaaW.PrintWords Go.Proofs.YtjcjfghcahbbmaaW.PrintLast Go.Proofs.YtjcjfghcahbbmaaW.PrintMore
attribute [local go_sem] str_gtr str_geq str_leq max2_int min2_int max_two min_two max_three min_three max_four min_four   -- for this text's walks alone
set_option linter.unusedVariables false
set_option linter.unusedSimpArgs false

def nums_TakeFour.f (l0 : List Int) : Option (Int × List Int × Bool):=if (l0.length : Int) < 4 then (some (0,([] : List Int),false)) else (if 0 < (l0.length : Int) then (if 1 < (l0.length : Int) then (if 2 < (l0.length : Int) then (if 3 < (l0.length : Int) then (if 4 ≤ (l0.length : Int) then ((slices_Clone_byte_byte.f (l0.drop 4)).bind fun t157=>(some (Go.bits .or .u32 (Go.bits .or .u32 (Go.bits .or .u32 ((rd l0 0) % 4294967296) ((((rd l0 1) % 4294967296) * 256) % 4294967296)) ((((rd l0 2) % 4294967296) * 65536) % 4294967296)) ((((rd l0 3) % 4294967296) * 16777216) % 4294967296),t157,true))) else (none)) else (none)) else (none)) else (none)) else (none))
def nums_TakeFour.T3 : Bool × List (List Nat × List Nat):=(true,[([],[]),([0],[0]),([1],[1]),([2],[2]),([],[]),([4],[4]),([5],[5]),([6],[6]),([7],[7]),([3,8],[3,8]),([],[]),([10],[10]),([11],[11]),([12],[12]),([13],[13]),([9,14],[9,14]),([],[]),([16],[16]),([17],[17]),([18],[18]),([19],[19]),([15,20],[15,20]),([],[]),([22],[22]),([23],[23]),([21,24,0,1,2,3,4,5,6,7,8,9,10,11,12,13,14,15,16,17,18,19,20,21],[21]),([24,25,0,1,2,3,4,5,6,7,8,9,10,11,12,13,14,15,16,17,18,19,20,21,22,23,24,25],[24]),([26,0,1,2,3,4,5,6,7,8,9,10,11,12,13,14,15,16,17,18,19,20,21,22,23,24,25,26],[])])
def nums_TakeFour.B3 : List Nat:=[0,1,3,7,0,16,48,112,240,511,0,1024,3072,7168,15360,32767,0,65536,196608,458752,983040,2097151,0,4194304,12582912,33554431,67108863,134217727]
theorem nums_TakeFour.tab3 : rtab .any (opsOf Try.f57 3) = nums_TakeFour.T3:=by kernel_rfl
theorem nums_TakeFour.bits3 : waitsOk nums_TakeFour.T3.2 nums_TakeFour.B3 = true:=by kernel_rfl
set_option maxHeartbeats 8000000 in
set_option maxRecDepth 100000 in
theorem nums_TakeFour.calls (A0 : Option Addr) (c0 : Nat) (l0 : List Int) (r1 : Int) (r2 : List Int) (r3 : Bool) (w : World) (hr0 : Kd.C (Kd.int .u8) w A0 l0.length l0) (hc0 : l0.length ≤ c0) (h : nums_TakeFour.f l0 = some (r1,r2,r3)) :
  Calls Try.prog 57 #[.slice A0 l0.length c0] w fun e w'=>∃ v1_ : Value,e = .returned (.tuple #[.int .u32 r1,v1_,.bool r3]) ∧ Kd.R (Kd.int .u8) 5 w' w.heap.size (fun _=>True) v1_ r2 ∧ Below w.heap.size w w':=by
 have HR0:=Aside0.mk hr0
 have HC0:=Aside0.mk hc0
 clear hr0 hc0
 have HB:=Aside0.mk (Below.refl w.heap.size w)
 have H : (if (l0.length : Int) < 4 then (some (0,([] : List Int),false)) else (if 0 < (l0.length : Int) then (if 1 < (l0.length : Int) then (if 2 < (l0.length : Int) then (if 3 < (l0.length : Int) then (if 4 ≤ (l0.length : Int) then ((slices_Clone_byte_byte.f (l0.drop 4)).bind fun t157=>(some (Go.bits .or .u32 (Go.bits .or .u32 (Go.bits .or .u32 ((rd l0 0) % 4294967296) ((((rd l0 1) % 4294967296) * 256) % 4294967296)) ((((rd l0 2) % 4294967296) * 65536) % 4294967296)) ((((rd l0 3) % 4294967296) * 16777216) % 4294967296),t157,true))) else (none)) else (none)) else (none)) else (none)) else (none))) = some (r1,r2,r3):=h
 clear h
 by_cases c2 : (l0.length : Int) < 4
 ·rw [if_pos c2] at H
  have c2b0 : decide ((l0.length : Int) < 4) = true:=decide_eq_true c2
  have c2b1 : decide (l0.length < 4) = true:=decide_eq_true (by omega)
  clear c2
  simp only [Option.some.injEq,Prod.mk.injEq] at H
  obtain ⟨rfl,rfl,rfl⟩:=H
  go_enter Try.func57,Try.ntmps57
  go_wp2
  go_ret3
  exact ⟨_,by first|rfl|(simp [errW_none,errW_some] <;> rfl)|(simp [*,errW_none,errW_some] <;> rfl),by first|exact Kd.R_nil _ _ _ _ _|exact Kd.N_nil _ _ _ _ _|exact Kd.V_nil _ _ _ _ _|exact Kd.Q_nil _ _ _ _ _|exact Kd.S_nil _ _ _ _ _,by repeat (first|(with_reducible first|exact HB.out|apply below_alloc|apply pw_below_drewN|apply below_drew1)|exact HB.out)⟩
 ·rw [if_neg c2] at H
  have c2b0 : decide ((l0.length : Int) < 4) = false:=decide_eq_false c2
  have c2b1 : decide (l0.length < 4) = false:=decide_eq_false (by omega)
  clear c2
  by_cases c3 : 0 < (l0.length : Int)
  ·rw [if_pos c3] at H
   have c3b0 : decide (0 < (l0.length : Int)) = true:=decide_eq_true c3
   have c3b1 : decide (0 < l0.length) = true:=decide_eq_true (by omega)
   clear c3
   by_cases c4 : 1 < (l0.length : Int)
   ·rw [if_pos c4] at H
    have c4b0 : decide (1 < (l0.length : Int)) = true:=decide_eq_true c4
    have c4b1 : decide (1 < l0.length) = true:=decide_eq_true (by omega)
    clear c4
    by_cases c5 : 2 < (l0.length : Int)
    ·rw [if_pos c5] at H
     have c5b0 : decide (2 < (l0.length : Int)) = true:=decide_eq_true c5
     have c5b1 : decide (2 < l0.length) = true:=decide_eq_true (by omega)
     clear c5
     by_cases c6 : 3 < (l0.length : Int)
     ·rw [if_pos c6] at H
      have c6b0 : decide (3 < (l0.length : Int)) = true:=decide_eq_true c6
      have c6b1 : decide (3 < l0.length) = true:=decide_eq_true (by omega)
      clear c6
      by_cases c7 : 4 ≤ (l0.length : Int)
      ·rw [if_pos c7] at H
       have c7b0:=eq_true c7
       have c7b1 : decide (4 ≤ (l0.length : Int)) = true:=decide_eq_true c7
       clear c7
       replace H:=Option.bind_eq_some_iff.mp H
       obtain ⟨t157,A80,H⟩:=H
       replace H : (some (Go.bits .or .u32 (Go.bits .or .u32 (Go.bits .or .u32 ((rd l0 0) % 4294967296) ((((rd l0 1) % 4294967296) * 256) % 4294967296)) ((((rd l0 2) % 4294967296) * 65536) % 4294967296)) ((((rd l0 3) % 4294967296) * 16777216) % 4294967296),t157,true)) = some (r1,r2,r3):=H
       have A8:=Aside0.mk A80
       clear A80
       simp only [Option.some.injEq,Prod.mk.injEq] at H
       obtain ⟨rfl,rfl,rfl⟩:=H
       go_enter Try.func57,Try.ntmps57
       try go_wp2
       have n0_:=Aside0.mk (below_drew1 HB.out)
       clear HB
       have HB:=n0_
       clear n0_
       have p152 : 0 ≤ (0 : Int):=(by omega)
       have q152 : 0 < (l0.length : Int):=of_decide_eq_true (by first|(with_reducible assumption)|assumption)
       obtain ⟨ad152,e152,hx152_0⟩:=Kd.at_int HR0.out 0 p152 q152
       have hw152_0:=hx152_0
       (try rw [show ((0 : Int)).toNat = 0 from rfl] at hw152_0)
       (try rw [show 0 * 1 = 0 from rfl] at hw152_0)
       (try rw [Addr.add_zero'] at hw152_0)
       cases e152
       have qi152 : (0 < l0.length) = True:=eq_true (by omega)
       (try rw [show ((0 : Int)).toNat = 0 from rfl] at hx152_0)
       (try rw [Addr.add_zero'] at hx152_0)
       replace hx152_0:=(HB.out.cell (World.block_lt_of_cell? w _ hx152_0)).trans hx152_0
       replace p152:=eq_true p152
       replace q152:=eq_true q152
       have p153 : 0 ≤ (1 : Int):=(by omega)
       have q153 : 1 < (l0.length : Int):=of_decide_eq_true (by first|(with_reducible assumption)|assumption)
       obtain ⟨ad153,e153,hx153_0⟩:=Kd.at_int HR0.out 1 p153 q153
       have hw153_0:=hx153_0
       (try rw [show ((1 : Int)).toNat = 1 from rfl] at hw153_0)
       (try rw [show 1 * 1 = 1 from rfl] at hw153_0)
       (try simp only [Nat.reduceMul,Nat.reduceEqDiff,Go.Addr.add,↓reduceIte] at hw153_0)
       obtain rfl : ad152 = ad153:=(by injection e153)
       (try simp only [show (1 : Int).toNat = 1 from rfl,Nat.reduceMul,Nat.reduceEqDiff,Go.Addr.add,↓reduceIte] at hx153_0)
       have qi153 : (1 < l0.length) = True:=eq_true (by omega)
       (try rw [show ((1 : Int)).toNat = 1 from rfl] at hx153_0)
       replace hx153_0:=(HB.out.cell (World.block_lt_of_cell? w _ hx153_0)).trans hx153_0
       replace p153:=eq_true p153
       replace q153:=eq_true q153
       have p154 : 0 ≤ (2 : Int):=(by omega)
       have q154 : 2 < (l0.length : Int):=of_decide_eq_true (by first|(with_reducible assumption)|assumption)
       obtain ⟨ad154,e154,hx154_0⟩:=Kd.at_int HR0.out 2 p154 q154
       have hw154_0:=hx154_0
       (try rw [show ((2 : Int)).toNat = 2 from rfl] at hw154_0)
       (try rw [show 2 * 1 = 2 from rfl] at hw154_0)
       (try simp only [Nat.reduceMul,Nat.reduceEqDiff,Go.Addr.add,↓reduceIte] at hw154_0)
       obtain rfl : ad152 = ad154:=(by injection e154)
       (try simp only [show (2 : Int).toNat = 2 from rfl,Nat.reduceMul,Nat.reduceEqDiff,Go.Addr.add,↓reduceIte] at hx154_0)
       have qi154 : (2 < l0.length) = True:=eq_true (by omega)
       (try rw [show ((2 : Int)).toNat = 2 from rfl] at hx154_0)
       replace hx154_0:=(HB.out.cell (World.block_lt_of_cell? w _ hx154_0)).trans hx154_0
       replace p154:=eq_true p154
       replace q154:=eq_true q154
       have p155 : 0 ≤ (3 : Int):=(by omega)
       have q155 : 3 < (l0.length : Int):=of_decide_eq_true (by first|(with_reducible assumption)|assumption)
       obtain ⟨ad155,e155,hx155_0⟩:=Kd.at_int HR0.out 3 p155 q155
       have hw155_0:=hx155_0
       (try rw [show ((3 : Int)).toNat = 3 from rfl] at hw155_0)
       (try rw [show 3 * 1 = 3 from rfl] at hw155_0)
       (try simp only [Nat.reduceMul,Nat.reduceEqDiff,Go.Addr.add,↓reduceIte] at hw155_0)
       obtain rfl : ad152 = ad155:=(by injection e155)
       (try simp only [show (3 : Int).toNat = 3 from rfl,Nat.reduceMul,Nat.reduceEqDiff,Go.Addr.add,↓reduceIte] at hx155_0)
       have qi155 : (3 < l0.length) = True:=eq_true (by omega)
       (try rw [show ((3 : Int)).toNat = 3 from rfl] at hx155_0)
       replace hx155_0:=(HB.out.cell (World.block_lt_of_cell? w _ hx155_0)).trans hx155_0
       replace p155:=eq_true p155
       replace q155:=eq_true q155
       obtain ⟨i010,hi010,_,hsz10,_⟩:=info_parts info5
       obtain ⟨A10,hcut10,hA10,hC10⟩:=print_drop_of (P:=Try.prog) (Value.int .u8) 0 26 5 .i64 Try.underlying26 hi010 hsz10 (some ad152) c0 l0 4 (by omega) (of_decide_eq_true (by first|(with_reducible assumption)|assumption)) HC0.out
       have HR156:=Aside0.mk (Kd.C_of_reads (h1:=fun _=>rfl) (hA10 _ (Kd.reads_of_C HR0.out)))
       have HC156:=Aside0.mk hC10
       clear hA10 hC10 hi010 hsz10
       refine start_ (n:=28) (S:=fun w'=>w'.cell? ad152 = some (.int .u8 (rd l0 0)) ∧ w'.cell? ⟨ad152.block,ad152.off + 1,none⟩ = some (.int .u8 (rd l0 1)) ∧ w'.cell? ⟨ad152.block,ad152.off + 2,none⟩ = some (.int .u8 (rd l0 2)) ∧ w'.cell? ⟨ad152.block,ad152.off + 3,none⟩ = some (.int .u8 (rd l0 3))) (ds:=[]) #[false,false,false,false,false,false,false,false,false,false,false,false,false,false,false,false,false,false,false,false,false,false,false,false,false,false,false,false] (by kernel_rfl) rfl rfl ⟨((HB.out.cell (World.block_lt_of_cell? w _ hw152_0)).trans hw152_0),((HB.out.cell (World.block_lt_of_cell? w _ hw153_0)).trans hw153_0),((HB.out.cell (World.block_lt_of_cell? w _ hw154_0)).trans hw154_0),((HB.out.cell (World.block_lt_of_cell? w _ hw155_0)).trans hw155_0)⟩ (fun hHeld=>?_);refine with_tabW nums_TakeFour.tab3 nums_TakeFour.bits3 (fun HT_ HW_=>?_)
       generalize w.drew = w9 at HB HR156 hx152_0 hx153_0 hx154_0 hx155_0 hHeld ⊢
       refine pure_ (i:=0) (N:=some 8) (v:=?_) (a':=?_) #[true,false,false,false,false,false,false,false,false,false,false,false,false,false,false,false,false,false,false,false,false,false,false,false,false,false,false,false] rfl rfl (any_of HT_.out (by kernel_rfl)) (fun _ _ _ h=>h) (Or.inl ⟨by rfl,?_⟩) ?_ ?_
       rotate_left
       ·intro w'
        go_simp
        with_reducible rfl
       rotate_left
       ·simp only [Act.put,List.setIfInBounds_toArray,List.set_cons_zero,List.set_cons_succ,i64_w,i32_w]
        rfl
       refine pure_ (i:=1) (N:=some 9) (v:=?_) (a':=?_) #[true,true,false,false,false,false,false,false,false,false,false,false,false,false,false,false,false,false,false,false,false,false,false,false,false,false,false,false] rfl rfl (any_of HT_.out (by kernel_rfl)) (fun _ _ _ h=>h) (Or.inl ⟨by rfl,?_⟩) ?_ ?_
       rotate_left
       ·intro w'
        go_simp
        with_reducible rfl
       rotate_left
       ·simp only [Act.put,List.setIfInBounds_toArray,List.set_cons_zero,List.set_cons_succ,i64_w,i32_w]
        rfl
       refine pure_ (i:=4) (N:=some 12) (v:=?_) (a':=?_) #[true,true,false,false,true,false,false,false,false,false,false,false,false,false,false,false,false,false,false,false,false,false,false,false,false,false,false,false] rfl rfl (any_of HT_.out (by kernel_rfl)) (fun _ _ _ h=>h) (Or.inl ⟨by rfl,?_⟩) ?_ ?_
       rotate_left
       ·intro w'
        go_simp
        with_reducible rfl
       rotate_left
       ·simp only [Act.put,List.setIfInBounds_toArray,List.set_cons_zero,List.set_cons_succ,i64_w,i32_w]
        rfl
       refine pure_ (i:=5) (N:=some 13) (v:=?_) (a':=?_) #[true,true,false,false,true,true,false,false,false,false,false,false,false,false,false,false,false,false,false,false,false,false,false,false,false,false,false,false] rfl rfl (any_of HT_.out (by kernel_rfl)) (fun _ _ _ h=>h) (Or.inl ⟨by rfl,?_⟩) ?_ ?_
       rotate_left
       ·intro w'
        go_simp
        with_reducible rfl
       rotate_left
       ·simp only [Act.put,List.setIfInBounds_toArray,List.set_cons_zero,List.set_cons_succ,i64_w,i32_w]
        rfl
       refine pure_ (i:=10) (N:=some 18) (v:=?_) (a':=?_) #[true,true,false,false,true,true,false,false,false,false,true,false,false,false,false,false,false,false,false,false,false,false,false,false,false,false,false,false] rfl rfl (any_of HT_.out (by kernel_rfl)) (fun _ _ _ h=>h) (Or.inl ⟨by rfl,?_⟩) ?_ ?_
       rotate_left
       ·intro w'
        go_simp
        with_reducible rfl
       rotate_left
       ·simp only [Act.put,List.setIfInBounds_toArray,List.set_cons_zero,List.set_cons_succ,i64_w,i32_w]
        rfl
       refine pure_ (i:=11) (N:=some 19) (v:=?_) (a':=?_) #[true,true,false,false,true,true,false,false,false,false,true,true,false,false,false,false,false,false,false,false,false,false,false,false,false,false,false,false] rfl rfl (any_of HT_.out (by kernel_rfl)) (fun _ _ _ h=>h) (Or.inl ⟨by rfl,?_⟩) ?_ ?_
       rotate_left
       ·intro w'
        go_simp
        with_reducible rfl
       rotate_left
       ·simp only [Act.put,List.setIfInBounds_toArray,List.set_cons_zero,List.set_cons_succ,i64_w,i32_w]
        rfl
       refine pure_ (i:=16) (N:=some 24) (v:=?_) (a':=?_) #[true,true,false,false,true,true,false,false,false,false,true,true,false,false,false,false,true,false,false,false,false,false,false,false,false,false,false,false] rfl rfl (any_of HT_.out (by kernel_rfl)) (fun _ _ _ h=>h) (Or.inl ⟨by rfl,?_⟩) ?_ ?_
       rotate_left
       ·intro w'
        go_simp
        with_reducible rfl
       rotate_left
       ·simp only [Act.put,List.setIfInBounds_toArray,List.set_cons_zero,List.set_cons_succ,i64_w,i32_w]
        rfl
       refine pure_ (i:=17) (N:=some 25) (v:=?_) (a':=?_) #[true,true,false,false,true,true,false,false,false,false,true,true,false,false,false,false,true,true,false,false,false,false,false,false,false,false,false,false] rfl rfl (any_of HT_.out (by kernel_rfl)) (fun _ _ _ h=>h) (Or.inl ⟨by rfl,?_⟩) ?_ ?_
       rotate_left
       ·intro w'
        go_simp
        with_reducible rfl
       rotate_left
       ·simp only [Act.put,List.setIfInBounds_toArray,List.set_cons_zero,List.set_cons_succ,i64_w,i32_w]
        rfl
       refine pure_ (i:=22) (N:=some 30) (v:=?_) (a':=?_) #[true,true,false,false,true,true,false,false,false,false,true,true,false,false,false,false,true,true,false,false,false,false,true,false,false,false,false,false] rfl rfl (any_of HT_.out (by kernel_rfl)) (fun _ _ _ h=>h) (Or.inl ⟨by rfl,?_⟩) ?_ ?_
       rotate_left
       ·intro w'
        go_simp
        with_reducible rfl
       rotate_left
       ·simp only [Act.put,List.setIfInBounds_toArray,List.set_cons_zero,List.set_cons_succ,i64_w,i32_w]
        rfl
       refine pure_ (i:=23) (N:=some 31) (v:=?_) (a':=?_) #[true,true,false,false,true,true,false,false,false,false,true,true,false,false,false,false,true,true,false,false,false,false,true,true,false,false,false,false] rfl rfl (any_of HT_.out (by kernel_rfl)) (fun _ _ _ h=>h) (Or.inl ⟨by rfl,?_⟩) ?_ ?_
       rotate_left
       ·intro w'
        go_simp
        with_reducible rfl
       rotate_left
       ·simp only [Act.put,List.setIfInBounds_toArray,List.set_cons_zero,List.set_cons_succ,i64_w,i32_w]
        rfl
       refine take_ (i:=2) (N:=some 10) (v:=?_) (a':=?_) #[true,true,true,false,true,true,false,false,false,false,true,true,false,false,false,false,true,true,false,false,false,false,true,true,false,false,false,false] rfl rfl (take_ofW HT_.out HW_.out (by kernel_rfl)) (fun _ _ _ h=>h) (Or.inl ⟨by rfl,?_⟩) hHeld ?_ ?_
       rotate_left
       ·rintro w' ⟨s0,s1,s2,s3⟩
        go_simp
        with_reducible rfl
       rotate_left
       ·simp only [Act.put,List.setIfInBounds_toArray,List.set_cons_zero,List.set_cons_succ,i64_w,i32_w]
        rfl
       refine pure_ (i:=3) (N:=some 11) (v:=?_) (a':=?_) #[true,true,true,true,true,true,false,false,false,false,true,true,false,false,false,false,true,true,false,false,false,false,true,true,false,false,false,false] rfl rfl (any_of HT_.out (by kernel_rfl)) (fun _ _ _ h=>h) (Or.inl ⟨by rfl,?_⟩) ?_ ?_
       rotate_left
       ·intro w'
        go_simp
        with_reducible rfl
       rotate_left
       ·simp only [Act.put,List.setIfInBounds_toArray,List.set_cons_zero,List.set_cons_succ,i64_w,i32_w]
        rfl
       refine take_ (i:=6) (N:=some 14) (v:=?_) (a':=?_) #[true,true,true,true,true,true,true,false,false,false,true,true,false,false,false,false,true,true,false,false,false,false,true,true,false,false,false,false] rfl rfl (take_ofW HT_.out HW_.out (by kernel_rfl)) (fun _ _ _ h=>h) (Or.inl ⟨by rfl,?_⟩) hHeld ?_ ?_
       rotate_left
       ·rintro w' ⟨s0,s1,s2,s3⟩
        go_simp
        with_reducible rfl
       rotate_left
       ·simp only [Act.put,List.setIfInBounds_toArray,List.set_cons_zero,List.set_cons_succ,i64_w,i32_w]
        rfl
       refine pure_ (i:=7) (N:=some 15) (v:=?_) (a':=?_) #[true,true,true,true,true,true,true,true,false,false,true,true,false,false,false,false,true,true,false,false,false,false,true,true,false,false,false,false] rfl rfl (any_of HT_.out (by kernel_rfl)) (fun _ _ _ h=>h) (Or.inl ⟨by rfl,?_⟩) ?_ ?_
       rotate_left
       ·intro w'
        go_simp
        with_reducible rfl
       rotate_left
       ·simp only [Act.put,List.setIfInBounds_toArray,List.set_cons_zero,List.set_cons_succ,i64_w,i32_w]
        rfl
       refine pure_ (i:=8) (N:=some 16) (v:=?_) (a':=?_) #[true,true,true,true,true,true,true,true,true,false,true,true,false,false,false,false,true,true,false,false,false,false,true,true,false,false,false,false] rfl rfl (any_of HT_.out (by kernel_rfl)) (fun _ _ _ h=>h) (Or.inl ⟨by rfl,?_⟩) ?_ ?_
       rotate_left
       ·intro w'
        go_simp
        with_reducible rfl
       rotate_left
       ·simp only [Act.put,List.setIfInBounds_toArray,List.set_cons_zero,List.set_cons_succ,i64_w,i32_w]
        rfl
       refine pure_ (i:=9) (N:=some 17) (v:=?_) (a':=?_) #[true,true,true,true,true,true,true,true,true,true,true,true,false,false,false,false,true,true,false,false,false,false,true,true,false,false,false,false] rfl rfl (any_of HT_.out (by kernel_rfl)) (fun _ _ _ h=>h) (Or.inl ⟨by rfl,?_⟩) ?_ ?_
       rotate_left
       ·intro w'
        go_simp
        with_reducible rfl
       rotate_left
       ·simp only [Act.put,List.setIfInBounds_toArray,List.set_cons_zero,List.set_cons_succ,i64_w,i32_w]
        rfl
       refine take_ (i:=12) (N:=some 20) (v:=?_) (a':=?_) #[true,true,true,true,true,true,true,true,true,true,true,true,true,false,false,false,true,true,false,false,false,false,true,true,false,false,false,false] rfl rfl (take_ofW HT_.out HW_.out (by kernel_rfl)) (fun _ _ _ h=>h) (Or.inl ⟨by rfl,?_⟩) hHeld ?_ ?_
       rotate_left
       ·rintro w' ⟨s0,s1,s2,s3⟩
        go_simp
        with_reducible rfl
       rotate_left
       ·simp only [Act.put,List.setIfInBounds_toArray,List.set_cons_zero,List.set_cons_succ,i64_w,i32_w]
        rfl
       refine pure_ (i:=13) (N:=some 21) (v:=?_) (a':=?_) #[true,true,true,true,true,true,true,true,true,true,true,true,true,true,false,false,true,true,false,false,false,false,true,true,false,false,false,false] rfl rfl (any_of HT_.out (by kernel_rfl)) (fun _ _ _ h=>h) (Or.inl ⟨by rfl,?_⟩) ?_ ?_
       rotate_left
       ·intro w'
        go_simp
        with_reducible rfl
       rotate_left
       ·simp only [Act.put,List.setIfInBounds_toArray,List.set_cons_zero,List.set_cons_succ,i64_w,i32_w]
        rfl
       refine pure_ (i:=14) (N:=some 22) (v:=?_) (a':=?_) #[true,true,true,true,true,true,true,true,true,true,true,true,true,true,true,false,true,true,false,false,false,false,true,true,false,false,false,false] rfl rfl (any_of HT_.out (by kernel_rfl)) (fun _ _ _ h=>h) (Or.inl ⟨by rfl,?_⟩) ?_ ?_
       rotate_left
       ·intro w'
        go_simp
        with_reducible rfl
       rotate_left
       ·simp only [Act.put,List.setIfInBounds_toArray,List.set_cons_zero,List.set_cons_succ,i64_w,i32_w]
        rfl
       refine pure_ (i:=15) (N:=some 23) (v:=?_) (a':=?_) #[true,true,true,true,true,true,true,true,true,true,true,true,true,true,true,true,true,true,false,false,false,false,true,true,false,false,false,false] rfl rfl (any_of HT_.out (by kernel_rfl)) (fun _ _ _ h=>h) (Or.inl ⟨by rfl,?_⟩) ?_ ?_
       rotate_left
       ·intro w'
        go_simp
        with_reducible rfl
       rotate_left
       ·simp only [Act.put,List.setIfInBounds_toArray,List.set_cons_zero,List.set_cons_succ,i64_w,i32_w]
        rfl
       refine take_ (i:=18) (N:=some 26) (v:=?_) (a':=?_) #[true,true,true,true,true,true,true,true,true,true,true,true,true,true,true,true,true,true,true,false,false,false,true,true,false,false,false,false] rfl rfl (take_ofW HT_.out HW_.out (by kernel_rfl)) (fun _ _ _ h=>h) (Or.inl ⟨by rfl,?_⟩) hHeld ?_ ?_
       rotate_left
       ·rintro w' ⟨s0,s1,s2,s3⟩
        go_simp
        with_reducible rfl
       rotate_left
       ·simp only [Act.put,List.setIfInBounds_toArray,List.set_cons_zero,List.set_cons_succ,i64_w,i32_w]
        rfl
       refine pure_ (i:=19) (N:=some 27) (v:=?_) (a':=?_) #[true,true,true,true,true,true,true,true,true,true,true,true,true,true,true,true,true,true,true,true,false,false,true,true,false,false,false,false] rfl rfl (any_of HT_.out (by kernel_rfl)) (fun _ _ _ h=>h) (Or.inl ⟨by rfl,?_⟩) ?_ ?_
       rotate_left
       ·intro w'
        go_simp
        with_reducible rfl
       rotate_left
       ·simp only [Act.put,List.setIfInBounds_toArray,List.set_cons_zero,List.set_cons_succ,i64_w,i32_w]
        rfl
       refine pure_ (i:=20) (N:=some 28) (v:=?_) (a':=?_) #[true,true,true,true,true,true,true,true,true,true,true,true,true,true,true,true,true,true,true,true,true,false,true,true,false,false,false,false] rfl rfl (any_of HT_.out (by kernel_rfl)) (fun _ _ _ h=>h) (Or.inl ⟨by rfl,?_⟩) ?_ ?_
       rotate_left
       ·intro w'
        go_simp
        with_reducible rfl
       rotate_left
       ·simp only [Act.put,List.setIfInBounds_toArray,List.set_cons_zero,List.set_cons_succ,i64_w,i32_w]
        rfl
       refine pure_ (i:=21) (N:=some 29) (v:=?_) (a':=?_) #[true,true,true,true,true,true,true,true,true,true,true,true,true,true,true,true,true,true,true,true,true,true,true,true,false,false,false,false] rfl rfl (any_of HT_.out (by kernel_rfl)) (fun _ _ _ h=>h) (Or.inl ⟨by rfl,?_⟩) ?_ ?_
       rotate_left
       ·intro w'
        go_simp
        with_reducible rfl
       rotate_left
       ·simp only [Act.put,List.setIfInBounds_toArray,List.set_cons_zero,List.set_cons_succ,i64_w,i32_w]
        rfl
       refine one_ (i:=24) (N:=some 32) #[true,true,true,true,true,true,true,true,true,true,true,true,true,true,true,true,true,true,true,true,true,true,true,true,true,false,false,false] rfl rfl (one_of HT_.out (by kernel_rfl)) (by decide) (fun K hK=>?_)
       refine goes_ Try.func82 (by kernel_rfl) rfl #[.slice A10 (l0.drop 4).length (c0 - 4)] (by rfl) rfl rfl (by (try simp only [List.map_toArray,List.map_cons,List.map_nil]);first|done|(rw [show (l0.drop 4).length = (l0.length - 4) from List.length_drop] <;> rfl)|rfl|(simp only [List.length_drop,List.length_take];rfl)) ?_
       with_reducible refine (slices_Clone_byte_byte.calls _ _ (l0.drop 4) t157 _ ?side1 ?side2 A8.out).mono ?_
       (case side1=>repeat (first|exact (Kd.C_below HR156.out HB.out)|(with_reducible refine Kd.C_alloc ?_ _)|(with_reducible refine Kd.C_drewN ?_ _)|(with_reducible refine Kd.C_drew ?_)))
       (case side2=>exact HC156.out)
       rintro e w11 ⟨v158,rfl,ho0,hb⟩
       refine ⟨_,rfl,?_⟩
       have n0_:=Aside0.mk (Kd.R_lower ho0 (below_size (by repeat (first|(with_reducible first|exact HB.out|apply below_alloc|apply pw_below_drewN|apply below_drew1)|exact HB.out))))
       have n1_:=Aside0.mk (below_step (by repeat (first|(with_reducible first|exact HB.out|apply below_alloc|apply pw_below_drewN|apply below_drew1)|exact HB.out)) hb)
       clear HB
       have HO159:=n0_
       have HB:=n1_
       clear n0_ n1_
       (try clear hb)
       (try clear hb2)
       (try clear hk)
       (try clear hi)
       (try clear ho0)
       refine hK.out _ _ ⟨((HB.out.cell (World.block_lt_of_cell? w _ hw152_0)).trans hw152_0),((HB.out.cell (World.block_lt_of_cell? w _ hw153_0)).trans hw153_0),((HB.out.cell (World.block_lt_of_cell? w _ hw154_0)).trans hw154_0),((HB.out.cell (World.block_lt_of_cell? w _ hw155_0)).trans hw155_0)⟩ (fun hHeld=>?_)
       clear hK K
       refine norm_ (a':=?_) ?_ ?_
       rotate_left
       ·show Act.put _ (some 32) _ = _
        simp only [Act.put,List.setIfInBounds_toArray,List.set_cons_zero,List.set_cons_succ,i64_w,i32_w]
        rfl
       refine pure_ (i:=25) (N:=some 2) (v:=?_) (a':=?_) #[true,true,true,true,true,true,true,true,true,true,true,true,true,true,true,true,true,true,true,true,true,true,true,true,true,true,false,false] rfl rfl (any_of HT_.out (by kernel_rfl)) (fun _ _ _ h=>h) (Or.inl ⟨by rfl,?_⟩) ?_ ?_
       rotate_left
       ·intro w'
        go_simp
        with_reducible rfl
       rotate_left
       ·simp only [Act.put,List.setIfInBounds_toArray,List.set_cons_zero,List.set_cons_succ,i64_w,i32_w]
        rfl
       refine pure_ (i:=26) (N:=some 3) (v:=?_) (a':=?_) #[true,true,true,true,true,true,true,true,true,true,true,true,true,true,true,true,true,true,true,true,true,true,true,true,true,true,true,false] rfl rfl (any_of HT_.out (by kernel_rfl)) (fun _ _ _ h=>h) (Or.inl ⟨by rfl,?_⟩) ?_ ?_
       rotate_left
       ·intro w'
        go_simp
        with_reducible rfl
       rotate_left
       ·simp only [Act.put,List.setIfInBounds_toArray,List.set_cons_zero,List.set_cons_succ,i64_w,i32_w]
        rfl
       refine pure_ (i:=27) (N:=some 4) (v:=?_) (a':=?_) #[true,true,true,true,true,true,true,true,true,true,true,true,true,true,true,true,true,true,true,true,true,true,true,true,true,true,true,true] rfl rfl (any_of HT_.out (by kernel_rfl)) (fun _ _ _ h=>h) (Or.inl ⟨by rfl,?_⟩) ?_ ?_
       rotate_left
       ·intro w'
        go_simp
        with_reducible rfl
       rotate_left
       ·simp only [Act.put,List.setIfInBounds_toArray,List.set_cons_zero,List.set_cons_succ,i64_w,i32_w]
        rfl
       refine done_ (done_of HT_.out (by kernel_rfl)) ?_
       try go_wp2
       go_ret3
       exact ⟨_,by first|rfl|(simp [errW_none,errW_some] <;> rfl)|(simp [*,errW_none,errW_some] <;> rfl),by (with_reducible repeat (first|apply Kd.R_alloc|apply Kd.R_drewN|apply Kd.R_drew));exact HO159.out,by repeat (first|(with_reducible first|exact HB.out|apply below_alloc|apply pw_below_drewN|apply below_drew1)|exact HB.out)⟩
      ·rw [if_neg c7] at H
       exact absurd H (by simp)
     ·rw [if_neg c6] at H
      exact absurd H (by simp)
    ·rw [if_neg c5] at H
     exact absurd H (by simp)
   ·rw [if_neg c4] at H
    exact absurd H (by simp)
  ·rw [if_neg c3] at H
   exact absurd H (by simp)

end Go.Proofs.Ytjcjfghcahbbmaa.P

end

section
namespace Go.Proofs.Ytjcjfghcahbbmaa.P
open Go.RowKit Go.Proofs.YtjcjfghcahbbmaaG Go.Proofs.YtjcjfghcahbbmaaW.PrintWords Go.Proofs.YtjcjfghcahbbmaaW.PrintLast Go.Proofs.YtjcjfghcahbbmaaW.PrintMore
attribute [local go_sem] str_gtr str_geq str_leq max2_int min2_int max_two min_two max_three min_three max_four min_four   -- for this text's walks alone
set_option linter.unusedVariables false
set_option linter.unusedSimpArgs false

def nums_TakeText.f (l0 : List Int) (a1 : Int) : Option (ByteArray × List Int × Bool):=(nums_Take.f l0).bind fun bt160=>(if bt160.2.2 = true then (if bt160.1 > (IntKind.u64.wrap (mx a1 0)) then (some ((⟨#[]⟩ : ByteArray),([] : List Int),false)) else (if a1 < 0 then (some ((⟨#[]⟩ : ByteArray),([] : List Int),false)) else (if bt160.1 > (IntKind.u64.wrap ((bt160.2.1.length : Int))) then (some ((⟨#[]⟩ : ByteArray),([] : List Int),false)) else (if 0 ≤ bt160.1 then (if bt160.1 ≤ (bt160.2.1.length : Int) then ((slices_Clone_byte_byte.f (bt160.2.1.drop (bt160.1 : Int).toNat)).bind fun t173=>(some (strOfNums (bt160.2.1.take (bt160.1 : Int).toNat),t173,true))) else (none)) else (none))))) else (some ((⟨#[]⟩ : ByteArray),([] : List Int),false)))
def nums_TakeText.T4 : Bool × List (List Nat × List Nat):=(true,[([],[]),([],[]),([0,1],[0,1]),([2],[2]),([],[]),([],[]),([4,5],[4,5]),([6],[6]),([3,7,0,1,2,3],[3]),([7,8,0,1,2,3,4,5,6,7,8],[7]),([9,0,1,2,3,4,5,6,7,8,9],[])])
def nums_TakeText.B4 : List Nat:=[0,0,3,7,0,0,48,112,255,511,1023]
theorem nums_TakeText.tab4 : rtab .any (opsOf Try.f87 4) = nums_TakeText.T4:=by kernel_rfl
theorem nums_TakeText.bits4 : waitsOk nums_TakeText.T4.2 nums_TakeText.B4 = true:=by kernel_rfl
set_option maxHeartbeats 8000000 in
set_option maxRecDepth 100000 in
theorem nums_TakeText.calls (A0 : Option Addr) (c0 : Nat) (l0 : List Int) (a1 : Int) (r1 : ByteArray) (r2 : List Int) (r3 : Bool) (w : World) (hr0 : Kd.C (Kd.int .u8) w A0 l0.length l0) (hc0 : l0.length ≤ c0) (h : nums_TakeText.f l0 a1 = some (r1,r2,r3)) :
  Calls Try.prog 87 #[.slice A0 l0.length c0,.int .i64 a1] w fun e w'=>∃ v1_ : Value,e = .returned (.tuple #[.string r1,v1_,.bool r3]) ∧ Kd.R (Kd.int .u8) 5 w' w.heap.size (fun _=>True) v1_ r2 ∧ Below w.heap.size w w':=by
 have HR0:=Aside0.mk hr0
 have HC0:=Aside0.mk hc0
 clear hr0 hc0
 have HB:=Aside0.mk (Below.refl w.heap.size w)
 have H : ((nums_Take.f l0).bind fun bt160=>(if bt160.2.2 = true then (if bt160.1 > (IntKind.u64.wrap (mx a1 0)) then (some ((⟨#[]⟩ : ByteArray),([] : List Int),false)) else (if a1 < 0 then (some ((⟨#[]⟩ : ByteArray),([] : List Int),false)) else (if bt160.1 > (IntKind.u64.wrap ((bt160.2.1.length : Int))) then (some ((⟨#[]⟩ : ByteArray),([] : List Int),false)) else (if 0 ≤ bt160.1 then (if bt160.1 ≤ (bt160.2.1.length : Int) then ((slices_Clone_byte_byte.f (bt160.2.1.drop (bt160.1 : Int).toNat)).bind fun t173=>(some (strOfNums (bt160.2.1.take (bt160.1 : Int).toNat),t173,true))) else (none)) else (none))))) else (some ((⟨#[]⟩ : ByteArray),([] : List Int),false)))) = some (r1,r2,r3):=h
 clear h
 replace H:=Option.bind_eq_some_iff.mp H
 obtain ⟨⟨t160,t161,t162⟩,A30,H⟩:=H
 replace H : (if t162 = true then (if t160 > (IntKind.u64.wrap (mx a1 0)) then (some ((⟨#[]⟩ : ByteArray),([] : List Int),false)) else (if a1 < 0 then (some ((⟨#[]⟩ : ByteArray),([] : List Int),false)) else (if t160 > (IntKind.u64.wrap ((t161.length : Int))) then (some ((⟨#[]⟩ : ByteArray),([] : List Int),false)) else (if 0 ≤ t160 then (if t160 ≤ (t161.length : Int) then ((slices_Clone_byte_byte.f (t161.drop (t160 : Int).toNat)).bind fun t173=>(some (strOfNums (t161.take (t160 : Int).toNat),t173,true))) else (none)) else (none))))) else (some ((⟨#[]⟩ : ByteArray),([] : List Int),false))) = some (r1,r2,r3):=H
 have A3:=Aside0.mk A30
 clear A30
 by_cases c4 : t162 = true
 ·subst c4
  have H1 : (if t160 > (IntKind.u64.wrap (mx a1 0)) then (some ((⟨#[]⟩ : ByteArray),([] : List Int),false)) else (if a1 < 0 then (some ((⟨#[]⟩ : ByteArray),([] : List Int),false)) else (if t160 > (IntKind.u64.wrap ((t161.length : Int))) then (some ((⟨#[]⟩ : ByteArray),([] : List Int),false)) else (if 0 ≤ t160 then (if t160 ≤ (t161.length : Int) then ((slices_Clone_byte_byte.f (t161.drop (t160 : Int).toNat)).bind fun t173=>(some (strOfNums (t161.take (t160 : Int).toNat),t173,true))) else (none)) else (none))))) = some (r1,r2,r3):=by rw [if_pos rfl] at H;exact H
  clear H
  have H:=H1
  clear H1
  obtain ⟨ji5,hji5⟩ : ∃ j_ : Int,(mx a1 0) = j_:=⟨_,rfl⟩
  replace H : (if t160 > (IntKind.u64.wrap (ji5)) then (some ((⟨#[]⟩ : ByteArray),([] : List Int),false)) else (if a1 < 0 then (some ((⟨#[]⟩ : ByteArray),([] : List Int),false)) else (if t160 > (IntKind.u64.wrap ((t161.length : Int))) then (some ((⟨#[]⟩ : ByteArray),([] : List Int),false)) else (if 0 ≤ t160 then (if t160 ≤ (t161.length : Int) then ((slices_Clone_byte_byte.f (t161.drop (t160 : Int).toNat)).bind fun t173=>(some (strOfNums (t161.take (t160 : Int).toNat),t173,true))) else (none)) else (none))))) = some (r1,r2,r3):=by first|(rw [hji5] at H;exact H)|(simp only [hji5] at H ⊢;exact H)
  (try rw [hji5] at A3)
  (try (have hji5l : 0 ≤ ji5:=by (rw [← hji5];unfold mx;(repeat' split) <;> omega)))
  (try (have hji5m : 0 ≤ ji5:=by omega))
  have hji5_ : (if a1 < 0 then 0 else a1) = ji5:=hji5
  by_cases c6 : t160 > (IntKind.u64.wrap (ji5))
  ·rw [if_pos c6] at H
   have c6b0 : decide ((IntKind.u64.wrap (ji5)) < t160) = true:=decide_eq_true c6
   clear c6
   simp only [Option.some.injEq,Prod.mk.injEq] at H
   obtain ⟨rfl,rfl,rfl⟩:=H
   go_enter Try.func87,Try.ntmps87
   go_wp2_with (first|((with_reducible refine gate_callee (f:=86) rfl ?_);refine goesL_ (some 12) rfl rfl Try.func86 (by kernel_rfl) rfl #[.slice A0 l0.length c0] rfl (by (try simp only [List.map_toArray,List.map_cons,List.map_nil]);first|done|rfl|(simp only [List.length_drop,List.length_take];rfl)) ?_;(with_reducible refine (nums_Take.calls _ _ l0 t160 t161 true _ ?side1 ?side2 A3.out).mono ?_);(case side1=>repeat (first|exact HR0.out|(with_reducible refine Kd.C_alloc ?_ _)|(with_reducible refine Kd.C_drewN ?_ _)|(with_reducible refine Kd.C_drew ?_)));(case side2=>exact HC0.out);rintro e w7 ⟨v163,rfl,ho0,hb⟩;refine ⟨_,rfl,?_⟩;have n0_:=Aside0.mk (Kd.R_lower ho0 (below_size (by repeat (first|(with_reducible first|exact HB.out|apply below_alloc|apply pw_below_drewN|apply below_drew1)|exact HB.out))));have n1_:=Aside0.mk (below_step (by repeat (first|(with_reducible first|exact HB.out|apply below_alloc|apply pw_below_drewN|apply below_drew1)|exact HB.out)) hb);clear HB;have HO164:=n0_;have HB:=n1_;clear n0_ n1_;(try clear hb);(try clear hb2);(try clear hk);(try clear hi);(try clear ho0)))
   go_ret3
   exact ⟨_,by first|rfl|(simp [errW_none,errW_some] <;> rfl)|(simp only [← hji5];first|rfl|(simp [errW_none,errW_some] <;> rfl))|(simp [*,errW_none,errW_some] <;> rfl),by first|exact Kd.R_nil _ _ _ _ _|exact Kd.N_nil _ _ _ _ _|exact Kd.V_nil _ _ _ _ _|exact Kd.Q_nil _ _ _ _ _|exact Kd.S_nil _ _ _ _ _,by repeat (first|(with_reducible first|exact HB.out|apply below_alloc|apply pw_below_drewN|apply below_drew1)|exact HB.out)⟩
  ·rw [if_neg c6] at H
   have c6b0 : decide ((IntKind.u64.wrap (ji5)) < t160) = false:=decide_eq_false c6
   clear c6
   by_cases c8 : a1 < 0
   ·rw [if_pos c8] at H
    have c8b0 : decide (a1 < 0) = true:=decide_eq_true c8
    clear c8
    simp only [Option.some.injEq,Prod.mk.injEq] at H
    obtain ⟨rfl,rfl,rfl⟩:=H
    go_enter Try.func87,Try.ntmps87
    go_wp2_with (first|((with_reducible refine gate_callee (f:=86) rfl ?_);refine goesL_ (some 12) rfl rfl Try.func86 (by kernel_rfl) rfl #[.slice A0 l0.length c0] rfl (by (try simp only [List.map_toArray,List.map_cons,List.map_nil]);first|done|rfl|(simp only [List.length_drop,List.length_take];rfl)) ?_;(with_reducible refine (nums_Take.calls _ _ l0 t160 t161 true _ ?side1 ?side2 A3.out).mono ?_);(case side1=>repeat (first|exact HR0.out|(with_reducible refine Kd.C_alloc ?_ _)|(with_reducible refine Kd.C_drewN ?_ _)|(with_reducible refine Kd.C_drew ?_)));(case side2=>exact HC0.out);rintro e w9 ⟨v163,rfl,ho0,hb⟩;refine ⟨_,rfl,?_⟩;have n0_:=Aside0.mk (Kd.R_lower ho0 (below_size (by repeat (first|(with_reducible first|exact HB.out|apply below_alloc|apply pw_below_drewN|apply below_drew1)|exact HB.out))));have n1_:=Aside0.mk (below_step (by repeat (first|(with_reducible first|exact HB.out|apply below_alloc|apply pw_below_drewN|apply below_drew1)|exact HB.out)) hb);clear HB;have HO164:=n0_;have HB:=n1_;clear n0_ n1_;(try clear hb);(try clear hb2);(try clear hk);(try clear hi);(try clear ho0)))
    go_ret3
    exact ⟨_,by first|rfl|(simp [errW_none,errW_some] <;> rfl)|(simp only [← hji5];first|rfl|(simp [errW_none,errW_some] <;> rfl))|(simp [*,errW_none,errW_some] <;> rfl),by first|exact Kd.R_nil _ _ _ _ _|exact Kd.N_nil _ _ _ _ _|exact Kd.V_nil _ _ _ _ _|exact Kd.Q_nil _ _ _ _ _|exact Kd.S_nil _ _ _ _ _,by repeat (first|(with_reducible first|exact HB.out|apply below_alloc|apply pw_below_drewN|apply below_drew1)|exact HB.out)⟩
   ·rw [if_neg c8] at H
    have c8b0 : decide (a1 < 0) = false:=decide_eq_false c8
    clear c8
    by_cases c10 : t160 > (IntKind.u64.wrap ((t161.length : Int)))
    ·rw [if_pos c10] at H
     have c10b0 : decide ((IntKind.u64.wrap ((t161.length : Int))) < t160) = true:=decide_eq_true c10
     clear c10
     simp only [Option.some.injEq,Prod.mk.injEq] at H
     obtain ⟨rfl,rfl,rfl⟩:=H
     go_enter Try.func87,Try.ntmps87
     go_wp2_with (first|((with_reducible refine gate_callee (f:=86) rfl ?_);refine goesL_ (some 12) rfl rfl Try.func86 (by kernel_rfl) rfl #[.slice A0 l0.length c0] rfl (by (try simp only [List.map_toArray,List.map_cons,List.map_nil]);first|done|rfl|(simp only [List.length_drop,List.length_take];rfl)) ?_;(with_reducible refine (nums_Take.calls _ _ l0 t160 t161 true _ ?side1 ?side2 A3.out).mono ?_);(case side1=>repeat (first|exact HR0.out|(with_reducible refine Kd.C_alloc ?_ _)|(with_reducible refine Kd.C_drewN ?_ _)|(with_reducible refine Kd.C_drew ?_)));(case side2=>exact HC0.out);rintro e w11 ⟨v163,rfl,ho0,hb⟩;refine ⟨_,rfl,?_⟩;have n0_:=Aside0.mk (Kd.R_lower ho0 (below_size (by repeat (first|(with_reducible first|exact HB.out|apply below_alloc|apply pw_below_drewN|apply below_drew1)|exact HB.out))));have n1_:=Aside0.mk (below_step (by repeat (first|(with_reducible first|exact HB.out|apply below_alloc|apply pw_below_drewN|apply below_drew1)|exact HB.out)) hb);clear HB;have HO164:=n0_;have HB:=n1_;clear n0_ n1_;(try clear hb);(try clear hb2);(try clear hk);(try clear hi);(try clear ho0);obtain ⟨Ao12,co12,eo12⟩:=Kd.R_slice HO164.out;subst eo12))
     go_ret3
     exact ⟨_,by first|rfl|(simp [errW_none,errW_some] <;> rfl)|(simp only [← hji5];first|rfl|(simp [errW_none,errW_some] <;> rfl))|(simp [*,errW_none,errW_some] <;> rfl),by first|exact Kd.R_nil _ _ _ _ _|exact Kd.N_nil _ _ _ _ _|exact Kd.V_nil _ _ _ _ _|exact Kd.Q_nil _ _ _ _ _|exact Kd.S_nil _ _ _ _ _,by repeat (first|(with_reducible first|exact HB.out|apply below_alloc|apply pw_below_drewN|apply below_drew1)|exact HB.out)⟩
    ·rw [if_neg c10] at H
     have c10b0 : decide ((IntKind.u64.wrap ((t161.length : Int))) < t160) = false:=decide_eq_false c10
     clear c10
     by_cases c13 : 0 ≤ t160
     ·rw [if_pos c13] at H
      have c13b0:=eq_true c13
      have c13b1 : decide (0 ≤ t160) = true:=decide_eq_true c13
      clear c13
      by_cases c14 : t160 ≤ (t161.length : Int)
      ·rw [if_pos c14] at H
       have c14b0:=eq_true c14
       have c14b1 : decide (t160 ≤ (t161.length : Int)) = true:=decide_eq_true c14
       clear c14
       obtain ⟨y165,hy165⟩ : ∃ y_ : List Int,y_ = (t161.take (t160 : Int).toNat):=⟨_,rfl⟩
       replace H : ((slices_Clone_byte_byte.f (t161.drop (t160 : Int).toNat)).bind fun t173=>(some (strOfNums y165,t173,true))) = some (r1,r2,r3):=by first|(rw [hy165];with_reducible exact H)|(have H2_:=(Option.bind_some _ _).symm.trans H;rw [hy165];with_reducible exact H2_)|(have H2_:=(Option.bind_some _ _).symm.trans H;with_reducible exact H2_)|with_reducible exact H|(rw [hy165];exact H)|exact H
       have Ny165:=Aside0.mk hy165
       clear hy165
       have c15b0:=eq_true (of_decide_eq_true (by first|(with_reducible assumption)|assumption) : 0 ≤ t160)
       have c16b0:=eq_true (of_decide_eq_true (by first|(with_reducible assumption)|assumption) : t160 ≤ (t161.length : Int))
       obtain ⟨y169,hy169⟩ : ∃ y_ : List Int,y_ = (t161.drop (t160 : Int).toNat):=⟨_,rfl⟩
       replace H : ((slices_Clone_byte_byte.f y169).bind fun t173=>(some (strOfNums y165,t173,true))) = some (r1,r2,r3):=by first|(rw [hy169];with_reducible exact H)|(have H2_:=(Option.bind_some _ _).symm.trans H;rw [hy169];with_reducible exact H2_)|(have H2_:=(Option.bind_some _ _).symm.trans H;with_reducible exact H2_)|with_reducible exact H|(rw [hy169];exact H)|exact H
       have Ny169:=Aside0.mk hy169
       clear hy169
       replace H:=Option.bind_eq_some_iff.mp H
       obtain ⟨t173,A170,H⟩:=H
       replace H : (some (strOfNums y165,t173,true)) = some (r1,r2,r3):=H
       have A17:=Aside0.mk A170
       clear A170
       simp only [Option.some.injEq,Prod.mk.injEq] at H
       obtain ⟨rfl,rfl,rfl⟩:=H
       go_enter Try.func87,Try.ntmps87
       try go_wp2_with (first|((with_reducible refine gate_callee (f:=86) rfl ?_);refine goesL_ (some 12) rfl rfl Try.func86 (by kernel_rfl) rfl #[.slice A0 l0.length c0] rfl (by (try simp only [List.map_toArray,List.map_cons,List.map_nil]);first|done|rfl|(simp only [List.length_drop,List.length_take];rfl)) ?_;(with_reducible refine (nums_Take.calls _ _ l0 t160 t161 true _ ?side1 ?side2 A3.out).mono ?_);(case side1=>repeat (first|exact HR0.out|(with_reducible refine Kd.C_alloc ?_ _)|(with_reducible refine Kd.C_drewN ?_ _)|(with_reducible refine Kd.C_drew ?_)));(case side2=>exact HC0.out);rintro e w18 ⟨v163,rfl,ho0,hb⟩;refine ⟨_,rfl,?_⟩;have n0_:=Aside0.mk (Kd.R_lower ho0 (below_size (by repeat (first|(with_reducible first|exact HB.out|apply below_alloc|apply pw_below_drewN|apply below_drew1)|exact HB.out))));have n1_:=Aside0.mk (below_step (by repeat (first|(with_reducible first|exact HB.out|apply below_alloc|apply pw_below_drewN|apply below_drew1)|exact HB.out)) hb);clear HB;have HO164:=n0_;have HB:=n1_;clear n0_ n1_;(try clear hb);(try clear hb2);(try clear hk);(try clear hi);(try clear ho0);obtain ⟨Ao19,co19,eo19⟩:=Kd.R_slice HO164.out;subst eo19))
       have n0_:=Aside0.mk (Kd.R_drew HO164.out)
       have n1_:=Aside0.mk (below_drew1 HB.out)
       clear HO164
       clear HB
       have HO164:=n0_
       have HB:=n1_
       clear n0_ n1_
       have q21 : (t160 : Int) ≤ ((t161.length : Int) : Int):=of_decide_eq_true (by first|(with_reducible assumption)|assumption)
       obtain ⟨i021,hi021,_,hsz21,_⟩:=info_parts info5
       have hroom21 : t161.length ≤ co19:=(Kd.R_reads' HO164.out).2.1
       have hC21 : Kd.C (Kd.int .u8) _ Ao19 t161.length t161:=(Kd.R_reads' HO164.out).2.2
       have hcut21:=cut_to (P:=Try.prog) 26 5 .u64 Try.underlying26 hi021 Ao19 t161.length co19 t160 (of_decide_eq_true (by first|(with_reducible assumption)|assumption)) q21 hroom21
       have hr21:=Kd.C_take (m:=(t160 : Int).toNat) hC21 (by omega)
       have hy21 : y165.length = (t160 : Int).toNat:=(by rw [Ny165.out,List.length_take];omega)
       rw [← Ny165.out] at hr21
       rw [← hy21] at hcut21
       have HR168:=Aside0.mk hr21
       have HC168:=Aside0.mk (show y165.length ≤ co19 from by omega)
       clear hr21 hC21 hroom21 hi021 hsz21
       have KY21:=Aside0.mk hy21
       clear hy21
       have KL21:=Aside0.mk (show (t160 : Int).toNat ≤ t161.length from by omega)
       replace q21:=eq_true q21
       have q22 : (t160 : Int) ≤ ((t161.length : Int) : Int):=of_decide_eq_true (by first|(with_reducible assumption)|assumption)
       obtain ⟨i022,hi022,_,hsz22,_⟩:=info_parts info5
       have hroom22 : t161.length ≤ co19:=(Kd.R_reads' HO164.out).2.1
       have hC22 : Kd.C (Kd.int .u8) _ Ao19 t161.length t161:=(Kd.R_reads' HO164.out).2.2
       have q022 : (0 : Int) ≤ (t160 : Int):=of_decide_eq_true (by first|(with_reducible assumption)|assumption)
       have hcut22:=cut_from (P:=Try.prog) 26 5 .u64 Try.underlying26 hi022 1 hsz22 Ao19 t161.length co19 t160 q022 q22
       have hr22:=Kd.C_drop (m:=(t160 : Int).toNat) (c:=co19) hC22 (by omega) hroom22
       obtain ⟨A22,hA22⟩ : ∃ A1,A1 = (if co19 = (t160 : Int).toNat then Ao19 else (Ao19 : Option Addr).map (·.add ((t160 : Int).toNat * 1))):=⟨_,rfl⟩
       obtain ⟨c22,hc22⟩ : ∃ c1,c1 = co19 - (t160 : Int).toNat:=⟨_,rfl⟩
       have hy22 : y169.length = t161.length - (t160 : Int).toNat:=(by rw [Ny169.out,List.length_drop] <;> omega)
       rw [show (t161).drop (t160 : Int).toNat = y169 from Ny169.out.symm] at hr22
       replace hr22 : Kd.C (Kd.int .u8) _ A22 y169.length y169:=(by rw [hA22];exact hr22)
       rw [← hy22,← hA22,← hc22] at hcut22
       have HR172:=Aside0.mk hr22
       have HC172:=Aside0.mk (show y169.length ≤ c22 from by rw [hy22,hc22];exact Nat.sub_le_sub_right hroom22 _)
       clear hr22 hC22 hroom22 hi022 hsz22 hc22
       have KY22:=Aside0.mk hy22
       have KA22:=Aside0.mk hA22
       clear hy22 hA22
       have KL22:=Aside0.mk (show (t160 : Int).toNat ≤ t161.length from by omega)
       replace q22:=eq_true q22
       have hcv23:=Kd.C_string (P:=Try.prog) (A:=Ao19) (c:=co19) Try.underlying26 Try.underlying5 Try.underlying9 (by repeat (first|(with_reducible exact HR168.out)|(with_reducible refine Kd.C_alloc ?_ _)|(with_reducible refine Kd.C_drewN ?_ _)|(with_reducible refine Kd.C_drew ?_)|exact HR168.out))
       obtain ⟨S_,hS0_,hS1_,hS2_⟩:=conv_stays (P:=Try.prog) (A:=Ao19) (c:=co19) Try.underlying26 Try.underlying5 Try.underlying9 (by repeat (first|(with_reducible exact HR168.out)|(with_reducible refine Kd.C_alloc ?_ _)|(with_reducible refine Kd.C_drewN ?_ _)|(with_reducible refine Kd.C_drew ?_)|exact HR168.out))
       refine start_ (n:=11) (S:=fun w'=>S_ w') (ds:=[]) #[false,false,false,false,false,false,false,false,false,false,false] (by kernel_rfl) rfl rfl ((by first|exact hS0_|exact hS1_ _ _ hS0_ (below_drew (Below.refl _ _)))) (fun hHeld=>?_);refine with_tabW nums_TakeText.tab4 nums_TakeText.bits4 (fun HT_ HW_=>?_)
       generalize w18.drew = w20 at HO164 HB HR168 HR172 hHeld ⊢
       refine pure_ (i:=0) (N:=some 36) (v:=?_) (a':=?_) #[true,false,false,false,false,false,false,false,false,false,false] rfl rfl (any_of HT_.out (by kernel_rfl)) (fun _ _ _ h=>h) (Or.inl ⟨by rfl,?_⟩) ?_ ?_
       rotate_left
       ·intro w'
        go_simp
        with_reducible rfl
       rotate_left
       ·simp only [Act.put,List.setIfInBounds_toArray,List.set_cons_zero,List.set_cons_succ,i64_w,i32_w]
        rfl
       refine pure_ (i:=1) (N:=some 37) (v:=?_) (a':=?_) #[true,true,false,false,false,false,false,false,false,false,false] rfl rfl (any_of HT_.out (by kernel_rfl)) (fun _ _ _ h=>h) (Or.inl ⟨by rfl,?_⟩) ?_ ?_
       rotate_left
       ·intro w'
        go_simp
        with_reducible rfl
       rotate_left
       ·simp only [Act.put,List.setIfInBounds_toArray,List.set_cons_zero,List.set_cons_succ,i64_w,i32_w]
        rfl
       refine pure_ (i:=2) (N:=some 38) (v:=?_) (a':=?_) #[true,true,true,false,false,false,false,false,false,false,false] rfl rfl (any_of HT_.out (by kernel_rfl)) (fun _ _ _ h=>h) (Or.inl ⟨by rfl,?_⟩) ?_ ?_
       rotate_left
       ·intro w'
        go_simp
        with_reducible rfl
       rotate_left
       ·simp only [Act.put,List.setIfInBounds_toArray,List.set_cons_zero,List.set_cons_succ,i64_w,i32_w]
        rfl
       refine pure_ (i:=4) (N:=some 40) (v:=?_) (a':=?_) #[true,true,true,false,true,false,false,false,false,false,false] rfl rfl (any_of HT_.out (by kernel_rfl)) (fun _ _ _ h=>h) (Or.inl ⟨by rfl,?_⟩) ?_ ?_
       rotate_left
       ·intro w'
        go_simp
        with_reducible rfl
       rotate_left
       ·simp only [Act.put,List.setIfInBounds_toArray,List.set_cons_zero,List.set_cons_succ,i64_w,i32_w]
        rfl
       refine pure_ (i:=5) (N:=some 41) (v:=?_) (a':=?_) #[true,true,true,false,true,true,false,false,false,false,false] rfl rfl (any_of HT_.out (by kernel_rfl)) (fun _ _ _ h=>h) (Or.inl ⟨by rfl,?_⟩) ?_ ?_
       rotate_left
       ·intro w'
        go_simp
        with_reducible rfl
       rotate_left
       ·simp only [Act.put,List.setIfInBounds_toArray,List.set_cons_zero,List.set_cons_succ,i64_w,i32_w]
        rfl
       refine pure_ (i:=6) (N:=some 42) (v:=?_) (a':=?_) #[true,true,true,false,true,true,true,false,false,false,false] rfl rfl (any_of HT_.out (by kernel_rfl)) (fun _ _ _ h=>h) (Or.inl ⟨by rfl,?_⟩) ?_ ?_
       rotate_left
       ·intro w'
        go_simp
        with_reducible rfl
       rotate_left
       ·simp only [Act.put,List.setIfInBounds_toArray,List.set_cons_zero,List.set_cons_succ,i64_w,i32_w]
        rfl
       refine take_ (i:=3) (N:=some 39) (v:=?_) (a':=?_) #[true,true,true,true,true,true,true,false,false,false,false] rfl rfl (take_ofW HT_.out HW_.out (by kernel_rfl)) (fun _ _ _ h=>h) (Or.inl ⟨by rfl,?_⟩) hHeld ?_ ?_
       rotate_left
       ·intro w' s0
        have s1_:=hS2_ _ s0
        go_simp
        with_reducible rfl
       rotate_left
       ·simp only [Act.put,List.setIfInBounds_toArray,List.set_cons_zero,List.set_cons_succ,i64_w,i32_w]
        rfl
       refine one_ (i:=7) (N:=some 43) #[true,true,true,true,true,true,true,true,false,false,false] rfl rfl (one_of HT_.out (by kernel_rfl)) (by decide) (fun K hK=>?_)
       refine goes_ Try.func82 (by kernel_rfl) rfl #[.slice A22 y169.length c22] (by rfl) rfl rfl (by (try simp only [List.map_toArray,List.map_cons,List.map_nil]);first|done|rfl|(simp only [List.length_drop,List.length_take];rfl)) ?_
       with_reducible refine (slices_Clone_byte_byte.calls _ _ y169 t173 _ ?side1 ?side2 A17.out).mono ?_
       (case side1=>repeat (first|exact (by repeat (first|(with_reducible exact HR172.out)|(with_reducible refine Kd.C_alloc ?_ _)|(with_reducible refine Kd.C_drewN ?_ _)|(with_reducible refine Kd.C_drew ?_)|exact HR172.out))|(with_reducible refine Kd.C_alloc ?_ _)|(with_reducible refine Kd.C_drewN ?_ _)|(with_reducible refine Kd.C_drew ?_)))
       (case side2=>exact HC172.out)
       rintro e w24 ⟨v174,rfl,ho0,hb⟩
       have hHn_:=hS1_ _ _ hHeld hb
       refine ⟨_,rfl,?_⟩
       have n0_:=Aside0.mk (Kd.R_elder' (by (with_reducible repeat (first|apply Kd.R_alloc|apply Kd.R_drewN|apply Kd.R_drew));exact HO164.out) (Kd.R_base ho0) hb)
       have n1_:=Aside0.mk (Kd.R_lower (Kd.R_new' ho0 (Kd.R_lt (by (with_reducible repeat (first|apply Kd.R_alloc|apply Kd.R_drewN|apply Kd.R_drew));exact HO164.out))) (below_size (by repeat (first|(with_reducible first|exact HB.out|apply below_alloc|apply pw_below_drewN|apply below_drew1)|exact HB.out))))
       have n2_:=Aside0.mk (Kd.C_below (by repeat (first|(with_reducible exact HR168.out)|(with_reducible refine Kd.C_alloc ?_ _)|(with_reducible refine Kd.C_drewN ?_ _)|(with_reducible refine Kd.C_drew ?_)|exact HR168.out)) hb)
       have n3_:=Aside0.mk (Kd.C_below (by repeat (first|(with_reducible exact HR172.out)|(with_reducible refine Kd.C_alloc ?_ _)|(with_reducible refine Kd.C_drewN ?_ _)|(with_reducible refine Kd.C_drew ?_)|exact HR172.out)) hb)
       have n4_:=Aside0.mk (below_step (by repeat (first|(with_reducible first|exact HB.out|apply below_alloc|apply pw_below_drewN|apply below_drew1)|exact HB.out)) hb)
       clear HO164
       clear HR168
       clear HR172
       clear HB
       have HO164:=n0_
       have HO175:=n1_
       have HR168:=n2_
       have HR172:=n3_
       have HB:=n4_
       clear n0_ n1_ n2_ n3_ n4_
       (try clear hb)
       (try clear hb2)
       (try clear hk)
       (try clear hi)
       (try clear ho0)
       refine hK.out _ _ (hHn_) (fun hHeld=>?_)
       clear hK K
       refine norm_ (a':=?_) ?_ ?_
       rotate_left
       ·show Act.put _ (some 43) _ = _
        simp only [Act.put,List.setIfInBounds_toArray,List.set_cons_zero,List.set_cons_succ,i64_w,i32_w]
        rfl
       refine pure_ (i:=8) (N:=some 4) (v:=?_) (a':=?_) #[true,true,true,true,true,true,true,true,true,false,false] rfl rfl (any_of HT_.out (by kernel_rfl)) (fun _ _ _ h=>h) (Or.inl ⟨by rfl,?_⟩) ?_ ?_
       rotate_left
       ·intro w'
        go_simp
        with_reducible rfl
       rotate_left
       ·simp only [Act.put,List.setIfInBounds_toArray,List.set_cons_zero,List.set_cons_succ,i64_w,i32_w]
        rfl
       refine pure_ (i:=9) (N:=some 5) (v:=?_) (a':=?_) #[true,true,true,true,true,true,true,true,true,true,false] rfl rfl (any_of HT_.out (by kernel_rfl)) (fun _ _ _ h=>h) (Or.inl ⟨by rfl,?_⟩) ?_ ?_
       rotate_left
       ·intro w'
        go_simp
        with_reducible rfl
       rotate_left
       ·simp only [Act.put,List.setIfInBounds_toArray,List.set_cons_zero,List.set_cons_succ,i64_w,i32_w]
        rfl
       refine pure_ (i:=10) (N:=some 6) (v:=?_) (a':=?_) #[true,true,true,true,true,true,true,true,true,true,true] rfl rfl (any_of HT_.out (by kernel_rfl)) (fun _ _ _ h=>h) (Or.inl ⟨by rfl,?_⟩) ?_ ?_
       rotate_left
       ·intro w'
        go_simp
        with_reducible rfl
       rotate_left
       ·simp only [Act.put,List.setIfInBounds_toArray,List.set_cons_zero,List.set_cons_succ,i64_w,i32_w]
        rfl
       refine done_ (done_of HT_.out (by kernel_rfl)) ?_
       try go_wp2
       go_ret3
       exact ⟨_,by first|rfl|(simp [errW_none,errW_some] <;> rfl)|(simp only [← hji5];first|rfl|(simp [errW_none,errW_some] <;> rfl))|(simp [*,errW_none,errW_some] <;> rfl),by (with_reducible repeat (first|apply Kd.R_alloc|apply Kd.R_drewN|apply Kd.R_drew));exact Kd.R_mono HO175.out (fun _ hk=>trivial),by repeat (first|(with_reducible first|exact HB.out|apply below_alloc|apply pw_below_drewN|apply below_drew1)|exact HB.out)⟩
      ·rw [if_neg c14] at H
       exact absurd H (by simp)
     ·rw [if_neg c13] at H
      exact absurd H (by simp)
 ·replace c4:=Bool.eq_false_iff.mpr c4
  subst c4
  have H1 : (some ((⟨#[]⟩ : ByteArray),([] : List Int),false)) = some (r1,r2,r3):=by rw [if_neg (show ¬ (false = true) by decide)] at H;exact H
  clear H
  have H:=H1
  clear H1
  simp only [Option.some.injEq,Prod.mk.injEq] at H
  obtain ⟨rfl,rfl,rfl⟩:=H
  go_enter Try.func87,Try.ntmps87
  go_wp2_with (first|((with_reducible refine gate_callee (f:=86) rfl ?_);refine goesL_ (some 12) rfl rfl Try.func86 (by kernel_rfl) rfl #[.slice A0 l0.length c0] rfl (by (try simp only [List.map_toArray,List.map_cons,List.map_nil]);first|done|rfl|(simp only [List.length_drop,List.length_take];rfl)) ?_;(with_reducible refine (nums_Take.calls _ _ l0 t160 t161 false _ ?side1 ?side2 A3.out).mono ?_);(case side1=>repeat (first|exact HR0.out|(with_reducible refine Kd.C_alloc ?_ _)|(with_reducible refine Kd.C_drewN ?_ _)|(with_reducible refine Kd.C_drew ?_)));(case side2=>exact HC0.out);rintro e w26 ⟨v163,rfl,ho0,hb⟩;refine ⟨_,rfl,?_⟩;have n0_:=Aside0.mk (Kd.R_lower ho0 (below_size (by repeat (first|(with_reducible first|exact HB.out|apply below_alloc|apply pw_below_drewN|apply below_drew1)|exact HB.out))));have n1_:=Aside0.mk (below_step (by repeat (first|(with_reducible first|exact HB.out|apply below_alloc|apply pw_below_drewN|apply below_drew1)|exact HB.out)) hb);clear HB;have HO164:=n0_;have HB:=n1_;clear n0_ n1_;(try clear hb);(try clear hb2);(try clear hk);(try clear hi);(try clear ho0)))
  go_ret3
  exact ⟨_,by first|rfl|(simp [errW_none,errW_some] <;> rfl)|(simp [*,errW_none,errW_some] <;> rfl),by first|exact Kd.R_nil _ _ _ _ _|exact Kd.N_nil _ _ _ _ _|exact Kd.V_nil _ _ _ _ _|exact Kd.Q_nil _ _ _ _ _|exact Kd.S_nil _ _ _ _ _,by repeat (first|(with_reducible first|exact HB.out|apply below_alloc|apply pw_below_drewN|apply below_drew1)|exact HB.out)⟩

end Go.Proofs.Ytjcjfghcahbbmaa.P

end

section
namespace Go.Proofs.Ytjcjfghcahbbmaa.P
open Go.RowKit Go.Proofs.YtjcjfghcahbbmaaG Go.Proofs.YtjcjfghcahbbmaaW.PrintWords Go.Proofs.YtjcjfghcahbbmaaW.PrintLast Go.Proofs.YtjcjfghcahbbmaaW.PrintMore
attribute [local go_sem] str_gtr str_geq str_leq max2_int min2_int max_two min_two max_three min_three max_four min_four   -- for this text's walks alone
set_option linter.unusedVariables false
set_option linter.unusedSimpArgs false

mutual
def block_entries.l0 : Nat → List Int → List (S59) → ByteArray → Option ((List (S59)) × Bool)
 | 0,_,_,_=>none
 | k + 1,x0,x4,x5=>if (x0.length : Int) > 0 then (block_entries.j1 k x0 x4 x5 (decide ((x4.length : Int) ≤ 64))) else (block_entries.j1 k x0 x4 x5 false)
def block_entries.j1 : Nat → List Int → List (S59) → ByteArray → Bool → Option ((List (S59)) × Bool)
 | 0,_,_,_,_=>none
 | k + 1,x0,x4,x5,x21=>if x21 = true then (if ((x4.length : Int) % 4) = 0 then (block_entries.j2 k x0 x4 (⟨#[]⟩ : ByteArray)) else (block_entries.j2 k x0 x4 x5)) else (some (x4,true))
def block_entries.j2 : Nat → List Int → List (S59) → ByteArray → Option ((List (S59)) × Bool)
 | 0,_,_,_=>none
 | k + 1,x0,x4,x5=>(nums_Take.f x0).bind fun bt176=>((nums_TakeText.f bt176.2.1 64).bind fun bt181=>((nums_Take.f bt181.2.1).bind fun bt186=>(if bt176.2.2 = true then (if bt181.2.2 = true then (if bt186.2.2 = true then (block_entries.j3 k x4 x5 bt176.1 bt186.2.1 bt181.1 bt186.1 (decide (bt176.1 > (IntKind.u64.wrap ((x5.size : Int)))))) else (block_entries.j3 k x4 x5 bt176.1 bt186.2.1 bt181.1 bt186.1 true)) else (block_entries.j3 k x4 x5 bt176.1 bt186.2.1 bt181.1 bt186.1 true)) else (block_entries.j3 k x4 x5 bt176.1 bt186.2.1 bt181.1 bt186.1 true))))
def block_entries.j3 : Nat → List (S59) → ByteArray → Int → List Int → ByteArray → Int → Bool → Option ((List (S59)) × Bool)
 | 0,_,_,_,_,_,_,_=>none
 | k + 1,x4,x5,x6,x7,x9,x11,x60=>if x60 = true then (some (([] : List (S59)),false)) else (if 0 ≤ x6 then (if x6 ≤ (x5.size : Int) then (if (x5.extract 0 (x6 : Int).toNat).size + x9.size ≤ 9223372036854775807 then (if ((Go.bits .and .u64 x11 1) % 256) = 1 then ((nums_TakeText.f x7 256).bind fun bt192=>(if bt192.2.2 = true then (if x4.length < 2932031007402 then (block_entries.l0 k bt192.2.1 (x4 ++ [(⟨(⟨(x5.extract 0 (x6 : Int).toNat) ++ x9,x11 / 2,(Go.bits .and .u64 x11 1) % 256⟩ : S50),bt192.1⟩ : S59)]) ((x5.extract 0 (x6 : Int).toNat) ++ x9)) else (none)) else (some (([] : List (S59)),false)))) else (if x4.length < 2932031007402 then (block_entries.l0 k x7 (x4 ++ [(⟨(⟨(x5.extract 0 (x6 : Int).toNat) ++ x9,x11 / 2,(Go.bits .and .u64 x11 1) % 256⟩ : S50),(⟨#[]⟩ : ByteArray)⟩ : S59)]) ((x5.extract 0 (x6 : Int).toNat) ++ x9)) else (none))) else (none)) else (none)) else (none))
end
def block_entries.f (k : Nat) (l0 : List Int) : Option ((List (S59)) × Bool):=block_entries.l0 k l0 ([] : List (S59)) (⟨#[]⟩ : ByteArray)
theorem block_entries.mono_l : ∀ k,(∀ y0 y1 y2,LeO (block_entries.l0 k y0 y1 y2) (block_entries.l0 (k + 1) y0 y1 y2)) ∧ (∀ y0 y1 y2 y3,LeO (block_entries.j1 k y0 y1 y2 y3) (block_entries.j1 (k + 1) y0 y1 y2 y3)) ∧ (∀ y0 y1 y2,LeO (block_entries.j2 k y0 y1 y2) (block_entries.j2 (k + 1) y0 y1 y2)) ∧ (∀ y0 y1 y2 y3 y4 y5 y6,LeO (block_entries.j3 k y0 y1 y2 y3 y4 y5 y6) (block_entries.j3 (k + 1) y0 y1 y2 y3 y4 y5 y6))
 | 0=>⟨fun _ _ _ r h=>by simp [block_entries.l0] at h,fun _ _ _ _ r h=>by simp [block_entries.j1] at h,fun _ _ _ r h=>by simp [block_entries.j2] at h,fun _ _ _ _ _ _ _ r h=>by simp [block_entries.j3] at h⟩
 | k + 1=>by
  obtain ⟨ih0,ih1,ih2,ih3⟩:=block_entries.mono_l k
  refine ⟨?_,?_,?_,?_⟩
  ·intro y0 y1 y2
   unfold block_entries.l0
   repeat' first
   | (with_reducible exact ih0 _ _ _)
   | (with_reducible exact ih1 _ _ _ _)
   | (with_reducible exact ih2 _ _ _)
   | (with_reducible exact ih3 _ _ _ _ _ _ _)
   | (with_reducible exact LeO.refl _)
   | (with_reducible exact LeO.none _)
   | (with_reducible refine LeO.ite ?_ ?_)
   | (with_reducible refine LeO.bind ?_ (fun _=>?_))
   | exact ih0 _ _ _
   | exact ih1 _ _ _ _
   | exact ih2 _ _ _
   | exact ih3 _ _ _ _ _ _ _
   | exact LeO.none _
   | refine LeO.ite ?_ ?_
   | refine LeO.bind ?_ (fun _=>?_)
  ·intro y0 y1 y2 y3
   unfold block_entries.j1
   repeat' first
   | (with_reducible exact ih0 _ _ _)
   | (with_reducible exact ih1 _ _ _ _)
   | (with_reducible exact ih2 _ _ _)
   | (with_reducible exact ih3 _ _ _ _ _ _ _)
   | (with_reducible exact LeO.refl _)
   | (with_reducible exact LeO.none _)
   | (with_reducible refine LeO.ite ?_ ?_)
   | (with_reducible refine LeO.bind ?_ (fun _=>?_))
   | exact ih0 _ _ _
   | exact ih1 _ _ _ _
   | exact ih2 _ _ _
   | exact ih3 _ _ _ _ _ _ _
   | exact LeO.none _
   | refine LeO.ite ?_ ?_
   | refine LeO.bind ?_ (fun _=>?_)
  ·intro y0 y1 y2
   unfold block_entries.j2
   repeat' first
   | (with_reducible exact ih0 _ _ _)
   | (with_reducible exact ih1 _ _ _ _)
   | (with_reducible exact ih2 _ _ _)
   | (with_reducible exact ih3 _ _ _ _ _ _ _)
   | (with_reducible exact LeO.refl _)
   | (with_reducible exact LeO.none _)
   | (with_reducible refine LeO.ite ?_ ?_)
   | (with_reducible refine LeO.bind ?_ (fun _=>?_))
   | exact ih0 _ _ _
   | exact ih1 _ _ _ _
   | exact ih2 _ _ _
   | exact ih3 _ _ _ _ _ _ _
   | exact LeO.none _
   | refine LeO.ite ?_ ?_
   | refine LeO.bind ?_ (fun _=>?_)
  ·intro y0 y1 y2 y3 y4 y5 y6
   unfold block_entries.j3
   repeat' first
   | (with_reducible exact ih0 _ _ _)
   | (with_reducible exact ih1 _ _ _ _)
   | (with_reducible exact ih2 _ _ _)
   | (with_reducible exact ih3 _ _ _ _ _ _ _)
   | (with_reducible exact LeO.refl _)
   | (with_reducible exact LeO.none _)
   | (with_reducible refine LeO.ite ?_ ?_)
   | (with_reducible refine LeO.bind ?_ (fun _=>?_))
   | exact ih0 _ _ _
   | exact ih1 _ _ _ _
   | exact ih2 _ _ _
   | exact ih3 _ _ _ _ _ _ _
   | exact LeO.none _
   | refine LeO.ite ?_ ?_
   | refine LeO.bind ?_ (fun _=>?_)
theorem block_entries.mono : ∀ a0 k,LeO (block_entries.f k a0) (block_entries.f (k + 1) a0):=by
 intro a0 k
 obtain ⟨ih0,ih1,ih2,ih3⟩:=block_entries.mono_l k
 unfold block_entries.f
 repeat' first
   | (with_reducible exact ih0 _ _ _)
   | (with_reducible exact ih1 _ _ _ _)
   | (with_reducible exact ih2 _ _ _)
   | (with_reducible exact ih3 _ _ _ _ _ _ _)
   | (with_reducible exact LeO.refl _)
   | (with_reducible exact LeO.none _)
   | (with_reducible refine LeO.ite ?_ ?_)
   | (with_reducible refine LeO.bind ?_ (fun _=>?_))
   | exact ih0 _ _ _
   | exact ih1 _ _ _ _
   | exact ih2 _ _ _
   | exact ih3 _ _ _ _ _ _ _
   | exact LeO.none _
   | refine LeO.ite ?_ ?_
   | refine LeO.bind ?_ (fun _=>?_)
def block_entries.T16 : Bool × List (List Nat × List Nat):=(true,[([],[]),([],[]),([1],[1]),([0,2],[0,2]),([],[]),([],[]),([5],[5]),([6],[6]),([3,3,0,1,2,3],[0,3]),([4,8,0,1,2,3,4,8],[4]),([7,9,0,1,2,3,4,5,6,7,8,9],[7])])
def block_entries.B16 : List Nat:=[0,0,2,7,0,0,32,96,15,287,1023]
theorem block_entries.tab16 : rtab .any (opsOf Try.f58 16) = block_entries.T16:=by kernel_rfl
theorem block_entries.bits16 : waitsOk block_entries.T16.2 block_entries.B16 = true:=by kernel_rfl
set_option maxHeartbeats 8000000 in
set_option maxRecDepth 100000 in
theorem block_entries.calls (k : Nat) (P0_ : Nat → Prop) (A0 : Option Addr) (c0 : Nat) (l0 : List Int) (r1 : List (S59)) (r2 : Bool) (w : World) (hs0 : Kd.V (Kd.int .u8) 5 w w.heap.size (fun k_=>P0_ k_) (.slice A0 l0.length c0) l0) (h : block_entries.f k l0 = some (r1,r2)) :
  Calls Try.prog 58 #[.slice A0 l0.length c0] w fun e w'=>∃ v0_ : Value,e = .returned (.tuple #[v0_,.bool r2]) ∧ Kd.R k59 59 w' w.heap.size (fun k_=>(w.heap.size ≤ k_)) v0_ r1 ∧ Below w.heap.size w w':=by
 have hu50:=Try.underlying50
 have hu59:=Try.underlying59
 have HO0:=Aside0.mk (show Kd.V (Kd.int .u8) 5 w w.heap.size (fun k_=>(P0_ k_ ∨ w.heap.size ≤ k_)) (.slice A0 l0.length c0) l0 from Kd.V_mono hs0 (fun k_ hk=>.inl hk))
 have HB:=Aside0.mk (Below.refl w.heap.size w)
 have H : (block_entries.l0 k l0 ([] : List (S59)) (⟨#[]⟩ : ByteArray)) = some (r1,r2):=h
 clear h
 have H':=Aside0.mk H
 clear H
 go_enter Try.func58,Try.ntmps58
 go_wp2
 go_loopg [0,4,5] k (fun kq v0 v4 v5 w'=>∃ (x0_1 : List Int) (x4_1 : List (S59)) (x5_1 : ByteArray),v5 = .string x5_1 ∧ Aside0 (block_entries.l0 kq x0_1 x4_1 x5_1 = some (r1,r2)) ∧ Aside0 (kq ≤ k) ∧ Aside0 (Kd.V (Kd.int .u8) 5 w' w.heap.size (fun k_=>(P0_ k_ ∨ w.heap.size ≤ k_) ∧ some k_ ≠ (v4 : Value).ownBlock) v0 x0_1) ∧ Aside0 (Kd.R k59 59 w' w.heap.size (fun k_=>(w.heap.size ≤ k_)) v4 x4_1) ∧ Aside0 (Below w.heap.size w w'))
 case atStart=>exact ⟨(l0),(([] : List (S59))),((⟨#[]⟩ : ByteArray)),(by first|rfl|(simp;done)|(simp [*];done)),H',⟨Nat.le_refl _⟩,⟨by (with_reducible repeat (first|apply Kd.V_alloc|apply Kd.V_drewN|apply Kd.V_drew));exact Kd.V_mono HO0.out (fun _ hk=>⟨hk,(by simp [Value.ownBlock])⟩)⟩,⟨by first|exact Kd.R_nil _ _ _ _ _|exact Kd.N_nil _ _ _ _ _|exact Kd.V_nil _ _ _ _ _|exact Kd.Q_nil _ _ _ _ _|exact Kd.S_nil _ _ _ _ _⟩,⟨by repeat (first|(with_reducible first|exact HB.out|apply below_alloc|apply pw_below_drewN|apply below_drew1)|exact HB.out)⟩⟩
 case round =>
  clear H'
  obtain ⟨x0_1,x4_1,x5_1,rfl,HA,HK1,HO_0,HO_4,HB⟩:=hrel
  cases gk with
  | zero=>exact absurd HA.out (by simp [block_entries.l0])
  | succ k1 =>
   have H:=HA.out
   clear HA
   simp only [block_entries.l0] at H
   have HC2:=Aside0.mk H
   clear H
   go_upto_region 3 with (fail)
   go_cut [21] (fun v21 wc=>∃ (kq : Nat) (x21_1 : Bool),v21 = .bool x21_1 ∧ Aside0 (block_entries.j1 kq x0_1 x4_1 x5_1 x21_1 = some (r1,r2)) ∧ Aside0 (kq ≤ k1) ∧ Aside0 (Kd.V (Kd.int .u8) 5 wc w.heap.size (fun k_=>(P0_ k_ ∨ w.heap.size ≤ k_) ∧ some k_ ≠ (u4 : Value).ownBlock) u0 x0_1) ∧ Aside0 (Kd.R k59 59 wc w.heap.size (fun k_=>(w.heap.size ≤ k_)) u4 x4_1) ∧ Aside0 (Below w.heap.size w wc))
   case first =>
    have H:=HC2.out
    clear HC2
    by_cases c3 : (x0_1.length : Int) > 0
    ·rw [if_pos c3] at H
     have c3b0 : decide (0 < (x0_1.length : Int)) = true:=decide_eq_true c3
     have c3b1 : decide (0 < x0_1.length) = true:=decide_eq_true (by omega)
     clear c3
     (first|rw [c3b0]|(simp only [i64_w,i32_w];rw [c3b0])|skip)
     have H':=Aside0.mk H
     clear H
     obtain ⟨Ao4,co4,eo4⟩:=Kd.V_slice HO_0.out
     subst eo4
     obtain ⟨Ao5,co5,eo5⟩:=Kd.R_slice HO_4.out
     subst eo5
     go_wp2
     go_meet
     case rel=>exact ⟨_,(decide ((x4_1.length : Int) ≤ 64)),(by first|rfl|(simp;done)|(simp [*];done)),H',⟨by have:=HK1.out;first|omega|exact Nat.le_refl _⟩,⟨by (with_reducible repeat (first|apply Kd.V_alloc|apply Kd.V_drewN|apply Kd.V_drew));exact HO_0.out⟩,⟨by (with_reducible repeat (first|apply Kd.R_alloc|apply Kd.R_drewN|apply Kd.R_drew));exact HO_4.out⟩,⟨by repeat (first|(with_reducible first|exact HB.out|apply below_alloc|apply pw_below_drewN|apply below_drew1)|exact HB.out)⟩⟩
    ·rw [if_neg c3] at H
     have c3b0 : decide (0 < (x0_1.length : Int)) = false:=decide_eq_false c3
     have c3b1 : decide (0 < x0_1.length) = false:=decide_eq_false (by omega)
     clear c3
     (first|rw [c3b0]|(simp only [i64_w,i32_w];rw [c3b0])|skip)
     have H':=Aside0.mk H
     clear H
     obtain ⟨Ao6,co6,eo6⟩:=Kd.V_slice HO_0.out
     subst eo6
     go_wp2
     go_meet
     case rel=>exact ⟨_,(false),(by first|rfl|(simp;done)|(simp [*];done)),H',⟨by have:=HK1.out;first|omega|exact Nat.le_refl _⟩,⟨by (with_reducible repeat (first|apply Kd.V_alloc|apply Kd.V_drewN|apply Kd.V_drew));exact HO_0.out⟩,⟨by (with_reducible repeat (first|apply Kd.R_alloc|apply Kd.R_drewN|apply Kd.R_drew));exact HO_4.out⟩,⟨by repeat (first|(with_reducible first|exact HB.out|apply below_alloc|apply pw_below_drewN|apply below_drew1)|exact HB.out)⟩⟩
   case rest =>
    clear HC2
    try clear p2
    try clear c3
    try clear c3b0
    try clear c3b1
    try clear c5
    obtain ⟨kq,x21_1,rfl,HA,HJ1,HO_0,HO_4,HB⟩:=hcut
    cases kq with
    | zero=>exact absurd HA.out (by simp [block_entries.j1])
    | succ kj1 =>
     have H:=HA.out
     clear HA
     simp only [block_entries.j1] at H
     by_cases c7 : x21_1 = true
     ·subst c7
      have H1 : (if ((x4_1.length : Int) % 4) = 0 then (block_entries.j2 kj1 x0_1 x4_1 (⟨#[]⟩ : ByteArray)) else (block_entries.j2 kj1 x0_1 x4_1 x5_1)) = some (r1,r2):=by rw [if_pos rfl] at H;exact H
      clear H
      have H:=H1
      clear H1
      have HC8:=Aside0.mk H
      clear H
      obtain ⟨Ao9,co9,eo9⟩:=Kd.R_slice HO_4.out
      subst eo9
      go_upto_if 25 with (fail)
      go_cut [5] (fun v5 wc=>∃ (kq : Nat) (x5_7 : ByteArray),v5 = .string x5_7 ∧ Aside0 (block_entries.j2 kq x0_1 x4_1 x5_7 = some (r1,r2)) ∧ Aside0 (kq ≤ kj1) ∧ Aside0 (Kd.V (Kd.int .u8) 5 wc w.heap.size (fun k_=>(P0_ k_ ∨ w.heap.size ≤ k_) ∧ some k_ ≠ ((.slice Ao9 x4_1.length co9) : Value).ownBlock) u0 x0_1) ∧ Aside0 (Kd.R k59 59 wc w.heap.size (fun k_=>(w.heap.size ≤ k_)) (.slice Ao9 x4_1.length co9) x4_1) ∧ Aside0 (Below w.heap.size w wc))
      case first =>
       have H:=HC8.out
       clear HC8
       by_cases c10 : ((x4_1.length : Int) % 4) = 0
       ·rw [if_pos c10] at H
        have c10b0 : (((x4_1.length : Int) % 4) == 0) = true:=beq_iff_eq.mpr c10
        have c10b1 : (((x4_1.length : Int) % 4) != 0) = false:=bne_eq_false_iff_eq.mpr c10
        clear c10
        (first|rw [c10b0]|(simp only [i64_w,i32_w];rw [c10b0])|skip)
        have H':=Aside0.mk H
        clear H
        go_wp2
        go_meet
        case rel=>exact ⟨_,((⟨#[]⟩ : ByteArray)),(by first|rfl|(simp;done)|(simp [*];done)),H',⟨by have:=HK1.out;have:=HJ1.out;first|omega|exact Nat.le_refl _⟩,⟨by (with_reducible repeat (first|apply Kd.V_alloc|apply Kd.V_drewN|apply Kd.V_drew));exact HO_0.out⟩,⟨by (with_reducible repeat (first|apply Kd.R_alloc|apply Kd.R_drewN|apply Kd.R_drew));exact HO_4.out⟩,⟨by repeat (first|(with_reducible first|exact HB.out|apply below_alloc|apply pw_below_drewN|apply below_drew1)|exact HB.out)⟩⟩
       ·rw [if_neg c10] at H
        have c10b0 : (((x4_1.length : Int) % 4) == 0) = false:=beq_eq_false_iff_ne.mpr c10
        have c10b1 : (((x4_1.length : Int) % 4) != 0) = true:=bne_iff_ne.mpr c10
        (first|rw [c10b0]|(simp only [i64_w,i32_w];rw [c10b0])|skip)
        have H':=Aside0.mk H
        clear H
        go_wp2
        go_meet
        case rel=>exact ⟨_,(x5_1),(by first|rfl|(simp;done)|(simp [*];done)),H',⟨by have:=HK1.out;have:=HJ1.out;first|omega|exact Nat.le_refl _⟩,⟨by (with_reducible repeat (first|apply Kd.V_alloc|apply Kd.V_drewN|apply Kd.V_drew));exact HO_0.out⟩,⟨by (with_reducible repeat (first|apply Kd.R_alloc|apply Kd.R_drewN|apply Kd.R_drew));exact HO_4.out⟩,⟨by repeat (first|(with_reducible first|exact HB.out|apply below_alloc|apply pw_below_drewN|apply below_drew1)|exact HB.out)⟩⟩
      case rest =>
       clear HC8
       try clear c1
       try clear p2
       try clear c3
       try clear c3b0
       try clear c3b1
       try clear c5
       try clear c7
       try clear c10
       try clear c10b0
       try clear c10b1
       try clear p2
       obtain ⟨kq,x5_7,rfl,HA,HJ7,HO_0,HO_4,HB⟩:=hcut
       cases kq with
       | zero=>exact absurd HA.out (by simp [block_entries.j2])
       | succ kj7 =>
        have H:=HA.out
        clear HA
        simp only [block_entries.j2] at H
        replace H:=Option.bind_eq_some_iff.mp H
        obtain ⟨⟨t176,t177,t178⟩,A110,H⟩:=H
        replace H : ((nums_TakeText.f t177 64).bind fun bt181=>((nums_Take.f bt181.2.1).bind fun bt186=>(if t178 = true then (if bt181.2.2 = true then (if bt186.2.2 = true then (block_entries.j3 kj7 x4_1 x5_7 t176 bt186.2.1 bt181.1 bt186.1 (decide (t176 > (IntKind.u64.wrap ((x5_7.size : Int)))))) else (block_entries.j3 kj7 x4_1 x5_7 t176 bt186.2.1 bt181.1 bt186.1 true)) else (block_entries.j3 kj7 x4_1 x5_7 t176 bt186.2.1 bt181.1 bt186.1 true)) else (block_entries.j3 kj7 x4_1 x5_7 t176 bt186.2.1 bt181.1 bt186.1 true)))) = some (r1,r2):=H
        have A11:=Aside0.mk A110
        clear A110
        replace H:=Option.bind_eq_some_iff.mp H
        obtain ⟨⟨t181,t182,t183⟩,A120,H⟩:=H
        replace H : ((nums_Take.f t182).bind fun bt186=>(if t178 = true then (if t183 = true then (if bt186.2.2 = true then (block_entries.j3 kj7 x4_1 x5_7 t176 bt186.2.1 t181 bt186.1 (decide (t176 > (IntKind.u64.wrap ((x5_7.size : Int)))))) else (block_entries.j3 kj7 x4_1 x5_7 t176 bt186.2.1 t181 bt186.1 true)) else (block_entries.j3 kj7 x4_1 x5_7 t176 bt186.2.1 t181 bt186.1 true)) else (block_entries.j3 kj7 x4_1 x5_7 t176 bt186.2.1 t181 bt186.1 true))) = some (r1,r2):=H
        have A12:=Aside0.mk A120
        clear A120
        replace H:=Option.bind_eq_some_iff.mp H
        obtain ⟨⟨t186,t187,t188⟩,A130,H⟩:=H
        replace H : (if t178 = true then (if t183 = true then (if t188 = true then (block_entries.j3 kj7 x4_1 x5_7 t176 t187 t181 t186 (decide (t176 > (IntKind.u64.wrap ((x5_7.size : Int)))))) else (block_entries.j3 kj7 x4_1 x5_7 t176 t187 t181 t186 true)) else (block_entries.j3 kj7 x4_1 x5_7 t176 t187 t181 t186 true)) else (block_entries.j3 kj7 x4_1 x5_7 t176 t187 t181 t186 true)) = some (r1,r2):=H
        have A13:=Aside0.mk A130
        clear A130
        have HC14:=Aside0.mk H
        clear H
        obtain ⟨Ao15,co15,eo15⟩:=Kd.V_slice HO_0.out
        subst eo15
        go_upto_region 9 with (first|((with_reducible refine gate_callee (f:=86) rfl ?_);refine goesL_ (some 28) rfl rfl Try.func86 (by kernel_rfl) rfl #[.slice Ao15 x0_1.length co15] rfl (by (try simp only [List.map_toArray,List.map_cons,List.map_nil]);first|done|rfl|(simp only [List.length_drop,List.length_take];rfl)) ?_;(with_reducible refine (nums_Take.calls _ _ x0_1 t176 t177 t178 _ ?side1 ?side2 A11.out).mono ?_);(case side1=>repeat (first|exact (Kd.V_reads' HO_0.out).2.2|(with_reducible refine Kd.C_alloc ?_ _)|(with_reducible refine Kd.C_drewN ?_ _)|(with_reducible refine Kd.C_drew ?_)));(case side2=>exact (Kd.V_reads' HO_0.out).2.1);rintro e w16 ⟨v179,rfl,ho0,hb⟩;refine ⟨_,rfl,?_⟩;have n0_:=Aside0.mk (Kd.V_elder' (by (with_reducible repeat (first|apply Kd.V_alloc|apply Kd.V_drewN|apply Kd.V_drew));exact HO_0.out) (Kd.R_base ho0) hb);have n1_:=Aside0.mk (Kd.R_below (by (with_reducible repeat (first|apply Kd.R_alloc|apply Kd.R_drewN|apply Kd.R_drew));exact HO_4.out) hb);have n2_:=Aside0.mk (Kd.R_lower (Kd.R_newM (M:=fun k_=>(w.heap.size ≤ k_)) ho0 (below_size (by repeat (first|(with_reducible first|exact HB.out|apply below_alloc|apply pw_below_drewN|apply below_drew1)|exact HB.out))) (fun k_ h_=>h_)) (below_size (by repeat (first|(with_reducible first|exact HB.out|apply below_alloc|apply pw_below_drewN|apply below_drew1)|exact HB.out))));have n3_:=Aside0.mk (below_step (by repeat (first|(with_reducible first|exact HB.out|apply below_alloc|apply pw_below_drewN|apply below_drew1)|exact HB.out)) hb);clear HO_0;clear HO_4;clear HB;have HO_0:=n0_;have HO_4:=n1_;have HO180:=n2_;have HB:=n3_;clear n0_ n1_ n2_ n3_;(try clear hb);(try clear hb2);(try clear hk);(try clear hi);(try clear ho0);obtain ⟨Ao17,co17,eo17⟩:=Kd.R_slice HO180.out;subst eo17)|((with_reducible refine gate_callee (f:=87) rfl ?_);refine goesL_ (some 34) rfl rfl Try.func87 (by kernel_rfl) rfl #[.slice Ao17 t177.length co17,.int .i64 64] rfl (by (try simp only [List.map_toArray,List.map_cons,List.map_nil]);first|done|rfl|(simp only [List.length_drop,List.length_take];rfl)) ?_;(with_reducible refine (nums_TakeText.calls _ _ t177 64 t181 t182 t183 _ ?side1 ?side2 A12.out).mono ?_);(case side1=>repeat (first|exact (Kd.R_reads' HO180.out).2.2|(with_reducible refine Kd.C_alloc ?_ _)|(with_reducible refine Kd.C_drewN ?_ _)|(with_reducible refine Kd.C_drew ?_)));(case side2=>exact (Kd.R_reads' HO180.out).2.1);rintro e w18 ⟨v184,rfl,ho0,hb⟩;refine ⟨_,rfl,?_⟩;have n0_:=Aside0.mk (Kd.V_elder' (by (with_reducible repeat (first|apply Kd.V_alloc|apply Kd.V_drewN|apply Kd.V_drew));exact HO_0.out) (Kd.R_base ho0) hb);have n1_:=Aside0.mk (Kd.R_below (by (with_reducible repeat (first|apply Kd.R_alloc|apply Kd.R_drewN|apply Kd.R_drew));exact HO_4.out) hb);have n2_:=Aside0.mk (Kd.R_elder' (by (with_reducible repeat (first|apply Kd.R_alloc|apply Kd.R_drewN|apply Kd.R_drew));exact HO180.out) (Kd.R_base ho0) hb);have n3_:=Aside0.mk (Kd.R_lower (Kd.R_new' (Kd.R_newM (M:=fun k_=>(w.heap.size ≤ k_)) ho0 (below_size (by repeat (first|(with_reducible first|exact HB.out|apply below_alloc|apply pw_below_drewN|apply below_drew1)|exact HB.out))) (fun k_ h_=>h_)) (Kd.R_lt (by (with_reducible repeat (first|apply Kd.R_alloc|apply Kd.R_drewN|apply Kd.R_drew));exact HO180.out))) (below_size (by repeat (first|(with_reducible first|exact HB.out|apply below_alloc|apply pw_below_drewN|apply below_drew1)|exact HB.out))));have n4_:=Aside0.mk (below_step (by repeat (first|(with_reducible first|exact HB.out|apply below_alloc|apply pw_below_drewN|apply below_drew1)|exact HB.out)) hb);clear HO_0;clear HO_4;clear HO180;clear HB;have HO_0:=n0_;have HO_4:=n1_;have HO180:=n2_;have HO185:=n3_;have HB:=n4_;clear n0_ n1_ n2_ n3_ n4_;(try clear hb);(try clear hb2);(try clear hk);(try clear hi);(try clear ho0);obtain ⟨Ao19,co19,eo19⟩:=Kd.R_slice HO185.out;subst eo19)|((with_reducible refine gate_callee (f:=86) rfl ?_);refine goesL_ (some 40) rfl rfl Try.func86 (by kernel_rfl) rfl #[.slice Ao19 t182.length co19] rfl (by (try simp only [List.map_toArray,List.map_cons,List.map_nil]);first|done|rfl|(simp only [List.length_drop,List.length_take];rfl)) ?_;(with_reducible refine (nums_Take.calls _ _ t182 t186 t187 t188 _ ?side1 ?side2 A13.out).mono ?_);(case side1=>repeat (first|exact (Kd.R_reads' HO185.out).2.2|(with_reducible refine Kd.C_alloc ?_ _)|(with_reducible refine Kd.C_drewN ?_ _)|(with_reducible refine Kd.C_drew ?_)));(case side2=>exact (Kd.R_reads' HO185.out).2.1);rintro e w20 ⟨v189,rfl,ho0,hb⟩;refine ⟨_,rfl,?_⟩;have n0_:=Aside0.mk (Kd.V_elder' (by (with_reducible repeat (first|apply Kd.V_alloc|apply Kd.V_drewN|apply Kd.V_drew));exact HO_0.out) (Kd.R_base ho0) hb);have n1_:=Aside0.mk (Kd.R_below (by (with_reducible repeat (first|apply Kd.R_alloc|apply Kd.R_drewN|apply Kd.R_drew));exact HO_4.out) hb);have n2_:=Aside0.mk (Kd.R_elder' (by (with_reducible repeat (first|apply Kd.R_alloc|apply Kd.R_drewN|apply Kd.R_drew));exact HO180.out) (Kd.R_base ho0) hb);have n3_:=Aside0.mk (Kd.R_elder' (by (with_reducible repeat (first|apply Kd.R_alloc|apply Kd.R_drewN|apply Kd.R_drew));exact HO185.out) (Kd.R_base ho0) hb);have n4_:=Aside0.mk (Kd.R_lower (Kd.R_new' (Kd.R_new' (Kd.R_newM (M:=fun k_=>(w.heap.size ≤ k_)) ho0 (below_size (by repeat (first|(with_reducible first|exact HB.out|apply below_alloc|apply pw_below_drewN|apply below_drew1)|exact HB.out))) (fun k_ h_=>h_)) (Kd.R_lt (by (with_reducible repeat (first|apply Kd.R_alloc|apply Kd.R_drewN|apply Kd.R_drew));exact HO180.out))) (Kd.R_lt (by (with_reducible repeat (first|apply Kd.R_alloc|apply Kd.R_drewN|apply Kd.R_drew));exact HO185.out))) (below_size (by repeat (first|(with_reducible first|exact HB.out|apply below_alloc|apply pw_below_drewN|apply below_drew1)|exact HB.out))));have n5_:=Aside0.mk (below_step (by repeat (first|(with_reducible first|exact HB.out|apply below_alloc|apply pw_below_drewN|apply below_drew1)|exact HB.out)) hb);clear HO_0;clear HO_4;clear HO180;clear HO185;clear HB;have HO_0:=n0_;have HO_4:=n1_;have HO180:=n2_;have HO185:=n3_;have HO190:=n4_;have HB:=n5_;clear n0_ n1_ n2_ n3_ n4_ n5_;(try clear hb);(try clear hb2);(try clear hk);(try clear hi);(try clear ho0)))
        (try simp only [Act.put,List.setIfInBounds_toArray,List.set_cons_zero,List.set_cons_succ])
        go_cut [60] (fun v60 wc=>∃ (kq : Nat) (x60_13 : Bool),v60 = .bool x60_13 ∧ Aside0 (block_entries.j3 kq x4_1 x5_7 t176 t187 t181 t186 x60_13 = some (r1,r2)) ∧ Aside0 (kq ≤ kj7) ∧ Aside0 (Kd.R k59 59 wc w.heap.size (fun k_=>(w.heap.size ≤ k_)) (.slice Ao9 x4_1.length co9) x4_1) ∧ Aside0 (Kd.R (Kd.int .u8) 5 wc w.heap.size (fun k_=>(w.heap.size ≤ k_)) v189 t187) ∧ Aside0 (Below w.heap.size w wc))
        case first =>
         have H:=HC14.out
         clear HC14
         by_cases c21 : t178 = true
         ·subst c21
          have H1 : (if t183 = true then (if t188 = true then (block_entries.j3 kj7 x4_1 x5_7 t176 t187 t181 t186 (decide (t176 > (IntKind.u64.wrap ((x5_7.size : Int)))))) else (block_entries.j3 kj7 x4_1 x5_7 t176 t187 t181 t186 true)) else (block_entries.j3 kj7 x4_1 x5_7 t176 t187 t181 t186 true)) = some (r1,r2):=by rw [if_pos rfl] at H;exact H
          clear H
          have H:=H1
          clear H1
          by_cases c22 : t183 = true
          ·subst c22
           have H1 : (if t188 = true then (block_entries.j3 kj7 x4_1 x5_7 t176 t187 t181 t186 (decide (t176 > (IntKind.u64.wrap ((x5_7.size : Int)))))) else (block_entries.j3 kj7 x4_1 x5_7 t176 t187 t181 t186 true)) = some (r1,r2):=by rw [if_pos rfl] at H;exact H
           clear H
           have H:=H1
           clear H1
           by_cases c23 : t188 = true
           ·subst c23
            have H1 : (block_entries.j3 kj7 x4_1 x5_7 t176 t187 t181 t186 (decide (t176 > (IntKind.u64.wrap ((x5_7.size : Int)))))) = some (r1,r2):=by rw [if_pos rfl] at H;exact H
            clear H
            have H:=H1
            clear H1
            have H':=Aside0.mk H
            clear H
            go_wp2
            go_meet
            case rel=>exact ⟨_,(decide (t176 > (IntKind.u64.wrap ((x5_7.size : Int))))),(by first|rfl|(simp;done)|(simp [*];done)),H',⟨by have:=HK1.out;have:=HJ1.out;have:=HJ7.out;first|omega|exact Nat.le_refl _⟩,⟨by (with_reducible repeat (first|apply Kd.R_alloc|apply Kd.R_drewN|apply Kd.R_drew));exact HO_4.out⟩,⟨by (with_reducible repeat (first|apply Kd.R_alloc|apply Kd.R_drewN|apply Kd.R_drew));exact Kd.R_mono HO190.out (fun _ hk=>hk.1.1.1)⟩,⟨by repeat (first|(with_reducible first|exact HB.out|apply below_alloc|apply pw_below_drewN|apply below_drew1)|exact HB.out)⟩⟩
           ·replace c23:=Bool.eq_false_iff.mpr c23
            subst c23
            have H1 : (block_entries.j3 kj7 x4_1 x5_7 t176 t187 t181 t186 true) = some (r1,r2):=by rw [if_neg (show ¬ (false = true) by decide)] at H;exact H
            clear H
            have H:=H1
            clear H1
            have H':=Aside0.mk H
            clear H
            go_wp2
            go_meet
            case rel=>exact ⟨_,(true),(by first|rfl|(simp;done)|(simp [*];done)),H',⟨by have:=HK1.out;have:=HJ1.out;have:=HJ7.out;first|omega|exact Nat.le_refl _⟩,⟨by (with_reducible repeat (first|apply Kd.R_alloc|apply Kd.R_drewN|apply Kd.R_drew));exact HO_4.out⟩,⟨by (with_reducible repeat (first|apply Kd.R_alloc|apply Kd.R_drewN|apply Kd.R_drew));exact Kd.R_mono HO190.out (fun _ hk=>hk.1.1.1)⟩,⟨by repeat (first|(with_reducible first|exact HB.out|apply below_alloc|apply pw_below_drewN|apply below_drew1)|exact HB.out)⟩⟩
          ·replace c22:=Bool.eq_false_iff.mpr c22
           subst c22
           have H1 : (block_entries.j3 kj7 x4_1 x5_7 t176 t187 t181 t186 true) = some (r1,r2):=by rw [if_neg (show ¬ (false = true) by decide)] at H;exact H
           clear H
           have H:=H1
           clear H1
           have H':=Aside0.mk H
           clear H
           go_wp2
           go_meet
           case rel=>exact ⟨_,(true),(by first|rfl|(simp;done)|(simp [*];done)),H',⟨by have:=HK1.out;have:=HJ1.out;have:=HJ7.out;first|omega|exact Nat.le_refl _⟩,⟨by (with_reducible repeat (first|apply Kd.R_alloc|apply Kd.R_drewN|apply Kd.R_drew));exact HO_4.out⟩,⟨by (with_reducible repeat (first|apply Kd.R_alloc|apply Kd.R_drewN|apply Kd.R_drew));exact Kd.R_mono HO190.out (fun _ hk=>hk.1.1.1)⟩,⟨by repeat (first|(with_reducible first|exact HB.out|apply below_alloc|apply pw_below_drewN|apply below_drew1)|exact HB.out)⟩⟩
         ·replace c21:=Bool.eq_false_iff.mpr c21
          subst c21
          have H1 : (block_entries.j3 kj7 x4_1 x5_7 t176 t187 t181 t186 true) = some (r1,r2):=by rw [if_neg (show ¬ (false = true) by decide)] at H;exact H
          clear H
          have H:=H1
          clear H1
          have H':=Aside0.mk H
          clear H
          go_wp2
          go_meet
          case rel=>exact ⟨_,(true),(by first|rfl|(simp;done)|(simp [*];done)),H',⟨by have:=HK1.out;have:=HJ1.out;have:=HJ7.out;first|omega|exact Nat.le_refl _⟩,⟨by (with_reducible repeat (first|apply Kd.R_alloc|apply Kd.R_drewN|apply Kd.R_drew));exact HO_4.out⟩,⟨by (with_reducible repeat (first|apply Kd.R_alloc|apply Kd.R_drewN|apply Kd.R_drew));exact Kd.R_mono HO190.out (fun _ hk=>hk.1.1.1)⟩,⟨by repeat (first|(with_reducible first|exact HB.out|apply below_alloc|apply pw_below_drewN|apply below_drew1)|exact HB.out)⟩⟩
        case rest =>
         clear HC14
         try clear c1
         try clear c2
         try clear p2
         try clear c3
         try clear c3b0
         try clear c3b1
         try clear c5
         try clear c7
         try clear c8
         try clear c10
         try clear c10b0
         try clear c10b1
         try clear c21
         try clear c22
         try clear c23
         try clear p2
         obtain ⟨kq,x60_13,rfl,HA,HJ13,HO_4,HO_7,HB⟩:=hcut
         cases kq with
         | zero=>exact absurd HA.out (by simp [block_entries.j3])
         | succ kj13 =>
          have H:=HA.out
          clear HA
          simp only [block_entries.j3] at H
          by_cases c24 : x60_13 = true
          ·subst c24
           have H1 : (some (([] : List (S59)),false)) = some (r1,r2):=by rw [if_pos rfl] at H;exact H
           clear H
           have H:=H1
           clear H1
           simp only [Option.some.injEq,Prod.mk.injEq] at H
           obtain ⟨rfl,rfl⟩:=H
           go_wp2
           go_ret2
           exact ⟨_,by first|rfl|(simp [errW_none,errW_some] <;> rfl)|(simp [*,errW_none,errW_some] <;> rfl),by first|exact Kd.R_nil _ _ _ _ _|exact Kd.N_nil _ _ _ _ _|exact Kd.V_nil _ _ _ _ _|exact Kd.Q_nil _ _ _ _ _|exact Kd.S_nil _ _ _ _ _,by repeat (first|(with_reducible first|exact HB.out|apply below_alloc|apply pw_below_drewN|apply below_drew1)|exact HB.out)⟩
          ·replace c24:=Bool.eq_false_iff.mpr c24
           subst c24
           have H1 : (if 0 ≤ t176 then (if t176 ≤ (x5_7.size : Int) then (if (x5_7.extract 0 (t176 : Int).toNat).size + t181.size ≤ 9223372036854775807 then (if ((Go.bits .and .u64 t186 1) % 256) = 1 then ((nums_TakeText.f t187 256).bind fun bt192=>(if bt192.2.2 = true then (if x4_1.length < 2932031007402 then (block_entries.l0 kj13 bt192.2.1 (x4_1 ++ [(⟨(⟨(x5_7.extract 0 (t176 : Int).toNat) ++ t181,t186 / 2,(Go.bits .and .u64 t186 1) % 256⟩ : S50),bt192.1⟩ : S59)]) ((x5_7.extract 0 (t176 : Int).toNat) ++ t181)) else (none)) else (some (([] : List (S59)),false)))) else (if x4_1.length < 2932031007402 then (block_entries.l0 kj13 t187 (x4_1 ++ [(⟨(⟨(x5_7.extract 0 (t176 : Int).toNat) ++ t181,t186 / 2,(Go.bits .and .u64 t186 1) % 256⟩ : S50),(⟨#[]⟩ : ByteArray)⟩ : S59)]) ((x5_7.extract 0 (t176 : Int).toNat) ++ t181)) else (none))) else (none)) else (none)) else (none)) = some (r1,r2):=by rw [if_neg (show ¬ (false = true) by decide)] at H;exact H
           clear H
           have H:=H1
           clear H1
           by_cases c25 : 0 ≤ t176
           ·rw [if_pos c25] at H
            have c25b0:=eq_true c25
            have c25b1 : decide (0 ≤ t176) = true:=decide_eq_true c25
            clear c25
            by_cases c26 : t176 ≤ (x5_7.size : Int)
            ·rw [if_pos c26] at H
             have c26b0:=eq_true c26
             have c26b1 : decide (t176 ≤ (x5_7.size : Int)) = true:=decide_eq_true c26
             clear c26
             by_cases c27 : (x5_7.extract 0 (t176 : Int).toNat).size + t181.size ≤ 9223372036854775807
             ·rw [if_pos c27] at H
              have c27b0:=eq_true c27
              have c27b1 : decide ((x5_7.extract 0 (t176 : Int).toNat).size + t181.size ≤ 9223372036854775807) = true:=decide_eq_true c27
              try have c27b2 : (9223372036854775807 < (x5_7.extract 0 (t176 : Int).toNat).size + t181.size) = False:=eq_false (Nat.not_lt.2 c27)
              by_cases c28 : ((Go.bits .and .u64 t186 1) % 256) = 1
              ·rw [if_pos c28] at H
               have c28b0 : (((Go.bits .and .u64 t186 1) % 256) == 1) = true:=beq_iff_eq.mpr c28
               have c28b1 : (((Go.bits .and .u64 t186 1) % 256) != 1) = false:=bne_eq_false_iff_eq.mpr c28
               clear c28
               replace H:=Option.bind_eq_some_iff.mp H
               obtain ⟨⟨t192,t193,t194⟩,A290,H⟩:=H
               replace H : (if t194 = true then (if x4_1.length < 2932031007402 then (block_entries.l0 kj13 t193 (x4_1 ++ [(⟨(⟨(x5_7.extract 0 (t176 : Int).toNat) ++ t181,t186 / 2,(Go.bits .and .u64 t186 1) % 256⟩ : S50),t192⟩ : S59)]) ((x5_7.extract 0 (t176 : Int).toNat) ++ t181)) else (none)) else (some (([] : List (S59)),false))) = some (r1,r2):=H
               have A29:=Aside0.mk A290
               clear A290
               by_cases c30 : t194 = true
               ·subst c30
                have H1 : (if x4_1.length < 2932031007402 then (block_entries.l0 kj13 t193 (x4_1 ++ [(⟨(⟨(x5_7.extract 0 (t176 : Int).toNat) ++ t181,t186 / 2,(Go.bits .and .u64 t186 1) % 256⟩ : S50),t192⟩ : S59)]) ((x5_7.extract 0 (t176 : Int).toNat) ++ t181)) else (none)) = some (r1,r2):=by rw [if_pos rfl] at H;exact H
                clear H
                have H:=H1
                clear H1
                by_cases c31 : x4_1.length < 2932031007402
                ·rw [if_pos c31] at H
                 have LMc31:=Aside0.mk c31
                 clear c31
                 obtain ⟨y197,hy197⟩ : ∃ y_ : List (S59),y_ = (x4_1 ++ [(⟨(⟨(x5_7.extract 0 (t176 : Int).toNat) ++ t181,t186 / 2,(Go.bits .and .u64 t186 1) % 256⟩ : S50),t192⟩ : S59)]):=⟨_,rfl⟩
                 replace H : (block_entries.l0 kj13 t193 y197 ((x5_7.extract 0 (t176 : Int).toNat) ++ t181)) = some (r1,r2):=by first|(rw [hy197];with_reducible exact H)|(have H2_:=(Option.bind_some _ _).symm.trans H;rw [hy197];with_reducible exact H2_)|(have H2_:=(Option.bind_some _ _).symm.trans H;with_reducible exact H2_)|with_reducible exact H|(rw [hy197];exact H)|exact H
                 have Ny197:=Aside0.mk hy197
                 clear hy197
                 have H':=Aside0.mk H
                 clear H
                 try go_wp2_with (first|((with_reducible refine gate_dst (N:=13) rfl ?_);(try (refine gate_guard (by rfl) ?_;dsimp only));refine box_event ?hg (N:=13) ?hd (cs:=#[.string (⟨#[]⟩ : ByteArray),.int .u64 0,.int .u8 0,.string (⟨#[]⟩ : ByteArray)]) (t:=59) ?hr ?_;(case hd=>rfl);(case hg=>rfl);(case hr=>first|(go_simp;done)|(go_simp;rfl));intro gb191 hg w32 hbox hb;have n0_:=Aside0.mk (Kd.R_below (Kd.R_elderB (by (with_reducible repeat (first|apply Kd.R_alloc|apply Kd.R_drewN|apply Kd.R_drew));exact HO_4.out) gb191 (Nat.le_of_eq hg.symm)) hb);have n1_:=Aside0.mk (Kd.R_below (by (with_reducible repeat (first|apply Kd.R_alloc|apply Kd.R_drewN|apply Kd.R_drew));exact HO_7.out) hb);have n2_:=Aside0.mk (below_step (by repeat (first|(with_reducible first|exact HB.out|apply below_alloc|apply pw_below_drewN|apply below_drew1)|exact HB.out)) hb);have n3_:=Aside0.mk (hbox);have n4_:=Aside0.mk ((by rw [hg];exact (below_size (by repeat (first|(with_reducible first|exact HB.out|apply below_alloc|apply pw_below_drewN|apply below_drew1)|exact HB.out))) : w.heap.size ≤ gb191));have n5_:=Aside0.mk ((by rw [hg];exact (below_size (by repeat (first|(with_reducible first|exact HB.out|apply below_alloc|apply pw_below_drewN|apply below_drew1)|exact HB.out))) : w.heap.size ≤ gb191));clear HO_4;clear HO_7;clear HB;have HO_4:=n0_;have HO_7:=n1_;have HB:=n2_;have BK191:=n3_;have GW191:=n4_;have GE191:=n5_;clear n0_ n1_ n2_ n3_ n4_ n5_;clear hb hbox hg;have hcz33_0 : w32.cell? ⟨gb191,0,none⟩ = some (.string (⟨#[]⟩ : ByteArray)):=(blk_cell BK191.out 0).trans rfl;have hcz33_1 : w32.cell? ⟨gb191,1,none⟩ = some (.int .u64 0):=(blk_cell BK191.out 1).trans rfl;have hcz33_2 : w32.cell? ⟨gb191,2,none⟩ = some (.int .u8 0):=(blk_cell BK191.out 2).trans rfl;have hcz33_3 : w32.cell? ⟨gb191,3,none⟩ = some (.string (⟨#[]⟩ : ByteArray)):=(blk_cell BK191.out 3).trans rfl;have hfz33_0:=blk_frozen BK191.out 0;have hfz33_1:=blk_frozen BK191.out 1;have hfz33_2:=blk_frozen BK191.out 2;have hfz33_3:=blk_frozen BK191.out 3;obtain ⟨Ao34,co34,eo34⟩:=Kd.R_slice HO_7.out;subst eo34)|((with_reducible refine gate_callee (f:=87) rfl ?_);refine goesL_ (some 79) rfl rfl Try.func87 (by kernel_rfl) rfl #[.slice Ao34 t187.length co34,.int .i64 256] rfl (by (try simp only [List.map_toArray,List.map_cons,List.map_nil]);first|done|rfl|(simp only [List.length_drop,List.length_take];rfl)) ?_;(with_reducible refine (nums_TakeText.calls _ _ t187 256 t192 t193 true _ ?side1 ?side2 A29.out).mono ?_);(case side1=>refine (Kd.R_reads' (e:=5) (base:=w.heap.size) (ok:=fun k_=>(w.heap.size ≤ k_)) (n:=t187.length) (c:=co34) ?_).2.2;exact (by (with_reducible repeat (first|apply Kd.R_alloc|apply Kd.R_drewN|apply Kd.R_drew));exact (Kd.R_mono (Kd.R_far (p:=⟨gb191,3,none⟩) (Kd.R_far (p:=⟨gb191,2,none⟩) (Kd.R_far (p:=⟨gb191,1,none⟩) (Kd.R_far (p:=⟨gb191,0,none⟩) (Kd.R_types HO_7.out BK191.out (by decide)) (fun _ hk=>hk.2) (.string ((x5_7.extract 0 (t176 : Int).toNat) ++ t181))) (fun _ hk=>hk.2) (.int .u64 (t186 / 2))) (fun _ hk=>hk.2) (.int .u8 ((Go.bits .and .u64 t186 1) % 256))) (fun _ hk=>hk.2) (.string (⟨#[]⟩ : ByteArray))) (fun _ h_=>h_.1))));(case side2=>exact (Kd.R_reads' HO_7.out).2.1);rintro e w35 ⟨v195,rfl,ho0,hb⟩;refine ⟨_,rfl,?_⟩;have n0_:=Aside0.mk (Kd.R_below (by (with_reducible repeat (first|apply Kd.R_alloc|apply Kd.R_drewN|apply Kd.R_drew));exact (Kd.R_mono (Kd.R_far (p:=⟨gb191,3,none⟩) (Kd.R_far (p:=⟨gb191,2,none⟩) (Kd.R_far (p:=⟨gb191,1,none⟩) (Kd.R_far (p:=⟨gb191,0,none⟩) (Kd.R_mono HO_4.out (fun k_ hk=>(⟨hk,hk.2⟩ : _ ∧ k_ ≠ gb191))) (fun _ hk=>hk.2) (.string ((x5_7.extract 0 (t176 : Int).toNat) ++ t181))) (fun _ hk=>hk.2) (.int .u64 (t186 / 2))) (fun _ hk=>hk.2) (.int .u8 ((Go.bits .and .u64 t186 1) % 256))) (fun _ hk=>hk.2) (.string (⟨#[]⟩ : ByteArray))) (fun _ h_=>h_.1))) hb);have n1_:=Aside0.mk (Kd.R_elder' (by (with_reducible repeat (first|apply Kd.R_alloc|apply Kd.R_drewN|apply Kd.R_drew));exact (Kd.R_mono (Kd.R_far (p:=⟨gb191,3,none⟩) (Kd.R_far (p:=⟨gb191,2,none⟩) (Kd.R_far (p:=⟨gb191,1,none⟩) (Kd.R_far (p:=⟨gb191,0,none⟩) (Kd.R_types HO_7.out BK191.out (by decide)) (fun _ hk=>hk.2) (.string ((x5_7.extract 0 (t176 : Int).toNat) ++ t181))) (fun _ hk=>hk.2) (.int .u64 (t186 / 2))) (fun _ hk=>hk.2) (.int .u8 ((Go.bits .and .u64 t186 1) % 256))) (fun _ hk=>hk.2) (.string (⟨#[]⟩ : ByteArray))) (fun _ h_=>h_.1))) (Kd.R_base ho0) hb);have n2_:=Aside0.mk (Kd.R_lower (Kd.R_new' (Kd.R_newM (M:=fun k_=>(w.heap.size ≤ k_)) ho0 (below_size (by repeat (first|(with_reducible first|exact HB.out|apply below_alloc|apply pw_below_drewN|apply below_drew1|refine below_set ?_ GE191.out)|exact HB.out))) (fun k_ h_=>h_)) (Kd.R_lt (by (with_reducible repeat (first|apply Kd.R_alloc|apply Kd.R_drewN|apply Kd.R_drew));exact (Kd.R_mono (Kd.R_far (p:=⟨gb191,3,none⟩) (Kd.R_far (p:=⟨gb191,2,none⟩) (Kd.R_far (p:=⟨gb191,1,none⟩) (Kd.R_far (p:=⟨gb191,0,none⟩) (Kd.R_types HO_7.out BK191.out (by decide)) (fun _ hk=>hk.2) (.string ((x5_7.extract 0 (t176 : Int).toNat) ++ t181))) (fun _ hk=>hk.2) (.int .u64 (t186 / 2))) (fun _ hk=>hk.2) (.int .u8 ((Go.bits .and .u64 t186 1) % 256))) (fun _ hk=>hk.2) (.string (⟨#[]⟩ : ByteArray))) (fun _ h_=>h_.1))))) (below_size (by repeat (first|(with_reducible first|exact HB.out|apply below_alloc|apply pw_below_drewN|apply below_drew1|refine below_set ?_ GE191.out)|exact HB.out))));have n3_:=Aside0.mk (blk_below (g:=gb191) (o:=.cells #[.string ((x5_7.extract 0 (t176 : Int).toNat) ++ t181),.int .u64 (t186 / 2),.int .u8 ((Go.bits .and .u64 t186 1) % 256),.string (⟨#[]⟩ : ByteArray)] 59 (0,0)) (by (with_reducible repeat (first|refine blk_drewN ?_ _|refine blk_drew ?_|refine blk_alloc ?_ _));refine blk_put (cs:=#[.string ((x5_7.extract 0 (t176 : Int).toNat) ++ t181),.int .u64 (t186 / 2),.int .u8 ((Go.bits .and .u64 t186 1) % 256),.string (⟨#[]⟩ : ByteArray)]) ?_ 3 _ rfl;(with_reducible repeat (first|refine blk_drewN ?_ _|refine blk_drew ?_|refine blk_alloc ?_ _));refine blk_put (cs:=#[.string ((x5_7.extract 0 (t176 : Int).toNat) ++ t181),.int .u64 (t186 / 2),.int .u8 0,.string (⟨#[]⟩ : ByteArray)]) ?_ 2 _ rfl;(with_reducible repeat (first|refine blk_drewN ?_ _|refine blk_drew ?_|refine blk_alloc ?_ _));refine blk_put (cs:=#[.string ((x5_7.extract 0 (t176 : Int).toNat) ++ t181),.int .u64 0,.int .u8 0,.string (⟨#[]⟩ : ByteArray)]) ?_ 1 _ rfl;(with_reducible repeat (first|refine blk_drewN ?_ _|refine blk_drew ?_|refine blk_alloc ?_ _));refine blk_put (cs:=#[.string (⟨#[]⟩ : ByteArray),.int .u64 0,.int .u8 0,.string (⟨#[]⟩ : ByteArray)]) ?_ 0 _ rfl;(with_reducible repeat (first|refine blk_drewN ?_ _|refine blk_drew ?_|refine blk_alloc ?_ _));exact BK191.out) hb);have n4_:=Aside0.mk (below_step (by repeat (first|(with_reducible first|exact HB.out|apply below_alloc|apply pw_below_drewN|apply below_drew1|refine below_set ?_ GE191.out)|exact HB.out)) hb);clear HO_4;clear HO_7;clear BK191;clear HB;have HO_4:=n0_;have HO_7:=n1_;have HO196:=n2_;have BK191:=n3_;have HB:=n4_;clear n0_ n1_ n2_ n3_ n4_;(try clear hb);(try clear hb2);(try clear hk);(try clear hi);(try clear ho0);have hcz36_0 : w35.cell? ⟨gb191,0,none⟩ = some (.string ((x5_7.extract 0 (t176 : Int).toNat) ++ t181)):=(blk_cell BK191.out 0).trans rfl;have hcz36_1 : w35.cell? ⟨gb191,1,none⟩ = some (.int .u64 (t186 / 2)):=(blk_cell BK191.out 1).trans rfl;have hcz36_2 : w35.cell? ⟨gb191,2,none⟩ = some (.int .u8 ((Go.bits .and .u64 t186 1) % 256)):=(blk_cell BK191.out 2).trans rfl;have hcz36_3 : w35.cell? ⟨gb191,3,none⟩ = some (.string (⟨#[]⟩ : ByteArray)):=(blk_cell BK191.out 3).trans rfl;have hfz36_0:=blk_frozen BK191.out 0;have hfz36_1:=blk_frozen BK191.out 1;have hfz36_2:=blk_frozen BK191.out 2;have hfz36_3:=blk_frozen BK191.out 3))
                 have n0_ : Aside0 (Kd.R k59 59 (w35.setCell ⟨gb191,3,none⟩ (.string t192)) w.heap.size (fun k_=>(w.heap.size ≤ k_) ∧ k_ ≠ gb191) (.slice Ao9 x4_1.length co9) x4_1):=⟨by (with_reducible repeat (first|apply Kd.R_alloc|apply Kd.R_drewN|apply Kd.R_drew));exact Kd.R_mono (Kd.R_far (p:=⟨gb191,3,none⟩) (Kd.R_mono HO_4.out (fun k_ hk=>(⟨hk,hk.2⟩ : _ ∧ k_ ≠ gb191))) (fun _ hk=>hk.2) (.string t192)) (fun _ hk=>⟨hk.1.1,hk.1.2⟩)⟩
                 have n1_ : Aside0 (Kd.R (Kd.int .u8) 5 (w35.setCell ⟨gb191,3,none⟩ (.string t192)) w.heap.size (fun k_=>(w.heap.size ≤ k_) ∧ some k_ ≠ (v195 : Value).ownBlock) (.slice Ao34 t187.length co34) t187):=⟨by (with_reducible repeat (first|apply Kd.R_alloc|apply Kd.R_drewN|apply Kd.R_drew));exact Kd.R_mono (Kd.R_far (p:=⟨gb191,3,none⟩) (Kd.R_types HO_7.out BK191.out (by decide)) (fun _ hk=>hk.2) (.string t192)) (fun _ hk=>⟨hk.1.1,hk.1.2⟩)⟩
                 have n2_ : Aside0 (Kd.R (Kd.int .u8) 5 (w35.setCell ⟨gb191,3,none⟩ (.string t192)) w.heap.size (fun k_=>(w.heap.size ≤ k_) ∧ some k_ ≠ (.slice Ao34 t187.length co34 : Value).ownBlock) v195 t193):=⟨by (with_reducible repeat (first|apply Kd.R_alloc|apply Kd.R_drewN|apply Kd.R_drew));exact Kd.R_mono (Kd.R_far (p:=⟨gb191,3,none⟩) (Kd.R_types HO196.out BK191.out (by decide)) (fun _ hk=>hk.2) (.string t192)) (fun _ hk=>⟨hk.1.1.1,hk.1.2⟩)⟩
                 have n3_ : Aside0 ((w35.setCell ⟨gb191,3,none⟩ (.string t192)).heap[gb191]? = some (.cells #[.string ((x5_7.extract 0 (t176 : Int).toNat) ++ t181),.int .u64 (t186 / 2),.int .u8 ((Go.bits .and .u64 t186 1) % 256),.string t192] 59 (0,0))):=⟨by (with_reducible repeat (first|refine blk_drewN ?_ _|refine blk_drew ?_|refine blk_alloc ?_ _));refine blk_put (cs:=#[.string ((x5_7.extract 0 (t176 : Int).toNat) ++ t181),.int .u64 (t186 / 2),.int .u8 ((Go.bits .and .u64 t186 1) % 256),.string (⟨#[]⟩ : ByteArray)]) ?_ 3 _ rfl;(with_reducible repeat (first|refine blk_drewN ?_ _|refine blk_drew ?_|refine blk_alloc ?_ _));exact BK191.out⟩
                 have n4_ : Aside0 (Below w.heap.size w (w35.setCell ⟨gb191,3,none⟩ (.string t192))):=⟨by repeat (first|(with_reducible first|exact HB.out|apply below_alloc|apply pw_below_drewN|apply below_drew1|refine below_set ?_ GE191.out)|exact HB.out)⟩
                 (try clear HO_4)
                 (try clear HO_7)
                 (try clear HO196)
                 (try clear BK191)
                 (try clear HB)
                 generalize (w35.setCell ⟨gb191,3,none⟩ (.string t192)) = w37 at n0_ n1_ n2_ n3_ n4_ ⊢
                 have HO_4:=n0_
                 have HO_7:=n1_
                 have HO196:=n2_
                 have BK191:=n3_
                 have HB:=n4_
                 clear n0_ n1_ n2_ n3_ n4_
                 have n0_:=Aside0.mk (Kd.R_drew HO_4.out)
                 have n1_:=Aside0.mk (Kd.R_drew HO_7.out)
                 have n2_:=Aside0.mk (Kd.R_drew HO196.out)
                 have n3_:=Aside0.mk (blk_drew BK191.out)
                 have n4_:=Aside0.mk (below_drew1 HB.out)
                 clear HO_4
                 clear HO_7
                 clear HO196
                 clear BK191
                 clear HB
                 have HO_4:=n0_
                 have HO_7:=n1_
                 have HO196:=n2_
                 have BK191:=n3_
                 have HB:=n4_
                 clear n0_ n1_ n2_ n3_ n4_
                 refine start_ (n:=11) (S:=fun w'=>w'.cell? ⟨gb191,0,none⟩ = some (.string ((x5_7.extract 0 (t176 : Int).toNat) ++ t181)) ∧ w'.cell? ⟨gb191,1,none⟩ = some (.int .u64 (t186 / 2)) ∧ w'.cell? ⟨gb191,2,none⟩ = some (.int .u8 ((Go.bits .and .u64 t186 1) % 256)) ∧ w'.cell? ⟨gb191,3,none⟩ = some (.string t192)) (ds:=[]) #[false,false,false,false,false,false,false,false,false,false,false] (by kernel_rfl) rfl rfl ⟨(blk_cell BK191.out 0).trans rfl,(blk_cell BK191.out 1).trans rfl,(blk_cell BK191.out 2).trans rfl,(blk_cell BK191.out 3).trans rfl⟩ (fun hHeld=>?_);refine with_tabW block_entries.tab16 block_entries.bits16 (fun HT_ HW_=>?_)
                 generalize w37.drew = w38 at HO_4 HO_7 HO196 BK191 HB hHeld ⊢
                 refine pure_ (i:=0) (N:=some 86) (v:=?_) (a':=?_) #[true,false,false,false,false,false,false,false,false,false,false] rfl rfl (any_of HT_.out (by kernel_rfl)) (fun _ _ _ h=>h) (Or.inl ⟨by rfl,?_⟩) ?_ ?_
                 rotate_left
                 ·intro w'
                  go_simp
                  with_reducible rfl
                 rotate_left
                 ·simp only [Act.put,List.setIfInBounds_toArray,List.set_cons_zero,List.set_cons_succ,i64_w,i32_w]
                  rfl
                 refine pure_ (i:=4) (N:=some 90) (v:=?_) (a':=?_) #[true,false,false,false,true,false,false,false,false,false,false] rfl rfl (any_of HT_.out (by kernel_rfl)) (fun _ _ _ h=>h) (Or.inl ⟨by rfl,?_⟩) ?_ ?_
                 rotate_left
                 ·intro w'
                  go_simp
                  with_reducible rfl
                 rotate_left
                 ·simp only [Act.put,List.setIfInBounds_toArray,List.set_cons_zero,List.set_cons_succ,i64_w,i32_w]
                  rfl
                 refine pure_ (i:=5) (N:=some 91) (v:=?_) (a':=?_) #[true,false,false,false,true,true,false,false,false,false,false] rfl rfl (any_of HT_.out (by kernel_rfl)) (fun _ _ _ h=>h) (Or.inl ⟨by rfl,?_⟩) ?_ ?_
                 rotate_left
                 ·intro w'
                  go_simp
                  with_reducible rfl
                 rotate_left
                 ·simp only [Act.put,List.setIfInBounds_toArray,List.set_cons_zero,List.set_cons_succ,i64_w,i32_w]
                  rfl
                 refine pure_ (i:=6) (N:=some 92) (v:=?_) (a':=?_) #[true,false,false,false,true,true,true,false,false,false,false] rfl rfl (any_of HT_.out (by kernel_rfl)) (fun _ _ _ h=>h) (Or.inl ⟨by rfl,?_⟩) ?_ ?_
                 rotate_left
                 ·intro w'
                  go_simp
                  with_reducible rfl
                 rotate_left
                 ·simp only [Act.put,List.setIfInBounds_toArray,List.set_cons_zero,List.set_cons_succ,i64_w,i32_w]
                  rfl
                 refine take_ (i:=1) (N:=some 87) (v:=?_) (a':=?_) #[true,true,false,false,true,true,true,false,false,false,false] rfl rfl (take_ofW HT_.out HW_.out (by kernel_rfl)) (fun _ _ _ h=>h) (Or.inl ⟨by rfl,?_⟩) hHeld ?_ ?_
                 rotate_left
                 ·rintro w' ⟨s0,s1,s2,s3⟩
                  go_simp
                  with_reducible rfl
                 rotate_left
                 ·simp only [Act.put,List.setIfInBounds_toArray,List.set_cons_zero,List.set_cons_succ,i64_w,i32_w]
                  rfl
                 refine take_ (i:=7) (N:=some 93) (v:=?_) (a':=?_) #[true,true,false,false,true,true,true,true,false,false,false] rfl rfl (take_ofW HT_.out HW_.out (by kernel_rfl)) (fun _ _ _ h=>h) (Or.inl ⟨by rfl,?_⟩) hHeld ?_ ?_
                 rotate_left
                 ·rintro w' ⟨s0,s1,s2,s3⟩
                  go_simp
                  with_reducible rfl
                 rotate_left
                 ·simp only [Act.put,List.setIfInBounds_toArray,List.set_cons_zero,List.set_cons_succ,i64_w,i32_w]
                  rfl
                 refine one_ (i:=2) (N:=some 88) #[true,true,true,false,true,true,true,true,false,false,false] rfl rfl (one_of HT_.out (by kernel_rfl)) (by decide) (fun K hK=>?_)
                 refine value_ (w1:=?_) (v:=?_) (by rfl) rfl ?_ ?_
                 rotate_left 2
                 ·go_simp
                  constructor
                  ·rfl
                  ·rfl
                 refine hK.out _ _ ⟨(blk_cell (blk_alloc BK191.out _) 0).trans rfl,(blk_cell (blk_alloc BK191.out _) 1).trans rfl,(blk_cell (blk_alloc BK191.out _) 2).trans rfl,(blk_cell (blk_alloc BK191.out _) 3).trans rfl⟩ (fun hHeld=>?_)
                 clear hK K
                 refine norm_ (a':=?_) ?_ ?_
                 rotate_left
                 ·show Act.put _ (some 88) _ = _
                  simp only [Act.put,List.setIfInBounds_toArray,List.set_cons_zero,List.set_cons_succ,i64_w,i32_w]
                  rfl
                 refine one_ (i:=3) (N:=some 89) #[true,true,true,true,true,true,true,true,false,false,false] rfl rfl (one_of HT_.out (by kernel_rfl)) (by decide) (fun K hK=>?_)
                 refine Kd.R_append_step k59 (w0:=w) w.heap.size (by rfl) (.tmp 86) (.tmp 88) 48 59 (.agg #[(.string ⟨#[]⟩),(.int .u64 0),(.int .u8 0),(.string ⟨#[]⟩)]) 48 rfl Try.underlying48 info59 rfl (by decide) (by omega) (.slice Ao9 x4_1.length co9) x4_1 (⟨(⟨(x5_7.extract 0 (t176 : Int).toNat) ++ t181,t186 / 2,(Go.bits .and .u64 t186 1) % 256⟩ : S50),t192⟩ : S59) [.string ((x5_7.extract 0 (t176 : Int).toNat) ++ t181),.int .u64 (t186 / 2),.int .u8 ((Go.bits .and .u64 t186 1) % 256),.string t192] (fun k_=>(w.heap.size ≤ k_) ∧ k_ ≠ gb191) (fun _=>False) rfl rfl ?aP (fun _ hk=>hk.elim) ?aF ?aO ?aB ?aS ?aL ?_
                 (case aP=>exact k59_mkM _ _ _ (⟨(⟨(x5_7.extract 0 (t176 : Int).toNat) ++ t181,t186 / 2,(Go.bits .and .u64 t186 1) % 256⟩ : S50),t192⟩ : S59))
                 (case aB=>exact (by repeat (first|(with_reducible first|exact HB.out|apply below_alloc|apply pw_below_drewN|apply below_drew1|refine below_set ?_ GE191.out)|exact HB.out)))
                 (case aF=>exact (fun k_ hk=>⟨(Nat.le_trans (below_size (by repeat (first|(with_reducible first|exact HB.out|apply below_alloc|apply pw_below_drewN|apply below_drew1|refine below_set ?_ GE191.out)|exact HB.out))) hk),Kd.freshB (g:=gb191) (o:=.cells #[.string ((x5_7.extract 0 (t176 : Int).toNat) ++ t181),.int .u64 (t186 / 2),.int .u8 ((Go.bits .and .u64 t186 1) % 256),.string t192] 59 (0,0)) (by (with_reducible repeat (first|refine blk_drewN ?_ _|refine blk_drew ?_|refine blk_alloc ?_ _));exact BK191.out) k_ hk⟩))
                 (case aO=>exact (by (with_reducible repeat (first|apply Kd.R_alloc|apply Kd.R_drewN|apply Kd.R_drew));exact HO_4.out))
                 (case aS=>exact (below_size (by repeat (first|(with_reducible first|exact HB.out|apply below_alloc|apply pw_below_drewN|apply below_drew1|refine below_set ?_ GE191.out)|exact HB.out))))
                 (case aL=>have:=LMc31.out;omega)
                 intro v198 w39 ho hb hg hat
                 rw [← Ny197.out] at ho
                 have n0_:=Aside0.mk (Kd.R_over' (by (with_reducible repeat (first|apply Kd.R_alloc|apply Kd.R_drewN|apply Kd.R_drew));exact HO_7.out) (Kd.R_typed (by (with_reducible repeat (first|apply Kd.R_alloc|apply Kd.R_drewN|apply Kd.R_drew));exact HO_4.out)) (by decide) hg)
                 have n1_:=Aside0.mk (blk_grown (g:=gb191) (o:=.cells #[.string ((x5_7.extract 0 (t176 : Int).toNat) ++ t181),.int .u64 (t186 / 2),.int .u8 ((Go.bits .and .u64 t186 1) % 256),.string t192] 59 (0,0)) (by (with_reducible repeat (first|refine blk_drewN ?_ _|refine blk_drew ?_|refine blk_alloc ?_ _));exact BK191.out) hg (Kd.R_away HO_4.out (fun _ hk=>hk.2)))
                 have n2_:=Aside0.mk (Kd.R_over' (by (with_reducible repeat (first|apply Kd.R_alloc|apply Kd.R_drewN|apply Kd.R_drew));exact HO196.out) (Kd.R_typed (by (with_reducible repeat (first|apply Kd.R_alloc|apply Kd.R_drewN|apply Kd.R_drew));exact HO_4.out)) (by decide) hg)
                 have n3_:=Aside0.mk (hb)
                 have n4_:=Aside0.mk (ho)
                 clear HO_7
                 clear BK191
                 clear HO196
                 clear HB
                 clear HO_4
                 have HO_7:=n0_
                 have BK191:=n1_
                 have HO196:=n2_
                 have HB:=n3_
                 have HO199:=n4_
                 clear n0_ n1_ n2_ n3_ n4_
                 clear ho hb hg hat
                 refine hK.out _ _ ⟨(blk_cell BK191.out 0).trans rfl,(blk_cell BK191.out 1).trans rfl,(blk_cell BK191.out 2).trans rfl,(blk_cell BK191.out 3).trans rfl⟩ (fun hHeld=>?_)
                 clear hK K
                 refine norm_ (a':=?_) ?_ ?_
                 rotate_left
                 ·show Act.put _ (some 89) _ = _
                  simp only [Act.put,List.setIfInBounds_toArray,List.set_cons_zero,List.set_cons_succ,i64_w,i32_w]
                  rfl
                 refine pure_ (i:=8) (N:=some 4) (v:=?_) (a':=?_) #[true,true,true,true,true,true,true,true,true,false,false] rfl rfl (any_of HT_.out (by kernel_rfl)) (fun _ _ _ h=>h) (Or.inl ⟨by rfl,?_⟩) ?_ ?_
                 rotate_left
                 ·intro w'
                  go_simp
                  with_reducible rfl
                 rotate_left
                 ·simp only [Act.put,List.setIfInBounds_toArray,List.set_cons_zero,List.set_cons_succ,i64_w,i32_w]
                  rfl
                 refine pure_ (i:=9) (N:=some 0) (v:=?_) (a':=?_) #[true,true,true,true,true,true,true,true,true,true,false] rfl rfl (any_of HT_.out (by kernel_rfl)) (fun _ _ _ h=>h) (Or.inl ⟨by rfl,?_⟩) ?_ ?_
                 rotate_left
                 ·intro w'
                  go_simp
                  with_reducible rfl
                 rotate_left
                 ·simp only [Act.put,List.setIfInBounds_toArray,List.set_cons_zero,List.set_cons_succ,i64_w,i32_w]
                  rfl
                 refine pure_ (i:=10) (N:=some 5) (v:=?_) (a':=?_) #[true,true,true,true,true,true,true,true,true,true,true] rfl rfl (any_of HT_.out (by kernel_rfl)) (fun _ _ _ h=>h) (Or.inl ⟨by rfl,?_⟩) ?_ ?_
                 rotate_left
                 ·intro w'
                  go_simp
                  with_reducible rfl
                 rotate_left
                 ·simp only [Act.put,List.setIfInBounds_toArray,List.set_cons_zero,List.set_cons_succ,i64_w,i32_w]
                  rfl
                 refine done_ (done_of HT_.out (by kernel_rfl)) ?_
                 try go_wp2
                 go_roundg kj13
                 case measure=>have:=HK1.out;have:=HJ1.out;have:=HJ7.out;have:=HJ13.out;omega
                 case rel=>exact ⟨(t193),(y197),((x5_7.extract 0 (t176 : Int).toNat) ++ t181),(by first|rfl|(simp;done)|(simp [*];done)),H',⟨by have:=HK1.out;have:=HJ1.out;have:=HJ7.out;have:=HJ13.out;omega⟩,⟨Kd.V_mono (Kd.R_V (by (with_reducible repeat (first|apply Kd.R_alloc|apply Kd.R_drewN|apply Kd.R_drew));exact Kd.R_apart' HO196.out (Kd.R_typed HO199.out) (by decide))) (fun k_ hk=>by first|exact ⟨(.inr (hk.1.1)),hk.2⟩|exact ⟨(.inr (hk.1)),hk.2⟩|exact (.inr (hk)))⟩,⟨by (with_reducible repeat (first|apply Kd.R_alloc|apply Kd.R_drewN|apply Kd.R_drew));exact Kd.R_mono HO199.out (fun _ hk=>hk.1)⟩,⟨by repeat (first|(with_reducible first|exact HB.out|apply below_alloc|apply pw_below_drewN|apply below_drew1|refine below_set ?_ GE191.out)|exact HB.out)⟩⟩
                ·rw [if_neg c31] at H
                 exact absurd H (by simp)
               ·replace c30:=Bool.eq_false_iff.mpr c30
                subst c30
                have H1 : (some (([] : List (S59)),false)) = some (r1,r2):=by rw [if_neg (show ¬ (false = true) by decide)] at H;exact H
                clear H
                have H:=H1
                clear H1
                simp only [Option.some.injEq,Prod.mk.injEq] at H
                obtain ⟨rfl,rfl⟩:=H
                go_wp2_with (first|((with_reducible refine gate_dst (N:=13) rfl ?_);(try (refine gate_guard (by rfl) ?_;dsimp only));refine box_event ?hg (N:=13) ?hd (cs:=#[.string (⟨#[]⟩ : ByteArray),.int .u64 0,.int .u8 0,.string (⟨#[]⟩ : ByteArray)]) (t:=59) ?hr ?_;(case hd=>rfl);(case hg=>rfl);(case hr=>first|(go_simp;done)|(go_simp;rfl));intro gb191 hg w40 hbox hb;have n0_:=Aside0.mk (Kd.R_below (Kd.R_elderB (by (with_reducible repeat (first|apply Kd.R_alloc|apply Kd.R_drewN|apply Kd.R_drew));exact HO_4.out) gb191 (Nat.le_of_eq hg.symm)) hb);have n1_:=Aside0.mk (Kd.R_below (by (with_reducible repeat (first|apply Kd.R_alloc|apply Kd.R_drewN|apply Kd.R_drew));exact HO_7.out) hb);have n2_:=Aside0.mk (below_step (by repeat (first|(with_reducible first|exact HB.out|apply below_alloc|apply pw_below_drewN|apply below_drew1)|exact HB.out)) hb);have n3_:=Aside0.mk (hbox);have n4_:=Aside0.mk ((by rw [hg];exact (below_size (by repeat (first|(with_reducible first|exact HB.out|apply below_alloc|apply pw_below_drewN|apply below_drew1)|exact HB.out))) : w.heap.size ≤ gb191));have n5_:=Aside0.mk ((by rw [hg];exact (below_size (by repeat (first|(with_reducible first|exact HB.out|apply below_alloc|apply pw_below_drewN|apply below_drew1)|exact HB.out))) : w.heap.size ≤ gb191));clear HO_4;clear HO_7;clear HB;have HO_4:=n0_;have HO_7:=n1_;have HB:=n2_;have BK191:=n3_;have GW191:=n4_;have GE191:=n5_;clear n0_ n1_ n2_ n3_ n4_ n5_;clear hb hbox hg;have hcz41_0 : w40.cell? ⟨gb191,0,none⟩ = some (.string (⟨#[]⟩ : ByteArray)):=(blk_cell BK191.out 0).trans rfl;have hcz41_1 : w40.cell? ⟨gb191,1,none⟩ = some (.int .u64 0):=(blk_cell BK191.out 1).trans rfl;have hcz41_2 : w40.cell? ⟨gb191,2,none⟩ = some (.int .u8 0):=(blk_cell BK191.out 2).trans rfl;have hcz41_3 : w40.cell? ⟨gb191,3,none⟩ = some (.string (⟨#[]⟩ : ByteArray)):=(blk_cell BK191.out 3).trans rfl;have hfz41_0:=blk_frozen BK191.out 0;have hfz41_1:=blk_frozen BK191.out 1;have hfz41_2:=blk_frozen BK191.out 2;have hfz41_3:=blk_frozen BK191.out 3;obtain ⟨Ao42,co42,eo42⟩:=Kd.R_slice HO_7.out;subst eo42)|((with_reducible refine gate_callee (f:=87) rfl ?_);refine goesL_ (some 79) rfl rfl Try.func87 (by kernel_rfl) rfl #[.slice Ao42 t187.length co42,.int .i64 256] rfl (by (try simp only [List.map_toArray,List.map_cons,List.map_nil]);first|done|rfl|(simp only [List.length_drop,List.length_take];rfl)) ?_;(with_reducible refine (nums_TakeText.calls _ _ t187 256 t192 t193 false _ ?side1 ?side2 A29.out).mono ?_);(case side1=>refine (Kd.R_reads' (e:=5) (base:=w.heap.size) (ok:=fun k_=>(w.heap.size ≤ k_)) (n:=t187.length) (c:=co42) ?_).2.2;exact (by (with_reducible repeat (first|apply Kd.R_alloc|apply Kd.R_drewN|apply Kd.R_drew));exact (Kd.R_mono (Kd.R_far (p:=⟨gb191,3,none⟩) (Kd.R_far (p:=⟨gb191,2,none⟩) (Kd.R_far (p:=⟨gb191,1,none⟩) (Kd.R_far (p:=⟨gb191,0,none⟩) (Kd.R_types HO_7.out BK191.out (by decide)) (fun _ hk=>hk.2) (.string ((x5_7.extract 0 (t176 : Int).toNat) ++ t181))) (fun _ hk=>hk.2) (.int .u64 (t186 / 2))) (fun _ hk=>hk.2) (.int .u8 ((Go.bits .and .u64 t186 1) % 256))) (fun _ hk=>hk.2) (.string (⟨#[]⟩ : ByteArray))) (fun _ h_=>h_.1))));(case side2=>exact (Kd.R_reads' HO_7.out).2.1);rintro e w43 ⟨v195,rfl,ho0,hb⟩;refine ⟨_,rfl,?_⟩;have n0_:=Aside0.mk (Kd.R_below (by (with_reducible repeat (first|apply Kd.R_alloc|apply Kd.R_drewN|apply Kd.R_drew));exact (Kd.R_mono (Kd.R_far (p:=⟨gb191,3,none⟩) (Kd.R_far (p:=⟨gb191,2,none⟩) (Kd.R_far (p:=⟨gb191,1,none⟩) (Kd.R_far (p:=⟨gb191,0,none⟩) (Kd.R_mono HO_4.out (fun k_ hk=>(⟨hk,hk.2⟩ : _ ∧ k_ ≠ gb191))) (fun _ hk=>hk.2) (.string ((x5_7.extract 0 (t176 : Int).toNat) ++ t181))) (fun _ hk=>hk.2) (.int .u64 (t186 / 2))) (fun _ hk=>hk.2) (.int .u8 ((Go.bits .and .u64 t186 1) % 256))) (fun _ hk=>hk.2) (.string (⟨#[]⟩ : ByteArray))) (fun _ h_=>h_.1))) hb);have n1_:=Aside0.mk (Kd.R_elder' (by (with_reducible repeat (first|apply Kd.R_alloc|apply Kd.R_drewN|apply Kd.R_drew));exact (Kd.R_mono (Kd.R_far (p:=⟨gb191,3,none⟩) (Kd.R_far (p:=⟨gb191,2,none⟩) (Kd.R_far (p:=⟨gb191,1,none⟩) (Kd.R_far (p:=⟨gb191,0,none⟩) (Kd.R_types HO_7.out BK191.out (by decide)) (fun _ hk=>hk.2) (.string ((x5_7.extract 0 (t176 : Int).toNat) ++ t181))) (fun _ hk=>hk.2) (.int .u64 (t186 / 2))) (fun _ hk=>hk.2) (.int .u8 ((Go.bits .and .u64 t186 1) % 256))) (fun _ hk=>hk.2) (.string (⟨#[]⟩ : ByteArray))) (fun _ h_=>h_.1))) (Kd.R_base ho0) hb);have n2_:=Aside0.mk (Kd.R_lower (Kd.R_new' (Kd.R_newM (M:=fun k_=>(w.heap.size ≤ k_)) ho0 (below_size (by repeat (first|(with_reducible first|exact HB.out|apply below_alloc|apply pw_below_drewN|apply below_drew1|refine below_set ?_ GE191.out)|exact HB.out))) (fun k_ h_=>h_)) (Kd.R_lt (by (with_reducible repeat (first|apply Kd.R_alloc|apply Kd.R_drewN|apply Kd.R_drew));exact (Kd.R_mono (Kd.R_far (p:=⟨gb191,3,none⟩) (Kd.R_far (p:=⟨gb191,2,none⟩) (Kd.R_far (p:=⟨gb191,1,none⟩) (Kd.R_far (p:=⟨gb191,0,none⟩) (Kd.R_types HO_7.out BK191.out (by decide)) (fun _ hk=>hk.2) (.string ((x5_7.extract 0 (t176 : Int).toNat) ++ t181))) (fun _ hk=>hk.2) (.int .u64 (t186 / 2))) (fun _ hk=>hk.2) (.int .u8 ((Go.bits .and .u64 t186 1) % 256))) (fun _ hk=>hk.2) (.string (⟨#[]⟩ : ByteArray))) (fun _ h_=>h_.1))))) (below_size (by repeat (first|(with_reducible first|exact HB.out|apply below_alloc|apply pw_below_drewN|apply below_drew1|refine below_set ?_ GE191.out)|exact HB.out))));have n3_:=Aside0.mk (blk_below (g:=gb191) (o:=.cells #[.string ((x5_7.extract 0 (t176 : Int).toNat) ++ t181),.int .u64 (t186 / 2),.int .u8 ((Go.bits .and .u64 t186 1) % 256),.string (⟨#[]⟩ : ByteArray)] 59 (0,0)) (by (with_reducible repeat (first|refine blk_drewN ?_ _|refine blk_drew ?_|refine blk_alloc ?_ _));refine blk_put (cs:=#[.string ((x5_7.extract 0 (t176 : Int).toNat) ++ t181),.int .u64 (t186 / 2),.int .u8 ((Go.bits .and .u64 t186 1) % 256),.string (⟨#[]⟩ : ByteArray)]) ?_ 3 _ rfl;(with_reducible repeat (first|refine blk_drewN ?_ _|refine blk_drew ?_|refine blk_alloc ?_ _));refine blk_put (cs:=#[.string ((x5_7.extract 0 (t176 : Int).toNat) ++ t181),.int .u64 (t186 / 2),.int .u8 0,.string (⟨#[]⟩ : ByteArray)]) ?_ 2 _ rfl;(with_reducible repeat (first|refine blk_drewN ?_ _|refine blk_drew ?_|refine blk_alloc ?_ _));refine blk_put (cs:=#[.string ((x5_7.extract 0 (t176 : Int).toNat) ++ t181),.int .u64 0,.int .u8 0,.string (⟨#[]⟩ : ByteArray)]) ?_ 1 _ rfl;(with_reducible repeat (first|refine blk_drewN ?_ _|refine blk_drew ?_|refine blk_alloc ?_ _));refine blk_put (cs:=#[.string (⟨#[]⟩ : ByteArray),.int .u64 0,.int .u8 0,.string (⟨#[]⟩ : ByteArray)]) ?_ 0 _ rfl;(with_reducible repeat (first|refine blk_drewN ?_ _|refine blk_drew ?_|refine blk_alloc ?_ _));exact BK191.out) hb);have n4_:=Aside0.mk (below_step (by repeat (first|(with_reducible first|exact HB.out|apply below_alloc|apply pw_below_drewN|apply below_drew1|refine below_set ?_ GE191.out)|exact HB.out)) hb);clear HO_4;clear HO_7;clear BK191;clear HB;have HO_4:=n0_;have HO_7:=n1_;have HO196:=n2_;have BK191:=n3_;have HB:=n4_;clear n0_ n1_ n2_ n3_ n4_;(try clear hb);(try clear hb2);(try clear hk);(try clear hi);(try clear ho0);have hcz44_0 : w43.cell? ⟨gb191,0,none⟩ = some (.string ((x5_7.extract 0 (t176 : Int).toNat) ++ t181)):=(blk_cell BK191.out 0).trans rfl;have hcz44_1 : w43.cell? ⟨gb191,1,none⟩ = some (.int .u64 (t186 / 2)):=(blk_cell BK191.out 1).trans rfl;have hcz44_2 : w43.cell? ⟨gb191,2,none⟩ = some (.int .u8 ((Go.bits .and .u64 t186 1) % 256)):=(blk_cell BK191.out 2).trans rfl;have hcz44_3 : w43.cell? ⟨gb191,3,none⟩ = some (.string (⟨#[]⟩ : ByteArray)):=(blk_cell BK191.out 3).trans rfl;have hfz44_0:=blk_frozen BK191.out 0;have hfz44_1:=blk_frozen BK191.out 1;have hfz44_2:=blk_frozen BK191.out 2;have hfz44_3:=blk_frozen BK191.out 3))
                go_ret2
                exact ⟨_,by first|rfl|(simp [errW_none,errW_some] <;> rfl)|(simp [*,errW_none,errW_some] <;> rfl),by first|exact Kd.R_nil _ _ _ _ _|exact Kd.N_nil _ _ _ _ _|exact Kd.V_nil _ _ _ _ _|exact Kd.Q_nil _ _ _ _ _|exact Kd.S_nil _ _ _ _ _,by repeat (first|(with_reducible first|exact HB.out|apply below_alloc|apply pw_below_drewN|apply below_drew1|refine below_set ?_ GE191.out)|exact HB.out)⟩
              ·rw [if_neg c28] at H
               have c28b0 : (((Go.bits .and .u64 t186 1) % 256) == 1) = false:=beq_eq_false_iff_ne.mpr c28
               have c28b1 : (((Go.bits .and .u64 t186 1) % 256) != 1) = true:=bne_iff_ne.mpr c28
               by_cases c45 : x4_1.length < 2932031007402
               ·rw [if_pos c45] at H
                have LMc45:=Aside0.mk c45
                clear c45
                obtain ⟨y200,hy200⟩ : ∃ y_ : List (S59),y_ = (x4_1 ++ [(⟨(⟨(x5_7.extract 0 (t176 : Int).toNat) ++ t181,t186 / 2,(Go.bits .and .u64 t186 1) % 256⟩ : S50),(⟨#[]⟩ : ByteArray)⟩ : S59)]):=⟨_,rfl⟩
                replace H : (block_entries.l0 kj13 t187 y200 ((x5_7.extract 0 (t176 : Int).toNat) ++ t181)) = some (r1,r2):=by first|(rw [hy200];with_reducible exact H)|(have H2_:=(Option.bind_some _ _).symm.trans H;rw [hy200];with_reducible exact H2_)|(have H2_:=(Option.bind_some _ _).symm.trans H;with_reducible exact H2_)|with_reducible exact H|(rw [hy200];exact H)|exact H
                have Ny200:=Aside0.mk hy200
                clear hy200
                have H':=Aside0.mk H
                clear H
                try go_wp2_with (first|((with_reducible refine gate_dst (N:=13) rfl ?_);(try (refine gate_guard (by rfl) ?_;dsimp only));refine box_event ?hg (N:=13) ?hd (cs:=#[.string (⟨#[]⟩ : ByteArray),.int .u64 0,.int .u8 0,.string (⟨#[]⟩ : ByteArray)]) (t:=59) ?hr ?_;(case hd=>rfl);(case hg=>rfl);(case hr=>first|(go_simp;done)|(go_simp;rfl));intro gb191 hg w46 hbox hb;have n0_:=Aside0.mk (Kd.R_below (Kd.R_elderB (by (with_reducible repeat (first|apply Kd.R_alloc|apply Kd.R_drewN|apply Kd.R_drew));exact HO_4.out) gb191 (Nat.le_of_eq hg.symm)) hb);have n1_:=Aside0.mk (Kd.R_below (by (with_reducible repeat (first|apply Kd.R_alloc|apply Kd.R_drewN|apply Kd.R_drew));exact HO_7.out) hb);have n2_:=Aside0.mk (below_step (by repeat (first|(with_reducible first|exact HB.out|apply below_alloc|apply pw_below_drewN|apply below_drew1)|exact HB.out)) hb);have n3_:=Aside0.mk (hbox);have n4_:=Aside0.mk ((by rw [hg];exact (below_size (by repeat (first|(with_reducible first|exact HB.out|apply below_alloc|apply pw_below_drewN|apply below_drew1)|exact HB.out))) : w.heap.size ≤ gb191));have n5_:=Aside0.mk ((by rw [hg];exact (below_size (by repeat (first|(with_reducible first|exact HB.out|apply below_alloc|apply pw_below_drewN|apply below_drew1)|exact HB.out))) : w.heap.size ≤ gb191));clear HO_4;clear HO_7;clear HB;have HO_4:=n0_;have HO_7:=n1_;have HB:=n2_;have BK191:=n3_;have GW191:=n4_;have GE191:=n5_;clear n0_ n1_ n2_ n3_ n4_ n5_;clear hb hbox hg;have hcz47_0 : w46.cell? ⟨gb191,0,none⟩ = some (.string (⟨#[]⟩ : ByteArray)):=(blk_cell BK191.out 0).trans rfl;have hcz47_1 : w46.cell? ⟨gb191,1,none⟩ = some (.int .u64 0):=(blk_cell BK191.out 1).trans rfl;have hcz47_2 : w46.cell? ⟨gb191,2,none⟩ = some (.int .u8 0):=(blk_cell BK191.out 2).trans rfl;have hcz47_3 : w46.cell? ⟨gb191,3,none⟩ = some (.string (⟨#[]⟩ : ByteArray)):=(blk_cell BK191.out 3).trans rfl;have hfz47_0:=blk_frozen BK191.out 0;have hfz47_1:=blk_frozen BK191.out 1;have hfz47_2:=blk_frozen BK191.out 2;have hfz47_3:=blk_frozen BK191.out 3))
                have n0_ : Aside0 (Kd.R k59 59 ((((w46.setCell ⟨gb191,0,none⟩ (.string ((x5_7.extract 0 (t176 : Int).toNat) ++ t181))).setCell ⟨gb191,1,none⟩ (.int .u64 (t186 / 2))).setCell ⟨gb191,2,none⟩ (.int .u8 ((Go.bits .and .u64 t186 1) % 256))).setCell ⟨gb191,3,none⟩ (.string (⟨#[]⟩ : ByteArray))) w.heap.size (fun k_=>(w.heap.size ≤ k_) ∧ k_ ≠ gb191) (.slice Ao9 x4_1.length co9) x4_1):=⟨by (with_reducible repeat (first|apply Kd.R_alloc|apply Kd.R_drewN|apply Kd.R_drew));exact Kd.R_mono (Kd.R_far (p:=⟨gb191,3,none⟩) (Kd.R_far (p:=⟨gb191,2,none⟩) (Kd.R_far (p:=⟨gb191,1,none⟩) (Kd.R_far (p:=⟨gb191,0,none⟩) (Kd.R_mono HO_4.out (fun k_ hk=>(⟨hk,hk.2⟩ : _ ∧ k_ ≠ gb191))) (fun _ hk=>hk.2) (.string ((x5_7.extract 0 (t176 : Int).toNat) ++ t181))) (fun _ hk=>hk.2) (.int .u64 (t186 / 2))) (fun _ hk=>hk.2) (.int .u8 ((Go.bits .and .u64 t186 1) % 256))) (fun _ hk=>hk.2) (.string (⟨#[]⟩ : ByteArray))) (fun _ hk=>⟨hk.1.1,hk.1.2⟩)⟩
                have n1_ : Aside0 (Kd.R (Kd.int .u8) 5 ((((w46.setCell ⟨gb191,0,none⟩ (.string ((x5_7.extract 0 (t176 : Int).toNat) ++ t181))).setCell ⟨gb191,1,none⟩ (.int .u64 (t186 / 2))).setCell ⟨gb191,2,none⟩ (.int .u8 ((Go.bits .and .u64 t186 1) % 256))).setCell ⟨gb191,3,none⟩ (.string (⟨#[]⟩ : ByteArray))) w.heap.size (fun k_=>(w.heap.size ≤ k_)) v189 t187):=⟨by (with_reducible repeat (first|apply Kd.R_alloc|apply Kd.R_drewN|apply Kd.R_drew));exact Kd.R_mono (Kd.R_far (p:=⟨gb191,3,none⟩) (Kd.R_far (p:=⟨gb191,2,none⟩) (Kd.R_far (p:=⟨gb191,1,none⟩) (Kd.R_far (p:=⟨gb191,0,none⟩) (Kd.R_types HO_7.out BK191.out (by decide)) (fun _ hk=>hk.2) (.string ((x5_7.extract 0 (t176 : Int).toNat) ++ t181))) (fun _ hk=>hk.2) (.int .u64 (t186 / 2))) (fun _ hk=>hk.2) (.int .u8 ((Go.bits .and .u64 t186 1) % 256))) (fun _ hk=>hk.2) (.string (⟨#[]⟩ : ByteArray))) (fun _ hk=>hk.1)⟩
                have n2_ : Aside0 (((((w46.setCell ⟨gb191,0,none⟩ (.string ((x5_7.extract 0 (t176 : Int).toNat) ++ t181))).setCell ⟨gb191,1,none⟩ (.int .u64 (t186 / 2))).setCell ⟨gb191,2,none⟩ (.int .u8 ((Go.bits .and .u64 t186 1) % 256))).setCell ⟨gb191,3,none⟩ (.string (⟨#[]⟩ : ByteArray))).heap[gb191]? = some (.cells #[.string ((x5_7.extract 0 (t176 : Int).toNat) ++ t181),.int .u64 (t186 / 2),.int .u8 ((Go.bits .and .u64 t186 1) % 256),.string (⟨#[]⟩ : ByteArray)] 59 (0,0))):=⟨by (with_reducible repeat (first|refine blk_drewN ?_ _|refine blk_drew ?_|refine blk_alloc ?_ _));refine blk_put (cs:=#[.string ((x5_7.extract 0 (t176 : Int).toNat) ++ t181),.int .u64 (t186 / 2),.int .u8 ((Go.bits .and .u64 t186 1) % 256),.string (⟨#[]⟩ : ByteArray)]) ?_ 3 _ rfl;(with_reducible repeat (first|refine blk_drewN ?_ _|refine blk_drew ?_|refine blk_alloc ?_ _));refine blk_put (cs:=#[.string ((x5_7.extract 0 (t176 : Int).toNat) ++ t181),.int .u64 (t186 / 2),.int .u8 0,.string (⟨#[]⟩ : ByteArray)]) ?_ 2 _ rfl;(with_reducible repeat (first|refine blk_drewN ?_ _|refine blk_drew ?_|refine blk_alloc ?_ _));refine blk_put (cs:=#[.string ((x5_7.extract 0 (t176 : Int).toNat) ++ t181),.int .u64 0,.int .u8 0,.string (⟨#[]⟩ : ByteArray)]) ?_ 1 _ rfl;(with_reducible repeat (first|refine blk_drewN ?_ _|refine blk_drew ?_|refine blk_alloc ?_ _));refine blk_put (cs:=#[.string (⟨#[]⟩ : ByteArray),.int .u64 0,.int .u8 0,.string (⟨#[]⟩ : ByteArray)]) ?_ 0 _ rfl;(with_reducible repeat (first|refine blk_drewN ?_ _|refine blk_drew ?_|refine blk_alloc ?_ _));exact BK191.out⟩
                have n3_ : Aside0 (Below w.heap.size w ((((w46.setCell ⟨gb191,0,none⟩ (.string ((x5_7.extract 0 (t176 : Int).toNat) ++ t181))).setCell ⟨gb191,1,none⟩ (.int .u64 (t186 / 2))).setCell ⟨gb191,2,none⟩ (.int .u8 ((Go.bits .and .u64 t186 1) % 256))).setCell ⟨gb191,3,none⟩ (.string (⟨#[]⟩ : ByteArray)))):=⟨by repeat (first|(with_reducible first|exact HB.out|apply below_alloc|apply pw_below_drewN|apply below_drew1|refine below_set ?_ GE191.out)|exact HB.out)⟩
                (try clear HO_4)
                (try clear HO_7)
                (try clear BK191)
                (try clear HB)
                generalize ((((w46.setCell ⟨gb191,0,none⟩ (.string ((x5_7.extract 0 (t176 : Int).toNat) ++ t181))).setCell ⟨gb191,1,none⟩ (.int .u64 (t186 / 2))).setCell ⟨gb191,2,none⟩ (.int .u8 ((Go.bits .and .u64 t186 1) % 256))).setCell ⟨gb191,3,none⟩ (.string (⟨#[]⟩ : ByteArray))) = w48 at n0_ n1_ n2_ n3_ ⊢
                have HO_4:=n0_
                have HO_7:=n1_
                have BK191:=n2_
                have HB:=n3_
                clear n0_ n1_ n2_ n3_
                have n0_:=Aside0.mk (Kd.R_drew HO_4.out)
                have n1_:=Aside0.mk (Kd.R_drew HO_7.out)
                have n2_:=Aside0.mk (blk_drew BK191.out)
                have n3_:=Aside0.mk (below_drew1 HB.out)
                clear HO_4
                clear HO_7
                clear BK191
                clear HB
                have HO_4:=n0_
                have HO_7:=n1_
                have BK191:=n2_
                have HB:=n3_
                clear n0_ n1_ n2_ n3_
                refine start_ (n:=11) (S:=fun w'=>w'.cell? ⟨gb191,0,none⟩ = some (.string ((x5_7.extract 0 (t176 : Int).toNat) ++ t181)) ∧ w'.cell? ⟨gb191,1,none⟩ = some (.int .u64 (t186 / 2)) ∧ w'.cell? ⟨gb191,2,none⟩ = some (.int .u8 ((Go.bits .and .u64 t186 1) % 256)) ∧ w'.cell? ⟨gb191,3,none⟩ = some (.string (⟨#[]⟩ : ByteArray))) (ds:=[]) #[false,false,false,false,false,false,false,false,false,false,false] (by kernel_rfl) rfl rfl ⟨(blk_cell BK191.out 0).trans rfl,(blk_cell BK191.out 1).trans rfl,(blk_cell BK191.out 2).trans rfl,(blk_cell BK191.out 3).trans rfl⟩ (fun hHeld=>?_);refine with_tabW block_entries.tab16 block_entries.bits16 (fun HT_ HW_=>?_)
                generalize w48.drew = w49 at HO_4 HO_7 BK191 HB hHeld ⊢
                refine pure_ (i:=0) (N:=some 86) (v:=?_) (a':=?_) #[true,false,false,false,false,false,false,false,false,false,false] rfl rfl (any_of HT_.out (by kernel_rfl)) (fun _ _ _ h=>h) (Or.inl ⟨by rfl,?_⟩) ?_ ?_
                rotate_left
                ·intro w'
                 go_simp
                 with_reducible rfl
                rotate_left
                ·simp only [Act.put,List.setIfInBounds_toArray,List.set_cons_zero,List.set_cons_succ,i64_w,i32_w]
                 rfl
                refine pure_ (i:=4) (N:=some 90) (v:=?_) (a':=?_) #[true,false,false,false,true,false,false,false,false,false,false] rfl rfl (any_of HT_.out (by kernel_rfl)) (fun _ _ _ h=>h) (Or.inl ⟨by rfl,?_⟩) ?_ ?_
                rotate_left
                ·intro w'
                 go_simp
                 with_reducible rfl
                rotate_left
                ·simp only [Act.put,List.setIfInBounds_toArray,List.set_cons_zero,List.set_cons_succ,i64_w,i32_w]
                 rfl
                refine pure_ (i:=5) (N:=some 91) (v:=?_) (a':=?_) #[true,false,false,false,true,true,false,false,false,false,false] rfl rfl (any_of HT_.out (by kernel_rfl)) (fun _ _ _ h=>h) (Or.inl ⟨by rfl,?_⟩) ?_ ?_
                rotate_left
                ·intro w'
                 go_simp
                 with_reducible rfl
                rotate_left
                ·simp only [Act.put,List.setIfInBounds_toArray,List.set_cons_zero,List.set_cons_succ,i64_w,i32_w]
                 rfl
                refine pure_ (i:=6) (N:=some 92) (v:=?_) (a':=?_) #[true,false,false,false,true,true,true,false,false,false,false] rfl rfl (any_of HT_.out (by kernel_rfl)) (fun _ _ _ h=>h) (Or.inl ⟨by rfl,?_⟩) ?_ ?_
                rotate_left
                ·intro w'
                 go_simp
                 with_reducible rfl
                rotate_left
                ·simp only [Act.put,List.setIfInBounds_toArray,List.set_cons_zero,List.set_cons_succ,i64_w,i32_w]
                 rfl
                refine take_ (i:=1) (N:=some 87) (v:=?_) (a':=?_) #[true,true,false,false,true,true,true,false,false,false,false] rfl rfl (take_ofW HT_.out HW_.out (by kernel_rfl)) (fun _ _ _ h=>h) (Or.inl ⟨by rfl,?_⟩) hHeld ?_ ?_
                rotate_left
                ·rintro w' ⟨s0,s1,s2,s3⟩
                 go_simp
                 with_reducible rfl
                rotate_left
                ·simp only [Act.put,List.setIfInBounds_toArray,List.set_cons_zero,List.set_cons_succ,i64_w,i32_w]
                 rfl
                refine take_ (i:=7) (N:=some 93) (v:=?_) (a':=?_) #[true,true,false,false,true,true,true,true,false,false,false] rfl rfl (take_ofW HT_.out HW_.out (by kernel_rfl)) (fun _ _ _ h=>h) (Or.inl ⟨by rfl,?_⟩) hHeld ?_ ?_
                rotate_left
                ·rintro w' ⟨s0,s1,s2,s3⟩
                 go_simp
                 with_reducible rfl
                rotate_left
                ·simp only [Act.put,List.setIfInBounds_toArray,List.set_cons_zero,List.set_cons_succ,i64_w,i32_w]
                 rfl
                refine one_ (i:=2) (N:=some 88) #[true,true,true,false,true,true,true,true,false,false,false] rfl rfl (one_of HT_.out (by kernel_rfl)) (by decide) (fun K hK=>?_)
                refine value_ (w1:=?_) (v:=?_) (by rfl) rfl ?_ ?_
                rotate_left 2
                ·go_simp
                 constructor
                 ·rfl
                 ·rfl
                refine hK.out _ _ ⟨(blk_cell (blk_alloc BK191.out _) 0).trans rfl,(blk_cell (blk_alloc BK191.out _) 1).trans rfl,(blk_cell (blk_alloc BK191.out _) 2).trans rfl,(blk_cell (blk_alloc BK191.out _) 3).trans rfl⟩ (fun hHeld=>?_)
                clear hK K
                refine norm_ (a':=?_) ?_ ?_
                rotate_left
                ·show Act.put _ (some 88) _ = _
                 simp only [Act.put,List.setIfInBounds_toArray,List.set_cons_zero,List.set_cons_succ,i64_w,i32_w]
                 rfl
                refine one_ (i:=3) (N:=some 89) #[true,true,true,true,true,true,true,true,false,false,false] rfl rfl (one_of HT_.out (by kernel_rfl)) (by decide) (fun K hK=>?_)
                refine Kd.R_append_step k59 (w0:=w) w.heap.size (by rfl) (.tmp 86) (.tmp 88) 48 59 (.agg #[(.string ⟨#[]⟩),(.int .u64 0),(.int .u8 0),(.string ⟨#[]⟩)]) 48 rfl Try.underlying48 info59 rfl (by decide) (by omega) (.slice Ao9 x4_1.length co9) x4_1 (⟨(⟨(x5_7.extract 0 (t176 : Int).toNat) ++ t181,t186 / 2,(Go.bits .and .u64 t186 1) % 256⟩ : S50),(⟨#[]⟩ : ByteArray)⟩ : S59) [.string ((x5_7.extract 0 (t176 : Int).toNat) ++ t181),.int .u64 (t186 / 2),.int .u8 ((Go.bits .and .u64 t186 1) % 256),.string (⟨#[]⟩ : ByteArray)] (fun k_=>(w.heap.size ≤ k_) ∧ k_ ≠ gb191) (fun _=>False) rfl rfl ?aP (fun _ hk=>hk.elim) ?aF ?aO ?aB ?aS ?aL ?_
                (case aP=>exact k59_mkM _ _ _ (⟨(⟨(x5_7.extract 0 (t176 : Int).toNat) ++ t181,t186 / 2,(Go.bits .and .u64 t186 1) % 256⟩ : S50),(⟨#[]⟩ : ByteArray)⟩ : S59))
                (case aB=>exact (by repeat (first|(with_reducible first|exact HB.out|apply below_alloc|apply pw_below_drewN|apply below_drew1|refine below_set ?_ GE191.out)|exact HB.out)))
                (case aF=>exact (fun k_ hk=>⟨(Nat.le_trans (below_size (by repeat (first|(with_reducible first|exact HB.out|apply below_alloc|apply pw_below_drewN|apply below_drew1|refine below_set ?_ GE191.out)|exact HB.out))) hk),Kd.freshB (g:=gb191) (o:=.cells #[.string ((x5_7.extract 0 (t176 : Int).toNat) ++ t181),.int .u64 (t186 / 2),.int .u8 ((Go.bits .and .u64 t186 1) % 256),.string (⟨#[]⟩ : ByteArray)] 59 (0,0)) (by (with_reducible repeat (first|refine blk_drewN ?_ _|refine blk_drew ?_|refine blk_alloc ?_ _));exact BK191.out) k_ hk⟩))
                (case aO=>exact (by (with_reducible repeat (first|apply Kd.R_alloc|apply Kd.R_drewN|apply Kd.R_drew));exact HO_4.out))
                (case aS=>exact (below_size (by repeat (first|(with_reducible first|exact HB.out|apply below_alloc|apply pw_below_drewN|apply below_drew1|refine below_set ?_ GE191.out)|exact HB.out))))
                (case aL=>have:=LMc45.out;omega)
                intro v201 w50 ho hb hg hat
                rw [← Ny200.out] at ho
                have n0_:=Aside0.mk (Kd.R_over' (by (with_reducible repeat (first|apply Kd.R_alloc|apply Kd.R_drewN|apply Kd.R_drew));exact HO_7.out) (Kd.R_typed (by (with_reducible repeat (first|apply Kd.R_alloc|apply Kd.R_drewN|apply Kd.R_drew));exact HO_4.out)) (by decide) hg)
                have n1_:=Aside0.mk (blk_grown (g:=gb191) (o:=.cells #[.string ((x5_7.extract 0 (t176 : Int).toNat) ++ t181),.int .u64 (t186 / 2),.int .u8 ((Go.bits .and .u64 t186 1) % 256),.string (⟨#[]⟩ : ByteArray)] 59 (0,0)) (by (with_reducible repeat (first|refine blk_drewN ?_ _|refine blk_drew ?_|refine blk_alloc ?_ _));exact BK191.out) hg (Kd.R_away HO_4.out (fun _ hk=>hk.2)))
                have n2_:=Aside0.mk (hb)
                have n3_:=Aside0.mk (ho)
                clear HO_7
                clear BK191
                clear HB
                clear HO_4
                have HO_7:=n0_
                have BK191:=n1_
                have HB:=n2_
                have HO202:=n3_
                clear n0_ n1_ n2_ n3_
                clear ho hb hg hat
                refine hK.out _ _ ⟨(blk_cell BK191.out 0).trans rfl,(blk_cell BK191.out 1).trans rfl,(blk_cell BK191.out 2).trans rfl,(blk_cell BK191.out 3).trans rfl⟩ (fun hHeld=>?_)
                clear hK K
                refine norm_ (a':=?_) ?_ ?_
                rotate_left
                ·show Act.put _ (some 89) _ = _
                 simp only [Act.put,List.setIfInBounds_toArray,List.set_cons_zero,List.set_cons_succ,i64_w,i32_w]
                 rfl
                refine pure_ (i:=8) (N:=some 4) (v:=?_) (a':=?_) #[true,true,true,true,true,true,true,true,true,false,false] rfl rfl (any_of HT_.out (by kernel_rfl)) (fun _ _ _ h=>h) (Or.inl ⟨by rfl,?_⟩) ?_ ?_
                rotate_left
                ·intro w'
                 go_simp
                 with_reducible rfl
                rotate_left
                ·simp only [Act.put,List.setIfInBounds_toArray,List.set_cons_zero,List.set_cons_succ,i64_w,i32_w]
                 rfl
                refine pure_ (i:=9) (N:=some 0) (v:=?_) (a':=?_) #[true,true,true,true,true,true,true,true,true,true,false] rfl rfl (any_of HT_.out (by kernel_rfl)) (fun _ _ _ h=>h) (Or.inl ⟨by rfl,?_⟩) ?_ ?_
                rotate_left
                ·intro w'
                 go_simp
                 with_reducible rfl
                rotate_left
                ·simp only [Act.put,List.setIfInBounds_toArray,List.set_cons_zero,List.set_cons_succ,i64_w,i32_w]
                 rfl
                refine pure_ (i:=10) (N:=some 5) (v:=?_) (a':=?_) #[true,true,true,true,true,true,true,true,true,true,true] rfl rfl (any_of HT_.out (by kernel_rfl)) (fun _ _ _ h=>h) (Or.inl ⟨by rfl,?_⟩) ?_ ?_
                rotate_left
                ·intro w'
                 go_simp
                 with_reducible rfl
                rotate_left
                ·simp only [Act.put,List.setIfInBounds_toArray,List.set_cons_zero,List.set_cons_succ,i64_w,i32_w]
                 rfl
                refine done_ (done_of HT_.out (by kernel_rfl)) ?_
                try go_wp2
                go_roundg kj13
                case measure=>have:=HK1.out;have:=HJ1.out;have:=HJ7.out;have:=HJ13.out;omega
                case rel=>exact ⟨(t187),(y200),((x5_7.extract 0 (t176 : Int).toNat) ++ t181),(by first|rfl|(simp;done)|(simp [*];done)),H',⟨by have:=HK1.out;have:=HJ1.out;have:=HJ7.out;have:=HJ13.out;omega⟩,⟨Kd.V_mono (Kd.R_V (by (with_reducible repeat (first|apply Kd.R_alloc|apply Kd.R_drewN|apply Kd.R_drew));exact (Kd.R_apart' HO_7.out (Kd.R_typed HO202.out) (by decide)))) (fun k_ hk=>by first|exact ⟨(.inr (hk.1)),hk.2⟩|exact (.inr (hk)))⟩,⟨by (with_reducible repeat (first|apply Kd.R_alloc|apply Kd.R_drewN|apply Kd.R_drew));exact Kd.R_mono HO202.out (fun _ hk=>hk.1)⟩,⟨by repeat (first|(with_reducible first|exact HB.out|apply below_alloc|apply pw_below_drewN|apply below_drew1|refine below_set ?_ GE191.out)|exact HB.out)⟩⟩
               ·rw [if_neg c45] at H
                exact absurd H (by simp)
             ·rw [if_neg c27] at H
              exact absurd H (by simp)
            ·rw [if_neg c26] at H
             exact absurd H (by simp)
           ·rw [if_neg c25] at H
            exact absurd H (by simp)
     ·replace c7:=Bool.eq_false_iff.mpr c7
      subst c7
      have H1 : (some (x4_1,true)) = some (r1,r2):=by rw [if_neg (show ¬ (false = true) by decide)] at H;exact H
      clear H
      have H:=H1
      clear H1
      simp only [Option.some.injEq,Prod.mk.injEq] at H
      obtain ⟨rfl,rfl⟩:=H
      go_wp2
      go_ret2
      exact ⟨_,by first|rfl|(simp [errW_none,errW_some] <;> rfl)|(simp [*,errW_none,errW_some] <;> rfl),by (with_reducible repeat (first|apply Kd.R_alloc|apply Kd.R_drewN|apply Kd.R_drew));exact HO_4.out,by repeat (first|(with_reducible first|exact HB.out|apply below_alloc|apply pw_below_drewN|apply below_drew1)|exact HB.out)⟩

end Go.Proofs.Ytjcjfghcahbbmaa.P

end

section
namespace Go.Proofs.Ytjcjfghcahbbmaa.P
open Go.RowKit Go.Proofs.YtjcjfghcahbbmaaG Go.Proofs.YtjcjfghcahbbmaaW.PrintWords Go.Proofs.YtjcjfghcahbbmaaW.PrintLast Go.Proofs.YtjcjfghcahbbmaaW.PrintMore
attribute [local go_sem] str_gtr str_geq str_leq max2_int min2_int max_two min_two max_three min_three max_four min_four   -- for this text's walks alone
set_option linter.unusedVariables false
set_option linter.unusedSimpArgs false

def bytes_Equal.f (l0 : List Int) (l1 : List Int) : Option (Bool):=some ((strOfNums l0).toList == (strOfNums l1).toList)
set_option maxHeartbeats 8000000 in
set_option maxRecDepth 100000 in
theorem bytes_Equal.calls (A0 : Option Addr) (c0 : Nat) (l0 : List Int) (A1 : Option Addr) (c1 : Nat) (l1 : List Int) (r : Bool) (w : World) (hr0 : Kd.C (Kd.int .u8) w A0 l0.length l0) (hc0 : l0.length ≤ c0) (hr1 : Kd.C (Kd.int .u8) w A1 l1.length l1) (hc1 : l1.length ≤ c1) (h : bytes_Equal.f l0 l1 = some r) :
  Calls Try.prog 59 #[.slice A0 l0.length c0,.slice A1 l1.length c1] w fun e w'=>e = .returned (.bool r) ∧ Drawn0 w w':=by
 have HR0:=Aside0.mk hr0
 have HC0:=Aside0.mk hc0
 clear hr0 hc0
 have HR1:=Aside0.mk hr1
 have HC1:=Aside0.mk hc1
 clear hr1 hc1
 have H : (some ((strOfNums l0).toList == (strOfNums l1).toList)) = some r:=h
 clear h
 obtain rfl:=Option.some.inj H
 have hcv3:=Kd.C_string (P:=Try.prog) (A:=A0) (c:=c0) Try.underlying26 Try.underlying5 Try.underlying9 HR0.out
 have hcvd_:=fun n_=>Kd.C_string (P:=Try.prog) (A:=A0) (c:=c0) Try.underlying26 Try.underlying5 Try.underlying9 (Kd.C_below (HR0.out) (pw_below_drewN (Below.refl _ _) n_))
 (try simp only [List.length_take,Int.toNat_natCast] at hcvd_)
 have hcv4:=Kd.C_string (P:=Try.prog) (A:=A1) (c:=c1) Try.underlying26 Try.underlying5 Try.underlying9 HR1.out
 have hcvd_:=fun n_=>Kd.C_string (P:=Try.prog) (A:=A1) (c:=c1) Try.underlying26 Try.underlying5 Try.underlying9 (Kd.C_below (HR1.out) (pw_below_drewN (Below.refl _ _) n_))
 (try simp only [List.length_take,Int.toNat_natCast] at hcvd_)
 go_enter Try.func59,Try.ntmps59
 go_wp2
 go_ret
 exact ⟨by first|rfl|(simp;done)|(simp [*];done),by repeat (first|exact Drawn0.refl _|apply Drawn0.step)⟩

end Go.Proofs.Ytjcjfghcahbbmaa.P

end

section
set_option linter.unusedVariables false
namespace Go.Proofs.YtjcjfghcahbbmaaL
open Go Go.RowKit Go.Proofs.YtjcjfghcahbbmaaW.PrintWords
section
variable {α β γ δ ε ζ : Type} {r : α}
theorem ev_some (r : α) : Ev (fun _ => some r) r := Ev.now r
theorem ev_bind {o : Option β} {a : β} {f : Nat → β → Option α} (h : o = some a) (k : Ev (fun n => f n a) r) : Ev (fun n => o.bind (f n)) r := Ev.bind (g := fun _ => o) (by rw [h]; exact Ev.now a) k
theorem ev_call {g : Nat → Option β} {a : β} {f : Nat → β → Option α} (h : Ev g a) (k : Ev (fun n => f n a) r) : Ev (fun n => (g n).bind (f n)) r := Ev.bind h k
theorem ev_call2 {g : Nat → Option (β × γ)} {a : β} {b : γ} {f : Nat → β × γ → Option α} (h : Ev g (a, b)) (k : ∀ t, t.1 = a → t.2 = b → Ev (fun n => f n t) r) : Ev (fun n => (g n).bind (f n)) r := Ev.bind h (k _ rfl rfl)
theorem ev_bind3 {o : Option (β × γ × δ)} {a : β} {b : γ} {c : δ} {f : Nat → β × γ × δ → Option α} (h : o = some (a, b, c)) (k : ∀ t, t.1 = a → t.2.1 = b → t.2.2 = c → Ev (fun n => f n t) r) : Ev (fun n => o.bind (f n)) r := ev_bind h (k _ rfl rfl rfl)
theorem ev_pos {c : Prop} [Decidable c] {a b : Nat → Option α} (h : c) (k : Ev a r) : Ev (fun n => if c then a n else b n) r := k.congr (fun n => if_pos h)
theorem ev_neg {c : Prop} [Decidable c] {a b : Nat → Option α} (h : ¬ c) (k : Ev b r) : Ev (fun n => if c then a n else b n) r := k.congr (fun n => if_neg h)
/-- One round of what has rounds. -/
theorem ev_step {g f : Nat → Option α} (h : ∀ k, g (k + 1) = f k) (k : Ev f r) : Ev g r := Ev.step h k
theorem ev_of {g : Nat → Option α} (N : Nat) (h : ∀ k, g (k + N) = some r) : Ev g r := ⟨N, fun k hk => by rw [show k = (k - N) + N from by omega]; exact h _⟩
end
theorem up1 {a : Nat} (h : a < 9223372036854775800) : wrap64 ((a : Int) + 1) = ((a + 1 : Nat) : Int) := by unfold wrap64; omega
theorem getD_at {α : Type} {l : List α} {z : α} {j : Nat} (h : j < l.length) : l.getD ((j : Int)).toNat z = l[j] := by
  rw [Int.toNat_natCast, List.getD_eq_getElem?_getD, List.getElem?_eq_getElem h]
  rfl
end Go.Proofs.YtjcjfghcahbbmaaL

end

section
set_option linter.unusedVariables false
namespace Go.Proofs.YtjcjfghcahbbmaaL
open Go Go.RowKit Go.Proofs.YtjcjfghcahbbmaaW.PrintWords

theorem bind1 {α δ : Type} {o : Option α} {a : α} {f : α → Option δ} {r : Option δ} (h : o = some a) (k : f a = r) : o.bind f = r := by
  rw [h]
  exact k
/-- Bytes. -/
def By (l : List Int) : Prop := ∀ c ∈ l, 0 ≤ c ∧ c < 256
theorem By.nil : By [] := fun c h => by cases h
theorem By.cons {c : Int} {l : List Int} (h0 : 0 ≤ c) (h1 : c < 256) (h : By l) : By (c :: l) := fun d hd => by
  rcases List.mem_cons.1 hd with rfl | hd
  · exact ⟨h0, h1⟩
  · exact h d hd
theorem By.append {a b : List Int} (ha : By a) (hb : By b) : By (a ++ b) := fun c h => (List.mem_append.1 h).elim (ha c) (hb c)
theorem By.right {a b : List Int} (h : By (a ++ b)) : By b := fun c hc => h c (List.mem_append_right _ hc)
theorem By.take {l : List Int} (h : By l) (n : Nat) : By (l.take n) := fun c hc => h c (List.mem_of_mem_take hc)
theorem By.drop {l : List Int} (h : By l) (n : Nat) : By (l.drop n) := fun c hc => h c (List.mem_of_mem_drop hc)
theorem By.tail {c : Int} {l : List Int} (h : By (c :: l)) : By l := fun d hd => h d (List.mem_cons_of_mem _ hd)
theorem By.head {c : Int} {l : List Int} (h : By (c :: l)) : 0 ≤ c ∧ c < 256 := h c (List.mem_cons_self ..)
theorem toList_data (s : ByteArray) : s.toList = s.data.toList := Lib.toList_data s
theorem ba_ext {s t : ByteArray} (h : s.toList = t.toList) : s = t := by
  rw [toList_data, toList_data] at h
  cases s; cases t
  simpa using h
theorem str_bytes (s : ByteArray) : strOfNums (bytesOf s) = s := by
  refine ba_ext ?_
  rw [toList_data, strOfNums_data, bytesOf, List.map_map, toList_data]
  conv => rhs; rw [← List.map_id s.data.toList]
  refine List.map_congr_left (fun b _ => ?_)
  simp
theorem bytes_str {l : List Int} (h : By l) : bytesOf (strOfNums l) = l := by
  rw [bytesOf, strOfNums_data, List.map_map]
  conv => rhs; rw [← List.map_id l]
  refine List.map_congr_left (fun c hc => ?_)
  have := h c hc
  simp only [Function.comp, UInt8.toNat_ofNat', id]
  omega
theorem bytesOf_by (s : ByteArray) : By (bytesOf s) := by
  intro c hc
  obtain ⟨b, _, rfl⟩ := List.mem_map.1 hc
  have := b.toNat_lt
  omega
theorem str_inj {a b : List Int} (ha : By a) (hb : By b) (h : strOfNums a = strOfNums b) : a = b := by rw [← bytes_str ha, h, bytes_str hb]

end Go.Proofs.YtjcjfghcahbbmaaL

end

section
set_option linter.unusedVariables false
namespace Go.Proofs.YtjcjfghcahbbmaaL
open Go Go.RowKit Go.Proofs.YtjcjfghcahbbmaaG Go.Proofs.YtjcjfghcahbbmaaW.PrintWords

theorem vint_small {x : Nat} (h : ¬ 127 < x) : vint x = [(x : Int)] := by rw [vint, dif_neg h]
theorem vint_big {x : Nat} (h : 127 < x) : vint x = ((x % 128 + 128 : Nat) : Int) :: vint (x / 128) := by rw [vint, dif_pos h]
theorem vint_pos (x : Nat) : 0 < (vint x).length := by
  by_cases h : 127 < x
  · rw [vint_big h]; simp
  · rw [vint_small h]; simp
theorem vint_by (x : Nat) : By (vint x) := by
  induction x using Nat.strongRecOn with
  | ind x ih =>
    by_cases h : 127 < x
    · rw [vint_big h]
      exact .cons (by omega) (by omega) (ih _ (by omega))
    · rw [vint_small h]
      exact .cons (by omega) (by omega) .nil
theorem val7_vint (x : Nat) : val7 (vint x) = x := by
  induction x using Nat.strongRecOn with
  | ind x ih =>
    by_cases h : 127 < x
    · rw [vint_big h, val7, ih _ (by omega)]; omega
    · rw [vint_small h, val7, val7]; omega
theorem vint_inj {x y : Nat} (h : vint x = vint y) : x = y := by rw [← val7_vint x, h, val7_vint]
theorem findIdx_vint (x : Nat) (rest : List Int) : (vint x ++ rest).findIdx (· < 128) = (vint x).length - 1 := by
  induction x using Nat.strongRecOn with
  | ind x ih =>
    by_cases h : 127 < x
    · have hp := vint_pos (x / 128)
      rw [vint_big h, List.cons_append, List.findIdx_cons, ih _ (by omega)]
      have : decide ((((x % 128 + 128 : Nat) : Int)) < 128) = false := decide_eq_false (by omega)
      rw [this]
      simp only [cond_false, List.length_cons]
      omega
    · rw [vint_small h, List.cons_append, List.findIdx_cons]
      have : decide ((x : Int) < 128) = true := decide_eq_true (by omega)
      rw [this]
      simp
theorem vint_last (x : Nat) (rest : List Int) (hx : 0 < x) : (vint x ++ rest).getD ((vint x).length - 1) 0 ≠ 0 := by
  induction x using Nat.strongRecOn with
  | ind x ih =>
    by_cases h : 127 < x
    · have hp := vint_pos (x / 128)
      have := ih (x / 128) (by omega) (by omega)
      rw [vint_big h, List.cons_append, List.length_cons]
      obtain ⟨m, hm⟩ : ∃ m, (vint (x / 128)).length = m + 1 := ⟨_, (Nat.succ_pred_eq_of_pos hp).symm⟩
      rw [hm] at this ⊢
      simpa using this
    · rw [vint_small h]; simp; omega
theorem vint_top (m : Nat) (hm : m ≤ 128) (rest : List Int) : ∀ n x, x < 128 ^ n * m → (vint x).length = n + 1 → (vint x ++ rest).getD n 0 < m := by
  intro n
  induction n with
  | zero =>
    intro x hx hl
    have h : ¬ 127 < x := by simp at hx; omega
    rw [vint_small h]
    simp at hx ⊢
    omega
  | succ n ih =>
    intro x hx hl
    by_cases h : 127 < x
    · rw [vint_big h] at hl ⊢
      have hl' : (vint (x / 128)).length = n + 1 := by simpa using hl
      have := ih (x / 128) (by rw [Nat.pow_succ] at hx; rw [Nat.div_lt_iff_lt_mul (by omega)]; calc x < 128 ^ n * 128 * m := hx
        _ = 128 ^ n * m * 128 := by rw [Nat.mul_assoc, Nat.mul_comm 128 m, ← Nat.mul_assoc]) hl'
      simpa using this
    · rw [vint_small h] at hl
      simp at hl
theorem takeOk_vint (x : Nat) (rest : List Int) (hx : x < 18446744073709551616) : takeOk (vint x ++ rest) = true := by
  have hp := vint_pos x
  have hl := vint_len10 hx
  unfold takeOk
  rw [findIdx_vint]
  have h1 : (vint x).length - 1 < (vint x ++ rest).length := by rw [List.length_append]; omega
  have h3 : ¬ (0 < (vint x).length - 1 ∧ (vint x ++ rest).getD ((vint x).length - 1) 0 = 0) := by
    rintro ⟨h0, h⟩
    refine vint_last x rest ?_ h
    rcases Nat.eq_zero_or_pos x with rfl | h'
    · rw [vint_small (by omega)] at h0; simp at h0
    · exact h'
  have h4 : ¬ ((vint x).length - 1 = 9 ∧ 1 < (vint x ++ rest).getD 9 0) := by
    rintro ⟨h0, h⟩
    have := vint_top 2 (by omega) rest 9 x (by have : (128 : Nat) ^ 9 * 2 = 18446744073709551616 := by decide
                                               omega) (by omega)
    omega
  simp only [h1, decide_true, Bool.true_and, Bool.and_eq_true, Bool.not_eq_true', Bool.and_eq_false_iff, decide_eq_false_iff_not, decide_eq_true_eq]
  refine ⟨⟨by omega, ?_⟩, ?_⟩
  · by_cases h0 : 0 < (vint x).length - 1
    · exact .inr (fun h => h3 ⟨h0, h⟩)
    · exact .inl h0
  · by_cases h0 : (vint x).length - 1 = 9
    · exact .inr (fun h => h4 ⟨h0, h⟩)
    · exact .inl h0

/-- What is put is taken. -/
theorem take_vint (x : Nat) (rest : List Int) (hx : x < 18446744073709551616) (hr : By rest) (hl : rest.length + 10 < 140737488355328) :
    nums_Take.f (vint x ++ rest) = some ((x : Int), rest, true) := by
  have hp := vint_pos x
  have hl10 := vint_len10 hx
  unfold nums_Take.f
  rw [if_pos ⟨(vint_by x).append hr, by rw [List.length_append]; omega⟩, if_pos (takeOk_vint x rest hx), findIdx_vint]
  have e : (vint x).length - 1 + 1 = (vint x).length := by omega
  rw [e, List.take_left, List.drop_left, val7_vint]

theorem val7_pos : ∀ (l : List Int) (i : Nat), By l → l.findIdx (· < 128) = i → i < l.length → l.getD i 0 ≠ 0 → 0 < val7 (l.take (i + 1))
  | [], i, _, _, hl, _ => by simp at hl
  | c :: cs, i, hb, hi, hl, h0 => by
    have hc := hb.head
    rw [List.findIdx_cons] at hi
    by_cases h : c < 128
    · rw [decide_eq_true h] at hi
      simp at hi
      subst hi
      simp at h0
      simp [val7]
      omega
    · rw [decide_eq_false h] at hi
      simp at hi
      subst hi
      have := val7_pos cs _ hb.tail rfl (by simpa using hl) (by simpa using h0)
      rw [List.take_succ_cons, val7]
      omega
theorem vint_back : ∀ (l : List Int) (i : Nat), By l → l.findIdx (· < 128) = i → i < l.length → (0 < i → l.getD i 0 ≠ 0) → vint (val7 (l.take (i + 1))) = l.take (i + 1)
  | [], i, _, _, hl, _ => by simp at hl
  | c :: cs, i, hb, hi, hl, h0 => by
    have hc := hb.head
    rw [List.findIdx_cons] at hi
    by_cases h : c < 128
    · rw [decide_eq_true h] at hi
      simp at hi
      subst hi
      have e : val7 (List.take (0 + 1) (c :: cs)) = c.toNat := by simp [val7]; omega
      rw [e, vint_small (by omega)]
      simp
      omega
    · rw [decide_eq_false h] at hi
      simp at hi
      subst hi
      have hl' : cs.findIdx (· < 128) < cs.length := by simpa using hl
      have h0' : cs.getD (cs.findIdx (· < 128)) 0 ≠ 0 := by simpa using h0 (by omega)
      have ih := vint_back cs _ hb.tail rfl hl' (fun _ => h0')
      have hp := val7_pos cs _ hb.tail rfl hl' h0'
      rw [List.take_succ_cons, val7]
      rw [vint_big (by omega)]
      have e1 : ((c % 128).toNat + 128 * val7 (cs.take (cs.findIdx (· < 128) + 1))) / 128 = val7 (cs.take (cs.findIdx (· < 128) + 1)) := by omega
      have e2 : ((((c % 128).toNat + 128 * val7 (cs.take (cs.findIdx (· < 128) + 1))) % 128 + 128 : Nat) : Int) = c := by omega
      rw [e1, ih, e2]

/-- What is taken is put as it stood; or nothing is taken. -/
theorem take_cases (l : List Int) (hb : By l) (hl : l.length < 140737488355328) :
    (∃ (x : Nat) (rest : List Int), x < 18446744073709551616 ∧ l = vint x ++ rest ∧ nums_Take.f l = some ((x : Int), rest, true)) ∨
    (nums_Take.f l = some (0, [], false) ∧ ∀ (x : Nat) (rest : List Int), x < 18446744073709551616 → l ≠ vint x ++ rest) := by
  have hf : nums_Take.f l = some (if takeOk l = true then ((val7 (l.take (l.findIdx (· < 128) + 1)) : Int), l.drop (l.findIdx (· < 128) + 1), true) else (0, [], false)) := by
    unfold nums_Take.f
    rw [if_pos ⟨hb, hl⟩]
  by_cases ho : takeOk l = true
  · left
    rw [hf, if_pos ho]
    simp only [takeOk, Bool.and_eq_true, decide_eq_true_eq, Bool.not_eq_true', Bool.and_eq_false_iff, decide_eq_false_iff_not] at ho
    obtain ⟨⟨⟨h1, h2⟩, h3⟩, h4⟩ := ho
    have hback := vint_back l _ hb rfl h1 (fun h => by rcases h3 with h' | h'; exact absurd h h'; exact h')
    refine ⟨_, _, ?_, ?_, rfl⟩
    · have e1 : l.take (l.findIdx (· < 128) + 1) = l.take (l.findIdx (· < 128)) ++ [l.getD (l.findIdx (· < 128)) 0] := by
        rw [List.take_succ_eq_append_getElem h1, List.getD_eq_getElem?_getD, List.getElem?_eq_getElem h1]; rfl
      have hlen : (l.take (l.findIdx (· < 128))).length = l.findIdx (· < 128) := by rw [List.length_take]; omega
      have hlt := val7_lt (l.take (l.findIdx (· < 128)))
      rw [e1, val7_snoc, hlen]
      rw [hlen] at hlt
      generalize l.findIdx (· < 128) = i at *
      have hi9 : i ≤ 9 := by omega
      have e9 : (128 : Nat) ^ 9 * 2 = 18446744073709551616 := by decide
      by_cases hi : i = 9
      · subst hi
        have hm : l.getD 9 0 ∈ l := by rw [List.getD_eq_getElem?_getD, List.getElem?_eq_getElem h1]; exact List.getElem_mem h1
        have hm0 := (hb _ hm).1
        have hd : (l.getD 9 0 % 128).toNat ≤ 1 := by
          rcases h4 with h' | h'
          · exact absurd rfl h'
          · omega
        have : (l.getD 9 0 % 128).toNat * 128 ^ 9 ≤ 1 * 128 ^ 9 := Nat.mul_le_mul hd (Nat.le_refl _)
        omega
      · have hd : (l.getD i 0 % 128).toNat ≤ 127 := by omega
        have : (l.getD i 0 % 128).toNat * 128 ^ i ≤ 127 * 128 ^ i := Nat.mul_le_mul hd (Nat.le_refl _)
        have h8 : (128 : Nat) ^ i ≤ 128 ^ 8 := Nat.pow_le_pow_right (by omega) (by omega)
        have e8 : (128 : Nat) ^ 8 = 72057594037927936 := by decide
        omega
    · rw [hback, List.take_append_drop]
  · right
    rw [hf, if_neg ho]
    refine ⟨rfl, fun x rest hx e => ho ?_⟩
    rw [e]
    exact takeOk_vint x rest hx
theorem vint_append_inj {x y : Nat} {a b : List Int} (hx : x < 18446744073709551616) (hy : y < 18446744073709551616) (h : vint x ++ a = vint y ++ b) : x = y ∧ a = b := by
  have h1 := findIdx_vint x a
  have h2 := findIdx_vint y b
  rw [h] at h1
  have hp := vint_pos x
  have hq := vint_pos y
  have hl : (vint x).length = (vint y).length := by omega
  have h3 := List.append_inj h hl
  exact ⟨vint_inj h3.1, h3.2⟩
end Go.Proofs.YtjcjfghcahbbmaaL

end

section

end

section
namespace Go.Proofs.Ytjcjfghcahbbmaa.P
open Go.RowKit Go.Proofs.YtjcjfghcahbbmaaG Go.Proofs.YtjcjfghcahbbmaaW.PrintWords Go.Proofs.YtjcjfghcahbbmaaW.PrintLast Go.Proofs.YtjcjfghcahbbmaaW.PrintMore
attribute [local go_sem] str_gtr str_geq str_leq max2_int min2_int max_two min_two max_three min_three max_four min_four   -- for this text's walks alone
set_option linter.unusedVariables false
set_option linter.unusedSimpArgs false

def ratlinelaw02_Same.f (l0 : List Int) (l1 : List Int) : Option (Bool):=some ((strOfNums l0).toList == (strOfNums l1).toList)
set_option maxHeartbeats 8000000 in
set_option maxRecDepth 100000 in
theorem ratlinelaw02_Same.calls (A0 : Option Addr) (c0 : Nat) (l0 : List Int) (A1 : Option Addr) (c1 : Nat) (l1 : List Int) (r : Bool) (w : World) (hr0 : Kd.C (Kd.int .u8) w A0 l0.length l0) (hc0 : l0.length ≤ c0) (hr1 : Kd.C (Kd.int .u8) w A1 l1.length l1) (hc1 : l1.length ≤ c1) (h : ratlinelaw02_Same.f l0 l1 = some r) :
  Calls Try.prog 26 #[.slice A0 l0.length c0,.slice A1 l1.length c1] w fun e w'=>e = .returned (.bool r) ∧ Drawn0 w w':=by
 have HR0:=Aside0.mk hr0
 have HC0:=Aside0.mk hc0
 clear hr0 hc0
 have HR1:=Aside0.mk hr1
 have HC1:=Aside0.mk hc1
 clear hr1 hc1
 have H : (some ((strOfNums l0).toList == (strOfNums l1).toList)) = some r:=h
 clear h
 obtain rfl:=Option.some.inj H
 have hcv3:=Kd.C_string (P:=Try.prog) (A:=A0) (c:=c0) Try.underlying26 Try.underlying5 Try.underlying9 HR0.out
 have hcvd_:=fun n_=>Kd.C_string (P:=Try.prog) (A:=A0) (c:=c0) Try.underlying26 Try.underlying5 Try.underlying9 (Kd.C_below (HR0.out) (pw_below_drewN (Below.refl _ _) n_))
 (try simp only [List.length_take,Int.toNat_natCast] at hcvd_)
 have hcv4:=Kd.C_string (P:=Try.prog) (A:=A1) (c:=c1) Try.underlying26 Try.underlying5 Try.underlying9 HR1.out
 have hcvd_:=fun n_=>Kd.C_string (P:=Try.prog) (A:=A1) (c:=c1) Try.underlying26 Try.underlying5 Try.underlying9 (Kd.C_below (HR1.out) (pw_below_drewN (Below.refl _ _) n_))
 (try simp only [List.length_take,Int.toNat_natCast] at hcvd_)
 go_enter Try.func26,Try.ntmps26
 go_wp2
 go_ret
 exact ⟨by first|rfl|(simp;done)|(simp [*];done),by repeat (first|exact Drawn0.refl _|apply Drawn0.step)⟩

end Go.Proofs.Ytjcjfghcahbbmaa.P

end

section
namespace Go.Proofs.Ytjcjfghcahbbmaa.P
open Go.RowKit Go.Proofs.YtjcjfghcahbbmaaG Go.Proofs.YtjcjfghcahbbmaaW.PrintWords Go.Proofs.YtjcjfghcahbbmaaW.PrintLast Go.Proofs.YtjcjfghcahbbmaaW.PrintMore
attribute [local go_sem] str_gtr str_geq str_leq max2_int min2_int max_two min_two max_three min_three max_four min_four   -- for this text's walks alone
set_option linter.unusedVariables false
set_option linter.unusedSimpArgs false

-- GIVEN: function 81 (nums_Put)

def nums_PutText.f (l0 : List Int) (a1 : ByteArray) : Option (List Int):=(nums_Put.f l0 (IntKind.u64.wrap ((a1.size : Int)))).bind fun t112=>(if t112.length + a1.size < 140737488355328 then (some (t112 ++ bytesOf a1)) else (none))
set_option maxHeartbeats 8000000 in
set_option maxRecDepth 100000 in
theorem nums_PutText.calls (A0 : Option Addr) (c0 : Nat) (l0 : List Int) (a1 : ByteArray) (r : List Int) (w : World) (hr0 : Kd.C (Kd.int .u8) w A0 l0.length l0) (hc0 : l0.length ≤ c0) (h : nums_PutText.f l0 a1 = some r) :
  Calls Try.prog 80 #[.slice A0 l0.length c0,.string a1] w fun e w'=>∃ v0_ : Value,e = .returned (v0_) ∧ Kd.R (Kd.int .u8) 5 w' w.heap.size (fun _=>True) v0_ r ∧ Below w.heap.size w w':=by
 have HR0:=Aside0.mk hr0
 have HC0:=Aside0.mk hc0
 clear hr0 hc0
 have HB:=Aside0.mk (Below.refl w.heap.size w)
 have H : ((nums_Put.f l0 (IntKind.u64.wrap ((a1.size : Int)))).bind fun t112=>(if t112.length + a1.size < 140737488355328 then (some (t112 ++ bytesOf a1)) else (none))) = some r:=h
 clear h
 replace H:=Option.bind_eq_some_iff.mp H
 obtain ⟨t112,A30,H⟩:=H
 replace H : (if t112.length + a1.size < 140737488355328 then (some (t112 ++ bytesOf a1)) else (none)) = some r:=H
 have A3:=Aside0.mk A30
 clear A30
 by_cases c4 : t112.length + a1.size < 140737488355328
 ·rw [if_pos c4] at H
  have LMc4:=Aside0.mk c4
  clear c4
  obtain ⟨y115,hy115⟩ : ∃ y_ : List Int,y_ = (t112 ++ bytesOf a1):=⟨_,rfl⟩
  replace H : (some y115) = some r:=by first|(rw [hy115];with_reducible exact H)|(have H2_:=(Option.bind_some _ _).symm.trans H;rw [hy115];with_reducible exact H2_)|(have H2_:=(Option.bind_some _ _).symm.trans H;with_reducible exact H2_)|with_reducible exact H|(rw [hy115];exact H)|exact H
  have Ny115:=Aside0.mk hy115
  clear hy115
  obtain rfl:=Option.some.inj H
  go_enter Try.func80,Try.ntmps80
  go_wp2_with (first|((with_reducible refine gate_callee (f:=81) rfl ?_);refine goesL_ (some 9) rfl rfl Try.func81 (by kernel_rfl) rfl #[.slice A0 l0.length c0,.int .u64 (IntKind.u64.wrap ((a1.size : Int)))] rfl (by (try simp only [List.map_toArray,List.map_cons,List.map_nil]);first|done|rfl|(simp only [List.length_drop,List.length_take];rfl)) ?_;(with_reducible refine (nums_Put.calls _ _ l0 (IntKind.u64.wrap ((a1.size : Int))) t112 _ ?side1 ?side2 A3.out).mono ?_);(case side1=>repeat (first|exact HR0.out|(with_reducible refine Kd.C_alloc ?_ _)|(with_reducible refine Kd.C_drewN ?_ _)|(with_reducible refine Kd.C_drew ?_)));(case side2=>exact HC0.out);rintro e w5 ⟨v113,rfl,ho0,hb⟩;refine ⟨_,rfl,?_⟩;have n0_:=Aside0.mk (Kd.R_lower ho0 (below_size (by repeat (first|(with_reducible first|exact HB.out|apply below_alloc|apply pw_below_drewN|apply below_drew1)|exact HB.out))));have n1_:=Aside0.mk (below_step (by repeat (first|(with_reducible first|exact HB.out|apply below_alloc|apply pw_below_drewN|apply below_drew1)|exact HB.out)) hb);clear HB;have HO114:=n0_;have HB:=n1_;clear n0_ n1_;(try clear hb);(try clear hb2);(try clear hk);(try clear hi);(try clear ho0))|(at_builtin;refine print_append_str (w0:=w) w.heap.size rfl (.tmp 9) _ 26 9 5 rfl Try.underlying26 Try.underlying9 info5 v113 t112 a1 rfl rfl ?aO ?aB ?aS ?aL ?_;(case aB=>exact (by repeat (first|(with_reducible first|exact HB.out|apply below_alloc|apply pw_below_drewN|apply below_drew1)|exact HB.out)));(case aO=>exact (Kd.own_of_R (by (with_reducible repeat (first|apply Kd.R_alloc|apply Kd.R_drewN|apply Kd.R_drew));exact HO114.out)));(case aS=>exact (below_size (by repeat (first|(with_reducible first|exact HB.out|apply below_alloc|apply pw_below_drewN|apply below_drew1)|exact HB.out))));(case aL=>have:=LMc4.out;omega);intro v116 w6 ho0 hb hg;have ho:=Kd.R_of_own (h1:=fun _=>rfl) (ok:=fun _=>True) ho0 (fun _ _=>trivial);clear ho0;have hat:=True.intro;rw [← Ny115.out] at ho;change Kd.R (Kd.int .u8) 5 w6 w.heap.size (fun _=>True) v116 y115 at ho;have n0_:=Aside0.mk (hb);have n1_:=Aside0.mk (ho);clear HB;clear HO114;have HB:=n0_;have HO117:=n1_;clear n0_ n1_;clear ho hb hg hat))
  go_ret
  exact ⟨_,by first|rfl|(simp [errW_none,errW_some] <;> rfl)|(simp [*,errW_none,errW_some] <;> rfl),by (with_reducible repeat (first|apply Kd.R_alloc|apply Kd.R_drewN|apply Kd.R_drew));exact HO117.out,by repeat (first|(with_reducible first|exact HB.out|apply below_alloc|apply pw_below_drewN|apply below_drew1)|exact HB.out)⟩
 ·rw [if_neg c4] at H
  exact absurd H (by simp)

-- NOT PRINTED: function 49 (block_maker_put)

def ikey_Right.f (a0_0 : ByteArray) (a0_1 : Int) (a0_2 : Int) : Option (Bool):=if a0_0.toList = ([] : List UInt8) then (some false) else (if (a0_0.size : Int) ≤ 64 then (if a0_1 ≤ 72057594037927935 then (some (decide (a0_2 ≤ 1))) else (some false)) else (some false))
set_option maxHeartbeats 8000000 in
set_option maxRecDepth 100000 in
theorem ikey_Right.calls (a0_0 : ByteArray) (a0_1 : Int) (a0_2 : Int) (r : Bool) (w : World) (h : ikey_Right.f a0_0 a0_1 a0_2 = some r) :
  Calls Try.prog 90 #[.agg #[.string a0_0,.int .u64 a0_1,.int .u8 a0_2]] w fun e w'=>e = .returned (.bool r) ∧ Below w.heap.size w w':=by
 have hu50:=Try.underlying50
 have HB:=Aside0.mk (Below.refl w.heap.size w)
 have H : (if a0_0.toList = ([] : List UInt8) then (some false) else (if (a0_0.size : Int) ≤ 64 then (if a0_1 ≤ 72057594037927935 then (some (decide (a0_2 ≤ 1))) else (some false)) else (some false))) = some r:=h
 clear h
 by_cases c2 : a0_0.toList = ([] : List UInt8)
 ·rw [if_pos c2] at H
  have c2b0 : (a0_0.toList == ([] : List UInt8)) = true:=beq_iff_eq.mpr c2
  have c2b1 : (a0_0.toList != ([] : List UInt8)) = false:=bne_eq_false_iff_eq.mpr c2
  clear c2
  obtain rfl:=Option.some.inj H
  go_enter Try.func90,Try.ntmps90
  go_wp2_with (first|((with_reducible refine gate_dst (N:=1) rfl ?_);(try (refine gate_guard (by rfl) ?_;dsimp only));refine box_event ?hg (N:=1) ?hd (cs:=#[.string a0_0,.int .u64 a0_1,.int .u8 a0_2]) (t:=50) ?hr ?_;(case hd=>rfl);(case hg=>rfl);(case hr=>first|(go_simp;done)|(go_simp;rfl));intro gb122 hg w3 hbox hb;have n0_:=Aside0.mk (below_step (by repeat (first|(with_reducible first|exact HB.out|apply below_alloc|apply pw_below_drewN|apply below_drew1)|exact HB.out)) hb);have n1_:=Aside0.mk (hbox);have n2_:=Aside0.mk ((by rw [hg];exact (below_size (by repeat (first|(with_reducible first|exact HB.out|apply below_alloc|apply pw_below_drewN|apply below_drew1)|exact HB.out))) : w.heap.size ≤ gb122));have n3_:=Aside0.mk ((by rw [hg];exact (below_size (by repeat (first|(with_reducible first|exact HB.out|apply below_alloc|apply pw_below_drewN|apply below_drew1)|exact HB.out))) : w.heap.size ≤ gb122));clear HB;have HB:=n0_;have BK122:=n1_;have GW122:=n2_;have GE122:=n3_;clear n0_ n1_ n2_ n3_;clear hb hbox hg;have hcz4_0 : w3.cell? ⟨gb122,0,none⟩ = some (.string a0_0):=(blk_cell BK122.out 0).trans rfl;have hcz4_1 : w3.cell? ⟨gb122,1,none⟩ = some (.int .u64 a0_1):=(blk_cell BK122.out 1).trans rfl;have hcz4_2 : w3.cell? ⟨gb122,2,none⟩ = some (.int .u8 a0_2):=(blk_cell BK122.out 2).trans rfl;have hfz4_0:=blk_frozen BK122.out 0;have hfz4_1:=blk_frozen BK122.out 1;have hfz4_2:=blk_frozen BK122.out 2))
  go_ret
  exact ⟨by first|rfl|(simp [errW_none,errW_some] <;> rfl)|(simp [*,errW_none,errW_some] <;> rfl),by repeat (first|(with_reducible first|exact HB.out|apply below_alloc|apply pw_below_drewN|apply below_drew1|refine below_set ?_ GE122.out)|exact HB.out)⟩
 ·rw [if_neg c2] at H
  have c2b0 : (a0_0.toList == ([] : List UInt8)) = false:=beq_eq_false_iff_ne.mpr c2
  have c2b1 : (a0_0.toList != ([] : List UInt8)) = true:=bne_iff_ne.mpr c2
  by_cases c5 : (a0_0.size : Int) ≤ 64
  ·rw [if_pos c5] at H
   have c5b0 : decide ((a0_0.size : Int) ≤ 64) = true:=decide_eq_true c5
   have c5b1 : decide (a0_0.size ≤ 64) = true:=decide_eq_true (by omega)
   clear c5
   by_cases c6 : a0_1 ≤ 72057594037927935
   ·rw [if_pos c6] at H
    have c6b0 : decide (a0_1 ≤ 72057594037927935) = true:=decide_eq_true c6
    clear c6
    obtain rfl:=Option.some.inj H
    go_enter Try.func90,Try.ntmps90
    go_wp2_with (first|((with_reducible refine gate_dst (N:=1) rfl ?_);(try (refine gate_guard (by rfl) ?_;dsimp only));refine box_event ?hg (N:=1) ?hd (cs:=#[.string a0_0,.int .u64 a0_1,.int .u8 a0_2]) (t:=50) ?hr ?_;(case hd=>rfl);(case hg=>rfl);(case hr=>first|(go_simp;done)|(go_simp;rfl));intro gb122 hg w7 hbox hb;have n0_:=Aside0.mk (below_step (by repeat (first|(with_reducible first|exact HB.out|apply below_alloc|apply pw_below_drewN|apply below_drew1)|exact HB.out)) hb);have n1_:=Aside0.mk (hbox);have n2_:=Aside0.mk ((by rw [hg];exact (below_size (by repeat (first|(with_reducible first|exact HB.out|apply below_alloc|apply pw_below_drewN|apply below_drew1)|exact HB.out))) : w.heap.size ≤ gb122));have n3_:=Aside0.mk ((by rw [hg];exact (below_size (by repeat (first|(with_reducible first|exact HB.out|apply below_alloc|apply pw_below_drewN|apply below_drew1)|exact HB.out))) : w.heap.size ≤ gb122));clear HB;have HB:=n0_;have BK122:=n1_;have GW122:=n2_;have GE122:=n3_;clear n0_ n1_ n2_ n3_;clear hb hbox hg;have hcz8_0 : w7.cell? ⟨gb122,0,none⟩ = some (.string a0_0):=(blk_cell BK122.out 0).trans rfl;have hcz8_1 : w7.cell? ⟨gb122,1,none⟩ = some (.int .u64 a0_1):=(blk_cell BK122.out 1).trans rfl;have hcz8_2 : w7.cell? ⟨gb122,2,none⟩ = some (.int .u8 a0_2):=(blk_cell BK122.out 2).trans rfl;have hfz8_0:=blk_frozen BK122.out 0;have hfz8_1:=blk_frozen BK122.out 1;have hfz8_2:=blk_frozen BK122.out 2))
    go_ret
    exact ⟨by first|rfl|(simp [errW_none,errW_some] <;> rfl)|(simp [*,errW_none,errW_some] <;> rfl),by repeat (first|(with_reducible first|exact HB.out|apply below_alloc|apply pw_below_drewN|apply below_drew1|refine below_set ?_ GE122.out)|exact HB.out)⟩
   ·rw [if_neg c6] at H
    have c6b0 : decide (a0_1 ≤ 72057594037927935) = false:=decide_eq_false c6
    clear c6
    obtain rfl:=Option.some.inj H
    go_enter Try.func90,Try.ntmps90
    go_wp2_with (first|((with_reducible refine gate_dst (N:=1) rfl ?_);(try (refine gate_guard (by rfl) ?_;dsimp only));refine box_event ?hg (N:=1) ?hd (cs:=#[.string a0_0,.int .u64 a0_1,.int .u8 a0_2]) (t:=50) ?hr ?_;(case hd=>rfl);(case hg=>rfl);(case hr=>first|(go_simp;done)|(go_simp;rfl));intro gb122 hg w9 hbox hb;have n0_:=Aside0.mk (below_step (by repeat (first|(with_reducible first|exact HB.out|apply below_alloc|apply pw_below_drewN|apply below_drew1)|exact HB.out)) hb);have n1_:=Aside0.mk (hbox);have n2_:=Aside0.mk ((by rw [hg];exact (below_size (by repeat (first|(with_reducible first|exact HB.out|apply below_alloc|apply pw_below_drewN|apply below_drew1)|exact HB.out))) : w.heap.size ≤ gb122));have n3_:=Aside0.mk ((by rw [hg];exact (below_size (by repeat (first|(with_reducible first|exact HB.out|apply below_alloc|apply pw_below_drewN|apply below_drew1)|exact HB.out))) : w.heap.size ≤ gb122));clear HB;have HB:=n0_;have BK122:=n1_;have GW122:=n2_;have GE122:=n3_;clear n0_ n1_ n2_ n3_;clear hb hbox hg;have hcz10_0 : w9.cell? ⟨gb122,0,none⟩ = some (.string a0_0):=(blk_cell BK122.out 0).trans rfl;have hcz10_1 : w9.cell? ⟨gb122,1,none⟩ = some (.int .u64 a0_1):=(blk_cell BK122.out 1).trans rfl;have hcz10_2 : w9.cell? ⟨gb122,2,none⟩ = some (.int .u8 a0_2):=(blk_cell BK122.out 2).trans rfl;have hfz10_0:=blk_frozen BK122.out 0;have hfz10_1:=blk_frozen BK122.out 1;have hfz10_2:=blk_frozen BK122.out 2))
    go_ret
    exact ⟨by first|rfl|(simp [errW_none,errW_some] <;> rfl)|(simp [*,errW_none,errW_some] <;> rfl),by repeat (first|(with_reducible first|exact HB.out|apply below_alloc|apply pw_below_drewN|apply below_drew1|refine below_set ?_ GE122.out)|exact HB.out)⟩
  ·rw [if_neg c5] at H
   have c5b0 : decide ((a0_0.size : Int) ≤ 64) = false:=decide_eq_false c5
   have c5b1 : decide (a0_0.size ≤ 64) = false:=decide_eq_false (by omega)
   clear c5
   obtain rfl:=Option.some.inj H
   go_enter Try.func90,Try.ntmps90
   go_wp2_with (first|((with_reducible refine gate_dst (N:=1) rfl ?_);(try (refine gate_guard (by rfl) ?_;dsimp only));refine box_event ?hg (N:=1) ?hd (cs:=#[.string a0_0,.int .u64 a0_1,.int .u8 a0_2]) (t:=50) ?hr ?_;(case hd=>rfl);(case hg=>rfl);(case hr=>first|(go_simp;done)|(go_simp;rfl));intro gb122 hg w11 hbox hb;have n0_:=Aside0.mk (below_step (by repeat (first|(with_reducible first|exact HB.out|apply below_alloc|apply pw_below_drewN|apply below_drew1)|exact HB.out)) hb);have n1_:=Aside0.mk (hbox);have n2_:=Aside0.mk ((by rw [hg];exact (below_size (by repeat (first|(with_reducible first|exact HB.out|apply below_alloc|apply pw_below_drewN|apply below_drew1)|exact HB.out))) : w.heap.size ≤ gb122));have n3_:=Aside0.mk ((by rw [hg];exact (below_size (by repeat (first|(with_reducible first|exact HB.out|apply below_alloc|apply pw_below_drewN|apply below_drew1)|exact HB.out))) : w.heap.size ≤ gb122));clear HB;have HB:=n0_;have BK122:=n1_;have GW122:=n2_;have GE122:=n3_;clear n0_ n1_ n2_ n3_;clear hb hbox hg;have hcz12_0 : w11.cell? ⟨gb122,0,none⟩ = some (.string a0_0):=(blk_cell BK122.out 0).trans rfl;have hcz12_1 : w11.cell? ⟨gb122,1,none⟩ = some (.int .u64 a0_1):=(blk_cell BK122.out 1).trans rfl;have hcz12_2 : w11.cell? ⟨gb122,2,none⟩ = some (.int .u8 a0_2):=(blk_cell BK122.out 2).trans rfl;have hfz12_0:=blk_frozen BK122.out 0;have hfz12_1:=blk_frozen BK122.out 1;have hfz12_2:=blk_frozen BK122.out 2))
   go_ret
   exact ⟨by first|rfl|(simp [errW_none,errW_some] <;> rfl)|(simp [*,errW_none,errW_some] <;> rfl),by repeat (first|(with_reducible first|exact HB.out|apply below_alloc|apply pw_below_drewN|apply below_drew1|refine below_set ?_ GE122.out)|exact HB.out)⟩

end Go.Proofs.Ytjcjfghcahbbmaa.P

end

section
namespace Go.Proofs.Ytjcjfghcahbbmaa.P
open Go.RowKit Go.Proofs.YtjcjfghcahbbmaaG Go.Proofs.YtjcjfghcahbbmaaW.PrintWords Go.Proofs.YtjcjfghcahbbmaaW.PrintLast Go.Proofs.YtjcjfghcahbbmaaW.PrintMore
attribute [local go_sem] str_gtr str_geq str_leq max2_int min2_int max_two min_two max_three min_three max_four min_four   -- for this text's walks alone
set_option linter.unusedVariables false
set_option linter.unusedSimpArgs false

-- GIVEN: function 82 (slices_Clone_byte_byte)

def nums_PutFour.f (l0 : List Int) (a1 : Int) : Option (List Int):=(slices_Clone_byte_byte.f l0).bind fun t103=>((some (([(a1) % 256,(a1 / 256) % 256,(a1 / 65536) % 256,(a1 / 16777216) % 256] : List Int) : List Int)).bind fun y106=>(if t103.length + y106.length < 140737488355328 then (some (t103 ++ y106)) else (none)))
set_option maxHeartbeats 8000000 in
set_option maxRecDepth 100000 in
theorem nums_PutFour.calls (A0 : Option Addr) (c0 : Nat) (l0 : List Int) (a1 : Int) (r : List Int) (w : World) (hr0 : Kd.C (Kd.int .u8) w A0 l0.length l0) (hc0 : l0.length ≤ c0) (h : nums_PutFour.f l0 a1 = some r) :
  Calls Try.prog 50 #[.slice A0 l0.length c0,.int .u32 a1] w fun e w'=>∃ v0_ : Value,e = .returned (v0_) ∧ Kd.R (Kd.int .u8) 5 w' w.heap.size (fun _=>True) v0_ r ∧ Below w.heap.size w w':=by
 have HR0:=Aside0.mk hr0
 have HC0:=Aside0.mk hc0
 clear hr0 hc0
 have HB:=Aside0.mk (Below.refl w.heap.size w)
 have H : ((slices_Clone_byte_byte.f l0).bind fun t103=>((some (([(a1) % 256,(a1 / 256) % 256,(a1 / 65536) % 256,(a1 / 16777216) % 256] : List Int) : List Int)).bind fun y106=>(if t103.length + y106.length < 140737488355328 then (some (t103 ++ y106)) else (none)))) = some r:=h
 clear h
 replace H:=Option.bind_eq_some_iff.mp H
 obtain ⟨t103,A30,H⟩:=H
 replace H : ((some (([(a1) % 256,(a1 / 256) % 256,(a1 / 65536) % 256,(a1 / 16777216) % 256] : List Int) : List Int)).bind fun y106=>(if t103.length + y106.length < 140737488355328 then (some (t103 ++ y106)) else (none))) = some r:=H
 have A3:=Aside0.mk A30
 clear A30
 obtain ⟨y106,hy106⟩ : ∃ y_ : List Int,y_ = (([(a1) % 256,(a1 / 256) % 256,(a1 / 65536) % 256,(a1 / 16777216) % 256] : List Int)):=⟨_,rfl⟩
 replace H : (if t103.length + y106.length < 140737488355328 then (some (t103 ++ y106)) else (none)) = some r:=by first|(rw [hy106];with_reducible exact H)|(have H2_:=(Option.bind_some _ _).symm.trans H;rw [hy106];with_reducible exact H2_)|(have H2_:=(Option.bind_some _ _).symm.trans H;with_reducible exact H2_)|with_reducible exact H|(rw [hy106];exact H)|exact H
 have Ny106:=Aside0.mk hy106
 clear hy106
 by_cases c4 : t103.length + y106.length < 140737488355328
 ·rw [if_pos c4] at H
  have LMc4:=Aside0.mk c4
  clear c4
  obtain ⟨y109,hy109⟩ : ∃ y_ : List Int,y_ = (t103 ++ y106):=⟨_,rfl⟩
  replace H : (some y109) = some r:=by first|(rw [hy109];with_reducible exact H)|(have H2_:=(Option.bind_some _ _).symm.trans H;rw [hy109];with_reducible exact H2_)|(have H2_:=(Option.bind_some _ _).symm.trans H;with_reducible exact H2_)|with_reducible exact H|(rw [hy109];exact H)|exact H
  have Ny109:=Aside0.mk hy109
  clear hy109
  obtain rfl:=Option.some.inj H
  go_enter Try.func50,Try.ntmps50
  go_wp2_with (first|((with_reducible refine gate_callee (f:=82) rfl ?_);refine goesL_ (some 6) rfl rfl Try.func82 (by kernel_rfl) rfl #[.slice A0 l0.length c0] rfl (by (try simp only [List.map_toArray,List.map_cons,List.map_nil]);first|done|rfl|(simp only [List.length_drop,List.length_take];rfl)) ?_;(with_reducible refine (slices_Clone_byte_byte.calls _ _ l0 t103 _ ?side1 ?side2 A3.out).mono ?_);(case side1=>repeat (first|exact HR0.out|(with_reducible refine Kd.C_alloc ?_ _)|(with_reducible refine Kd.C_drewN ?_ _)|(with_reducible refine Kd.C_drew ?_)));(case side2=>exact HC0.out);rintro e w5 ⟨v104,rfl,ho0,hb⟩;refine ⟨_,rfl,?_⟩;have n0_:=Aside0.mk (Kd.R_lower ho0 (below_size (by repeat (first|(with_reducible first|exact HB.out|apply below_alloc|apply pw_below_drewN|apply below_drew1)|exact HB.out))));have n1_:=Aside0.mk (below_step (by repeat (first|(with_reducible first|exact HB.out|apply below_alloc|apply pw_below_drewN|apply below_drew1)|exact HB.out)) hb);clear HB;have HO105:=n0_;have HB:=n1_;clear n0_ n1_;(try clear hb);(try clear hb2);(try clear hk);(try clear hi);(try clear ho0))|((with_reducible refine gate_dst (N:=18) rfl ?_);refine Kd.R_lit (Kd.int .u8) _ 5 ?hg (N:=18) ?hd (xs:=([(a1) % 256,(a1 / 256) % 256,(a1 / 65536) % 256,(a1 / 16777216) % 256] : List Int)) (inner:=[.int .u8 ((a1) % 256),.int .u8 ((a1 / 256) % 256),.int .u8 ((a1 / 65536) % 256),.int .u8 ((a1 / 16777216) % 256)]) (ok:=fun _=>True) (okp:=fun _=>True) ?hr ?hp (fun _ hk=>hk) trivial (Below.refl _ _) (Nat.le_refl _) (by simp) ?_;(case hd=>rfl);(case hg=>rfl);(case hr=>first|(go_simp;done)|(go_simp;rfl));(case hp=>exact (Reps.one (show Kd.M (Kd.int .u8) _ _ _ ((a1) % 256) [.int .u8 ((a1) % 256)] from rfl) (Reps.one (show Kd.M (Kd.int .u8) _ _ _ ((a1 / 256) % 256) [.int .u8 ((a1 / 256) % 256)] from rfl) (Reps.one (show Kd.M (Kd.int .u8) _ _ _ ((a1 / 65536) % 256) [.int .u8 ((a1 / 65536) % 256)] from rfl) (Reps.one (show Kd.M (Kd.int .u8) _ _ _ ((a1 / 16777216) % 256) [.int .u8 ((a1 / 16777216) % 256)] from rfl) (Reps.none _ _))))));intro v107 w6 ho7 hb hg_ hnew_;clear hg_ hnew_;(first|rw [← Ny106.out] at ho7|(simp only [Int.reduceToNat] at ho7;rw [← Ny106.out] at ho7));have n0_:=Aside0.mk (Kd.R_elder' (by (with_reducible repeat (first|apply Kd.R_alloc|apply Kd.R_drewN|apply Kd.R_drew));exact HO105.out) (Kd.R_base ho7) hb);have n1_:=Aside0.mk (Kd.R_lower (Kd.R_new' ho7 (Kd.R_lt (by (with_reducible repeat (first|apply Kd.R_alloc|apply Kd.R_drewN|apply Kd.R_drew));exact HO105.out))) (below_size (by repeat (first|(with_reducible first|exact HB.out|apply below_alloc|apply pw_below_drewN|apply below_drew1)|exact HB.out))));have n2_:=Aside0.mk (below_step (by repeat (first|(with_reducible first|exact HB.out|apply below_alloc|apply pw_below_drewN|apply below_drew1)|exact HB.out)) hb);clear HO105;clear HB;have HO105:=n0_;have HO108:=n1_;have HB:=n2_;clear n0_ n1_ n2_;clear hb ho7;obtain ⟨Ao9,co9,eo9⟩:=Kd.R_slice HO108.out;subst eo9)|((with_reducible refine gate_builtin (b:=.append) (xs:=#[.tmp 6,.tmp 18]) rfl ?_);at_builtin;refine Kd.R_append_rows (Kd.int .u8) (w0:=w) w.heap.size rfl (.tmp 6) (.tmp 18) 26 5 (.int .u8 0) 1 rfl Try.underlying26 info5 rfl (by decide) (by omega) v104 t103 y106 _ _ _ (fun k_=>some k_ ≠ (.slice Ao9 y106.length co9 : Value).ownBlock) (fun _=>False) rfl rfl ?aO ?aR (fun _ _ h=>h) (fun _ h=>h.elim) ?aF ?aB ?aS ?aL ?_;(case aR=>repeat (first|exact (Kd.R_reads' HO108.out).2.2|(with_reducible refine Kd.C_alloc ?_ _)|(with_reducible refine Kd.C_drewN ?_ _)|(with_reducible refine Kd.C_drew ?_)));(case aB=>exact (by repeat (first|(with_reducible first|exact HB.out|apply below_alloc|apply pw_below_drewN|apply below_drew1)|exact HB.out)));(case aF=>exact (fun k_ hk=>Kd.fresh' (Kd.R_lt (by (with_reducible repeat (first|apply Kd.R_alloc|apply Kd.R_drewN|apply Kd.R_drew));exact HO108.out)) k_ hk));(case aO=>exact (by (with_reducible repeat (first|apply Kd.R_alloc|apply Kd.R_drewN|apply Kd.R_drew));exact Kd.R_mono HO105.out (fun _ hk=>hk.2)));(case aS=>exact (below_size (by repeat (first|(with_reducible first|exact HB.out|apply below_alloc|apply pw_below_drewN|apply below_drew1)|exact HB.out))));(case aL=>have:=LMc4.out;omega);intro v110 w8 ho hb hg hat;rw [← Ny109.out] at ho;have n0_:=Aside0.mk (Kd.R_after (ok:=(fun _=>True)) (by (with_reducible repeat (first|apply Kd.R_alloc|apply Kd.R_drewN|apply Kd.R_drew));exact HO108.out) hg hat);have n1_:=Aside0.mk (hb);have n2_:=Aside0.mk (ho);clear HO108;clear HB;clear HO105;have HO108:=n0_;have HB:=n1_;have HO111:=n2_;clear n0_ n1_ n2_;clear ho hb hg hat))
  go_ret
  exact ⟨_,by first|rfl|(simp [errW_none,errW_some] <;> rfl)|(simp [*,errW_none,errW_some] <;> rfl),by (with_reducible repeat (first|apply Kd.R_alloc|apply Kd.R_drewN|apply Kd.R_drew));exact Kd.R_mono HO111.out (fun _ hk=>trivial),by repeat (first|(with_reducible first|exact HB.out|apply below_alloc|apply pw_below_drewN|apply below_drew1)|exact HB.out)⟩
 ·rw [if_neg c4] at H
  exact absurd H (by simp)

end Go.Proofs.Ytjcjfghcahbbmaa.P

end

section
set_option linter.unusedVariables false
namespace Go.Proofs.YtjcjfghcahbbmaaL
open Go Go.RowKit Go.Proofs.YtjcjfghcahbbmaaG Go.Proofs.Ytjcjfghcahbbmaa.P Go.Proofs.YtjcjfghcahbbmaaW.PrintWords Go.Proofs.YtjcjfghcahbbmaaW.PrintMore

theorem same_f {a b : List Int} (ha : By a) (hb : By b) : ratlinelaw02_Same.f a b = some (decide (a = b)) := by
  unfold ratlinelaw02_Same.f
  by_cases h : a = b
  · subst h; simp
  · have : (strOfNums a).toList ≠ (strOfNums b).toList := fun e => h (str_inj ha hb (ba_ext e))
    rw [decide_eq_false h, beq_eq_false_iff_ne.2 this]
theorem put_f {l : List Int} {x : Nat} (hx : x < 18446744073709551616) (hl : l.length + 10 < 140737488355328) : nums_Put.f l (x : Int) = some (l ++ vint x) := by
  unfold nums_Put.f
  rw [if_pos ⟨by omega, by omega, hl⟩, Int.toNat_natCast]
theorem wrap_u64_nat {x : Nat} (hx : x < 18446744073709551616) : IntKind.u64.wrap (x : Int) = (x : Int) := by rw [IntKind.wrap_u64]; omega
theorem putText_f {l : List Int} {s : ByteArray} (hl : l.length + 10 + s.size < 140737488355328) : nums_PutText.f l s = some (l ++ vint s.size ++ bytesOf s) := by
  have := vint_len10 (x := s.size) (by omega)
  unfold nums_PutText.f
  rw [wrap_u64_nat (by omega), put_f (by omega) (by omega)]
  simp only [Option.bind_some]
  rw [if_pos (by rw [List.length_append]; omega)]
theorem clone_f {l : List Int} (hl : l.length < 140737488355328) : slices_Clone_byte_byte.f l = some l := by
  unfold slices_Clone_byte_byte.f
  rw [if_pos hl]
theorem mx_eq (a b : Int) : mx a b = max a b := by unfold mx; split <;> omega

/-- The text that bytes say. -/
theorem takeText_yes (s : ByteArray) (rest : List Int) (most : Int) (hm : most ≤ 9223372036854775807) (hr : By rest) (hl : s.size + rest.length + 20 < 140737488355328) (h : (s.size : Int) ≤ most) :
    nums_TakeText.f (vint s.size ++ (bytesOf s ++ rest)) most = some (s, rest, true) := by
  have hbl := bytesOf_length s
  unfold nums_TakeText.f
  rw [take_vint s.size _ (by omega) ((bytesOf_by s).append hr) (by rw [List.length_append]; omega)]
  simp only [Option.bind_some, if_true]
  have e1 : IntKind.u64.wrap (mx most 0) = most := by rw [mx_eq, IntKind.wrap_u64]; omega
  have e2 : IntKind.u64.wrap (((bytesOf s ++ rest).length : Nat) : Int) = ((s.size + rest.length : Nat) : Int) := by rw [List.length_append, hbl]; exact wrap_u64_nat (by omega)
  rw [e1, e2, if_neg (by omega), if_neg (by omega), if_neg (by omega), if_pos (by omega), if_pos (by rw [List.length_append]; omega), Int.toNat_natCast]
  have e3 : (bytesOf s ++ rest).drop s.size = rest := by rw [← hbl, List.drop_left]
  have e4 : (bytesOf s ++ rest).take s.size = bytesOf s := by rw [← hbl, List.take_left]
  rw [e3, e4, clone_f (by omega)]
  simp only [Option.bind_some, str_bytes]
theorem takeText_cases (l : List Int) (most : Int) (hm : most ≤ 9223372036854775807) (hb : By l) (hl : l.length + 20 < 140737488355328) :
    (∃ (s : ByteArray) (rest : List Int), (s.size : Int) ≤ most ∧ l = vint s.size ++ (bytesOf s ++ rest) ∧ nums_TakeText.f l most = some (s, rest, true)) ∨
    (nums_TakeText.f l most = some (⟨#[]⟩, [], false) ∧ ∀ (s : ByteArray) (rest : List Int), (s.size : Int) ≤ most → l ≠ vint s.size ++ (bytesOf s ++ rest)) := by
  rcases take_cases l hb (by omega) with ⟨x, rest, hx, he, hf⟩ | ⟨hf, hno⟩
  · by_cases h : (x : Int) ≤ most ∧ x ≤ rest.length
    · left
      have hr : By rest := By.right (he ▸ hb)
      have hsz : (strOfNums (rest.take x)).size = x := by rw [strOfNums_size, List.length_take]; omega
      have hl2 : l.length = (vint x).length + rest.length := by rw [he, List.length_append]
      have e0 : rest = bytesOf (strOfNums (rest.take x)) ++ rest.drop x := by rw [bytes_str (hr.take x), List.take_append_drop]
      have e1 : l = vint (strOfNums (rest.take x)).size ++ (bytesOf (strOfNums (rest.take x)) ++ rest.drop x) := by rw [hsz, ← e0]; exact he
      refine ⟨strOfNums (rest.take x), rest.drop x, by rw [hsz]; exact h.1, e1, ?_⟩
      have := takeText_yes (strOfNums (rest.take x)) (rest.drop x) most hm (hr.drop x) (by rw [hsz, List.length_drop]; omega) (by rw [hsz]; exact h.1)
      rw [← e1] at this
      exact this
    · right
      refine ⟨?_, fun s rest' hs e => h ?_⟩
      · have hl2 : l.length = (vint x).length + rest.length := by rw [he, List.length_append]
        unfold nums_TakeText.f
        rw [hf]
        simp only [Option.bind_some, if_true]
        have e2 : IntKind.u64.wrap ((rest.length : Nat) : Int) = (rest.length : Int) := wrap_u64_nat (by omega)
        have e1 : IntKind.u64.wrap (mx most 0) = max most 0 := by rw [mx_eq, IntKind.wrap_u64]; omega
        rw [e1, e2]
        by_cases c1 : (x : Int) > max most 0
        · rw [if_pos c1]
        · rw [if_neg c1]
          by_cases c2 : most < 0
          · rw [if_pos c2]
          · rw [if_neg c2, if_pos (by omega)]
      · rw [he] at e
        obtain ⟨rfl, rfl⟩ := vint_append_inj hx (by have : l.length = (vint s.size).length + (s.size + rest'.length) := by rw [he, e, List.length_append, List.length_append, bytesOf_length]
                                                    omega) e
        exact ⟨hs, by rw [List.length_append, bytesOf_length]; omega⟩
  · right
    refine ⟨?_, fun s rest' hs e => hno s.size (bytesOf s ++ rest') ?_ e⟩
    · unfold nums_TakeText.f
      rw [hf]
      simp
    · have : l.length = (vint s.size).length + (s.size + rest'.length) := by rw [e, List.length_append, List.length_append, bytesOf_length]
      omega
end Go.Proofs.YtjcjfghcahbbmaaL

end

section
set_option linter.unusedVariables false
namespace Go.Proofs.YtjcjfghcahbbmaaL
open Go Go.RowKit Go.Proofs.YtjcjfghcahbbmaaG Go.Proofs.Ytjcjfghcahbbmaa.P Go.Proofs.YtjcjfghcahbbmaaW.PrintWords Go.Proofs.YtjcjfghcahbbmaaW.PrintMore

def lt (a b : ByteArray) : Prop := Op.bytesLess a.toList b.toList = true
instance (a b : ByteArray) : Decidable (lt a b) := inferInstanceAs (Decidable (_ = true))
theorem bl_trans : ∀ x y z : List UInt8, Op.bytesLess x y = true → Op.bytesLess y z = true → Op.bytesLess x z = true
  | _, [], _ => fun h => by simp [Op.bytesLess] at h
  | _, _ :: _, [] => fun _ h => by simp [Op.bytesLess] at h
  | [], b :: y, c :: z => fun _ _ => rfl
  | a :: x, b :: y, c :: z => fun h1 h2 => by
    have ih := bl_trans x y z
    simp only [Op.bytesLess, Bool.or_eq_true, decide_eq_true_eq, Bool.and_eq_true, beq_iff_eq] at *
    rcases h1 with h1 | ⟨rfl, h1⟩
    · rcases h2 with h2 | ⟨rfl, h2⟩
      · exact .inl (UInt8.lt_trans h1 h2)
      · exact .inl h1
    · rcases h2 with h2 | ⟨rfl, h2⟩
      · exact .inl h2
      · exact .inr ⟨rfl, ih h1 h2⟩
theorem lt_trans {a b c : ByteArray} (h : lt a b) (h2 : lt b c) : lt a c := bl_trans _ _ _ h h2
theorem lt_asymm {a b : ByteArray} (h : lt a b) : ¬ lt b a := by
  unfold lt at *
  rw [← bytesLess_gtr, h]
  simp
theorem lt_irrefl (a : ByteArray) : ¬ lt a a := fun h => lt_asymm h h
theorem lt_tri (a b : ByteArray) : lt a b ∨ a = b ∨ lt b a := by
  by_cases h : lt a b
  · exact .inl h
  · by_cases h2 : a = b
    · exact .inr (.inl h2)
    · refine .inr (.inr ?_)
      unfold lt at *
      rw [← bytesLess_gtr]
      have h3 : ¬ a.toList = b.toList := fun e => h2 (ba_ext e)
      simp [h, h3]
theorem ba_eq_iff {a b : ByteArray} : a.toList = b.toList ↔ a = b := ⟨ba_ext, fun h => by rw [h]⟩
theorem ba_nil_iff {a : ByteArray} : a.toList = [] ↔ a.size = 0 := by
  rw [toList_data]
  exact ⟨fun h => by show a.data.size = 0; rw [← Array.length_toList, h]; rfl, fun h => List.eq_nil_of_length_eq_zero (by rw [Array.length_toList]; exact h)⟩

end Go.Proofs.YtjcjfghcahbbmaaL

end

section
set_option linter.unusedVariables false
namespace Go.Proofs.YtjcjfghcahbbmaaL
open Go Go.RowKit Go.Proofs.YtjcjfghcahbbmaaG Go.Proofs.Ytjcjfghcahbbmaa.P
abbrev Ik := S50
abbrev En := S59
end Go.Proofs.YtjcjfghcahbbmaaL

end
