/- Proved here: what the row of NumsApart needs, part 1. Conditions: those of each theorem. Written for this claim by programs; what the claim does not use is left out. -/
import Derived.RangeFuncNested
import Derived.RangeFuncBound
import Derived.RangeFuncCalls
import Derived.RangeFuncLeaves
import Derived.Deep.QuietTactic
import Derived.OwnWalkIn
import Derived.Maps.AppendAt
import Derived.Test.YtdppjknfhggpbaaProg
import Derived.Lib.SliceRun
import Derived.Shelf.Abstract
import Derived.Shelf.RegionOpen
import Derived.WalkKit
import Derived.TacticsInMore
import Derived.LoopNIn
import Derived.LoopIn
import Derived.Outline
import Derived.LoopTactic
import Derived.Deep.WholeRow
import Derived.Below
import Derived.Deep.Draws
import Derived.Deep.AppendLies
import Derived.OwnWalk
import Derived.Laws.BytesArg
import Derived.Laws.MakeOwn
import Derived.Laws.OwnMore
import Derived.Deep.OwnRows
import Derived.Tactics
import Derived.Lib.ConvBytes
import Derived.Laws.Slices
import Derived.KernelRfl
import Derived.RowKit3
import Derived.Deep.LoopGhost
import Derived.BigQuiet
import Derived.WideLaws
import Derived.Deep.DeepCutAuto
import Derived.Deep.CutBlock
import Derived.Deep.RegionHeld3
import Derived.Laws.Rows
import Derived.Lib.AppendStr
import Derived.ArgAppend
import Derived.Laws.IdiomCopy
import Derived.OrdersHeld
import Derived.Laws.BitsLemmas
import Derived.RowKit
import Derived.Lib.Strings
import Derived.Test.YtdppjknfhggpbaaSNumsApart0
section
set_option linter.unusedVariables false
namespace Go.Proofs.YtdppjknfhggpbaaR
open Go Go.RowKit

/-- W' is W but for blocks of C, and new ones. -/
structure Stays (C : Nat → Prop) (W W' : World) : Prop where
  os : W'.os = W.os
  tape : W'.tape = W.tape
  output : W'.output = W.output
  size : W.heap.size ≤ W'.heap.size
  block : ∀ i, i < W.heap.size → ¬ C i → W'.heap[i]? = W.heap[i]?

theorem or3 {a b c q : Prop} (h : a ∨ b ∨ c) (f : a → q) (g : b → q) (k : c → q) : q := h.elim f (fun h => h.elim g k)

theorem Stays.mono {C C' : Nat → Prop} {W W' : World} (h : Stays C W W') (hc : ∀ k, C k → C' k) : Stays C' W W' :=
  ⟨h.os, h.tape, h.output, h.size, fun i hi hn => h.block i hi (fun hk => hn (hc i hk))⟩
theorem Stays.trans {C : Nat → Prop} {A B D : World} (h : Stays C A B) (k : Stays C B D) : Stays C A D :=
  ⟨k.os.trans h.os, k.tape.trans h.tape, k.output.trans h.output, Nat.le_trans h.size k.size, fun i hi hn => (k.block i (Nat.lt_of_lt_of_le hi h.size) hn).trans (h.block i hi hn)⟩
theorem Stays.alloc (C : Nat → Prop) (W : World) (o : Obj) : Stays C W (W.alloc o) := ⟨rfl, rfl, rfl, by simp, fun i hi _ => Below.heap_alloc W o i hi⟩
theorem Stays.putObj {C : Nat → Prop} {W : World} {l : Nat} (hl : C l) (o : Obj) : Stays C W (W.putObj l o) :=
  ⟨rfl, rfl, rfl, by simp, fun i hi hn => World.putObj_heap_other (fun e => hn (by rw [e]; exact hl))⟩
theorem Stays.setCell {C : Nat → Prop} {W : World} {p : Addr} (hp : C p.block) (u : Value) : Stays C W (W.setCell p u) :=
  ⟨rfl, rfl, rfl, by simp [World.setCell], fun i hi hn => Below.heap_setCell W p u i (fun e => hn (by rw [e]; exact hp))⟩
/-- The blocks of C hold in W' what they hold in W. -/
def Hold (C : Nat → Prop) (W W' : World) : Prop := ∀ i, C i → W'.heap[i]? = W.heap[i]?
theorem Hold.refl (C : Nat → Prop) (W : World) : Hold C W W := fun _ _ => rfl
theorem Hold.trans {C : Nat → Prop} {A B D : World} (h : Hold C A B) (k : Hold C B D) : Hold C A D := fun i hi => (k i hi).trans (h i hi)
theorem Hold.of_grownBy {C : Nat → Prop} {W W' : World} {row : Option Nat} (h : W.grownBy W' row) (hlt : ∀ k, C k → k < W.heap.size) (hr : ∀ k, row = some k → ¬ C k) : Hold C W W' :=
  fun i hi => h.block i (hlt i hi) (fun e => hr i e.symm hi)
theorem Hold.setCell {C : Nat → Prop} {W : World} {p : Addr} (hn : ¬ C p.block) (u : Value) : Hold C W (W.setCell p u) := fun i hi => Below.heap_setCell W p u i (fun e => hn (by rw [← e]; exact hi))
theorem below_putObj {n : Nat} {W : World} {D : Nat} (hD : n ≤ D) (o : Obj) : Below n W (W.putObj D o) := ⟨rfl, rfl, rfl, by simp, fun k hk => World.putObj_heap_other (by omega)⟩
/-- What J says, it says of blocks that are not of C: it stays where these are written, where blocks come, and C may take in blocks that were not there. -/
def Fits {β : Type} (J : (Nat → Prop) → β → World → Prop) : Prop :=
  ∀ C C' s W W', J C s W → Stays C W W' → (∀ k, C' k → C k ∨ W.heap.size ≤ k) → J C' s W'

theorem Fits.stay {β : Type} {J : (Nat → Prop) → β → World → Prop} (h : Fits J) {C : Nat → Prop} {s : β} {W W' : World} (hj : J C s W) (hs : Stays C W W') : J C s W' := h C C s W W' hj hs (fun _ hk => .inl hk)
theorem Fits.and {β : Type} {J K : (Nat → Prop) → β → World → Prop} (h : Fits J) (k : Fits K) : Fits (fun C s W => J C s W ∧ K C s W) :=
  fun C C' s W W' hj hs hc => ⟨h C C' s W W' hj.1 hs hc, k C C' s W W' hj.2 hs hc⟩
theorem Fits.false {β : Type} : Fits (fun _ (_ : β) _ => False) := fun _ _ _ _ _ hj _ _ => hj
theorem Fits.ex {β γ : Type} {J : γ → (Nat → Prop) → β → World → Prop} (h : ∀ x, Fits (J x)) : Fits (fun C s W => ∃ x, J x C s W) := fun C C' s W W' ⟨x, hj⟩ hs hc => ⟨x, h x C C' s W W' hj hs hc⟩
/-- One block, known whole. -/
theorem Fits.block {β : Type} (b : β → Nat) (o : β → Obj) : Fits (fun C s W => ¬ C (b s) ∧ W.heap[b s]? = some (o s)) := by
  intro C C' s W W' hj hs hc
  have hlt : b s < W.heap.size := (Array.getElem?_eq_some_iff.1 hj.2).1
  exact ⟨fun hk => (hc _ hk).elim hj.1 (fun h => by omega), (hs.block _ hlt hj.1).trans hj.2⟩
/-- What lay below n₀ in w0 lies there still; no block of C lies there. -/
theorem Fits.below {β : Type} (n₀ : Nat) (w0 : World) (hn : n₀ ≤ w0.heap.size) : Fits (fun C (_ : β) W => (∀ k, C k → n₀ ≤ k) ∧ Below n₀ w0 W) := by
  intro C C' s W W' hj hs hc
  have hsz := hj.2.size
  refine ⟨fun k hk => (hc k hk).elim (hj.1 k) (fun h => by omega), hs.os.trans hj.2.os, hs.tape.trans hj.2.tape, hs.output.trans hj.2.output, Nat.le_trans hsz hs.size, fun k hk => ?_⟩
  exact (hs.block k (by omega) (fun hck => by have := hj.1 k hck; omega)).trans (hj.2.block k hk)

/-- The contract of an iterator's value: whatever the caller's invariants J, Jx say of blocks that are none of C. C0: the blocks that the value has captured; n₀: below it nothing is written. -/
def Iter {α : Type} (P : Program) (g : Nat) (lb : Array Value) (encs : α → Array Value) (S Sp : List α → Prop) (N n₀ : Nat) (C0 : Nat → Prop) (w : World) : Prop :=
  ∀ (l : Nat) (J Jx : (Nat → Prop) → List α → World → Prop) (W : World), Fits J → Fits Jx → w.heap.size ≤ W.heap.size → Hold C0 w W → Below n₀ w W → (∀ k, C0 k → k < W.heap.size) →
    (∀ (C : Nat → Prop) (pre : List α) (x : α) (W1 : World), (∀ k, C k → k < W1.heap.size) → J C pre W1 → pre.length < N → YieldAt Fence.wide 0 P l (encs x) W1 fun e W' =>
      (e = .returned (.bool true) ∧ J C (pre ++ [x]) W' ∧ Hold C W1 W' ∧ Below n₀ W1 W') ∨ (e = .returned (.bool false) ∧ Jx C (pre ++ [x]) W' ∧ Hold C W1 W')) →
    J C0 [] W →
    Calls P g (#[.func (.yield l) #[] #[]] ++ lb) W fun e W' => (∃ v, e = .returned v) ∧ ((∃ xs C, S xs ∧ J C xs W') ∨ (∃ pre C, Sp pre ∧ Jx C pre W'))

/-- How a round's body may be left. -/
def bodyEnd {α : Type} (C : Nat → Prop) (n₀ : Nat) (I : (Nat → Prop) → List α → World → Prop) (Ix : Code → (Nat → Prop) → List α → World → Prop) (xs : List α) (W : World) : Exit → Act → World → Prop
  | .normal, _, W' => Hold C W W' ∧ Below n₀ W W' ∧ I C xs W'
  | .ret, _, W' => Hold C W W' ∧ Ix .ret C xs W'
  | .exit id, _, W' => Hold C W W' ∧ Ix (.exit id) C xs W'
  | .goto t, _, W' => Hold C W W' ∧ Ix (.goto t) C xs W'
  | .panic _, _, _ => False
  | .outgrown, _, _ => False

theorem yieldAt_any {m m' : Nat} {P : Program} {l : Nat} {args : Array Value} {W : World} {R : Ending → World → Prop} (h : YieldAt Fence.wide m P l args W R) : YieldAt Fence.wide m' P l args W R := by
  obtain ⟨fn, tmps, assign, body, hy, hR⟩ := h
  exact ⟨fn, tmps, assign, body, hy, hR.1, fun c cs hr => hR.2 c cs (room_wide _)⟩

/-- A range over a function. hround: one round, the assignment to the loop's variables and the body, from whatever world W'' that differs from the assignment's end in blocks of C alone. -/
theorem range_law {α : Type} {n : Nat} {P : Program} {g : Operand} {ps : Array Tmp} {assign body : Code} {Q : Exit → Act → World → Prop} {a : Act} {w : World}
    {gf : Nat} {lb : Array Value} (hg : a.eval g = .func (.func gf) #[] lb) (eg : ∀ args w, (callFunc gf args).run P w = .ok (.enter gf args) w)
    {encs : α → Array Value} {S Sp : List α → Prop} {N n₀ : Nat} {C0 : Nat → Prop} (hseq : Iter P gf lb encs S Sp N n₀ C0 w) (hC0 : ∀ k, C0 k → k < w.heap.size) (hn0 : n₀ ≤ w.heap.size) (hps : ∀ x, (encs x).size = ps.size)
    (I : (Nat → Prop) → List α → World → Prop) (Ix : Code → (Nat → Prop) → List α → World → Prop) (hI : Fits I) (hIx : ∀ c, Fits (Ix c)) (h0 : I C0 [] w)
    (hround : ∀ (l : Nat) (C : Nat → Prop) (pre : List α) (x : α) (W : World), (∀ k, C k → k < W.heap.size) → w.heap.size ≤ W.heap.size → I C pre W → pre.length < N →
      assign.wpIn (Fence.wide.inRound l) n P (Exit.then (fun a' W' => Hold C W W' ∧ Below n₀ W W' ∧ ∀ W'', Stays C W' W'' → (∀ k, C k → k < W''.heap.size) → Below n₀ W' W'' → W'.heap.size = W''.heap.size → body.wpIn (Fence.wide.inRound l) n P (bodyEnd C n₀ I Ix (pre ++ [x]) W'') a' W'') (fun _ _ _ => False))
        { tmps := (ps.zip (encs x)).foldl (fun t (p, v) => t.setIfInBounds p v) a.tmps, defers := [] } W)
    (hdone : ∀ (D : Nat) (C : Nat → Prop) (xs : List α) (W : World), C D → w.heap.size ≤ D → S xs → I C xs W → W.heap[D]? = some (.deferred (some [])) → Q .normal { a with defers := { target := .collected D, args := #[] } :: a.defers } W)
    (hstop : ∀ (D : Nat) (C : Nat → Prop) (c : Code) (pre : List α) (W : World), C D → w.heap.size ≤ D → Sp pre → Ix c C pre W → W.heap[D]? = some (.deferred (some [])) → c.wpIn Fence.wide n P Q { a with defers := { target := .collected D, args := #[] } :: a.defers } W) :
    (Code.rangeFunc g ps assign body).wpIn Fence.wide n P Q a w := by
  refine wpIn_rangeFunc ?_
  intro fn hfn
  obtain ⟨rec, hrec⟩ : ∃ rec : LoopState → Option Code → Loop, rec = fun st pe => { state := st, pending := pe, fn, tmps := a.tmps, params := ps, assign, body, defers := w.heap.size } := ⟨_, rfl⟩
  obtain ⟨W1, hW1⟩ : ∃ W1, (w.alloc (.deferred (some []))).alloc (.loop (rec .ready none)) = W1 := ⟨_, rfl⟩
  obtain ⟨L, hLl⟩ : ∃ L, L = w.heap.size + 1 := ⟨_, rfl⟩
  obtain ⟨D, hDl⟩ : ∃ D, D = w.heap.size := ⟨_, rfl⟩
  have hL1 : W1.heap[L]? = some (.loop (rec .ready none)) := by
    rw [← hW1, hLl]; have := World.alloc_heap_new (w.alloc (.deferred (some []))) (.loop (rec .ready none)); rwa [World.size_alloc] at this
  have hK1 : W1.heap[D]? = some (.deferred (some [])) := by
    rw [← hW1, hDl]; exact (Below.heap_alloc _ _ _ (by simp)).trans (World.alloc_heap_new w _)
  have hS1 : ∀ C, Stays C w W1 := fun C => by rw [← hW1]; exact (Stays.alloc C w _).trans (Stays.alloc C _ _)
  have hsz1 : W1.heap.size = w.heap.size + 2 := by rw [← hW1]; simp
  refine ⟨L, [{ target := .collected D, args := #[] }], W1, { target := .fn (.func gf) lb, args := #[.func (.yield L) #[] #[]] }, W1, gf,
    #[.func (.yield L) #[] #[]] ++ lb, W1, ?_, ?_, ?_, ?_, fun h => by simp [Fence.wide] at h, ?_⟩
  · rw [← hW1, hrec, hLl, hDl]; exact run_enterLoop_outer _ _ _ _ _
  · simp only [resolve, hg]
    simp [go_sem]
  · intro f' hf'; exact trivial
  · simp [invoke, go_sem, eg]
  · refine callsIn_wide.2 ?_
    have put : ∀ (C : Nat → Prop), (∀ k, C k → (C k ∨ k = L ∨ k = D)) := fun C k hk => .inl hk
    have fitJ : ∀ (K : (Nat → Prop) → List α → World → Prop) (o : Obj), Fits K → Fits (fun C pre W => K (fun k => C k ∨ k = L ∨ k = D) pre W ∧ (¬ C L ∧ W.heap[L]? = some o) ∧ (¬ C D ∧ W.heap[D]? = some (.deferred (some [])))) := by
      intro K o hK C C' s W W' hj hs hc
      refine ⟨hK _ _ s W W' hj.1 (hs.mono (fun k hk => .inl hk)) (fun k hk => ?_), Fits.block (fun _ => L) (fun _ => o) C C' s W W' hj.2.1 hs hc, Fits.block (fun _ => D) (fun _ => .deferred (some [])) C C' s W W' hj.2.2 hs hc⟩
      rcases hk with hk | hk
      · exact (hc k hk).elim (fun h => .inl (.inl h)) .inr
      · exact .inl (.inr hk)
    refine (hseq L
      (fun C pre W => I (fun k => C k ∨ k = L ∨ k = D) pre W ∧ (¬ C L ∧ W.heap[L]? = some (.loop (rec .ready none))) ∧ (¬ C D ∧ W.heap[D]? = some (.deferred (some []))))
      (fun C pre W => ∃ c, Ix c (fun k => C k ∨ k = L ∨ k = D) pre W ∧ (¬ C L ∧ W.heap[L]? = some (.loop (rec .done (some c)))) ∧ (¬ C D ∧ W.heap[D]? = some (.deferred (some []))))
      W1 (fitJ _ _ hI) (fun C C' s W W' ⟨c, hj⟩ hs hc => ⟨c, fitJ (Ix c) _ (hIx c) C C' s W W' hj hs hc⟩) (hS1 (fun _ => False)).size
      (fun i hi => (hS1 (fun _ => False)).block i (hC0 i hi) (fun h => h)) ⟨(hS1 (fun _ => False)).os, (hS1 (fun _ => False)).tape, (hS1 (fun _ => False)).output, (hS1 (fun _ => False)).size, fun k hk => (hS1 (fun _ => False)).block k (by omega) (fun h => h)⟩ (fun k hk => by have := hC0 k hk; omega) ?_
      ⟨hI C0 _ [] w W1 h0 (hS1 C0) (fun k hk => by exact or3 hk (fun h => .inl h) (fun h => .inr (by omega)) (fun h => .inr (by omega))), ⟨fun h => by have := hC0 _ h; omega, hL1⟩, fun h => by have := hC0 _ h; omega, hK1⟩).mono ?_
    · -- one round
      rintro C pre x W hlt ⟨hi, ⟨hnL, hl⟩, hnD, hk⟩ hlen
      have hLlt : L < W.heap.size := (Array.getElem?_eq_some_iff.1 hl).1
      have hDlt : D < W.heap.size := (Array.getElem?_eq_some_iff.1 hk).1
      have hy := run_yield (P := P) (args := encs x) hl (by rw [hrec]; exact hps x)
      rw [hrec] at hy
      have hR := hround L (fun k => C k ∨ k = L ∨ k = D) pre x W (fun k hk => by exact or3 hk (hlt k) (fun h => h ▸ hLlt) (fun h => h ▸ hDlt)) (by omega) hi hlen
      refine yieldAt_any (m := n) ⟨fn, _, assign, body, hy, roundIn_of_wpIn hfn (wpIn_mono hR ?_)⟩
      intro e a' Wa hpost
      cases e with
      | normal =>
        obtain ⟨hHa, hBa, hbody⟩ := hpost
        have hla : Wa.heap[L]? = some (.loop (rec .ready none)) := (hHa L (.inr (.inl rfl))).trans hl
        have hka : Wa.heap[D]? = some (.deferred (some [])) := (hHa D (.inr (.inr rfl))).trans hk
        have hLa : L < Wa.heap.size := (Array.getElem?_eq_some_iff.1 hla).1
        refine ⟨_, run_beginRound hla (by rw [hrec]), ?_⟩
        obtain ⟨W2, hW2⟩ : ∃ W2, W2 = Wa.putObj L (.loop { rec .ready none with state := .busy }) := ⟨_, rfl⟩
        rw [← hW2]
        have hS2 : Stays (fun k => C k ∨ k = L ∨ k = D) Wa W2 := by rw [hW2]; exact Stays.putObj (.inr (.inl rfl)) _
        have hl2 : W2.heap[L]? = some (.loop { rec .ready none with state := .busy }) := by rw [hW2]; exact World.putObj_heap_same hLa
        have hk2 : W2.heap[D]? = some (.deferred (some [])) := by rw [hW2]; exact (World.putObj_heap_other (by omega)).trans hka
        have hB2 : Below n₀ Wa W2 := by rw [hW2]; exact ⟨rfl, rfl, rfl, by simp, fun k hk => World.putObj_heap_other (by omega)⟩
        have hO2 : ∀ k, C k → W2.heap[k]? = Wa.heap[k]? := by
          intro k hk
          have hkL : k ≠ L := fun e => hnL (by rw [← e]; exact hk)
          rw [hW2]
          exact World.putObj_heap_other hkL
        have hsz2 : W2.heap.size = Wa.heap.size := by rw [hW2]; simp
        refine wpIn_mono (hbody W2 hS2 (fun k hk => by have hbs := hBa.size; exact or3 hk (fun h => by have := hlt k h; omega) (fun h => by omega) (fun h => by omega)) hB2 hsz2.symm) ?_
        have fin : ∀ (jump : Option Code) (W3 : World), Hold (fun k => C k ∨ k = L ∨ k = D) W2 W3 →
            (Instr.endRound L jump).run P W3 = .ok (.bool jump.isNone) (W3.putObj L (.loop (rec (if jump.isNone then .ready else .done) jump))) ∧
            (W3.putObj L (.loop (rec (if jump.isNone then .ready else .done) jump))).heap[L]? = some (.loop (rec (if jump.isNone then .ready else .done) jump)) ∧
            (W3.putObj L (.loop (rec (if jump.isNone then .ready else .done) jump))).heap[D]? = some (.deferred (some [])) := fun jump W3 hk3 => by
          have hl3 := (hk3 L (.inr (.inl rfl))).trans hl2
          have := run_endRound (P := P) jump hl3
          rw [hrec] at this ⊢
          exact ⟨this, World.putObj_heap_same (Array.getElem?_eq_some_iff.1 hl3).1, (World.putObj_heap_other (by omega)).trans ((hk3 D (.inr (.inr rfl))).trans hk2)⟩
        have fits : ∀ (K : (Nat → Prop) → List α → World → Prop), Fits K → ∀ (W3 : World) (o : Obj), K (fun k => C k ∨ k = L ∨ k = D) (pre ++ [x]) W3 → K (fun k => C k ∨ k = L ∨ k = D) (pre ++ [x]) (W3.putObj L o) := fun K hK W3 o h3 => hK.stay h3 (Stays.putObj (.inr (.inl rfl)) _)
        rintro e a3 W3 hp
        cases e with
        | normal =>
          obtain ⟨hH3, hB3, hi3⟩ := hp
          obtain ⟨hr, hl4, hk4⟩ := fin none W3 hH3
          refine ⟨_, _, hr, .inl ⟨rfl, ⟨fits I hI W3 _ hi3, ⟨hnL, hl4⟩, hnD, hk4⟩, fun k hk => ?_, ?_⟩⟩
          · have hkL : k ≠ L := fun e => hnL (by rw [← e]; exact hk)
            rw [World.putObj_heap_other hkL]
            exact (hH3 k (.inl hk)).trans ((hO2 k hk).trans (hHa k (.inl hk)))
          · exact hBa.trans (hB2.trans (hB3.trans ⟨rfl, rfl, rfl, by simp, fun k hk => World.putObj_heap_other (by omega)⟩))
        | ret =>
          obtain ⟨hH3, hi3⟩ := hp
          obtain ⟨hr, hl4, hk4⟩ := fin (some .ret) W3 hH3
          have hold : ∀ o : Obj, Hold C W (W3.putObj L o) := fun o k hk => by
            have hkL : k ≠ L := fun e => hnL (by rw [← e]; exact hk)
            rw [World.putObj_heap_other hkL]
            exact (hH3 k (.inl hk)).trans ((hO2 k hk).trans (hHa k (.inl hk)))
          exact ⟨_, _, hr, .inr ⟨rfl, ⟨.ret, fits _ (hIx _) W3 _ hi3, ⟨hnL, hl4⟩, hnD, hk4⟩, hold _⟩⟩
        | exit id =>
          obtain ⟨hH3, hi3⟩ := hp
          obtain ⟨hr, hl4, hk4⟩ := fin (some (.exit id)) W3 hH3
          have hold : ∀ o : Obj, Hold C W (W3.putObj L o) := fun o k hk => by
            have hkL : k ≠ L := fun e => hnL (by rw [← e]; exact hk)
            rw [World.putObj_heap_other hkL]
            exact (hH3 k (.inl hk)).trans ((hO2 k hk).trans (hHa k (.inl hk)))
          exact ⟨_, _, hr, .inr ⟨rfl, ⟨.exit id, fits _ (hIx _) W3 _ hi3, ⟨hnL, hl4⟩, hnD, hk4⟩, hold _⟩⟩
        | goto t =>
          obtain ⟨hH3, hi3⟩ := hp
          obtain ⟨hr, hl4, hk4⟩ := fin (some (.goto t)) W3 hH3
          have hold : ∀ o : Obj, Hold C W (W3.putObj L o) := fun o k hk => by
            have hkL : k ≠ L := fun e => hnL (by rw [← e]; exact hk)
            rw [World.putObj_heap_other hkL]
            exact (hH3 k (.inl hk)).trans ((hO2 k hk).trans (hHa k (.inl hk)))
          exact ⟨_, _, hr, .inr ⟨rfl, ⟨.goto t, fits _ (hIx _) W3 _ hi3, ⟨hnL, hl4⟩, hnD, hk4⟩, hold _⟩⟩
        | panic ch => exact hp.elim
        | outgrown => exact hp.elim
      | ret => exact hpost.elim
      | exit id => exact hpost.elim
      | goto t => exact hpost.elim
      | panic ch => exact hpost.elim
      | outgrown => exact hpost.elim
    · -- behind the iterator
      rintro e W2 ⟨⟨v, rfl⟩, (⟨xs, C, hS, hi, ⟨hnL, hl⟩, hnD, hk⟩ | ⟨pre, C, hSp, c, hi, ⟨hnL, hl⟩, hnD, hk⟩)⟩
      · exact ⟨none, _, by have := run_endLoop (P := P) hl (by rw [hrec]; simp); rw [hrec] at this; exact this,
          hdone D (fun k => C k ∨ k = L ∨ k = D) xs _ (.inr (.inr rfl)) (by omega) hS (hI.stay hi (Stays.putObj (.inr (.inl rfl)) _)) ((World.putObj_heap_other (by omega)).trans hk)⟩
      · exact ⟨some c, _, by have := run_endLoop (P := P) hl (by rw [hrec]; simp); rw [hrec] at this; exact this,
          hstop D (fun k => C k ∨ k = L ∨ k = D) c pre _ (.inr (.inr rfl)) (by omega) hSp ((hIx c).stay hi (Stays.putObj (.inr (.inl rfl)) _)) ((World.putObj_heap_other (by omega)).trans hk)⟩
end Go.Proofs.YtdppjknfhggpbaaR

end

section
set_option linter.unusedVariables false
namespace Go.Proofs.YtdppjknfhggpbaaR
open Go Go.RowKit Go.Proofs.YtdppjknfhggpbaaW.PrintWords

theorem fits_R {β α : Type} (d : Kd α) (e base : Nat) (q : Nat → Prop) (v : β → Value) (f : β → List α) : Fits (fun C s W => d.R e W base (fun k => ¬ C k ∧ q k) (v s) (f s)) :=
  fun C C' s W W' h hs hc => Kd.R_mono (Kd.R_move (Kd.R_bound h) (fun k hk => hs.block k hk.2.2.1 hk.1.1)) (fun k hk => ⟨fun h' => (hc k h').elim hk.1.1 (fun h2 => by have := hk.2.2.1; omega), hk.1.2⟩)
theorem R_putObj {α : Type} {d : Kd α} {e base D : Nat} {W : World} {ok : Nat → Prop} {v : Value} {xs : List α} (h : d.R e W base ok v xs) (hD : ¬ ok D) (o : Obj) : d.R e (W.putObj D o) base (fun _ => True) v xs :=
  Kd.R_mono (Kd.R_move h (fun k hk => World.putObj_heap_other (fun e => hD (by rw [← e]; exact hk)))) (fun _ _ => trivial)
theorem R_setCell {α : Type} {d : Kd α} {e base : Nat} {p : Addr} {W : World} {ok : Nat → Prop} {v : Value} {xs : List α} (h : d.R e W base ok v xs) (hp : ¬ ok p.block) (u : Value) : d.R e (W.setCell p u) base ok v xs :=
  Kd.R_move h (fun k hk => Below.heap_setCell W p u k (fun e => hp (by rw [← e]; exact hk)))

theorem ret_int {k : IntKind} {a b : Int} (h : a = b) : Ending.returned (.int k a) = .returned (.int k b) := by rw [h]
theorem box_cell {b : Nat} {w : World} {t : TypeId} {v : Value} (h : w.heap[b]? = some (.cells #[v] t)) : w.cell? ⟨b, 0, none⟩ = some v := by simp [World.cell?, h]
theorem box_frozen {b : Nat} {w : World} {t : TypeId} {v : Value} (h : w.heap[b]? = some (.cells #[v] t)) : w.frozen? ⟨b, 0, none⟩ = false := by simp [World.frozen?, h]
theorem box_set {b : Nat} {w : World} {t : TypeId} {v : Value} (h : w.heap[b]? = some (.cells #[v] t)) (u : Value) : (w.setCell ⟨b, 0, none⟩ u).heap[b]? = some (.cells #[u] t) := blk_set h 0 u
theorem box_new (W : World) (v : Value) (t : TypeId) : (W.alloc (.cells #[v] t)).heap[W.heap.size]? = some (.cells #[v] t) := World.alloc_heap_new W _
def boxN (b : Nat) (w : World) : Nat := match w.cell? ⟨b, 0, none⟩ with | some (.int _ y) => y.toNat | _ => 0
theorem boxN_eq {b : Nat} {w : World} {k : IntKind} {y : Int} (h : w.cell? ⟨b, 0, none⟩ = some (.int k y)) : boxN b w = y.toNat := by simp [boxN, h]

section
variable {F : Fence} {n : Nat} {P : Program} {ops : Array Oper} {rest : List Oper} {o : Oper} {a : Act} {Q : Exit → Act → World → Prop} {α : Type}
/-- append(v, x) within a fence, behind 'gi_at_builtin'; the goal's world is 'W.alloc' of the variadic's box. -/
theorem appendIn (d : Kd α) {W : World} (base : Nat) (hgd : o.guard = none) (s x : Operand) (t e : TypeId) (z : Value) (bytes : Nat)
    (ho : o.op = .call { callee := .builtin .append, args := #[s, x], argTypes := #[t, t] })
    (ht : P.underlying t = some (.slice e)) (hinfo : (P.info? e).map (fun i => (i.zero, i.size, i.bytes)) = some (some z, d.sz, bytes)) (hz : z.cells.size = d.sz) (hs0 : 0 < d.sz) (hb0 : 0 < bytes)
    (v : Value) (xs : List α) (p : α) (cs : List Value) (ok okp : Nat → Prop) (hs : a.eval s = v) (hx : a.eval x = .slice (some ⟨W.heap.size, 0, none⟩) 1 1) (hp : d.M W base okp p cs) (hokp : ∀ k, okp k → ok k ∧ some k ≠ v.ownBlock) (hfresh : ∀ k, W.heap.size ≤ k → ok k)
    (HO : d.R e W base ok v xs) (hbase : base ≤ W.heap.size) (hl : (xs.length + 1) * bytes ≤ 140737488355328)
    (h : ∀ v1 w1, d.R e w1 base ok v1 (xs ++ [p]) → W.grownBy w1 v.ownBlock → (∃ g c, v1 = .slice (some ⟨g, 0, none⟩) (xs.length + 1) c) → wpListIn F n P ops Q rest (a.put o.dst v1) w1) :
    wpListIn F n P ops Q (o :: rest) a (W.alloc (.cells cs.toArray e)) := by
  obtain ⟨h0, inner, hown, hr⟩ := HO
  obtain ⟨i0, hi, hzz⟩ := Option.map_eq_some_iff.1 hinfo
  simp only [Prod.mk.injEq] at hzz
  obtain ⟨hz0, hz1, hz2⟩ := hzz
  have hys : cs.length = d.sz := d.K_len (d.K_of_M hp)
  have h1 := d.K_one (d.K_of_M hp)
  have hlen : xs.length + 1 ≤ 140737488355328 := Nat.le_trans (Nat.le_mul_of_pos_right _ hb0) hl
  refine wpListIn_plain hgd fun K hK' => ?_
  obtain ⟨v1, w1, hrun, hown1, hg1, _, hat⟩ := run_append_own_at (P := P) (W.alloc (.cells cs.toArray e)) base t o.type e i0 z d.sz bytes ht hi hz0 hz1 hz2 hz hs0 v xs.length inner (hown.alloc _) ⟨W.heap.size, 0, none⟩ 1 1 cs (by rw [hys]; simp)
    (by simpa using World.news_of_block (cs := cs.toArray) (t := e) (fr := (0, 0)) (heap_alloc_new W (.cells cs.toArray e))) h1 (by simp only [maxLen]; omega) hl (by simp; omega)
  have hg : W.grownBy w1 v.ownBlock := World.grownBy.trans (World.grownBy_alloc W _ _) hg1
  have hat' : v1.ownBlock = v.ownBlock ∨ ∃ b, v1.ownBlock = some b ∧ W.heap.size ≤ b := by
    rcases hat with hat | hat
    · exact .inl hat
    · exact .inr ⟨_, hat, by simp⟩
  have hR := Kd.R_appended h0 hr hp hokp hfresh hown1 hg hat'
  have hform : ∃ g c, v1 = .slice (some ⟨g, 0, none⟩) (xs.length + 1) c := by
    obtain ⟨g, cap, he, _⟩ := Kd.R_form hR (by simp)
    exact ⟨g, cap, by simpa using he⟩
  unfold Oper.wpIn
  refine ⟨?_, ?_⟩
  · simp [Oper.about, ho, resolve, Target.leads, Sem.run_pure]
  · rw [Oper.semAt_plain F _ _ (by rw [ho]; intro c hc'; cases hc')]
    simp [execOp, ho, resolve, invoke, builtin, hs, hx, hrun, Result.andThen]
    exact hK' _ _ (h v1 w1 hR hg hform)
end
end Go.Proofs.YtdppjknfhggpbaaR
namespace Go.Proofs.YtdppjknfhggpbaaG
open Go Go.RowKit Go.Proofs.YtdppjknfhggpbaaW.PrintWords
/-- What a conversion of bytes to a string wants of the world stays where nothing that was there is written. -/
theorem conv_stays {P : Program} {w : World} {src dst e : TypeId} {A : Option Addr} {n c : Nat} {xs : List Int} (hs : P.underlying src = some (.slice e)) (he : P.underlying e = some (.int .u8)) (hd : P.underlying dst = some .string)
    (h : (Kd.int .u8).C w A n xs) : ∃ S : World → Prop, S w ∧ (∀ w1 w2, S w1 → Below w1.heap.size w1 w2 → S w2) ∧ ∀ w', S w' → (convert src dst (.slice A n c)).run P w' = .ok (.string (strOfNums xs)) w' :=
  ⟨fun w' => (Kd.int .u8).C w' A n xs, h, fun _ _ h hb => Kd.C_below h hb, fun _ h => Kd.C_string hs he hd h⟩
end Go.Proofs.YtdppjknfhggpbaaG

end

section
set_option linter.unusedVariables false
namespace Go.Proofs.YtdppjknfhggpbaaG
open Go Go.RowKit Go.Proofs.YtdppjknfhggpbaaW.PrintWords Go.Proofs.YtdppjknfhggpbaaW.PrintLast
theorem bytesLess_gtr : ∀ x y : List UInt8, (!(Op.bytesLess x y || x == y)) = Op.bytesLess y x
  | [], [] => rfl
  | _ :: _, [] => rfl
  | [], _ :: _ => rfl
  | a :: x, b :: y => by
    have ih := bytesLess_gtr x y
    have hc : ((a :: x) == (b :: y)) = (a == b && x == y) := rfl
    rw [hc]
    simp only [Op.bytesLess]
    by_cases h1 : a < b
    · have h2 : ¬ b < a := fun h => absurd (UInt8.lt_trans h1 h) (UInt8.lt_irrefl _)
      have h3 : ¬ b = a := fun h => by subst h; exact UInt8.lt_irrefl _ h1
      simp [h1, h2, h3]
    · by_cases h2 : b < a
      · have h3 : ¬ a = b := fun h => by subst h; exact UInt8.lt_irrefl _ h2
        simp [h1, h2, h3]
      · have h3 : a = b := UInt8.le_antisymm (UInt8.not_lt.1 h2) (UInt8.not_lt.1 h1)
        subst h3
        simp only [h1, decide_false, Bool.false_or, beq_self_eq_true, Bool.true_and]
        exact ih
theorem str_gtr (t : TypeId) (a b : ByteArray) : binOp .gtr t (.string a) (.string b) = pure (.bool (Op.bytesLess b.toList a.toList)) := by
  rw [← bytesLess_gtr]; simp [binOp, Op.stringOp]
theorem str_geq (t : TypeId) (a b : ByteArray) : binOp .geq t (.string a) (.string b) = pure (.bool !(Op.bytesLess a.toList b.toList)) := by simp [binOp, Op.stringOp]
theorem str_leq (t : TypeId) (a b : ByteArray) : binOp .leq t (.string a) (.string b) = pure (.bool !(Op.bytesLess b.toList a.toList)) := by
  rw [← bytesLess_gtr]; simp [binOp, Op.stringOp]
end Go.Proofs.YtdppjknfhggpbaaG

end

section
set_option linter.unusedVariables false
set_option linter.unusedSimpArgs false
namespace Go.Proofs.YtdppjknfhggpbaaG
open Go Go.RowKit Go.Proofs.YtdppjknfhggpbaaR Go.Proofs.YtdppjknfhggpbaaW.PrintWords
attribute [local go_sem] Oper.semAt_some

theorem info5 : (Try.prog.info? 5).map (fun i => (i.zero, i.size, i.bytes)) = some (some (.int .u8 0), 1, 1) := by kernel_rfl

def slices_Clone_byte_byte.f (l0 : List Int) : Option (List Int) := if l0.length < 140737488355328 then some l0 else none

set_option maxHeartbeats 1000000 in
theorem slices_Clone_byte_byte.calls (A0 : Option Addr) (c0 : Nat) (l0 : List Int) (r : List Int) (w : World) (hr0 : Kd.C (Kd.int .u8) w A0 l0.length l0) (hc0 : l0.length ≤ c0) (h : slices_Clone_byte_byte.f l0 = some r) :
    Calls Try.prog 36 #[.slice A0 l0.length c0] w fun e w' => ∃ v0_ : Value, e = .returned (v0_) ∧ Kd.R (Kd.int .u8) 5 w' w.heap.size (fun _ => True) v0_ r ∧ Below w.heap.size w w' := by
  have HR0 := Aside0.mk hr0
  have HC0 := Aside0.mk hc0
  clear hr0 hc0
  unfold slices_Clone_byte_byte.f at h
  by_cases hl : l0.length < 140737488355328
  · rw [if_pos hl] at h
    obtain rfl := Option.some.inj h
    clear h
    have HL := Aside0.mk hl
    clear hl
    have hnil := fun W => Lib.run_eql_slice_nil (P := Try.prog) W 22 5 A0 l0.length c0 0 0 Try.underlying22
    cases A0 with
    | none =>
      have hz : l0 = [] := by
        cases l0 with
        | nil => rfl
        | cons x xs =>
          obtain ⟨ad, e, _⟩ := HR0.out.2.2 (by simp)
          cases e
      subst hz
      have hnil0 := fun W => Lib.run_eql_slice_nil (P := Try.prog) W 22 5 none 0 c0 0 0 Try.underlying22
      clear hnil
      go_enter Try.func36, Try.ntmps36
      go_wp2
      go_ret
      exact ⟨_, rfl, Kd.R_nil _ _ _ _ _, Below.refl _ _⟩
    | some ad =>
      have HE : Aside0 ((w.alloc (.cells #[] 5)).ownsRow w.heap.size 5 1 (.slice (some ⟨w.heap.size, 0, none⟩) 0 0) 0 (nums .u8 [])) := ⟨own_lit w w.heap.size 5 .u8 [] (Nat.le_refl _) (by simp)⟩
      go_enter Try.func36, Try.ntmps36
      go_wp2_with (first | ((with_reducible refine gate_builtin (b := .append) (xs := #[.tmp 5, .tmp 6]) rfl ?_); at_builtin; refine Kd.R_append_rows (Kd.int .u8) (w0 := w) w.heap.size rfl (.tmp 5) (.tmp 6) 22 5 (.int .u8 0) 1 rfl Try.underlying22 info5 rfl (by decide) (by omega) (.slice (some ⟨w.heap.size, 0, none⟩) 0 0) ([] : List Int) l0 _ _ _ (fun _ => True) (fun _ => False) rfl rfl ?aO ?aR (fun _ _ h => h) (fun _ h => h.elim) ?aF ?aB ?aS ?aL ?_; (case aR => exact Kd.C_alloc HR0.out _); (case aB => exact (Below.refl _ _).alloc (Nat.le_refl _) _); (case aF => exact (fun _ _ => trivial)); (case aO => exact Kd.R_of_own (xs := ([] : List Int)) HE.out (fun _ _ => trivial)); (case aS => exact by simp); (case aL => have := HL.out; simp; omega); intro v1 w1 ho hb hg hat; have HO := Aside0.mk ho; have HB := Aside0.mk hb; clear ho hb hg hat))
      go_ret
      exact ⟨_, rfl, HO.out, HB.out⟩
  · rw [if_neg hl] at h
    cases h

def slices_IndexFunc_byte_byte.f (l0 : List Int) : Option Int := some (if l0.findIdx (· < 128) < l0.length then (l0.findIdx (· < 128) : Int) else -1)

set_option maxHeartbeats 1000000 in
theorem slices_IndexFunc_byte_byte.calls (A0 : Option Addr) (c0 : Nat) (l0 : List Int) (r : Int) (w : World) (hr0 : Kd.C (Kd.int .u8) w A0 l0.length l0) (hc0 : l0.length ≤ c0) (h : slices_IndexFunc_byte_byte.f l0 = some r) :
    Calls Try.prog 38 #[.slice A0 l0.length c0, .func (.func 39) #[] #[]] w fun e w' => e = .returned (.int .i64 r) ∧ Drawn0 w w' := by
  have hR := Aside0.mk (Kd.reads_of_C (d := (0 : Int)) hr0)
  have hm := hr0.2.1
  have HC0 := Aside0.mk hc0
  have H := Aside0.mk (Option.some.inj h)
  clear hr0 hc0 h
  go_enter Try.func38, Try.ntmps38
  go_wp2
  go_loop [5, 8] (fun v5 v8 => ∃ k : Nat, k ≤ l0.length ∧ v8 = .int .i64 k ∧ Aside0 (∀ j, j < k → ¬ (l0.getD j 0 < 128))) (fun _ v8 => l0.length - (intOf v8).toNat)
  case atStart => exact ⟨0, Nat.zero_le _, rfl, ⟨fun j hj => absurd hj (Nat.not_lt_zero _)⟩⟩
  case round =>
    obtain ⟨k, hk, rfl, hall⟩ := hrel
    by_cases hlt : k < l0.length
    · obtain ⟨ad, e, hc⟩ := hR.out.2.2 (by omega)
      subst e
      have hck := hc k hlt
      clear hc
      go_wp2
      case roundEnd =>
        rename_i h
        refine ⟨⟨k + 1, by omega, by go_num, ⟨fun j hj => ?_⟩⟩, by simp [intOf]; omega⟩
        rcases Nat.lt_or_ge j k with h1 | h1
        · exact hall.out j h1
        · obtain rfl : j = k := by omega
          simpa [hlt] using h
      have h : l0[k] < 128 := by assumption
      go_ret
      have e1 : l0.findIdx (· < 128) = k := by
        refine (List.findIdx_eq hlt).2 ⟨by simpa using h, fun j hj => ?_⟩
        have := hall.out j hj
        rw [List.getD_eq_getElem?_getD, List.getElem?_eq_getElem (by omega)] at this
        simpa using this
      have e2 := H.out
      rw [e1, if_pos hlt] at e2
      exact ⟨ret_int e2, Drawn0.refl _⟩
    · go_wp2
      go_ret
      have e1 : l0.findIdx (· < 128) = l0.length := by
        refine List.findIdx_eq_length.2 (fun x hx => ?_)
        obtain ⟨j, hj, rfl⟩ := List.getElem_of_mem hx
        have := hall.out j (by omega)
        rw [List.getD_eq_getElem?_getD, List.getElem?_eq_getElem hj] at this
        simpa using this
      have e2 := H.out
      rw [e1, if_neg (Nat.lt_irrefl _)] at e2
      exact ⟨ret_int e2, Drawn0.refl _⟩

theorem or128_fin : ∀ b : Fin 256, (b.val ||| 128) = b.val % 128 + 128 := by decide +kernel
theorem or128 (y : Nat) : bits .or .u8 ((y : Int) % 256) 128 = ((y % 128 + 128 : Nat) : Int) := by
  have h := or128_fin ⟨y % 256, by omega⟩
  show IntKind.u8.wrap ((BitVec.ofInt 8 ((y : Int) % 256) ||| BitVec.ofInt 8 128).toNat : Int) = _
  have e1 : BitVec.ofInt 8 ((y : Int) % 256) = BitVec.ofNat 8 (y % 256) := by
    rw [show ((y : Int) % 256) = ((y % 256 : Nat) : Int) from by omega, BitVec.ofInt_natCast]
  rw [e1, BitVec.toNat_or, BitVec.toNat_ofNat]
  simp only [Nat.reducePow, Nat.mod_mod]
  rw [show (BitVec.ofInt 8 128).toNat = 128 from rfl, h, IntKind.wrap_u8]
  simp only
  omega

/-- The number that bytes say, seven bits each, the lowest first. -/
def val7 : List Int → Nat
  | [] => 0
  | c :: cs => (c % 128).toNat + 128 * val7 cs
/-- Does a number stand ahead, in its shortest form, and is it no greater than a word? -/
def takeOk (l : List Int) : Bool := decide (l.findIdx (· < 128) < l.length) && decide (l.findIdx (· < 128) < 10) && !(decide (0 < l.findIdx (· < 128)) && decide (l.getD (l.findIdx (· < 128)) 0 = 0)) && !(decide (l.findIdx (· < 128) = 9) && decide (1 < l.getD 9 0))
def nums_Take.f (l0 : List Int) : Option (Int × List Int × Bool) :=
  if (∀ c ∈ l0, 0 ≤ c ∧ c < 256) ∧ l0.length < 140737488355328 then
    some (if takeOk l0 = true then ((val7 (l0.take (l0.findIdx (· < 128) + 1)) : Int), l0.drop (l0.findIdx (· < 128) + 1), true) else (0, [], false))
  else none

set_option maxRecDepth 100000 in
set_option maxHeartbeats 2000000 in
theorem take_no (A0 : Option Addr) (c0 : Nat) (l0 : List Int) (w : World) (hr0 : Kd.C (Kd.int .u8) w A0 l0.length l0) (hc0 : l0.length ≤ c0) (h : takeOk l0 = false) :
    Calls Try.prog 23 #[.slice A0 l0.length c0] w fun e w' => ∃ v1_ : Value, e = .returned (.tuple #[.int .u64 0, v1_, .bool false]) ∧ Kd.R (Kd.int .u8) 5 w' w.heap.size (fun _ => True) v1_ [] ∧ Below w.heap.size w w' := by
  have hm := hr0.2.1
  have HR := Aside0.mk hr0
  have hcl : ∀ W (hb : Below w.heap.size w W) (i : Int), i = (if l0.findIdx (· < 128) < l0.length then (l0.findIdx (· < 128) : Int) else -1) → Calls Try.prog 38 #[.slice A0 l0.length c0, .func (.func 39) #[] #[]] W fun e w' => e = .returned (.int .i64 i) ∧ Drawn0 W w' :=
    fun W hb i hi => slices_IndexFunc_byte_byte.calls A0 c0 l0 i W (Kd.C_below hr0 hb) hc0 (by rw [hi]; rfl)
  have HCL := Aside0.mk hcl
  clear hcl hr0 hc0
  by_cases h1 : l0.findIdx (· < 128) < l0.length
  · generalize hi : l0.findIdx (· < 128) = i at *
    rw [if_pos h1] at HCL
    obtain ⟨ad, e, hc⟩ := (Kd.reads_of_C (d := (0 : Int)) HR.out).2.2 (by omega)
    subst e
    have hcw : ∀ W (hd : Drawn0 w W) j, j < l0.length → W.cell? (ad.add j) = some (.int .u8 (l0.getD j 0)) := fun W hd j hj => pw_cell_below hd.below (hc j hj)
    have HCW := Aside0.mk hcw
    clear hcw hc
    have hnz : (((i : Int) + 1) == 0) = false := beq_eq_false_iff_ne.2 (by omega)
    by_cases h10 : 10 ≤ i
    · clear h
      go_enter Try.func23, Try.ntmps23
      go_wp2_with (go_at_call 38; refine (HCL.out _ (Below.refl _ _) (i : Int) rfl).mono ?_; rintro e w1 ⟨rfl, hd⟩; have HD := Aside0.mk hd; clear hd)
      go_ret3
      exact ⟨_, rfl, Kd.R_nil _ _ _ _ _, HD.out.below⟩
    · by_cases h0 : 0 < i ∧ l0.getD i 0 = 0
      · obtain ⟨h01, h02⟩ := h0
        clear h
        have H02 := Aside0.mk h02
        clear h02
        go_enter Try.func23, Try.ntmps23
        go_wp2_with (go_at_call 38; refine (HCL.out _ (Below.refl _ _) (i : Int) rfl).mono ?_; rintro e w1 ⟨rfl, hd⟩; have HD := Aside0.mk hd; have hck := HCW.out _ hd i h1; rw [H02.out] at hck; clear hd)
        go_ret3
        exact ⟨_, rfl, Kd.R_nil _ _ _ _ _, HD.out.below⟩
      · have h9 : i = 9 ∧ 1 < l0.getD i 0 := by
          simp only [takeOk, hi] at h
          have e9 : i < 10 := by omega
          by_cases e : i = 9
          · subst e
            simp [h1, e9] at h
            have h0' : ¬ l0[9] = 0 := fun e => h0 ⟨by omega, by rw [List.getD_eq_getElem?_getD, List.getElem?_eq_getElem h1]; exact e⟩
            refine ⟨rfl, ?_⟩
            rw [List.getD_eq_getElem?_getD, List.getElem?_eq_getElem h1]
            exact h h0'
          · simp [h1, e9, e] at h
            exact absurd ⟨h.1, by rw [List.getD_eq_getElem?_getD, List.getElem?_eq_getElem h1]; exact h.2⟩ h0
        obtain ⟨h9, h92⟩ := h9
        have h91 : ¬ l0.getD i 0 = 0 := fun e => h0 ⟨by omega, e⟩
        have hle : i ≤ 9 := by omega
        have hge : 9 ≤ i := by omega
        clear h h0 h9
        generalize hg : l0.getD i 0 = c at *
        have hb1 : (c == 0) = false := by simpa using h91
        have hb2 : (((i : Int) + 1) == 10) = true := beq_iff_eq.2 (by omega)
        have Hg := Aside0.mk hg
        clear hg h91
        go_enter Try.func23, Try.ntmps23
        go_wp2_with (go_at_call 38; refine (HCL.out _ (Below.refl _ _) (i : Int) rfl).mono ?_; rintro e w1 ⟨rfl, hd⟩; have HD := Aside0.mk hd; have hck := HCW.out _ hd i h1; rw [Hg.out] at hck; clear hd)
        go_ret3
        exact ⟨_, rfl, Kd.R_nil _ _ _ _ _, HD.out.below⟩
  · rw [if_neg h1] at HCL
    clear h
    go_enter Try.func23, Try.ntmps23
    go_wp2_with (go_at_call 38; refine (HCL.out _ (Below.refl _ _) (-1) rfl).mono ?_; rintro e w1 ⟨rfl, hd⟩; have HD := Aside0.mk hd; clear hd)
    go_ret3
    exact ⟨_, rfl, Kd.R_nil _ _ _ _ _, HD.out.below⟩

theorem and127_fin : ∀ b : Fin 256, (b.val &&& 127) = b.val % 128 := by decide +kernel
theorem and127 {d : Int} (h0 : 0 ≤ d) (h1 : d < 256) : bits .and .u8 d 127 = d % 128 := by
  obtain ⟨n, rfl⟩ := Int.eq_ofNat_of_zero_le h0
  have h := and127_fin ⟨n, by omega⟩
  show IntKind.u8.wrap ((BitVec.ofInt 8 (n : Int) &&& BitVec.ofInt 8 127).toNat : Int) = _
  rw [BitVec.ofInt_natCast, BitVec.toNat_and, BitVec.toNat_ofNat, show (BitVec.ofInt 8 127).toNat = 127 from rfl, Nat.mod_eq_of_lt (by omega)]
  simp only at h
  rw [h, IntKind.wrap_u8]
  omega
theorem bits_or_u64 (a b : Nat) (ha : a < 18446744073709551616) (hb : b < 18446744073709551616) : bits .or .u64 (a : Int) (b : Int) = ((a ||| b : Nat) : Int) := by
  have hx : a ||| b < 2 ^ 64 := Nat.or_lt_two_pow (by omega) (by omega)
  show IntKind.u64.wrap ((BitVec.ofInt 64 (a : Int) ||| BitVec.ofInt 64 (b : Int)).toNat : Int) = _
  rw [BitVec.ofInt_natCast, BitVec.ofInt_natCast, BitVec.toNat_or, BitVec.toNat_ofNat, BitVec.toNat_ofNat, Nat.mod_eq_of_lt (by omega), Nat.mod_eq_of_lt (by omega), IntKind.wrap_u64]
  omega
theorem or_add (a c k : Nat) (h : a < 2 ^ k) : a ||| c * 2 ^ k = a + c * 2 ^ k := by
  rw [Nat.or_comm, ← Nat.shiftLeft_eq, ← Nat.shiftLeft_add_eq_or_of_lt h, Nat.add_comm]
theorem val7_lt : ∀ l : List Int, val7 l < 128 ^ l.length
  | [] => by simp [val7]
  | c :: cs => by
    have := val7_lt cs
    have h2 : (c % 128).toNat < 128 := by omega
    rw [val7, List.length_cons, Nat.pow_succ]
    omega
theorem val7_snoc : ∀ (l : List Int) (c : Int), val7 (l ++ [c]) = val7 l + (c % 128).toNat * 128 ^ l.length
  | [], c => by simp [val7]
  | d :: ds, c => by
    rw [List.cons_append, val7, val7_snoc ds c, val7, List.length_cons, Nat.pow_succ, Nat.mul_add, Nat.add_assoc, Nat.mul_comm (128 ^ ds.length) 128, Nat.mul_left_comm]
theorem take_step (l : List Int) (k : Nat) (hk : k < l.length) (hk9 : k ≤ 9) (h0 : 0 ≤ l.getD k 0) (h1 : l.getD k 0 < 256) (h9 : k = 9 → l.getD k 0 ≤ 1) :
    bits .or .u64 ((val7 (l.take k) : Nat) : Int) (IntKind.u64.wrap (IntKind.u64.wrap (bits .and .u8 (l.getD k 0) 127) * 2 ^ (7 * k))) = ((val7 (l.take (k + 1)) : Nat) : Int) := by
  have e1 : l.take (k + 1) = l.take k ++ [l.getD k 0] := by
    rw [List.take_succ_eq_append_getElem hk, List.getD_eq_getElem?_getD, List.getElem?_eq_getElem hk]; rfl
  have hlen : (l.take k).length = k := by rw [List.length_take]; omega
  have hlt := val7_lt (l.take k)
  rw [hlen] at hlt
  rw [e1, val7_snoc, hlen, and127 h0 h1]
  generalize l.getD k 0 = d at *
  obtain ⟨n, rfl⟩ := Int.eq_ofNat_of_zero_le h0
  generalize val7 (l.take k) = X at *
  have e128 : (128 : Nat) ^ k = 2 ^ (7 * k) := by rw [show (128 : Nat) = 2 ^ 7 from rfl, ← Nat.pow_mul]
  have hm : ((n : Int) % 128).toNat = n % 128 := by omega
  have hb : n % 128 * 2 ^ (7 * k) < 18446744073709551616 := by
    rcases Nat.lt_or_ge k 9 with h | h
    · have : (2 : Nat) ^ (7 * k) ≤ 2 ^ 56 := Nat.pow_le_pow_right (by omega) (by omega)
      have h3 : n % 128 ≤ 127 := by omega
      calc n % 128 * 2 ^ (7 * k) ≤ 127 * 2 ^ 56 := Nat.mul_le_mul h3 this
        _ < 18446744073709551616 := by decide
    · obtain rfl : k = 9 := by omega
      have := h9 rfl
      have h3 : n % 128 ≤ 1 := by omega
      calc n % 128 * 2 ^ (7 * 9) ≤ 1 * 2 ^ (7 * 9) := Nat.mul_le_mul h3 (Nat.le_refl _)
        _ < 18446744073709551616 := by decide
  have hX : X < 18446744073709551616 := by
    have : (2 : Nat) ^ (7 * k) ≤ 2 ^ 63 := Nat.pow_le_pow_right (by omega) (by omega)
    rw [e128] at hlt
    have e63 : (2 : Nat) ^ 63 = 9223372036854775808 := rfl
    omega
  have ew : IntKind.u64.wrap (IntKind.u64.wrap ((n : Int) % 128) * 2 ^ (7 * k)) = ((n % 128 * 2 ^ (7 * k) : Nat) : Int) := by
    have e2 : IntKind.u64.wrap ((n : Int) % 128) = ((n % 128 : Nat) : Int) := by rw [IntKind.wrap_u64]; omega
    have e3 : (((n % 128 : Nat) : Int) * 2 ^ (7 * k)) = ((n % 128 * 2 ^ (7 * k) : Nat) : Int) := by push_cast; rfl
    rw [e2, e3, IntKind.wrap_u64]
    omega
  rw [ew, bits_or_u64 _ _ hX hb, hm, e128]
  rw [e128] at hlt
  rw [or_add _ _ _ hlt]

theorem clone_n (A0 : Option Addr) (n c0 : Nat) (l0 : List Int) (w : World) (hn : l0.length = n) (hr0 : Kd.C (Kd.int .u8) w A0 l0.length l0) (hc0 : l0.length ≤ c0) (h : l0.length < 140737488355328) :
    Calls Try.prog 36 #[.slice A0 n c0] w fun e w' => ∃ v0_ : Value, e = .returned (v0_) ∧ Kd.R (Kd.int .u8) 5 w' w.heap.size (fun _ => True) v0_ l0 ∧ Below w.heap.size w w' := by
  subst hn
  exact slices_Clone_byte_byte.calls A0 c0 l0 l0 w hr0 hc0 (by unfold slices_Clone_byte_byte.f; rw [if_pos h])

set_option maxRecDepth 100000 in
set_option maxHeartbeats 4000000 in
theorem take_yes (A0 : Option Addr) (c0 : Nat) (l0 : List Int) (w : World) (hr0 : Kd.C (Kd.int .u8) w A0 l0.length l0) (hc0 : l0.length ≤ c0) (h : takeOk l0 = true) (hby : ∀ c ∈ l0, 0 ≤ c ∧ c < 256) (hbig : l0.length < 140737488355328) :
    Calls Try.prog 23 #[.slice A0 l0.length c0] w fun e w' => ∃ v1_ : Value, e = .returned (.tuple #[.int .u64 (val7 (l0.take (l0.findIdx (· < 128) + 1)) : Int), v1_, .bool true]) ∧ Kd.R (Kd.int .u8) 5 w' w.heap.size (fun _ => True) v1_ (l0.drop (l0.findIdx (· < 128) + 1)) ∧ Below w.heap.size w w' := by
  have hm := hr0.2.1
  have HR := Aside0.mk hr0
  have HC0 := Aside0.mk hc0
  have hcl : ∀ W (hb : Below w.heap.size w W) (i : Int), i = (if l0.findIdx (· < 128) < l0.length then (l0.findIdx (· < 128) : Int) else -1) → Calls Try.prog 38 #[.slice A0 l0.length c0, .func (.func 39) #[] #[]] W fun e w' => e = .returned (.int .i64 i) ∧ Drawn0 W w' :=
    fun W hb i hi => slices_IndexFunc_byte_byte.calls A0 c0 l0 i W (Kd.C_below hr0 hb) hc0 (by rw [hi]; rfl)
  have HCL := Aside0.mk hcl
  clear hcl hr0 
  simp only [takeOk, Bool.and_eq_true, decide_eq_true_eq, Bool.not_eq_true', Bool.and_eq_false_iff, decide_eq_false_iff_not] at h
  generalize hi : l0.findIdx (· < 128) = i at *
  obtain ⟨⟨⟨h1, h2⟩, h3⟩, h4⟩ := h
  rw [if_pos h1] at HCL
  obtain ⟨ad, e, hc⟩ := (Kd.reads_of_C (d := (0 : Int)) HR.out).2.2 (by omega)
  subst e
  have hcw : ∀ W (hd : Drawn0 w W) j, j < l0.length → W.cell? (ad.add j) = some (.int .u8 (l0.getD j 0)) := fun W hd j hj => pw_cell_below hd.below (hc j hj)
  have HCW := Aside0.mk hcw
  clear hcw hc
  have hnz : (((i : Int) + 1) == 0) = false := beq_eq_false_iff_ne.2 (by omega)
  have hgd : l0.getD i 0 = l0[i] := by rw [List.getD_eq_getElem?_getD, List.getElem?_eq_getElem h1]; rfl
  have H3 := Aside0.mk h3
  have H4 := Aside0.mk h4
  clear h3 h4
  have HI := Aside0.mk hi
  have HBY := Aside0.mk hby
  clear hi hby
  generalize hg : l0.getD i 0 = c at *
  have Hg := Aside0.mk hg
  clear hg hgd
  have hw1 : IntKind.i64.wrap ((i : Int) + 1) = (i : Int) + 1 := IntWalk.i64_in _ (by omega)
  -- the two tests ahead
  have hcase : (0 < i ∧ (c == 0) = false ∧ 9 ≤ i ∧ c ≤ 1 ∧ (((i : Int) + 1) == 10) = true) ∨ (0 < i ∧ (c == 0) = false ∧ i < 9 ∧ (((i : Int) + 1) == 10) = false) ∨ (i ≤ 0 ∧ (((i : Int) + 1) == 10) = false) := by
    rcases Nat.eq_zero_or_pos i with h | h
    · exact .inr (.inr ⟨by omega, beq_eq_false_iff_ne.2 (by omega)⟩)
    · have hb1 : (c == 0) = false := by
        rcases H3.out with h' | h'
        · omega
        · simpa using h'
      by_cases h9 : i = 9
      · refine .inl ⟨h, hb1, by omega, ?_, beq_iff_eq.2 (by omega)⟩
        rcases H4.out with h' | h'
        · exact absurd h9 h'
        · rw [← Hg.out, h9]; omega
      · exact .inr (.inl ⟨h, hb1, by omega, beq_eq_false_iff_ne.2 (by omega)⟩)
  clear hw1
  have hcut : ∀ W, Drawn0 w W → Kd.C (Kd.int .u8) W (if c0 = i + 1 then some ad else some ⟨ad.block, ad.off + (i + 1), none⟩) (l0.drop (i + 1)).length (l0.drop (i + 1)) := fun W hd => by
    have := Kd.C_drop (Kd.C_below HR.out hd.below) (m := i + 1) (by omega) HC0.out
    have e : (i + 1) * (Kd.int .u8).sz = i + 1 := Nat.mul_one _
    rw [e] at this
    have e2 : (Option.map (fun x => Addr.add x (i + 1)) (some ad)) = some ⟨ad.block, ad.off + (i + 1), none⟩ := by simp [Addr.add]
    rwa [e2] at this
  have HCUT := Aside0.mk hcut
  have HBIG : Aside0 ((l0.drop (i + 1)).length < 140737488355328) := ⟨by rw [List.length_drop]; omega⟩
  have HLD : Aside0 ((l0.drop (i + 1)).length = l0.length - (i + 1)) := ⟨List.length_drop⟩
  have hstep : ∀ k, k < i + 1 → bits .or .u64 ((val7 (l0.take k) : Nat) : Int) (IntKind.u64.wrap (IntKind.u64.wrap (bits .and .u8 (l0.getD k 0) 127) * 2 ^ (7 * k))) = ((val7 (l0.take (k + 1)) : Nat) : Int) := fun k hk => by
    have hkl : k < l0.length := by omega
    have hmem : l0.getD k 0 ∈ l0 := by rw [List.getD_eq_getElem?_getD, List.getElem?_eq_getElem hkl]; exact List.getElem_mem hkl
    refine take_step l0 k hkl (by omega) (HBY.out _ hmem).1 (HBY.out _ hmem).2 (fun e => ?_)
    rcases H4.out with h' | h'
    · omega
    · rw [e]; omega
  have HSTEP := Aside0.mk hstep
  have hcn1 : c0 ≤ i + 1 → ∀ W, Drawn0 w W → Calls Try.prog 36 #[.slice (some ad) (l0.length - (i + 1)) 0] W fun e w' => ∃ v0_ : Value, e = .returned (v0_) ∧ Kd.R (Kd.int .u8) 5 w' W.heap.size (fun _ => True) v0_ (l0.drop (i + 1)) ∧ Below W.heap.size W w' := fun hc W hd => by
    have he : c0 = i + 1 := by have := HC0.out; omega
    have := HCUT.out W hd
    rw [if_pos he] at this
    exact clone_n _ _ _ _ W HLD.out this (by have := HLD.out; have := HC0.out; omega) HBIG.out
  have hcn2 : ¬ c0 ≤ i + 1 → ∀ W, Drawn0 w W → Calls Try.prog 36 #[.slice (some ⟨ad.block, ad.off + (i + 1), none⟩) (l0.length - (i + 1)) (c0 - (i + 1))] W fun e w' => ∃ v0_ : Value, e = .returned (v0_) ∧ Kd.R (Kd.int .u8) 5 w' W.heap.size (fun _ => True) v0_ (l0.drop (i + 1)) ∧ Below W.heap.size W w' := fun hc W hd => by
    have := HCUT.out W hd
    rw [if_neg (by omega)] at this
    exact clone_n _ _ _ _ W HLD.out this (by have := HLD.out; have := HC0.out; omega) HBIG.out
  have HCLN1 := Aside0.mk hcn1
  have HCLN2 := Aside0.mk hcn2
  clear hstep hcut hbig hc0 hcn1 hcn2
  obtain ⟨X, hX⟩ : ∃ X : Nat → Nat, X = fun k => val7 (l0.take k) := ⟨_, rfl⟩
  have HX := Aside0.mk hX
  have HX0 : Aside0 (X 0 = 0) := ⟨by rw [hX]; rfl⟩
  clear hX
  have hle : i + 1 ≤ c0 := by have := HC0.out; omega
  by_cases hcap : c0 ≤ i + 1
  all_goals
    rcases hcase with ⟨hp1, hp2, hp3, hp4, hp5⟩ | ⟨hp1, hp2, hp3, hp5⟩ | ⟨hp1, hp5⟩
    all_goals
      go_enter Try.func23, Try.ntmps23
      go_wp2_with (go_at_call 38; refine (HCL.out _ (Below.refl _ _) (i : Int) rfl).mono ?_; rintro e w1 ⟨rfl, hd⟩; have HD := Aside0.mk hd; have hck := HCW.out _ hd i h1; rw [Hg.out] at hck; clear hd)
      go_loop [6, 7, 8, 44] (fun v6 v7 v8 v44 => ∃ k : Nat, k ≤ i + 1 ∧ v44 = .int .i64 k ∧ v6 = .int .u64 (X k)) (fun _ _ _ v44 => i + 1 - (intOf v44).toNat)
      case atStart => exact ⟨0, Nat.zero_le _, rfl, by rw [HX0.out]; rfl⟩
      case round =>
        obtain ⟨k, hk, rfl, rfl⟩ := hrel
        by_cases hlt : k < i + 1
        · have hckk := HCW.out _ HD.out k (by omega)
          have HS := Aside0.mk (HSTEP.out k hlt)
          generalize hg2 : l0.getD k 0 = d at *
          have Hg2 := Aside0.mk hg2
          clear hg2 hck
          go_wp2
          case roundEnd =>
            refine ⟨⟨k + 1, by omega, by go_num, ?_⟩, by simp [intOf]; omega⟩
            rw [HX.out]
            exact congrArg (Value.int .u64) HS.out
        · have hki : k = i + 1 := by omega
          subst hki
          go_wp2_with fail
          first
            | (refine (HCLN1.out hcap _ HD.out).mono ?_; rintro e w2 ⟨v, rfl, hv, hb⟩; have HV := Aside0.mk hv; have HB2 := Aside0.mk hb; clear hv hb; go_wp2; go_ret3; exact ⟨_, by rw [HX.out]; rfl, Kd.R_lower HV.out HD.out.below.size, HD.out.below.trans (HB2.out.mono HD.out.below.size)⟩)
            | (refine (HCLN2.out hcap _ HD.out).mono ?_; rintro e w2 ⟨v, rfl, hv, hb⟩; have HV := Aside0.mk hv; have HB2 := Aside0.mk hb; clear hv hb; go_wp2; go_ret3; exact ⟨_, by rw [HX.out]; rfl, Kd.R_lower HV.out HD.out.below.size, HD.out.below.trans (HB2.out.mono HD.out.below.size)⟩)

theorem nums_Take.calls (A0 : Option Addr) (c0 : Nat) (l0 : List Int) (r1 : Int) (r2 : List Int) (r3 : Bool) (w : World) (hr0 : Kd.C (Kd.int .u8) w A0 l0.length l0) (hc0 : l0.length ≤ c0) (h : nums_Take.f l0 = some (r1, r2, r3)) :
    Calls Try.prog 23 #[.slice A0 l0.length c0] w fun e w' => ∃ v1_ : Value, e = .returned (.tuple #[.int .u64 r1, v1_, .bool r3]) ∧ Kd.R (Kd.int .u8) 5 w' w.heap.size (fun _ => True) v1_ r2 ∧ Below w.heap.size w w' := by
  unfold nums_Take.f at h
  by_cases hc : (∀ c ∈ l0, 0 ≤ c ∧ c < 256) ∧ l0.length < 140737488355328
  · rw [if_pos hc] at h
    have h := Option.some.inj h
    by_cases ho : takeOk l0 = true
    · rw [if_pos ho] at h
      simp only [Prod.mk.injEq] at h
      obtain ⟨rfl, rfl, rfl⟩ := h
      exact take_yes A0 c0 l0 w hr0 hc0 ho hc.1 hc.2
    · rw [if_neg ho] at h
      simp only [Prod.mk.injEq] at h
      obtain ⟨rfl, rfl, rfl⟩ := h
      exact take_no A0 c0 l0 w hr0 hc0 (by simpa using ho)
  · rw [if_neg hc] at h
    cases h

/-- The bytes of a number. -/
def vint (x : Nat) : List Int := if h : 127 < x then ((x % 128 + 128 : Nat) : Int) :: vint (x / 128) else [(x : Int)]
termination_by x
decreasing_by omega

theorem form_new (x : Nat) (w : World) : Calls Try.prog 37 #[.int .u64 x] w fun e w' => e = .returned (.func (.func 42) #[] #[.pointer (some ⟨w.heap.size, 0, none⟩)]) ∧ w.alloc (.cells #[.int .u64 x] 37) = w' := by
  go_enter Try.func37, Try.ntmps37
  go_wp2
  go_ret
  exact ⟨rfl, rfl⟩

set_option maxRecDepth 100000 in
set_option maxHeartbeats 1000000 in
theorem form_iter (bx n₀ x : Nat) (w : World) (hx : x < 18446744073709551616) (hn : n₀ ≤ bx) (hbx : w.heap[bx]? = some (.cells #[.int .u64 x] 37)) :
    Iter Try.prog 42 #[.pointer (some ⟨bx, 0, none⟩)] (fun c : Int => #[.int .u8 c]) (fun xs => xs = vint x) (fun _ => True) (vint x).length n₀ (· = bx) w := by
  intro l J Jx W hJ hJx hsz hH hB hlt hY h0
  refine (callsIn_wide (n := 1)).1 ?_
  refine callsIn_of_wp Try.func42 rfl trivial ?_ rfl
  simp only [Try.ntmps42, List.size_toArray, List.length_cons, List.length_nil, Nat.reduceAdd, Nat.reduceSub, Array.replicate_succ, Array.replicate_zero, List.push_toArray, List.append_toArray, List.nil_append, List.cons_append]
  gi_wp2
  gi_loopw [3] (fun v3 wr => ∃ (pre : List Int) (y : Nat), Aside0 (vint x = pre ++ vint y) ∧ y < 18446744073709551616 ∧ wr.heap[bx]? = some (.cells #[.int .u64 y] 37) ∧ Aside0 (bx < wr.heap.size) ∧ Aside0 (J (· = bx) pre wr))
    (fun v3 wr => boxN bx wr)
  case atStart => exact ⟨[], x, ⟨by simp⟩, hx, (hH bx rfl).trans hbx, ⟨hlt bx rfl⟩, ⟨h0⟩⟩
  case round =>
    obtain ⟨pre, y, hv, hy, hcell, hbl, hj⟩ := hrel
    have hc1 := box_cell hcell
    have hf1 := box_frozen hcell
    have hcellw := Aside0.mk hcell
    clear hcell
    have hlts : ∀ k, k = bx → k < wr.heap.size := fun k hk => hk ▸ hbl.out
    by_cases hb : 127 < y
    · obtain ⟨c, hc⟩ : ∃ c : Int, c = ((y % 128 + 128 : Nat) : Int) := ⟨_, rfl⟩
      have hbits : bits .or .u8 ((y : Int) % 256) 128 = c := (or128 y).trans hc.symm
      have hvy : vint y = c :: vint (y / 128) := by rw [vint, dif_pos hb, hc]
      have Hvy := Aside0.mk hvy
      clear hvy hc
      obtain ⟨fn, tmps, assign, body, hyy, hR⟩ := hY (· = bx) pre c wr hlts hj.out (by rw [hv.out, Hvy.out]; simp)
      gi_wp2
      refine hR.mono ?_
      rintro e W3 (⟨rfl, hJ3, hH3, hB3⟩ | ⟨rfl, hJx3, _⟩)
      · have hcell3 : W3.heap[bx]? = some (.cells #[.int .u64 y] 37) := (hH3 bx rfl).trans hcellw.out
        have hc3 := box_cell hcell3
        have hf3 := box_frozen hcell3
        have HJ3 := Aside0.mk hJ3
        have Hcell3 := Aside0.mk hcell3
        have Hbl : Aside0 (bx < W3.heap.size) := ⟨blk_lt hcell3⟩
        clear hJ3 hcell3 hH3 hB3 hR hyy hY h0 hB hH
        gi_wp2
        case roundEnd =>
          refine ⟨⟨pre ++ [c], y / 128, ⟨by rw [hv.out, Hvy.out]; simp⟩, by omega, by rw [box_set Hcell3.out]; simp, ⟨by simpa [World.setCell] using Hbl.out⟩, ⟨hJ.stay HJ3.out (Stays.setCell (C := (· = bx)) (p := ⟨bx, 0, none⟩) rfl _)⟩⟩, ?_⟩
          rw [boxN_eq hc1, boxN_eq (box_cell (box_set Hcell3.out _))]
          omega
      · gi_wp2
        refine bodyPost_ret (results_none rfl _ _ _) rfl ?_
        exact ⟨⟨_, rfl⟩, .inr ⟨_, _, trivial, hJx3⟩⟩
    · have hvy : vint y = [(y : Int)] := by rw [vint, dif_neg hb]
      have Hvy := Aside0.mk hvy
      clear hvy
      obtain ⟨fn, tmps, assign, body, hyy, hR⟩ := hY (· = bx) pre (y : Int) wr hlts hj.out (by rw [hv.out, Hvy.out]; simp)
      gi_wp2
      refine hR.mono ?_
      rintro e W3 (⟨rfl, hJ3, hH3, hB3⟩ | ⟨rfl, hJx3, _⟩)
      · gi_wp2
        go_end0
        exact ⟨⟨_, rfl⟩, .inl ⟨_, _, by rw [hv.out, Hvy.out], hJ3⟩⟩
      · gi_wp2
        go_end0
        exact ⟨⟨_, rfl⟩, .inr ⟨_, _, trivial, hJx3⟩⟩

theorem vint_len : ∀ (n x : Nat), x < 128 ^ (n + 1) → (vint x).length ≤ n + 1 := by
  intro n
  induction n with
  | zero => intro x hx; rw [vint, dif_neg (by omega)]; simp
  | succ n ih =>
    intro x hx
    rw [vint]
    split
    · have := ih (x / 128) (by rw [Nat.pow_succ] at hx; omega)
      simp; omega
    · simp
theorem vint_len10 {x : Nat} (hx : x < 18446744073709551616) : (vint x).length ≤ 10 := vint_len 9 x (by omega)

/-- Behind the bytes pre: the box bo holds a row of the call's own, l0 ++ pre. -/
def putI (w : World) (bo : Nat) (l0 : List Int) (C : Nat → Prop) (pre : List Int) (W : World) : Prop :=
  ∃ v, (¬ C bo ∧ W.heap[bo]? = some (.cells #[v] 22)) ∧ Kd.R (Kd.int .u8) 5 W w.heap.size (fun k => ¬ C k ∧ k ≠ bo) v (l0 ++ pre) ∧ ((∀ k, C k → w.heap.size ≤ k) ∧ Below w.heap.size w W)
theorem putI_fits (w : World) (bo : Nat) (l0 : List Int) : Fits (putI w bo l0) :=
  Fits.ex fun v => (Fits.block (fun _ => bo) (fun _ => .cells #[v] 22)).and ((fits_R (Kd.int .u8) 5 w.heap.size (· ≠ bo) (fun _ => v) (fun pre => l0 ++ pre)).and (Fits.below _ w (Nat.le_refl _)))

def nums_Put.f (l0 : List Int) (a1 : Int) : Option (List Int) := if 0 ≤ a1 ∧ a1 < 18446744073709551616 ∧ l0.length + 10 < 140737488355328 then some (l0 ++ vint a1.toNat) else none

set_option maxRecDepth 100000 in
set_option maxHeartbeats 2000000 in
theorem nums_Put.calls (A0 : Option Addr) (c0 : Nat) (l0 : List Int) (a1 : Int) (r : List Int) (w : World) (hr0 : Kd.C (Kd.int .u8) w A0 l0.length l0) (hc0 : l0.length ≤ c0) (h : nums_Put.f l0 a1 = some r) :
    Calls Try.prog 22 #[.slice A0 l0.length c0, .int .u64 a1] w fun e w' => ∃ v0_ : Value, e = .returned (v0_) ∧ Kd.R (Kd.int .u8) 5 w' w.heap.size (fun _ => True) v0_ r ∧ Below w.heap.size w w' := by
  unfold nums_Put.f at h
  by_cases hc : 0 ≤ a1 ∧ a1 < 18446744073709551616 ∧ l0.length + 10 < 140737488355328
  · rw [if_pos hc] at h
    obtain rfl := Option.some.inj h
    clear h
    obtain ⟨h1, h2, h3⟩ := hc
    obtain ⟨x, rfl⟩ := Int.eq_ofNat_of_zero_le h1
    rw [Int.toNat_natCast]
    have hx : x < 18446744073709551616 := by omega
    clear h1 h2
    have HL := Aside0.mk h3
    have HX := Aside0.mk hx
    clear h3 hx
    have hcl := fun W (hb : Below w.heap.size w W) => slices_Clone_byte_byte.calls A0 c0 l0 l0 W (Kd.C_below hr0 hb) hc0 (by unfold slices_Clone_byte_byte.f; rw [if_pos (by have := HL.out; omega)])
    have HCL := Aside0.mk hcl
    clear hcl hr0 hc0
    refine (callsIn_wide (n := 3)).1 ?_
    refine callsIn_of_wp_marks Try.func22 rfl trivial ?_ rfl
    simp only [Try.ntmps22, List.size_toArray, List.length_cons, List.length_nil, Nat.reduceAdd, Nat.reduceSub, Array.replicate_succ, Array.replicate_zero, List.push_toArray, List.append_toArray, List.nil_append, List.cons_append]
    gi_wp2_with (first | (refine ⟨trivial, ?_⟩; gi_at_call 36; refine (callsIn_wide.2 (HCL.out _ (Below.refl _ _))).mono ?_; rintro e w1 ⟨v, rfl, hv, hb⟩; have HV := Aside0.mk hv; have HB := Aside0.mk hb; obtain ⟨A1, c1, hv1, hl1, _⟩ := Kd.R_reads hv; subst hv1; clear hv hb hl1) | (refine ⟨trivial, ?_⟩; gi_at_call 37; refine (callsIn_wide.2 (form_new _ _)).mono ?_; rintro e w2 ⟨rfl, rfl⟩))
    have hsz1 := HB.out.size
    have hbo : ((w1.alloc (.cells #[.slice A1 l0.length c1] 22)).alloc (.cells #[.int .u64 x] 37)).heap[w1.heap.size]? = some (.cells #[.slice A1 l0.length c1] 22) :=
      (Below.heap_alloc _ _ _ (by simp)).trans (box_new w1 _ _)
    have hbx : ((w1.alloc (.cells #[.slice A1 l0.length c1] 22)).alloc (.cells #[.int .u64 x] 37)).heap[w1.heap.size + 1]? = some (.cells #[.int .u64 x] 37) := by
      have := box_new (w1.alloc (.cells #[.slice A1 l0.length c1] 22)) (.int .u64 x) 37
      rwa [World.size_alloc] at this
    have hB0 : Below w.heap.size w ((w1.alloc (.cells #[.slice A1 l0.length c1] 22)).alloc (.cells #[.int .u64 x] 37)) := (HB.out.alloc hsz1 _).alloc (by simp; omega) _
    have hR0 : Kd.R (Kd.int .u8) 5 ((w1.alloc (.cells #[.slice A1 l0.length c1] 22)).alloc (.cells #[.int .u64 x] 37)) w.heap.size (fun k => ¬ k = w1.heap.size + 1 ∧ k ≠ w1.heap.size) (.slice A1 l0.length c1) (l0 ++ []) := by
      rw [List.append_nil]
      exact Kd.R_mono (Kd.R_alloc (Kd.R_alloc (Kd.R_bound HV.out) _) _) (fun k hk => ⟨by have := hk.2.2.1; omega, by have := hk.2.2.1; omega⟩)
    refine range_law (gf := 42) (lb := #[.pointer (some ⟨w1.heap.size + 1, 0, none⟩)]) rfl (enters_of Try.func42 (by kernel_rfl) rfl)
      (form_iter (w1.heap.size + 1) w.heap.size x _ HX.out (by omega) hbx) (fun k hk => by subst hk; simp) (by simp; omega) (fun _ => rfl)
      (putI w w1.heap.size l0) (fun _ _ _ _ => False) (putI_fits w w1.heap.size l0) (fun _ => Fits.false)
      ⟨_, ⟨by omega, hbo⟩, hR0, fun k hk => by omega, hB0⟩ ?round ?done ?stop
    case round =>
      intro l C pre c W hlt hle hi hlen
      have HLen : Aside0 ((l0 ++ pre).length + 1 ≤ 140737488355328) := ⟨by have := HL.out; have := vint_len10 HX.out; rw [List.length_append]; omega⟩
      clear hbo hbx hB0 hR0 hlen HCL HV
      gi_wp2
      refine ⟨Hold.refl _ _, Below.refl _ _, fun W'' hst hlt2 hb2 hsz2 => ?_⟩
      obtain ⟨v, ⟨hnb, hbb⟩, hr, hcn, hB⟩ := (putI_fits w w1.heap.size l0).stay hi hst
      have hc1 := box_cell hbb
      have Hbb := Aside0.mk hbb
      have HR := Aside0.mk hr
      have HBW := Aside0.mk hB
      have Hcn := Aside0.mk hcn
      have Hlt2 := Aside0.mk hlt2
      have hbs : w.heap.size ≤ W''.heap.size := hB.size
      clear hbb hr hB hcn hi hst hlt2 hb2 hlt hsz2 hle
      gi_wp2_with (gi_at_builtin; refine appendIn (Kd.int .u8) w.heap.size rfl (.tmp 12) (.tmp 14) 22 5 (.int .u8 0) 1 rfl Try.underlying22 info5 rfl (by decide) (by decide) v (l0 ++ pre) c [.int .u8 c] _ (fun _ => False) rfl rfl ?aP (fun _ h => h.elim) ?aF HR.out hbs ?aL ?_; (case aP => exact rfl); (case aF => exact fun k hk => ⟨fun h => by have := Hlt2.out k h; omega, by have := blk_lt Hbb.out; omega⟩); (case aL => have := HLen.out; omega); intro v4 w4 hr4 hg4 hf4; obtain ⟨g, cap, hv4⟩ := hf4; subst hv4; have hb4 : w4.heap[w1.heap.size]? = some (.cells #[v] 22) := (hg4.block _ (blk_lt Hbb.out) (fun e => (HR.out.1 _ e.symm).2 rfl)).trans Hbb.out; have hc4 := box_cell hb4; have hf4 := box_frozen hb4; have HR4 := Aside0.mk hr4; have HG4 := Aside0.mk hg4; have Hb4 := Aside0.mk hb4; clear hr4 hg4 hb4)
      refine ⟨(Hold.of_grownBy HG4.out Hlt2.out (fun k hk => (HR.out.1 k hk).1)).trans (Hold.setCell hnb _), ((Below.refl _ _).grown HG4.out hbs (fun k hk => Kd.R_base HR.out k hk)).setCell (p := ⟨w1.heap.size, 0, none⟩) hsz1 _, _, ⟨hnb, box_set Hb4.out _⟩, ?_, Hcn.out, (HBW.out.grown HG4.out hbs (fun k hk => Kd.R_base HR.out k hk)).setCell (p := ⟨w1.heap.size, 0, none⟩) hsz1 _⟩
      have := R_setCell (p := ⟨w1.heap.size, 0, none⟩) HR4.out (fun h => h.2 rfl) (.slice (some ⟨g, 0, none⟩) ((l0 ++ pre).length + 1) cap)
      simpa using this
    case done =>
      rintro D C xs W hCD hD rfl ⟨v, ⟨hnb, hbb⟩, hr, hcn, hB⟩ hK
      have hc1 := box_cell hbb
      have Hr := Aside0.mk hr
      have HBW := Aside0.mk hB
      have HK := Aside0.mk hK
      clear hr hB hK hbo hbx hB0 hR0 hbb hcn
      gi_wp2
      refine ⟨by simp, .inl ⟨_, _, rfl, run_takeDeferred HK.out, ?_⟩⟩
      exact ⟨_, results_tmp rfl _ _ _, v, rfl, R_putObj Hr.out (fun h => h.1 hCD) _, HBW.out.trans (below_putObj (by simp at hD; omega) _)⟩
    case stop =>
      intro D C c pre W _ _ _ h _
      exact h.elim
  · rw [if_neg hc] at h
    cases h
end Go.Proofs.YtdppjknfhggpbaaG

end

section
set_option linter.unusedVariables false
set_option linter.unusedSimpArgs false
namespace Go.Proofs.YtdppjknfhggpbaaG
open Go Go.RowKit Go.Proofs.YtdppjknfhggpbaaR Go.Proofs.YtdppjknfhggpbaaW.PrintWords
attribute [local go_sem] Oper.semAt_some

/-- One bit. -/
def crcStep (x : Nat) : Nat := if x % 2 = 1 then (x / 2) ^^^ 3945912366 else x / 2
def crcSteps : Nat → Nat → Nat
  | 0, x => x
  | n + 1, x => crcStep (crcSteps n x)
/-- What a byte adds. -/
def crcTab (i : Nat) : Nat := crcSteps 8 i
def crcUpd (r : Nat) (c : Int) : Nat := (r / 256) ^^^ crcTab ((r % 256) ^^^ c.toNat)
def crcOf (l : List Int) : Nat := l.foldl crcUpd 4294967295
def frame_Sum.f (l0 : List Int) : Option Int := if (∀ c ∈ l0, 0 ≤ c ∧ c < 256) then some (crcOf l0 : Int) else none

end Go.Proofs.YtdppjknfhggpbaaG

end

section
namespace Go.Proofs.Ytdppjknfhggpbaa.P
open Go.RowKit Go.Proofs.YtdppjknfhggpbaaG Go.Proofs.YtdppjknfhggpbaaW.PrintWords Go.Proofs.YtdppjknfhggpbaaW.PrintLast Go.Proofs.YtdppjknfhggpbaaW.PrintMore
attribute [local go_sem] str_gtr str_geq str_leq max2_int min2_int max_two min_two max_three min_three max_four min_four   -- for this text's walks alone
set_option linter.unusedVariables false
set_option linter.unusedSimpArgs false



def errW : Option Int → Value
  | none => .nilIface
  | some c => .iface 0 (.int .i64 c)
theorem errW_none : errW none = .nilIface := rfl
theorem errW_some (c : Int) : errW (some c) = .iface 0 (.int .i64 c) := rfl

theorem info5 : (Try.prog.info? 5).map (fun i => (i.zero, i.size, i.bytes)) = some (some (.int .u8 0), 1, 1) := by kernel_rfl
-- the values' own types
end Go.Proofs.Ytdppjknfhggpbaa.P

end

section
set_option linter.unusedVariables false
namespace Go.Proofs.YtdppjknfhggpbaaG
open Go Go.RowKit Go.Proofs.Ytdppjknfhggpbaa.P Go.Proofs.YtdppjknfhggpbaaW.PrintWords

/-- A row of bytes that may be written, in a block from B on and ahead of Z. -/
def Byts (B Z : Nat) (w : World) (v : Value) : Prop :=
  ∃ A n c, v = .slice A n c ∧ n ≤ 1000000000 ∧ (0 < n → ∃ g, A = some ⟨g, 0, none⟩ ∧ B ≤ g ∧ g < Z ∧ ∀ j, j < n → (∃ x, w.cell? ⟨g, j, none⟩ = some (.int .u8 x)) ∧ w.frozen? ⟨g, j, none⟩ = false)
theorem Byts.of_R {B Z T base : Nat} {w : World} {ok : Nat → Prop} {v : Value} {xs : List Int} (h : Kd.R (Kd.int .u8) T w base ok v xs) (hl : xs.length ≤ 1000000000) (hB : B ≤ base) (hZ : w.heap.size ≤ Z) : Byts B Z w v := by
  by_cases hp : 0 < xs.length
  · obtain ⟨g, cap, he, hg, hlt, _⟩ := Kd.R_form h hp
    subst he
    refine ⟨_, _, _, rfl, hl, fun _ => ⟨g, rfl, by omega, by omega, fun j hj => ?_⟩⟩
    obtain ⟨h1, h2⟩ := Kd.R_celln (d := (0 : Int)) h (j : Int) (by omega) (by omega)
    rw [Int.toNat_natCast] at h1 h2
    exact ⟨⟨_, h1⟩, h2⟩
  · obtain ⟨A, c, he⟩ := Kd.R_slice h
    exact ⟨A, xs.length, c, he, hl, fun z => absurd z hp⟩
theorem Byts.set {B Z : Nat} {w : World} {v : Value} (h : Byts B Z w v) (g j : Nat) (y : Int) : Byts B Z (w.setCell ⟨g, j, none⟩ (.int .u8 y)) v := by
  obtain ⟨A, n, c, he, hn, hc⟩ := h
  refine ⟨A, n, c, he, hn, fun hp => ?_⟩
  obtain ⟨g', hA, h1, h2, h3⟩ := hc hp
  refine ⟨g', hA, h1, h2, fun i hi => ?_⟩
  obtain ⟨⟨x, hx⟩, hf⟩ := h3 i hi
  refine ⟨?_, by rw [World.frozen?_setCell]; exact hf⟩
  by_cases ha : (⟨g', i, none⟩ : Addr) = ⟨g, j, none⟩
  · rw [← ha]
    exact ⟨y, World.cell?_setCell_same _ _ _ hx⟩
  · exact ⟨x, by rw [World.cell?_setCell_other _ _ _ _ (fun z => ha z.symm)]; exact hx⟩
theorem Byts.below {B Z Z' : Nat} {w w1 : World} {v : Value} (h : Byts B Z w v) (hb : Below w.heap.size w w1) (hz : Z ≤ Z') : Byts B Z' w1 v := by
  obtain ⟨A, n, c, he, hn, hc⟩ := h
  refine ⟨A, n, c, he, hn, fun hp => ?_⟩
  obtain ⟨g, hA, h1, h2, h3⟩ := hc hp
  refine ⟨g, hA, h1, by omega, fun i hi => ?_⟩
  obtain ⟨⟨x, hx⟩, hf⟩ := h3 i hi
  have hlt := World.block_lt_of_cell? w _ hx
  refine ⟨⟨x, pw_cell_below hb hx⟩, ?_⟩
  have hbk := hb.block g hlt
  unfold World.frozen? at hf ⊢
  rw [hbk]
  exact hf
theorem Byts.slice {B Z : Nat} {w : World} {A : Option Addr} {n c : Nat} (h : Byts B Z w (.slice A n c)) : n ≤ 1000000000 ∧ (0 < n → ∃ g, A = some ⟨g, 0, none⟩ ∧ B ≤ g ∧ g < Z ∧ ∀ j, j < n → (∃ x, w.cell? ⟨g, j, none⟩ = some (.int .u8 x)) ∧ w.frozen? ⟨g, j, none⟩ = false) := by
  obtain ⟨A', n', c', he, h1, h2⟩ := h
  injection he with e1 e2 e3
  subst e1
  subst e2
  exact ⟨h1, h2⟩
/-- What stays while the rows that a literal holds (block Z, of type T) are written over; W0: the world that stays. -/
structure Over (W0 : World) (Z T : Nat) (vs : List Value) (w : World) : Prop where
  below : Below W0.heap.size W0 w
  lit : w.heap[Z]? = some (.cells vs.toArray T)
  rows : ∀ (i : Nat) (v : Value), vs[i]? = some v → Byts W0.heap.size Z w v
theorem Over.set {W0 w : World} {Z T g : Nat} {vs : List Value} (h : Over W0 Z T vs w) (hB : W0.heap.size ≤ g) (hZ : g < Z) (j : Nat) (y : Int) : Over W0 Z T vs (w.setCell ⟨g, j, none⟩ (.int .u8 y)) :=
  ⟨h.below.setCell hB _, blk_far h.lit (by show Z ≠ g; omega) _, fun i v hv => (h.rows i v hv).set g j y⟩
theorem Over.cell {W0 w : World} {Z T : Nat} {vs : List Value} (h : Over W0 Z T vs w) {i : Nat} {v : Value} (hv : vs[i]? = some v) : w.cell? ⟨Z, i, none⟩ = some v := by
  rw [blk_cell h.lit i]
  simpa using hv
end Go.Proofs.YtdppjknfhggpbaaG

end

section
set_option linter.unusedVariables false
namespace Go.Proofs.YtdppjknfhggpbaaL
open Go Go.RowKit Go.Proofs.YtdppjknfhggpbaaG Go.Proofs.YtdppjknfhggpbaaW.PrintWords

/-- Bytes. -/
def By (l : List Int) : Prop := ∀ c ∈ l, 0 ≤ c ∧ c < 256
theorem By.nil : By [] := fun c h => by cases h
theorem By.cons {c : Int} {l : List Int} (h0 : 0 ≤ c) (h1 : c < 256) (h : By l) : By (c :: l) := fun d hd => by
  rcases List.mem_cons.1 hd with rfl | hd
  · exact ⟨h0, h1⟩
  · exact h d hd
theorem By.append {a b : List Int} (ha : By a) (hb : By b) : By (a ++ b) := fun c h => (List.mem_append.1 h).elim (ha c) (hb c)
theorem By.right {a b : List Int} (h : By (a ++ b)) : By b := fun c hc => h c (List.mem_append_right _ hc)
theorem By.take {l : List Int} (h : By l) (n : Nat) : By (l.take n) := fun c hc => h c (List.mem_of_mem_take hc)
theorem By.drop {l : List Int} (h : By l) (n : Nat) : By (l.drop n) := fun c hc => h c (List.mem_of_mem_drop hc)
theorem By.tail {c : Int} {l : List Int} (h : By (c :: l)) : By l := fun d hd => h d (List.mem_cons_of_mem _ hd)
theorem By.head {c : Int} {l : List Int} (h : By (c :: l)) : 0 ≤ c ∧ c < 256 := h c (List.mem_cons_self ..)
theorem By.of_wf {l : List Int} (h : ∀ x ∈ l, (Lit.int .u8 x).wf = true) : By l := fun c hc => by
  have := h c hc
  simp [Lit.wf, IntKind.min, IntKind.max, IntKind.bits, IntKind.signed] at this
  omega

theorem vint_small {x : Nat} (h : ¬ 127 < x) : vint x = [(x : Int)] := by rw [vint, dif_neg h]
theorem vint_big {x : Nat} (h : 127 < x) : vint x = ((x % 128 + 128 : Nat) : Int) :: vint (x / 128) := by rw [vint, dif_pos h]
theorem vint_pos (x : Nat) : 0 < (vint x).length := by
  by_cases h : 127 < x
  · rw [vint_big h]; simp
  · rw [vint_small h]; simp
theorem vint_by (x : Nat) : By (vint x) := by
  induction x using Nat.strongRecOn with
  | ind x ih =>
    by_cases h : 127 < x
    · rw [vint_big h]
      exact .cons (by omega) (by omega) (ih _ (by omega))
    · rw [vint_small h]
      exact .cons (by omega) (by omega) .nil
theorem val7_vint (x : Nat) : val7 (vint x) = x := by
  induction x using Nat.strongRecOn with
  | ind x ih =>
    by_cases h : 127 < x
    · rw [vint_big h, val7, ih _ (by omega)]; omega
    · rw [vint_small h, val7, val7]; omega
theorem vint_inj {x y : Nat} (h : vint x = vint y) : x = y := by rw [← val7_vint x, h, val7_vint]
theorem findIdx_vint (x : Nat) (rest : List Int) : (vint x ++ rest).findIdx (· < 128) = (vint x).length - 1 := by
  induction x using Nat.strongRecOn with
  | ind x ih =>
    by_cases h : 127 < x
    · have hp := vint_pos (x / 128)
      rw [vint_big h, List.cons_append, List.findIdx_cons, ih _ (by omega)]
      have : decide ((((x % 128 + 128 : Nat) : Int)) < 128) = false := decide_eq_false (by omega)
      rw [this]
      simp only [cond_false, List.length_cons]
      omega
    · rw [vint_small h, List.cons_append, List.findIdx_cons]
      have : decide ((x : Int) < 128) = true := decide_eq_true (by omega)
      rw [this]
      simp
theorem vint_last (x : Nat) (rest : List Int) (hx : 0 < x) : (vint x ++ rest).getD ((vint x).length - 1) 0 ≠ 0 := by
  induction x using Nat.strongRecOn with
  | ind x ih =>
    by_cases h : 127 < x
    · have hp := vint_pos (x / 128)
      have := ih (x / 128) (by omega) (by omega)
      rw [vint_big h, List.cons_append, List.length_cons]
      obtain ⟨m, hm⟩ : ∃ m, (vint (x / 128)).length = m + 1 := ⟨_, (Nat.succ_pred_eq_of_pos hp).symm⟩
      rw [hm] at this ⊢
      simpa using this
    · rw [vint_small h]; simp; omega
theorem vint_top (m : Nat) (hm : m ≤ 128) (rest : List Int) : ∀ n x, x < 128 ^ n * m → (vint x).length = n + 1 → (vint x ++ rest).getD n 0 < m := by
  intro n
  induction n with
  | zero =>
    intro x hx hl
    have h : ¬ 127 < x := by simp at hx; omega
    rw [vint_small h]
    simp at hx ⊢
    omega
  | succ n ih =>
    intro x hx hl
    by_cases h : 127 < x
    · rw [vint_big h] at hl ⊢
      have hl' : (vint (x / 128)).length = n + 1 := by simpa using hl
      have := ih (x / 128) (by rw [Nat.pow_succ] at hx; rw [Nat.div_lt_iff_lt_mul (by omega)]; calc x < 128 ^ n * 128 * m := hx
        _ = 128 ^ n * m * 128 := by rw [Nat.mul_assoc, Nat.mul_comm 128 m, ← Nat.mul_assoc]) hl'
      simpa using this
    · rw [vint_small h] at hl
      simp at hl
theorem takeOk_vint (x : Nat) (rest : List Int) (hx : x < 18446744073709551616) : takeOk (vint x ++ rest) = true := by
  have hp := vint_pos x
  have hl := vint_len10 hx
  unfold takeOk
  rw [findIdx_vint]
  have h1 : (vint x).length - 1 < (vint x ++ rest).length := by rw [List.length_append]; omega
  have h3 : ¬ (0 < (vint x).length - 1 ∧ (vint x ++ rest).getD ((vint x).length - 1) 0 = 0) := by
    rintro ⟨h0, h⟩
    refine vint_last x rest ?_ h
    rcases Nat.eq_zero_or_pos x with rfl | h'
    · rw [vint_small (by omega)] at h0; simp at h0
    · exact h'
  have h4 : ¬ ((vint x).length - 1 = 9 ∧ 1 < (vint x ++ rest).getD 9 0) := by
    rintro ⟨h0, h⟩
    have := vint_top 2 (by omega) rest 9 x (by have : (128 : Nat) ^ 9 * 2 = 18446744073709551616 := by decide
                                               omega) (by omega)
    omega
  simp only [h1, decide_true, Bool.true_and, Bool.and_eq_true, Bool.not_eq_true', Bool.and_eq_false_iff, decide_eq_false_iff_not, decide_eq_true_eq]
  refine ⟨⟨by omega, ?_⟩, ?_⟩
  · by_cases h0 : 0 < (vint x).length - 1
    · exact .inr (fun h => h3 ⟨h0, h⟩)
    · exact .inl h0
  · by_cases h0 : (vint x).length - 1 = 9
    · exact .inr (fun h => h4 ⟨h0, h⟩)
    · exact .inl h0

/-- What is put is taken. -/
theorem take_vint (x : Nat) (rest : List Int) (hx : x < 18446744073709551616) (hr : By rest) (hl : rest.length + 10 < 140737488355328) :
    nums_Take.f (vint x ++ rest) = some ((x : Int), rest, true) := by
  have hp := vint_pos x
  have hl10 := vint_len10 hx
  unfold nums_Take.f
  rw [if_pos ⟨(vint_by x).append hr, by rw [List.length_append]; omega⟩, if_pos (takeOk_vint x rest hx), findIdx_vint]
  have e : (vint x).length - 1 + 1 = (vint x).length := by omega
  rw [e, List.take_left, List.drop_left, val7_vint]

theorem val7_pos : ∀ (l : List Int) (i : Nat), By l → l.findIdx (· < 128) = i → i < l.length → l.getD i 0 ≠ 0 → 0 < val7 (l.take (i + 1))
  | [], i, _, _, hl, _ => by simp at hl
  | c :: cs, i, hb, hi, hl, h0 => by
    have hc := hb.head
    rw [List.findIdx_cons] at hi
    by_cases h : c < 128
    · rw [decide_eq_true h] at hi
      simp at hi
      subst hi
      simp at h0
      simp [val7]
      omega
    · rw [decide_eq_false h] at hi
      simp at hi
      subst hi
      have := val7_pos cs _ hb.tail rfl (by simpa using hl) (by simpa using h0)
      rw [List.take_succ_cons, val7]
      omega
theorem vint_back : ∀ (l : List Int) (i : Nat), By l → l.findIdx (· < 128) = i → i < l.length → (0 < i → l.getD i 0 ≠ 0) → vint (val7 (l.take (i + 1))) = l.take (i + 1)
  | [], i, _, _, hl, _ => by simp at hl
  | c :: cs, i, hb, hi, hl, h0 => by
    have hc := hb.head
    rw [List.findIdx_cons] at hi
    by_cases h : c < 128
    · rw [decide_eq_true h] at hi
      simp at hi
      subst hi
      have e : val7 (List.take (0 + 1) (c :: cs)) = c.toNat := by simp [val7]; omega
      rw [e, vint_small (by omega)]
      simp
      omega
    · rw [decide_eq_false h] at hi
      simp at hi
      subst hi
      have hl' : cs.findIdx (· < 128) < cs.length := by simpa using hl
      have h0' : cs.getD (cs.findIdx (· < 128)) 0 ≠ 0 := by simpa using h0 (by omega)
      have ih := vint_back cs _ hb.tail rfl hl' (fun _ => h0')
      have hp := val7_pos cs _ hb.tail rfl hl' h0'
      rw [List.take_succ_cons, val7]
      rw [vint_big (by omega)]
      have e1 : ((c % 128).toNat + 128 * val7 (cs.take (cs.findIdx (· < 128) + 1))) / 128 = val7 (cs.take (cs.findIdx (· < 128) + 1)) := by omega
      have e2 : ((((c % 128).toNat + 128 * val7 (cs.take (cs.findIdx (· < 128) + 1))) % 128 + 128 : Nat) : Int) = c := by omega
      rw [e1, ih, e2]

/-- What is taken is put as it stood; or nothing is taken. -/
theorem take_cases (l : List Int) (hb : By l) (hl : l.length < 140737488355328) :
    (∃ (x : Nat) (rest : List Int), x < 18446744073709551616 ∧ l = vint x ++ rest ∧ nums_Take.f l = some ((x : Int), rest, true)) ∨
    (nums_Take.f l = some (0, [], false) ∧ ∀ (x : Nat) (rest : List Int), x < 18446744073709551616 → l ≠ vint x ++ rest) := by
  have hf : nums_Take.f l = some (if takeOk l = true then ((val7 (l.take (l.findIdx (· < 128) + 1)) : Int), l.drop (l.findIdx (· < 128) + 1), true) else (0, [], false)) := by
    unfold nums_Take.f
    rw [if_pos ⟨hb, hl⟩]
  by_cases ho : takeOk l = true
  · left
    rw [hf, if_pos ho]
    simp only [takeOk, Bool.and_eq_true, decide_eq_true_eq, Bool.not_eq_true', Bool.and_eq_false_iff, decide_eq_false_iff_not] at ho
    obtain ⟨⟨⟨h1, h2⟩, h3⟩, h4⟩ := ho
    have hback := vint_back l _ hb rfl h1 (fun h => by rcases h3 with h' | h'; exact absurd h h'; exact h')
    refine ⟨_, _, ?_, ?_, rfl⟩
    · have e1 : l.take (l.findIdx (· < 128) + 1) = l.take (l.findIdx (· < 128)) ++ [l.getD (l.findIdx (· < 128)) 0] := by
        rw [List.take_succ_eq_append_getElem h1, List.getD_eq_getElem?_getD, List.getElem?_eq_getElem h1]; rfl
      have hlen : (l.take (l.findIdx (· < 128))).length = l.findIdx (· < 128) := by rw [List.length_take]; omega
      have hlt := val7_lt (l.take (l.findIdx (· < 128)))
      rw [e1, val7_snoc, hlen]
      rw [hlen] at hlt
      generalize l.findIdx (· < 128) = i at *
      have hi9 : i ≤ 9 := by omega
      have e9 : (128 : Nat) ^ 9 * 2 = 18446744073709551616 := by decide
      by_cases hi : i = 9
      · subst hi
        have hm : l.getD 9 0 ∈ l := by rw [List.getD_eq_getElem?_getD, List.getElem?_eq_getElem h1]; exact List.getElem_mem h1
        have hm0 := (hb _ hm).1
        have hd : (l.getD 9 0 % 128).toNat ≤ 1 := by
          rcases h4 with h' | h'
          · exact absurd rfl h'
          · omega
        have : (l.getD 9 0 % 128).toNat * 128 ^ 9 ≤ 1 * 128 ^ 9 := Nat.mul_le_mul hd (Nat.le_refl _)
        omega
      · have hd : (l.getD i 0 % 128).toNat ≤ 127 := by omega
        have : (l.getD i 0 % 128).toNat * 128 ^ i ≤ 127 * 128 ^ i := Nat.mul_le_mul hd (Nat.le_refl _)
        have h8 : (128 : Nat) ^ i ≤ 128 ^ 8 := Nat.pow_le_pow_right (by omega) (by omega)
        have e8 : (128 : Nat) ^ 8 = 72057594037927936 := by decide
        omega
    · rw [hback, List.take_append_drop]
  · right
    rw [hf, if_neg ho]
    refine ⟨rfl, fun x rest hx e => ho ?_⟩
    rw [e]
    exact takeOk_vint x rest hx
theorem vint_append_inj {x y : Nat} {a b : List Int} (hx : x < 18446744073709551616) (hy : y < 18446744073709551616) (h : vint x ++ a = vint y ++ b) : x = y ∧ a = b := by
  have h1 := findIdx_vint x a
  have h2 := findIdx_vint y b
  rw [h] at h1
  have hp := vint_pos x
  have hq := vint_pos y
  have hl : (vint x).length = (vint y).length := by omega
  have h3 := List.append_inj h hl
  exact ⟨vint_inj h3.1, h3.2⟩
end Go.Proofs.YtdppjknfhggpbaaL

end

section
set_option linter.unusedVariables false
namespace Go.Proofs.YtdppjknfhggpbaaL
open Go Go.RowKit Go.Proofs.YtdppjknfhggpbaaG Go.Proofs.YtdppjknfhggpbaaW.PrintWords

theorem toList_data (s : ByteArray) : s.toList = s.data.toList := Lib.toList_data s
theorem ba_ext {s t : ByteArray} (h : s.toList = t.toList) : s = t := by
  rw [toList_data, toList_data] at h
  cases s; cases t
  simpa using h
theorem str_bytes (s : ByteArray) : strOfNums (bytesOf s) = s := by
  refine ba_ext ?_
  rw [toList_data, strOfNums_data, bytesOf, List.map_map, toList_data]
  conv => rhs; rw [← List.map_id s.data.toList]
  refine List.map_congr_left (fun b _ => ?_)
  simp
theorem bytes_str {l : List Int} (h : By l) : bytesOf (strOfNums l) = l := by
  rw [bytesOf, strOfNums_data, List.map_map]
  conv => rhs; rw [← List.map_id l]
  refine List.map_congr_left (fun c hc => ?_)
  have := h c hc
  simp only [Function.comp, UInt8.toNat_ofNat', id]
  omega
theorem bytesOf_by (s : ByteArray) : By (bytesOf s) := by
  intro c hc
  obtain ⟨b, _, rfl⟩ := List.mem_map.1 hc
  have := b.toNat_lt
  omega
end Go.Proofs.YtdppjknfhggpbaaL

end

section
namespace Go.Proofs.Ytdppjknfhggpbaa.P
open Go.RowKit Go.Proofs.YtdppjknfhggpbaaG Go.Proofs.YtdppjknfhggpbaaW.PrintWords Go.Proofs.YtdppjknfhggpbaaW.PrintLast Go.Proofs.YtdppjknfhggpbaaW.PrintMore
attribute [local go_sem] str_gtr str_geq str_leq max2_int min2_int max_two min_two max_three min_three max_four min_four   -- for this text's walks alone
set_option linter.unusedVariables false
set_option linter.unusedSimpArgs false

-- GIVEN: function 16 (frame_Sum)

def ratlinelaw02_Same.f (l0 : List Int) (l1 : List Int) : Option (Bool) := some ((strOfNums l0).toList == (strOfNums l1).toList)
set_option maxHeartbeats 8000000 in
set_option maxRecDepth 100000 in
theorem ratlinelaw02_Same.calls (A0 : Option Addr) (c0 : Nat) (l0 : List Int) (A1 : Option Addr) (c1 : Nat) (l1 : List Int) (r : Bool) (w : World) (hr0 : Kd.C (Kd.int .u8) w A0 l0.length l0) (hc0 : l0.length ≤ c0) (hr1 : Kd.C (Kd.int .u8) w A1 l1.length l1) (hc1 : l1.length ≤ c1) (h : ratlinelaw02_Same.f l0 l1 = some r) :
    Calls Try.prog 18 #[.slice A0 l0.length c0, .slice A1 l1.length c1] w fun e w' => e = .returned (.bool r) ∧ Drawn0 w w' := by
  have HR0 := Aside0.mk hr0
  have HC0 := Aside0.mk hc0
  clear hr0 hc0
  have HR1 := Aside0.mk hr1
  have HC1 := Aside0.mk hc1
  clear hr1 hc1
  have H : (some ((strOfNums l0).toList == (strOfNums l1).toList)) = some r := h
  clear h
  obtain rfl := Option.some.inj H
  have hcv3 := Kd.C_string (P := Try.prog) (A := A0) (c := c0) Try.underlying22 Try.underlying5 Try.underlying9 HR0.out
  have hcvd_ := fun n_ => Kd.C_string (P := Try.prog) (A := A0) (c := c0) Try.underlying22 Try.underlying5 Try.underlying9 (Kd.C_below (HR0.out) (pw_below_drewN (Below.refl _ _) n_))
  (try simp only [List.length_take, Int.toNat_natCast] at hcvd_)
  have hcv4 := Kd.C_string (P := Try.prog) (A := A1) (c := c1) Try.underlying22 Try.underlying5 Try.underlying9 HR1.out
  have hcvd_ := fun n_ => Kd.C_string (P := Try.prog) (A := A1) (c := c1) Try.underlying22 Try.underlying5 Try.underlying9 (Kd.C_below (HR1.out) (pw_below_drewN (Below.refl _ _) n_))
  (try simp only [List.length_take, Int.toNat_natCast] at hcvd_)
  go_enter Try.func18, Try.ntmps18
  go_wp2
  go_ret
  exact ⟨by first | rfl | (simp; done) | (simp [*]; done), by repeat (first | exact Drawn0.refl _ | apply Drawn0.step)⟩

-- GIVEN: function 36 (slices_Clone_byte_byte)

def nums_PutFour.f (l0 : List Int) (a1 : Int) : Option (List Int) := (slices_Clone_byte_byte.f l0).bind fun t101 => ((some (([(a1) % 256, (a1 / 256) % 256, (a1 / 65536) % 256, (a1 / 16777216) % 256] : List Int) : List Int)).bind fun y104 => (if t101.length + y104.length < 140737488355328 then (some (t101 ++ y104)) else (none)))
set_option maxHeartbeats 8000000 in
set_option maxRecDepth 100000 in
theorem nums_PutFour.calls (A0 : Option Addr) (c0 : Nat) (l0 : List Int) (a1 : Int) (r : List Int) (w : World) (hr0 : Kd.C (Kd.int .u8) w A0 l0.length l0) (hc0 : l0.length ≤ c0) (h : nums_PutFour.f l0 a1 = some r) :
    Calls Try.prog 33 #[.slice A0 l0.length c0, .int .u32 a1] w fun e w' => ∃ v0_ : Value, e = .returned (v0_) ∧ Kd.R (Kd.int .u8) 5 w' w.heap.size (fun _ => True) v0_ r ∧ Below w.heap.size w w' := by
  have HR0 := Aside0.mk hr0
  have HC0 := Aside0.mk hc0
  clear hr0 hc0
  have HB := Aside0.mk (Below.refl w.heap.size w)
  have H : ((slices_Clone_byte_byte.f l0).bind fun t101 => ((some (([(a1) % 256, (a1 / 256) % 256, (a1 / 65536) % 256, (a1 / 16777216) % 256] : List Int) : List Int)).bind fun y104 => (if t101.length + y104.length < 140737488355328 then (some (t101 ++ y104)) else (none)))) = some r := h
  clear h
  replace H := Option.bind_eq_some_iff.mp H
  obtain ⟨t101, A30, H⟩ := H
  replace H : ((some (([(a1) % 256, (a1 / 256) % 256, (a1 / 65536) % 256, (a1 / 16777216) % 256] : List Int) : List Int)).bind fun y104 => (if t101.length + y104.length < 140737488355328 then (some (t101 ++ y104)) else (none))) = some r := H
  have A3 := Aside0.mk A30
  clear A30
  obtain ⟨y104, hy104⟩ : ∃ y_ : List Int, y_ = (([(a1) % 256, (a1 / 256) % 256, (a1 / 65536) % 256, (a1 / 16777216) % 256] : List Int)) := ⟨_, rfl⟩
  replace H : (if t101.length + y104.length < 140737488355328 then (some (t101 ++ y104)) else (none)) = some r := by first | (rw [hy104]; with_reducible exact H) | (have H2_ := (Option.bind_some _ _).symm.trans H; rw [hy104]; with_reducible exact H2_) | (have H2_ := (Option.bind_some _ _).symm.trans H; with_reducible exact H2_) | with_reducible exact H | (rw [hy104]; exact H) | exact H
  have Ny104 := Aside0.mk hy104
  clear hy104
  by_cases c4 : t101.length + y104.length < 140737488355328
  · rw [if_pos c4] at H
    have LMc4 := Aside0.mk c4
    clear c4
    obtain ⟨y107, hy107⟩ : ∃ y_ : List Int, y_ = (t101 ++ y104) := ⟨_, rfl⟩
    replace H : (some y107) = some r := by first | (rw [hy107]; with_reducible exact H) | (have H2_ := (Option.bind_some _ _).symm.trans H; rw [hy107]; with_reducible exact H2_) | (have H2_ := (Option.bind_some _ _).symm.trans H; with_reducible exact H2_) | with_reducible exact H | (rw [hy107]; exact H) | exact H
    have Ny107 := Aside0.mk hy107
    clear hy107
    obtain rfl := Option.some.inj H
    go_enter Try.func33, Try.ntmps33
    go_wp2_with (first | ((with_reducible refine gate_callee (f := 36) rfl ?_); refine goesL_ (some 6) rfl rfl Try.func36 (by kernel_rfl) rfl #[.slice A0 l0.length c0] rfl (by (try simp only [List.map_toArray, List.map_cons, List.map_nil]); first | done | rfl | (simp only [List.length_drop, List.length_take]; rfl)) ?_; (with_reducible refine (slices_Clone_byte_byte.calls _ _ l0 t101 _ ?side1 ?side2 A3.out).mono ?_); (case side1 => repeat (first | exact HR0.out | (with_reducible refine Kd.C_alloc ?_ _) | (with_reducible refine Kd.C_drewN ?_ _) | (with_reducible refine Kd.C_drew ?_))); (case side2 => exact HC0.out); rintro e w5 ⟨v102, rfl, ho0, hb⟩; refine ⟨_, rfl, ?_⟩; have n0_ := Aside0.mk (Kd.R_lower ho0 (below_size (by repeat (first | (with_reducible first | exact HB.out | apply below_alloc | apply pw_below_drewN | apply below_drew1) | exact HB.out)))); have n1_ := Aside0.mk (below_step (by repeat (first | (with_reducible first | exact HB.out | apply below_alloc | apply pw_below_drewN | apply below_drew1) | exact HB.out)) hb); clear HB; have HO103 := n0_; have HB := n1_; clear n0_ n1_; (try clear hb); (try clear hb2); (try clear hk); (try clear hi); (try clear ho0)) | ((with_reducible refine gate_dst (N := 18) rfl ?_); refine Kd.R_lit (Kd.int .u8) _ 5 ?hg (N := 18) ?hd (xs := ([(a1) % 256, (a1 / 256) % 256, (a1 / 65536) % 256, (a1 / 16777216) % 256] : List Int)) (inner := [.int .u8 ((a1) % 256), .int .u8 ((a1 / 256) % 256), .int .u8 ((a1 / 65536) % 256), .int .u8 ((a1 / 16777216) % 256)]) (ok := fun _ => True) (okp := fun _ => True) ?hr ?hp (fun _ hk => hk) trivial (Below.refl _ _) (Nat.le_refl _) (by simp) ?_; (case hd => rfl); (case hg => rfl); (case hr => first | (go_simp; done) | (go_simp; rfl)); (case hp => exact (Reps.one (show Kd.M (Kd.int .u8) _ _ _ ((a1) % 256) [.int .u8 ((a1) % 256)] from rfl) (Reps.one (show Kd.M (Kd.int .u8) _ _ _ ((a1 / 256) % 256) [.int .u8 ((a1 / 256) % 256)] from rfl) (Reps.one (show Kd.M (Kd.int .u8) _ _ _ ((a1 / 65536) % 256) [.int .u8 ((a1 / 65536) % 256)] from rfl) (Reps.one (show Kd.M (Kd.int .u8) _ _ _ ((a1 / 16777216) % 256) [.int .u8 ((a1 / 16777216) % 256)] from rfl) (Reps.none _ _)))))); intro v105 w6 ho7 hb hg_ hnew_; clear hg_ hnew_; (first | rw [← Ny104.out] at ho7 | (simp only [Int.reduceToNat] at ho7; rw [← Ny104.out] at ho7)); have n0_ := Aside0.mk (Kd.R_elder' (by (with_reducible repeat (first | apply Kd.R_alloc | apply Kd.R_drewN | apply Kd.R_drew)); exact HO103.out) (Kd.R_base ho7) hb); have n1_ := Aside0.mk (Kd.R_lower (Kd.R_new' ho7 (Kd.R_lt (by (with_reducible repeat (first | apply Kd.R_alloc | apply Kd.R_drewN | apply Kd.R_drew)); exact HO103.out))) (below_size (by repeat (first | (with_reducible first | exact HB.out | apply below_alloc | apply pw_below_drewN | apply below_drew1) | exact HB.out)))); have n2_ := Aside0.mk (below_step (by repeat (first | (with_reducible first | exact HB.out | apply below_alloc | apply pw_below_drewN | apply below_drew1) | exact HB.out)) hb); clear HO103; clear HB; have HO103 := n0_; have HO106 := n1_; have HB := n2_; clear n0_ n1_ n2_; clear hb ho7; obtain ⟨Ao9, co9, eo9⟩ := Kd.R_slice HO106.out; subst eo9) | ((with_reducible refine gate_builtin (b := .append) (xs := #[.tmp 6, .tmp 18]) rfl ?_); at_builtin; refine Kd.R_append_rows (Kd.int .u8) (w0 := w) w.heap.size rfl (.tmp 6) (.tmp 18) 22 5 (.int .u8 0) 1 rfl Try.underlying22 info5 rfl (by decide) (by omega) v102 t101 y104 _ _ _ (fun k_ => some k_ ≠ (.slice Ao9 y104.length co9 : Value).ownBlock) (fun _ => False) rfl rfl ?aO ?aR (fun _ _ h => h) (fun _ h => h.elim) ?aF ?aB ?aS ?aL ?_; (case aR => repeat (first | exact (Kd.R_reads' HO106.out).2.2 | (with_reducible refine Kd.C_alloc ?_ _) | (with_reducible refine Kd.C_drewN ?_ _) | (with_reducible refine Kd.C_drew ?_))); (case aB => exact (by repeat (first | (with_reducible first | exact HB.out | apply below_alloc | apply pw_below_drewN | apply below_drew1) | exact HB.out))); (case aF => exact (fun k_ hk => Kd.fresh' (Kd.R_lt (by (with_reducible repeat (first | apply Kd.R_alloc | apply Kd.R_drewN | apply Kd.R_drew)); exact HO106.out)) k_ hk)); (case aO => exact (by (with_reducible repeat (first | apply Kd.R_alloc | apply Kd.R_drewN | apply Kd.R_drew)); exact Kd.R_mono HO103.out (fun _ hk => hk.2))); (case aS => exact (below_size (by repeat (first | (with_reducible first | exact HB.out | apply below_alloc | apply pw_below_drewN | apply below_drew1) | exact HB.out)))); (case aL => have := LMc4.out; omega); intro v108 w8 ho hb hg hat; rw [← Ny107.out] at ho; have n0_ := Aside0.mk (Kd.R_after (ok := (fun _ => True)) (by (with_reducible repeat (first | apply Kd.R_alloc | apply Kd.R_drewN | apply Kd.R_drew)); exact HO106.out) hg hat); have n1_ := Aside0.mk (hb); have n2_ := Aside0.mk (ho); clear HO106; clear HB; clear HO103; have HO106 := n0_; have HB := n1_; have HO109 := n2_; clear n0_ n1_ n2_; clear ho hb hg hat))
    go_ret
    exact ⟨_, by first | rfl | (simp [errW_none, errW_some] <;> rfl) | (simp [*, errW_none, errW_some] <;> rfl), by (with_reducible repeat (first | apply Kd.R_alloc | apply Kd.R_drewN | apply Kd.R_drew)); exact Kd.R_mono HO109.out (fun _ hk => trivial), by repeat (first | (with_reducible first | exact HB.out | apply below_alloc | apply pw_below_drewN | apply below_drew1) | exact HB.out)⟩
  · rw [if_neg c4] at H
    exact absurd H (by simp)

def frame_Seal.f (l0 : List Int) : Option (List Int) := if (l0.length : Int) > 1048576 then (some ([] : List Int)) else ((nums_PutFour.f ([] : List Int) (((l0.length : Int)) % 4294967296)).bind fun t110 => (if t110.length + l0.length < 140737488355328 then ((some (t110 ++ l0 : List Int)).bind fun y113 => ((frame_Sum.f y113).bind fun t116 => ((nums_PutFour.f y113 t116).bind fun t117 => (some t117)))) else (none)))
end Go.Proofs.Ytdppjknfhggpbaa.P

end

section
namespace Go.Proofs.Ytdppjknfhggpbaa.P
open Go.RowKit Go.Proofs.YtdppjknfhggpbaaG Go.Proofs.YtdppjknfhggpbaaW.PrintWords Go.Proofs.YtdppjknfhggpbaaW.PrintLast Go.Proofs.YtdppjknfhggpbaaW.PrintMore
attribute [local go_sem] str_gtr str_geq str_leq max2_int min2_int max_two min_two max_three min_three max_four min_four   -- for this text's walks alone
set_option linter.unusedVariables false
set_option linter.unusedSimpArgs false

-- NOT PRINTED: function 8 (ratlinelaw05_FrameApart)

-- GIVEN: function 22 (nums_Put)

-- GIVEN: function 23 (nums_Take)

def nums_PutText.f (l0 : List Int) (a1 : ByteArray) : Option (List Int) := (nums_Put.f l0 (IntKind.u64.wrap ((a1.size : Int)))).bind fun t245 => (if t245.length + a1.size < 140737488355328 then (some (t245 ++ bytesOf a1)) else (none))
set_option maxHeartbeats 8000000 in
set_option maxRecDepth 100000 in
theorem nums_PutText.calls (A0 : Option Addr) (c0 : Nat) (l0 : List Int) (a1 : ByteArray) (r : List Int) (w : World) (hr0 : Kd.C (Kd.int .u8) w A0 l0.length l0) (hc0 : l0.length ≤ c0) (h : nums_PutText.f l0 a1 = some r) :
    Calls Try.prog 25 #[.slice A0 l0.length c0, .string a1] w fun e w' => ∃ v0_ : Value, e = .returned (v0_) ∧ Kd.R (Kd.int .u8) 5 w' w.heap.size (fun _ => True) v0_ r ∧ Below w.heap.size w w' := by
  have HR0 := Aside0.mk hr0
  have HC0 := Aside0.mk hc0
  clear hr0 hc0
  have HB := Aside0.mk (Below.refl w.heap.size w)
  have H : ((nums_Put.f l0 (IntKind.u64.wrap ((a1.size : Int)))).bind fun t245 => (if t245.length + a1.size < 140737488355328 then (some (t245 ++ bytesOf a1)) else (none))) = some r := h
  clear h
  replace H := Option.bind_eq_some_iff.mp H
  obtain ⟨t245, A30, H⟩ := H
  replace H : (if t245.length + a1.size < 140737488355328 then (some (t245 ++ bytesOf a1)) else (none)) = some r := H
  have A3 := Aside0.mk A30
  clear A30
  by_cases c4 : t245.length + a1.size < 140737488355328
  · rw [if_pos c4] at H
    have LMc4 := Aside0.mk c4
    clear c4
    obtain ⟨y248, hy248⟩ : ∃ y_ : List Int, y_ = (t245 ++ bytesOf a1) := ⟨_, rfl⟩
    replace H : (some y248) = some r := by first | (rw [hy248]; with_reducible exact H) | (have H2_ := (Option.bind_some _ _).symm.trans H; rw [hy248]; with_reducible exact H2_) | (have H2_ := (Option.bind_some _ _).symm.trans H; with_reducible exact H2_) | with_reducible exact H | (rw [hy248]; exact H) | exact H
    have Ny248 := Aside0.mk hy248
    clear hy248
    obtain rfl := Option.some.inj H
    go_enter Try.func25, Try.ntmps25
    go_wp2_with (first | ((with_reducible refine gate_callee (f := 22) rfl ?_); refine goesL_ (some 9) rfl rfl Try.func22 (by kernel_rfl) rfl #[.slice A0 l0.length c0, .int .u64 (IntKind.u64.wrap ((a1.size : Int)))] rfl (by (try simp only [List.map_toArray, List.map_cons, List.map_nil]); first | done | rfl | (simp only [List.length_drop, List.length_take]; rfl)) ?_; (with_reducible refine (nums_Put.calls _ _ l0 (IntKind.u64.wrap ((a1.size : Int))) t245 _ ?side1 ?side2 A3.out).mono ?_); (case side1 => repeat (first | exact HR0.out | (with_reducible refine Kd.C_alloc ?_ _) | (with_reducible refine Kd.C_drewN ?_ _) | (with_reducible refine Kd.C_drew ?_))); (case side2 => exact HC0.out); rintro e w5 ⟨v246, rfl, ho0, hb⟩; refine ⟨_, rfl, ?_⟩; have n0_ := Aside0.mk (Kd.R_lower ho0 (below_size (by repeat (first | (with_reducible first | exact HB.out | apply below_alloc | apply pw_below_drewN | apply below_drew1) | exact HB.out)))); have n1_ := Aside0.mk (below_step (by repeat (first | (with_reducible first | exact HB.out | apply below_alloc | apply pw_below_drewN | apply below_drew1) | exact HB.out)) hb); clear HB; have HO247 := n0_; have HB := n1_; clear n0_ n1_; (try clear hb); (try clear hb2); (try clear hk); (try clear hi); (try clear ho0)) | (at_builtin; refine print_append_str (w0 := w) w.heap.size rfl (.tmp 9) _ 22 9 5 rfl Try.underlying22 Try.underlying9 info5 v246 t245 a1 rfl rfl ?aO ?aB ?aS ?aL ?_; (case aB => exact (by repeat (first | (with_reducible first | exact HB.out | apply below_alloc | apply pw_below_drewN | apply below_drew1) | exact HB.out))); (case aO => exact (Kd.own_of_R (by (with_reducible repeat (first | apply Kd.R_alloc | apply Kd.R_drewN | apply Kd.R_drew)); exact HO247.out))); (case aS => exact (below_size (by repeat (first | (with_reducible first | exact HB.out | apply below_alloc | apply pw_below_drewN | apply below_drew1) | exact HB.out)))); (case aL => have := LMc4.out; omega); intro v249 w6 ho0 hb hg; have ho := Kd.R_of_own (h1 := fun _ => rfl) (ok := fun _ => True) ho0 (fun _ _ => trivial); clear ho0; have hat := True.intro; rw [← Ny248.out] at ho; change Kd.R (Kd.int .u8) 5 w6 w.heap.size (fun _ => True) v249 y248 at ho; have n0_ := Aside0.mk (hb); have n1_ := Aside0.mk (ho); clear HB; clear HO247; have HB := n0_; have HO250 := n1_; clear n0_ n1_; clear ho hb hg hat))
    go_ret
    exact ⟨_, by first | rfl | (simp [errW_none, errW_some] <;> rfl) | (simp [*, errW_none, errW_some] <;> rfl), by (with_reducible repeat (first | apply Kd.R_alloc | apply Kd.R_drewN | apply Kd.R_drew)); exact HO250.out, by repeat (first | (with_reducible first | exact HB.out | apply below_alloc | apply pw_below_drewN | apply below_drew1) | exact HB.out)⟩
  · rw [if_neg c4] at H
    exact absurd H (by simp)

end Go.Proofs.Ytdppjknfhggpbaa.P

end

section
namespace Go.Proofs.Ytdppjknfhggpbaa.P
open Go.RowKit Go.Proofs.YtdppjknfhggpbaaG Go.Proofs.YtdppjknfhggpbaaW.PrintWords Go.Proofs.YtdppjknfhggpbaaW.PrintLast Go.Proofs.YtdppjknfhggpbaaW.PrintMore
attribute [local go_sem] str_gtr str_geq str_leq max2_int min2_int max_two min_two max_three min_three max_four min_four   -- for this text's walks alone
set_option linter.unusedVariables false
set_option linter.unusedSimpArgs false

def nums_TakeText.f (l0 : List Int) (a1 : Int) : Option (ByteArray × List Int × Bool) := (nums_Take.f l0).bind fun bt251 => (if bt251.2.2 = true then (if bt251.1 > (IntKind.u64.wrap (mx a1 0)) then (some ((⟨#[]⟩ : ByteArray), ([] : List Int), false)) else (if a1 < 0 then (some ((⟨#[]⟩ : ByteArray), ([] : List Int), false)) else (if bt251.1 > (IntKind.u64.wrap ((bt251.2.1.length : Int))) then (some ((⟨#[]⟩ : ByteArray), ([] : List Int), false)) else (if 0 ≤ bt251.1 then (if bt251.1 ≤ (bt251.2.1.length : Int) then ((slices_Clone_byte_byte.f (bt251.2.1.drop (bt251.1 : Int).toNat)).bind fun t264 => (some (strOfNums (bt251.2.1.take (bt251.1 : Int).toNat), t264, true))) else (none)) else (none))))) else (some ((⟨#[]⟩ : ByteArray), ([] : List Int), false)))
def nums_TakeText.T4 : Bool × List (List Nat × List Nat) := (true, [([], []), ([], []), ([0, 1], [0, 1]), ([2], [2]), ([], []), ([], []), ([4, 5], [4, 5]), ([6], [6]), ([3, 7, 0, 1, 2, 3], [3]), ([7, 8, 0, 1, 2, 3, 4, 5, 6, 7, 8], [7]), ([9, 0, 1, 2, 3, 4, 5, 6, 7, 8, 9], [])])
def nums_TakeText.B4 : List Nat := [0, 0, 3, 7, 0, 0, 48, 112, 255, 511, 1023]
theorem nums_TakeText.tab4 : rtab .any (opsOf Try.f26 4) = nums_TakeText.T4 := by kernel_rfl
theorem nums_TakeText.bits4 : waitsOk nums_TakeText.T4.2 nums_TakeText.B4 = true := by kernel_rfl
set_option maxHeartbeats 8000000 in
set_option maxRecDepth 100000 in
theorem nums_TakeText.calls (A0 : Option Addr) (c0 : Nat) (l0 : List Int) (a1 : Int) (r1 : ByteArray) (r2 : List Int) (r3 : Bool) (w : World) (hr0 : Kd.C (Kd.int .u8) w A0 l0.length l0) (hc0 : l0.length ≤ c0) (h : nums_TakeText.f l0 a1 = some (r1, r2, r3)) :
    Calls Try.prog 26 #[.slice A0 l0.length c0, .int .i64 a1] w fun e w' => ∃ v1_ : Value, e = .returned (.tuple #[.string r1, v1_, .bool r3]) ∧ Kd.R (Kd.int .u8) 5 w' w.heap.size (fun _ => True) v1_ r2 ∧ Below w.heap.size w w' := by
  have HR0 := Aside0.mk hr0
  have HC0 := Aside0.mk hc0
  clear hr0 hc0
  have HB := Aside0.mk (Below.refl w.heap.size w)
  have H : ((nums_Take.f l0).bind fun bt251 => (if bt251.2.2 = true then (if bt251.1 > (IntKind.u64.wrap (mx a1 0)) then (some ((⟨#[]⟩ : ByteArray), ([] : List Int), false)) else (if a1 < 0 then (some ((⟨#[]⟩ : ByteArray), ([] : List Int), false)) else (if bt251.1 > (IntKind.u64.wrap ((bt251.2.1.length : Int))) then (some ((⟨#[]⟩ : ByteArray), ([] : List Int), false)) else (if 0 ≤ bt251.1 then (if bt251.1 ≤ (bt251.2.1.length : Int) then ((slices_Clone_byte_byte.f (bt251.2.1.drop (bt251.1 : Int).toNat)).bind fun t264 => (some (strOfNums (bt251.2.1.take (bt251.1 : Int).toNat), t264, true))) else (none)) else (none))))) else (some ((⟨#[]⟩ : ByteArray), ([] : List Int), false)))) = some (r1, r2, r3) := h
  clear h
  replace H := Option.bind_eq_some_iff.mp H
  obtain ⟨⟨t251, t252, t253⟩, A30, H⟩ := H
  replace H : (if t253 = true then (if t251 > (IntKind.u64.wrap (mx a1 0)) then (some ((⟨#[]⟩ : ByteArray), ([] : List Int), false)) else (if a1 < 0 then (some ((⟨#[]⟩ : ByteArray), ([] : List Int), false)) else (if t251 > (IntKind.u64.wrap ((t252.length : Int))) then (some ((⟨#[]⟩ : ByteArray), ([] : List Int), false)) else (if 0 ≤ t251 then (if t251 ≤ (t252.length : Int) then ((slices_Clone_byte_byte.f (t252.drop (t251 : Int).toNat)).bind fun t264 => (some (strOfNums (t252.take (t251 : Int).toNat), t264, true))) else (none)) else (none))))) else (some ((⟨#[]⟩ : ByteArray), ([] : List Int), false))) = some (r1, r2, r3) := H
  have A3 := Aside0.mk A30
  clear A30
  by_cases c4 : t253 = true
  · subst c4
    have H1 : (if t251 > (IntKind.u64.wrap (mx a1 0)) then (some ((⟨#[]⟩ : ByteArray), ([] : List Int), false)) else (if a1 < 0 then (some ((⟨#[]⟩ : ByteArray), ([] : List Int), false)) else (if t251 > (IntKind.u64.wrap ((t252.length : Int))) then (some ((⟨#[]⟩ : ByteArray), ([] : List Int), false)) else (if 0 ≤ t251 then (if t251 ≤ (t252.length : Int) then ((slices_Clone_byte_byte.f (t252.drop (t251 : Int).toNat)).bind fun t264 => (some (strOfNums (t252.take (t251 : Int).toNat), t264, true))) else (none)) else (none))))) = some (r1, r2, r3) := by rw [if_pos rfl] at H; exact H
    clear H
    have H := H1
    clear H1
    obtain ⟨ji5, hji5⟩ : ∃ j_ : Int, (mx a1 0) = j_ := ⟨_, rfl⟩
    replace H : (if t251 > (IntKind.u64.wrap (ji5)) then (some ((⟨#[]⟩ : ByteArray), ([] : List Int), false)) else (if a1 < 0 then (some ((⟨#[]⟩ : ByteArray), ([] : List Int), false)) else (if t251 > (IntKind.u64.wrap ((t252.length : Int))) then (some ((⟨#[]⟩ : ByteArray), ([] : List Int), false)) else (if 0 ≤ t251 then (if t251 ≤ (t252.length : Int) then ((slices_Clone_byte_byte.f (t252.drop (t251 : Int).toNat)).bind fun t264 => (some (strOfNums (t252.take (t251 : Int).toNat), t264, true))) else (none)) else (none))))) = some (r1, r2, r3) := by first | (rw [hji5] at H; exact H) | (simp only [hji5] at H ⊢; exact H)
    (try rw [hji5] at A3)
    (try (have hji5l : 0 ≤ ji5 := by (rw [← hji5]; unfold mx; (repeat' split) <;> omega)))
    (try (have hji5m : 0 ≤ ji5 := by omega))
    have hji5_ : (if a1 < 0 then 0 else a1) = ji5 := hji5
    by_cases c6 : t251 > (IntKind.u64.wrap (ji5))
    · rw [if_pos c6] at H
      have c6b0 : decide ((IntKind.u64.wrap (ji5)) < t251) = true := decide_eq_true c6
      clear c6
      simp only [Option.some.injEq, Prod.mk.injEq] at H
      obtain ⟨rfl, rfl, rfl⟩ := H
      go_enter Try.func26, Try.ntmps26
      go_wp2_with (first | ((with_reducible refine gate_callee (f := 23) rfl ?_); refine goesL_ (some 12) rfl rfl Try.func23 (by kernel_rfl) rfl #[.slice A0 l0.length c0] rfl (by (try simp only [List.map_toArray, List.map_cons, List.map_nil]); first | done | rfl | (simp only [List.length_drop, List.length_take]; rfl)) ?_; (with_reducible refine (nums_Take.calls _ _ l0 t251 t252 true _ ?side1 ?side2 A3.out).mono ?_); (case side1 => repeat (first | exact HR0.out | (with_reducible refine Kd.C_alloc ?_ _) | (with_reducible refine Kd.C_drewN ?_ _) | (with_reducible refine Kd.C_drew ?_))); (case side2 => exact HC0.out); rintro e w7 ⟨v254, rfl, ho0, hb⟩; refine ⟨_, rfl, ?_⟩; have n0_ := Aside0.mk (Kd.R_lower ho0 (below_size (by repeat (first | (with_reducible first | exact HB.out | apply below_alloc | apply pw_below_drewN | apply below_drew1) | exact HB.out)))); have n1_ := Aside0.mk (below_step (by repeat (first | (with_reducible first | exact HB.out | apply below_alloc | apply pw_below_drewN | apply below_drew1) | exact HB.out)) hb); clear HB; have HO255 := n0_; have HB := n1_; clear n0_ n1_; (try clear hb); (try clear hb2); (try clear hk); (try clear hi); (try clear ho0)))
      go_ret3
      exact ⟨_, by first | rfl | (simp [errW_none, errW_some] <;> rfl) | (simp only [← hji5]; first | rfl | (simp [errW_none, errW_some] <;> rfl)) | (simp [*, errW_none, errW_some] <;> rfl), by first | exact Kd.R_nil _ _ _ _ _ | exact Kd.N_nil _ _ _ _ _ | exact Kd.V_nil _ _ _ _ _ | exact Kd.Q_nil _ _ _ _ _ | exact Kd.S_nil _ _ _ _ _, by repeat (first | (with_reducible first | exact HB.out | apply below_alloc | apply pw_below_drewN | apply below_drew1) | exact HB.out)⟩
    · rw [if_neg c6] at H
      have c6b0 : decide ((IntKind.u64.wrap (ji5)) < t251) = false := decide_eq_false c6
      clear c6
      by_cases c8 : a1 < 0
      · rw [if_pos c8] at H
        have c8b0 : decide (a1 < 0) = true := decide_eq_true c8
        clear c8
        simp only [Option.some.injEq, Prod.mk.injEq] at H
        obtain ⟨rfl, rfl, rfl⟩ := H
        go_enter Try.func26, Try.ntmps26
        go_wp2_with (first | ((with_reducible refine gate_callee (f := 23) rfl ?_); refine goesL_ (some 12) rfl rfl Try.func23 (by kernel_rfl) rfl #[.slice A0 l0.length c0] rfl (by (try simp only [List.map_toArray, List.map_cons, List.map_nil]); first | done | rfl | (simp only [List.length_drop, List.length_take]; rfl)) ?_; (with_reducible refine (nums_Take.calls _ _ l0 t251 t252 true _ ?side1 ?side2 A3.out).mono ?_); (case side1 => repeat (first | exact HR0.out | (with_reducible refine Kd.C_alloc ?_ _) | (with_reducible refine Kd.C_drewN ?_ _) | (with_reducible refine Kd.C_drew ?_))); (case side2 => exact HC0.out); rintro e w9 ⟨v254, rfl, ho0, hb⟩; refine ⟨_, rfl, ?_⟩; have n0_ := Aside0.mk (Kd.R_lower ho0 (below_size (by repeat (first | (with_reducible first | exact HB.out | apply below_alloc | apply pw_below_drewN | apply below_drew1) | exact HB.out)))); have n1_ := Aside0.mk (below_step (by repeat (first | (with_reducible first | exact HB.out | apply below_alloc | apply pw_below_drewN | apply below_drew1) | exact HB.out)) hb); clear HB; have HO255 := n0_; have HB := n1_; clear n0_ n1_; (try clear hb); (try clear hb2); (try clear hk); (try clear hi); (try clear ho0)))
        go_ret3
        exact ⟨_, by first | rfl | (simp [errW_none, errW_some] <;> rfl) | (simp only [← hji5]; first | rfl | (simp [errW_none, errW_some] <;> rfl)) | (simp [*, errW_none, errW_some] <;> rfl), by first | exact Kd.R_nil _ _ _ _ _ | exact Kd.N_nil _ _ _ _ _ | exact Kd.V_nil _ _ _ _ _ | exact Kd.Q_nil _ _ _ _ _ | exact Kd.S_nil _ _ _ _ _, by repeat (first | (with_reducible first | exact HB.out | apply below_alloc | apply pw_below_drewN | apply below_drew1) | exact HB.out)⟩
      · rw [if_neg c8] at H
        have c8b0 : decide (a1 < 0) = false := decide_eq_false c8
        clear c8
        by_cases c10 : t251 > (IntKind.u64.wrap ((t252.length : Int)))
        · rw [if_pos c10] at H
          have c10b0 : decide ((IntKind.u64.wrap ((t252.length : Int))) < t251) = true := decide_eq_true c10
          clear c10
          simp only [Option.some.injEq, Prod.mk.injEq] at H
          obtain ⟨rfl, rfl, rfl⟩ := H
          go_enter Try.func26, Try.ntmps26
          go_wp2_with (first | ((with_reducible refine gate_callee (f := 23) rfl ?_); refine goesL_ (some 12) rfl rfl Try.func23 (by kernel_rfl) rfl #[.slice A0 l0.length c0] rfl (by (try simp only [List.map_toArray, List.map_cons, List.map_nil]); first | done | rfl | (simp only [List.length_drop, List.length_take]; rfl)) ?_; (with_reducible refine (nums_Take.calls _ _ l0 t251 t252 true _ ?side1 ?side2 A3.out).mono ?_); (case side1 => repeat (first | exact HR0.out | (with_reducible refine Kd.C_alloc ?_ _) | (with_reducible refine Kd.C_drewN ?_ _) | (with_reducible refine Kd.C_drew ?_))); (case side2 => exact HC0.out); rintro e w11 ⟨v254, rfl, ho0, hb⟩; refine ⟨_, rfl, ?_⟩; have n0_ := Aside0.mk (Kd.R_lower ho0 (below_size (by repeat (first | (with_reducible first | exact HB.out | apply below_alloc | apply pw_below_drewN | apply below_drew1) | exact HB.out)))); have n1_ := Aside0.mk (below_step (by repeat (first | (with_reducible first | exact HB.out | apply below_alloc | apply pw_below_drewN | apply below_drew1) | exact HB.out)) hb); clear HB; have HO255 := n0_; have HB := n1_; clear n0_ n1_; (try clear hb); (try clear hb2); (try clear hk); (try clear hi); (try clear ho0); obtain ⟨Ao12, co12, eo12⟩ := Kd.R_slice HO255.out; subst eo12))
          go_ret3
          exact ⟨_, by first | rfl | (simp [errW_none, errW_some] <;> rfl) | (simp only [← hji5]; first | rfl | (simp [errW_none, errW_some] <;> rfl)) | (simp [*, errW_none, errW_some] <;> rfl), by first | exact Kd.R_nil _ _ _ _ _ | exact Kd.N_nil _ _ _ _ _ | exact Kd.V_nil _ _ _ _ _ | exact Kd.Q_nil _ _ _ _ _ | exact Kd.S_nil _ _ _ _ _, by repeat (first | (with_reducible first | exact HB.out | apply below_alloc | apply pw_below_drewN | apply below_drew1) | exact HB.out)⟩
        · rw [if_neg c10] at H
          have c10b0 : decide ((IntKind.u64.wrap ((t252.length : Int))) < t251) = false := decide_eq_false c10
          clear c10
          by_cases c13 : 0 ≤ t251
          · rw [if_pos c13] at H
            have c13b0 := eq_true c13
            have c13b1 : decide (0 ≤ t251) = true := decide_eq_true c13
            clear c13
            by_cases c14 : t251 ≤ (t252.length : Int)
            · rw [if_pos c14] at H
              have c14b0 := eq_true c14
              have c14b1 : decide (t251 ≤ (t252.length : Int)) = true := decide_eq_true c14
              clear c14
              obtain ⟨y256, hy256⟩ : ∃ y_ : List Int, y_ = (t252.take (t251 : Int).toNat) := ⟨_, rfl⟩
              replace H : ((slices_Clone_byte_byte.f (t252.drop (t251 : Int).toNat)).bind fun t264 => (some (strOfNums y256, t264, true))) = some (r1, r2, r3) := by first | (rw [hy256]; with_reducible exact H) | (have H2_ := (Option.bind_some _ _).symm.trans H; rw [hy256]; with_reducible exact H2_) | (have H2_ := (Option.bind_some _ _).symm.trans H; with_reducible exact H2_) | with_reducible exact H | (rw [hy256]; exact H) | exact H
              have Ny256 := Aside0.mk hy256
              clear hy256
              have c15b0 := eq_true (of_decide_eq_true (by first | (with_reducible assumption) | assumption) : 0 ≤ t251)
              have c16b0 := eq_true (of_decide_eq_true (by first | (with_reducible assumption) | assumption) : t251 ≤ (t252.length : Int))
              obtain ⟨y260, hy260⟩ : ∃ y_ : List Int, y_ = (t252.drop (t251 : Int).toNat) := ⟨_, rfl⟩
              replace H : ((slices_Clone_byte_byte.f y260).bind fun t264 => (some (strOfNums y256, t264, true))) = some (r1, r2, r3) := by first | (rw [hy260]; with_reducible exact H) | (have H2_ := (Option.bind_some _ _).symm.trans H; rw [hy260]; with_reducible exact H2_) | (have H2_ := (Option.bind_some _ _).symm.trans H; with_reducible exact H2_) | with_reducible exact H | (rw [hy260]; exact H) | exact H
              have Ny260 := Aside0.mk hy260
              clear hy260
              replace H := Option.bind_eq_some_iff.mp H
              obtain ⟨t264, A170, H⟩ := H
              replace H : (some (strOfNums y256, t264, true)) = some (r1, r2, r3) := H
              have A17 := Aside0.mk A170
              clear A170
              simp only [Option.some.injEq, Prod.mk.injEq] at H
              obtain ⟨rfl, rfl, rfl⟩ := H
              go_enter Try.func26, Try.ntmps26
              try go_wp2_with (first | ((with_reducible refine gate_callee (f := 23) rfl ?_); refine goesL_ (some 12) rfl rfl Try.func23 (by kernel_rfl) rfl #[.slice A0 l0.length c0] rfl (by (try simp only [List.map_toArray, List.map_cons, List.map_nil]); first | done | rfl | (simp only [List.length_drop, List.length_take]; rfl)) ?_; (with_reducible refine (nums_Take.calls _ _ l0 t251 t252 true _ ?side1 ?side2 A3.out).mono ?_); (case side1 => repeat (first | exact HR0.out | (with_reducible refine Kd.C_alloc ?_ _) | (with_reducible refine Kd.C_drewN ?_ _) | (with_reducible refine Kd.C_drew ?_))); (case side2 => exact HC0.out); rintro e w18 ⟨v254, rfl, ho0, hb⟩; refine ⟨_, rfl, ?_⟩; have n0_ := Aside0.mk (Kd.R_lower ho0 (below_size (by repeat (first | (with_reducible first | exact HB.out | apply below_alloc | apply pw_below_drewN | apply below_drew1) | exact HB.out)))); have n1_ := Aside0.mk (below_step (by repeat (first | (with_reducible first | exact HB.out | apply below_alloc | apply pw_below_drewN | apply below_drew1) | exact HB.out)) hb); clear HB; have HO255 := n0_; have HB := n1_; clear n0_ n1_; (try clear hb); (try clear hb2); (try clear hk); (try clear hi); (try clear ho0); obtain ⟨Ao19, co19, eo19⟩ := Kd.R_slice HO255.out; subst eo19))
              have n0_ := Aside0.mk (Kd.R_drew HO255.out)
              have n1_ := Aside0.mk (below_drew1 HB.out)
              clear HO255
              clear HB
              have HO255 := n0_
              have HB := n1_
              clear n0_ n1_
              have q21 : (t251 : Int) ≤ ((t252.length : Int) : Int) := of_decide_eq_true (by first | (with_reducible assumption) | assumption)
              obtain ⟨i021, hi021, _, hsz21, _⟩ := info_parts info5
              have hroom21 : t252.length ≤ co19 := (Kd.R_reads' HO255.out).2.1
              have hC21 : Kd.C (Kd.int .u8) _ Ao19 t252.length t252 := (Kd.R_reads' HO255.out).2.2
              have hcut21 := cut_to (P := Try.prog) 22 5 .u64 Try.underlying22 hi021 Ao19 t252.length co19 t251 (of_decide_eq_true (by first | (with_reducible assumption) | assumption)) q21 hroom21
              have hr21 := Kd.C_take (m := (t251 : Int).toNat) hC21 (by omega)
              have hy21 : y256.length = (t251 : Int).toNat := (by rw [Ny256.out, List.length_take]; omega)
              rw [← Ny256.out] at hr21
              rw [← hy21] at hcut21
              have HR259 := Aside0.mk hr21
              have HC259 := Aside0.mk (show y256.length ≤ co19 from by omega)
              clear hr21 hC21 hroom21 hi021 hsz21
              have KY21 := Aside0.mk hy21
              clear hy21
              have KL21 := Aside0.mk (show (t251 : Int).toNat ≤ t252.length from by omega)
              replace q21 := eq_true q21
              have q22 : (t251 : Int) ≤ ((t252.length : Int) : Int) := of_decide_eq_true (by first | (with_reducible assumption) | assumption)
              obtain ⟨i022, hi022, _, hsz22, _⟩ := info_parts info5
              have hroom22 : t252.length ≤ co19 := (Kd.R_reads' HO255.out).2.1
              have hC22 : Kd.C (Kd.int .u8) _ Ao19 t252.length t252 := (Kd.R_reads' HO255.out).2.2
              have q022 : (0 : Int) ≤ (t251 : Int) := of_decide_eq_true (by first | (with_reducible assumption) | assumption)
              have hcut22 := cut_from (P := Try.prog) 22 5 .u64 Try.underlying22 hi022 1 hsz22 Ao19 t252.length co19 t251 q022 q22
              have hr22 := Kd.C_drop (m := (t251 : Int).toNat) (c := co19) hC22 (by omega) hroom22
              obtain ⟨A22, hA22⟩ : ∃ A1, A1 = (if co19 = (t251 : Int).toNat then Ao19 else (Ao19 : Option Addr).map (·.add ((t251 : Int).toNat * 1))) := ⟨_, rfl⟩
              obtain ⟨c22, hc22⟩ : ∃ c1, c1 = co19 - (t251 : Int).toNat := ⟨_, rfl⟩
              have hy22 : y260.length = t252.length - (t251 : Int).toNat := (by rw [Ny260.out, List.length_drop] <;> omega)
              rw [show (t252).drop (t251 : Int).toNat = y260 from Ny260.out.symm] at hr22
              replace hr22 : Kd.C (Kd.int .u8) _ A22 y260.length y260 := (by rw [hA22]; exact hr22)
              rw [← hy22, ← hA22, ← hc22] at hcut22
              have HR263 := Aside0.mk hr22
              have HC263 := Aside0.mk (show y260.length ≤ c22 from by rw [hy22, hc22]; exact Nat.sub_le_sub_right hroom22 _)
              clear hr22 hC22 hroom22 hi022 hsz22 hc22
              have KY22 := Aside0.mk hy22
              have KA22 := Aside0.mk hA22
              clear hy22 hA22
              have KL22 := Aside0.mk (show (t251 : Int).toNat ≤ t252.length from by omega)
              replace q22 := eq_true q22
              have hcv23 := Kd.C_string (P := Try.prog) (A := Ao19) (c := co19) Try.underlying22 Try.underlying5 Try.underlying9 (by repeat (first | (with_reducible exact HR259.out) | (with_reducible refine Kd.C_alloc ?_ _) | (with_reducible refine Kd.C_drewN ?_ _) | (with_reducible refine Kd.C_drew ?_) | exact HR259.out))
              obtain ⟨S_, hS0_, hS1_, hS2_⟩ := conv_stays (P := Try.prog) (A := Ao19) (c := co19) Try.underlying22 Try.underlying5 Try.underlying9 (by repeat (first | (with_reducible exact HR259.out) | (with_reducible refine Kd.C_alloc ?_ _) | (with_reducible refine Kd.C_drewN ?_ _) | (with_reducible refine Kd.C_drew ?_) | exact HR259.out))
              refine start_ (n := 11) (S := fun w' => S_ w') (ds := []) #[false, false, false, false, false, false, false, false, false, false, false] (by kernel_rfl) rfl rfl ((by first | exact hS0_ | exact hS1_ _ _ hS0_ (below_drew (Below.refl _ _)))) (fun hHeld => ?_); refine with_tabW nums_TakeText.tab4 nums_TakeText.bits4 (fun HT_ HW_ => ?_)
              generalize w18.drew = w20 at HO255 HB HR259 HR263 hHeld ⊢
              refine pure_ (i := 0) (N := some 36) (v := ?_) (a' := ?_) #[true, false, false, false, false, false, false, false, false, false, false] rfl rfl (any_of HT_.out (by kernel_rfl)) (fun _ _ _ h => h) (Or.inl ⟨by rfl, ?_⟩) ?_ ?_
              rotate_left
              · intro w'
                go_simp
                with_reducible rfl
              rotate_left
              · simp only [Act.put, List.setIfInBounds_toArray, List.set_cons_zero, List.set_cons_succ, i64_w, i32_w]
                rfl
              refine pure_ (i := 1) (N := some 37) (v := ?_) (a' := ?_) #[true, true, false, false, false, false, false, false, false, false, false] rfl rfl (any_of HT_.out (by kernel_rfl)) (fun _ _ _ h => h) (Or.inl ⟨by rfl, ?_⟩) ?_ ?_
              rotate_left
              · intro w'
                go_simp
                with_reducible rfl
              rotate_left
              · simp only [Act.put, List.setIfInBounds_toArray, List.set_cons_zero, List.set_cons_succ, i64_w, i32_w]
                rfl
              refine pure_ (i := 2) (N := some 38) (v := ?_) (a' := ?_) #[true, true, true, false, false, false, false, false, false, false, false] rfl rfl (any_of HT_.out (by kernel_rfl)) (fun _ _ _ h => h) (Or.inl ⟨by rfl, ?_⟩) ?_ ?_
              rotate_left
              · intro w'
                go_simp
                with_reducible rfl
              rotate_left
              · simp only [Act.put, List.setIfInBounds_toArray, List.set_cons_zero, List.set_cons_succ, i64_w, i32_w]
                rfl
              refine pure_ (i := 4) (N := some 40) (v := ?_) (a' := ?_) #[true, true, true, false, true, false, false, false, false, false, false] rfl rfl (any_of HT_.out (by kernel_rfl)) (fun _ _ _ h => h) (Or.inl ⟨by rfl, ?_⟩) ?_ ?_
              rotate_left
              · intro w'
                go_simp
                with_reducible rfl
              rotate_left
              · simp only [Act.put, List.setIfInBounds_toArray, List.set_cons_zero, List.set_cons_succ, i64_w, i32_w]
                rfl
              refine pure_ (i := 5) (N := some 41) (v := ?_) (a' := ?_) #[true, true, true, false, true, true, false, false, false, false, false] rfl rfl (any_of HT_.out (by kernel_rfl)) (fun _ _ _ h => h) (Or.inl ⟨by rfl, ?_⟩) ?_ ?_
              rotate_left
              · intro w'
                go_simp
                with_reducible rfl
              rotate_left
              · simp only [Act.put, List.setIfInBounds_toArray, List.set_cons_zero, List.set_cons_succ, i64_w, i32_w]
                rfl
              refine pure_ (i := 6) (N := some 42) (v := ?_) (a' := ?_) #[true, true, true, false, true, true, true, false, false, false, false] rfl rfl (any_of HT_.out (by kernel_rfl)) (fun _ _ _ h => h) (Or.inl ⟨by rfl, ?_⟩) ?_ ?_
              rotate_left
              · intro w'
                go_simp
                with_reducible rfl
              rotate_left
              · simp only [Act.put, List.setIfInBounds_toArray, List.set_cons_zero, List.set_cons_succ, i64_w, i32_w]
                rfl
              refine take_ (i := 3) (N := some 39) (v := ?_) (a' := ?_) #[true, true, true, true, true, true, true, false, false, false, false] rfl rfl (take_ofW HT_.out HW_.out (by kernel_rfl)) (fun _ _ _ h => h) (Or.inl ⟨by rfl, ?_⟩) hHeld ?_ ?_
              rotate_left
              · intro w' s0
                have s1_ := hS2_ _ s0
                go_simp
                with_reducible rfl
              rotate_left
              · simp only [Act.put, List.setIfInBounds_toArray, List.set_cons_zero, List.set_cons_succ, i64_w, i32_w]
                rfl
              refine one_ (i := 7) (N := some 43) #[true, true, true, true, true, true, true, true, false, false, false] rfl rfl (one_of HT_.out (by kernel_rfl)) (by decide) (fun K hK => ?_)
              refine goes_ Try.func36 (by kernel_rfl) rfl #[.slice A22 y260.length c22] (by rfl) rfl rfl (by (try simp only [List.map_toArray, List.map_cons, List.map_nil]); first | done | rfl | (simp only [List.length_drop, List.length_take]; rfl)) ?_
              with_reducible refine (slices_Clone_byte_byte.calls _ _ y260 t264 _ ?side1 ?side2 A17.out).mono ?_
              (case side1 => repeat (first | exact (by repeat (first | (with_reducible exact HR263.out) | (with_reducible refine Kd.C_alloc ?_ _) | (with_reducible refine Kd.C_drewN ?_ _) | (with_reducible refine Kd.C_drew ?_) | exact HR263.out)) | (with_reducible refine Kd.C_alloc ?_ _) | (with_reducible refine Kd.C_drewN ?_ _) | (with_reducible refine Kd.C_drew ?_)))
              (case side2 => exact HC263.out)
              rintro e w24 ⟨v265, rfl, ho0, hb⟩
              have hHn_ := hS1_ _ _ hHeld hb
              refine ⟨_, rfl, ?_⟩
              have n0_ := Aside0.mk (Kd.R_elder' (by (with_reducible repeat (first | apply Kd.R_alloc | apply Kd.R_drewN | apply Kd.R_drew)); exact HO255.out) (Kd.R_base ho0) hb)
              have n1_ := Aside0.mk (Kd.R_lower (Kd.R_new' ho0 (Kd.R_lt (by (with_reducible repeat (first | apply Kd.R_alloc | apply Kd.R_drewN | apply Kd.R_drew)); exact HO255.out))) (below_size (by repeat (first | (with_reducible first | exact HB.out | apply below_alloc | apply pw_below_drewN | apply below_drew1) | exact HB.out))))
              have n2_ := Aside0.mk (Kd.C_below (by repeat (first | (with_reducible exact HR259.out) | (with_reducible refine Kd.C_alloc ?_ _) | (with_reducible refine Kd.C_drewN ?_ _) | (with_reducible refine Kd.C_drew ?_) | exact HR259.out)) hb)
              have n3_ := Aside0.mk (Kd.C_below (by repeat (first | (with_reducible exact HR263.out) | (with_reducible refine Kd.C_alloc ?_ _) | (with_reducible refine Kd.C_drewN ?_ _) | (with_reducible refine Kd.C_drew ?_) | exact HR263.out)) hb)
              have n4_ := Aside0.mk (below_step (by repeat (first | (with_reducible first | exact HB.out | apply below_alloc | apply pw_below_drewN | apply below_drew1) | exact HB.out)) hb)
              clear HO255
              clear HR259
              clear HR263
              clear HB
              have HO255 := n0_
              have HO266 := n1_
              have HR259 := n2_
              have HR263 := n3_
              have HB := n4_
              clear n0_ n1_ n2_ n3_ n4_
              (try clear hb)
              (try clear hb2)
              (try clear hk)
              (try clear hi)
              (try clear ho0)
              refine hK.out _ _ (hHn_) (fun hHeld => ?_)
              clear hK K
              refine norm_ (a' := ?_) ?_ ?_
              rotate_left
              · show Act.put _ (some 43) _ = _
                simp only [Act.put, List.setIfInBounds_toArray, List.set_cons_zero, List.set_cons_succ, i64_w, i32_w]
                rfl
              refine pure_ (i := 8) (N := some 4) (v := ?_) (a' := ?_) #[true, true, true, true, true, true, true, true, true, false, false] rfl rfl (any_of HT_.out (by kernel_rfl)) (fun _ _ _ h => h) (Or.inl ⟨by rfl, ?_⟩) ?_ ?_
              rotate_left
              · intro w'
                go_simp
                with_reducible rfl
              rotate_left
              · simp only [Act.put, List.setIfInBounds_toArray, List.set_cons_zero, List.set_cons_succ, i64_w, i32_w]
                rfl
              refine pure_ (i := 9) (N := some 5) (v := ?_) (a' := ?_) #[true, true, true, true, true, true, true, true, true, true, false] rfl rfl (any_of HT_.out (by kernel_rfl)) (fun _ _ _ h => h) (Or.inl ⟨by rfl, ?_⟩) ?_ ?_
              rotate_left
              · intro w'
                go_simp
                with_reducible rfl
              rotate_left
              · simp only [Act.put, List.setIfInBounds_toArray, List.set_cons_zero, List.set_cons_succ, i64_w, i32_w]
                rfl
              refine pure_ (i := 10) (N := some 6) (v := ?_) (a' := ?_) #[true, true, true, true, true, true, true, true, true, true, true] rfl rfl (any_of HT_.out (by kernel_rfl)) (fun _ _ _ h => h) (Or.inl ⟨by rfl, ?_⟩) ?_ ?_
              rotate_left
              · intro w'
                go_simp
                with_reducible rfl
              rotate_left
              · simp only [Act.put, List.setIfInBounds_toArray, List.set_cons_zero, List.set_cons_succ, i64_w, i32_w]
                rfl
              refine done_ (done_of HT_.out (by kernel_rfl)) ?_
              try go_wp2
              go_ret3
              exact ⟨_, by first | rfl | (simp [errW_none, errW_some] <;> rfl) | (simp only [← hji5]; first | rfl | (simp [errW_none, errW_some] <;> rfl)) | (simp [*, errW_none, errW_some] <;> rfl), by (with_reducible repeat (first | apply Kd.R_alloc | apply Kd.R_drewN | apply Kd.R_drew)); exact Kd.R_mono HO266.out (fun _ hk => trivial), by repeat (first | (with_reducible first | exact HB.out | apply below_alloc | apply pw_below_drewN | apply below_drew1) | exact HB.out)⟩
            · rw [if_neg c14] at H
              exact absurd H (by simp)
          · rw [if_neg c13] at H
            exact absurd H (by simp)
  · replace c4 := Bool.eq_false_iff.mpr c4
    subst c4
    have H1 : (some ((⟨#[]⟩ : ByteArray), ([] : List Int), false)) = some (r1, r2, r3) := by rw [if_neg (show ¬ (false = true) by decide)] at H; exact H
    clear H
    have H := H1
    clear H1
    simp only [Option.some.injEq, Prod.mk.injEq] at H
    obtain ⟨rfl, rfl, rfl⟩ := H
    go_enter Try.func26, Try.ntmps26
    go_wp2_with (first | ((with_reducible refine gate_callee (f := 23) rfl ?_); refine goesL_ (some 12) rfl rfl Try.func23 (by kernel_rfl) rfl #[.slice A0 l0.length c0] rfl (by (try simp only [List.map_toArray, List.map_cons, List.map_nil]); first | done | rfl | (simp only [List.length_drop, List.length_take]; rfl)) ?_; (with_reducible refine (nums_Take.calls _ _ l0 t251 t252 false _ ?side1 ?side2 A3.out).mono ?_); (case side1 => repeat (first | exact HR0.out | (with_reducible refine Kd.C_alloc ?_ _) | (with_reducible refine Kd.C_drewN ?_ _) | (with_reducible refine Kd.C_drew ?_))); (case side2 => exact HC0.out); rintro e w26 ⟨v254, rfl, ho0, hb⟩; refine ⟨_, rfl, ?_⟩; have n0_ := Aside0.mk (Kd.R_lower ho0 (below_size (by repeat (first | (with_reducible first | exact HB.out | apply below_alloc | apply pw_below_drewN | apply below_drew1) | exact HB.out)))); have n1_ := Aside0.mk (below_step (by repeat (first | (with_reducible first | exact HB.out | apply below_alloc | apply pw_below_drewN | apply below_drew1) | exact HB.out)) hb); clear HB; have HO255 := n0_; have HB := n1_; clear n0_ n1_; (try clear hb); (try clear hb2); (try clear hk); (try clear hi); (try clear ho0)))
    go_ret3
    exact ⟨_, by first | rfl | (simp [errW_none, errW_some] <;> rfl) | (simp [*, errW_none, errW_some] <;> rfl), by first | exact Kd.R_nil _ _ _ _ _ | exact Kd.N_nil _ _ _ _ _ | exact Kd.V_nil _ _ _ _ _ | exact Kd.Q_nil _ _ _ _ _ | exact Kd.S_nil _ _ _ _ _, by repeat (first | (with_reducible first | exact HB.out | apply below_alloc | apply pw_below_drewN | apply below_drew1) | exact HB.out)⟩

end Go.Proofs.Ytdppjknfhggpbaa.P

end

section
set_option linter.unusedVariables false
namespace Go.Proofs.YtdppjknfhggpbaaL
open Go Go.RowKit Go.Proofs.YtdppjknfhggpbaaG Go.Proofs.Ytdppjknfhggpbaa.P Go.Proofs.YtdppjknfhggpbaaW.PrintWords Go.Proofs.YtdppjknfhggpbaaW.PrintMore

theorem put_f {l : List Int} {x : Nat} (hx : x < 18446744073709551616) (hl : l.length + 10 < 140737488355328) : nums_Put.f l (x : Int) = some (l ++ vint x) := by
  unfold nums_Put.f
  rw [if_pos ⟨by omega, by omega, hl⟩, Int.toNat_natCast]
theorem wrap_u64_nat {x : Nat} (hx : x < 18446744073709551616) : IntKind.u64.wrap (x : Int) = (x : Int) := by rw [IntKind.wrap_u64]; omega
theorem putText_f {l : List Int} {s : ByteArray} (hl : l.length + 10 + s.size < 140737488355328) : nums_PutText.f l s = some (l ++ vint s.size ++ bytesOf s) := by
  have := vint_len10 (x := s.size) (by omega)
  unfold nums_PutText.f
  rw [wrap_u64_nat (by omega), put_f (by omega) (by omega)]
  simp only [Option.bind_some]
  rw [if_pos (by rw [List.length_append]; omega)]
theorem clone_f {l : List Int} (hl : l.length < 140737488355328) : slices_Clone_byte_byte.f l = some l := by
  unfold slices_Clone_byte_byte.f
  rw [if_pos hl]
theorem mx_eq (a b : Int) : mx a b = max a b := by unfold mx; split <;> omega

/-- The text that bytes say. -/
theorem takeText_yes (s : ByteArray) (rest : List Int) (most : Int) (hm : most ≤ 9223372036854775807) (hr : By rest) (hl : s.size + rest.length + 20 < 140737488355328) (h : (s.size : Int) ≤ most) :
    nums_TakeText.f (vint s.size ++ (bytesOf s ++ rest)) most = some (s, rest, true) := by
  have hbl := bytesOf_length s
  unfold nums_TakeText.f
  rw [take_vint s.size _ (by omega) ((bytesOf_by s).append hr) (by rw [List.length_append]; omega)]
  simp only [Option.bind_some, if_true]
  have e1 : IntKind.u64.wrap (mx most 0) = most := by rw [mx_eq, IntKind.wrap_u64]; omega
  have e2 : IntKind.u64.wrap (((bytesOf s ++ rest).length : Nat) : Int) = ((s.size + rest.length : Nat) : Int) := by rw [List.length_append, hbl]; exact wrap_u64_nat (by omega)
  rw [e1, e2, if_neg (by omega), if_neg (by omega), if_neg (by omega), if_pos (by omega), if_pos (by rw [List.length_append]; omega), Int.toNat_natCast]
  have e3 : (bytesOf s ++ rest).drop s.size = rest := by rw [← hbl, List.drop_left]
  have e4 : (bytesOf s ++ rest).take s.size = bytesOf s := by rw [← hbl, List.take_left]
  rw [e3, e4, clone_f (by omega)]
  simp only [Option.bind_some, str_bytes]
theorem takeText_cases (l : List Int) (most : Int) (hm : most ≤ 9223372036854775807) (hb : By l) (hl : l.length + 20 < 140737488355328) :
    (∃ (s : ByteArray) (rest : List Int), (s.size : Int) ≤ most ∧ l = vint s.size ++ (bytesOf s ++ rest) ∧ nums_TakeText.f l most = some (s, rest, true)) ∨
    (nums_TakeText.f l most = some (⟨#[]⟩, [], false) ∧ ∀ (s : ByteArray) (rest : List Int), (s.size : Int) ≤ most → l ≠ vint s.size ++ (bytesOf s ++ rest)) := by
  rcases take_cases l hb (by omega) with ⟨x, rest, hx, he, hf⟩ | ⟨hf, hno⟩
  · by_cases h : (x : Int) ≤ most ∧ x ≤ rest.length
    · left
      have hr : By rest := By.right (he ▸ hb)
      have hsz : (strOfNums (rest.take x)).size = x := by rw [strOfNums_size, List.length_take]; omega
      have hl2 : l.length = (vint x).length + rest.length := by rw [he, List.length_append]
      have e0 : rest = bytesOf (strOfNums (rest.take x)) ++ rest.drop x := by rw [bytes_str (hr.take x), List.take_append_drop]
      have e1 : l = vint (strOfNums (rest.take x)).size ++ (bytesOf (strOfNums (rest.take x)) ++ rest.drop x) := by rw [hsz, ← e0]; exact he
      refine ⟨strOfNums (rest.take x), rest.drop x, by rw [hsz]; exact h.1, e1, ?_⟩
      have := takeText_yes (strOfNums (rest.take x)) (rest.drop x) most hm (hr.drop x) (by rw [hsz, List.length_drop]; omega) (by rw [hsz]; exact h.1)
      rw [← e1] at this
      exact this
    · right
      refine ⟨?_, fun s rest' hs e => h ?_⟩
      · have hl2 : l.length = (vint x).length + rest.length := by rw [he, List.length_append]
        unfold nums_TakeText.f
        rw [hf]
        simp only [Option.bind_some, if_true]
        have e2 : IntKind.u64.wrap ((rest.length : Nat) : Int) = (rest.length : Int) := wrap_u64_nat (by omega)
        have e1 : IntKind.u64.wrap (mx most 0) = max most 0 := by rw [mx_eq, IntKind.wrap_u64]; omega
        rw [e1, e2]
        by_cases c1 : (x : Int) > max most 0
        · rw [if_pos c1]
        · rw [if_neg c1]
          by_cases c2 : most < 0
          · rw [if_pos c2]
          · rw [if_neg c2, if_pos (by omega)]
      · rw [he] at e
        obtain ⟨rfl, rfl⟩ := vint_append_inj hx (by have : l.length = (vint s.size).length + (s.size + rest'.length) := by rw [he, e, List.length_append, List.length_append, bytesOf_length]
                                                    omega) e
        exact ⟨hs, by rw [List.length_append, bytesOf_length]; omega⟩
  · right
    refine ⟨?_, fun s rest' hs e => hno s.size (bytesOf s ++ rest') ?_ e⟩
    · unfold nums_TakeText.f
      rw [hf]
      simp
    · have : l.length = (vint s.size).length + (s.size + rest'.length) := by rw [e, List.length_append, List.length_append, bytesOf_length]
      omega
end Go.Proofs.YtdppjknfhggpbaaL

end

section
namespace Go.Proofs.Ytdppjknfhggpbaa.P
open Go.RowKit Go.Proofs.YtdppjknfhggpbaaG Go.Proofs.YtdppjknfhggpbaaW.PrintWords Go.Proofs.YtdppjknfhggpbaaW.PrintLast Go.Proofs.YtdppjknfhggpbaaW.PrintMore
attribute [local go_sem] str_gtr str_geq str_leq max2_int min2_int max_two min_two max_three min_three max_four min_four   -- for this text's walks alone
set_option linter.unusedVariables false
set_option linter.unusedSimpArgs false

def nums_TakeFour.f (l0 : List Int) : Option (Int × List Int × Bool) := if (l0.length : Int) < 4 then (some (0, ([] : List Int), false)) else (if 0 < (l0.length : Int) then (if 1 < (l0.length : Int) then (if 2 < (l0.length : Int) then (if 3 < (l0.length : Int) then (if 4 ≤ (l0.length : Int) then ((slices_Clone_byte_byte.f (l0.drop 4)).bind fun t125 => (some (Go.bits .or .u32 (Go.bits .or .u32 (Go.bits .or .u32 ((rd l0 0) % 4294967296) ((((rd l0 1) % 4294967296) * 256) % 4294967296)) ((((rd l0 2) % 4294967296) * 65536) % 4294967296)) ((((rd l0 3) % 4294967296) * 16777216) % 4294967296), t125, true))) else (none)) else (none)) else (none)) else (none)) else (none))
def nums_TakeFour.T3 : Bool × List (List Nat × List Nat) := (true, [([], []), ([0], [0]), ([1], [1]), ([2], [2]), ([], []), ([4], [4]), ([5], [5]), ([6], [6]), ([7], [7]), ([3, 8], [3, 8]), ([], []), ([10], [10]), ([11], [11]), ([12], [12]), ([13], [13]), ([9, 14], [9, 14]), ([], []), ([16], [16]), ([17], [17]), ([18], [18]), ([19], [19]), ([15, 20], [15, 20]), ([], []), ([22], [22]), ([23], [23]), ([21, 24, 0, 1, 2, 3, 4, 5, 6, 7, 8, 9, 10, 11, 12, 13, 14, 15, 16, 17, 18, 19, 20, 21], [21]), ([24, 25, 0, 1, 2, 3, 4, 5, 6, 7, 8, 9, 10, 11, 12, 13, 14, 15, 16, 17, 18, 19, 20, 21, 22, 23, 24, 25], [24]), ([26, 0, 1, 2, 3, 4, 5, 6, 7, 8, 9, 10, 11, 12, 13, 14, 15, 16, 17, 18, 19, 20, 21, 22, 23, 24, 25, 26], [])])
def nums_TakeFour.B3 : List Nat := [0, 1, 3, 7, 0, 16, 48, 112, 240, 511, 0, 1024, 3072, 7168, 15360, 32767, 0, 65536, 196608, 458752, 983040, 2097151, 0, 4194304, 12582912, 33554431, 67108863, 134217727]
theorem nums_TakeFour.tab3 : rtab .any (opsOf Try.f29 3) = nums_TakeFour.T3 := by kernel_rfl
theorem nums_TakeFour.bits3 : waitsOk nums_TakeFour.T3.2 nums_TakeFour.B3 = true := by kernel_rfl
set_option maxHeartbeats 8000000 in
set_option maxRecDepth 100000 in
theorem nums_TakeFour.calls (A0 : Option Addr) (c0 : Nat) (l0 : List Int) (r1 : Int) (r2 : List Int) (r3 : Bool) (w : World) (hr0 : Kd.C (Kd.int .u8) w A0 l0.length l0) (hc0 : l0.length ≤ c0) (h : nums_TakeFour.f l0 = some (r1, r2, r3)) :
    Calls Try.prog 29 #[.slice A0 l0.length c0] w fun e w' => ∃ v1_ : Value, e = .returned (.tuple #[.int .u32 r1, v1_, .bool r3]) ∧ Kd.R (Kd.int .u8) 5 w' w.heap.size (fun _ => True) v1_ r2 ∧ Below w.heap.size w w' := by
  have HR0 := Aside0.mk hr0
  have HC0 := Aside0.mk hc0
  clear hr0 hc0
  have HB := Aside0.mk (Below.refl w.heap.size w)
  have H : (if (l0.length : Int) < 4 then (some (0, ([] : List Int), false)) else (if 0 < (l0.length : Int) then (if 1 < (l0.length : Int) then (if 2 < (l0.length : Int) then (if 3 < (l0.length : Int) then (if 4 ≤ (l0.length : Int) then ((slices_Clone_byte_byte.f (l0.drop 4)).bind fun t125 => (some (Go.bits .or .u32 (Go.bits .or .u32 (Go.bits .or .u32 ((rd l0 0) % 4294967296) ((((rd l0 1) % 4294967296) * 256) % 4294967296)) ((((rd l0 2) % 4294967296) * 65536) % 4294967296)) ((((rd l0 3) % 4294967296) * 16777216) % 4294967296), t125, true))) else (none)) else (none)) else (none)) else (none)) else (none))) = some (r1, r2, r3) := h
  clear h
  by_cases c2 : (l0.length : Int) < 4
  · rw [if_pos c2] at H
    have c2b0 : decide ((l0.length : Int) < 4) = true := decide_eq_true c2
    have c2b1 : decide (l0.length < 4) = true := decide_eq_true (by omega)
    clear c2
    simp only [Option.some.injEq, Prod.mk.injEq] at H
    obtain ⟨rfl, rfl, rfl⟩ := H
    go_enter Try.func29, Try.ntmps29
    go_wp2
    go_ret3
    exact ⟨_, by first | rfl | (simp [errW_none, errW_some] <;> rfl) | (simp [*, errW_none, errW_some] <;> rfl), by first | exact Kd.R_nil _ _ _ _ _ | exact Kd.N_nil _ _ _ _ _ | exact Kd.V_nil _ _ _ _ _ | exact Kd.Q_nil _ _ _ _ _ | exact Kd.S_nil _ _ _ _ _, by repeat (first | (with_reducible first | exact HB.out | apply below_alloc | apply pw_below_drewN | apply below_drew1) | exact HB.out)⟩
  · rw [if_neg c2] at H
    have c2b0 : decide ((l0.length : Int) < 4) = false := decide_eq_false c2
    have c2b1 : decide (l0.length < 4) = false := decide_eq_false (by omega)
    clear c2
    by_cases c3 : 0 < (l0.length : Int)
    · rw [if_pos c3] at H
      have c3b0 : decide (0 < (l0.length : Int)) = true := decide_eq_true c3
      have c3b1 : decide (0 < l0.length) = true := decide_eq_true (by omega)
      clear c3
      by_cases c4 : 1 < (l0.length : Int)
      · rw [if_pos c4] at H
        have c4b0 : decide (1 < (l0.length : Int)) = true := decide_eq_true c4
        have c4b1 : decide (1 < l0.length) = true := decide_eq_true (by omega)
        clear c4
        by_cases c5 : 2 < (l0.length : Int)
        · rw [if_pos c5] at H
          have c5b0 : decide (2 < (l0.length : Int)) = true := decide_eq_true c5
          have c5b1 : decide (2 < l0.length) = true := decide_eq_true (by omega)
          clear c5
          by_cases c6 : 3 < (l0.length : Int)
          · rw [if_pos c6] at H
            have c6b0 : decide (3 < (l0.length : Int)) = true := decide_eq_true c6
            have c6b1 : decide (3 < l0.length) = true := decide_eq_true (by omega)
            clear c6
            by_cases c7 : 4 ≤ (l0.length : Int)
            · rw [if_pos c7] at H
              have c7b0 := eq_true c7
              have c7b1 : decide (4 ≤ (l0.length : Int)) = true := decide_eq_true c7
              clear c7
              replace H := Option.bind_eq_some_iff.mp H
              obtain ⟨t125, A80, H⟩ := H
              replace H : (some (Go.bits .or .u32 (Go.bits .or .u32 (Go.bits .or .u32 ((rd l0 0) % 4294967296) ((((rd l0 1) % 4294967296) * 256) % 4294967296)) ((((rd l0 2) % 4294967296) * 65536) % 4294967296)) ((((rd l0 3) % 4294967296) * 16777216) % 4294967296), t125, true)) = some (r1, r2, r3) := H
              have A8 := Aside0.mk A80
              clear A80
              simp only [Option.some.injEq, Prod.mk.injEq] at H
              obtain ⟨rfl, rfl, rfl⟩ := H
              go_enter Try.func29, Try.ntmps29
              try go_wp2
              have n0_ := Aside0.mk (below_drew1 HB.out)
              clear HB
              have HB := n0_
              clear n0_
              have p120 : 0 ≤ (0 : Int) := (by omega)
              have q120 : 0 < (l0.length : Int) := of_decide_eq_true (by first | (with_reducible assumption) | assumption)
              obtain ⟨ad120, e120, hx120_0⟩ := Kd.at_int HR0.out 0 p120 q120
              have hw120_0 := hx120_0
              (try rw [show ((0 : Int)).toNat = 0 from rfl] at hw120_0)
              (try rw [show 0 * 1 = 0 from rfl] at hw120_0)
              (try rw [Addr.add_zero'] at hw120_0)
              cases e120
              have qi120 : (0 < l0.length) = True := eq_true (by omega)
              (try rw [show ((0 : Int)).toNat = 0 from rfl] at hx120_0)
              (try rw [Addr.add_zero'] at hx120_0)
              replace hx120_0 := (HB.out.cell (World.block_lt_of_cell? w _ hx120_0)).trans hx120_0
              replace p120 := eq_true p120
              replace q120 := eq_true q120
              have p121 : 0 ≤ (1 : Int) := (by omega)
              have q121 : 1 < (l0.length : Int) := of_decide_eq_true (by first | (with_reducible assumption) | assumption)
              obtain ⟨ad121, e121, hx121_0⟩ := Kd.at_int HR0.out 1 p121 q121
              have hw121_0 := hx121_0
              (try rw [show ((1 : Int)).toNat = 1 from rfl] at hw121_0)
              (try rw [show 1 * 1 = 1 from rfl] at hw121_0)
              (try simp only [Nat.reduceMul, Nat.reduceEqDiff, Go.Addr.add, ↓reduceIte] at hw121_0)
              obtain rfl : ad120 = ad121 := (by injection e121)
              (try simp only [show (1 : Int).toNat = 1 from rfl, Nat.reduceMul, Nat.reduceEqDiff, Go.Addr.add, ↓reduceIte] at hx121_0)
              have qi121 : (1 < l0.length) = True := eq_true (by omega)
              (try rw [show ((1 : Int)).toNat = 1 from rfl] at hx121_0)
              replace hx121_0 := (HB.out.cell (World.block_lt_of_cell? w _ hx121_0)).trans hx121_0
              replace p121 := eq_true p121
              replace q121 := eq_true q121
              have p122 : 0 ≤ (2 : Int) := (by omega)
              have q122 : 2 < (l0.length : Int) := of_decide_eq_true (by first | (with_reducible assumption) | assumption)
              obtain ⟨ad122, e122, hx122_0⟩ := Kd.at_int HR0.out 2 p122 q122
              have hw122_0 := hx122_0
              (try rw [show ((2 : Int)).toNat = 2 from rfl] at hw122_0)
              (try rw [show 2 * 1 = 2 from rfl] at hw122_0)
              (try simp only [Nat.reduceMul, Nat.reduceEqDiff, Go.Addr.add, ↓reduceIte] at hw122_0)
              obtain rfl : ad120 = ad122 := (by injection e122)
              (try simp only [show (2 : Int).toNat = 2 from rfl, Nat.reduceMul, Nat.reduceEqDiff, Go.Addr.add, ↓reduceIte] at hx122_0)
              have qi122 : (2 < l0.length) = True := eq_true (by omega)
              (try rw [show ((2 : Int)).toNat = 2 from rfl] at hx122_0)
              replace hx122_0 := (HB.out.cell (World.block_lt_of_cell? w _ hx122_0)).trans hx122_0
              replace p122 := eq_true p122
              replace q122 := eq_true q122
              have p123 : 0 ≤ (3 : Int) := (by omega)
              have q123 : 3 < (l0.length : Int) := of_decide_eq_true (by first | (with_reducible assumption) | assumption)
              obtain ⟨ad123, e123, hx123_0⟩ := Kd.at_int HR0.out 3 p123 q123
              have hw123_0 := hx123_0
              (try rw [show ((3 : Int)).toNat = 3 from rfl] at hw123_0)
              (try rw [show 3 * 1 = 3 from rfl] at hw123_0)
              (try simp only [Nat.reduceMul, Nat.reduceEqDiff, Go.Addr.add, ↓reduceIte] at hw123_0)
              obtain rfl : ad120 = ad123 := (by injection e123)
              (try simp only [show (3 : Int).toNat = 3 from rfl, Nat.reduceMul, Nat.reduceEqDiff, Go.Addr.add, ↓reduceIte] at hx123_0)
              have qi123 : (3 < l0.length) = True := eq_true (by omega)
              (try rw [show ((3 : Int)).toNat = 3 from rfl] at hx123_0)
              replace hx123_0 := (HB.out.cell (World.block_lt_of_cell? w _ hx123_0)).trans hx123_0
              replace p123 := eq_true p123
              replace q123 := eq_true q123
              obtain ⟨i010, hi010, _, hsz10, _⟩ := info_parts info5
              obtain ⟨A10, hcut10, hA10, hC10⟩ := print_drop_of (P := Try.prog) (Value.int .u8) 0 22 5 .i64 Try.underlying22 hi010 hsz10 (some ad120) c0 l0 4 (by omega) (of_decide_eq_true (by first | (with_reducible assumption) | assumption)) HC0.out
              have HR124 := Aside0.mk (Kd.C_of_reads (h1 := fun _ => rfl) (hA10 _ (Kd.reads_of_C HR0.out)))
              have HC124 := Aside0.mk hC10
              clear hA10 hC10 hi010 hsz10
              refine start_ (n := 28) (S := fun w' => w'.cell? ad120 = some (.int .u8 (rd l0 0)) ∧ w'.cell? ⟨ad120.block, ad120.off + 1, none⟩ = some (.int .u8 (rd l0 1)) ∧ w'.cell? ⟨ad120.block, ad120.off + 2, none⟩ = some (.int .u8 (rd l0 2)) ∧ w'.cell? ⟨ad120.block, ad120.off + 3, none⟩ = some (.int .u8 (rd l0 3))) (ds := []) #[false, false, false, false, false, false, false, false, false, false, false, false, false, false, false, false, false, false, false, false, false, false, false, false, false, false, false, false] (by kernel_rfl) rfl rfl ⟨((HB.out.cell (World.block_lt_of_cell? w _ hw120_0)).trans hw120_0), ((HB.out.cell (World.block_lt_of_cell? w _ hw121_0)).trans hw121_0), ((HB.out.cell (World.block_lt_of_cell? w _ hw122_0)).trans hw122_0), ((HB.out.cell (World.block_lt_of_cell? w _ hw123_0)).trans hw123_0)⟩ (fun hHeld => ?_); refine with_tabW nums_TakeFour.tab3 nums_TakeFour.bits3 (fun HT_ HW_ => ?_)
              generalize w.drew = w9 at HB HR124 hx120_0 hx121_0 hx122_0 hx123_0 hHeld ⊢
              refine pure_ (i := 0) (N := some 8) (v := ?_) (a' := ?_) #[true, false, false, false, false, false, false, false, false, false, false, false, false, false, false, false, false, false, false, false, false, false, false, false, false, false, false, false] rfl rfl (any_of HT_.out (by kernel_rfl)) (fun _ _ _ h => h) (Or.inl ⟨by rfl, ?_⟩) ?_ ?_
              rotate_left
              · intro w'
                go_simp
                with_reducible rfl
              rotate_left
              · simp only [Act.put, List.setIfInBounds_toArray, List.set_cons_zero, List.set_cons_succ, i64_w, i32_w]
                rfl
              refine pure_ (i := 1) (N := some 9) (v := ?_) (a' := ?_) #[true, true, false, false, false, false, false, false, false, false, false, false, false, false, false, false, false, false, false, false, false, false, false, false, false, false, false, false] rfl rfl (any_of HT_.out (by kernel_rfl)) (fun _ _ _ h => h) (Or.inl ⟨by rfl, ?_⟩) ?_ ?_
              rotate_left
              · intro w'
                go_simp
                with_reducible rfl
              rotate_left
              · simp only [Act.put, List.setIfInBounds_toArray, List.set_cons_zero, List.set_cons_succ, i64_w, i32_w]
                rfl
              refine pure_ (i := 4) (N := some 12) (v := ?_) (a' := ?_) #[true, true, false, false, true, false, false, false, false, false, false, false, false, false, false, false, false, false, false, false, false, false, false, false, false, false, false, false] rfl rfl (any_of HT_.out (by kernel_rfl)) (fun _ _ _ h => h) (Or.inl ⟨by rfl, ?_⟩) ?_ ?_
              rotate_left
              · intro w'
                go_simp
                with_reducible rfl
              rotate_left
              · simp only [Act.put, List.setIfInBounds_toArray, List.set_cons_zero, List.set_cons_succ, i64_w, i32_w]
                rfl
              refine pure_ (i := 5) (N := some 13) (v := ?_) (a' := ?_) #[true, true, false, false, true, true, false, false, false, false, false, false, false, false, false, false, false, false, false, false, false, false, false, false, false, false, false, false] rfl rfl (any_of HT_.out (by kernel_rfl)) (fun _ _ _ h => h) (Or.inl ⟨by rfl, ?_⟩) ?_ ?_
              rotate_left
              · intro w'
                go_simp
                with_reducible rfl
              rotate_left
              · simp only [Act.put, List.setIfInBounds_toArray, List.set_cons_zero, List.set_cons_succ, i64_w, i32_w]
                rfl
              refine pure_ (i := 10) (N := some 18) (v := ?_) (a' := ?_) #[true, true, false, false, true, true, false, false, false, false, true, false, false, false, false, false, false, false, false, false, false, false, false, false, false, false, false, false] rfl rfl (any_of HT_.out (by kernel_rfl)) (fun _ _ _ h => h) (Or.inl ⟨by rfl, ?_⟩) ?_ ?_
              rotate_left
              · intro w'
                go_simp
                with_reducible rfl
              rotate_left
              · simp only [Act.put, List.setIfInBounds_toArray, List.set_cons_zero, List.set_cons_succ, i64_w, i32_w]
                rfl
              refine pure_ (i := 11) (N := some 19) (v := ?_) (a' := ?_) #[true, true, false, false, true, true, false, false, false, false, true, true, false, false, false, false, false, false, false, false, false, false, false, false, false, false, false, false] rfl rfl (any_of HT_.out (by kernel_rfl)) (fun _ _ _ h => h) (Or.inl ⟨by rfl, ?_⟩) ?_ ?_
              rotate_left
              · intro w'
                go_simp
                with_reducible rfl
              rotate_left
              · simp only [Act.put, List.setIfInBounds_toArray, List.set_cons_zero, List.set_cons_succ, i64_w, i32_w]
                rfl
              refine pure_ (i := 16) (N := some 24) (v := ?_) (a' := ?_) #[true, true, false, false, true, true, false, false, false, false, true, true, false, false, false, false, true, false, false, false, false, false, false, false, false, false, false, false] rfl rfl (any_of HT_.out (by kernel_rfl)) (fun _ _ _ h => h) (Or.inl ⟨by rfl, ?_⟩) ?_ ?_
              rotate_left
              · intro w'
                go_simp
                with_reducible rfl
              rotate_left
              · simp only [Act.put, List.setIfInBounds_toArray, List.set_cons_zero, List.set_cons_succ, i64_w, i32_w]
                rfl
              refine pure_ (i := 17) (N := some 25) (v := ?_) (a' := ?_) #[true, true, false, false, true, true, false, false, false, false, true, true, false, false, false, false, true, true, false, false, false, false, false, false, false, false, false, false] rfl rfl (any_of HT_.out (by kernel_rfl)) (fun _ _ _ h => h) (Or.inl ⟨by rfl, ?_⟩) ?_ ?_
              rotate_left
              · intro w'
                go_simp
                with_reducible rfl
              rotate_left
              · simp only [Act.put, List.setIfInBounds_toArray, List.set_cons_zero, List.set_cons_succ, i64_w, i32_w]
                rfl
              refine pure_ (i := 22) (N := some 30) (v := ?_) (a' := ?_) #[true, true, false, false, true, true, false, false, false, false, true, true, false, false, false, false, true, true, false, false, false, false, true, false, false, false, false, false] rfl rfl (any_of HT_.out (by kernel_rfl)) (fun _ _ _ h => h) (Or.inl ⟨by rfl, ?_⟩) ?_ ?_
              rotate_left
              · intro w'
                go_simp
                with_reducible rfl
              rotate_left
              · simp only [Act.put, List.setIfInBounds_toArray, List.set_cons_zero, List.set_cons_succ, i64_w, i32_w]
                rfl
              refine pure_ (i := 23) (N := some 31) (v := ?_) (a' := ?_) #[true, true, false, false, true, true, false, false, false, false, true, true, false, false, false, false, true, true, false, false, false, false, true, true, false, false, false, false] rfl rfl (any_of HT_.out (by kernel_rfl)) (fun _ _ _ h => h) (Or.inl ⟨by rfl, ?_⟩) ?_ ?_
              rotate_left
              · intro w'
                go_simp
                with_reducible rfl
              rotate_left
              · simp only [Act.put, List.setIfInBounds_toArray, List.set_cons_zero, List.set_cons_succ, i64_w, i32_w]
                rfl
              refine take_ (i := 2) (N := some 10) (v := ?_) (a' := ?_) #[true, true, true, false, true, true, false, false, false, false, true, true, false, false, false, false, true, true, false, false, false, false, true, true, false, false, false, false] rfl rfl (take_ofW HT_.out HW_.out (by kernel_rfl)) (fun _ _ _ h => h) (Or.inl ⟨by rfl, ?_⟩) hHeld ?_ ?_
              rotate_left
              · rintro w' ⟨s0, s1, s2, s3⟩
                go_simp
                with_reducible rfl
              rotate_left
              · simp only [Act.put, List.setIfInBounds_toArray, List.set_cons_zero, List.set_cons_succ, i64_w, i32_w]
                rfl
              refine pure_ (i := 3) (N := some 11) (v := ?_) (a' := ?_) #[true, true, true, true, true, true, false, false, false, false, true, true, false, false, false, false, true, true, false, false, false, false, true, true, false, false, false, false] rfl rfl (any_of HT_.out (by kernel_rfl)) (fun _ _ _ h => h) (Or.inl ⟨by rfl, ?_⟩) ?_ ?_
              rotate_left
              · intro w'
                go_simp
                with_reducible rfl
              rotate_left
              · simp only [Act.put, List.setIfInBounds_toArray, List.set_cons_zero, List.set_cons_succ, i64_w, i32_w]
                rfl
              refine take_ (i := 6) (N := some 14) (v := ?_) (a' := ?_) #[true, true, true, true, true, true, true, false, false, false, true, true, false, false, false, false, true, true, false, false, false, false, true, true, false, false, false, false] rfl rfl (take_ofW HT_.out HW_.out (by kernel_rfl)) (fun _ _ _ h => h) (Or.inl ⟨by rfl, ?_⟩) hHeld ?_ ?_
              rotate_left
              · rintro w' ⟨s0, s1, s2, s3⟩
                go_simp
                with_reducible rfl
              rotate_left
              · simp only [Act.put, List.setIfInBounds_toArray, List.set_cons_zero, List.set_cons_succ, i64_w, i32_w]
                rfl
              refine pure_ (i := 7) (N := some 15) (v := ?_) (a' := ?_) #[true, true, true, true, true, true, true, true, false, false, true, true, false, false, false, false, true, true, false, false, false, false, true, true, false, false, false, false] rfl rfl (any_of HT_.out (by kernel_rfl)) (fun _ _ _ h => h) (Or.inl ⟨by rfl, ?_⟩) ?_ ?_
              rotate_left
              · intro w'
                go_simp
                with_reducible rfl
              rotate_left
              · simp only [Act.put, List.setIfInBounds_toArray, List.set_cons_zero, List.set_cons_succ, i64_w, i32_w]
                rfl
              refine pure_ (i := 8) (N := some 16) (v := ?_) (a' := ?_) #[true, true, true, true, true, true, true, true, true, false, true, true, false, false, false, false, true, true, false, false, false, false, true, true, false, false, false, false] rfl rfl (any_of HT_.out (by kernel_rfl)) (fun _ _ _ h => h) (Or.inl ⟨by rfl, ?_⟩) ?_ ?_
              rotate_left
              · intro w'
                go_simp
                with_reducible rfl
              rotate_left
              · simp only [Act.put, List.setIfInBounds_toArray, List.set_cons_zero, List.set_cons_succ, i64_w, i32_w]
                rfl
              refine pure_ (i := 9) (N := some 17) (v := ?_) (a' := ?_) #[true, true, true, true, true, true, true, true, true, true, true, true, false, false, false, false, true, true, false, false, false, false, true, true, false, false, false, false] rfl rfl (any_of HT_.out (by kernel_rfl)) (fun _ _ _ h => h) (Or.inl ⟨by rfl, ?_⟩) ?_ ?_
              rotate_left
              · intro w'
                go_simp
                with_reducible rfl
              rotate_left
              · simp only [Act.put, List.setIfInBounds_toArray, List.set_cons_zero, List.set_cons_succ, i64_w, i32_w]
                rfl
              refine take_ (i := 12) (N := some 20) (v := ?_) (a' := ?_) #[true, true, true, true, true, true, true, true, true, true, true, true, true, false, false, false, true, true, false, false, false, false, true, true, false, false, false, false] rfl rfl (take_ofW HT_.out HW_.out (by kernel_rfl)) (fun _ _ _ h => h) (Or.inl ⟨by rfl, ?_⟩) hHeld ?_ ?_
              rotate_left
              · rintro w' ⟨s0, s1, s2, s3⟩
                go_simp
                with_reducible rfl
              rotate_left
              · simp only [Act.put, List.setIfInBounds_toArray, List.set_cons_zero, List.set_cons_succ, i64_w, i32_w]
                rfl
              refine pure_ (i := 13) (N := some 21) (v := ?_) (a' := ?_) #[true, true, true, true, true, true, true, true, true, true, true, true, true, true, false, false, true, true, false, false, false, false, true, true, false, false, false, false] rfl rfl (any_of HT_.out (by kernel_rfl)) (fun _ _ _ h => h) (Or.inl ⟨by rfl, ?_⟩) ?_ ?_
              rotate_left
              · intro w'
                go_simp
                with_reducible rfl
              rotate_left
              · simp only [Act.put, List.setIfInBounds_toArray, List.set_cons_zero, List.set_cons_succ, i64_w, i32_w]
                rfl
              refine pure_ (i := 14) (N := some 22) (v := ?_) (a' := ?_) #[true, true, true, true, true, true, true, true, true, true, true, true, true, true, true, false, true, true, false, false, false, false, true, true, false, false, false, false] rfl rfl (any_of HT_.out (by kernel_rfl)) (fun _ _ _ h => h) (Or.inl ⟨by rfl, ?_⟩) ?_ ?_
              rotate_left
              · intro w'
                go_simp
                with_reducible rfl
              rotate_left
              · simp only [Act.put, List.setIfInBounds_toArray, List.set_cons_zero, List.set_cons_succ, i64_w, i32_w]
                rfl
              refine pure_ (i := 15) (N := some 23) (v := ?_) (a' := ?_) #[true, true, true, true, true, true, true, true, true, true, true, true, true, true, true, true, true, true, false, false, false, false, true, true, false, false, false, false] rfl rfl (any_of HT_.out (by kernel_rfl)) (fun _ _ _ h => h) (Or.inl ⟨by rfl, ?_⟩) ?_ ?_
              rotate_left
              · intro w'
                go_simp
                with_reducible rfl
              rotate_left
              · simp only [Act.put, List.setIfInBounds_toArray, List.set_cons_zero, List.set_cons_succ, i64_w, i32_w]
                rfl
              refine take_ (i := 18) (N := some 26) (v := ?_) (a' := ?_) #[true, true, true, true, true, true, true, true, true, true, true, true, true, true, true, true, true, true, true, false, false, false, true, true, false, false, false, false] rfl rfl (take_ofW HT_.out HW_.out (by kernel_rfl)) (fun _ _ _ h => h) (Or.inl ⟨by rfl, ?_⟩) hHeld ?_ ?_
              rotate_left
              · rintro w' ⟨s0, s1, s2, s3⟩
                go_simp
                with_reducible rfl
              rotate_left
              · simp only [Act.put, List.setIfInBounds_toArray, List.set_cons_zero, List.set_cons_succ, i64_w, i32_w]
                rfl
              refine pure_ (i := 19) (N := some 27) (v := ?_) (a' := ?_) #[true, true, true, true, true, true, true, true, true, true, true, true, true, true, true, true, true, true, true, true, false, false, true, true, false, false, false, false] rfl rfl (any_of HT_.out (by kernel_rfl)) (fun _ _ _ h => h) (Or.inl ⟨by rfl, ?_⟩) ?_ ?_
              rotate_left
              · intro w'
                go_simp
                with_reducible rfl
              rotate_left
              · simp only [Act.put, List.setIfInBounds_toArray, List.set_cons_zero, List.set_cons_succ, i64_w, i32_w]
                rfl
              refine pure_ (i := 20) (N := some 28) (v := ?_) (a' := ?_) #[true, true, true, true, true, true, true, true, true, true, true, true, true, true, true, true, true, true, true, true, true, false, true, true, false, false, false, false] rfl rfl (any_of HT_.out (by kernel_rfl)) (fun _ _ _ h => h) (Or.inl ⟨by rfl, ?_⟩) ?_ ?_
              rotate_left
              · intro w'
                go_simp
                with_reducible rfl
              rotate_left
              · simp only [Act.put, List.setIfInBounds_toArray, List.set_cons_zero, List.set_cons_succ, i64_w, i32_w]
                rfl
              refine pure_ (i := 21) (N := some 29) (v := ?_) (a' := ?_) #[true, true, true, true, true, true, true, true, true, true, true, true, true, true, true, true, true, true, true, true, true, true, true, true, false, false, false, false] rfl rfl (any_of HT_.out (by kernel_rfl)) (fun _ _ _ h => h) (Or.inl ⟨by rfl, ?_⟩) ?_ ?_
              rotate_left
              · intro w'
                go_simp
                with_reducible rfl
              rotate_left
              · simp only [Act.put, List.setIfInBounds_toArray, List.set_cons_zero, List.set_cons_succ, i64_w, i32_w]
                rfl
              refine one_ (i := 24) (N := some 32) #[true, true, true, true, true, true, true, true, true, true, true, true, true, true, true, true, true, true, true, true, true, true, true, true, true, false, false, false] rfl rfl (one_of HT_.out (by kernel_rfl)) (by decide) (fun K hK => ?_)
              refine goes_ Try.func36 (by kernel_rfl) rfl #[.slice A10 (l0.drop 4).length (c0 - 4)] (by rfl) rfl rfl (by (try simp only [List.map_toArray, List.map_cons, List.map_nil]); first | done | (rw [show (l0.drop 4).length = (l0.length - 4) from List.length_drop] <;> rfl) | rfl | (simp only [List.length_drop, List.length_take]; rfl)) ?_
              with_reducible refine (slices_Clone_byte_byte.calls _ _ (l0.drop 4) t125 _ ?side1 ?side2 A8.out).mono ?_
              (case side1 => repeat (first | exact (Kd.C_below HR124.out HB.out) | (with_reducible refine Kd.C_alloc ?_ _) | (with_reducible refine Kd.C_drewN ?_ _) | (with_reducible refine Kd.C_drew ?_)))
              (case side2 => exact HC124.out)
              rintro e w11 ⟨v126, rfl, ho0, hb⟩
              refine ⟨_, rfl, ?_⟩
              have n0_ := Aside0.mk (Kd.R_lower ho0 (below_size (by repeat (first | (with_reducible first | exact HB.out | apply below_alloc | apply pw_below_drewN | apply below_drew1) | exact HB.out))))
              have n1_ := Aside0.mk (below_step (by repeat (first | (with_reducible first | exact HB.out | apply below_alloc | apply pw_below_drewN | apply below_drew1) | exact HB.out)) hb)
              clear HB
              have HO127 := n0_
              have HB := n1_
              clear n0_ n1_
              (try clear hb)
              (try clear hb2)
              (try clear hk)
              (try clear hi)
              (try clear ho0)
              refine hK.out _ _ ⟨((HB.out.cell (World.block_lt_of_cell? w _ hw120_0)).trans hw120_0), ((HB.out.cell (World.block_lt_of_cell? w _ hw121_0)).trans hw121_0), ((HB.out.cell (World.block_lt_of_cell? w _ hw122_0)).trans hw122_0), ((HB.out.cell (World.block_lt_of_cell? w _ hw123_0)).trans hw123_0)⟩ (fun hHeld => ?_)
              clear hK K
              refine norm_ (a' := ?_) ?_ ?_
              rotate_left
              · show Act.put _ (some 32) _ = _
                simp only [Act.put, List.setIfInBounds_toArray, List.set_cons_zero, List.set_cons_succ, i64_w, i32_w]
                rfl
              refine pure_ (i := 25) (N := some 2) (v := ?_) (a' := ?_) #[true, true, true, true, true, true, true, true, true, true, true, true, true, true, true, true, true, true, true, true, true, true, true, true, true, true, false, false] rfl rfl (any_of HT_.out (by kernel_rfl)) (fun _ _ _ h => h) (Or.inl ⟨by rfl, ?_⟩) ?_ ?_
              rotate_left
              · intro w'
                go_simp
                with_reducible rfl
              rotate_left
              · simp only [Act.put, List.setIfInBounds_toArray, List.set_cons_zero, List.set_cons_succ, i64_w, i32_w]
                rfl
              refine pure_ (i := 26) (N := some 3) (v := ?_) (a' := ?_) #[true, true, true, true, true, true, true, true, true, true, true, true, true, true, true, true, true, true, true, true, true, true, true, true, true, true, true, false] rfl rfl (any_of HT_.out (by kernel_rfl)) (fun _ _ _ h => h) (Or.inl ⟨by rfl, ?_⟩) ?_ ?_
              rotate_left
              · intro w'
                go_simp
                with_reducible rfl
              rotate_left
              · simp only [Act.put, List.setIfInBounds_toArray, List.set_cons_zero, List.set_cons_succ, i64_w, i32_w]
                rfl
              refine pure_ (i := 27) (N := some 4) (v := ?_) (a' := ?_) #[true, true, true, true, true, true, true, true, true, true, true, true, true, true, true, true, true, true, true, true, true, true, true, true, true, true, true, true] rfl rfl (any_of HT_.out (by kernel_rfl)) (fun _ _ _ h => h) (Or.inl ⟨by rfl, ?_⟩) ?_ ?_
              rotate_left
              · intro w'
                go_simp
                with_reducible rfl
              rotate_left
              · simp only [Act.put, List.setIfInBounds_toArray, List.set_cons_zero, List.set_cons_succ, i64_w, i32_w]
                rfl
              refine done_ (done_of HT_.out (by kernel_rfl)) ?_
              try go_wp2
              go_ret3
              exact ⟨_, by first | rfl | (simp [errW_none, errW_some] <;> rfl) | (simp [*, errW_none, errW_some] <;> rfl), by (with_reducible repeat (first | apply Kd.R_alloc | apply Kd.R_drewN | apply Kd.R_drew)); exact HO127.out, by repeat (first | (with_reducible first | exact HB.out | apply below_alloc | apply pw_below_drewN | apply below_drew1) | exact HB.out)⟩
            · rw [if_neg c7] at H
              exact absurd H (by simp)
          · rw [if_neg c6] at H
            exact absurd H (by simp)
        · rw [if_neg c5] at H
          exact absurd H (by simp)
      · rw [if_neg c4] at H
        exact absurd H (by simp)
    · rw [if_neg c3] at H
      exact absurd H (by simp)

end Go.Proofs.Ytdppjknfhggpbaa.P

end

section
set_option linter.unusedVariables false
namespace Go.Proofs.YtdppjknfhggpbaaL
open Go Go.RowKit Go.Proofs.YtdppjknfhggpbaaG Go.Proofs.Ytdppjknfhggpbaa.P Go.Proofs.YtdppjknfhggpbaaW.PrintWords

/-- A number of 32 bits as four bytes. -/
def four (x : Nat) : List Int := [((x % 256 : Nat) : Int), ((x / 256 % 256 : Nat) : Int), ((x / 65536 % 256 : Nat) : Int), ((x / 16777216 % 256 : Nat) : Int)]
theorem four_len (x : Nat) : (four x).length = 4 := rfl
theorem putFour_f {l : List Int} {x : Nat} (hx : x < 4294967296) (hl : l.length + 10 < 140737488355328) : nums_PutFour.f l (x : Int) = some (l ++ four x) := by
  unfold nums_PutFour.f
  rw [clone_f (by omega)]
  simp only [Option.bind_some]
  rw [if_pos (by simp; omega)]
  congr 2
theorem bits_or_u32 (a b : Nat) (ha : a < 4294967296) (hb : b < 4294967296) : bits .or .u32 (a : Int) (b : Int) = ((a ||| b : Nat) : Int) := by
  have hx : a ||| b < 2 ^ 32 := Nat.or_lt_two_pow (by omega) (by omega)
  have hw : ∀ n : Int, IntKind.u32.wrap n = n % 4294967296 := fun n => by simp [IntKind.wrap, IntKind.bits, IntKind.signed]
  show IntKind.u32.wrap ((BitVec.ofInt 32 (a : Int) ||| BitVec.ofInt 32 (b : Int)).toNat : Int) = _
  rw [BitVec.ofInt_natCast, BitVec.ofInt_natCast, BitVec.toNat_or, BitVec.toNat_ofNat, BitVec.toNat_ofNat, Nat.mod_eq_of_lt (by omega), Nat.mod_eq_of_lt (by omega), hw]
  omega
theorem or_four (a b c d : Nat) (ha : a < 256) (hb : b < 256) (hc : c < 256) (hd : d < 256) :
    Go.bits .or .u32 (Go.bits .or .u32 (Go.bits .or .u32 ((a : Int) % 4294967296) ((((b : Int) % 4294967296) * 256) % 4294967296)) ((((c : Int) % 4294967296) * 65536) % 4294967296)) ((((d : Int) % 4294967296) * 16777216) % 4294967296) = ((a + 256 * b + 65536 * c + 16777216 * d : Nat) : Int) := by
  rw [show ((a : Int) % 4294967296) = (a : Int) from by omega, show ((((b : Int) % 4294967296) * 256) % 4294967296) = ((b * 2 ^ 8 : Nat) : Int) from by omega,
    show ((((c : Int) % 4294967296) * 65536) % 4294967296) = ((c * 2 ^ 16 : Nat) : Int) from by omega, show ((((d : Int) % 4294967296) * 16777216) % 4294967296) = ((d * 2 ^ 24 : Nat) : Int) from by omega]
  rw [bits_or_u32 _ _ (by omega) (by omega), or_add _ _ _ (by omega), bits_or_u32 _ _ (by omega) (by omega), or_add _ _ _ (by omega), bits_or_u32 _ _ (by omega) (by omega), or_add _ _ _ (by omega)]
  omega
theorem takeFour_short {l : List Int} (h : l.length < 4) : nums_TakeFour.f l = some (0, [], false) := by
  unfold nums_TakeFour.f
  rw [if_pos (by omega)]
theorem takeFour_bytes (a b c d : Int) (rest : List Int) (h : By (a :: b :: c :: d :: rest)) (hl : rest.length + 10 < 140737488355328) :
    nums_TakeFour.f (a :: b :: c :: d :: rest) = some (a + 256 * b + 65536 * c + 16777216 * d, rest, true) := by
  have ha := h.head
  have hb := h.tail.head
  have hc := h.tail.tail.head
  have hd := h.tail.tail.tail.head
  unfold nums_TakeFour.f
  simp only [List.length_cons]
  rw [if_neg (by omega), if_pos (by omega), if_pos (by omega), if_pos (by omega), if_pos (by omega), if_pos (by omega)]
  rw [show (a :: b :: c :: d :: rest).drop 4 = rest from rfl, clone_f (by omega)]
  simp only [Option.bind_some]
  rw [show rd (a :: b :: c :: d :: rest) 0 = a from rfl, show rd (a :: b :: c :: d :: rest) 1 = b from rfl, show rd (a :: b :: c :: d :: rest) 2 = c from rfl, show rd (a :: b :: c :: d :: rest) 3 = d from rfl]
  obtain ⟨a', rfl⟩ := Int.eq_ofNat_of_zero_le ha.1
  obtain ⟨b', rfl⟩ := Int.eq_ofNat_of_zero_le hb.1
  obtain ⟨c', rfl⟩ := Int.eq_ofNat_of_zero_le hc.1
  obtain ⟨d', rfl⟩ := Int.eq_ofNat_of_zero_le hd.1
  rw [or_four a' b' c' d' (by omega) (by omega) (by omega) (by omega)]
  congr 2
/-- Four bytes or more say a number, and are put as they stood. -/
theorem takeFour_cases (l : List Int) (hb : By l) (hl : l.length + 10 < 140737488355328) :
    (l.length < 4 ∧ nums_TakeFour.f l = some (0, [], false)) ∨ (4 ≤ l.length ∧ ∃ (x : Nat) (rest : List Int), x < 4294967296 ∧ l = four x ++ rest ∧ nums_TakeFour.f l = some ((x : Int), rest, true)) := by
  by_cases h : l.length < 4
  · exact .inl ⟨h, takeFour_short h⟩
  · right
    match l, h, hb, hl with
    | a :: b :: c :: d :: rest, _, hb, hl =>
      have ha := hb.head
      have hb2 := hb.tail.head
      have hc := hb.tail.tail.head
      have hd := hb.tail.tail.tail.head
      simp only [List.length_cons] at hl
      refine ⟨by simp, (a + 256 * b + 65536 * c + 16777216 * d).toNat, rest, by omega, ?_, ?_⟩
      · unfold four
        simp only [List.cons_append, List.nil_append, List.cons.injEq, and_true]
        refine ⟨?_, ?_, ?_, ?_⟩ <;> omega
      · rw [takeFour_bytes a b c d rest hb (by omega)]
        congr 2
        omega
    | [], h, _, _ => simp at h
    | [_], h, _, _ => simp at h
    | [_, _], h, _, _ => simp at h
    | [_, _, _], h, _, _ => simp at h
end Go.Proofs.YtdppjknfhggpbaaL

end
