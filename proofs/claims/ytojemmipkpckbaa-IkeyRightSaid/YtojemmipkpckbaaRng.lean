/- A law for a range over a function, where the iterator may keep state of its own in cells: the caller's invariant names the set of blocks that it does not speak of. Conditions: those of each theorem. Written for this claim. -/
import Derived.RangeFuncNested
import Derived.RangeFuncBound
import Derived.RangeFuncCalls
import Derived.RangeFuncLeaves
import Derived.Deep.QuietTactic
set_option linter.unusedVariables false
namespace Go.Proofs.YtojemmipkpckbaaR
open Go Go.RowKit

/-- W' is W but for blocks of C, and new ones. -/
structure Stays (C : Nat → Prop) (W W' : World) : Prop where
  os : W'.os = W.os
  tape : W'.tape = W.tape
  output : W'.output = W.output
  size : W.heap.size ≤ W'.heap.size
  block : ∀ i, i < W.heap.size → ¬ C i → W'.heap[i]? = W.heap[i]?

theorem or3 {a b c q : Prop} (h : a ∨ b ∨ c) (f : a → q) (g : b → q) (k : c → q) : q := h.elim f (fun h => h.elim g k)

theorem Stays.refl (C : Nat → Prop) (W : World) : Stays C W W := ⟨rfl, rfl, rfl, Nat.le_refl _, fun _ _ _ => rfl⟩
theorem Stays.mono {C C' : Nat → Prop} {W W' : World} (h : Stays C W W') (hc : ∀ k, C k → C' k) : Stays C' W W' :=
  ⟨h.os, h.tape, h.output, h.size, fun i hi hn => h.block i hi (fun hk => hn (hc i hk))⟩
theorem Stays.trans {C : Nat → Prop} {A B D : World} (h : Stays C A B) (k : Stays C B D) : Stays C A D :=
  ⟨k.os.trans h.os, k.tape.trans h.tape, k.output.trans h.output, Nat.le_trans h.size k.size, fun i hi hn => (k.block i (Nat.lt_of_lt_of_le hi h.size) hn).trans (h.block i hi hn)⟩
/-- Two steps, the second of which may write new blocks too. -/
theorem Stays.trans' {C C' : Nat → Prop} {A B D : World} (h : Stays C A B) (k : Stays C' B D) (hc : ∀ i, i < A.heap.size → C' i → C i) : Stays C A D :=
  ⟨k.os.trans h.os, k.tape.trans h.tape, k.output.trans h.output, Nat.le_trans h.size k.size, fun i hi hn => (k.block i (Nat.lt_of_lt_of_le hi h.size) (fun hk => hn (hc i hi hk))).trans (h.block i hi hn)⟩
theorem Stays.alloc (C : Nat → Prop) (W : World) (o : Obj) : Stays C W (W.alloc o) := ⟨rfl, rfl, rfl, by simp, fun i hi _ => Below.heap_alloc W o i hi⟩
theorem Stays.putObj {C : Nat → Prop} {W : World} {l : Nat} (hl : C l) (o : Obj) : Stays C W (W.putObj l o) :=
  ⟨rfl, rfl, rfl, by simp, fun i hi hn => World.putObj_heap_other (fun e => hn (by rw [e]; exact hl))⟩
theorem Stays.setCell {C : Nat → Prop} {W : World} {p : Addr} (hp : C p.block) (u : Value) : Stays C W (W.setCell p u) :=
  ⟨rfl, rfl, rfl, by simp [World.setCell], fun i hi hn => Below.heap_setCell W p u i (fun e => hn (by rw [e]; exact hp))⟩
theorem Stays.drew (C : Nat → Prop) (W : World) : Stays C W W.drew := ⟨rfl, rfl, rfl, Nat.le_refl _, fun _ _ _ => rfl⟩
theorem Stays.drewN (C : Nat → Prop) (W : World) (n : Nat) : Stays C W (W.drewN n) := ⟨rfl, rfl, rfl, Nat.le_refl _, fun _ _ _ => rfl⟩
theorem Stays.of_below {C : Nat → Prop} {W W' : World} (h : Below W.heap.size W W') : Stays C W W' := ⟨h.os, h.tape, h.output, h.size, fun i hi _ => h.block i hi⟩
theorem Stays.of_grownBy {C : Nat → Prop} {W W' : World} {row : Option Nat} (h : W.grownBy W' row) (hr : ∀ k, row = some k → C k) : Stays C W W' :=
  ⟨h.os, h.tape, h.output, h.size, fun i hi hn => h.block i hi (fun e => hn (hr i e.symm))⟩

/-- The blocks of C hold in W' what they hold in W. -/
def Hold (C : Nat → Prop) (W W' : World) : Prop := ∀ i, C i → W'.heap[i]? = W.heap[i]?
theorem Hold.refl (C : Nat → Prop) (W : World) : Hold C W W := fun _ _ => rfl
theorem Hold.trans {C : Nat → Prop} {A B D : World} (h : Hold C A B) (k : Hold C B D) : Hold C A D := fun i hi => (k i hi).trans (h i hi)
theorem Hold.mono {C C' : Nat → Prop} {A B : World} (h : Hold C A B) (hc : ∀ k, C' k → C k) : Hold C' A B := fun i hi => h i (hc i hi)
theorem Hold.of_stays {C D : Nat → Prop} {A B : World} (h : Stays D A B) (hlt : ∀ k, C k → k < A.heap.size) (hd : ∀ k, C k → ¬ D k) : Hold C A B := fun i hi => h.block i (hlt i hi) (hd i hi)
theorem Hold.of_grownBy {C : Nat → Prop} {W W' : World} {row : Option Nat} (h : W.grownBy W' row) (hlt : ∀ k, C k → k < W.heap.size) (hr : ∀ k, row = some k → ¬ C k) : Hold C W W' :=
  fun i hi => h.block i (hlt i hi) (fun e => hr i e.symm hi)
theorem Hold.setCell {C : Nat → Prop} {W : World} {p : Addr} (hn : ¬ C p.block) (u : Value) : Hold C W (W.setCell p u) := fun i hi => Below.heap_setCell W p u i (fun e => hn (by rw [← e]; exact hi))
theorem below_putObj {n : Nat} {W : World} {D : Nat} (hD : n ≤ D) (o : Obj) : Below n W (W.putObj D o) := ⟨rfl, rfl, rfl, by simp, fun k hk => World.putObj_heap_other (by omega)⟩
theorem Hold.of_below {C : Nat → Prop} {W W' : World} (h : Below W.heap.size W W') (hlt : ∀ k, C k → k < W.heap.size) : Hold C W W' := fun i hi => h.block i (hlt i hi)

/-- What J says, it says of blocks that are not of C: it stays where these are written, where blocks come, and C may take in blocks that were not there. -/
def Fits {β : Type} (J : (Nat → Prop) → β → World → Prop) : Prop :=
  ∀ C C' s W W', J C s W → Stays C W W' → (∀ k, C' k → C k ∨ W.heap.size ≤ k) → J C' s W'

theorem Fits.stay {β : Type} {J : (Nat → Prop) → β → World → Prop} (h : Fits J) {C : Nat → Prop} {s : β} {W W' : World} (hj : J C s W) (hs : Stays C W W') : J C s W' := h C C s W W' hj hs (fun _ hk => .inl hk)
theorem Fits.and {β : Type} {J K : (Nat → Prop) → β → World → Prop} (h : Fits J) (k : Fits K) : Fits (fun C s W => J C s W ∧ K C s W) :=
  fun C C' s W W' hj hs hc => ⟨h C C' s W W' hj.1 hs hc, k C C' s W W' hj.2 hs hc⟩
theorem Fits.pure {β : Type} (p : β → Prop) : Fits (fun _ s _ => p s) := fun _ _ _ _ _ hj _ _ => hj
theorem Fits.false {β : Type} : Fits (fun _ (_ : β) _ => False) := fun _ _ _ _ _ hj _ _ => hj
theorem Fits.ex {β γ : Type} {J : γ → (Nat → Prop) → β → World → Prop} (h : ∀ x, Fits (J x)) : Fits (fun C s W => ∃ x, J x C s W) := fun C C' s W W' ⟨x, hj⟩ hs hc => ⟨x, h x C C' s W W' hj hs hc⟩
/-- One block, known whole. -/
theorem Fits.block {β : Type} (b : β → Nat) (o : β → Obj) : Fits (fun C s W => ¬ C (b s) ∧ W.heap[b s]? = some (o s)) := by
  intro C C' s W W' hj hs hc
  have hlt : b s < W.heap.size := (Array.getElem?_eq_some_iff.1 hj.2).1
  exact ⟨fun hk => (hc _ hk).elim hj.1 (fun h => by omega), (hs.block _ hlt hj.1).trans hj.2⟩
/-- What lay below n₀ in w0 lies there still; no block of C lies there. -/
theorem Fits.below {β : Type} (n₀ : Nat) (w0 : World) (hn : n₀ ≤ w0.heap.size) : Fits (fun C (_ : β) W => (∀ k, C k → n₀ ≤ k) ∧ Below n₀ w0 W) := by
  intro C C' s W W' hj hs hc
  have hsz := hj.2.size
  refine ⟨fun k hk => (hc k hk).elim (hj.1 k) (fun h => by omega), hs.os.trans hj.2.os, hs.tape.trans hj.2.tape, hs.output.trans hj.2.output, Nat.le_trans hsz hs.size, fun k hk => ?_⟩
  exact (hs.block k (by omega) (fun hck => by have := hj.1 k hck; omega)).trans (hj.2.block k hk)

/-- The contract of an iterator's value: whatever the caller's invariants J, Jx say of blocks that are none of C. C0: the blocks that the value has captured; n₀: below it nothing is written. -/
def Iter {α : Type} (P : Program) (g : Nat) (lb : Array Value) (encs : α → Array Value) (S Sp : List α → Prop) (N n₀ : Nat) (C0 : Nat → Prop) (w : World) : Prop :=
  ∀ (l : Nat) (J Jx : (Nat → Prop) → List α → World → Prop) (W : World), Fits J → Fits Jx → w.heap.size ≤ W.heap.size → Hold C0 w W → Below n₀ w W → (∀ k, C0 k → k < W.heap.size) →
    (∀ (C : Nat → Prop) (pre : List α) (x : α) (W1 : World), (∀ k, C k → k < W1.heap.size) → J C pre W1 → pre.length < N → YieldAt Fence.wide 0 P l (encs x) W1 fun e W' =>
      (e = .returned (.bool true) ∧ J C (pre ++ [x]) W' ∧ Hold C W1 W' ∧ Below n₀ W1 W') ∨ (e = .returned (.bool false) ∧ Jx C (pre ++ [x]) W')) →
    J C0 [] W →
    Calls P g (#[.func (.yield l) #[] #[]] ++ lb) W fun e W' => (∃ v, e = .returned v) ∧ ((∃ xs C, S xs ∧ J C xs W') ∨ (∃ pre C, Sp pre ∧ Jx C pre W'))

/-- How a round's body may be left. -/
def bodyEnd {α : Type} (C : Nat → Prop) (n₀ : Nat) (I : (Nat → Prop) → List α → World → Prop) (Ix : Code → (Nat → Prop) → List α → World → Prop) (xs : List α) (W : World) : Exit → Act → World → Prop
  | .normal, _, W' => Hold C W W' ∧ Below n₀ W W' ∧ I C xs W'
  | .ret, _, W' => Hold C W W' ∧ Ix .ret C xs W'
  | .exit id, _, W' => Hold C W W' ∧ Ix (.exit id) C xs W'
  | .goto t, _, W' => Hold C W W' ∧ Ix (.goto t) C xs W'
  | .panic _, _, _ => False
  | .outgrown, _, _ => False

theorem yieldAt_any {m m' : Nat} {P : Program} {l : Nat} {args : Array Value} {W : World} {R : Ending → World → Prop} (h : YieldAt Fence.wide m P l args W R) : YieldAt Fence.wide m' P l args W R := by
  obtain ⟨fn, tmps, assign, body, hy, hR⟩ := h
  exact ⟨fn, tmps, assign, body, hy, hR.1, fun c cs hr => hR.2 c cs (room_wide _)⟩

/-- A range over a function. hround: one round, the assignment to the loop's variables and the body, from whatever world W'' that differs from the assignment's end in blocks of C alone. -/
theorem range_law {α : Type} {n : Nat} {P : Program} {g : Operand} {ps : Array Tmp} {assign body : Code} {Q : Exit → Act → World → Prop} {a : Act} {w : World}
    {gf : Nat} {lb : Array Value} (hg : a.eval g = .func (.func gf) #[] lb) (eg : ∀ args w, (callFunc gf args).run P w = .ok (.enter gf args) w)
    {encs : α → Array Value} {S Sp : List α → Prop} {N n₀ : Nat} {C0 : Nat → Prop} (hseq : Iter P gf lb encs S Sp N n₀ C0 w) (hC0 : ∀ k, C0 k → k < w.heap.size) (hn0 : n₀ ≤ w.heap.size) (hps : ∀ x, (encs x).size = ps.size)
    (I : (Nat → Prop) → List α → World → Prop) (Ix : Code → (Nat → Prop) → List α → World → Prop) (hI : Fits I) (hIx : ∀ c, Fits (Ix c)) (h0 : I C0 [] w)
    (hround : ∀ (l : Nat) (C : Nat → Prop) (pre : List α) (x : α) (W : World), (∀ k, C k → k < W.heap.size) → w.heap.size ≤ W.heap.size → I C pre W → pre.length < N →
      assign.wpIn (Fence.wide.inRound l) n P (Exit.then (fun a' W' => Hold C W W' ∧ Below n₀ W W' ∧ ∀ W'', Stays C W' W'' → (∀ k, C k → k < W''.heap.size) → Below n₀ W' W'' → W'.heap.size = W''.heap.size → body.wpIn (Fence.wide.inRound l) n P (bodyEnd C n₀ I Ix (pre ++ [x]) W'') a' W'') (fun _ _ _ => False))
        { tmps := (ps.zip (encs x)).foldl (fun t (p, v) => t.setIfInBounds p v) a.tmps, defers := [] } W)
    (hdone : ∀ (D : Nat) (C : Nat → Prop) (xs : List α) (W : World), C D → w.heap.size ≤ D → S xs → I C xs W → W.heap[D]? = some (.deferred (some [])) → Q .normal { a with defers := { target := .collected D, args := #[] } :: a.defers } W)
    (hstop : ∀ (D : Nat) (C : Nat → Prop) (c : Code) (pre : List α) (W : World), C D → w.heap.size ≤ D → Sp pre → Ix c C pre W → W.heap[D]? = some (.deferred (some [])) → c.wpIn Fence.wide n P Q { a with defers := { target := .collected D, args := #[] } :: a.defers } W) :
    (Code.rangeFunc g ps assign body).wpIn Fence.wide n P Q a w := by
  refine wpIn_rangeFunc ?_
  intro fn hfn
  obtain ⟨rec, hrec⟩ : ∃ rec : LoopState → Option Code → Loop, rec = fun st pe => { state := st, pending := pe, fn, tmps := a.tmps, params := ps, assign, body, defers := w.heap.size } := ⟨_, rfl⟩
  obtain ⟨W1, hW1⟩ : ∃ W1, (w.alloc (.deferred (some []))).alloc (.loop (rec .ready none)) = W1 := ⟨_, rfl⟩
  obtain ⟨L, hLl⟩ : ∃ L, L = w.heap.size + 1 := ⟨_, rfl⟩
  obtain ⟨D, hDl⟩ : ∃ D, D = w.heap.size := ⟨_, rfl⟩
  have hL1 : W1.heap[L]? = some (.loop (rec .ready none)) := by
    rw [← hW1, hLl]; have := World.alloc_heap_new (w.alloc (.deferred (some []))) (.loop (rec .ready none)); rwa [World.size_alloc] at this
  have hK1 : W1.heap[D]? = some (.deferred (some [])) := by
    rw [← hW1, hDl]; exact (Below.heap_alloc _ _ _ (by simp)).trans (World.alloc_heap_new w _)
  have hS1 : ∀ C, Stays C w W1 := fun C => by rw [← hW1]; exact (Stays.alloc C w _).trans (Stays.alloc C _ _)
  have hsz1 : W1.heap.size = w.heap.size + 2 := by rw [← hW1]; simp
  refine ⟨L, [{ target := .collected D, args := #[] }], W1, { target := .fn (.func gf) lb, args := #[.func (.yield L) #[] #[]] }, W1, gf,
    #[.func (.yield L) #[] #[]] ++ lb, W1, ?_, ?_, ?_, ?_, fun h => by simp [Fence.wide] at h, ?_⟩
  · rw [← hW1, hrec, hLl, hDl]; exact run_enterLoop_outer _ _ _ _ _
  · simp only [resolve, hg]
    simp [go_sem]
  · intro f' hf'; exact trivial
  · simp [invoke, go_sem, eg]
  · refine callsIn_wide.2 ?_
    have put : ∀ (C : Nat → Prop), (∀ k, C k → (C k ∨ k = L ∨ k = D)) := fun C k hk => .inl hk
    have fitJ : ∀ (K : (Nat → Prop) → List α → World → Prop) (o : Obj), Fits K → Fits (fun C pre W => K (fun k => C k ∨ k = L ∨ k = D) pre W ∧ (¬ C L ∧ W.heap[L]? = some o) ∧ (¬ C D ∧ W.heap[D]? = some (.deferred (some [])))) := by
      intro K o hK C C' s W W' hj hs hc
      refine ⟨hK _ _ s W W' hj.1 (hs.mono (fun k hk => .inl hk)) (fun k hk => ?_), Fits.block (fun _ => L) (fun _ => o) C C' s W W' hj.2.1 hs hc, Fits.block (fun _ => D) (fun _ => .deferred (some [])) C C' s W W' hj.2.2 hs hc⟩
      rcases hk with hk | hk
      · exact (hc k hk).elim (fun h => .inl (.inl h)) .inr
      · exact .inl (.inr hk)
    refine (hseq L
      (fun C pre W => I (fun k => C k ∨ k = L ∨ k = D) pre W ∧ (¬ C L ∧ W.heap[L]? = some (.loop (rec .ready none))) ∧ (¬ C D ∧ W.heap[D]? = some (.deferred (some []))))
      (fun C pre W => ∃ c, Ix c (fun k => C k ∨ k = L ∨ k = D) pre W ∧ (¬ C L ∧ W.heap[L]? = some (.loop (rec .done (some c)))) ∧ (¬ C D ∧ W.heap[D]? = some (.deferred (some []))))
      W1 (fitJ _ _ hI) (fun C C' s W W' ⟨c, hj⟩ hs hc => ⟨c, fitJ (Ix c) _ (hIx c) C C' s W W' hj hs hc⟩) (hS1 (fun _ => False)).size
      (fun i hi => (hS1 (fun _ => False)).block i (hC0 i hi) (fun h => h)) ⟨(hS1 (fun _ => False)).os, (hS1 (fun _ => False)).tape, (hS1 (fun _ => False)).output, (hS1 (fun _ => False)).size, fun k hk => (hS1 (fun _ => False)).block k (by omega) (fun h => h)⟩ (fun k hk => by have := hC0 k hk; omega) ?_
      ⟨hI C0 _ [] w W1 h0 (hS1 C0) (fun k hk => by exact or3 hk (fun h => .inl h) (fun h => .inr (by omega)) (fun h => .inr (by omega))), ⟨fun h => by have := hC0 _ h; omega, hL1⟩, fun h => by have := hC0 _ h; omega, hK1⟩).mono ?_
    · -- one round
      rintro C pre x W hlt ⟨hi, ⟨hnL, hl⟩, hnD, hk⟩ hlen
      have hLlt : L < W.heap.size := (Array.getElem?_eq_some_iff.1 hl).1
      have hDlt : D < W.heap.size := (Array.getElem?_eq_some_iff.1 hk).1
      have hy := run_yield (P := P) (args := encs x) hl (by rw [hrec]; exact hps x)
      rw [hrec] at hy
      have hR := hround L (fun k => C k ∨ k = L ∨ k = D) pre x W (fun k hk => by exact or3 hk (hlt k) (fun h => h ▸ hLlt) (fun h => h ▸ hDlt)) (by omega) hi hlen
      refine yieldAt_any (m := n) ⟨fn, _, assign, body, hy, roundIn_of_wpIn hfn (wpIn_mono hR ?_)⟩
      intro e a' Wa hpost
      cases e with
      | normal =>
        obtain ⟨hHa, hBa, hbody⟩ := hpost
        have hla : Wa.heap[L]? = some (.loop (rec .ready none)) := (hHa L (.inr (.inl rfl))).trans hl
        have hka : Wa.heap[D]? = some (.deferred (some [])) := (hHa D (.inr (.inr rfl))).trans hk
        have hLa : L < Wa.heap.size := (Array.getElem?_eq_some_iff.1 hla).1
        refine ⟨_, run_beginRound hla (by rw [hrec]), ?_⟩
        obtain ⟨W2, hW2⟩ : ∃ W2, W2 = Wa.putObj L (.loop { rec .ready none with state := .busy }) := ⟨_, rfl⟩
        rw [← hW2]
        have hS2 : Stays (fun k => C k ∨ k = L ∨ k = D) Wa W2 := by rw [hW2]; exact Stays.putObj (.inr (.inl rfl)) _
        have hl2 : W2.heap[L]? = some (.loop { rec .ready none with state := .busy }) := by rw [hW2]; exact World.putObj_heap_same hLa
        have hk2 : W2.heap[D]? = some (.deferred (some [])) := by rw [hW2]; exact (World.putObj_heap_other (by omega)).trans hka
        have hB2 : Below n₀ Wa W2 := by rw [hW2]; exact ⟨rfl, rfl, rfl, by simp, fun k hk => World.putObj_heap_other (by omega)⟩
        have hO2 : ∀ k, C k → W2.heap[k]? = Wa.heap[k]? := by
          intro k hk
          have hkL : k ≠ L := fun e => hnL (by rw [← e]; exact hk)
          rw [hW2]
          exact World.putObj_heap_other hkL
        have hsz2 : W2.heap.size = Wa.heap.size := by rw [hW2]; simp
        refine wpIn_mono (hbody W2 hS2 (fun k hk => by have hbs := hBa.size; exact or3 hk (fun h => by have := hlt k h; omega) (fun h => by omega) (fun h => by omega)) hB2 hsz2.symm) ?_
        have fin : ∀ (jump : Option Code) (W3 : World), Hold (fun k => C k ∨ k = L ∨ k = D) W2 W3 →
            (Instr.endRound L jump).run P W3 = .ok (.bool jump.isNone) (W3.putObj L (.loop (rec (if jump.isNone then .ready else .done) jump))) ∧
            (W3.putObj L (.loop (rec (if jump.isNone then .ready else .done) jump))).heap[L]? = some (.loop (rec (if jump.isNone then .ready else .done) jump)) ∧
            (W3.putObj L (.loop (rec (if jump.isNone then .ready else .done) jump))).heap[D]? = some (.deferred (some [])) := fun jump W3 hk3 => by
          have hl3 := (hk3 L (.inr (.inl rfl))).trans hl2
          have := run_endRound (P := P) jump hl3
          rw [hrec] at this ⊢
          exact ⟨this, World.putObj_heap_same (Array.getElem?_eq_some_iff.1 hl3).1, (World.putObj_heap_other (by omega)).trans ((hk3 D (.inr (.inr rfl))).trans hk2)⟩
        have fits : ∀ (K : (Nat → Prop) → List α → World → Prop), Fits K → ∀ (W3 : World) (o : Obj), K (fun k => C k ∨ k = L ∨ k = D) (pre ++ [x]) W3 → K (fun k => C k ∨ k = L ∨ k = D) (pre ++ [x]) (W3.putObj L o) := fun K hK W3 o h3 => hK.stay h3 (Stays.putObj (.inr (.inl rfl)) _)
        rintro e a3 W3 hp
        cases e with
        | normal =>
          obtain ⟨hH3, hB3, hi3⟩ := hp
          obtain ⟨hr, hl4, hk4⟩ := fin none W3 hH3
          refine ⟨_, _, hr, .inl ⟨rfl, ⟨fits I hI W3 _ hi3, ⟨hnL, hl4⟩, hnD, hk4⟩, fun k hk => ?_, ?_⟩⟩
          · have hkL : k ≠ L := fun e => hnL (by rw [← e]; exact hk)
            rw [World.putObj_heap_other hkL]
            exact (hH3 k (.inl hk)).trans ((hO2 k hk).trans (hHa k (.inl hk)))
          · exact hBa.trans (hB2.trans (hB3.trans ⟨rfl, rfl, rfl, by simp, fun k hk => World.putObj_heap_other (by omega)⟩))
        | ret =>
          obtain ⟨hH3, hi3⟩ := hp
          obtain ⟨hr, hl4, hk4⟩ := fin (some .ret) W3 hH3
          exact ⟨_, _, hr, .inr ⟨rfl, .ret, fits _ (hIx _) W3 _ hi3, ⟨hnL, hl4⟩, hnD, hk4⟩⟩
        | exit id =>
          obtain ⟨hH3, hi3⟩ := hp
          obtain ⟨hr, hl4, hk4⟩ := fin (some (.exit id)) W3 hH3
          exact ⟨_, _, hr, .inr ⟨rfl, .exit id, fits _ (hIx _) W3 _ hi3, ⟨hnL, hl4⟩, hnD, hk4⟩⟩
        | goto t =>
          obtain ⟨hH3, hi3⟩ := hp
          obtain ⟨hr, hl4, hk4⟩ := fin (some (.goto t)) W3 hH3
          exact ⟨_, _, hr, .inr ⟨rfl, .goto t, fits _ (hIx _) W3 _ hi3, ⟨hnL, hl4⟩, hnD, hk4⟩⟩
        | panic ch => exact hp.elim
        | outgrown => exact hp.elim
      | ret => exact hpost.elim
      | exit id => exact hpost.elim
      | goto t => exact hpost.elim
      | panic ch => exact hpost.elim
      | outgrown => exact hpost.elim
    · -- behind the iterator
      rintro e W2 ⟨⟨v, rfl⟩, (⟨xs, C, hS, hi, ⟨hnL, hl⟩, hnD, hk⟩ | ⟨pre, C, hSp, c, hi, ⟨hnL, hl⟩, hnD, hk⟩)⟩
      · exact ⟨none, _, by have := run_endLoop (P := P) hl (by rw [hrec]; simp); rw [hrec] at this; exact this,
          hdone D (fun k => C k ∨ k = L ∨ k = D) xs _ (.inr (.inr rfl)) (by omega) hS (hI.stay hi (Stays.putObj (.inr (.inl rfl)) _)) ((World.putObj_heap_other (by omega)).trans hk)⟩
      · exact ⟨some c, _, by have := run_endLoop (P := P) hl (by rw [hrec]; simp); rw [hrec] at this; exact this,
          hstop D (fun k => C k ∨ k = L ∨ k = D) c pre _ (.inr (.inr rfl)) (by omega) hSp ((hIx c).stay hi (Stays.putObj (.inr (.inl rfl)) _)) ((World.putObj_heap_other (by omega)).trans hk)⟩
end Go.Proofs.YtojemmipkpckbaaR
