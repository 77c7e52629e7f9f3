/- Proved here: what the row of EditTells needs, part 1. Conditions: those of each theorem. Written for this claim by programs; what the claim does not use is left out. -/
import Derived.RangeFuncNested
import Derived.RangeFuncBound
import Derived.RangeFuncCalls
import Derived.RangeFuncLeaves
import Derived.Deep.QuietTactic
import Derived.OwnWalkIn
import Derived.Maps.AppendAt
import Derived.Test.YtcagajobpnpicaaProg
import Derived.Lib.SliceRun
import Derived.Shelf.Abstract
import Derived.Shelf.RegionOpen
import Derived.WalkKit
import Derived.TacticsInMore
import Derived.LoopNIn
import Derived.LoopIn
import Derived.Outline
import Derived.LoopTactic
import Derived.Deep.WholeRow
import Derived.Below
import Derived.Deep.Draws
import Derived.Deep.AppendLies
import Derived.OwnWalk
import Derived.Laws.BytesArg
import Derived.Laws.MakeOwn
import Derived.Laws.OwnMore
import Derived.Deep.OwnRows
import Derived.Tactics
import Derived.Lib.ConvBytes
import Derived.Laws.Slices
import Derived.KernelRfl
import Derived.RowKit3
import Derived.Deep.LoopGhost
import Derived.BigQuiet
import Derived.WideLaws
import Derived.Deep.DeepCutAuto
import Derived.Deep.CutBlock
import Derived.Deep.RegionHeld3
import Derived.Laws.Rows
import Derived.Lib.AppendStr
import Derived.ArgAppend
import Derived.Laws.IdiomCopy
import Derived.OrdersHeld
import Derived.Laws.BitsLemmas
import Derived.RowKit
import Derived.Test.YtcagajobpnpicaaSEditTells0
section
set_option linter.unusedVariables false
namespace Go.Proofs.YtcagajobpnpicaaG
open Go Go.RowKit Go.Proofs.YtcagajobpnpicaaW.PrintWords Go.Proofs.YtcagajobpnpicaaW.PrintLast
theorem zN {α : Type} {d : Kd α} {e : Nat} {w : World} {base : Nat} {ok : Nat → Prop} {v : Value} {xs : List α} (h : d.R e w base ok v xs) (m : Nat) : d.R e (w.drewN m) base ok v xs:=Kd.R_drewN h m
theorem vN {α : Type} {d : Kd α} {e : Nat} {w : World} {base : Nat} {ok : Nat → Prop} {v : Value} {xs : List α} (h : d.V e w base ok v xs) (m : Nat) : d.V e (w.drewN m) base ok v xs:=Kd.V_drewN h m
theorem bN {w : World} {g : Nat} {o : Obj} (h : w.heap[g]? = some o) (n : Nat) : (w.drewN n).heap[g]? = some o:=h
theorem sA {α : Type} (l : List α) (i : Nat) (a : α) : l.toArray.setIfInBounds i a = (l.set i a).toArray:=List.setIfInBounds_toArray l i a
theorem sZ {α : Type} (x : α) (xs : List α) (a : α) : (x :: xs).set 0 a = a :: xs:=List.set_cons_zero
theorem sS {α : Type} (x : α) (xs : List α) (n : Nat) (a : α) : (x :: xs).set (n + 1) a = x :: xs.set n a:=List.set_cons_succ
abbrev tt : Bool:=true
abbrev ff : Bool:=false
abbrev BA : Type:=ByteArray
abbrev nO (k : Nat) (v : Value) : Prop:=some k ≠ v.ownBlock
abbrev nB (k : Nat) (A : Option Addr) (n c : Nat) : Prop:=some k ≠ (.slice A n c : Value).ownBlock

theorem bytesLess_gtr : ∀ x y : List UInt8,(!(Op.bytesLess x y || x == y)) = Op.bytesLess y x
 | [],[]=>rfl
 | _ :: _,[]=>rfl
 | [],_ :: _=>rfl
 | a :: x,b :: y=>by
  have ih:=bytesLess_gtr x y
  have hc : ((a :: x) == (b :: y)) = (a == b && x == y):=rfl
  rw [hc]
  simp only [Op.bytesLess]
  by_cases h1 : a < b
  ·have h2 : ¬ b < a:=fun h=>absurd (UInt8.lt_trans h1 h) (UInt8.lt_irrefl _)
   have h3 : ¬ b = a:=fun h=>by subst h;exact UInt8.lt_irrefl _ h1
   simp [h1,h2,h3]
  ·by_cases h2 : b < a
   ·have h3 : ¬ a = b:=fun h=>by subst h;exact UInt8.lt_irrefl _ h2
    simp [h1,h2,h3]
   ·have h3 : a = b:=UInt8.le_antisymm (UInt8.not_lt.1 h2) (UInt8.not_lt.1 h1)
    subst h3
    simp only [h1,decide_false,Bool.false_or,beq_self_eq_true,Bool.true_and]
    exact ih
theorem str_gtr (t : TypeId) (a b : ByteArray) : binOp .gtr t (.string a) (.string b) = pure (.bool (Op.bytesLess b.toList a.toList)):=by
 rw [← bytesLess_gtr];simp [binOp,Op.stringOp]
theorem str_geq (t : TypeId) (a b : ByteArray) : binOp .geq t (.string a) (.string b) = pure (.bool !(Op.bytesLess a.toList b.toList)):=by simp [binOp,Op.stringOp]
theorem str_leq (t : TypeId) (a b : ByteArray) : binOp .leq t (.string a) (.string b) = pure (.bool !(Op.bytesLess b.toList a.toList)):=by
 rw [← bytesLess_gtr];simp [binOp,Op.stringOp]
end Go.Proofs.YtcagajobpnpicaaG

end

section
set_option linter.unusedVariables false
namespace Go.Proofs.YtcagajobpnpicaaR
open Go Go.RowKit

/-- W' is W but for blocks of C, and new ones. -/
structure Stays (C : Nat → Prop) (W W' : World) : Prop where
 os : W'.os = W.os
 tape : W'.tape = W.tape
 output : W'.output = W.output
 size : W.heap.size ≤ W'.heap.size
 block : ∀ i,i < W.heap.size → ¬ C i → W'.heap[i]? = W.heap[i]?

theorem or3 {a b c q : Prop} (h : a ∨ b ∨ c) (f : a → q) (g : b → q) (k : c → q) : q:=h.elim f (fun h=>h.elim g k)

theorem Stays.refl (C : Nat → Prop) (W : World) : Stays C W W:=⟨rfl,rfl,rfl,Nat.le_refl _,fun _ _ _=>rfl⟩
theorem Stays.mono {C C' : Nat → Prop} {W W' : World} (h : Stays C W W') (hc : ∀ k,C k → C' k) : Stays C' W W' :=
 ⟨h.os,h.tape,h.output,h.size,fun i hi hn=>h.block i hi (fun hk=>hn (hc i hk))⟩
theorem Stays.trans {C : Nat → Prop} {A B D : World} (h : Stays C A B) (k : Stays C B D) : Stays C A D :=
 ⟨k.os.trans h.os,k.tape.trans h.tape,k.output.trans h.output,Nat.le_trans h.size k.size,fun i hi hn=>(k.block i (Nat.lt_of_lt_of_le hi h.size) hn).trans (h.block i hi hn)⟩
/-- Two steps, the second of which may write new blocks too. -/
theorem Stays.trans' {C C' : Nat → Prop} {A B D : World} (h : Stays C A B) (k : Stays C' B D) (hc : ∀ i,i < A.heap.size → C' i → C i) : Stays C A D :=
 ⟨k.os.trans h.os,k.tape.trans h.tape,k.output.trans h.output,Nat.le_trans h.size k.size,fun i hi hn=>(k.block i (Nat.lt_of_lt_of_le hi h.size) (fun hk=>hn (hc i hi hk))).trans (h.block i hi hn)⟩
theorem Stays.alloc (C : Nat → Prop) (W : World) (o : Obj) : Stays C W (W.alloc o):=⟨rfl,rfl,rfl,by simp,fun i hi _=>Below.heap_alloc W o i hi⟩
theorem Stays.putObj {C : Nat → Prop} {W : World} {l : Nat} (hl : C l) (o : Obj) : Stays C W (W.putObj l o) :=
 ⟨rfl,rfl,rfl,by simp,fun i hi hn=>World.putObj_heap_other (fun e=>hn (by rw [e];exact hl))⟩
theorem Stays.setCell {C : Nat → Prop} {W : World} {p : Addr} (hp : C p.block) (u : Value) : Stays C W (W.setCell p u) :=
 ⟨rfl,rfl,rfl,by simp [World.setCell],fun i hi hn=>Below.heap_setCell W p u i (fun e=>hn (by rw [e];exact hp))⟩
theorem Stays.drew (C : Nat → Prop) (W : World) : Stays C W W.drew:=⟨rfl,rfl,rfl,Nat.le_refl _,fun _ _ _=>rfl⟩
theorem Stays.of_below {C : Nat → Prop} {W W' : World} (h : Below W.heap.size W W') : Stays C W W':=⟨h.os,h.tape,h.output,h.size,fun i hi _=>h.block i hi⟩
theorem Stays.of_grownBy {C : Nat → Prop} {W W' : World} {row : Option Nat} (h : W.grownBy W' row) (hr : ∀ k,row = some k → C k) : Stays C W W' :=
 ⟨h.os,h.tape,h.output,h.size,fun i hi hn=>h.block i hi (fun e=>hn (hr i e.symm))⟩

/-- The blocks of C hold in W' what they hold in W. -/
def Hold (C : Nat → Prop) (W W' : World) : Prop:=∀ i,C i → W'.heap[i]? = W.heap[i]?
theorem Hold.refl (C : Nat → Prop) (W : World) : Hold C W W:=fun _ _=>rfl
theorem Hold.trans {C : Nat → Prop} {A B D : World} (h : Hold C A B) (k : Hold C B D) : Hold C A D:=fun i hi=>(k i hi).trans (h i hi)
theorem Hold.of_grownBy {C : Nat → Prop} {W W' : World} {row : Option Nat} (h : W.grownBy W' row) (hlt : ∀ k,C k → k < W.heap.size) (hr : ∀ k,row = some k → ¬ C k) : Hold C W W' :=
 fun i hi=>h.block i (hlt i hi) (fun e=>hr i e.symm hi)
theorem Hold.setCell {C : Nat → Prop} {W : World} {p : Addr} (hn : ¬ C p.block) (u : Value) : Hold C W (W.setCell p u):=fun i hi=>Below.heap_setCell W p u i (fun e=>hn (by rw [← e];exact hi))
theorem below_putObj {n : Nat} {W : World} {D : Nat} (hD : n ≤ D) (o : Obj) : Below n W (W.putObj D o):=⟨rfl,rfl,rfl,by simp,fun k hk=>World.putObj_heap_other (by omega)⟩
/-- What J says, it says of blocks that are not of C: it stays where these are written, where blocks come, and C may take in blocks that were not there. -/
def Fits {β : Type} (J : (Nat → Prop) → β → World → Prop) : Prop :=
 ∀ C C' s W W',J C s W → Stays C W W' → (∀ k,C' k → C k ∨ W.heap.size ≤ k) → J C' s W'

theorem Fits.stay {β : Type} {J : (Nat → Prop) → β → World → Prop} (h : Fits J) {C : Nat → Prop} {s : β} {W W' : World} (hj : J C s W) (hs : Stays C W W') : J C s W':=h C C s W W' hj hs (fun _ hk=>.inl hk)
theorem Fits.and {β : Type} {J K : (Nat → Prop) → β → World → Prop} (h : Fits J) (k : Fits K) : Fits (fun C s W=>J C s W ∧ K C s W) :=
 fun C C' s W W' hj hs hc=>⟨h C C' s W W' hj.1 hs hc,k C C' s W W' hj.2 hs hc⟩
theorem Fits.false {β : Type} : Fits (fun _ (_ : β) _=>False):=fun _ _ _ _ _ hj _ _=>hj
theorem Fits.ex {β γ : Type} {J : γ → (Nat → Prop) → β → World → Prop} (h : ∀ x,Fits (J x)) : Fits (fun C s W=>∃ x,J x C s W):=fun C C' s W W' ⟨x,hj⟩ hs hc=>⟨x,h x C C' s W W' hj hs hc⟩
/-- One block, known whole. -/
theorem Fits.block {β : Type} (b : β → Nat) (o : β → Obj) : Fits (fun C s W=>¬ C (b s) ∧ W.heap[b s]? = some (o s)):=by
 intro C C' s W W' hj hs hc
 have hlt : b s < W.heap.size:=(Array.getElem?_eq_some_iff.1 hj.2).1
 exact ⟨fun hk=>(hc _ hk).elim hj.1 (fun h=>by omega),(hs.block _ hlt hj.1).trans hj.2⟩
/-- What lay below n₀ in w0 lies there still; no block of C lies there. -/
theorem Fits.below {β : Type} (n₀ : Nat) (w0 : World) (hn : n₀ ≤ w0.heap.size) : Fits (fun C (_ : β) W=>(∀ k,C k → n₀ ≤ k) ∧ Below n₀ w0 W):=by
 intro C C' s W W' hj hs hc
 have hsz:=hj.2.size
 refine ⟨fun k hk=>(hc k hk).elim (hj.1 k) (fun h=>by omega),hs.os.trans hj.2.os,hs.tape.trans hj.2.tape,hs.output.trans hj.2.output,Nat.le_trans hsz hs.size,fun k hk=>?_⟩
 exact (hs.block k (by omega) (fun hck=>by have:=hj.1 k hck;omega)).trans (hj.2.block k hk)

/-- The contract of an iterator's value: whatever the caller's invariants J, Jx say of blocks that are none of C. C0: the blocks that the value has captured; n₀: below it nothing is written. -/
def Iter {α : Type} (P : Program) (g : Nat) (lb : Array Value) (encs : α → Array Value) (S Sp : List α → Prop) (N n₀ : Nat) (C0 : Nat → Prop) (w : World) : Prop :=
 ∀ (l : Nat) (J Jx : (Nat → Prop) → List α → World → Prop) (W : World),Fits J → Fits Jx → w.heap.size ≤ W.heap.size → Hold C0 w W → Below n₀ w W → (∀ k,C0 k → k < W.heap.size) →
  (∀ (C : Nat → Prop) (pre : List α) (x : α) (W1 : World),(∀ k,C k → k < W1.heap.size) → J C pre W1 → pre.length < N → YieldAt Fence.wide 0 P l (encs x) W1 fun e W' =>
   (e = .returned (.bool true) ∧ J C (pre ++ [x]) W' ∧ Hold C W1 W' ∧ Below n₀ W1 W') ∨ (e = .returned (.bool false) ∧ Jx C (pre ++ [x]) W' ∧ Hold C W1 W')) →
  J C0 [] W →
  Calls P g (#[.func (.yield l) #[] #[]] ++ lb) W fun e W'=>(∃ v,e = .returned v) ∧ ((∃ xs C,S xs ∧ J C xs W') ∨ (∃ pre C,Sp pre ∧ Jx C pre W'))

/-- How a round's body may be left. -/
def bodyEnd {α : Type} (C : Nat → Prop) (n₀ : Nat) (I : (Nat → Prop) → List α → World → Prop) (Ix : Code → (Nat → Prop) → List α → World → Prop) (xs : List α) (W : World) : Exit → Act → World → Prop
 | .normal,_,W'=>Hold C W W' ∧ Below n₀ W W' ∧ I C xs W'
 | .ret,_,W'=>Hold C W W' ∧ Ix .ret C xs W'
 | .exit id,_,W'=>Hold C W W' ∧ Ix (.exit id) C xs W'
 | .goto t,_,W'=>Hold C W W' ∧ Ix (.goto t) C xs W'
 | .panic _,_,_=>False
 | .outgrown,_,_=>False

theorem yieldAt_any {m m' : Nat} {P : Program} {l : Nat} {args : Array Value} {W : World} {R : Ending → World → Prop} (h : YieldAt Fence.wide m P l args W R) : YieldAt Fence.wide m' P l args W R:=by
 obtain ⟨fn,tmps,assign,body,hy,hR⟩:=h
 exact ⟨fn,tmps,assign,body,hy,hR.1,fun c cs hr=>hR.2 c cs (room_wide _)⟩

/-- A range over a function. hround: one round, the assignment to the loop's variables and the body, from whatever world W'' that differs from the assignment's end in blocks of C alone. -/
theorem range_law {α : Type} {n : Nat} {P : Program} {g : Operand} {ps : Array Tmp} {assign body : Code} {Q : Exit → Act → World → Prop} {a : Act} {w : World}
  {gf : Nat} {lb : Array Value} (hg : a.eval g = .func (.func gf) #[] lb) (eg : ∀ args w,(callFunc gf args).run P w = .ok (.enter gf args) w)
  {encs : α → Array Value} {S Sp : List α → Prop} {N n₀ : Nat} {C0 : Nat → Prop} (hseq : Iter P gf lb encs S Sp N n₀ C0 w) (hC0 : ∀ k,C0 k → k < w.heap.size) (hn0 : n₀ ≤ w.heap.size) (hps : ∀ x,(encs x).size = ps.size)
  (I : (Nat → Prop) → List α → World → Prop) (Ix : Code → (Nat → Prop) → List α → World → Prop) (hI : Fits I) (hIx : ∀ c,Fits (Ix c)) (h0 : I C0 [] w)
  (hround : ∀ (l : Nat) (C : Nat → Prop) (pre : List α) (x : α) (W : World),(∀ k,C k → k < W.heap.size) → w.heap.size ≤ W.heap.size → I C pre W → pre.length < N →
   assign.wpIn (Fence.wide.inRound l) n P (Exit.then (fun a' W'=>Hold C W W' ∧ Below n₀ W W' ∧ ∀ W'',Stays C W' W'' → (∀ k,C k → k < W''.heap.size) → Below n₀ W' W'' → W'.heap.size = W''.heap.size → body.wpIn (Fence.wide.inRound l) n P (bodyEnd C n₀ I Ix (pre ++ [x]) W'') a' W'') (fun _ _ _=>False))
    { tmps:=(ps.zip (encs x)).foldl (fun t (p,v)=>t.setIfInBounds p v) a.tmps,defers:=[] } W)
  (hdone : ∀ (D : Nat) (C : Nat → Prop) (xs : List α) (W : World),C D → w.heap.size ≤ D → S xs → I C xs W → W.heap[D]? = some (.deferred (some [])) → Q .normal { a with defers:={ target:=.collected D,args:=#[] } :: a.defers } W)
  (hstop : ∀ (D : Nat) (C : Nat → Prop) (c : Code) (pre : List α) (W : World),C D → w.heap.size ≤ D → Sp pre → Ix c C pre W → W.heap[D]? = some (.deferred (some [])) → c.wpIn Fence.wide n P Q { a with defers:={ target:=.collected D,args:=#[] } :: a.defers } W) :
  (Code.rangeFunc g ps assign body).wpIn Fence.wide n P Q a w:=by
 refine wpIn_rangeFunc ?_
 intro fn hfn
 obtain ⟨rec,hrec⟩ : ∃ rec : LoopState → Option Code → Loop,rec = fun st pe=>{ state:=st,pending:=pe,fn,tmps:=a.tmps,params:=ps,assign,body,defers:=w.heap.size }:=⟨_,rfl⟩
 obtain ⟨W1,hW1⟩ : ∃ W1,(w.alloc (.deferred (some []))).alloc (.loop (rec .ready none)) = W1:=⟨_,rfl⟩
 obtain ⟨L,hLl⟩ : ∃ L,L = w.heap.size + 1:=⟨_,rfl⟩
 obtain ⟨D,hDl⟩ : ∃ D,D = w.heap.size:=⟨_,rfl⟩
 have hL1 : W1.heap[L]? = some (.loop (rec .ready none)):=by
  rw [← hW1,hLl];have:=World.alloc_heap_new (w.alloc (.deferred (some []))) (.loop (rec .ready none));rwa [World.size_alloc] at this
 have hK1 : W1.heap[D]? = some (.deferred (some [])):=by
  rw [← hW1,hDl];exact (Below.heap_alloc _ _ _ (by simp)).trans (World.alloc_heap_new w _)
 have hS1 : ∀ C,Stays C w W1:=fun C=>by rw [← hW1];exact (Stays.alloc C w _).trans (Stays.alloc C _ _)
 have hsz1 : W1.heap.size = w.heap.size + 2:=by rw [← hW1];simp
 refine ⟨L,[{ target:=.collected D,args:=#[] }],W1,{ target:=.fn (.func gf) lb,args:=#[.func (.yield L) #[] #[]] },W1,gf,
  #[.func (.yield L) #[] #[]] ++ lb,W1,?_,?_,?_,?_,fun h=>by simp [Fence.wide] at h,?_⟩
 ·rw [← hW1,hrec,hLl,hDl];exact run_enterLoop_outer _ _ _ _ _
 ·simp only [resolve,hg]
  simp [go_sem]
 ·intro f' hf';exact trivial
 ·simp [invoke,go_sem,eg]
 ·refine callsIn_wide.2 ?_
  have put : ∀ (C : Nat → Prop),(∀ k,C k → (C k ∨ k = L ∨ k = D)):=fun C k hk=>.inl hk
  have fitJ : ∀ (K : (Nat → Prop) → List α → World → Prop) (o : Obj),Fits K → Fits (fun C pre W=>K (fun k=>C k ∨ k = L ∨ k = D) pre W ∧ (¬ C L ∧ W.heap[L]? = some o) ∧ (¬ C D ∧ W.heap[D]? = some (.deferred (some [])))):=by
   intro K o hK C C' s W W' hj hs hc
   refine ⟨hK _ _ s W W' hj.1 (hs.mono (fun k hk=>.inl hk)) (fun k hk=>?_),Fits.block (fun _=>L) (fun _=>o) C C' s W W' hj.2.1 hs hc,Fits.block (fun _=>D) (fun _=>.deferred (some [])) C C' s W W' hj.2.2 hs hc⟩
   rcases hk with hk|hk
   ·exact (hc k hk).elim (fun h=>.inl (.inl h)) .inr
   ·exact .inl (.inr hk)
  refine (hseq L
   (fun C pre W=>I (fun k=>C k ∨ k = L ∨ k = D) pre W ∧ (¬ C L ∧ W.heap[L]? = some (.loop (rec .ready none))) ∧ (¬ C D ∧ W.heap[D]? = some (.deferred (some []))))
   (fun C pre W=>∃ c,Ix c (fun k=>C k ∨ k = L ∨ k = D) pre W ∧ (¬ C L ∧ W.heap[L]? = some (.loop (rec .done (some c)))) ∧ (¬ C D ∧ W.heap[D]? = some (.deferred (some []))))
   W1 (fitJ _ _ hI) (fun C C' s W W' ⟨c,hj⟩ hs hc=>⟨c,fitJ (Ix c) _ (hIx c) C C' s W W' hj hs hc⟩) (hS1 (fun _=>False)).size
   (fun i hi=>(hS1 (fun _=>False)).block i (hC0 i hi) (fun h=>h)) ⟨(hS1 (fun _=>False)).os,(hS1 (fun _=>False)).tape,(hS1 (fun _=>False)).output,(hS1 (fun _=>False)).size,fun k hk=>(hS1 (fun _=>False)).block k (by omega) (fun h=>h)⟩ (fun k hk=>by have:=hC0 k hk;omega) ?_
   ⟨hI C0 _ [] w W1 h0 (hS1 C0) (fun k hk=>by exact or3 hk (fun h=>.inl h) (fun h=>.inr (by omega)) (fun h=>.inr (by omega))),⟨fun h=>by have:=hC0 _ h;omega,hL1⟩,fun h=>by have:=hC0 _ h;omega,hK1⟩).mono ?_
  · -- one round
   rintro C pre x W hlt ⟨hi,⟨hnL,hl⟩,hnD,hk⟩ hlen
   have hLlt : L < W.heap.size:=(Array.getElem?_eq_some_iff.1 hl).1
   have hDlt : D < W.heap.size:=(Array.getElem?_eq_some_iff.1 hk).1
   have hy:=run_yield (P:=P) (args:=encs x) hl (by rw [hrec];exact hps x)
   rw [hrec] at hy
   have hR:=hround L (fun k=>C k ∨ k = L ∨ k = D) pre x W (fun k hk=>by exact or3 hk (hlt k) (fun h=>h ▸ hLlt) (fun h=>h ▸ hDlt)) (by omega) hi hlen
   refine yieldAt_any (m:=n) ⟨fn,_,assign,body,hy,roundIn_of_wpIn hfn (wpIn_mono hR ?_)⟩
   intro e a' Wa hpost
   cases e with
   | normal =>
    obtain ⟨hHa,hBa,hbody⟩:=hpost
    have hla : Wa.heap[L]? = some (.loop (rec .ready none)):=(hHa L (.inr (.inl rfl))).trans hl
    have hka : Wa.heap[D]? = some (.deferred (some [])):=(hHa D (.inr (.inr rfl))).trans hk
    have hLa : L < Wa.heap.size:=(Array.getElem?_eq_some_iff.1 hla).1
    refine ⟨_,run_beginRound hla (by rw [hrec]),?_⟩
    obtain ⟨W2,hW2⟩ : ∃ W2,W2 = Wa.putObj L (.loop { rec .ready none with state:=.busy }):=⟨_,rfl⟩
    rw [← hW2]
    have hS2 : Stays (fun k=>C k ∨ k = L ∨ k = D) Wa W2:=by rw [hW2];exact Stays.putObj (.inr (.inl rfl)) _
    have hl2 : W2.heap[L]? = some (.loop { rec .ready none with state:=.busy }):=by rw [hW2];exact World.putObj_heap_same hLa
    have hk2 : W2.heap[D]? = some (.deferred (some [])):=by rw [hW2];exact (World.putObj_heap_other (by omega)).trans hka
    have hB2 : Below n₀ Wa W2:=by rw [hW2];exact ⟨rfl,rfl,rfl,by simp,fun k hk=>World.putObj_heap_other (by omega)⟩
    have hO2 : ∀ k,C k → W2.heap[k]? = Wa.heap[k]?:=by
     intro k hk
     have hkL : k ≠ L:=fun e=>hnL (by rw [← e];exact hk)
     rw [hW2]
     exact World.putObj_heap_other hkL
    have hsz2 : W2.heap.size = Wa.heap.size:=by rw [hW2];simp
    refine wpIn_mono (hbody W2 hS2 (fun k hk=>by have hbs:=hBa.size;exact or3 hk (fun h=>by have:=hlt k h;omega) (fun h=>by omega) (fun h=>by omega)) hB2 hsz2.symm) ?_
    have fin : ∀ (jump : Option Code) (W3 : World),Hold (fun k=>C k ∨ k = L ∨ k = D) W2 W3 →
      (Instr.endRound L jump).run P W3 = .ok (.bool jump.isNone) (W3.putObj L (.loop (rec (if jump.isNone then .ready else .done) jump))) ∧
      (W3.putObj L (.loop (rec (if jump.isNone then .ready else .done) jump))).heap[L]? = some (.loop (rec (if jump.isNone then .ready else .done) jump)) ∧
      (W3.putObj L (.loop (rec (if jump.isNone then .ready else .done) jump))).heap[D]? = some (.deferred (some [])):=fun jump W3 hk3=>by
     have hl3:=(hk3 L (.inr (.inl rfl))).trans hl2
     have:=run_endRound (P:=P) jump hl3
     rw [hrec] at this ⊢
     exact ⟨this,World.putObj_heap_same (Array.getElem?_eq_some_iff.1 hl3).1,(World.putObj_heap_other (by omega)).trans ((hk3 D (.inr (.inr rfl))).trans hk2)⟩
    have fits : ∀ (K : (Nat → Prop) → List α → World → Prop),Fits K → ∀ (W3 : World) (o : Obj),K (fun k=>C k ∨ k = L ∨ k = D) (pre ++ [x]) W3 → K (fun k=>C k ∨ k = L ∨ k = D) (pre ++ [x]) (W3.putObj L o):=fun K hK W3 o h3=>hK.stay h3 (Stays.putObj (.inr (.inl rfl)) _)
    rintro e a3 W3 hp
    cases e with
    | normal =>
     obtain ⟨hH3,hB3,hi3⟩:=hp
     obtain ⟨hr,hl4,hk4⟩:=fin none W3 hH3
     refine ⟨_,_,hr,.inl ⟨rfl,⟨fits I hI W3 _ hi3,⟨hnL,hl4⟩,hnD,hk4⟩,fun k hk=>?_,?_⟩⟩
     ·have hkL : k ≠ L:=fun e=>hnL (by rw [← e];exact hk)
      rw [World.putObj_heap_other hkL]
      exact (hH3 k (.inl hk)).trans ((hO2 k hk).trans (hHa k (.inl hk)))
     ·exact hBa.trans (hB2.trans (hB3.trans ⟨rfl,rfl,rfl,by simp,fun k hk=>World.putObj_heap_other (by omega)⟩))
    | ret =>
     obtain ⟨hH3,hi3⟩:=hp
     obtain ⟨hr,hl4,hk4⟩:=fin (some .ret) W3 hH3
     have hold : ∀ o : Obj,Hold C W (W3.putObj L o):=fun o k hk=>by
      have hkL : k ≠ L:=fun e=>hnL (by rw [← e];exact hk)
      rw [World.putObj_heap_other hkL]
      exact (hH3 k (.inl hk)).trans ((hO2 k hk).trans (hHa k (.inl hk)))
     exact ⟨_,_,hr,.inr ⟨rfl,⟨.ret,fits _ (hIx _) W3 _ hi3,⟨hnL,hl4⟩,hnD,hk4⟩,hold _⟩⟩
    | exit id =>
     obtain ⟨hH3,hi3⟩:=hp
     obtain ⟨hr,hl4,hk4⟩:=fin (some (.exit id)) W3 hH3
     have hold : ∀ o : Obj,Hold C W (W3.putObj L o):=fun o k hk=>by
      have hkL : k ≠ L:=fun e=>hnL (by rw [← e];exact hk)
      rw [World.putObj_heap_other hkL]
      exact (hH3 k (.inl hk)).trans ((hO2 k hk).trans (hHa k (.inl hk)))
     exact ⟨_,_,hr,.inr ⟨rfl,⟨.exit id,fits _ (hIx _) W3 _ hi3,⟨hnL,hl4⟩,hnD,hk4⟩,hold _⟩⟩
    | goto t =>
     obtain ⟨hH3,hi3⟩:=hp
     obtain ⟨hr,hl4,hk4⟩:=fin (some (.goto t)) W3 hH3
     have hold : ∀ o : Obj,Hold C W (W3.putObj L o):=fun o k hk=>by
      have hkL : k ≠ L:=fun e=>hnL (by rw [← e];exact hk)
      rw [World.putObj_heap_other hkL]
      exact (hH3 k (.inl hk)).trans ((hO2 k hk).trans (hHa k (.inl hk)))
     exact ⟨_,_,hr,.inr ⟨rfl,⟨.goto t,fits _ (hIx _) W3 _ hi3,⟨hnL,hl4⟩,hnD,hk4⟩,hold _⟩⟩
    | panic ch=>exact hp.elim
    | outgrown=>exact hp.elim
   | ret=>exact hpost.elim
   | exit id=>exact hpost.elim
   | goto t=>exact hpost.elim
   | panic ch=>exact hpost.elim
   | outgrown=>exact hpost.elim
  · -- behind the iterator
   rintro e W2 ⟨⟨v,rfl⟩,(⟨xs,C,hS,hi,⟨hnL,hl⟩,hnD,hk⟩|⟨pre,C,hSp,c,hi,⟨hnL,hl⟩,hnD,hk⟩)⟩
   ·exact ⟨none,_,by have:=run_endLoop (P:=P) hl (by rw [hrec];simp);rw [hrec] at this;exact this,
     hdone D (fun k=>C k ∨ k = L ∨ k = D) xs _ (.inr (.inr rfl)) (by omega) hS (hI.stay hi (Stays.putObj (.inr (.inl rfl)) _)) ((World.putObj_heap_other (by omega)).trans hk)⟩
   ·exact ⟨some c,_,by have:=run_endLoop (P:=P) hl (by rw [hrec];simp);rw [hrec] at this;exact this,
     hstop D (fun k=>C k ∨ k = L ∨ k = D) c pre _ (.inr (.inr rfl)) (by omega) hSp ((hIx c).stay hi (Stays.putObj (.inr (.inl rfl)) _)) ((World.putObj_heap_other (by omega)).trans hk)⟩
end Go.Proofs.YtcagajobpnpicaaR

end

section
set_option linter.unusedVariables false
namespace Go.Proofs.YtcagajobpnpicaaR
open Go Go.RowKit Go.Proofs.YtcagajobpnpicaaW.PrintWords

theorem fits_R {β α : Type} (d : Kd α) (e base : Nat) (q : Nat → Prop) (v : β → Value) (f : β → List α) : Fits (fun C s W=>d.R e W base (fun k=>¬ C k ∧ q k) (v s) (f s)) :=
 fun C C' s W W' h hs hc=>Kd.R_mono (Kd.R_move (Kd.R_bound h) (fun k hk=>hs.block k hk.2.2.1 hk.1.1)) (fun k hk=>⟨fun h'=>(hc k h').elim hk.1.1 (fun h2=>by have:=hk.2.2.1;omega),hk.1.2⟩)
theorem R_putObj {α : Type} {d : Kd α} {e base D : Nat} {W : World} {ok : Nat → Prop} {v : Value} {xs : List α} (h : d.R e W base ok v xs) (hD : ¬ ok D) (o : Obj) : d.R e (W.putObj D o) base (fun _=>True) v xs :=
 Kd.R_mono (Kd.R_move h (fun k hk=>World.putObj_heap_other (fun e=>hD (by rw [← e];exact hk)))) (fun _ _=>trivial)
theorem R_setCell {α : Type} {d : Kd α} {e base : Nat} {p : Addr} {W : World} {ok : Nat → Prop} {v : Value} {xs : List α} (h : d.R e W base ok v xs) (hp : ¬ ok p.block) (u : Value) : d.R e (W.setCell p u) base ok v xs :=
 Kd.R_move h (fun k hk=>Below.heap_setCell W p u k (fun e=>hp (by rw [← e];exact hk)))

theorem ret_int {k : IntKind} {a b : Int} (h : a = b) : Ending.returned (.int k a) = .returned (.int k b):=by rw [h]
theorem box_cell {b : Nat} {w : World} {t : TypeId} {v : Value} (h : w.heap[b]? = some (.cells #[v] t)) : w.cell? ⟨b,0,none⟩ = some v:=by simp [World.cell?,h]
theorem box_frozen {b : Nat} {w : World} {t : TypeId} {v : Value} (h : w.heap[b]? = some (.cells #[v] t)) : w.frozen? ⟨b,0,none⟩ = false:=by simp [World.frozen?,h]
theorem box_set {b : Nat} {w : World} {t : TypeId} {v : Value} (h : w.heap[b]? = some (.cells #[v] t)) (u : Value) : (w.setCell ⟨b,0,none⟩ u).heap[b]? = some (.cells #[u] t):=blk_set h 0 u
theorem box_new (W : World) (v : Value) (t : TypeId) : (W.alloc (.cells #[v] t)).heap[W.heap.size]? = some (.cells #[v] t):=World.alloc_heap_new W _
def boxN (b : Nat) (w : World) : Nat:=match w.cell? ⟨b,0,none⟩ with|some (.int _ y)=>y.toNat|_=>0
theorem boxN_eq {b : Nat} {w : World} {k : IntKind} {y : Int} (h : w.cell? ⟨b,0,none⟩ = some (.int k y)) : boxN b w = y.toNat:=by simp [boxN,h]

section
variable {F : Fence} {n : Nat} {P : Program} {ops : Array Oper} {rest : List Oper} {o : Oper} {a : Act} {Q : Exit → Act → World → Prop} {α : Type}
/-- append(v, x) within a fence, behind 'gi_at_builtin'; the goal's world is 'W.alloc' of the variadic's box. -/
theorem appendIn (d : Kd α) {W : World} (base : Nat) (hgd : o.guard = none) (s x : Operand) (t e : TypeId) (z : Value) (bytes : Nat)
  (ho : o.op = .call { callee:=.builtin .append,args:=#[s,x],argTypes:=#[t,t] })
  (ht : P.underlying t = some (.slice e)) (hinfo : (P.info? e).map (fun i=>(i.zero,i.size,i.bytes)) = some (some z,d.sz,bytes)) (hz : z.cells.size = d.sz) (hs0 : 0 < d.sz) (hb0 : 0 < bytes)
  (v : Value) (xs : List α) (p : α) (cs : List Value) (ok okp : Nat → Prop) (hs : a.eval s = v) (hx : a.eval x = .slice (some ⟨W.heap.size,0,none⟩) 1 1) (hp : d.M W base okp p cs) (hokp : ∀ k,okp k → ok k ∧ some k ≠ v.ownBlock) (hfresh : ∀ k,W.heap.size ≤ k → ok k)
  (HO : d.R e W base ok v xs) (hbase : base ≤ W.heap.size) (hl : (xs.length + 1) * bytes ≤ 140737488355328)
  (h : ∀ v1 w1,d.R e w1 base ok v1 (xs ++ [p]) → W.grownBy w1 v.ownBlock → (∃ g c,v1 = .slice (some ⟨g,0,none⟩) (xs.length + 1) c) → wpListIn F n P ops Q rest (a.put o.dst v1) w1) :
  wpListIn F n P ops Q (o :: rest) a (W.alloc (.cells cs.toArray e)):=by
 obtain ⟨h0,inner,hown,hr⟩:=HO
 obtain ⟨i0,hi,hzz⟩:=Option.map_eq_some_iff.1 hinfo
 simp only [Prod.mk.injEq] at hzz
 obtain ⟨hz0,hz1,hz2⟩:=hzz
 have hys : cs.length = d.sz:=d.K_len (d.K_of_M hp)
 have h1:=d.K_one (d.K_of_M hp)
 have hlen : xs.length + 1 ≤ 140737488355328:=Nat.le_trans (Nat.le_mul_of_pos_right _ hb0) hl
 refine wpListIn_plain hgd fun K hK'=>?_
 obtain ⟨v1,w1,hrun,hown1,hg1,_,hat⟩:=run_append_own_at (P:=P) (W.alloc (.cells cs.toArray e)) base t o.type e i0 z d.sz bytes ht hi hz0 hz1 hz2 hz hs0 v xs.length inner (hown.alloc _) ⟨W.heap.size,0,none⟩ 1 1 cs (by rw [hys];simp)
  (by simpa using World.news_of_block (cs:=cs.toArray) (t:=e) (fr:=(0,0)) (heap_alloc_new W (.cells cs.toArray e))) h1 (by simp only [maxLen];omega) hl (by simp;omega)
 have hg : W.grownBy w1 v.ownBlock:=World.grownBy.trans (World.grownBy_alloc W _ _) hg1
 have hat' : v1.ownBlock = v.ownBlock ∨ ∃ b,v1.ownBlock = some b ∧ W.heap.size ≤ b:=by
  rcases hat with hat|hat
  ·exact .inl hat
  ·exact .inr ⟨_,hat,by simp⟩
 have hR:=Kd.R_appended h0 hr hp hokp hfresh hown1 hg hat'
 have hform : ∃ g c,v1 = .slice (some ⟨g,0,none⟩) (xs.length + 1) c:=by
  obtain ⟨g,cap,he,_⟩:=Kd.R_form hR (by simp)
  exact ⟨g,cap,by simpa using he⟩
 unfold Oper.wpIn
 refine ⟨?_,?_⟩
 ·simp [Oper.about,ho,resolve,Target.leads,Sem.run_pure]
 ·rw [Oper.semAt_plain F _ _ (by rw [ho];intro c hc';cases hc')]
  simp [execOp,ho,resolve,invoke,builtin,hs,hx,hrun,Result.andThen]
  exact hK' _ _ (h v1 w1 hR hg hform)
end
end Go.Proofs.YtcagajobpnpicaaR
namespace Go.Proofs.YtcagajobpnpicaaG
open Go Go.RowKit Go.Proofs.YtcagajobpnpicaaW.PrintWords
/-- What a conversion of bytes to a string wants of the world stays where nothing that was there is written. -/
theorem conv_stays {P : Program} {w : World} {src dst e : TypeId} {A : Option Addr} {n c : Nat} {xs : List Int} (hs : P.underlying src = some (.slice e)) (he : P.underlying e = some (.int .u8)) (hd : P.underlying dst = some .string)
  (h : (Kd.int .u8).C w A n xs) : ∃ S : World → Prop,S w ∧ (∀ w1 w2,S w1 → Below w1.heap.size w1 w2 → S w2) ∧ ∀ w',S w' → (convert src dst (.slice A n c)).run P w' = .ok (.string (strOfNums xs)) w' :=
 ⟨fun w'=>(Kd.int .u8).C w' A n xs,h,fun _ _ h hb=>Kd.C_below h hb,fun _ h=>Kd.C_string hs he hd h⟩
end Go.Proofs.YtcagajobpnpicaaG

end

section
set_option linter.unusedVariables false
set_option linter.unusedSimpArgs false
namespace Go.Proofs.YtcagajobpnpicaaG
open Go Go.RowKit Go.Proofs.YtcagajobpnpicaaR Go.Proofs.YtcagajobpnpicaaW.PrintWords
attribute [local go_sem] Oper.semAt_some

theorem info5 : (Try.prog.info? 5).map (fun i=>(i.zero,i.size,i.bytes)) = some (some (.int .u8 0),1,1):=by kernel_rfl

def slices_Clone_byte_byte.f (l0 : List Int) : Option (List Int):=if l0.length < 140737488355328 then some l0 else none

set_option maxHeartbeats 1000000 in
theorem slices_Clone_byte_byte.calls (A0 : Option Addr) (c0 : Nat) (l0 : List Int) (r : List Int) (w : World) (hr0 : Kd.C (Kd.int .u8) w A0 l0.length l0) (hc0 : l0.length ≤ c0) (h : slices_Clone_byte_byte.f l0 = some r) :
  Calls Try.prog 76 #[.slice A0 l0.length c0] w fun e w'=>∃ v0_ : Value,e = .returned (v0_) ∧ Kd.R (Kd.int .u8) 5 w' w.heap.size (fun _=>True) v0_ r ∧ Below w.heap.size w w':=by
 have HR0:=Aside0.mk hr0
 have HC0:=Aside0.mk hc0
 clear hr0 hc0
 unfold slices_Clone_byte_byte.f at h
 by_cases hl : l0.length < 140737488355328
 ·rw [if_pos hl] at h
  obtain rfl:=Option.some.inj h
  clear h
  have HL:=Aside0.mk hl
  clear hl
  have hnil:=fun W=>Lib.run_eql_slice_nil (P:=Try.prog) W 26 5 A0 l0.length c0 0 0 Try.underlying26
  cases A0 with
  | none =>
   have hz : l0 = []:=by
    cases l0 with
    | nil=>rfl
    | cons x xs =>
     obtain ⟨ad,e,_⟩:=HR0.out.2.2 (by simp)
     cases e
   subst hz
   have hnil0:=fun W=>Lib.run_eql_slice_nil (P:=Try.prog) W 26 5 none 0 c0 0 0 Try.underlying26
   clear hnil
   go_enter Try.func76,Try.ntmps76
   go_wp2
   go_ret
   exact ⟨_,rfl,Kd.R_nil _ _ _ _ _,Below.refl _ _⟩
  | some ad =>
   have HE : Aside0 ((w.alloc (.cells #[] 5)).ownsRow w.heap.size 5 1 (.slice (some ⟨w.heap.size,0,none⟩) 0 0) 0 (nums .u8 [])):=⟨own_lit w w.heap.size 5 .u8 [] (Nat.le_refl _) (by simp)⟩
   go_enter Try.func76,Try.ntmps76
   go_wp2_with (first|((with_reducible refine gate_builtin (b:=.append) (xs:=#[.tmp 5,.tmp 6]) rfl ?_);at_builtin;refine Kd.R_append_rows (Kd.int .u8) (w0:=w) w.heap.size rfl (.tmp 5) (.tmp 6) 26 5 (.int .u8 0) 1 rfl Try.underlying26 info5 rfl (by decide) (by omega) (.slice (some ⟨w.heap.size,0,none⟩) 0 0) ([] : List Int) l0 _ _ _ (fun _=>True) (fun _=>False) rfl rfl ?aO ?aR (fun _ _ h=>h) (fun _ h=>h.elim) ?aF ?aB ?aS ?aL ?_;(case aR=>exact Kd.C_alloc HR0.out _);(case aB=>exact (Below.refl _ _).alloc (Nat.le_refl _) _);(case aF=>exact (fun _ _=>trivial));(case aO=>exact Kd.R_of_own (xs:=([] : List Int)) HE.out (fun _ _=>trivial));(case aS=>exact by simp);(case aL=>have:=HL.out;simp;omega);intro v1 w1 ho hb hg hat;have HO:=Aside0.mk ho;have HB:=Aside0.mk hb;clear ho hb hg hat))
   go_ret
   exact ⟨_,rfl,HO.out,HB.out⟩
 ·rw [if_neg hl] at h
  cases h

def slices_IndexFunc_byte_byte.f (l0 : List Int) : Option Int:=some (if l0.findIdx (· < 128) < l0.length then (l0.findIdx (· < 128) : Int) else -1)

set_option maxHeartbeats 1000000 in
theorem slices_IndexFunc_byte_byte.calls (A0 : Option Addr) (c0 : Nat) (l0 : List Int) (r : Int) (w : World) (hr0 : Kd.C (Kd.int .u8) w A0 l0.length l0) (hc0 : l0.length ≤ c0) (h : slices_IndexFunc_byte_byte.f l0 = some r) :
  Calls Try.prog 82 #[.slice A0 l0.length c0,.func (.func 83) #[] #[]] w fun e w'=>e = .returned (.int .i64 r) ∧ Drawn0 w w':=by
 have hR:=Aside0.mk (Kd.reads_of_C (d:=(0 : Int)) hr0)
 have hm:=hr0.2.1
 have HC0:=Aside0.mk hc0
 have H:=Aside0.mk (Option.some.inj h)
 clear hr0 hc0 h
 go_enter Try.func82,Try.ntmps82
 go_wp2
 go_loop [5,8] (fun v5 v8=>∃ k : Nat,k ≤ l0.length ∧ v8 = .int .i64 k ∧ Aside0 (∀ j,j < k → ¬ (l0.getD j 0 < 128))) (fun _ v8=>l0.length - (intOf v8).toNat)
 case atStart=>exact ⟨0,Nat.zero_le _,rfl,⟨fun j hj=>absurd hj (Nat.not_lt_zero _)⟩⟩
 case round =>
  obtain ⟨k,hk,rfl,hall⟩:=hrel
  by_cases hlt : k < l0.length
  ·obtain ⟨ad,e,hc⟩:=hR.out.2.2 (by omega)
   subst e
   have hck:=hc k hlt
   clear hc
   go_wp2
   case roundEnd =>
    rename_i h
    refine ⟨⟨k + 1,by omega,by go_num,⟨fun j hj=>?_⟩⟩,by simp [intOf];omega⟩
    rcases Nat.lt_or_ge j k with h1|h1
    ·exact hall.out j h1
    ·obtain rfl : j = k:=by omega
     simpa [hlt] using h
   have h : l0[k] < 128:=by assumption
   go_ret
   have e1 : l0.findIdx (· < 128) = k:=by
    refine (List.findIdx_eq hlt).2 ⟨by simpa using h,fun j hj=>?_⟩
    have:=hall.out j hj
    rw [List.getD_eq_getElem?_getD,List.getElem?_eq_getElem (by omega)] at this
    simpa using this
   have e2:=H.out
   rw [e1,if_pos hlt] at e2
   exact ⟨ret_int e2,Drawn0.refl _⟩
  ·go_wp2
   go_ret
   have e1 : l0.findIdx (· < 128) = l0.length:=by
    refine List.findIdx_eq_length.2 (fun x hx=>?_)
    obtain ⟨j,hj,rfl⟩:=List.getElem_of_mem hx
    have:=hall.out j (by omega)
    rw [List.getD_eq_getElem?_getD,List.getElem?_eq_getElem hj] at this
    simpa using this
   have e2:=H.out
   rw [e1,if_neg (Nat.lt_irrefl _)] at e2
   exact ⟨ret_int e2,Drawn0.refl _⟩

theorem or128_fin : ∀ b : Fin 256,(b.val ||| 128) = b.val % 128 + 128:=by decide +kernel
theorem or128 (y : Nat) : bits .or .u8 ((y : Int) % 256) 128 = ((y % 128 + 128 : Nat) : Int):=by
 have h:=or128_fin ⟨y % 256,by omega⟩
 show IntKind.u8.wrap ((BitVec.ofInt 8 ((y : Int) % 256) ||| BitVec.ofInt 8 128).toNat : Int) = _
 have e1 : BitVec.ofInt 8 ((y : Int) % 256) = BitVec.ofNat 8 (y % 256):=by
  rw [show ((y : Int) % 256) = ((y % 256 : Nat) : Int) from by omega,BitVec.ofInt_natCast]
 rw [e1,BitVec.toNat_or,BitVec.toNat_ofNat]
 simp only [Nat.reducePow,Nat.mod_mod]
 rw [show (BitVec.ofInt 8 128).toNat = 128 from rfl,h,IntKind.wrap_u8]
 simp only
 omega

/-- The number that bytes say, seven bits each, the lowest first. -/
def val7 : List Int → Nat
 | []=>0
 | c :: cs=>(c % 128).toNat + 128 * val7 cs
/-- Does a number stand ahead, in its shortest form, and is it no greater than a word? -/
def takeOk (l : List Int) : Bool:=decide (l.findIdx (· < 128) < l.length) && decide (l.findIdx (· < 128) < 10) && !(decide (0 < l.findIdx (· < 128)) && decide (l.getD (l.findIdx (· < 128)) 0 = 0)) && !(decide (l.findIdx (· < 128) = 9) && decide (1 < l.getD 9 0))
def nums_Take.f (l0 : List Int) : Option (Int × List Int × Bool) :=
 if (∀ c ∈ l0,0 ≤ c ∧ c < 256) ∧ l0.length < 140737488355328 then
  some (if takeOk l0 = true then ((val7 (l0.take (l0.findIdx (· < 128) + 1)) : Int),l0.drop (l0.findIdx (· < 128) + 1),true) else (0,[],false))
 else none

set_option maxRecDepth 100000 in
set_option maxHeartbeats 2000000 in
theorem take_no (A0 : Option Addr) (c0 : Nat) (l0 : List Int) (w : World) (hr0 : Kd.C (Kd.int .u8) w A0 l0.length l0) (hc0 : l0.length ≤ c0) (h : takeOk l0 = false) :
  Calls Try.prog 79 #[.slice A0 l0.length c0] w fun e w'=>∃ v1_ : Value,e = .returned (.tuple #[.int .u64 0,v1_,.bool false]) ∧ Kd.R (Kd.int .u8) 5 w' w.heap.size (fun _=>True) v1_ [] ∧ Below w.heap.size w w':=by
 have hm:=hr0.2.1
 have HR:=Aside0.mk hr0
 have hcl : ∀ W (hb : Below w.heap.size w W) (i : Int),i = (if l0.findIdx (· < 128) < l0.length then (l0.findIdx (· < 128) : Int) else -1) → Calls Try.prog 82 #[.slice A0 l0.length c0,.func (.func 83) #[] #[]] W fun e w'=>e = .returned (.int .i64 i) ∧ Drawn0 W w' :=
  fun W hb i hi=>slices_IndexFunc_byte_byte.calls A0 c0 l0 i W (Kd.C_below hr0 hb) hc0 (by rw [hi];rfl)
 have HCL:=Aside0.mk hcl
 clear hcl hr0 hc0
 by_cases h1 : l0.findIdx (· < 128) < l0.length
 ·generalize hi : l0.findIdx (· < 128) = i at *
  rw [if_pos h1] at HCL
  obtain ⟨ad,e,hc⟩:=(Kd.reads_of_C (d:=(0 : Int)) HR.out).2.2 (by omega)
  subst e
  have hcw : ∀ W (hd : Drawn0 w W) j,j < l0.length → W.cell? (ad.add j) = some (.int .u8 (l0.getD j 0)):=fun W hd j hj=>pw_cell_below hd.below (hc j hj)
  have HCW:=Aside0.mk hcw
  clear hcw hc
  have hnz : (((i : Int) + 1) == 0) = false:=beq_eq_false_iff_ne.2 (by omega)
  by_cases h10 : 10 ≤ i
  ·clear h
   go_enter Try.func79,Try.ntmps79
   go_wp2_with (go_at_call 82;refine (HCL.out _ (Below.refl _ _) (i : Int) rfl).mono ?_;rintro e w1 ⟨rfl,hd⟩;have HD:=Aside0.mk hd;clear hd)
   go_ret3
   exact ⟨_,rfl,Kd.R_nil _ _ _ _ _,HD.out.below⟩
  ·by_cases h0 : 0 < i ∧ l0.getD i 0 = 0
   ·obtain ⟨h01,h02⟩:=h0
    clear h
    have H02:=Aside0.mk h02
    clear h02
    go_enter Try.func79,Try.ntmps79
    go_wp2_with (go_at_call 82;refine (HCL.out _ (Below.refl _ _) (i : Int) rfl).mono ?_;rintro e w1 ⟨rfl,hd⟩;have HD:=Aside0.mk hd;have hck:=HCW.out _ hd i h1;rw [H02.out] at hck;clear hd)
    go_ret3
    exact ⟨_,rfl,Kd.R_nil _ _ _ _ _,HD.out.below⟩
   ·have h9 : i = 9 ∧ 1 < l0.getD i 0:=by
     simp only [takeOk,hi] at h
     have e9 : i < 10:=by omega
     by_cases e : i = 9
     ·subst e
      simp [h1,e9] at h
      have h0' : ¬ l0[9] = 0:=fun e=>h0 ⟨by omega,by rw [List.getD_eq_getElem?_getD,List.getElem?_eq_getElem h1];exact e⟩
      refine ⟨rfl,?_⟩
      rw [List.getD_eq_getElem?_getD,List.getElem?_eq_getElem h1]
      exact h h0'
     ·simp [h1,e9,e] at h
      exact absurd ⟨h.1,by rw [List.getD_eq_getElem?_getD,List.getElem?_eq_getElem h1];exact h.2⟩ h0
    obtain ⟨h9,h92⟩:=h9
    have h91 : ¬ l0.getD i 0 = 0:=fun e=>h0 ⟨by omega,e⟩
    have hle : i ≤ 9:=by omega
    have hge : 9 ≤ i:=by omega
    clear h h0 h9
    generalize hg : l0.getD i 0 = c at *
    have hb1 : (c == 0) = false:=by simpa using h91
    have hb2 : (((i : Int) + 1) == 10) = true:=beq_iff_eq.2 (by omega)
    have Hg:=Aside0.mk hg
    clear hg h91
    go_enter Try.func79,Try.ntmps79
    go_wp2_with (go_at_call 82;refine (HCL.out _ (Below.refl _ _) (i : Int) rfl).mono ?_;rintro e w1 ⟨rfl,hd⟩;have HD:=Aside0.mk hd;have hck:=HCW.out _ hd i h1;rw [Hg.out] at hck;clear hd)
    go_ret3
    exact ⟨_,rfl,Kd.R_nil _ _ _ _ _,HD.out.below⟩
 ·rw [if_neg h1] at HCL
  clear h
  go_enter Try.func79,Try.ntmps79
  go_wp2_with (go_at_call 82;refine (HCL.out _ (Below.refl _ _) (-1) rfl).mono ?_;rintro e w1 ⟨rfl,hd⟩;have HD:=Aside0.mk hd;clear hd)
  go_ret3
  exact ⟨_,rfl,Kd.R_nil _ _ _ _ _,HD.out.below⟩

theorem and127_fin : ∀ b : Fin 256,(b.val &&& 127) = b.val % 128:=by decide +kernel
theorem and127 {d : Int} (h0 : 0 ≤ d) (h1 : d < 256) : bits .and .u8 d 127 = d % 128:=by
 obtain ⟨n,rfl⟩:=Int.eq_ofNat_of_zero_le h0
 have h:=and127_fin ⟨n,by omega⟩
 show IntKind.u8.wrap ((BitVec.ofInt 8 (n : Int) &&& BitVec.ofInt 8 127).toNat : Int) = _
 rw [BitVec.ofInt_natCast,BitVec.toNat_and,BitVec.toNat_ofNat,show (BitVec.ofInt 8 127).toNat = 127 from rfl,Nat.mod_eq_of_lt (by omega)]
 simp only at h
 rw [h,IntKind.wrap_u8]
 omega
theorem bits_or_u64 (a b : Nat) (ha : a < 18446744073709551616) (hb : b < 18446744073709551616) : bits .or .u64 (a : Int) (b : Int) = ((a ||| b : Nat) : Int):=by
 have hx : a ||| b < 2 ^ 64:=Nat.or_lt_two_pow (by omega) (by omega)
 show IntKind.u64.wrap ((BitVec.ofInt 64 (a : Int) ||| BitVec.ofInt 64 (b : Int)).toNat : Int) = _
 rw [BitVec.ofInt_natCast,BitVec.ofInt_natCast,BitVec.toNat_or,BitVec.toNat_ofNat,BitVec.toNat_ofNat,Nat.mod_eq_of_lt (by omega),Nat.mod_eq_of_lt (by omega),IntKind.wrap_u64]
 omega
theorem or_add (a c k : Nat) (h : a < 2 ^ k) : a ||| c * 2 ^ k = a + c * 2 ^ k:=by
 rw [Nat.or_comm,← Nat.shiftLeft_eq,← Nat.shiftLeft_add_eq_or_of_lt h,Nat.add_comm]
theorem val7_lt : ∀ l : List Int,val7 l < 128 ^ l.length
 | []=>by simp [val7]
 | c :: cs=>by
  have:=val7_lt cs
  have h2 : (c % 128).toNat < 128:=by omega
  rw [val7,List.length_cons,Nat.pow_succ]
  omega
theorem val7_snoc : ∀ (l : List Int) (c : Int),val7 (l ++ [c]) = val7 l + (c % 128).toNat * 128 ^ l.length
 | [],c=>by simp [val7]
 | d :: ds,c=>by
  rw [List.cons_append,val7,val7_snoc ds c,val7,List.length_cons,Nat.pow_succ,Nat.mul_add,Nat.add_assoc,Nat.mul_comm (128 ^ ds.length) 128,Nat.mul_left_comm]
theorem take_step (l : List Int) (k : Nat) (hk : k < l.length) (hk9 : k ≤ 9) (h0 : 0 ≤ l.getD k 0) (h1 : l.getD k 0 < 256) (h9 : k = 9 → l.getD k 0 ≤ 1) :
  bits .or .u64 ((val7 (l.take k) : Nat) : Int) (IntKind.u64.wrap (IntKind.u64.wrap (bits .and .u8 (l.getD k 0) 127) * 2 ^ (7 * k))) = ((val7 (l.take (k + 1)) : Nat) : Int):=by
 have e1 : l.take (k + 1) = l.take k ++ [l.getD k 0]:=by
  rw [List.take_succ_eq_append_getElem hk,List.getD_eq_getElem?_getD,List.getElem?_eq_getElem hk];rfl
 have hlen : (l.take k).length = k:=by rw [List.length_take];omega
 have hlt:=val7_lt (l.take k)
 rw [hlen] at hlt
 rw [e1,val7_snoc,hlen,and127 h0 h1]
 generalize l.getD k 0 = d at *
 obtain ⟨n,rfl⟩:=Int.eq_ofNat_of_zero_le h0
 generalize val7 (l.take k) = X at *
 have e128 : (128 : Nat) ^ k = 2 ^ (7 * k):=by rw [show (128 : Nat) = 2 ^ 7 from rfl,← Nat.pow_mul]
 have hm : ((n : Int) % 128).toNat = n % 128:=by omega
 have hb : n % 128 * 2 ^ (7 * k) < 18446744073709551616:=by
  rcases Nat.lt_or_ge k 9 with h|h
  ·have : (2 : Nat) ^ (7 * k) ≤ 2 ^ 56:=Nat.pow_le_pow_right (by omega) (by omega)
   have h3 : n % 128 ≤ 127:=by omega
   calc n % 128 * 2 ^ (7 * k) ≤ 127 * 2 ^ 56:=Nat.mul_le_mul h3 this
    _ < 18446744073709551616:=by decide
  ·obtain rfl : k = 9:=by omega
   have:=h9 rfl
   have h3 : n % 128 ≤ 1:=by omega
   calc n % 128 * 2 ^ (7 * 9) ≤ 1 * 2 ^ (7 * 9):=Nat.mul_le_mul h3 (Nat.le_refl _)
    _ < 18446744073709551616:=by decide
 have hX : X < 18446744073709551616:=by
  have : (2 : Nat) ^ (7 * k) ≤ 2 ^ 63:=Nat.pow_le_pow_right (by omega) (by omega)
  rw [e128] at hlt
  have e63 : (2 : Nat) ^ 63 = 9223372036854775808:=rfl
  omega
 have ew : IntKind.u64.wrap (IntKind.u64.wrap ((n : Int) % 128) * 2 ^ (7 * k)) = ((n % 128 * 2 ^ (7 * k) : Nat) : Int):=by
  have e2 : IntKind.u64.wrap ((n : Int) % 128) = ((n % 128 : Nat) : Int):=by rw [IntKind.wrap_u64];omega
  have e3 : (((n % 128 : Nat) : Int) * 2 ^ (7 * k)) = ((n % 128 * 2 ^ (7 * k) : Nat) : Int):=by push_cast;rfl
  rw [e2,e3,IntKind.wrap_u64]
  omega
 rw [ew,bits_or_u64 _ _ hX hb,hm,e128]
 rw [e128] at hlt
 rw [or_add _ _ _ hlt]

theorem clone_n (A0 : Option Addr) (n c0 : Nat) (l0 : List Int) (w : World) (hn : l0.length = n) (hr0 : Kd.C (Kd.int .u8) w A0 l0.length l0) (hc0 : l0.length ≤ c0) (h : l0.length < 140737488355328) :
  Calls Try.prog 76 #[.slice A0 n c0] w fun e w'=>∃ v0_ : Value,e = .returned (v0_) ∧ Kd.R (Kd.int .u8) 5 w' w.heap.size (fun _=>True) v0_ l0 ∧ Below w.heap.size w w':=by
 subst hn
 exact slices_Clone_byte_byte.calls A0 c0 l0 l0 w hr0 hc0 (by unfold slices_Clone_byte_byte.f;rw [if_pos h])

set_option maxRecDepth 100000 in
set_option maxHeartbeats 4000000 in
theorem take_yes (A0 : Option Addr) (c0 : Nat) (l0 : List Int) (w : World) (hr0 : Kd.C (Kd.int .u8) w A0 l0.length l0) (hc0 : l0.length ≤ c0) (h : takeOk l0 = true) (hby : ∀ c ∈ l0,0 ≤ c ∧ c < 256) (hbig : l0.length < 140737488355328) :
  Calls Try.prog 79 #[.slice A0 l0.length c0] w fun e w'=>∃ v1_ : Value,e = .returned (.tuple #[.int .u64 (val7 (l0.take (l0.findIdx (· < 128) + 1)) : Int),v1_,.bool true]) ∧ Kd.R (Kd.int .u8) 5 w' w.heap.size (fun _=>True) v1_ (l0.drop (l0.findIdx (· < 128) + 1)) ∧ Below w.heap.size w w':=by
 have hm:=hr0.2.1
 have HR:=Aside0.mk hr0
 have HC0:=Aside0.mk hc0
 have hcl : ∀ W (hb : Below w.heap.size w W) (i : Int),i = (if l0.findIdx (· < 128) < l0.length then (l0.findIdx (· < 128) : Int) else -1) → Calls Try.prog 82 #[.slice A0 l0.length c0,.func (.func 83) #[] #[]] W fun e w'=>e = .returned (.int .i64 i) ∧ Drawn0 W w' :=
  fun W hb i hi=>slices_IndexFunc_byte_byte.calls A0 c0 l0 i W (Kd.C_below hr0 hb) hc0 (by rw [hi];rfl)
 have HCL:=Aside0.mk hcl
 clear hcl hr0 
 simp only [takeOk,Bool.and_eq_true,decide_eq_true_eq,Bool.not_eq_true',Bool.and_eq_false_iff,decide_eq_false_iff_not] at h
 generalize hi : l0.findIdx (· < 128) = i at *
 obtain ⟨⟨⟨h1,h2⟩,h3⟩,h4⟩:=h
 rw [if_pos h1] at HCL
 obtain ⟨ad,e,hc⟩:=(Kd.reads_of_C (d:=(0 : Int)) HR.out).2.2 (by omega)
 subst e
 have hcw : ∀ W (hd : Drawn0 w W) j,j < l0.length → W.cell? (ad.add j) = some (.int .u8 (l0.getD j 0)):=fun W hd j hj=>pw_cell_below hd.below (hc j hj)
 have HCW:=Aside0.mk hcw
 clear hcw hc
 have hnz : (((i : Int) + 1) == 0) = false:=beq_eq_false_iff_ne.2 (by omega)
 have hgd : l0.getD i 0 = l0[i]:=by rw [List.getD_eq_getElem?_getD,List.getElem?_eq_getElem h1];rfl
 have H3:=Aside0.mk h3
 have H4:=Aside0.mk h4
 clear h3 h4
 have HI:=Aside0.mk hi
 have HBY:=Aside0.mk hby
 clear hi hby
 generalize hg : l0.getD i 0 = c at *
 have Hg:=Aside0.mk hg
 clear hg hgd
 have hw1 : IntKind.i64.wrap ((i : Int) + 1) = (i : Int) + 1:=IntWalk.i64_in _ (by omega)
 -- the two tests ahead
 have hcase : (0 < i ∧ (c == 0) = false ∧ 9 ≤ i ∧ c ≤ 1 ∧ (((i : Int) + 1) == 10) = true) ∨ (0 < i ∧ (c == 0) = false ∧ i < 9 ∧ (((i : Int) + 1) == 10) = false) ∨ (i ≤ 0 ∧ (((i : Int) + 1) == 10) = false):=by
  rcases Nat.eq_zero_or_pos i with h|h
  ·exact .inr (.inr ⟨by omega,beq_eq_false_iff_ne.2 (by omega)⟩)
  ·have hb1 : (c == 0) = false:=by
    rcases H3.out with h'|h'
    ·omega
    ·simpa using h'
   by_cases h9 : i = 9
   ·refine .inl ⟨h,hb1,by omega,?_,beq_iff_eq.2 (by omega)⟩
    rcases H4.out with h'|h'
    ·exact absurd h9 h'
    ·rw [← Hg.out,h9];omega
   ·exact .inr (.inl ⟨h,hb1,by omega,beq_eq_false_iff_ne.2 (by omega)⟩)
 clear hw1
 have hcut : ∀ W,Drawn0 w W → Kd.C (Kd.int .u8) W (if c0 = i + 1 then some ad else some ⟨ad.block,ad.off + (i + 1),none⟩) (l0.drop (i + 1)).length (l0.drop (i + 1)):=fun W hd=>by
  have:=Kd.C_drop (Kd.C_below HR.out hd.below) (m:=i + 1) (by omega) HC0.out
  have e : (i + 1) * (Kd.int .u8).sz = i + 1:=Nat.mul_one _
  rw [e] at this
  have e2 : (Option.map (fun x=>Addr.add x (i + 1)) (some ad)) = some ⟨ad.block,ad.off + (i + 1),none⟩:=by simp [Addr.add]
  rwa [e2] at this
 have HCUT:=Aside0.mk hcut
 have HBIG : Aside0 ((l0.drop (i + 1)).length < 140737488355328):=⟨by rw [List.length_drop];omega⟩
 have HLD : Aside0 ((l0.drop (i + 1)).length = l0.length - (i + 1)):=⟨List.length_drop⟩
 have hstep : ∀ k,k < i + 1 → bits .or .u64 ((val7 (l0.take k) : Nat) : Int) (IntKind.u64.wrap (IntKind.u64.wrap (bits .and .u8 (l0.getD k 0) 127) * 2 ^ (7 * k))) = ((val7 (l0.take (k + 1)) : Nat) : Int):=fun k hk=>by
  have hkl : k < l0.length:=by omega
  have hmem : l0.getD k 0 ∈ l0:=by rw [List.getD_eq_getElem?_getD,List.getElem?_eq_getElem hkl];exact List.getElem_mem hkl
  refine take_step l0 k hkl (by omega) (HBY.out _ hmem).1 (HBY.out _ hmem).2 (fun e=>?_)
  rcases H4.out with h'|h'
  ·omega
  ·rw [e];omega
 have HSTEP:=Aside0.mk hstep
 have hcn1 : c0 ≤ i + 1 → ∀ W,Drawn0 w W → Calls Try.prog 76 #[.slice (some ad) (l0.length - (i + 1)) 0] W fun e w'=>∃ v0_ : Value,e = .returned (v0_) ∧ Kd.R (Kd.int .u8) 5 w' W.heap.size (fun _=>True) v0_ (l0.drop (i + 1)) ∧ Below W.heap.size W w':=fun hc W hd=>by
  have he : c0 = i + 1:=by have:=HC0.out;omega
  have:=HCUT.out W hd
  rw [if_pos he] at this
  exact clone_n _ _ _ _ W HLD.out this (by have:=HLD.out;have:=HC0.out;omega) HBIG.out
 have hcn2 : ¬ c0 ≤ i + 1 → ∀ W,Drawn0 w W → Calls Try.prog 76 #[.slice (some ⟨ad.block,ad.off + (i + 1),none⟩) (l0.length - (i + 1)) (c0 - (i + 1))] W fun e w'=>∃ v0_ : Value,e = .returned (v0_) ∧ Kd.R (Kd.int .u8) 5 w' W.heap.size (fun _=>True) v0_ (l0.drop (i + 1)) ∧ Below W.heap.size W w':=fun hc W hd=>by
  have:=HCUT.out W hd
  rw [if_neg (by omega)] at this
  exact clone_n _ _ _ _ W HLD.out this (by have:=HLD.out;have:=HC0.out;omega) HBIG.out
 have HCLN1:=Aside0.mk hcn1
 have HCLN2:=Aside0.mk hcn2
 clear hstep hcut hbig hc0 hcn1 hcn2
 obtain ⟨X,hX⟩ : ∃ X : Nat → Nat,X = fun k=>val7 (l0.take k):=⟨_,rfl⟩
 have HX:=Aside0.mk hX
 have HX0 : Aside0 (X 0 = 0):=⟨by rw [hX];rfl⟩
 clear hX
 have hle : i + 1 ≤ c0:=by have:=HC0.out;omega
 by_cases hcap : c0 ≤ i + 1
 all_goals
  rcases hcase with ⟨hp1,hp2,hp3,hp4,hp5⟩|⟨hp1,hp2,hp3,hp5⟩|⟨hp1,hp5⟩
  all_goals
   go_enter Try.func79,Try.ntmps79
   go_wp2_with (go_at_call 82;refine (HCL.out _ (Below.refl _ _) (i : Int) rfl).mono ?_;rintro e w1 ⟨rfl,hd⟩;have HD:=Aside0.mk hd;have hck:=HCW.out _ hd i h1;rw [Hg.out] at hck;clear hd)
   go_loop [6,7,8,44] (fun v6 v7 v8 v44=>∃ k : Nat,k ≤ i + 1 ∧ v44 = .int .i64 k ∧ v6 = .int .u64 (X k)) (fun _ _ _ v44=>i + 1 - (intOf v44).toNat)
   case atStart=>exact ⟨0,Nat.zero_le _,rfl,by rw [HX0.out];rfl⟩
   case round =>
    obtain ⟨k,hk,rfl,rfl⟩:=hrel
    by_cases hlt : k < i + 1
    ·have hckk:=HCW.out _ HD.out k (by omega)
     have HS:=Aside0.mk (HSTEP.out k hlt)
     generalize hg2 : l0.getD k 0 = d at *
     have Hg2:=Aside0.mk hg2
     clear hg2 hck
     go_wp2
     case roundEnd =>
      refine ⟨⟨k + 1,by omega,by go_num,?_⟩,by simp [intOf];omega⟩
      rw [HX.out]
      exact congrArg (Value.int .u64) HS.out
    ·have hki : k = i + 1:=by omega
     subst hki
     go_wp2_with fail
     first
      | (refine (HCLN1.out hcap _ HD.out).mono ?_;rintro e w2 ⟨v,rfl,hv,hb⟩;have HV:=Aside0.mk hv;have HB2:=Aside0.mk hb;clear hv hb;go_wp2;go_ret3;exact ⟨_,by rw [HX.out];rfl,Kd.R_lower HV.out HD.out.below.size,HD.out.below.trans (HB2.out.mono HD.out.below.size)⟩)
      | (refine (HCLN2.out hcap _ HD.out).mono ?_;rintro e w2 ⟨v,rfl,hv,hb⟩;have HV:=Aside0.mk hv;have HB2:=Aside0.mk hb;clear hv hb;go_wp2;go_ret3;exact ⟨_,by rw [HX.out];rfl,Kd.R_lower HV.out HD.out.below.size,HD.out.below.trans (HB2.out.mono HD.out.below.size)⟩)

theorem nums_Take.calls (A0 : Option Addr) (c0 : Nat) (l0 : List Int) (r1 : Int) (r2 : List Int) (r3 : Bool) (w : World) (hr0 : Kd.C (Kd.int .u8) w A0 l0.length l0) (hc0 : l0.length ≤ c0) (h : nums_Take.f l0 = some (r1,r2,r3)) :
  Calls Try.prog 79 #[.slice A0 l0.length c0] w fun e w'=>∃ v1_ : Value,e = .returned (.tuple #[.int .u64 r1,v1_,.bool r3]) ∧ Kd.R (Kd.int .u8) 5 w' w.heap.size (fun _=>True) v1_ r2 ∧ Below w.heap.size w w':=by
 unfold nums_Take.f at h
 by_cases hc : (∀ c ∈ l0,0 ≤ c ∧ c < 256) ∧ l0.length < 140737488355328
 ·rw [if_pos hc] at h
  have h:=Option.some.inj h
  by_cases ho : takeOk l0 = true
  ·rw [if_pos ho] at h
   simp only [Prod.mk.injEq] at h
   obtain ⟨rfl,rfl,rfl⟩:=h
   exact take_yes A0 c0 l0 w hr0 hc0 ho hc.1 hc.2
  ·rw [if_neg ho] at h
   simp only [Prod.mk.injEq] at h
   obtain ⟨rfl,rfl,rfl⟩:=h
   exact take_no A0 c0 l0 w hr0 hc0 (by simpa using ho)
 ·rw [if_neg hc] at h
  cases h

/-- The bytes of a number. -/
def vint (x : Nat) : List Int:=if h : 127 < x then ((x % 128 + 128 : Nat) : Int) :: vint (x / 128) else [(x : Int)]
termination_by x
decreasing_by omega

theorem form_new (x : Nat) (w : World) : Calls Try.prog 78 #[.int .u64 x] w fun e w'=>e = .returned (.func (.func 81) #[] #[.pointer (some ⟨w.heap.size,0,none⟩)]) ∧ w.alloc (.cells #[.int .u64 x] 23) = w':=by
 go_enter Try.func78,Try.ntmps78
 go_wp2
 go_ret
 exact ⟨rfl,rfl⟩

set_option maxRecDepth 100000 in
set_option maxHeartbeats 1000000 in
theorem form_iter (bx n₀ x : Nat) (w : World) (hx : x < 18446744073709551616) (hn : n₀ ≤ bx) (hbx : w.heap[bx]? = some (.cells #[.int .u64 x] 23)) :
  Iter Try.prog 81 #[.pointer (some ⟨bx,0,none⟩)] (fun c : Int=>#[.int .u8 c]) (fun xs=>xs = vint x) (fun _=>True) (vint x).length n₀ (· = bx) w:=by
 intro l J Jx W hJ hJx hsz hH hB hlt hY h0
 refine (callsIn_wide (n:=1)).1 ?_
 refine callsIn_of_wp Try.func81 rfl trivial ?_ rfl
 simp only [Try.ntmps81,List.size_toArray,List.length_cons,List.length_nil,Nat.reduceAdd,Nat.reduceSub,Array.replicate_succ,Array.replicate_zero,List.push_toArray,List.append_toArray,List.nil_append,List.cons_append]
 gi_wp2
 gi_loopw [3] (fun v3 wr=>∃ (pre : List Int) (y : Nat),Aside0 (vint x = pre ++ vint y) ∧ y < 18446744073709551616 ∧ wr.heap[bx]? = some (.cells #[.int .u64 y] 23) ∧ Aside0 (bx < wr.heap.size) ∧ Aside0 (J (· = bx) pre wr))
  (fun v3 wr=>boxN bx wr)
 case atStart=>exact ⟨[],x,⟨by simp⟩,hx,(hH bx rfl).trans hbx,⟨hlt bx rfl⟩,⟨h0⟩⟩
 case round =>
  obtain ⟨pre,y,hv,hy,hcell,hbl,hj⟩:=hrel
  have hc1:=box_cell hcell
  have hf1:=box_frozen hcell
  have hcellw:=Aside0.mk hcell
  clear hcell
  have hlts : ∀ k,k = bx → k < wr.heap.size:=fun k hk=>hk ▸ hbl.out
  by_cases hb : 127 < y
  ·obtain ⟨c,hc⟩ : ∃ c : Int,c = ((y % 128 + 128 : Nat) : Int):=⟨_,rfl⟩
   have hbits : bits .or .u8 ((y : Int) % 256) 128 = c:=(or128 y).trans hc.symm
   have hvy : vint y = c :: vint (y / 128):=by rw [vint,dif_pos hb,hc]
   have Hvy:=Aside0.mk hvy
   clear hvy hc
   obtain ⟨fn,tmps,assign,body,hyy,hR⟩:=hY (· = bx) pre c wr hlts hj.out (by rw [hv.out,Hvy.out];simp)
   gi_wp2
   refine hR.mono ?_
   rintro e W3 (⟨rfl,hJ3,hH3,hB3⟩|⟨rfl,hJx3,_⟩)
   ·have hcell3 : W3.heap[bx]? = some (.cells #[.int .u64 y] 23):=(hH3 bx rfl).trans hcellw.out
    have hc3:=box_cell hcell3
    have hf3:=box_frozen hcell3
    have HJ3:=Aside0.mk hJ3
    have Hcell3:=Aside0.mk hcell3
    have Hbl : Aside0 (bx < W3.heap.size):=⟨blk_lt hcell3⟩
    clear hJ3 hcell3 hH3 hB3 hR hyy hY h0 hB hH
    gi_wp2
    case roundEnd =>
     refine ⟨⟨pre ++ [c],y / 128,⟨by rw [hv.out,Hvy.out];simp⟩,by omega,by rw [box_set Hcell3.out];simp,⟨by simpa [World.setCell] using Hbl.out⟩,⟨hJ.stay HJ3.out (Stays.setCell (C:=(· = bx)) (p:=⟨bx,0,none⟩) rfl _)⟩⟩,?_⟩
     rw [boxN_eq hc1,boxN_eq (box_cell (box_set Hcell3.out _))]
     omega
   ·gi_wp2
    refine bodyPost_ret (results_none rfl _ _ _) rfl ?_
    exact ⟨⟨_,rfl⟩,.inr ⟨_,_,trivial,hJx3⟩⟩
  ·have hvy : vint y = [(y : Int)]:=by rw [vint,dif_neg hb]
   have Hvy:=Aside0.mk hvy
   clear hvy
   obtain ⟨fn,tmps,assign,body,hyy,hR⟩:=hY (· = bx) pre (y : Int) wr hlts hj.out (by rw [hv.out,Hvy.out];simp)
   gi_wp2
   refine hR.mono ?_
   rintro e W3 (⟨rfl,hJ3,hH3,hB3⟩|⟨rfl,hJx3,_⟩)
   ·gi_wp2
    go_end0
    exact ⟨⟨_,rfl⟩,.inl ⟨_,_,by rw [hv.out,Hvy.out],hJ3⟩⟩
   ·gi_wp2
    go_end0
    exact ⟨⟨_,rfl⟩,.inr ⟨_,_,trivial,hJx3⟩⟩

theorem vint_len : ∀ (n x : Nat),x < 128 ^ (n + 1) → (vint x).length ≤ n + 1:=by
 intro n
 induction n with
 | zero=>intro x hx;rw [vint,dif_neg (by omega)];simp
 | succ n ih =>
  intro x hx
  rw [vint]
  split
  ·have:=ih (x / 128) (by rw [Nat.pow_succ] at hx;omega)
   simp;omega
  ·simp
theorem vint_len10 {x : Nat} (hx : x < 18446744073709551616) : (vint x).length ≤ 10:=vint_len 9 x (by omega)

/-- Behind the bytes pre: the box bo holds a row of the call's own, l0 ++ pre. -/
def putI (w : World) (bo : Nat) (l0 : List Int) (C : Nat → Prop) (pre : List Int) (W : World) : Prop :=
 ∃ v,(¬ C bo ∧ W.heap[bo]? = some (.cells #[v] 26)) ∧ Kd.R (Kd.int .u8) 5 W w.heap.size (fun k=>¬ C k ∧ k ≠ bo) v (l0 ++ pre) ∧ ((∀ k,C k → w.heap.size ≤ k) ∧ Below w.heap.size w W)
theorem putI_fits (w : World) (bo : Nat) (l0 : List Int) : Fits (putI w bo l0) :=
 Fits.ex fun v=>(Fits.block (fun _=>bo) (fun _=>.cells #[v] 26)).and ((fits_R (Kd.int .u8) 5 w.heap.size (· ≠ bo) (fun _=>v) (fun pre=>l0 ++ pre)).and (Fits.below _ w (Nat.le_refl _)))

def nums_Put.f (l0 : List Int) (a1 : Int) : Option (List Int):=if 0 ≤ a1 ∧ a1 < 18446744073709551616 ∧ l0.length + 10 < 140737488355328 then some (l0 ++ vint a1.toNat) else none

set_option maxRecDepth 100000 in
set_option maxHeartbeats 2000000 in
theorem nums_Put.calls (A0 : Option Addr) (c0 : Nat) (l0 : List Int) (a1 : Int) (r : List Int) (w : World) (hr0 : Kd.C (Kd.int .u8) w A0 l0.length l0) (hc0 : l0.length ≤ c0) (h : nums_Put.f l0 a1 = some r) :
  Calls Try.prog 65 #[.slice A0 l0.length c0,.int .u64 a1] w fun e w'=>∃ v0_ : Value,e = .returned (v0_) ∧ Kd.R (Kd.int .u8) 5 w' w.heap.size (fun _=>True) v0_ r ∧ Below w.heap.size w w':=by
 unfold nums_Put.f at h
 by_cases hc : 0 ≤ a1 ∧ a1 < 18446744073709551616 ∧ l0.length + 10 < 140737488355328
 ·rw [if_pos hc] at h
  obtain rfl:=Option.some.inj h
  clear h
  obtain ⟨h1,h2,h3⟩:=hc
  obtain ⟨x,rfl⟩:=Int.eq_ofNat_of_zero_le h1
  rw [Int.toNat_natCast]
  have hx : x < 18446744073709551616:=by omega
  clear h1 h2
  have HL:=Aside0.mk h3
  have HX:=Aside0.mk hx
  clear h3 hx
  have hcl:=fun W (hb : Below w.heap.size w W)=>slices_Clone_byte_byte.calls A0 c0 l0 l0 W (Kd.C_below hr0 hb) hc0 (by unfold slices_Clone_byte_byte.f;rw [if_pos (by have:=HL.out;omega)])
  have HCL:=Aside0.mk hcl
  clear hcl hr0 hc0
  refine (callsIn_wide (n:=3)).1 ?_
  refine callsIn_of_wp_marks Try.func65 rfl trivial ?_ rfl
  simp only [Try.ntmps65,List.size_toArray,List.length_cons,List.length_nil,Nat.reduceAdd,Nat.reduceSub,Array.replicate_succ,Array.replicate_zero,List.push_toArray,List.append_toArray,List.nil_append,List.cons_append]
  gi_wp2_with (first|(refine ⟨trivial,?_⟩;gi_at_call 76;refine (callsIn_wide.2 (HCL.out _ (Below.refl _ _))).mono ?_;rintro e w1 ⟨v,rfl,hv,hb⟩;have HV:=Aside0.mk hv;have HB:=Aside0.mk hb;obtain ⟨A1,c1,hv1,hl1,_⟩:=Kd.R_reads hv;subst hv1;clear hv hb hl1)|(refine ⟨trivial,?_⟩;gi_at_call 78;refine (callsIn_wide.2 (form_new _ _)).mono ?_;rintro e w2 ⟨rfl,rfl⟩))
  have hsz1:=HB.out.size
  have hbo : ((w1.alloc (.cells #[.slice A1 l0.length c1] 26)).alloc (.cells #[.int .u64 x] 23)).heap[w1.heap.size]? = some (.cells #[.slice A1 l0.length c1] 26) :=
   (Below.heap_alloc _ _ _ (by simp)).trans (box_new w1 _ _)
  have hbx : ((w1.alloc (.cells #[.slice A1 l0.length c1] 26)).alloc (.cells #[.int .u64 x] 23)).heap[w1.heap.size + 1]? = some (.cells #[.int .u64 x] 23):=by
   have:=box_new (w1.alloc (.cells #[.slice A1 l0.length c1] 26)) (.int .u64 x) 23
   rwa [World.size_alloc] at this
  have hB0 : Below w.heap.size w ((w1.alloc (.cells #[.slice A1 l0.length c1] 26)).alloc (.cells #[.int .u64 x] 23)):=(HB.out.alloc hsz1 _).alloc (by simp;omega) _
  have hR0 : Kd.R (Kd.int .u8) 5 ((w1.alloc (.cells #[.slice A1 l0.length c1] 26)).alloc (.cells #[.int .u64 x] 23)) w.heap.size (fun k=>¬ k = w1.heap.size + 1 ∧ k ≠ w1.heap.size) (.slice A1 l0.length c1) (l0 ++ []):=by
   rw [List.append_nil]
   exact Kd.R_mono (Kd.R_alloc (Kd.R_alloc (Kd.R_bound HV.out) _) _) (fun k hk=>⟨by have:=hk.2.2.1;omega,by have:=hk.2.2.1;omega⟩)
  refine range_law (gf:=81) (lb:=#[.pointer (some ⟨w1.heap.size + 1,0,none⟩)]) rfl (enters_of Try.func81 (by kernel_rfl) rfl)
   (form_iter (w1.heap.size + 1) w.heap.size x _ HX.out (by omega) hbx) (fun k hk=>by subst hk;simp) (by simp;omega) (fun _=>rfl)
   (putI w w1.heap.size l0) (fun _ _ _ _=>False) (putI_fits w w1.heap.size l0) (fun _=>Fits.false)
   ⟨_,⟨by omega,hbo⟩,hR0,fun k hk=>by omega,hB0⟩ ?round ?done ?stop
  case round =>
   intro l C pre c W hlt hle hi hlen
   have HLen : Aside0 ((l0 ++ pre).length + 1 ≤ 140737488355328):=⟨by have:=HL.out;have:=vint_len10 HX.out;rw [List.length_append];omega⟩
   clear hbo hbx hB0 hR0 hlen HCL HV
   gi_wp2
   refine ⟨Hold.refl _ _,Below.refl _ _,fun W'' hst hlt2 hb2 hsz2=>?_⟩
   obtain ⟨v,⟨hnb,hbb⟩,hr,hcn,hB⟩:=(putI_fits w w1.heap.size l0).stay hi hst
   have hc1:=box_cell hbb
   have Hbb:=Aside0.mk hbb
   have HR:=Aside0.mk hr
   have HBW:=Aside0.mk hB
   have Hcn:=Aside0.mk hcn
   have Hlt2:=Aside0.mk hlt2
   have hbs : w.heap.size ≤ W''.heap.size:=hB.size
   clear hbb hr hB hcn hi hst hlt2 hb2 hlt hsz2 hle
   gi_wp2_with (gi_at_builtin;refine appendIn (Kd.int .u8) w.heap.size rfl (.tmp 12) (.tmp 14) 26 5 (.int .u8 0) 1 rfl Try.underlying26 info5 rfl (by decide) (by decide) v (l0 ++ pre) c [.int .u8 c] _ (fun _=>False) rfl rfl ?aP (fun _ h=>h.elim) ?aF HR.out hbs ?aL ?_;(case aP=>exact rfl);(case aF=>exact fun k hk=>⟨fun h=>by have:=Hlt2.out k h;omega,by have:=blk_lt Hbb.out;omega⟩);(case aL=>have:=HLen.out;omega);intro v4 w4 hr4 hg4 hf4;obtain ⟨g,cap,hv4⟩:=hf4;subst hv4;have hb4 : w4.heap[w1.heap.size]? = some (.cells #[v] 26):=(hg4.block _ (blk_lt Hbb.out) (fun e=>(HR.out.1 _ e.symm).2 rfl)).trans Hbb.out;have hc4:=box_cell hb4;have hf4:=box_frozen hb4;have HR4:=Aside0.mk hr4;have HG4:=Aside0.mk hg4;have Hb4:=Aside0.mk hb4;clear hr4 hg4 hb4)
   refine ⟨(Hold.of_grownBy HG4.out Hlt2.out (fun k hk=>(HR.out.1 k hk).1)).trans (Hold.setCell hnb _),((Below.refl _ _).grown HG4.out hbs (fun k hk=>Kd.R_base HR.out k hk)).setCell (p:=⟨w1.heap.size,0,none⟩) hsz1 _,_,⟨hnb,box_set Hb4.out _⟩,?_,Hcn.out,(HBW.out.grown HG4.out hbs (fun k hk=>Kd.R_base HR.out k hk)).setCell (p:=⟨w1.heap.size,0,none⟩) hsz1 _⟩
   have:=R_setCell (p:=⟨w1.heap.size,0,none⟩) HR4.out (fun h=>h.2 rfl) (.slice (some ⟨g,0,none⟩) ((l0 ++ pre).length + 1) cap)
   simpa using this
  case done =>
   rintro D C xs W hCD hD rfl ⟨v,⟨hnb,hbb⟩,hr,hcn,hB⟩ hK
   have hc1:=box_cell hbb
   have Hr:=Aside0.mk hr
   have HBW:=Aside0.mk hB
   have HK:=Aside0.mk hK
   clear hr hB hK hbo hbx hB0 hR0 hbb hcn
   gi_wp2
   refine ⟨by simp,.inl ⟨_,_,rfl,run_takeDeferred HK.out,?_⟩⟩
   exact ⟨_,results_tmp rfl _ _ _,v,rfl,R_putObj Hr.out (fun h=>h.1 hCD) _,HBW.out.trans (below_putObj (by simp at hD;omega) _)⟩
  case stop =>
   intro D C c pre W _ _ _ h _
   exact h.elim
 ·rw [if_neg hc] at h
  cases h
end Go.Proofs.YtcagajobpnpicaaG

end

section
set_option linter.unusedVariables false
set_option linter.unusedSimpArgs false
namespace Go.Proofs.YtcagajobpnpicaaG
open Go Go.RowKit Go.Proofs.YtcagajobpnpicaaR Go.Proofs.YtcagajobpnpicaaW.PrintWords
attribute [local go_sem] Oper.semAt_some

/-- One bit. -/
def crcStep (x : Nat) : Nat:=if x % 2 = 1 then (x / 2) ^^^ 3945912366 else x / 2
def crcSteps : Nat → Nat → Nat
 | 0,x=>x
 | n + 1,x=>crcStep (crcSteps n x)
/-- What a byte adds. -/
def crcTab (i : Nat) : Nat:=crcSteps 8 i
def crcUpd (r : Nat) (c : Int) : Nat:=(r / 256) ^^^ crcTab ((r % 256) ^^^ c.toNat)
def crcOf (l : List Int) : Nat:=l.foldl crcUpd 4294967295
def frame_Sum.f (l0 : List Int) : Option Int:=if (∀ c ∈ l0,0 ≤ c ∧ c < 256) then some (crcOf l0 : Int) else none

end Go.Proofs.YtcagajobpnpicaaG

end

section
namespace Go.Proofs.Ytcagajobpnpicaa.P
open Go.RowKit Go.Proofs.YtcagajobpnpicaaG Go.Proofs.YtcagajobpnpicaaW.PrintWords Go.Proofs.YtcagajobpnpicaaW.PrintLast Go.Proofs.YtcagajobpnpicaaW.PrintMore
attribute [local go_sem] str_gtr str_geq str_leq max2_int min2_int max_two min_two max_three min_three max_four min_four   -- for this text's walks alone
set_option linter.unusedVariables false
set_option linter.unusedSimpArgs false



def errW : Option Int → Value
 | none=>.nilIface
 | some c=>.iface 0 (.int .i64 c)
theorem errW_none : errW none = .nilIface:=rfl
theorem errW_some (c : Int) : errW (some c) = .iface 0 (.int .i64 c):=rfl

theorem info5 : (Try.prog.info? 5).map (fun i=>(i.zero,i.size,i.bytes)) = some (some (.int .u8 0),1,1):=by kernel_rfl
theorem info58 : (Try.prog.info? 58).map (fun i=>(i.zero,i.size,i.bytes)) = some (some (.agg #[(.int .u64 0),(.int .u64 0),(.string ⟨#[]⟩),(.string ⟨#[]⟩)]),4,48):=by kernel_rfl
-- the values' own types
structure S58 where
 f0 : Int
 f1 : Int
 f2 : ByteArray
 f3 : ByteArray
def z58 : S58:=⟨(0 : Int),(0 : Int),(⟨#[]⟩ : ByteArray),(⟨#[]⟩ : ByteArray)⟩
def k58 : Kd S58:=Kd.iso (Kd.pair (Kd.int .u64) (Kd.pair (Kd.int .u64) (Kd.pair Kd.string Kd.string))) (fun x : S58=>(x.f0,x.f1,x.f2,x.f3))
theorem k58_open {w : World} {x : S58} {cs : List Value} (h : k58.K w x cs) : cs = [.int .u64 x.f0,.int .u64 x.f1,.string x.f2,.string x.f3]:=by
 obtain ⟨_,_,rfl,rfl,⟨_,_,rfl,rfl,⟨_,_,rfl,rfl,rfl⟩⟩⟩:=h
 exact rfl
theorem k58_mkM (w : World) (base : Nat) (ok : Nat → Prop) (x : S58)  : k58.M w base ok x [.int .u64 x.f0,.int .u64 x.f1,.string x.f2,.string x.f3]:=⟨[.int .u64 x.f0],[.int .u64 x.f1,.string x.f2,.string x.f3],rfl,rfl,⟨[.int .u64 x.f1],[.string x.f2,.string x.f3],rfl,rfl,⟨[.string x.f2],[.string x.f3],rfl,rfl,rfl⟩⟩⟩
def rd_T58 (xs : List S58) (i : Int) : S58:=xs.getD i.toNat z58
theorem at_T58 {w : World} {A : Option Addr} {n : Nat} {xs : List S58} (h : Kd.C k58 w A n xs) (i : Int) (h0 : 0 ≤ i) (h1 : i < n) : ∃ ad ,A = some ad ∧ w.cell? (ad.add (i.toNat * 4)) = some (.int .u64 (rd_T58 xs i).f0) ∧ w.cell? ⟨(ad.add (i.toNat * 4)).block,(ad.add (i.toNat * 4)).off + 1,none⟩ = some (.int .u64 (rd_T58 xs i).f1) ∧ w.cell? ⟨(ad.add (i.toNat * 4)).block,(ad.add (i.toNat * 4)).off + 2,none⟩ = some (.string (rd_T58 xs i).f2) ∧ w.cell? ⟨(ad.add (i.toNat * 4)).block,(ad.add (i.toNat * 4)).off + 3,none⟩ = some (.string (rd_T58 xs i).f3):=by
 obtain ⟨ad,c,e,_,hK,hc0⟩:=Kd.C_get h z58 i h0 h1
 have hc : ∀ j u,c[j]? = some u → w.cell? (ad.add (i.toNat * 4 + j)) = some u:=hc0
 obtain rfl:=k58_open hK
 exact ⟨ad,e,hc 0 _ rfl,by rw [← add_field _ _ 1 (by omega)];exact hc 1 _ rfl,by rw [← add_field _ _ 2 (by omega)];exact hc 2 _ rfl,by rw [← add_field _ _ 3 (by omega)];exact hc 3 _ rfl⟩

structure S25 where
 f0 : (List S58)
 f1 : Int
 f2 : Int
 f3 : Int
def z25 : S25:=⟨([] : List S58),(0 : Int),(0 : Int),(0 : Int)⟩
def k25 : Kd S25:=Kd.iso (Kd.pair (Kd.slice 58 k58) (Kd.pair (Kd.int .u64) (Kd.pair (Kd.int .u64) (Kd.int .u64)))) (fun x : S25=>(x.f0,x.f1,x.f2,x.f3))
theorem k25_open {w : World} {x : S25} {cs : List Value} (h : k25.K w x cs) : ∃ A0 c0,cs = [.slice A0 x.f0.length c0,.int .u64 x.f1,.int .u64 x.f2,.int .u64 x.f3] ∧ x.f0.length ≤ c0 ∧ k58.C w A0 x.f0.length x.f0:=by
 obtain ⟨_,_,rfl,⟨A0,c0,rfl,l0,g0⟩,⟨_,_,rfl,rfl,⟨_,_,rfl,rfl,rfl⟩⟩⟩:=h
 exact ⟨A0,c0,rfl,l0,g0⟩
theorem k25_mk (w : World) (x : S25) {A0 : Option Addr} {c0 : Nat} (l0 : x.f0.length ≤ c0) (g0 : k58.C w A0 x.f0.length x.f0) : k25.K w x [.slice A0 x.f0.length c0,.int .u64 x.f1,.int .u64 x.f2,.int .u64 x.f3]:=⟨[.slice A0 x.f0.length c0],[.int .u64 x.f1,.int .u64 x.f2,.int .u64 x.f3],rfl,⟨A0,c0,rfl,l0,g0⟩,⟨[.int .u64 x.f1],[.int .u64 x.f2,.int .u64 x.f3],rfl,rfl,⟨[.int .u64 x.f2],[.int .u64 x.f3],rfl,rfl,rfl⟩⟩⟩
theorem k25_mkF (W : World) (ok : Nat → Prop) (x : S25) {A0 : Option Addr} {c0 : Nat} (l0 : x.f0.length ≤ c0) (g0 : Kd.F k58 W ok A0 x.f0.length x.f0) : Kd.FK k25 W ok x [.slice A0 x.f0.length c0,.int .u64 x.f1,.int .u64 x.f2,.int .u64 x.f3]:=fun W2 hW=>k25_mk W2 x l0 (g0 W2 hW)
def rd_T25 (xs : List S25) (i : Int) : S25:=xs.getD i.toNat z25
theorem at_T25 {w : World} {A : Option Addr} {n : Nat} {xs : List S25} (h : Kd.C k25 w A n xs) (i : Int) (h0 : 0 ≤ i) (h1 : i < n) : ∃ ad A0 c0,A = some ad ∧ w.cell? (ad.add (i.toNat * 4)) = some (.slice A0 (rd_T25 xs i).f0.length c0) ∧ w.cell? ⟨(ad.add (i.toNat * 4)).block,(ad.add (i.toNat * 4)).off + 1,none⟩ = some (.int .u64 (rd_T25 xs i).f1) ∧ w.cell? ⟨(ad.add (i.toNat * 4)).block,(ad.add (i.toNat * 4)).off + 2,none⟩ = some (.int .u64 (rd_T25 xs i).f2) ∧ w.cell? ⟨(ad.add (i.toNat * 4)).block,(ad.add (i.toNat * 4)).off + 3,none⟩ = some (.int .u64 (rd_T25 xs i).f3) ∧ (rd_T25 xs i).f0.length ≤ c0 ∧ k58.C w A0 (rd_T25 xs i).f0.length (rd_T25 xs i).f0:=by
 obtain ⟨ad,c,e,_,hK,hc0⟩:=Kd.C_get h z25 i h0 h1
 have hc : ∀ j u,c[j]? = some u → w.cell? (ad.add (i.toNat * 4 + j)) = some u:=hc0
 obtain ⟨A0,c0,rfl,l0,g0⟩:=k25_open hK
 exact ⟨ad,A0,c0,e,hc 0 _ rfl,by rw [← add_field _ _ 1 (by omega)];exact hc 1 _ rfl,by rw [← add_field _ _ 2 (by omega)];exact hc 2 _ rfl,by rw [← add_field _ _ 3 (by omega)];exact hc 3 _ rfl,l0,g0⟩

structure S28 where
 f0 : (List S58)
 f1 : Int
 f2 : Int
 f3 : Int
def k28 : Kd S28:=Kd.iso (Kd.pair (Kd.slice 58 k58) (Kd.pair (Kd.int .u64) (Kd.pair (Kd.int .u64) (Kd.int .u64)))) (fun x : S28=>(x.f0,x.f1,x.f2,x.f3))
theorem k28_open {w : World} {x : S28} {cs : List Value} (h : k28.K w x cs) : ∃ A0 c0,cs = [.slice A0 x.f0.length c0,.int .u64 x.f1,.int .u64 x.f2,.int .u64 x.f3] ∧ x.f0.length ≤ c0 ∧ k58.C w A0 x.f0.length x.f0:=by
 obtain ⟨_,_,rfl,⟨A0,c0,rfl,l0,g0⟩,⟨_,_,rfl,rfl,⟨_,_,rfl,rfl,rfl⟩⟩⟩:=h
 exact ⟨A0,c0,rfl,l0,g0⟩
end Go.Proofs.Ytcagajobpnpicaa.P

end

section
namespace Go.Proofs.Ytcagajobpnpicaa.P
open Go.RowKit Go.Proofs.YtcagajobpnpicaaG Go.Proofs.YtcagajobpnpicaaW.PrintWords Go.Proofs.YtcagajobpnpicaaW.PrintLast Go.Proofs.YtcagajobpnpicaaW.PrintMore
attribute [local go_sem] str_gtr str_geq str_leq max2_int min2_int max_two min_two max_three min_three max_four min_four   -- for this text's walks alone
set_option linter.unusedVariables false
set_option linter.unusedSimpArgs false

mutual
def ratlinelaw09_Few.l0 : Nat → List (S25) → Int → Int → Option (Bool)
 | 0,_,_,_ => none
 | k + 1,x7,x8,x9 => if x9 < x8 then (if 0 ≤ x9 then (if x9 < (x7.length : Int) then (ratlinelaw09_Few.l1 k x7 x8 x9 ((rd_T25 x7 x9).f0) (((rd_T25 x7 x9).f0).length : Int) 0 ((rd_T25 x7 x9).f0) ((rd_T25 x7 x9).f1) ((rd_T25 x7 x9).f2) ((rd_T25 x7 x9).f3)) else (none)) else (none)) else (some true)
def ratlinelaw09_Few.l1 : Nat → List (S25) → Int → Int → List (S58) → Int → Int → List (S58) → Int → Int → Int → Option (Bool)
 | 0,_,_,_,_,_,_,_,_,_,_ => none
 | k + 1,x7,x8,x9,x14,x15,x16,x103000,x103001,x103002,x103003 => if x16 < x15 then (if 0 ≤ x16 then (if x16 < (x14.length : Int) then (if (((rd_T58 x14 x16).f2).size : Int) > 70 then (some false) else (if (((rd_T58 x14 x16).f3).size : Int) > 70 then (some false) else (ratlinelaw09_Few.l1 k x7 x8 x9 x14 x15 (wrap64 (x16 + 1)) x103000 x103001 x103002 x103003))) else (none)) else (none)) else (if (x103000.length : Int) > 70 then (some false) else (ratlinelaw09_Few.l0 k x7 x8 (wrap64 (x9 + 1))))
end
def ratlinelaw09_Few.f (k : Nat) (l0 : List (S25)) : Option (Bool):=ratlinelaw09_Few.l0 k l0 (l0.length : Int) 0
set_option maxHeartbeats 8000000 in
set_option maxRecDepth 100000 in
theorem ratlinelaw09_Few.calls (k : Nat) (A0 : Option Addr) (c0 : Nat) (l0 : List (S25)) (r : Bool) (w : World) (hr0 : Kd.C k25 w A0 l0.length l0) (hc0 : l0.length ≤ c0) (h : ratlinelaw09_Few.f k l0 = some r) :
  Calls Try.prog 8 #[.slice A0 l0.length c0] w fun e w' => e = .returned (.bool r) ∧ Below w.heap.size w w':=by
 have hu25:=Try.underlying25
 have hu58:=Try.underlying58
 have HR0:=Aside0.mk hr0
 have HC0:=Aside0.mk hc0
 clear hr0 hc0
 have HB:=Aside0.mk (Below.refl w.heap.size w)
 have H : (ratlinelaw09_Few.l0 k l0 (l0.length : Int) 0) = some r:=h
 clear h
 have H':=Aside0.mk H
 clear H
 go_enter Try.func8,Try.ntmps8
 go_wp2
 go_loopg [9] k (fun kq v9 w' => ∃ (x9_1 : Int),v9 = .int .i64 x9_1 ∧ Aside0 (ratlinelaw09_Few.l0 kq l0 (l0.length : Int) x9_1 = some r) ∧ Aside0 (kq ≤ k) ∧ Aside0 (Below w.heap.size w w'))
 case atStart => exact ⟨(0),(by first|rfl|(simp;done)|(simp [*];done)),H',⟨Nat.le_refl _⟩,⟨by repeat (first|(with_reducible first|exact HB.out|apply below_alloc|apply pw_below_drewN|apply below_drew1)|exact HB.out)⟩⟩
 case round =>
  clear H'
  obtain ⟨x9_1,rfl,HA,HK1,HB⟩:=hrel
  cases gk with
  | zero => exact absurd HA.out (by simp [ratlinelaw09_Few.l0])
  | succ k1 =>
   have H:=HA.out
   clear HA
   simp only [ratlinelaw09_Few.l0] at H
   by_cases c2 : x9_1 < (l0.length : Int)
   rotate_left
   ·rw [if_neg c2] at H
    have c2b0 : decide (x9_1 < (l0.length : Int)) = false:=decide_eq_false c2
    clear c2
    obtain rfl:=Option.some.inj H
    go_wp2
    go_ret
    exact ⟨by first|rfl|(simp [errW_none,errW_some] <;> rfl)|(simp [*,errW_none,errW_some] <;> rfl),by repeat (first|(with_reducible first|exact HB.out|apply below_alloc|apply pw_below_drewN|apply below_drew1)|exact HB.out)⟩

   rw [if_pos c2] at H
   have c2b0 : decide (x9_1 < (l0.length : Int)) = true:=decide_eq_true c2
   clear c2
   by_cases c3 : 0 ≤ x9_1
   rotate_left
   ·rw [if_neg c3] at H
    exact absurd H (by simp)
   rw [if_pos c3] at H
   have c3b0 : decide (0 ≤ x9_1) = true:=decide_eq_true c3
   clear c3
   by_cases c4 : x9_1 < (l0.length : Int)
   rotate_left
   ·rw [if_neg c4] at H
    exact absurd H (by simp)
   rw [if_pos c4] at H
   have c4b0 : decide (x9_1 < (l0.length : Int)) = true:=decide_eq_true c4
   clear c4
   have H':=Aside0.mk H
   clear H
   have p101 : 0 ≤ (x9_1 : Int):=of_decide_eq_true (by first|(with_reducible assumption)|assumption)
   have q101 : x9_1 < (l0.length : Int):=of_decide_eq_true (by first|(with_reducible assumption)|assumption)
   obtain ⟨ad101,A101_0,c101_0,e101,hx101_0,hx101_1,hx101_2,hx101_3,hl101_0,hi101_0⟩:=at_T25 HR0.out x9_1 p101 q101
   cases e101
   replace hx101_0:=(HB.out.cell (World.block_lt_of_cell? w _ hx101_0)).trans hx101_0
   replace hx101_1:=(HB.out.cell (World.block_lt_of_cell? w _ hx101_1)).trans hx101_1
   replace hx101_2:=(HB.out.cell (World.block_lt_of_cell? w _ hx101_2)).trans hx101_2
   replace hx101_3:=(HB.out.cell (World.block_lt_of_cell? w _ hx101_3)).trans hx101_3
   have HR101_0:=Aside0.mk hi101_0
   have HC101_0:=Aside0.mk hl101_0
   clear hi101_0 hl101_0
   replace p101:=eq_true p101
   replace q101:=eq_true q101
   go_wp2_with (first|((with_reducible refine gate_dst (N:=4) rfl ?_);(try (refine gate_guard (by rfl) ?_;dsimp only));refine box_event ?hg (N:=4) ?hd (cs:=#[.slice none 0 0,.int .u64 0,.int .u64 0,.int .u64 0]) (t:=25) ?hr ?_;(case hd => rfl);(case hg => rfl);(case hr => first|(go_simp;done)|(go_simp;rfl));intro gb102 hg w5 hbox hb;have n0_:=Aside0.mk (below_step (by repeat (first|(with_reducible first|exact HB.out|apply below_alloc|apply pw_below_drewN|apply below_drew1)|exact HB.out)) hb);have n1_:=Aside0.mk (hbox);have n2_:=Aside0.mk ((by rw [hg];exact (below_size (by repeat (first|(with_reducible first|exact HB.out|apply below_alloc|apply pw_below_drewN|apply below_drew1)|exact HB.out))) : w.heap.size ≤ gb102));have n3_:=Aside0.mk ((by rw [hg];exact (below_size (by repeat (first|(with_reducible first|exact HB.out|apply below_alloc|apply pw_below_drewN|apply below_drew1)|exact HB.out))) : w.heap.size ≤ gb102));clear HB;have HB:=n0_;have BK102:=n1_;have GW102:=n2_;have GE102:=n3_;clear n0_ n1_ n2_ n3_;clear hb hbox hg;have hcz6_0 : w5.cell? ⟨gb102,0,none⟩ = some (.slice none 0 0):=(blk_cell BK102.out 0).trans rfl;have hcz6_1 : w5.cell? ⟨gb102,1,none⟩ = some (.int .u64 0):=(blk_cell BK102.out 1).trans rfl;have hcz6_2 : w5.cell? ⟨gb102,2,none⟩ = some (.int .u64 0):=(blk_cell BK102.out 2).trans rfl;have hcz6_3 : w5.cell? ⟨gb102,3,none⟩ = some (.int .u64 0):=(blk_cell BK102.out 3).trans rfl;have hfz6_0:=blk_frozen BK102.out 0;have hfz6_1:=blk_frozen BK102.out 1;have hfz6_2:=blk_frozen BK102.out 2;have hfz6_3:=blk_frozen BK102.out 3))
   go_loopg [16] k1 (fun kq v16 w' => ∃ (x16_2 : Int),v16 = .int .i64 x16_2 ∧ Aside0 (ratlinelaw09_Few.l1 kq l0 (l0.length : Int) x9_1 ((rd_T25 l0 x9_1).f0) (((rd_T25 l0 x9_1).f0).length : Int) x16_2 ((rd_T25 l0 x9_1).f0) ((rd_T25 l0 x9_1).f1) ((rd_T25 l0 x9_1).f2) ((rd_T25 l0 x9_1).f3) = some r) ∧ Aside0 (kq ≤ k1) ∧ Aside0 (w'.heap[gb102]? = some (.cells #[(.slice A101_0 ((rd_T25 l0 x9_1).f0).length c101_0),.int .u64 ((rd_T25 l0 x9_1).f1),.int .u64 ((rd_T25 l0 x9_1).f2),.int .u64 ((rd_T25 l0 x9_1).f3)] 25 (0,0))) ∧ Aside0 (Below w.heap.size w w'))
   case atStart => exact ⟨(0),(by first|rfl|(simp;done)|(simp [*];done)),H',⟨Nat.le_refl _⟩,⟨by (with_reducible repeat (first|refine bN ?_ _|refine bD ?_|refine bA ?_ _));refine blk_put (cs:=#[.slice A101_0 ((rd_T25 l0 x9_1).f0).length c101_0,.int .u64 ((rd_T25 l0 x9_1).f1),.int .u64 ((rd_T25 l0 x9_1).f2),.int .u64 0]) ?_ 3 _ rfl;(with_reducible repeat (first|refine bN ?_ _|refine bD ?_|refine bA ?_ _));refine blk_put (cs:=#[.slice A101_0 ((rd_T25 l0 x9_1).f0).length c101_0,.int .u64 ((rd_T25 l0 x9_1).f1),.int .u64 0,.int .u64 0]) ?_ 2 _ rfl;(with_reducible repeat (first|refine bN ?_ _|refine bD ?_|refine bA ?_ _));refine blk_put (cs:=#[.slice A101_0 ((rd_T25 l0 x9_1).f0).length c101_0,.int .u64 0,.int .u64 0,.int .u64 0]) ?_ 1 _ rfl;(with_reducible repeat (first|refine bN ?_ _|refine bD ?_|refine bA ?_ _));refine blk_put (cs:=#[.slice none 0 0,.int .u64 0,.int .u64 0,.int .u64 0]) ?_ 0 _ rfl;(with_reducible repeat (first|refine bN ?_ _|refine bD ?_|refine bA ?_ _));exact BK102.out⟩,⟨by repeat (first|(with_reducible first|exact HB.out|apply below_alloc|apply pw_below_drewN|apply below_drew1|refine below_set ?_ GE102.out)|exact HB.out)⟩⟩
   case round =>
    clear H'
    try clear c1
    try clear p1
    try clear q1
    try clear hx1
    try clear c2
    try clear c2b0
    try clear p2
    try clear c3
    try clear c3b0
    try clear c4
    try clear c4b0
    try clear hcz6_0
    try clear hcz6_1
    try clear hcz6_2
    try clear hcz6_3
    try clear hfz6_0
    try clear hfz6_1
    try clear hfz6_2
    try clear hfz6_3
    try clear hx101_0
    try clear hx101_1
    try clear hx101_2
    try clear hx101_3
    try clear p101
    try clear q101
    obtain ⟨x16_2,rfl,HA,HK2,BK102,HB⟩:=hrel
    cases gk with
    | zero => exact absurd HA.out (by simp [ratlinelaw09_Few.l1])
    | succ k2 =>
     have H:=HA.out
     clear HA
     simp only [ratlinelaw09_Few.l1] at H
     by_cases c7 : x16_2 < (((rd_T25 l0 x9_1).f0).length : Int)
     ·rw [if_pos c7] at H
      have c7b0 : decide (x16_2 < (((rd_T25 l0 x9_1).f0).length : Int)) = true:=decide_eq_true c7
      clear c7
      by_cases c8 : 0 ≤ x16_2
      rotate_left
      ·rw [if_neg c8] at H
       exact absurd H (by simp)
      rw [if_pos c8] at H
      have c8b0 : decide (0 ≤ x16_2) = true:=decide_eq_true c8
      clear c8
      by_cases c9 : x16_2 < (((rd_T25 l0 x9_1).f0).length : Int)
      rotate_left
      ·rw [if_neg c9] at H
       exact absurd H (by simp)
      rw [if_pos c9] at H
      have c9b0 : decide (x16_2 < (((rd_T25 l0 x9_1).f0).length : Int)) = true:=decide_eq_true c9
      clear c9
      by_cases c10 : (((rd_T58 ((rd_T25 l0 x9_1).f0) x16_2).f2).size : Int) > 70
      ·rw [if_pos c10] at H
       have c10b0 : decide (70 < (((rd_T58 ((rd_T25 l0 x9_1).f0) x16_2).f2).size : Int)) = true:=decide_eq_true c10
       have c10b1 : decide (70 < ((rd_T58 ((rd_T25 l0 x9_1).f0) x16_2).f2).size) = true:=decide_eq_true (by omega)
       clear c10
       obtain rfl:=Option.some.inj H
       have p103 : 0 ≤ (x16_2 : Int):=of_decide_eq_true (by first|(with_reducible assumption)|assumption)
       have q103 : x16_2 < (((rd_T25 l0 x9_1).f0).length : Int):=of_decide_eq_true (by first|(with_reducible assumption)|assumption)
       obtain ⟨ad103,e103,hx103_0,hx103_1,hx103_2,hx103_3⟩:=at_T58 HR101_0.out x16_2 p103 q103
       cases e103
       replace hx103_0:=(HB.out.cell (World.block_lt_of_cell? w _ hx103_0)).trans hx103_0
       replace hx103_1:=(HB.out.cell (World.block_lt_of_cell? w _ hx103_1)).trans hx103_1
       replace hx103_2:=(HB.out.cell (World.block_lt_of_cell? w _ hx103_2)).trans hx103_2
       replace hx103_3:=(HB.out.cell (World.block_lt_of_cell? w _ hx103_3)).trans hx103_3
       replace p103:=eq_true p103
       replace q103:=eq_true q103
       go_wp2_with (first|((with_reducible refine gate_dst (N:=6) rfl ?_);(try (refine gate_guard (by rfl) ?_;dsimp only));refine box_event ?hg (N:=6) ?hd (cs:=#[.int .u64 0,.int .u64 0,.string (⟨#[]⟩ : BA),.string (⟨#[]⟩ : BA)]) (t:=58) ?hr ?_;(case hd => rfl);(case hg => rfl);(case hr => first|(go_simp;done)|(go_simp;rfl));intro gb104 hg w11 hbox hb;have n0_:=Aside0.mk (blk_below (g:=gb102) (o:=.cells #[.slice (some ad103) ((rd_T25 l0 x9_1).f0).length c101_0,.int .u64 ((rd_T25 l0 x9_1).f1),.int .u64 ((rd_T25 l0 x9_1).f2),.int .u64 ((rd_T25 l0 x9_1).f3)] 25 (0,0)) (by (with_reducible repeat (first|refine bN ?_ _|refine bD ?_|refine bA ?_ _));exact BK102.out) hb);have n1_:=Aside0.mk (below_step (by repeat (first|(with_reducible first|exact HB.out|apply below_alloc|apply pw_below_drewN|apply below_drew1|refine below_set ?_ GE102.out)|exact HB.out)) hb);have n2_:=Aside0.mk (hbox);have n3_:=Aside0.mk ((by rw [hg];exact (below_size (by repeat (first|(with_reducible first|exact HB.out|apply below_alloc|apply pw_below_drewN|apply below_drew1|refine below_set ?_ GE102.out)|exact HB.out))) : w.heap.size ≤ gb104));have n4_:=Aside0.mk ((by rw [hg];exact (below_size (by repeat (first|(with_reducible first|exact HB.out|apply below_alloc|apply pw_below_drewN|apply below_drew1|refine below_set ?_ GE102.out)|exact HB.out))) : w.heap.size ≤ gb104));have n5_:=Aside0.mk ((by rw [hg];exact Nat.ne_of_lt (blk_lt (g:=gb102) (o:=.cells #[.slice (some ad103) ((rd_T25 l0 x9_1).f0).length c101_0,.int .u64 ((rd_T25 l0 x9_1).f1),.int .u64 ((rd_T25 l0 x9_1).f2),.int .u64 ((rd_T25 l0 x9_1).f3)] 25 (0,0)) (by (with_reducible repeat (first|refine bN ?_ _|refine bD ?_|refine bA ?_ _));exact BK102.out)) : gb102 ≠ gb104));have n6_:=Aside0.mk ((by rw [hg];exact Nat.ne_of_gt (blk_lt (g:=gb102) (o:=.cells #[.slice (some ad103) ((rd_T25 l0 x9_1).f0).length c101_0,.int .u64 ((rd_T25 l0 x9_1).f1),.int .u64 ((rd_T25 l0 x9_1).f2),.int .u64 ((rd_T25 l0 x9_1).f3)] 25 (0,0)) (by (with_reducible repeat (first|refine bN ?_ _|refine bD ?_|refine bA ?_ _));exact BK102.out)) : gb104 ≠ gb102));clear BK102;clear HB;have BK102:=n0_;have HB:=n1_;have BK104:=n2_;have GW104:=n3_;have GE104:=n4_;have NB102_104:=n5_;have NB104_102:=n6_;clear n0_ n1_ n2_ n3_ n4_ n5_ n6_;clear hb hbox hg;have hnb12:=NB104_102.out;have hnc12:=NB102_104.out;have hcz13_0 : w11.cell? ⟨gb104,0,none⟩ = some (.int .u64 0):=(blk_cell BK104.out 0).trans rfl;have hcz13_1 : w11.cell? ⟨gb104,1,none⟩ = some (.int .u64 0):=(blk_cell BK104.out 1).trans rfl;have hcz13_2 : w11.cell? ⟨gb104,2,none⟩ = some (.string (⟨#[]⟩ : BA)):=(blk_cell BK104.out 2).trans rfl;have hcz13_3 : w11.cell? ⟨gb104,3,none⟩ = some (.string (⟨#[]⟩ : BA)):=(blk_cell BK104.out 3).trans rfl;have hfz13_0:=blk_frozen BK104.out 0;have hfz13_1:=blk_frozen BK104.out 1;have hfz13_2:=blk_frozen BK104.out 2;have hfz13_3:=blk_frozen BK104.out 3))
       go_ret
       exact ⟨by first|rfl|(simp [errW_none,errW_some] <;> rfl)|(simp [*,errW_none,errW_some] <;> rfl),by repeat (first|(with_reducible first|exact HB.out|apply below_alloc|apply pw_below_drewN|apply below_drew1|refine below_set ?_ GE102.out|refine below_set ?_ GE104.out)|exact HB.out)⟩
      ·rw [if_neg c10] at H
       have c10b0 : decide (70 < (((rd_T58 ((rd_T25 l0 x9_1).f0) x16_2).f2).size : Int)) = false:=decide_eq_false c10
       have c10b1 : decide (70 < ((rd_T58 ((rd_T25 l0 x9_1).f0) x16_2).f2).size) = false:=decide_eq_false (by omega)
       clear c10
       by_cases c14 : (((rd_T58 ((rd_T25 l0 x9_1).f0) x16_2).f3).size : Int) > 70
       ·rw [if_pos c14] at H
        have c14b0 : decide (70 < (((rd_T58 ((rd_T25 l0 x9_1).f0) x16_2).f3).size : Int)) = true:=decide_eq_true c14
        have c14b1 : decide (70 < ((rd_T58 ((rd_T25 l0 x9_1).f0) x16_2).f3).size) = true:=decide_eq_true (by omega)
        clear c14
        obtain rfl:=Option.some.inj H
        have p103 : 0 ≤ (x16_2 : Int):=of_decide_eq_true (by first|(with_reducible assumption)|assumption)
        have q103 : x16_2 < (((rd_T25 l0 x9_1).f0).length : Int):=of_decide_eq_true (by first|(with_reducible assumption)|assumption)
        obtain ⟨ad103,e103,hx103_0,hx103_1,hx103_2,hx103_3⟩:=at_T58 HR101_0.out x16_2 p103 q103
        cases e103
        replace hx103_0:=(HB.out.cell (World.block_lt_of_cell? w _ hx103_0)).trans hx103_0
        replace hx103_1:=(HB.out.cell (World.block_lt_of_cell? w _ hx103_1)).trans hx103_1
        replace hx103_2:=(HB.out.cell (World.block_lt_of_cell? w _ hx103_2)).trans hx103_2
        replace hx103_3:=(HB.out.cell (World.block_lt_of_cell? w _ hx103_3)).trans hx103_3
        replace p103:=eq_true p103
        replace q103:=eq_true q103
        go_wp2_with (first|((with_reducible refine gate_dst (N:=6) rfl ?_);(try (refine gate_guard (by rfl) ?_;dsimp only));refine box_event ?hg (N:=6) ?hd (cs:=#[.int .u64 0,.int .u64 0,.string (⟨#[]⟩ : BA),.string (⟨#[]⟩ : BA)]) (t:=58) ?hr ?_;(case hd => rfl);(case hg => rfl);(case hr => first|(go_simp;done)|(go_simp;rfl));intro gb104 hg w15 hbox hb;have n0_:=Aside0.mk (blk_below (g:=gb102) (o:=.cells #[.slice (some ad103) ((rd_T25 l0 x9_1).f0).length c101_0,.int .u64 ((rd_T25 l0 x9_1).f1),.int .u64 ((rd_T25 l0 x9_1).f2),.int .u64 ((rd_T25 l0 x9_1).f3)] 25 (0,0)) (by (with_reducible repeat (first|refine bN ?_ _|refine bD ?_|refine bA ?_ _));exact BK102.out) hb);have n1_:=Aside0.mk (below_step (by repeat (first|(with_reducible first|exact HB.out|apply below_alloc|apply pw_below_drewN|apply below_drew1|refine below_set ?_ GE102.out)|exact HB.out)) hb);have n2_:=Aside0.mk (hbox);have n3_:=Aside0.mk ((by rw [hg];exact (below_size (by repeat (first|(with_reducible first|exact HB.out|apply below_alloc|apply pw_below_drewN|apply below_drew1|refine below_set ?_ GE102.out)|exact HB.out))) : w.heap.size ≤ gb104));have n4_:=Aside0.mk ((by rw [hg];exact (below_size (by repeat (first|(with_reducible first|exact HB.out|apply below_alloc|apply pw_below_drewN|apply below_drew1|refine below_set ?_ GE102.out)|exact HB.out))) : w.heap.size ≤ gb104));have n5_:=Aside0.mk ((by rw [hg];exact Nat.ne_of_lt (blk_lt (g:=gb102) (o:=.cells #[.slice (some ad103) ((rd_T25 l0 x9_1).f0).length c101_0,.int .u64 ((rd_T25 l0 x9_1).f1),.int .u64 ((rd_T25 l0 x9_1).f2),.int .u64 ((rd_T25 l0 x9_1).f3)] 25 (0,0)) (by (with_reducible repeat (first|refine bN ?_ _|refine bD ?_|refine bA ?_ _));exact BK102.out)) : gb102 ≠ gb104));have n6_:=Aside0.mk ((by rw [hg];exact Nat.ne_of_gt (blk_lt (g:=gb102) (o:=.cells #[.slice (some ad103) ((rd_T25 l0 x9_1).f0).length c101_0,.int .u64 ((rd_T25 l0 x9_1).f1),.int .u64 ((rd_T25 l0 x9_1).f2),.int .u64 ((rd_T25 l0 x9_1).f3)] 25 (0,0)) (by (with_reducible repeat (first|refine bN ?_ _|refine bD ?_|refine bA ?_ _));exact BK102.out)) : gb104 ≠ gb102));clear BK102;clear HB;have BK102:=n0_;have HB:=n1_;have BK104:=n2_;have GW104:=n3_;have GE104:=n4_;have NB102_104:=n5_;have NB104_102:=n6_;clear n0_ n1_ n2_ n3_ n4_ n5_ n6_;clear hb hbox hg;have hnb16:=NB104_102.out;have hnc16:=NB102_104.out;have hcz17_0 : w15.cell? ⟨gb104,0,none⟩ = some (.int .u64 0):=(blk_cell BK104.out 0).trans rfl;have hcz17_1 : w15.cell? ⟨gb104,1,none⟩ = some (.int .u64 0):=(blk_cell BK104.out 1).trans rfl;have hcz17_2 : w15.cell? ⟨gb104,2,none⟩ = some (.string (⟨#[]⟩ : BA)):=(blk_cell BK104.out 2).trans rfl;have hcz17_3 : w15.cell? ⟨gb104,3,none⟩ = some (.string (⟨#[]⟩ : BA)):=(blk_cell BK104.out 3).trans rfl;have hfz17_0:=blk_frozen BK104.out 0;have hfz17_1:=blk_frozen BK104.out 1;have hfz17_2:=blk_frozen BK104.out 2;have hfz17_3:=blk_frozen BK104.out 3))
        go_ret
        exact ⟨by first|rfl|(simp [errW_none,errW_some] <;> rfl)|(simp [*,errW_none,errW_some] <;> rfl),by repeat (first|(with_reducible first|exact HB.out|apply below_alloc|apply pw_below_drewN|apply below_drew1|refine below_set ?_ GE102.out|refine below_set ?_ GE104.out)|exact HB.out)⟩
       ·rw [if_neg c14] at H
        have c14b0 : decide (70 < (((rd_T58 ((rd_T25 l0 x9_1).f0) x16_2).f3).size : Int)) = false:=decide_eq_false c14
        have c14b1 : decide (70 < ((rd_T58 ((rd_T25 l0 x9_1).f0) x16_2).f3).size) = false:=decide_eq_false (by omega)
        clear c14
        have H':=Aside0.mk H
        clear H
        have p103 : 0 ≤ (x16_2 : Int):=of_decide_eq_true (by first|(with_reducible assumption)|assumption)
        have q103 : x16_2 < (((rd_T25 l0 x9_1).f0).length : Int):=of_decide_eq_true (by first|(with_reducible assumption)|assumption)
        obtain ⟨ad103,e103,hx103_0,hx103_1,hx103_2,hx103_3⟩:=at_T58 HR101_0.out x16_2 p103 q103
        cases e103
        replace hx103_0:=(HB.out.cell (World.block_lt_of_cell? w _ hx103_0)).trans hx103_0
        replace hx103_1:=(HB.out.cell (World.block_lt_of_cell? w _ hx103_1)).trans hx103_1
        replace hx103_2:=(HB.out.cell (World.block_lt_of_cell? w _ hx103_2)).trans hx103_2
        replace hx103_3:=(HB.out.cell (World.block_lt_of_cell? w _ hx103_3)).trans hx103_3
        replace p103:=eq_true p103
        replace q103:=eq_true q103
        go_wp2_with (first|((with_reducible refine gate_dst (N:=6) rfl ?_);(try (refine gate_guard (by rfl) ?_;dsimp only));refine box_event ?hg (N:=6) ?hd (cs:=#[.int .u64 0,.int .u64 0,.string (⟨#[]⟩ : BA),.string (⟨#[]⟩ : BA)]) (t:=58) ?hr ?_;(case hd => rfl);(case hg => rfl);(case hr => first|(go_simp;done)|(go_simp;rfl));intro gb104 hg w18 hbox hb;have n0_:=Aside0.mk (blk_below (g:=gb102) (o:=.cells #[.slice (some ad103) ((rd_T25 l0 x9_1).f0).length c101_0,.int .u64 ((rd_T25 l0 x9_1).f1),.int .u64 ((rd_T25 l0 x9_1).f2),.int .u64 ((rd_T25 l0 x9_1).f3)] 25 (0,0)) (by (with_reducible repeat (first|refine bN ?_ _|refine bD ?_|refine bA ?_ _));exact BK102.out) hb);have n1_:=Aside0.mk (below_step (by repeat (first|(with_reducible first|exact HB.out|apply below_alloc|apply pw_below_drewN|apply below_drew1|refine below_set ?_ GE102.out)|exact HB.out)) hb);have n2_:=Aside0.mk (hbox);have n3_:=Aside0.mk ((by rw [hg];exact (below_size (by repeat (first|(with_reducible first|exact HB.out|apply below_alloc|apply pw_below_drewN|apply below_drew1|refine below_set ?_ GE102.out)|exact HB.out))) : w.heap.size ≤ gb104));have n4_:=Aside0.mk ((by rw [hg];exact (below_size (by repeat (first|(with_reducible first|exact HB.out|apply below_alloc|apply pw_below_drewN|apply below_drew1|refine below_set ?_ GE102.out)|exact HB.out))) : w.heap.size ≤ gb104));have n5_:=Aside0.mk ((by rw [hg];exact Nat.ne_of_lt (blk_lt (g:=gb102) (o:=.cells #[.slice (some ad103) ((rd_T25 l0 x9_1).f0).length c101_0,.int .u64 ((rd_T25 l0 x9_1).f1),.int .u64 ((rd_T25 l0 x9_1).f2),.int .u64 ((rd_T25 l0 x9_1).f3)] 25 (0,0)) (by (with_reducible repeat (first|refine bN ?_ _|refine bD ?_|refine bA ?_ _));exact BK102.out)) : gb102 ≠ gb104));have n6_:=Aside0.mk ((by rw [hg];exact Nat.ne_of_gt (blk_lt (g:=gb102) (o:=.cells #[.slice (some ad103) ((rd_T25 l0 x9_1).f0).length c101_0,.int .u64 ((rd_T25 l0 x9_1).f1),.int .u64 ((rd_T25 l0 x9_1).f2),.int .u64 ((rd_T25 l0 x9_1).f3)] 25 (0,0)) (by (with_reducible repeat (first|refine bN ?_ _|refine bD ?_|refine bA ?_ _));exact BK102.out)) : gb104 ≠ gb102));clear BK102;clear HB;have BK102:=n0_;have HB:=n1_;have BK104:=n2_;have GW104:=n3_;have GE104:=n4_;have NB102_104:=n5_;have NB104_102:=n6_;clear n0_ n1_ n2_ n3_ n4_ n5_ n6_;clear hb hbox hg;have hnb19:=NB104_102.out;have hnc19:=NB102_104.out;have hcz20_0 : w18.cell? ⟨gb104,0,none⟩ = some (.int .u64 0):=(blk_cell BK104.out 0).trans rfl;have hcz20_1 : w18.cell? ⟨gb104,1,none⟩ = some (.int .u64 0):=(blk_cell BK104.out 1).trans rfl;have hcz20_2 : w18.cell? ⟨gb104,2,none⟩ = some (.string (⟨#[]⟩ : BA)):=(blk_cell BK104.out 2).trans rfl;have hcz20_3 : w18.cell? ⟨gb104,3,none⟩ = some (.string (⟨#[]⟩ : BA)):=(blk_cell BK104.out 3).trans rfl;have hfz20_0:=blk_frozen BK104.out 0;have hfz20_1:=blk_frozen BK104.out 1;have hfz20_2:=blk_frozen BK104.out 2;have hfz20_3:=blk_frozen BK104.out 3))
        go_roundg k2
        case measure => have:=HK1.out;have:=HK2.out;omega
        case rel => exact ⟨(wrap64 (x16_2 + 1)),(by first|rfl|(simp;done)|(simp [*];done)),H',⟨by have:=HK1.out;have:=HK2.out;omega⟩,⟨by (with_reducible repeat (first|refine bN ?_ _|refine bD ?_|refine bA ?_ _));refine blk_far ?_ NB102_104.out _;(with_reducible repeat (first|refine bN ?_ _|refine bD ?_|refine bA ?_ _));refine blk_far ?_ NB102_104.out _;(with_reducible repeat (first|refine bN ?_ _|refine bD ?_|refine bA ?_ _));refine blk_far ?_ NB102_104.out _;(with_reducible repeat (first|refine bN ?_ _|refine bD ?_|refine bA ?_ _));refine blk_far ?_ NB102_104.out _;(with_reducible repeat (first|refine bN ?_ _|refine bD ?_|refine bA ?_ _));exact BK102.out⟩,⟨by repeat (first|(with_reducible first|exact HB.out|apply below_alloc|apply pw_below_drewN|apply below_drew1|refine below_set ?_ GE102.out|refine below_set ?_ GE104.out)|exact HB.out)⟩⟩
     ·rw [if_neg c7] at H
      have c7b0 : decide (x16_2 < (((rd_T25 l0 x9_1).f0).length : Int)) = false:=decide_eq_false c7
      clear c7
      by_cases c21 : (((rd_T25 l0 x9_1).f0).length : Int) > 70
      ·rw [if_pos c21] at H
       have c21b0 : decide (70 < (((rd_T25 l0 x9_1).f0).length : Int)) = true:=decide_eq_true c21
       have c21b1 : decide (70 < ((rd_T25 l0 x9_1).f0).length) = true:=decide_eq_true (by omega)
       clear c21
       obtain rfl:=Option.some.inj H
       have hcz22_0 : wr.cell? ⟨gb102,0,none⟩ = some (.slice A101_0 ((rd_T25 l0 x9_1).f0).length c101_0):=(blk_cell BK102.out 0).trans rfl
       have hcz22_1 : wr.cell? ⟨gb102,1,none⟩ = some (.int .u64 ((rd_T25 l0 x9_1).f1)):=(blk_cell BK102.out 1).trans rfl
       have hcz22_2 : wr.cell? ⟨gb102,2,none⟩ = some (.int .u64 ((rd_T25 l0 x9_1).f2)):=(blk_cell BK102.out 2).trans rfl
       have hcz22_3 : wr.cell? ⟨gb102,3,none⟩ = some (.int .u64 ((rd_T25 l0 x9_1).f3)):=(blk_cell BK102.out 3).trans rfl
       have hfz22_0:=blk_frozen BK102.out 0
       have hfz22_1:=blk_frozen BK102.out 1
       have hfz22_2:=blk_frozen BK102.out 2
       have hfz22_3:=blk_frozen BK102.out 3
       go_wp2
       go_ret
       exact ⟨by first|rfl|(simp [errW_none,errW_some] <;> rfl)|(simp [*,errW_none,errW_some] <;> rfl),by repeat (first|(with_reducible first|exact HB.out|apply below_alloc|apply pw_below_drewN|apply below_drew1|refine below_set ?_ GE102.out)|exact HB.out)⟩
      ·rw [if_neg c21] at H
       have c21b0 : decide (70 < (((rd_T25 l0 x9_1).f0).length : Int)) = false:=decide_eq_false c21
       have c21b1 : decide (70 < ((rd_T25 l0 x9_1).f0).length) = false:=decide_eq_false (by omega)
       clear c21
       have H':=Aside0.mk H
       clear H
       have hcz23_0 : wr.cell? ⟨gb102,0,none⟩ = some (.slice A101_0 ((rd_T25 l0 x9_1).f0).length c101_0):=(blk_cell BK102.out 0).trans rfl
       have hcz23_1 : wr.cell? ⟨gb102,1,none⟩ = some (.int .u64 ((rd_T25 l0 x9_1).f1)):=(blk_cell BK102.out 1).trans rfl
       have hcz23_2 : wr.cell? ⟨gb102,2,none⟩ = some (.int .u64 ((rd_T25 l0 x9_1).f2)):=(blk_cell BK102.out 2).trans rfl
       have hcz23_3 : wr.cell? ⟨gb102,3,none⟩ = some (.int .u64 ((rd_T25 l0 x9_1).f3)):=(blk_cell BK102.out 3).trans rfl
       have hfz23_0:=blk_frozen BK102.out 0
       have hfz23_1:=blk_frozen BK102.out 1
       have hfz23_2:=blk_frozen BK102.out 2
       have hfz23_3:=blk_frozen BK102.out 3
       go_wp2
       go_roundg k2
       case measure => have:=HK1.out;have:=HK2.out;omega
       case rel => exact ⟨(wrap64 (x9_1 + 1)),(by first|rfl|(simp;done)|(simp [*];done)),H',⟨by have:=HK1.out;have:=HK2.out;omega⟩,⟨by repeat (first|(with_reducible first|exact HB.out|apply below_alloc|apply pw_below_drewN|apply below_drew1|refine below_set ?_ GE102.out)|exact HB.out)⟩⟩
end Go.Proofs.Ytcagajobpnpicaa.P

end

section
namespace Go.Proofs.Ytcagajobpnpicaa.P
open Go.RowKit Go.Proofs.YtcagajobpnpicaaG Go.Proofs.YtcagajobpnpicaaW.PrintWords Go.Proofs.YtcagajobpnpicaaW.PrintLast Go.Proofs.YtcagajobpnpicaaW.PrintMore
attribute [local go_sem] str_gtr str_geq str_leq max2_int min2_int max_two min_two max_three min_three max_four min_four   -- for this text's walks alone
set_option linter.unusedVariables false
set_option linter.unusedSimpArgs false

def ratlineref09_Whole.f (l0_0 : List (S58)) (a0_1 : Int) (a0_2 : Int) (a0_3 : Int) : Option ((List (S58)) × Int × Int × Int):=if ([] : List (S58)).length + l0_0.length < 2932031007402 then (some ((([] : List (S58)) ++ l0_0),a0_1,a0_2,a0_3)) else (none)
def ratlineref09_Whole.T2 : Bool × List (List Nat × List Nat):=(true,[([],[]),([],[]),([1],[1]),([0,2],[0,2]),([],[]),([4],[4]),([],[]),([6],[6]),([],[]),([8],[8]),([3,5,7,9],[3,5,7,9]),([10,3,0,1,2,3,4,5,6,7,8,9,10],[10])])
def ratlineref09_Whole.B2 : List Nat:=[0,0,2,7,0,16,0,64,0,256,1023,2047]
theorem ratlineref09_Whole.tab2 : rtab .any (opsOf Try.f9 2) = ratlineref09_Whole.T2:=by kernel_rfl
theorem ratlineref09_Whole.bits2 : waitsOk ratlineref09_Whole.T2.2 ratlineref09_Whole.B2 = true:=by kernel_rfl
set_option maxHeartbeats 8000000 in
set_option maxRecDepth 100000 in
theorem ratlineref09_Whole.calls (A0_0 : Option Addr) (c0_0 : Nat) (l0_0 : List (S58)) (a0_1 : Int) (a0_2 : Int) (a0_3 : Int) (r1 : List (S58)) (r2 : Int) (r3 : Int) (r4 : Int) (w : World) (hr0_0 : Kd.C k58 w A0_0 l0_0.length l0_0) (hc0_0 : l0_0.length ≤ c0_0) (h : ratlineref09_Whole.f l0_0 a0_1 a0_2 a0_3 = some (r1,r2,r3,r4)) :
  Calls Try.prog 9 #[.agg #[.slice A0_0 l0_0.length c0_0,.int .u64 a0_1,.int .u64 a0_2,.int .u64 a0_3]] w fun e w' => ∃ v0_ : Value,e = .returned (.agg #[v0_,.int .u64 r2,.int .u64 r3,.int .u64 r4]) ∧ Kd.R k58 58 w' w.heap.size (fun _ => True) v0_ r1 ∧ Below w.heap.size w w':=by
 have hu28:=Try.underlying28
 have hu25:=Try.underlying25
 have HR0_0:=Aside0.mk hr0_0
 have HC0_0:=Aside0.mk hc0_0
 clear hr0_0 hc0_0
 have HB:=Aside0.mk (Below.refl w.heap.size w)
 have H : (if ([] : List (S58)).length + l0_0.length < 2932031007402 then (some ((([] : List (S58)) ++ l0_0),a0_1,a0_2,a0_3)) else (none)) = some (r1,r2,r3,r4):=h
 clear h
 by_cases c2 : ([] : List (S58)).length + l0_0.length < 2932031007402
 rotate_left
 ·rw [if_neg c2] at H
  exact absurd H (by simp)

 rw [if_pos c2] at H
 have LMc2:=Aside0.mk c2
 clear c2
 obtain ⟨y107,hy107⟩ : ∃ y_ : List (S58),y_ = (([] : List (S58)) ++ l0_0):=⟨_,rfl⟩
 replace H : (some (y107,a0_1,a0_2,a0_3)) = some (r1,r2,r3,r4):=by first|(rw [hy107];with_reducible exact H)|(have H2_:=(Option.bind_some _ _).symm.trans H;rw [hy107];with_reducible exact H2_)|(have H2_:=(Option.bind_some _ _).symm.trans H;with_reducible exact H2_)|with_reducible exact H|(rw [hy107];exact H)|exact H
 have Ny107:=Aside0.mk hy107
 clear hy107
 simp only [Option.some.injEq,Prod.mk.injEq] at H
 obtain ⟨rfl,rfl,rfl,rfl⟩:=H
 go_enter Try.func9,Try.ntmps9
 try go_wp2_with (first|((with_reducible refine gate_dst (N:=1) rfl ?_);refine box_event ?hg (N:=1) ?hd (cs:=#[.slice A0_0 l0_0.length c0_0,.int .u64 a0_1,.int .u64 a0_2,.int .u64 a0_3]) (t:=28) ?hr ?_;(case hd => rfl);(case hg => rfl);(case hr => first|(go_simp;done)|(go_simp;rfl));intro gb105 hg w3 hbox hb;have n0_:=Aside0.mk (below_step (by repeat (first|(with_reducible first|exact HB.out|apply below_alloc|apply pw_below_drewN|apply below_drew1)|exact HB.out)) hb);have n1_:=Aside0.mk (hbox);have n2_:=Aside0.mk ((by rw [hg];exact (below_size (by repeat (first|(with_reducible first|exact HB.out|apply below_alloc|apply pw_below_drewN|apply below_drew1)|exact HB.out))) : w.heap.size ≤ gb105));have n3_:=Aside0.mk ((by rw [hg];exact (below_size (by repeat (first|(with_reducible first|exact HB.out|apply below_alloc|apply pw_below_drewN|apply below_drew1)|exact HB.out))) : w.heap.size ≤ gb105));clear HB;have HB:=n0_;have BK105:=n1_;have GW105:=n2_;have GE105:=n3_;clear n0_ n1_ n2_ n3_;clear hb hbox hg)|((with_reducible refine gate_dst (N:=2) rfl ?_);refine box_event ?hg (N:=2) ?hd (cs:=#[.slice none 0 0,.int .u64 0,.int .u64 0,.int .u64 0]) (t:=25) ?hr ?_;(case hd => rfl);(case hg => rfl);(case hr => first|(go_simp;done)|(go_simp;rfl));intro gb106 hg w4 hbox hb;have n0_:=Aside0.mk (blk_below (g:=gb105) (o:=.cells #[.slice A0_0 l0_0.length c0_0,.int .u64 a0_1,.int .u64 a0_2,.int .u64 a0_3] 28 (0,0)) (by (with_reducible repeat (first|refine bN ?_ _|refine bD ?_|refine bA ?_ _));exact BK105.out) hb);have n1_:=Aside0.mk (below_step (by repeat (first|(with_reducible first|exact HB.out|apply below_alloc|apply pw_below_drewN|apply below_drew1|refine below_set ?_ GE105.out)|exact HB.out)) hb);have n2_:=Aside0.mk (hbox);have n3_:=Aside0.mk ((by rw [hg];exact (below_size (by repeat (first|(with_reducible first|exact HB.out|apply below_alloc|apply pw_below_drewN|apply below_drew1|refine below_set ?_ GE105.out)|exact HB.out))) : w.heap.size ≤ gb106));have n4_:=Aside0.mk ((by rw [hg];exact (below_size (by repeat (first|(with_reducible first|exact HB.out|apply below_alloc|apply pw_below_drewN|apply below_drew1|refine below_set ?_ GE105.out)|exact HB.out))) : w.heap.size ≤ gb106));have n5_:=Aside0.mk ((by rw [hg];exact Nat.ne_of_lt (blk_lt (g:=gb105) (o:=.cells #[.slice A0_0 l0_0.length c0_0,.int .u64 a0_1,.int .u64 a0_2,.int .u64 a0_3] 28 (0,0)) (by (with_reducible repeat (first|refine bN ?_ _|refine bD ?_|refine bA ?_ _));exact BK105.out)) : gb105 ≠ gb106));have n6_:=Aside0.mk ((by rw [hg];exact Nat.ne_of_gt (blk_lt (g:=gb105) (o:=.cells #[.slice A0_0 l0_0.length c0_0,.int .u64 a0_1,.int .u64 a0_2,.int .u64 a0_3] 28 (0,0)) (by (with_reducible repeat (first|refine bN ?_ _|refine bD ?_|refine bA ?_ _));exact BK105.out)) : gb106 ≠ gb105));clear BK105;clear HB;have BK105:=n0_;have HB:=n1_;have BK106:=n2_;have GW106:=n3_;have GE106:=n4_;have NB105_106:=n5_;have NB106_105:=n6_;clear n0_ n1_ n2_ n3_ n4_ n5_ n6_;clear hb hbox hg))
 have n0_:=Aside0.mk (blk_drew BK105.out)
 have n1_:=Aside0.mk (blk_drew BK106.out)
 have n2_:=Aside0.mk (below_drew1 HB.out)
 clear BK105
 clear BK106
 clear HB
 have BK105:=n0_
 have BK106:=n1_
 have HB:=n2_
 clear n0_ n1_ n2_
 refine start_ (n:=12) (S:=fun w' => w'.cell? ⟨gb105,0,none⟩ = some (.slice A0_0 l0_0.length c0_0) ∧ w'.cell? ⟨gb105,1,none⟩ = some (.int .u64 a0_1) ∧ w'.cell? ⟨gb105,2,none⟩ = some (.int .u64 a0_2) ∧ w'.cell? ⟨gb105,3,none⟩ = some (.int .u64 a0_3)) (ds:=[]) #[ff,ff,ff,ff,ff,ff,ff,ff,ff,ff,ff,ff] (by kernel_rfl) rfl rfl ⟨(blk_cell BK105.out 0).trans rfl,(blk_cell BK105.out 1).trans rfl,(blk_cell BK105.out 2).trans rfl,(blk_cell BK105.out 3).trans rfl⟩ (fun hHeld => ?_);refine with_tabW ratlineref09_Whole.tab2 ratlineref09_Whole.bits2 (fun HT_ HW_ => ?_)
 generalize w4.drew = w5 at BK105 BK106 HB hHeld ⊢
 refine pure_ (i:=0) (N:=some 4) (v:=?_) (a':=?_) #[tt,ff,ff,ff,ff,ff,ff,ff,ff,ff,ff,ff] rfl rfl (any_of HT_.out (by kernel_rfl)) (fun _ _ _ h => h) (Or.inl ⟨by rfl,?_⟩) ?_ ?_
 rotate_left
 ·intro w'
  go_simp
  with_reducible rfl
 rotate_left
 ·simp only [Act.put,sA,sZ,sS,i64_w,i32_w]
  rfl
 refine pure_ (i:=1) (N:=some 5) (v:=?_) (a':=?_) #[tt,tt,ff,ff,ff,ff,ff,ff,ff,ff,ff,ff] rfl rfl (any_of HT_.out (by kernel_rfl)) (fun _ _ _ h => h) (Or.inl ⟨by rfl,?_⟩) ?_ ?_
 rotate_left
 ·intro w'
  go_simp
  with_reducible rfl
 rotate_left
 ·simp only [Act.put,sA,sZ,sS,i64_w,i32_w]
  rfl
 refine pure_ (i:=4) (N:=some 8) (v:=?_) (a':=?_) #[tt,tt,ff,ff,tt,ff,ff,ff,ff,ff,ff,ff] rfl rfl (any_of HT_.out (by kernel_rfl)) (fun _ _ _ h => h) (Or.inl ⟨by rfl,?_⟩) ?_ ?_
 rotate_left
 ·intro w'
  go_simp
  with_reducible rfl
 rotate_left
 ·simp only [Act.put,sA,sZ,sS,i64_w,i32_w]
  rfl
 refine pure_ (i:=6) (N:=some 10) (v:=?_) (a':=?_) #[tt,tt,ff,ff,tt,ff,tt,ff,ff,ff,ff,ff] rfl rfl (any_of HT_.out (by kernel_rfl)) (fun _ _ _ h => h) (Or.inl ⟨by rfl,?_⟩) ?_ ?_
 rotate_left
 ·intro w'
  go_simp
  with_reducible rfl
 rotate_left
 ·simp only [Act.put,sA,sZ,sS,i64_w,i32_w]
  rfl
 refine pure_ (i:=8) (N:=some 12) (v:=?_) (a':=?_) #[tt,tt,ff,ff,tt,ff,tt,ff,tt,ff,ff,ff] rfl rfl (any_of HT_.out (by kernel_rfl)) (fun _ _ _ h => h) (Or.inl ⟨by rfl,?_⟩) ?_ ?_
 rotate_left
 ·intro w'
  go_simp
  with_reducible rfl
 rotate_left
 ·simp only [Act.put,sA,sZ,sS,i64_w,i32_w]
  rfl
 refine take_ (i:=2) (N:=some 6) (v:=?_) (a':=?_) #[tt,tt,tt,ff,tt,ff,tt,ff,tt,ff,ff,ff] rfl rfl (take_ofW HT_.out HW_.out (by kernel_rfl)) (fun _ _ _ h => h) (Or.inl ⟨by rfl,?_⟩) hHeld ?_ ?_
 rotate_left
 ·rintro w' ⟨s0,s1,s2,s3⟩
  go_simp
  with_reducible rfl
 rotate_left
 ·simp only [Act.put,sA,sZ,sS,i64_w,i32_w]
  rfl
 refine take_ (i:=5) (N:=some 9) (v:=?_) (a':=?_) #[tt,tt,tt,ff,tt,tt,tt,ff,tt,ff,ff,ff] rfl rfl (take_ofW HT_.out HW_.out (by kernel_rfl)) (fun _ _ _ h => h) (Or.inl ⟨by rfl,?_⟩) hHeld ?_ ?_
 rotate_left
 ·rintro w' ⟨s0,s1,s2,s3⟩
  go_simp
  with_reducible rfl
 rotate_left
 ·simp only [Act.put,sA,sZ,sS,i64_w,i32_w]
  rfl
 refine take_ (i:=7) (N:=some 11) (v:=?_) (a':=?_) #[tt,tt,tt,ff,tt,tt,tt,tt,tt,ff,ff,ff] rfl rfl (take_ofW HT_.out HW_.out (by kernel_rfl)) (fun _ _ _ h => h) (Or.inl ⟨by rfl,?_⟩) hHeld ?_ ?_
 rotate_left
 ·rintro w' ⟨s0,s1,s2,s3⟩
  go_simp
  with_reducible rfl
 rotate_left
 ·simp only [Act.put,sA,sZ,sS,i64_w,i32_w]
  rfl
 refine take_ (i:=9) (N:=some 13) (v:=?_) (a':=?_) #[tt,tt,tt,ff,tt,tt,tt,tt,tt,tt,ff,ff] rfl rfl (take_ofW HT_.out HW_.out (by kernel_rfl)) (fun _ _ _ h => h) (Or.inl ⟨by rfl,?_⟩) hHeld ?_ ?_
 rotate_left
 ·rintro w' ⟨s0,s1,s2,s3⟩
  go_simp
  with_reducible rfl
 rotate_left
 ·simp only [Act.put,sA,sZ,sS,i64_w,i32_w]
  rfl
 refine one_ (i:=3) (N:=some 7) #[tt,tt,tt,tt,tt,tt,tt,tt,tt,tt,ff,ff] rfl rfl (one_of HT_.out (by kernel_rfl)) (by decide) (fun K hK => ?_)
 refine Kd.R_append_rows_step k58 (w0:=w) w.heap.size (by rfl) (.tmp 4) (.tmp 6) 22 58 (.agg #[(.int .u64 0),(.int .u64 0),(.string ⟨#[]⟩),(.string ⟨#[]⟩)]) 48 rfl Try.underlying22 info58 rfl (by decide) (by omega) (.slice none 0 0) ([] : List (S58)) l0_0 _ _ _ (fun _ => True) (fun _ => False) rfl rfl ?aO ?aR (fun _ _ h => h) (fun _ h => h.elim) ?aF ?aB ?aS ?aL ?_
 (case aR => repeat (first|exact (Kd.C_below HR0_0.out HB.out)|(with_reducible refine Kd.C_alloc ?_ _)|(with_reducible refine Kd.C_drewN ?_ _)|(with_reducible refine Kd.C_drew ?_)))
 (case aB => exact (by repeat (first|(with_reducible first|exact HB.out|apply below_alloc|apply pw_below_drewN|apply below_drew1|refine below_set ?_ GE105.out|refine below_set ?_ GE106.out)|exact HB.out)))
 (case aF => exact (fun _ _ => trivial))
 (case aO => exact ((Kd.R_nil _ _ _ _ (fun _ => True))))
 (case aS => exact (below_size (by repeat (first|(with_reducible first|exact HB.out|apply below_alloc|apply pw_below_drewN|apply below_drew1|refine below_set ?_ GE105.out|refine below_set ?_ GE106.out)|exact HB.out))))
 (case aL => have:=LMc2.out;omega)
 intro v108 w6 ho hb hg hat
 rw [← Ny107.out] at ho
 have n0_:=Aside0.mk (blk_grown (g:=gb105) (o:=.cells #[.slice A0_0 l0_0.length c0_0,.int .u64 a0_1,.int .u64 a0_2,.int .u64 a0_3] 28 (0,0)) (by (with_reducible repeat (first|refine bN ?_ _|refine bD ?_|refine bA ?_ _));exact BK105.out) hg (by simp [Value.ownBlock]))
 have n1_:=Aside0.mk (blk_grown (g:=gb106) (o:=.cells #[.slice none 0 0,.int .u64 0,.int .u64 0,.int .u64 0] 25 (0,0)) (by (with_reducible repeat (first|refine bN ?_ _|refine bD ?_|refine bA ?_ _));exact BK106.out) hg (by simp [Value.ownBlock]))
 have n2_:=Aside0.mk (hb)
 have n3_:=Aside0.mk (ho)
 clear BK105
 clear BK106
 clear HB
 have BK105:=n0_
 have BK106:=n1_
 have HB:=n2_
 have HO109:=n3_
 clear n0_ n1_ n2_ n3_
 clear ho hb hg hat
 obtain ⟨Ao7,co7,eo7⟩:=Kd.R_slice HO109.out
 (first|subst eo7|(injection eo7 with f1_ f2_ f3_;have f4_:=f1_.symm;have f5_:=f3_.symm;clear f1_ f2_ f3_;subst f4_;subst f5_))
 refine hK.out _ _ ⟨(blk_cell BK105.out 0).trans rfl,(blk_cell BK105.out 1).trans rfl,(blk_cell BK105.out 2).trans rfl,(blk_cell BK105.out 3).trans rfl⟩ (fun hHeld => ?_)
 clear hK K
 refine norm_ (a':=?_) ?_ ?_
 rotate_left
 ·show Act.put _ (some 7) _ = _
  simp only [Act.put,sA,sZ,sS,i64_w,i32_w]
  rfl
 refine pure_ (i:=10) (N:=some 14) (v:=?_) (a':=?_) #[tt,tt,tt,tt,tt,tt,tt,tt,tt,tt,tt,ff] rfl rfl (any_of HT_.out (by kernel_rfl)) (fun _ _ _ h => h) (Or.inl ⟨by rfl,?_⟩) ?_ ?_
 rotate_left
 ·intro w'
  go_simp
  with_reducible rfl
 rotate_left
 ·simp only [Act.put,sA,sZ,sS,i64_w,i32_w]
  rfl
 refine one_ (i:=11) (N:=none) #[tt,tt,tt,tt,tt,tt,tt,tt,tt,tt,tt,tt] rfl rfl (one_of HT_.out (by kernel_rfl)) (by decide) (fun K hK => ?_)
 have hs8 : w6.cell? ⟨gb106,0,none⟩ = some (.slice none 0 0):=(blk_cell BK106.out 0).trans rfl
 have hfs8:=blk_frozen BK106.out 0
 have hns8_0:=NB105_106.out
 have hms8_0:=NB106_105.out
 have hs9 : w6.cell? ⟨gb106,1,none⟩ = some (.int .u64 0):=(blk_cell BK106.out 1).trans rfl
 have hfs9:=blk_frozen BK106.out 1
 have hns9_0:=NB105_106.out
 have hms9_0:=NB106_105.out
 have hs10 : w6.cell? ⟨gb106,2,none⟩ = some (.int .u64 0):=(blk_cell BK106.out 2).trans rfl
 have hfs10:=blk_frozen BK106.out 2
 have hns10_0:=NB105_106.out
 have hms10_0:=NB106_105.out
 have hs11 : w6.cell? ⟨gb106,3,none⟩ = some (.int .u64 0):=(blk_cell BK106.out 3).trans rfl
 have hfs11:=blk_frozen BK106.out 3
 have hns11_0:=NB105_106.out
 have hms11_0:=NB106_105.out
 refine skip_ (w1:=?_) (by rfl) rfl ?_ ?_
 rotate_left
 ·go_simp
  rfl
 refine hK.out _ _ ⟨((cell_far (p:=⟨gb106,_,none⟩) NB105_106.out _).trans (((cell_far (p:=⟨gb106,_,none⟩) NB105_106.out _).trans (((cell_far (p:=⟨gb106,_,none⟩) NB105_106.out _).trans (((cell_far (p:=⟨gb106,_,none⟩) NB105_106.out _).trans (hHeld.1)))))))),((cell_far (p:=⟨gb106,_,none⟩) NB105_106.out _).trans (((cell_far (p:=⟨gb106,_,none⟩) NB105_106.out _).trans (((cell_far (p:=⟨gb106,_,none⟩) NB105_106.out _).trans (((cell_far (p:=⟨gb106,_,none⟩) NB105_106.out _).trans (hHeld.2.1)))))))),((cell_far (p:=⟨gb106,_,none⟩) NB105_106.out _).trans (((cell_far (p:=⟨gb106,_,none⟩) NB105_106.out _).trans (((cell_far (p:=⟨gb106,_,none⟩) NB105_106.out _).trans (((cell_far (p:=⟨gb106,_,none⟩) NB105_106.out _).trans (hHeld.2.2.1)))))))),((cell_far (p:=⟨gb106,_,none⟩) NB105_106.out _).trans (((cell_far (p:=⟨gb106,_,none⟩) NB105_106.out _).trans (((cell_far (p:=⟨gb106,_,none⟩) NB105_106.out _).trans (((cell_far (p:=⟨gb106,_,none⟩) NB105_106.out _).trans (hHeld.2.2.2))))))))⟩ (fun hHeld => ?_)
 clear hK K
 refine done_ (done_of HT_.out (by kernel_rfl)) ?_
 try go_wp2
 refine bodyPost_ret (results_cell_row rfl _ _ gb106 25 #[.slice Ao7 y107.length co7,.int .u64 a0_1,.int .u64 a0_2,.int .u64 a0_3] (0,0) _ rfl (by (with_reducible repeat (first|refine bN ?_ _|refine bD ?_|refine bA ?_ _));refine blk_put (cs:=#[.slice Ao7 y107.length co7,.int .u64 a0_1,.int .u64 a0_2,.int .u64 0]) ?_ 3 _ rfl;(with_reducible repeat (first|refine bN ?_ _|refine bD ?_|refine bA ?_ _));refine blk_put (cs:=#[.slice Ao7 y107.length co7,.int .u64 a0_1,.int .u64 0,.int .u64 0]) ?_ 2 _ rfl;(with_reducible repeat (first|refine bN ?_ _|refine bD ?_|refine bA ?_ _));refine blk_put (cs:=#[.slice Ao7 y107.length co7,.int .u64 0,.int .u64 0,.int .u64 0]) ?_ 1 _ rfl;(with_reducible repeat (first|refine bN ?_ _|refine bD ?_|refine bA ?_ _));refine blk_put (cs:=#[.slice none 0 0,.int .u64 0,.int .u64 0,.int .u64 0]) ?_ 0 _ rfl;(with_reducible repeat (first|refine bN ?_ _|refine bD ?_|refine bA ?_ _));exact BK106.out) Try.underlying25 rfl (by kernel_rfl)) rfl ?_
 exact ⟨_,by first|rfl|(simp [errW_none,errW_some] <;> rfl)|(simp [*,errW_none,errW_some] <;> rfl),by (with_reducible repeat (first|apply zA|apply zN|apply zD));exact Kd.R_mono (Kd.R_far (p:=⟨gb106,3,none⟩) (Kd.R_far (p:=⟨gb106,2,none⟩) (Kd.R_far (p:=⟨gb106,1,none⟩) (Kd.R_far (p:=⟨gb106,0,none⟩) (Kd.R_types HO109.out BK106.out (by decide)) (fun _ hk => hk.2) (.slice Ao7 y107.length co7)) (fun _ hk => hk.2) (.int .u64 a0_1)) (fun _ hk => hk.2) (.int .u64 a0_2)) (fun _ hk => hk.2) (.int .u64 a0_3)) (fun _ hk => trivial),by repeat (first|(with_reducible first|exact HB.out|apply below_alloc|apply pw_below_drewN|apply below_drew1|refine below_set ?_ GE105.out|refine below_set ?_ GE106.out)|exact HB.out)⟩
end Go.Proofs.Ytcagajobpnpicaa.P

end

section
namespace Go.Proofs.Ytcagajobpnpicaa.P
open Go.RowKit Go.Proofs.YtcagajobpnpicaaG Go.Proofs.YtcagajobpnpicaaW.PrintWords Go.Proofs.YtcagajobpnpicaaW.PrintLast Go.Proofs.YtcagajobpnpicaaW.PrintMore
attribute [local go_sem] str_gtr str_geq str_leq max2_int min2_int max_two min_two max_three min_three max_four min_four   -- for this text's walks alone
set_option linter.unusedVariables false
set_option linter.unusedSimpArgs false

def ratlinelaw02_Same.f (l0 : List Int) (l1 : List Int) : Option (Bool):=some ((strOfNums l0).toList == (strOfNums l1).toList)
set_option maxHeartbeats 8000000 in
set_option maxRecDepth 100000 in
theorem ratlinelaw02_Same.calls (A0 : Option Addr) (c0 : Nat) (l0 : List Int) (A1 : Option Addr) (c1 : Nat) (l1 : List Int) (r : Bool) (w : World) (hr0 : Kd.C (Kd.int .u8) w A0 l0.length l0) (hc0 : l0.length ≤ c0) (hr1 : Kd.C (Kd.int .u8) w A1 l1.length l1) (hc1 : l1.length ≤ c1) (h : ratlinelaw02_Same.f l0 l1 = some r) :
  Calls Try.prog 21 #[.slice A0 l0.length c0,.slice A1 l1.length c1] w fun e w' => e = .returned (.bool r) ∧ Drawn0 w w':=by
 have HR0:=Aside0.mk hr0
 have HC0:=Aside0.mk hc0
 clear hr0 hc0
 have HR1:=Aside0.mk hr1
 have HC1:=Aside0.mk hc1
 clear hr1 hc1
 have H : (some ((strOfNums l0).toList == (strOfNums l1).toList)) = some r:=h
 clear h
 obtain rfl:=Option.some.inj H
 have hcv3:=Kd.C_string (P:=Try.prog) (A:=A0) (c:=c0) Try.underlying26 Try.underlying5 Try.underlying9 HR0.out
 have hcvd_:=fun n_ => Kd.C_string (P:=Try.prog) (A:=A0) (c:=c0) Try.underlying26 Try.underlying5 Try.underlying9 (Kd.C_below (HR0.out) (pw_below_drewN (Below.refl _ _) n_))
 (try simp only [List.length_take,Int.toNat_natCast] at hcvd_)
 have hcv4:=Kd.C_string (P:=Try.prog) (A:=A1) (c:=c1) Try.underlying26 Try.underlying5 Try.underlying9 HR1.out
 have hcvd_:=fun n_ => Kd.C_string (P:=Try.prog) (A:=A1) (c:=c1) Try.underlying26 Try.underlying5 Try.underlying9 (Kd.C_below (HR1.out) (pw_below_drewN (Below.refl _ _) n_))
 (try simp only [List.length_take,Int.toNat_natCast] at hcvd_)
 go_enter Try.func21,Try.ntmps21
 go_wp2
 go_ret
 exact ⟨by first|rfl|(simp;done)|(simp [*];done),by repeat (first|exact Drawn0.refl _|apply Drawn0.step)⟩

-- GIVEN: function 10 (ratlinelaw09_awake)

def edit_key.f (a0 : BA) : Option (Bool):=if a0.toList = ([] : List UInt8) then (some false) else (some (decide ((a0.size : Int) ≤ 64)))
set_option maxHeartbeats 8000000 in
set_option maxRecDepth 100000 in
theorem edit_key.calls (a0 : BA) (r : Bool) (w : World) (h : edit_key.f a0 = some r) :
  Calls Try.prog 55 #[.string a0] w fun e w' => e = .returned (.bool r) ∧ Drawn0 w w':=by
 have H : (if a0.toList = ([] : List UInt8) then (some false) else (some (decide ((a0.size : Int) ≤ 64)))) = some r:=h
 clear h
 by_cases c2 : a0.toList = ([] : List UInt8)
 ·rw [if_pos c2] at H
  have c2b0 : (a0.toList == ([] : List UInt8)) = true:=beq_iff_eq.mpr c2
  have c2b1 : (a0.toList != ([] : List UInt8)) = false:=bne_eq_false_iff_eq.mpr c2
  clear c2
  obtain rfl:=Option.some.inj H
  go_enter Try.func55,Try.ntmps55
  go_wp2
  go_ret
  exact ⟨by first|rfl|(simp;done)|(simp [*];done),by repeat (first|exact Drawn0.refl _|apply Drawn0.step)⟩
 ·rw [if_neg c2] at H
  have c2b0 : (a0.toList == ([] : List UInt8)) = false:=beq_eq_false_iff_ne.mpr c2
  have c2b1 : (a0.toList != ([] : List UInt8)) = true:=bne_iff_ne.mpr c2
  obtain rfl:=Option.some.inj H
  go_enter Try.func55,Try.ntmps55
  go_wp2
  go_ret
  exact ⟨by first|rfl|(simp;done)|(simp [*];done),by repeat (first|exact Drawn0.refl _|apply Drawn0.step)⟩

end Go.Proofs.Ytcagajobpnpicaa.P

end

section
namespace Go.Proofs.Ytcagajobpnpicaa.P
open Go.RowKit Go.Proofs.YtcagajobpnpicaaG Go.Proofs.YtcagajobpnpicaaW.PrintWords Go.Proofs.YtcagajobpnpicaaW.PrintLast Go.Proofs.YtcagajobpnpicaaW.PrintMore
attribute [local go_sem] str_gtr str_geq str_leq max2_int min2_int max_two min_two max_three min_three max_four min_four   -- for this text's walks alone
set_option linter.unusedVariables false
set_option linter.unusedSimpArgs false

def edit_odd.f (a0_0 : Int) (a0_1 : Int) (a0_2 : BA) (a0_3 : BA) : Option (Bool):=if a0_0 = 0 then (some true) else (if a0_1 = 0 then (some true) else ((edit_key.f a0_2).bind fun t111 => (if t111 = true then ((edit_key.f a0_3).bind fun t112 => (if t112 = true then (some (Op.bytesLess a0_3.toList a0_2.toList)) else (some true))) else (some true))))
set_option maxHeartbeats 8000000 in
set_option maxRecDepth 100000 in
theorem edit_odd.calls (a0_0 : Int) (a0_1 : Int) (a0_2 : BA) (a0_3 : BA) (r : Bool) (w : World) (h : edit_odd.f a0_0 a0_1 a0_2 a0_3 = some r) :
  Calls Try.prog 41 #[.agg #[.int .u64 a0_0,.int .u64 a0_1,.string a0_2,.string a0_3]] w fun e w' => e = .returned (.bool r) ∧ Below w.heap.size w w':=by
 have hu58:=Try.underlying58
 have HB:=Aside0.mk (Below.refl w.heap.size w)
 have H : (if a0_0 = 0 then (some true) else (if a0_1 = 0 then (some true) else ((edit_key.f a0_2).bind fun t111 => (if t111 = true then ((edit_key.f a0_3).bind fun t112 => (if t112 = true then (some (Op.bytesLess a0_3.toList a0_2.toList)) else (some true))) else (some true))))) = some r:=h
 clear h
 by_cases c2 : a0_0 = 0
 ·rw [if_pos c2] at H
  have c2b0 : (a0_0 == 0) = true:=beq_iff_eq.mpr c2
  have c2b1 : (a0_0 != 0) = false:=bne_eq_false_iff_eq.mpr c2
  clear c2
  obtain rfl:=Option.some.inj H
  go_enter Try.func41,Try.ntmps41
  go_wp2_with (first|((with_reducible refine gate_dst (N:=1) rfl ?_);refine box_event ?hg (N:=1) ?hd (cs:=#[.int .u64 a0_0,.int .u64 a0_1,.string a0_2,.string a0_3]) (t:=58) ?hr ?_;(case hd => rfl);(case hg => rfl);(case hr => first|(go_simp;done)|(go_simp;rfl));intro gb110 hg w3 hbox hb;have n0_:=Aside0.mk (below_step (by repeat (first|(with_reducible first|exact HB.out|apply below_alloc|apply pw_below_drewN|apply below_drew1)|exact HB.out)) hb);have n1_:=Aside0.mk (hbox);have n2_:=Aside0.mk ((by rw [hg];exact (below_size (by repeat (first|(with_reducible first|exact HB.out|apply below_alloc|apply pw_below_drewN|apply below_drew1)|exact HB.out))) : w.heap.size ≤ gb110));have n3_:=Aside0.mk ((by rw [hg];exact (below_size (by repeat (first|(with_reducible first|exact HB.out|apply below_alloc|apply pw_below_drewN|apply below_drew1)|exact HB.out))) : w.heap.size ≤ gb110));clear HB;have HB:=n0_;have BK110:=n1_;have GW110:=n2_;have GE110:=n3_;clear n0_ n1_ n2_ n3_;clear hb hbox hg;have hcz4_0 : w3.cell? ⟨gb110,0,none⟩ = some (.int .u64 a0_0):=(blk_cell BK110.out 0).trans rfl;have hcz4_1 : w3.cell? ⟨gb110,1,none⟩ = some (.int .u64 a0_1):=(blk_cell BK110.out 1).trans rfl;have hcz4_2 : w3.cell? ⟨gb110,2,none⟩ = some (.string a0_2):=(blk_cell BK110.out 2).trans rfl;have hcz4_3 : w3.cell? ⟨gb110,3,none⟩ = some (.string a0_3):=(blk_cell BK110.out 3).trans rfl;have hfz4_0:=blk_frozen BK110.out 0;have hfz4_1:=blk_frozen BK110.out 1;have hfz4_2:=blk_frozen BK110.out 2;have hfz4_3:=blk_frozen BK110.out 3))
  go_ret
  exact ⟨by first|rfl|(simp [errW_none,errW_some] <;> rfl)|(simp [*,errW_none,errW_some] <;> rfl),by repeat (first|(with_reducible first|exact HB.out|apply below_alloc|apply pw_below_drewN|apply below_drew1|refine below_set ?_ GE110.out)|exact HB.out)⟩
 ·rw [if_neg c2] at H
  have c2b0 : (a0_0 == 0) = false:=beq_eq_false_iff_ne.mpr c2
  have c2b1 : (a0_0 != 0) = true:=bne_iff_ne.mpr c2
  by_cases c5 : a0_1 = 0
  ·rw [if_pos c5] at H
   have c5b0 : (a0_1 == 0) = true:=beq_iff_eq.mpr c5
   have c5b1 : (a0_1 != 0) = false:=bne_eq_false_iff_eq.mpr c5
   clear c5
   obtain rfl:=Option.some.inj H
   go_enter Try.func41,Try.ntmps41
   go_wp2_with (first|((with_reducible refine gate_dst (N:=1) rfl ?_);refine box_event ?hg (N:=1) ?hd (cs:=#[.int .u64 a0_0,.int .u64 a0_1,.string a0_2,.string a0_3]) (t:=58) ?hr ?_;(case hd => rfl);(case hg => rfl);(case hr => first|(go_simp;done)|(go_simp;rfl));intro gb110 hg w6 hbox hb;have n0_:=Aside0.mk (below_step (by repeat (first|(with_reducible first|exact HB.out|apply below_alloc|apply pw_below_drewN|apply below_drew1)|exact HB.out)) hb);have n1_:=Aside0.mk (hbox);have n2_:=Aside0.mk ((by rw [hg];exact (below_size (by repeat (first|(with_reducible first|exact HB.out|apply below_alloc|apply pw_below_drewN|apply below_drew1)|exact HB.out))) : w.heap.size ≤ gb110));have n3_:=Aside0.mk ((by rw [hg];exact (below_size (by repeat (first|(with_reducible first|exact HB.out|apply below_alloc|apply pw_below_drewN|apply below_drew1)|exact HB.out))) : w.heap.size ≤ gb110));clear HB;have HB:=n0_;have BK110:=n1_;have GW110:=n2_;have GE110:=n3_;clear n0_ n1_ n2_ n3_;clear hb hbox hg;have hcz7_0 : w6.cell? ⟨gb110,0,none⟩ = some (.int .u64 a0_0):=(blk_cell BK110.out 0).trans rfl;have hcz7_1 : w6.cell? ⟨gb110,1,none⟩ = some (.int .u64 a0_1):=(blk_cell BK110.out 1).trans rfl;have hcz7_2 : w6.cell? ⟨gb110,2,none⟩ = some (.string a0_2):=(blk_cell BK110.out 2).trans rfl;have hcz7_3 : w6.cell? ⟨gb110,3,none⟩ = some (.string a0_3):=(blk_cell BK110.out 3).trans rfl;have hfz7_0:=blk_frozen BK110.out 0;have hfz7_1:=blk_frozen BK110.out 1;have hfz7_2:=blk_frozen BK110.out 2;have hfz7_3:=blk_frozen BK110.out 3))
   go_ret
   exact ⟨by first|rfl|(simp [errW_none,errW_some] <;> rfl)|(simp [*,errW_none,errW_some] <;> rfl),by repeat (first|(with_reducible first|exact HB.out|apply below_alloc|apply pw_below_drewN|apply below_drew1|refine below_set ?_ GE110.out)|exact HB.out)⟩
  ·rw [if_neg c5] at H
   have c5b0 : (a0_1 == 0) = false:=beq_eq_false_iff_ne.mpr c5
   have c5b1 : (a0_1 != 0) = true:=bne_iff_ne.mpr c5
   replace H:=Option.bind_eq_some_iff.mp H
   obtain ⟨t111,A80,H⟩:=H
   replace H : (if t111 = true then ((edit_key.f a0_3).bind fun t112 => (if t112 = true then (some (Op.bytesLess a0_3.toList a0_2.toList)) else (some true))) else (some true)) = some r:=H
   have A8:=Aside0.mk A80
   clear A80
   by_cases c9 : t111 = true
   ·subst c9
    have H1 : ((edit_key.f a0_3).bind fun t112 => (if t112 = true then (some (Op.bytesLess a0_3.toList a0_2.toList)) else (some true))) = some r:=by rw [if_pos rfl] at H;exact H
    clear H
    have H:=H1
    clear H1
    replace H:=Option.bind_eq_some_iff.mp H
    obtain ⟨t112,A100,H⟩:=H
    replace H : (if t112 = true then (some (Op.bytesLess a0_3.toList a0_2.toList)) else (some true)) = some r:=H
    have A10:=Aside0.mk A100
    clear A100
    by_cases c11 : t112 = true
    ·subst c11
     have H1 : (some (Op.bytesLess a0_3.toList a0_2.toList)) = some r:=by rw [if_pos rfl] at H;exact H
     clear H
     have H:=H1
     clear H1
     obtain rfl:=Option.some.inj H
     go_enter Try.func41,Try.ntmps41
     go_wp2_with (first|((with_reducible refine gate_dst (N:=1) rfl ?_);refine box_event ?hg (N:=1) ?hd (cs:=#[.int .u64 a0_0,.int .u64 a0_1,.string a0_2,.string a0_3]) (t:=58) ?hr ?_;(case hd => rfl);(case hg => rfl);(case hr => first|(go_simp;done)|(go_simp;rfl));intro gb110 hg w12 hbox hb;have n0_:=Aside0.mk (below_step (by repeat (first|(with_reducible first|exact HB.out|apply below_alloc|apply pw_below_drewN|apply below_drew1)|exact HB.out)) hb);have n1_:=Aside0.mk (hbox);have n2_:=Aside0.mk ((by rw [hg];exact (below_size (by repeat (first|(with_reducible first|exact HB.out|apply below_alloc|apply pw_below_drewN|apply below_drew1)|exact HB.out))) : w.heap.size ≤ gb110));have n3_:=Aside0.mk ((by rw [hg];exact (below_size (by repeat (first|(with_reducible first|exact HB.out|apply below_alloc|apply pw_below_drewN|apply below_drew1)|exact HB.out))) : w.heap.size ≤ gb110));clear HB;have HB:=n0_;have BK110:=n1_;have GW110:=n2_;have GE110:=n3_;clear n0_ n1_ n2_ n3_;clear hb hbox hg;have hcz13_0 : w12.cell? ⟨gb110,0,none⟩ = some (.int .u64 a0_0):=(blk_cell BK110.out 0).trans rfl;have hcz13_1 : w12.cell? ⟨gb110,1,none⟩ = some (.int .u64 a0_1):=(blk_cell BK110.out 1).trans rfl;have hcz13_2 : w12.cell? ⟨gb110,2,none⟩ = some (.string a0_2):=(blk_cell BK110.out 2).trans rfl;have hcz13_3 : w12.cell? ⟨gb110,3,none⟩ = some (.string a0_3):=(blk_cell BK110.out 3).trans rfl;have hfz13_0:=blk_frozen BK110.out 0;have hfz13_1:=blk_frozen BK110.out 1;have hfz13_2:=blk_frozen BK110.out 2;have hfz13_3:=blk_frozen BK110.out 3)|(go_at_call 55;(with_reducible refine (edit_key.calls a0_2 true _ A8.out).mono ?_);rintro e w' ⟨rfl,⟨nd,rfl⟩⟩)|(go_at_call 55;(with_reducible refine (edit_key.calls a0_3 true _ A10.out).mono ?_);rintro e w' ⟨rfl,⟨nd,rfl⟩⟩))
     go_ret
     exact ⟨by first|rfl|(simp [errW_none,errW_some] <;> rfl)|(simp [*,errW_none,errW_some] <;> rfl),by repeat (first|(with_reducible first|exact HB.out|apply below_alloc|apply pw_below_drewN|apply below_drew1|refine below_set ?_ GE110.out)|exact HB.out)⟩
    ·replace c11:=Bool.eq_false_iff.mpr c11
     subst c11
     have H1 : (some true) = some r:=by rw [if_neg (show ¬ (false = true) by decide)] at H;exact H
     clear H
     have H:=H1
     clear H1
     obtain rfl:=Option.some.inj H
     go_enter Try.func41,Try.ntmps41
     go_wp2_with (first|((with_reducible refine gate_dst (N:=1) rfl ?_);refine box_event ?hg (N:=1) ?hd (cs:=#[.int .u64 a0_0,.int .u64 a0_1,.string a0_2,.string a0_3]) (t:=58) ?hr ?_;(case hd => rfl);(case hg => rfl);(case hr => first|(go_simp;done)|(go_simp;rfl));intro gb110 hg w14 hbox hb;have n0_:=Aside0.mk (below_step (by repeat (first|(with_reducible first|exact HB.out|apply below_alloc|apply pw_below_drewN|apply below_drew1)|exact HB.out)) hb);have n1_:=Aside0.mk (hbox);have n2_:=Aside0.mk ((by rw [hg];exact (below_size (by repeat (first|(with_reducible first|exact HB.out|apply below_alloc|apply pw_below_drewN|apply below_drew1)|exact HB.out))) : w.heap.size ≤ gb110));have n3_:=Aside0.mk ((by rw [hg];exact (below_size (by repeat (first|(with_reducible first|exact HB.out|apply below_alloc|apply pw_below_drewN|apply below_drew1)|exact HB.out))) : w.heap.size ≤ gb110));clear HB;have HB:=n0_;have BK110:=n1_;have GW110:=n2_;have GE110:=n3_;clear n0_ n1_ n2_ n3_;clear hb hbox hg;have hcz15_0 : w14.cell? ⟨gb110,0,none⟩ = some (.int .u64 a0_0):=(blk_cell BK110.out 0).trans rfl;have hcz15_1 : w14.cell? ⟨gb110,1,none⟩ = some (.int .u64 a0_1):=(blk_cell BK110.out 1).trans rfl;have hcz15_2 : w14.cell? ⟨gb110,2,none⟩ = some (.string a0_2):=(blk_cell BK110.out 2).trans rfl;have hcz15_3 : w14.cell? ⟨gb110,3,none⟩ = some (.string a0_3):=(blk_cell BK110.out 3).trans rfl;have hfz15_0:=blk_frozen BK110.out 0;have hfz15_1:=blk_frozen BK110.out 1;have hfz15_2:=blk_frozen BK110.out 2;have hfz15_3:=blk_frozen BK110.out 3)|(go_at_call 55;(with_reducible refine (edit_key.calls a0_2 true _ A8.out).mono ?_);rintro e w' ⟨rfl,⟨nd,rfl⟩⟩)|(go_at_call 55;(with_reducible refine (edit_key.calls a0_3 false _ A10.out).mono ?_);rintro e w' ⟨rfl,⟨nd,rfl⟩⟩))
     go_ret
     exact ⟨by first|rfl|(simp [errW_none,errW_some] <;> rfl)|(simp [*,errW_none,errW_some] <;> rfl),by repeat (first|(with_reducible first|exact HB.out|apply below_alloc|apply pw_below_drewN|apply below_drew1|refine below_set ?_ GE110.out)|exact HB.out)⟩
   ·replace c9:=Bool.eq_false_iff.mpr c9
    subst c9
    have H1 : (some true) = some r:=by rw [if_neg (show ¬ (false = true) by decide)] at H;exact H
    clear H
    have H:=H1
    clear H1
    obtain rfl:=Option.some.inj H
    go_enter Try.func41,Try.ntmps41
    go_wp2_with (first|((with_reducible refine gate_dst (N:=1) rfl ?_);refine box_event ?hg (N:=1) ?hd (cs:=#[.int .u64 a0_0,.int .u64 a0_1,.string a0_2,.string a0_3]) (t:=58) ?hr ?_;(case hd => rfl);(case hg => rfl);(case hr => first|(go_simp;done)|(go_simp;rfl));intro gb110 hg w16 hbox hb;have n0_:=Aside0.mk (below_step (by repeat (first|(with_reducible first|exact HB.out|apply below_alloc|apply pw_below_drewN|apply below_drew1)|exact HB.out)) hb);have n1_:=Aside0.mk (hbox);have n2_:=Aside0.mk ((by rw [hg];exact (below_size (by repeat (first|(with_reducible first|exact HB.out|apply below_alloc|apply pw_below_drewN|apply below_drew1)|exact HB.out))) : w.heap.size ≤ gb110));have n3_:=Aside0.mk ((by rw [hg];exact (below_size (by repeat (first|(with_reducible first|exact HB.out|apply below_alloc|apply pw_below_drewN|apply below_drew1)|exact HB.out))) : w.heap.size ≤ gb110));clear HB;have HB:=n0_;have BK110:=n1_;have GW110:=n2_;have GE110:=n3_;clear n0_ n1_ n2_ n3_;clear hb hbox hg;have hcz17_0 : w16.cell? ⟨gb110,0,none⟩ = some (.int .u64 a0_0):=(blk_cell BK110.out 0).trans rfl;have hcz17_1 : w16.cell? ⟨gb110,1,none⟩ = some (.int .u64 a0_1):=(blk_cell BK110.out 1).trans rfl;have hcz17_2 : w16.cell? ⟨gb110,2,none⟩ = some (.string a0_2):=(blk_cell BK110.out 2).trans rfl;have hcz17_3 : w16.cell? ⟨gb110,3,none⟩ = some (.string a0_3):=(blk_cell BK110.out 3).trans rfl;have hfz17_0:=blk_frozen BK110.out 0;have hfz17_1:=blk_frozen BK110.out 1;have hfz17_2:=blk_frozen BK110.out 2;have hfz17_3:=blk_frozen BK110.out 3)|(go_at_call 55;(with_reducible refine (edit_key.calls a0_2 false _ A8.out).mono ?_);rintro e w' ⟨rfl,⟨nd,rfl⟩⟩))
    go_ret
    exact ⟨by first|rfl|(simp [errW_none,errW_some] <;> rfl)|(simp [*,errW_none,errW_some] <;> rfl),by repeat (first|(with_reducible first|exact HB.out|apply below_alloc|apply pw_below_drewN|apply below_drew1|refine below_set ?_ GE110.out)|exact HB.out)⟩

end Go.Proofs.Ytcagajobpnpicaa.P

end

section
namespace Go.Proofs.Ytcagajobpnpicaa.P
open Go.RowKit Go.Proofs.YtcagajobpnpicaaG Go.Proofs.YtcagajobpnpicaaW.PrintWords Go.Proofs.YtcagajobpnpicaaW.PrintLast Go.Proofs.YtcagajobpnpicaaW.PrintMore
attribute [local go_sem] str_gtr str_geq str_leq max2_int min2_int max_two min_two max_three min_three max_four min_four   -- for this text's walks alone
set_option linter.unusedVariables false
set_option linter.unusedSimpArgs false

namespace APx6
abbrev ad := @of_decide_eq_true
abbrev aW := @pw_below_drewN
abbrev ab := @decide_eq_true
abbrev aA := @below_alloc
abbrev aD := @below_drew1
abbrev aF := @blk_frozen
abbrev aK := @Aside0.mk
abbrev aC := @blk_cell
end APx6
open APx6
def edit_Right.l0 : Nat → Int → Int → List (S58) → Int → Int → Int → Option (Bool)
 | 0,_,_,_,_,_,_ => none
 | k + 1,x6,x7,x114000,x114001,x114002,x114003 => if x7 < x6 then (if 0 ≤ x7 then (if x7 < (x114000.length : Int) then ((edit_odd.f ((rd_T58 x114000 x7).f0) ((rd_T58 x114000 x7).f1) ((rd_T58 x114000 x7).f2) ((rd_T58 x114000 x7).f3)).bind fun t115 => (if t115 = true then (some false) else (if x7 > 0 then (if 0 ≤ (wrap64 (x7 - 1)) then (if (wrap64 (x7 - 1)) < (x114000.length : Int) then (if ((rd_T58 x114000 x7).f0) ≤ ((rd_T58 x114000 (wrap64 (x7 - 1))).f0) then (some false) else (edit_Right.l0 k x6 (wrap64 (x7 + 1)) x114000 x114001 x114002 x114003)) else (none)) else (none)) else (edit_Right.l0 k x6 (wrap64 (x7 + 1)) x114000 x114001 x114002 x114003)))) else (none)) else (none)) else (if (x114000.length : Int) ≤ 64 then (if x114002 ≤ 72057594037927935 then (if (x114000.length : Int) > 0 then (some true) else (some ((Go.bits .or .u64 (Go.bits .or .u64 x114001 x114002) x114003) != 0))) else (some false)) else (some false))
def edit_Right.f (k : Nat) (l0_0 : List (S58)) (a0_1 : Int) (a0_2 : Int) (a0_3 : Int) : Option (Bool):=edit_Right.l0 k (l0_0.length : Int) 0 l0_0 a0_1 a0_2 a0_3
def edit_Right.T4 : Bool × List (List Nat × List Nat):=(true,[([],[]),([0],[0]),([],[]),([1,2],[1,2]),([3],[3]),([4],[4]),([5,5],[5]),([6],[6]),([7,6],[6,7]),([8,6,6],[6,8]),([9],[9]),([10,9],[9,10]),([9],[9]),([11,12,9],[9,11,12]),([13,9],[9,13]),([14,9],[9,14]),([9],[9]),([16,9],[9,16]),([9],[9]),([18,9],[9,18]),([17,19,9],[9,17,19]),([20,9],[9,20]),([21,9],[9,21]),([15,22,9],[9,15,22]),([9,23,6],[6,9,23]),([6,24],[6,24])])
def edit_Right.B4 : List Nat:=[0,1,0,7,15,31,63,127,255,511,1023,2047,1023,8191,16383,32767,1023,66559,1023,263167,984063,2032639,4129791,8388607,16777215,33554431]
theorem edit_Right.tab4 : rtab .any (opsOf Try.f17 4) = edit_Right.T4:=by kernel_rfl
theorem edit_Right.bits4 : waitsOk edit_Right.T4.2 edit_Right.B4 = true:=by kernel_rfl
set_option maxHeartbeats 8000000 in
set_option maxRecDepth 100000 in
theorem edit_Right.calls (k : Nat) (A0_0 : Option Addr) (c0_0 : Nat) (l0_0 : List (S58)) (a0_1 : Int) (a0_2 : Int) (a0_3 : Int) (r : Bool) (w : World) (hr0_0 : Kd.C k58 w A0_0 l0_0.length l0_0) (hc0_0 : l0_0.length ≤ c0_0) (h : edit_Right.f k l0_0 a0_1 a0_2 a0_3 = some r) :
  Calls Try.prog 17 #[.agg #[.slice A0_0 l0_0.length c0_0,.int .u64 a0_1,.int .u64 a0_2,.int .u64 a0_3]] w fun e w' => e = .returned (.bool r) ∧ Below w.heap.size w w':=by
 have hu25:=Try.underlying25
 have hu58:=Try.underlying58
 have HR0_0:=aK hr0_0
 have HC0_0:=aK hc0_0
 clear hr0_0 hc0_0
 have HB:=aK (Below.refl w.heap.size w)
 have H : (edit_Right.l0 k (l0_0.length : Int) 0 l0_0 a0_1 a0_2 a0_3) = some r:=h
 clear h
 have H':=aK H
 clear H
 go_enter Try.func17,Try.ntmps17
 go_wp2_with (first|((with_reducible refine gate_dst (N:=1) rfl ?_);(try (refine gate_guard (by rfl) ?_;dsimp only));refine box_event ?hg (N:=1) ?hd (cs:=#[.slice A0_0 l0_0.length c0_0,.int .u64 a0_1,.int .u64 a0_2,.int .u64 a0_3]) (t:=25) ?hr ?_;(case hd => rfl);(case hg => rfl);(case hr => first|(go_simp;done)|(go_simp;rfl));intro gb113 hg w2 hbox hb;have n0_:=aK (below_step (by repeat (first|(with_reducible first|exact HB.out|apply aA|apply aW|apply aD)|exact HB.out)) hb);have n1_:=aK (hbox);have n2_:=aK ((by rw [hg];exact (below_size (by repeat (first|(with_reducible first|exact HB.out|apply aA|apply aW|apply aD)|exact HB.out))) : w.heap.size ≤ gb113));have n3_:=aK ((by rw [hg];exact (below_size (by repeat (first|(with_reducible first|exact HB.out|apply aA|apply aW|apply aD)|exact HB.out))) : w.heap.size ≤ gb113));clear HB;have HB:=n0_;have BK113:=n1_;have GW113:=n2_;have GE113:=n3_;clear n0_ n1_ n2_ n3_;clear hb hbox hg;have hcz3_0 : w2.cell? ⟨gb113,0,none⟩ = some (.slice A0_0 l0_0.length c0_0):=(aC BK113.out 0).trans rfl;have hcz3_1 : w2.cell? ⟨gb113,1,none⟩ = some (.int .u64 a0_1):=(aC BK113.out 1).trans rfl;have hcz3_2 : w2.cell? ⟨gb113,2,none⟩ = some (.int .u64 a0_2):=(aC BK113.out 2).trans rfl;have hcz3_3 : w2.cell? ⟨gb113,3,none⟩ = some (.int .u64 a0_3):=(aC BK113.out 3).trans rfl;have hfz3_0:=aF BK113.out 0;have hfz3_1:=aF BK113.out 1;have hfz3_2:=aF BK113.out 2;have hfz3_3:=aF BK113.out 3))
 go_loopg [7] k (fun kq v7 w' => ∃ (x7_1 : Int),v7 = .int .i64 x7_1 ∧ Aside0 (edit_Right.l0 kq (l0_0.length : Int) x7_1 l0_0 a0_1 a0_2 a0_3 = some r) ∧ Aside0 (kq ≤ k) ∧ Aside0 (w'.heap[gb113]? = some (.cells #[(.slice A0_0 l0_0.length c0_0),.int .u64 a0_1,.int .u64 a0_2,.int .u64 a0_3] 25 (0,0))) ∧ Aside0 (Below w.heap.size w w'))
 case atStart => exact ⟨(0),(by first|rfl|(simp;done)|(simp [*];done)),H',⟨Nat.le_refl _⟩,⟨by (with_reducible repeat (first|apply bN|apply bD|apply bA));exact BK113.out⟩,⟨by repeat (first|(with_reducible first|exact HB.out|apply aA|apply aW|apply aD|refine below_set ?_ GE113.out)|exact HB.out)⟩⟩
 case round =>
  clear H'
  try clear c1
  try clear p2
  try clear hcz3_0
  try clear hcz3_1
  try clear hcz3_2
  try clear hcz3_3
  try clear hfz3_0
  try clear hfz3_1
  try clear hfz3_2
  try clear hfz3_3
  obtain ⟨x7_1,rfl,HA,HK1,BK113,HB⟩:=hrel
  cases gk with
  | zero => exact absurd HA.out (by simp [edit_Right.l0])
  | succ k1 =>
   have H:=HA.out
   clear HA
   simp only [edit_Right.l0] at H
   by_cases c4 : x7_1 < (l0_0.length : Int)
   rotate_left
   ·rw [if_neg c4] at H
    have c4b0 : decide (x7_1 < (l0_0.length : Int)) = false:=decide_eq_false c4
    clear c4
    by_cases c22 : (l0_0.length : Int) ≤ 64
    ·rw [if_pos c22] at H
     have c22b0 : decide ((l0_0.length : Int) ≤ 64) = true:=ab c22
     have c22b1 : decide (l0_0.length ≤ 64) = true:=ab (by omega)
     clear c22
     by_cases c23 : a0_2 ≤ 72057594037927935
     ·rw [if_pos c23] at H
      have c23b0 : decide (a0_2 ≤ 72057594037927935) = true:=ab c23
      clear c23
      by_cases c24 : (l0_0.length : Int) > 0
      ·rw [if_pos c24] at H
       have c24b0 : decide (0 < (l0_0.length : Int)) = true:=ab c24
       have c24b1 : decide (0 < l0_0.length) = true:=ab (by omega)
       clear c24
       obtain rfl:=Option.some.inj H
       have hcz25_0 : wr.cell? ⟨gb113,0,none⟩ = some (.slice A0_0 l0_0.length c0_0):=(aC BK113.out 0).trans rfl
       have hcz25_1 : wr.cell? ⟨gb113,1,none⟩ = some (.int .u64 a0_1):=(aC BK113.out 1).trans rfl
       have hcz25_2 : wr.cell? ⟨gb113,2,none⟩ = some (.int .u64 a0_2):=(aC BK113.out 2).trans rfl
       have hcz25_3 : wr.cell? ⟨gb113,3,none⟩ = some (.int .u64 a0_3):=(aC BK113.out 3).trans rfl
       have hfz25_0:=aF BK113.out 0
       have hfz25_1:=aF BK113.out 1
       have hfz25_2:=aF BK113.out 2
       have hfz25_3:=aF BK113.out 3
       go_wp2
       go_ret
       exact ⟨by first|rfl|(simp [errW_none,errW_some] <;> rfl)|(simp [*,errW_none,errW_some] <;> rfl),by repeat (first|(with_reducible first|exact HB.out|apply aA|apply aW|apply aD|refine below_set ?_ GE113.out)|exact HB.out)⟩
      ·rw [if_neg c24] at H
       have c24b0 : decide (0 < (l0_0.length : Int)) = false:=decide_eq_false c24
       have c24b1 : decide (0 < l0_0.length) = false:=decide_eq_false (by omega)
       clear c24
       obtain rfl:=Option.some.inj H
       have hcz26_0 : wr.cell? ⟨gb113,0,none⟩ = some (.slice A0_0 l0_0.length c0_0):=(aC BK113.out 0).trans rfl
       have hcz26_1 : wr.cell? ⟨gb113,1,none⟩ = some (.int .u64 a0_1):=(aC BK113.out 1).trans rfl
       have hcz26_2 : wr.cell? ⟨gb113,2,none⟩ = some (.int .u64 a0_2):=(aC BK113.out 2).trans rfl
       have hcz26_3 : wr.cell? ⟨gb113,3,none⟩ = some (.int .u64 a0_3):=(aC BK113.out 3).trans rfl
       have hfz26_0:=aF BK113.out 0
       have hfz26_1:=aF BK113.out 1
       have hfz26_2:=aF BK113.out 2
       have hfz26_3:=aF BK113.out 3
       go_wp2
       go_ret
       exact ⟨by first|rfl|(simp [errW_none,errW_some] <;> rfl)|(simp [*,errW_none,errW_some] <;> rfl),by repeat (first|(with_reducible first|exact HB.out|apply aA|apply aW|apply aD|refine below_set ?_ GE113.out)|exact HB.out)⟩
     ·rw [if_neg c23] at H
      have c23b0 : decide (a0_2 ≤ 72057594037927935) = false:=decide_eq_false c23
      clear c23
      obtain rfl:=Option.some.inj H
      have hcz27_0 : wr.cell? ⟨gb113,0,none⟩ = some (.slice A0_0 l0_0.length c0_0):=(aC BK113.out 0).trans rfl
      have hcz27_1 : wr.cell? ⟨gb113,1,none⟩ = some (.int .u64 a0_1):=(aC BK113.out 1).trans rfl
      have hcz27_2 : wr.cell? ⟨gb113,2,none⟩ = some (.int .u64 a0_2):=(aC BK113.out 2).trans rfl
      have hcz27_3 : wr.cell? ⟨gb113,3,none⟩ = some (.int .u64 a0_3):=(aC BK113.out 3).trans rfl
      have hfz27_0:=aF BK113.out 0
      have hfz27_1:=aF BK113.out 1
      have hfz27_2:=aF BK113.out 2
      have hfz27_3:=aF BK113.out 3
      go_wp2
      go_ret
      exact ⟨by first|rfl|(simp [errW_none,errW_some] <;> rfl)|(simp [*,errW_none,errW_some] <;> rfl),by repeat (first|(with_reducible first|exact HB.out|apply aA|apply aW|apply aD|refine below_set ?_ GE113.out)|exact HB.out)⟩
    ·rw [if_neg c22] at H
     have c22b0 : decide ((l0_0.length : Int) ≤ 64) = false:=decide_eq_false c22
     have c22b1 : decide (l0_0.length ≤ 64) = false:=decide_eq_false (by omega)
     clear c22
     obtain rfl:=Option.some.inj H
     have hcz28_0 : wr.cell? ⟨gb113,0,none⟩ = some (.slice A0_0 l0_0.length c0_0):=(aC BK113.out 0).trans rfl
     have hcz28_1 : wr.cell? ⟨gb113,1,none⟩ = some (.int .u64 a0_1):=(aC BK113.out 1).trans rfl
     have hcz28_2 : wr.cell? ⟨gb113,2,none⟩ = some (.int .u64 a0_2):=(aC BK113.out 2).trans rfl
     have hcz28_3 : wr.cell? ⟨gb113,3,none⟩ = some (.int .u64 a0_3):=(aC BK113.out 3).trans rfl
     have hfz28_0:=aF BK113.out 0
     have hfz28_1:=aF BK113.out 1
     have hfz28_2:=aF BK113.out 2
     have hfz28_3:=aF BK113.out 3
     go_wp2
     go_ret
     exact ⟨by first|rfl|(simp [errW_none,errW_some] <;> rfl)|(simp [*,errW_none,errW_some] <;> rfl),by repeat (first|(with_reducible first|exact HB.out|apply aA|apply aW|apply aD|refine below_set ?_ GE113.out)|exact HB.out)⟩

   rw [if_pos c4] at H
   have c4b0 : decide (x7_1 < (l0_0.length : Int)) = true:=ab c4
   clear c4
   by_cases c5 : 0 ≤ x7_1
   rotate_left
   ·rw [if_neg c5] at H
    exact absurd H (by simp)
   rw [if_pos c5] at H
   have c5b0 : decide (0 ≤ x7_1) = true:=ab c5
   clear c5
   by_cases c6 : x7_1 < (l0_0.length : Int)
   rotate_left
   ·rw [if_neg c6] at H
    exact absurd H (by simp)
   rw [if_pos c6] at H
   have c6b0 : decide (x7_1 < (l0_0.length : Int)) = true:=ab c6
   clear c6
   replace H:=Option.bind_eq_some_iff.mp H
   obtain ⟨t115,A70,H⟩:=H
   replace H : (if t115 = true then (some false) else (if x7_1 > 0 then (if 0 ≤ (wrap64 (x7_1 - 1)) then (if (wrap64 (x7_1 - 1)) < (l0_0.length : Int) then (if ((rd_T58 l0_0 x7_1).f0) ≤ ((rd_T58 l0_0 (wrap64 (x7_1 - 1))).f0) then (some false) else (edit_Right.l0 k1 (l0_0.length : Int) (wrap64 (x7_1 + 1)) l0_0 a0_1 a0_2 a0_3)) else (none)) else (none)) else (edit_Right.l0 k1 (l0_0.length : Int) (wrap64 (x7_1 + 1)) l0_0 a0_1 a0_2 a0_3))) = some r:=H
   have A7:=aK A70
   clear A70
   by_cases c8 : t115 = true
   ·subst c8
    have H1 : (some false) = some r:=by rw [if_pos rfl] at H;exact H
    clear H
    have H:=H1
    clear H1
    obtain rfl:=Option.some.inj H
    try go_wp2
    have n0_:=aK (blk_drew BK113.out)
    have n1_:=aK (aD HB.out)
    clear BK113
    clear HB
    have BK113:=n0_
    have HB:=n1_
    clear n0_ n1_
    have p114 : 0 ≤ (x7_1 : Int):=ad (by first|(with_reducible assumption)|assumption)
    have q114 : x7_1 < (l0_0.length : Int):=ad (by first|(with_reducible assumption)|assumption)
    obtain ⟨ad114,e114,hx114_0,hx114_1,hx114_2,hx114_3⟩:=at_T58 HR0_0.out x7_1 p114 q114
    have hw114_3:=hx114_3
    have hw114_2:=hx114_2
    have hw114_1:=hx114_1
    have hw114_0:=hx114_0
    cases e114
    replace hx114_0:=(HB.out.cell (World.block_lt_of_cell? w _ hx114_0)).trans hx114_0
    replace hx114_1:=(HB.out.cell (World.block_lt_of_cell? w _ hx114_1)).trans hx114_1
    replace hx114_2:=(HB.out.cell (World.block_lt_of_cell? w _ hx114_2)).trans hx114_2
    replace hx114_3:=(HB.out.cell (World.block_lt_of_cell? w _ hx114_3)).trans hx114_3
    replace p114:=eq_true p114
    replace q114:=eq_true q114
    refine start_ (n:=26) (S:=fun w' => w'.cell? ⟨gb113,0,none⟩ = some (.slice (some ad114) l0_0.length c0_0) ∧ w'.cell? ⟨gb113,1,none⟩ = some (.int .u64 a0_1) ∧ w'.cell? ⟨gb113,2,none⟩ = some (.int .u64 a0_2) ∧ w'.cell? ⟨gb113,3,none⟩ = some (.int .u64 a0_3) ∧ w'.cell? (ad114.add ((x7_1).toNat * 4)) = some (.int .u64 ((rd_T58 l0_0 x7_1).f0)) ∧ w'.cell? ⟨(ad114.add ((x7_1).toNat * 4)).block,(ad114.add ((x7_1).toNat * 4)).off + 1,none⟩ = some (.int .u64 ((rd_T58 l0_0 x7_1).f1)) ∧ w'.cell? ⟨(ad114.add ((x7_1).toNat * 4)).block,(ad114.add ((x7_1).toNat * 4)).off + 2,none⟩ = some (.string ((rd_T58 l0_0 x7_1).f2)) ∧ w'.cell? ⟨(ad114.add ((x7_1).toNat * 4)).block,(ad114.add ((x7_1).toNat * 4)).off + 3,none⟩ = some (.string ((rd_T58 l0_0 x7_1).f3))) (ds:=[]) #[ff,ff,ff,ff,ff,ff,ff,ff,ff,ff,ff,ff,ff,ff,ff,ff,ff,ff,ff,ff,ff,ff,ff,ff,ff,ff] (by kernel_rfl) rfl rfl ⟨(aC BK113.out 0).trans rfl,(aC BK113.out 1).trans rfl,(aC BK113.out 2).trans rfl,(aC BK113.out 3).trans rfl,((HB.out.cell (World.block_lt_of_cell? w _ hw114_0)).trans hw114_0),((HB.out.cell (World.block_lt_of_cell? w _ hw114_1)).trans hw114_1),((HB.out.cell (World.block_lt_of_cell? w _ hw114_2)).trans hw114_2),((HB.out.cell (World.block_lt_of_cell? w _ hw114_3)).trans hw114_3)⟩ (fun hHeld => ?_);refine with_tabW edit_Right.tab4 edit_Right.bits4 (fun HT_ HW_ => ?_)
    generalize wr.drew = w9 at BK113 HB hx114_0 hx114_1 hx114_2 hx114_3 hHeld ⊢
    refine pure_ (i:=0) (N:=some 10) (v:=?_) (a':=?_) #[tt,ff,ff,ff,ff,ff,ff,ff,ff,ff,ff,ff,ff,ff,ff,ff,ff,ff,ff,ff,ff,ff,ff,ff,ff,ff] rfl rfl (any_of HT_.out (by kernel_rfl)) (fun _ _ _ h => h) (Or.inl ⟨by rfl,?_⟩) ?_ ?_
    rotate_left
    ·intro w'
     go_simp
     with_reducible rfl
    rotate_left
    ·simp only [Act.put,sA,sZ,sS,i64_w,i32_w]
     rfl
    refine pure_ (i:=2) (N:=some 12) (v:=?_) (a':=?_) #[tt,ff,tt,ff,ff,ff,ff,ff,ff,ff,ff,ff,ff,ff,ff,ff,ff,ff,ff,ff,ff,ff,ff,ff,ff,ff] rfl rfl (any_of HT_.out (by kernel_rfl)) (fun _ _ _ h => h) (Or.inl ⟨by rfl,?_⟩) ?_ ?_
    rotate_left
    ·intro w'
     go_simp
     with_reducible rfl
    rotate_left
    ·simp only [Act.put,sA,sZ,sS,i64_w,i32_w]
     rfl
    refine take_ (i:=1) (N:=some 11) (v:=?_) (a':=?_) #[tt,tt,tt,ff,ff,ff,ff,ff,ff,ff,ff,ff,ff,ff,ff,ff,ff,ff,ff,ff,ff,ff,ff,ff,ff,ff] rfl rfl (take_ofW HT_.out HW_.out (by kernel_rfl)) (fun _ _ _ h => h) (Or.inl ⟨by rfl,?_⟩) hHeld ?_ ?_
    rotate_left
    ·rintro w' ⟨s0,s1,s2,s3,s4,s5,s6,s7⟩
     go_simp
     with_reducible rfl
    rotate_left
    ·simp only [Act.put,sA,sZ,sS,i64_w,i32_w]
     rfl
    refine pure_ (i:=3) (N:=some 13) (v:=?_) (a':=?_) #[tt,tt,tt,tt,ff,ff,ff,ff,ff,ff,ff,ff,ff,ff,ff,ff,ff,ff,ff,ff,ff,ff,ff,ff,ff,ff] rfl rfl (any_of HT_.out (by kernel_rfl)) (fun _ _ _ h => h) (Or.inl ⟨by rfl,?_⟩) ?_ ?_
    rotate_left
    ·intro w'
     go_simp
     with_reducible rfl
    rotate_left
    ·simp only [Act.put,sA,sZ,sS,i64_w,i32_w]
     rfl
    refine take_ (i:=4) (N:=some 14) (v:=?_) (a':=?_) #[tt,tt,tt,tt,tt,ff,ff,ff,ff,ff,ff,ff,ff,ff,ff,ff,ff,ff,ff,ff,ff,ff,ff,ff,ff,ff] rfl rfl (take_ofW HT_.out HW_.out (by kernel_rfl)) (fun _ _ _ h => h) (Or.inl ⟨by rfl,?_⟩) hHeld ?_ ?_
    rotate_left
    ·rintro w' ⟨s0,s1,s2,s3,s4,s5,s6,s7⟩
     go_simp
     with_reducible rfl
    rotate_left
    ·simp only [Act.put,sA,sZ,sS,i64_w,i32_w]
     rfl
    refine one_ (i:=5) (N:=some 15) #[tt,tt,tt,tt,tt,tt,ff,ff,ff,ff,ff,ff,ff,ff,ff,ff,ff,ff,ff,ff,ff,ff,ff,ff,ff,ff] rfl rfl (one_of HT_.out (by kernel_rfl)) (by decide) (fun K hK => ?_)
    refine goes_ Try.func41 (by kernel_rfl) rfl #[.agg #[.int .u64 ((rd_T58 l0_0 x7_1).f0),.int .u64 ((rd_T58 l0_0 x7_1).f1),.string ((rd_T58 l0_0 x7_1).f2),.string ((rd_T58 l0_0 x7_1).f3)]] (by rfl) rfl rfl (by (try simp only [List.map_toArray,List.map_cons,List.map_nil]);first|done|rfl|(simp only [List.length_drop,List.length_take];rfl)) ?_
    with_reducible refine (edit_odd.calls ((rd_T58 l0_0 x7_1).f0) ((rd_T58 l0_0 x7_1).f1) ((rd_T58 l0_0 x7_1).f2) ((rd_T58 l0_0 x7_1).f3) true _ A7.out).mono ?_
    rintro e w10 ⟨rfl,hb⟩
    refine ⟨_,rfl,?_⟩
    have n0_:=aK (blk_below (g:=gb113) (o:=.cells #[.slice (some ad114) l0_0.length c0_0,.int .u64 a0_1,.int .u64 a0_2,.int .u64 a0_3] 25 (0,0)) (by (with_reducible repeat (first|apply bN|apply bD|apply bA));exact BK113.out) hb)
    have n1_:=aK (below_step (by repeat (first|(with_reducible first|exact HB.out|apply aA|apply aW|apply aD|refine below_set ?_ GE113.out)|exact HB.out)) hb)
    clear BK113
    clear HB
    have BK113:=n0_
    have HB:=n1_
    clear n0_ n1_
    (try clear hb)
    (try clear hb2)
    (try clear hk)
    (try clear hi)
    refine hK.out _ _ ⟨(aC BK113.out 0).trans rfl,(aC BK113.out 1).trans rfl,(aC BK113.out 2).trans rfl,(aC BK113.out 3).trans rfl,((HB.out.cell (World.block_lt_of_cell? w _ hw114_0)).trans hw114_0),((HB.out.cell (World.block_lt_of_cell? w _ hw114_1)).trans hw114_1),((HB.out.cell (World.block_lt_of_cell? w _ hw114_2)).trans hw114_2),((HB.out.cell (World.block_lt_of_cell? w _ hw114_3)).trans hw114_3)⟩ (fun hHeld => ?_)
    clear hK K
    refine norm_ (a':=?_) ?_ ?_
    rotate_left
    ·show Act.put _ (some 15) _ = _
     simp only [Act.put,sA,sZ,sS,i64_w,i32_w]
     rfl
    refine pure_ (i:=6) (N:=some 16) (v:=?_) (a':=?_) #[tt,tt,tt,tt,tt,tt,tt,ff,ff,ff,ff,ff,ff,ff,ff,ff,ff,ff,ff,ff,ff,ff,ff,ff,ff,ff] rfl rfl (any_of HT_.out (by kernel_rfl)) (fun _ _ _ h => h) (Or.inl ⟨by rfl,?_⟩) ?_ ?_
    rotate_left
    ·intro w'
     go_simp
     with_reducible rfl
    rotate_left
    ·simp only [Act.put,sA,sZ,sS,i64_w,i32_w]
     rfl
    refine pure_ (i:=7) (N:=some 17) (v:=undef) (a':=?_) #[tt,tt,tt,tt,tt,tt,tt,tt,ff,ff,ff,ff,ff,ff,ff,ff,ff,ff,ff,ff,ff,ff,ff,ff,ff,ff] rfl rfl (any_of HT_.out (by kernel_rfl)) (fun _ _ _ h => h) (Or.inr ⟨by rfl,rfl⟩) ?_ ?_
    rotate_left
    ·simp only [Act.put,sA,sZ,sS,i64_w,i32_w]
     rfl
    refine pure_ (i:=8) (N:=some 18) (v:=undef) (a':=?_) #[tt,tt,tt,tt,tt,tt,tt,tt,tt,ff,ff,ff,ff,ff,ff,ff,ff,ff,ff,ff,ff,ff,ff,ff,ff,ff] rfl rfl (any_of HT_.out (by kernel_rfl)) (fun _ _ _ h => h) (Or.inr ⟨by rfl,rfl⟩) ?_ ?_
    rotate_left
    ·simp only [Act.put,sA,sZ,sS,i64_w,i32_w]
     rfl
    refine pure_ (i:=9) (N:=some 19) (v:=undef) (a':=?_) #[tt,tt,tt,tt,tt,tt,tt,tt,tt,tt,ff,ff,ff,ff,ff,ff,ff,ff,ff,ff,ff,ff,ff,ff,ff,ff] rfl rfl (any_of HT_.out (by kernel_rfl)) (fun _ _ _ h => h) (Or.inr ⟨by rfl,rfl⟩) ?_ ?_
    rotate_left
    ·simp only [Act.put,sA,sZ,sS,i64_w,i32_w]
     rfl
    refine pure_ (i:=10) (N:=some 20) (v:=undef) (a':=?_) #[tt,tt,tt,tt,tt,tt,tt,tt,tt,tt,tt,ff,ff,ff,ff,ff,ff,ff,ff,ff,ff,ff,ff,ff,ff,ff] rfl rfl (any_of HT_.out (by kernel_rfl)) (fun _ _ _ h => h) (Or.inr ⟨by rfl,rfl⟩) ?_ ?_
    rotate_left
    ·simp only [Act.put,sA,sZ,sS,i64_w,i32_w]
     rfl
    refine pure_ (i:=11) (N:=some 21) (v:=undef) (a':=?_) #[tt,tt,tt,tt,tt,tt,tt,tt,tt,tt,tt,tt,ff,ff,ff,ff,ff,ff,ff,ff,ff,ff,ff,ff,ff,ff] rfl rfl (any_of HT_.out (by kernel_rfl)) (fun _ _ _ h => h) (Or.inr ⟨by rfl,rfl⟩) ?_ ?_
    rotate_left
    ·simp only [Act.put,sA,sZ,sS,i64_w,i32_w]
     rfl
    refine pure_ (i:=12) (N:=some 22) (v:=undef) (a':=?_) #[tt,tt,tt,tt,tt,tt,tt,tt,tt,tt,tt,tt,tt,ff,ff,ff,ff,ff,ff,ff,ff,ff,ff,ff,ff,ff] rfl rfl (any_of HT_.out (by kernel_rfl)) (fun _ _ _ h => h) (Or.inr ⟨by rfl,rfl⟩) ?_ ?_
    rotate_left
    ·simp only [Act.put,sA,sZ,sS,i64_w,i32_w]
     rfl
    refine pure_ (i:=13) (N:=some 23) (v:=undef) (a':=?_) #[tt,tt,tt,tt,tt,tt,tt,tt,tt,tt,tt,tt,tt,tt,ff,ff,ff,ff,ff,ff,ff,ff,ff,ff,ff,ff] rfl rfl (any_of HT_.out (by kernel_rfl)) (fun _ _ _ h => h) (Or.inr ⟨by rfl,rfl⟩) ?_ ?_
    rotate_left
    ·simp only [Act.put,sA,sZ,sS,i64_w,i32_w]
     rfl
    refine pure_ (i:=14) (N:=some 24) (v:=undef) (a':=?_) #[tt,tt,tt,tt,tt,tt,tt,tt,tt,tt,tt,tt,tt,tt,tt,ff,ff,ff,ff,ff,ff,ff,ff,ff,ff,ff] rfl rfl (any_of HT_.out (by kernel_rfl)) (fun _ _ _ h => h) (Or.inr ⟨by rfl,rfl⟩) ?_ ?_
    rotate_left
    ·simp only [Act.put,sA,sZ,sS,i64_w,i32_w]
     rfl
    refine pure_ (i:=15) (N:=some 25) (v:=undef) (a':=?_) #[tt,tt,tt,tt,tt,tt,tt,tt,tt,tt,tt,tt,tt,tt,tt,tt,ff,ff,ff,ff,ff,ff,ff,ff,ff,ff] rfl rfl (any_of HT_.out (by kernel_rfl)) (fun _ _ _ h => h) (Or.inr ⟨by rfl,rfl⟩) ?_ ?_
    rotate_left
    ·simp only [Act.put,sA,sZ,sS,i64_w,i32_w]
     rfl
    refine pure_ (i:=16) (N:=some 26) (v:=undef) (a':=?_) #[tt,tt,tt,tt,tt,tt,tt,tt,tt,tt,tt,tt,tt,tt,tt,tt,tt,ff,ff,ff,ff,ff,ff,ff,ff,ff] rfl rfl (any_of HT_.out (by kernel_rfl)) (fun _ _ _ h => h) (Or.inr ⟨by rfl,rfl⟩) ?_ ?_
    rotate_left
    ·simp only [Act.put,sA,sZ,sS,i64_w,i32_w]
     rfl
    refine pure_ (i:=17) (N:=some 27) (v:=undef) (a':=?_) #[tt,tt,tt,tt,tt,tt,tt,tt,tt,tt,tt,tt,tt,tt,tt,tt,tt,tt,ff,ff,ff,ff,ff,ff,ff,ff] rfl rfl (any_of HT_.out (by kernel_rfl)) (fun _ _ _ h => h) (Or.inr ⟨by rfl,rfl⟩) ?_ ?_
    rotate_left
    ·simp only [Act.put,sA,sZ,sS,i64_w,i32_w]
     rfl
    refine pure_ (i:=18) (N:=some 28) (v:=undef) (a':=?_) #[tt,tt,tt,tt,tt,tt,tt,tt,tt,tt,tt,tt,tt,tt,tt,tt,tt,tt,tt,ff,ff,ff,ff,ff,ff,ff] rfl rfl (any_of HT_.out (by kernel_rfl)) (fun _ _ _ h => h) (Or.inr ⟨by rfl,rfl⟩) ?_ ?_
    rotate_left
    ·simp only [Act.put,sA,sZ,sS,i64_w,i32_w]
     rfl
    refine pure_ (i:=19) (N:=some 29) (v:=undef) (a':=?_) #[tt,tt,tt,tt,tt,tt,tt,tt,tt,tt,tt,tt,tt,tt,tt,tt,tt,tt,tt,tt,ff,ff,ff,ff,ff,ff] rfl rfl (any_of HT_.out (by kernel_rfl)) (fun _ _ _ h => h) (Or.inr ⟨by rfl,rfl⟩) ?_ ?_
    rotate_left
    ·simp only [Act.put,sA,sZ,sS,i64_w,i32_w]
     rfl
    refine pure_ (i:=20) (N:=some 30) (v:=undef) (a':=?_) #[tt,tt,tt,tt,tt,tt,tt,tt,tt,tt,tt,tt,tt,tt,tt,tt,tt,tt,tt,tt,tt,ff,ff,ff,ff,ff] rfl rfl (any_of HT_.out (by kernel_rfl)) (fun _ _ _ h => h) (Or.inr ⟨by rfl,rfl⟩) ?_ ?_
    rotate_left
    ·simp only [Act.put,sA,sZ,sS,i64_w,i32_w]
     rfl
    refine pure_ (i:=21) (N:=some 31) (v:=undef) (a':=?_) #[tt,tt,tt,tt,tt,tt,tt,tt,tt,tt,tt,tt,tt,tt,tt,tt,tt,tt,tt,tt,tt,tt,ff,ff,ff,ff] rfl rfl (any_of HT_.out (by kernel_rfl)) (fun _ _ _ h => h) (Or.inr ⟨by rfl,rfl⟩) ?_ ?_
    rotate_left
    ·simp only [Act.put,sA,sZ,sS,i64_w,i32_w]
     rfl
    refine pure_ (i:=22) (N:=some 32) (v:=undef) (a':=?_) #[tt,tt,tt,tt,tt,tt,tt,tt,tt,tt,tt,tt,tt,tt,tt,tt,tt,tt,tt,tt,tt,tt,tt,ff,ff,ff] rfl rfl (any_of HT_.out (by kernel_rfl)) (fun _ _ _ h => h) (Or.inr ⟨by rfl,rfl⟩) ?_ ?_
    rotate_left
    ·simp only [Act.put,sA,sZ,sS,i64_w,i32_w]
     rfl
    refine pure_ (i:=23) (N:=some 33) (v:=undef) (a':=?_) #[tt,tt,tt,tt,tt,tt,tt,tt,tt,tt,tt,tt,tt,tt,tt,tt,tt,tt,tt,tt,tt,tt,tt,tt,ff,ff] rfl rfl (any_of HT_.out (by kernel_rfl)) (fun _ _ _ h => h) (Or.inr ⟨by rfl,rfl⟩) ?_ ?_
    rotate_left
    ·simp only [Act.put,sA,sZ,sS,i64_w,i32_w]
     rfl
    refine pure_ (i:=24) (N:=some 34) (v:=undef) (a':=?_) #[tt,tt,tt,tt,tt,tt,tt,tt,tt,tt,tt,tt,tt,tt,tt,tt,tt,tt,tt,tt,tt,tt,tt,tt,tt,ff] rfl rfl (any_of HT_.out (by kernel_rfl)) (fun _ _ _ h => h) (Or.inr ⟨by rfl,rfl⟩) ?_ ?_
    rotate_left
    ·simp only [Act.put,sA,sZ,sS,i64_w,i32_w]
     rfl
    refine pure_ (i:=25) (N:=some 35) (v:=?_) (a':=?_) #[tt,tt,tt,tt,tt,tt,tt,tt,tt,tt,tt,tt,tt,tt,tt,tt,tt,tt,tt,tt,tt,tt,tt,tt,tt,tt] rfl rfl (any_of HT_.out (by kernel_rfl)) (fun _ _ _ h => h) (Or.inl ⟨by rfl,?_⟩) ?_ ?_
    rotate_left
    ·intro w'
     go_simp
     with_reducible rfl
    rotate_left
    ·simp only [Act.put,sA,sZ,sS,i64_w,i32_w]
     rfl
    refine done_ (done_of HT_.out (by kernel_rfl)) ?_
    try go_wp2
    go_ret
    exact ⟨by first|rfl|(simp [errW_none,errW_some] <;> rfl)|(simp [*,errW_none,errW_some] <;> rfl),by repeat (first|(with_reducible first|exact HB.out|apply aA|apply aW|apply aD|refine below_set ?_ GE113.out)|exact HB.out)⟩
   ·replace c8:=Bool.eq_false_iff.mpr c8
    subst c8
    have H1 : (if x7_1 > 0 then (if 0 ≤ (wrap64 (x7_1 - 1)) then (if (wrap64 (x7_1 - 1)) < (l0_0.length : Int) then (if ((rd_T58 l0_0 x7_1).f0) ≤ ((rd_T58 l0_0 (wrap64 (x7_1 - 1))).f0) then (some false) else (edit_Right.l0 k1 (l0_0.length : Int) (wrap64 (x7_1 + 1)) l0_0 a0_1 a0_2 a0_3)) else (none)) else (none)) else (edit_Right.l0 k1 (l0_0.length : Int) (wrap64 (x7_1 + 1)) l0_0 a0_1 a0_2 a0_3)) = some r:=by rw [if_neg (show ¬ (false = true) by decide)] at H;exact H
    clear H
    have H:=H1
    clear H1
    by_cases c11 : x7_1 > 0
    ·rw [if_pos c11] at H
     have c11b0 : decide (0 < x7_1) = true:=ab c11
     clear c11
     obtain ⟨ji12,hji12⟩ : ∃ j_ : Int,(wrap64 (x7_1 - 1)) = j_:=⟨_,rfl⟩
     replace H : (if 0 ≤ (ji12) then (if (ji12) < (l0_0.length : Int) then (if ((rd_T58 l0_0 x7_1).f0) ≤ ((rd_T58 l0_0 (ji12)).f0) then (some false) else (edit_Right.l0 k1 (l0_0.length : Int) (wrap64 (x7_1 + 1)) l0_0 a0_1 a0_2 a0_3)) else (none)) else (none)) = some r:=by first|(rw [hji12] at H;exact H)|(simp only [hji12] at H ⊢;exact H)
     (try rw [hji12] at A7)
     have hji12w : (IntKind.i64.wrap (x7_1 - 1)) = ji12:=(i64_w _).trans hji12
     by_cases c13 : 0 ≤ (ji12)
     rotate_left
     ·rw [if_neg c13] at H
      exact absurd H (by simp)
     rw [if_pos c13] at H
     have c13b0 : decide (0 ≤ (ji12)) = true:=ab c13
     clear c13
     by_cases c14 : (ji12) < (l0_0.length : Int)
     rotate_left
     ·rw [if_neg c14] at H
      exact absurd H (by simp)
     rw [if_pos c14] at H
     have c14b0 : decide ((ji12) < (l0_0.length : Int)) = true:=ab c14
     clear c14
     by_cases c15 : ((rd_T58 l0_0 x7_1).f0) ≤ ((rd_T58 l0_0 (ji12)).f0)
     ·rw [if_pos c15] at H
      have c15b0 : decide (((rd_T58 l0_0 x7_1).f0) ≤ ((rd_T58 l0_0 (ji12)).f0)) = true:=ab c15
      clear c15
      obtain rfl:=Option.some.inj H
      try go_wp2
      have n0_:=aK (blk_drew BK113.out)
      have n1_:=aK (aD HB.out)
      clear BK113
      clear HB
      have BK113:=n0_
      have HB:=n1_
      clear n0_ n1_
      have p114 : 0 ≤ (x7_1 : Int):=ad (by first|(with_reducible assumption)|assumption)
      have q114 : x7_1 < (l0_0.length : Int):=ad (by first|(with_reducible assumption)|assumption)
      obtain ⟨ad114,e114,hx114_0,hx114_1,hx114_2,hx114_3⟩:=at_T58 HR0_0.out x7_1 p114 q114
      have hw114_3:=hx114_3
      have hw114_2:=hx114_2
      have hw114_1:=hx114_1
      have hw114_0:=hx114_0
      cases e114
      replace hx114_0:=(HB.out.cell (World.block_lt_of_cell? w _ hx114_0)).trans hx114_0
      replace hx114_1:=(HB.out.cell (World.block_lt_of_cell? w _ hx114_1)).trans hx114_1
      replace hx114_2:=(HB.out.cell (World.block_lt_of_cell? w _ hx114_2)).trans hx114_2
      replace hx114_3:=(HB.out.cell (World.block_lt_of_cell? w _ hx114_3)).trans hx114_3
      replace p114:=eq_true p114
      replace q114:=eq_true q114
      have p116 : 0 ≤ (x7_1 : Int):=ad (by first|(with_reducible assumption)|assumption)
      have q116 : x7_1 < (l0_0.length : Int):=ad (by first|(with_reducible assumption)|assumption)
      obtain ⟨ad116,e116,hx116_0,hx116_1,hx116_2,hx116_3⟩:=at_T58 HR0_0.out x7_1 p116 q116
      have hw116_3:=hx116_3
      have hw116_2:=hx116_2
      have hw116_1:=hx116_1
      have hw116_0:=hx116_0
      obtain rfl : ad114 = ad116:=(by injection e116)
      replace hx116_0:=(HB.out.cell (World.block_lt_of_cell? w _ hx116_0)).trans hx116_0
      replace hx116_1:=(HB.out.cell (World.block_lt_of_cell? w _ hx116_1)).trans hx116_1
      replace hx116_2:=(HB.out.cell (World.block_lt_of_cell? w _ hx116_2)).trans hx116_2
      replace hx116_3:=(HB.out.cell (World.block_lt_of_cell? w _ hx116_3)).trans hx116_3
      replace p116:=eq_true p116
      replace q116:=eq_true q116
      have p117 : 0 ≤ ((ji12) : Int):=ad (by first|(with_reducible assumption)|assumption)
      have q117 : (ji12) < (l0_0.length : Int):=ad (by first|(with_reducible assumption)|assumption)
      obtain ⟨ad117,e117,hx117_0,hx117_1,hx117_2,hx117_3⟩:=at_T58 HR0_0.out (ji12) p117 q117
      have hw117_3:=hx117_3
      have hw117_2:=hx117_2
      have hw117_1:=hx117_1
      have hw117_0:=hx117_0
      obtain rfl : ad114 = ad117:=(by injection e117)
      replace hx117_0:=(HB.out.cell (World.block_lt_of_cell? w _ hx117_0)).trans hx117_0
      replace hx117_1:=(HB.out.cell (World.block_lt_of_cell? w _ hx117_1)).trans hx117_1
      replace hx117_2:=(HB.out.cell (World.block_lt_of_cell? w _ hx117_2)).trans hx117_2
      replace hx117_3:=(HB.out.cell (World.block_lt_of_cell? w _ hx117_3)).trans hx117_3
      replace p117:=eq_true p117
      replace q117:=eq_true q117
      refine start_ (n:=26) (S:=fun w' => w'.cell? ⟨gb113,0,none⟩ = some (.slice (some ad114) l0_0.length c0_0) ∧ w'.cell? ⟨gb113,1,none⟩ = some (.int .u64 a0_1) ∧ w'.cell? ⟨gb113,2,none⟩ = some (.int .u64 a0_2) ∧ w'.cell? ⟨gb113,3,none⟩ = some (.int .u64 a0_3) ∧ w'.cell? (ad114.add ((x7_1).toNat * 4)) = some (.int .u64 ((rd_T58 l0_0 x7_1).f0)) ∧ w'.cell? ⟨(ad114.add ((x7_1).toNat * 4)).block,(ad114.add ((x7_1).toNat * 4)).off + 1,none⟩ = some (.int .u64 ((rd_T58 l0_0 x7_1).f1)) ∧ w'.cell? ⟨(ad114.add ((x7_1).toNat * 4)).block,(ad114.add ((x7_1).toNat * 4)).off + 2,none⟩ = some (.string ((rd_T58 l0_0 x7_1).f2)) ∧ w'.cell? ⟨(ad114.add ((x7_1).toNat * 4)).block,(ad114.add ((x7_1).toNat * 4)).off + 3,none⟩ = some (.string ((rd_T58 l0_0 x7_1).f3)) ∧ w'.cell? (ad114.add ((x7_1).toNat * 4)) = some (.int .u64 ((rd_T58 l0_0 x7_1).f0)) ∧ w'.cell? ⟨(ad114.add ((x7_1).toNat * 4)).block,(ad114.add ((x7_1).toNat * 4)).off + 1,none⟩ = some (.int .u64 ((rd_T58 l0_0 x7_1).f1)) ∧ w'.cell? ⟨(ad114.add ((x7_1).toNat * 4)).block,(ad114.add ((x7_1).toNat * 4)).off + 2,none⟩ = some (.string ((rd_T58 l0_0 x7_1).f2)) ∧ w'.cell? ⟨(ad114.add ((x7_1).toNat * 4)).block,(ad114.add ((x7_1).toNat * 4)).off + 3,none⟩ = some (.string ((rd_T58 l0_0 x7_1).f3)) ∧ w'.cell? (ad114.add (((ji12)).toNat * 4)) = some (.int .u64 ((rd_T58 l0_0 (ji12)).f0)) ∧ w'.cell? ⟨(ad114.add (((ji12)).toNat * 4)).block,(ad114.add (((ji12)).toNat * 4)).off + 1,none⟩ = some (.int .u64 ((rd_T58 l0_0 (ji12)).f1)) ∧ w'.cell? ⟨(ad114.add (((ji12)).toNat * 4)).block,(ad114.add (((ji12)).toNat * 4)).off + 2,none⟩ = some (.string ((rd_T58 l0_0 (ji12)).f2)) ∧ w'.cell? ⟨(ad114.add (((ji12)).toNat * 4)).block,(ad114.add (((ji12)).toNat * 4)).off + 3,none⟩ = some (.string ((rd_T58 l0_0 (ji12)).f3))) (ds:=[]) #[ff,ff,ff,ff,ff,ff,ff,ff,ff,ff,ff,ff,ff,ff,ff,ff,ff,ff,ff,ff,ff,ff,ff,ff,ff,ff] (by kernel_rfl) rfl rfl ⟨(aC BK113.out 0).trans rfl,(aC BK113.out 1).trans rfl,(aC BK113.out 2).trans rfl,(aC BK113.out 3).trans rfl,((HB.out.cell (World.block_lt_of_cell? w _ hw114_0)).trans hw114_0),((HB.out.cell (World.block_lt_of_cell? w _ hw114_1)).trans hw114_1),((HB.out.cell (World.block_lt_of_cell? w _ hw114_2)).trans hw114_2),((HB.out.cell (World.block_lt_of_cell? w _ hw114_3)).trans hw114_3),((HB.out.cell (World.block_lt_of_cell? w _ hw116_0)).trans hw116_0),((HB.out.cell (World.block_lt_of_cell? w _ hw116_1)).trans hw116_1),((HB.out.cell (World.block_lt_of_cell? w _ hw116_2)).trans hw116_2),((HB.out.cell (World.block_lt_of_cell? w _ hw116_3)).trans hw116_3),((HB.out.cell (World.block_lt_of_cell? w _ hw117_0)).trans hw117_0),((HB.out.cell (World.block_lt_of_cell? w _ hw117_1)).trans hw117_1),((HB.out.cell (World.block_lt_of_cell? w _ hw117_2)).trans hw117_2),((HB.out.cell (World.block_lt_of_cell? w _ hw117_3)).trans hw117_3)⟩ (fun hHeld => ?_);refine with_tabW edit_Right.tab4 edit_Right.bits4 (fun HT_ HW_ => ?_)
      generalize wr.drew = w16 at BK113 HB hx114_0 hx114_1 hx114_2 hx114_3 hx116_0 hx116_1 hx116_2 hx116_3 hx117_0 hx117_1 hx117_2 hx117_3 hHeld ⊢
      refine pure_ (i:=0) (N:=some 10) (v:=?_) (a':=?_) #[tt,ff,ff,ff,ff,ff,ff,ff,ff,ff,ff,ff,ff,ff,ff,ff,ff,ff,ff,ff,ff,ff,ff,ff,ff,ff] rfl rfl (any_of HT_.out (by kernel_rfl)) (fun _ _ _ h => h) (Or.inl ⟨by rfl,?_⟩) ?_ ?_
      rotate_left
      ·intro w'
       go_simp
       with_reducible rfl
      rotate_left
      ·simp only [Act.put,sA,sZ,sS,i64_w,i32_w]
       rfl
      refine pure_ (i:=2) (N:=some 12) (v:=?_) (a':=?_) #[tt,ff,tt,ff,ff,ff,ff,ff,ff,ff,ff,ff,ff,ff,ff,ff,ff,ff,ff,ff,ff,ff,ff,ff,ff,ff] rfl rfl (any_of HT_.out (by kernel_rfl)) (fun _ _ _ h => h) (Or.inl ⟨by rfl,?_⟩) ?_ ?_
      rotate_left
      ·intro w'
       go_simp
       with_reducible rfl
      rotate_left
      ·simp only [Act.put,sA,sZ,sS,i64_w,i32_w]
       rfl
      refine take_ (i:=1) (N:=some 11) (v:=?_) (a':=?_) #[tt,tt,tt,ff,ff,ff,ff,ff,ff,ff,ff,ff,ff,ff,ff,ff,ff,ff,ff,ff,ff,ff,ff,ff,ff,ff] rfl rfl (take_ofW HT_.out HW_.out (by kernel_rfl)) (fun _ _ _ h => h) (Or.inl ⟨by rfl,?_⟩) hHeld ?_ ?_
      rotate_left
      ·rintro w' ⟨s0,s1,s2,s3,s4,s5,s6,s7,s8,s9,s10,s11,s12,s13,s14,s15⟩
       go_simp
       with_reducible rfl
      rotate_left
      ·simp only [Act.put,sA,sZ,sS,i64_w,i32_w]
       rfl
      refine pure_ (i:=3) (N:=some 13) (v:=?_) (a':=?_) #[tt,tt,tt,tt,ff,ff,ff,ff,ff,ff,ff,ff,ff,ff,ff,ff,ff,ff,ff,ff,ff,ff,ff,ff,ff,ff] rfl rfl (any_of HT_.out (by kernel_rfl)) (fun _ _ _ h => h) (Or.inl ⟨by rfl,?_⟩) ?_ ?_
      rotate_left
      ·intro w'
       go_simp
       with_reducible rfl
      rotate_left
      ·simp only [Act.put,sA,sZ,sS,i64_w,i32_w]
       rfl
      refine take_ (i:=4) (N:=some 14) (v:=?_) (a':=?_) #[tt,tt,tt,tt,tt,ff,ff,ff,ff,ff,ff,ff,ff,ff,ff,ff,ff,ff,ff,ff,ff,ff,ff,ff,ff,ff] rfl rfl (take_ofW HT_.out HW_.out (by kernel_rfl)) (fun _ _ _ h => h) (Or.inl ⟨by rfl,?_⟩) hHeld ?_ ?_
      rotate_left
      ·rintro w' ⟨s0,s1,s2,s3,s4,s5,s6,s7,s8,s9,s10,s11,s12,s13,s14,s15⟩
       go_simp
       with_reducible rfl
      rotate_left
      ·simp only [Act.put,sA,sZ,sS,i64_w,i32_w]
       rfl
      refine one_ (i:=5) (N:=some 15) #[tt,tt,tt,tt,tt,tt,ff,ff,ff,ff,ff,ff,ff,ff,ff,ff,ff,ff,ff,ff,ff,ff,ff,ff,ff,ff] rfl rfl (one_of HT_.out (by kernel_rfl)) (by decide) (fun K hK => ?_)
      refine goes_ Try.func41 (by kernel_rfl) rfl #[.agg #[.int .u64 ((rd_T58 l0_0 x7_1).f0),.int .u64 ((rd_T58 l0_0 x7_1).f1),.string ((rd_T58 l0_0 x7_1).f2),.string ((rd_T58 l0_0 x7_1).f3)]] (by rfl) rfl rfl (by (try simp only [List.map_toArray,List.map_cons,List.map_nil]);first|done|rfl|(simp only [List.length_drop,List.length_take];rfl)) ?_
      with_reducible refine (edit_odd.calls ((rd_T58 l0_0 x7_1).f0) ((rd_T58 l0_0 x7_1).f1) ((rd_T58 l0_0 x7_1).f2) ((rd_T58 l0_0 x7_1).f3) false _ A7.out).mono ?_
      rintro e w17 ⟨rfl,hb⟩
      refine ⟨_,rfl,?_⟩
      have n0_:=aK (blk_below (g:=gb113) (o:=.cells #[.slice (some ad114) l0_0.length c0_0,.int .u64 a0_1,.int .u64 a0_2,.int .u64 a0_3] 25 (0,0)) (by (with_reducible repeat (first|apply bN|apply bD|apply bA));exact BK113.out) hb)
      have n1_:=aK (below_step (by repeat (first|(with_reducible first|exact HB.out|apply aA|apply aW|apply aD|refine below_set ?_ GE113.out)|exact HB.out)) hb)
      clear BK113
      clear HB
      have BK113:=n0_
      have HB:=n1_
      clear n0_ n1_
      (try clear hb)
      (try clear hb2)
      (try clear hk)
      (try clear hi)
      refine hK.out _ _ ⟨(aC BK113.out 0).trans rfl,(aC BK113.out 1).trans rfl,(aC BK113.out 2).trans rfl,(aC BK113.out 3).trans rfl,((HB.out.cell (World.block_lt_of_cell? w _ hw114_0)).trans hw114_0),((HB.out.cell (World.block_lt_of_cell? w _ hw114_1)).trans hw114_1),((HB.out.cell (World.block_lt_of_cell? w _ hw114_2)).trans hw114_2),((HB.out.cell (World.block_lt_of_cell? w _ hw114_3)).trans hw114_3),((HB.out.cell (World.block_lt_of_cell? w _ hw116_0)).trans hw116_0),((HB.out.cell (World.block_lt_of_cell? w _ hw116_1)).trans hw116_1),((HB.out.cell (World.block_lt_of_cell? w _ hw116_2)).trans hw116_2),((HB.out.cell (World.block_lt_of_cell? w _ hw116_3)).trans hw116_3),((HB.out.cell (World.block_lt_of_cell? w _ hw117_0)).trans hw117_0),((HB.out.cell (World.block_lt_of_cell? w _ hw117_1)).trans hw117_1),((HB.out.cell (World.block_lt_of_cell? w _ hw117_2)).trans hw117_2),((HB.out.cell (World.block_lt_of_cell? w _ hw117_3)).trans hw117_3)⟩ (fun hHeld => ?_)
      clear hK K
      refine norm_ (a':=?_) ?_ ?_
      rotate_left
      ·show Act.put _ (some 15) _ = _
       simp only [Act.put,sA,sZ,sS,i64_w,i32_w]
       rfl
      refine pure_ (i:=6) (N:=some 16) (v:=?_) (a':=?_) #[tt,tt,tt,tt,tt,tt,tt,ff,ff,ff,ff,ff,ff,ff,ff,ff,ff,ff,ff,ff,ff,ff,ff,ff,ff,ff] rfl rfl (any_of HT_.out (by kernel_rfl)) (fun _ _ _ h => h) (Or.inl ⟨by rfl,?_⟩) ?_ ?_
      rotate_left
      ·intro w'
       go_simp
       with_reducible rfl
      rotate_left
      ·simp only [Act.put,sA,sZ,sS,i64_w,i32_w]
       rfl
      refine pure_ (i:=7) (N:=some 17) (v:=?_) (a':=?_) #[tt,tt,tt,tt,tt,tt,tt,tt,ff,ff,ff,ff,ff,ff,ff,ff,ff,ff,ff,ff,ff,ff,ff,ff,ff,ff] rfl rfl (any_of HT_.out (by kernel_rfl)) (fun _ _ _ h => h) (Or.inl ⟨by rfl,?_⟩) ?_ ?_
      rotate_left
      ·intro w'
       go_simp
       with_reducible rfl
      rotate_left
      ·simp only [Act.put,sA,sZ,sS,i64_w,i32_w]
       rfl
      refine pure_ (i:=8) (N:=some 18) (v:=?_) (a':=?_) #[tt,tt,tt,tt,tt,tt,tt,tt,tt,ff,ff,ff,ff,ff,ff,ff,ff,ff,ff,ff,ff,ff,ff,ff,ff,ff] rfl rfl (any_of HT_.out (by kernel_rfl)) (fun _ _ _ h => h) (Or.inl ⟨by rfl,?_⟩) ?_ ?_
      rotate_left
      ·intro w'
       go_simp
       with_reducible rfl
      rotate_left
      ·simp only [Act.put,sA,sZ,sS,i64_w,i32_w]
       rfl
      refine pure_ (i:=9) (N:=some 19) (v:=?_) (a':=?_) #[tt,tt,tt,tt,tt,tt,tt,tt,tt,tt,ff,ff,ff,ff,ff,ff,ff,ff,ff,ff,ff,ff,ff,ff,ff,ff] rfl rfl (any_of HT_.out (by kernel_rfl)) (fun _ _ _ h => h) (Or.inl ⟨by rfl,?_⟩) ?_ ?_
      rotate_left
      ·intro w'
       go_simp
       with_reducible rfl
      rotate_left
      ·simp only [Act.put,sA,sZ,sS,i64_w,i32_w]
       rfl
      refine pure_ (i:=10) (N:=some 20) (v:=?_) (a':=?_) #[tt,tt,tt,tt,tt,tt,tt,tt,tt,tt,tt,ff,ff,ff,ff,ff,ff,ff,ff,ff,ff,ff,ff,ff,ff,ff] rfl rfl (any_of HT_.out (by kernel_rfl)) (fun _ _ _ h => h) (Or.inl ⟨by rfl,?_⟩) ?_ ?_
      rotate_left
      ·intro w'
       go_simp
       with_reducible rfl
      rotate_left
      ·simp only [Act.put,sA,sZ,sS,i64_w,i32_w]
       rfl
      refine pure_ (i:=12) (N:=some 22) (v:=?_) (a':=?_) #[tt,tt,tt,tt,tt,tt,tt,tt,tt,tt,tt,ff,tt,ff,ff,ff,ff,ff,ff,ff,ff,ff,ff,ff,ff,ff] rfl rfl (any_of HT_.out (by kernel_rfl)) (fun _ _ _ h => h) (Or.inl ⟨by rfl,?_⟩) ?_ ?_
      rotate_left
      ·intro w'
       go_simp
       with_reducible rfl
      rotate_left
      ·simp only [Act.put,sA,sZ,sS,i64_w,i32_w]
       rfl
      refine pure_ (i:=16) (N:=some 26) (v:=?_) (a':=?_) #[tt,tt,tt,tt,tt,tt,tt,tt,tt,tt,tt,ff,tt,ff,ff,ff,tt,ff,ff,ff,ff,ff,ff,ff,ff,ff] rfl rfl (any_of HT_.out (by kernel_rfl)) (fun _ _ _ h => h) (Or.inl ⟨by rfl,?_⟩) ?_ ?_
      rotate_left
      ·intro w'
       go_simp
       with_reducible rfl
      rotate_left
      ·simp only [Act.put,sA,sZ,sS,i64_w,i32_w]
       rfl
      refine pure_ (i:=18) (N:=some 28) (v:=?_) (a':=?_) #[tt,tt,tt,tt,tt,tt,tt,tt,tt,tt,tt,ff,tt,ff,ff,ff,tt,ff,tt,ff,ff,ff,ff,ff,ff,ff] rfl rfl (any_of HT_.out (by kernel_rfl)) (fun _ _ _ h => h) (Or.inl ⟨by rfl,?_⟩) ?_ ?_
      rotate_left
      ·intro w'
       go_simp
       with_reducible rfl
      rotate_left
      ·simp only [Act.put,sA,sZ,sS,i64_w,i32_w]
       rfl
      refine pure_ (i:=19) (N:=some 29) (v:=?_) (a':=?_) #[tt,tt,tt,tt,tt,tt,tt,tt,tt,tt,tt,ff,tt,ff,ff,ff,tt,ff,tt,tt,ff,ff,ff,ff,ff,ff] rfl rfl (any_of HT_.out (by kernel_rfl)) (fun _ _ _ h => h) (Or.inl ⟨by rfl,?_⟩) ?_ ?_
      rotate_left
      ·intro w'
       go_simp
       with_reducible rfl
      rotate_left
      ·simp only [Act.put,sA,sZ,sS,i64_w,i32_w]
       rfl
      refine take_ (i:=11) (N:=some 21) (v:=?_) (a':=?_) #[tt,tt,tt,tt,tt,tt,tt,tt,tt,tt,tt,tt,tt,ff,ff,ff,tt,ff,tt,tt,ff,ff,ff,ff,ff,ff] rfl rfl (take_ofW HT_.out HW_.out (by kernel_rfl)) (fun _ _ _ h => h) (Or.inl ⟨by rfl,?_⟩) hHeld ?_ ?_
      rotate_left
      ·rintro w' ⟨s0,s1,s2,s3,s4,s5,s6,s7,s8,s9,s10,s11,s12,s13,s14,s15⟩
       go_simp
       with_reducible rfl
      rotate_left
      ·simp only [Act.put,sA,sZ,sS,i64_w,i32_w]
       rfl
      refine pure_ (i:=13) (N:=some 23) (v:=?_) (a':=?_) #[tt,tt,tt,tt,tt,tt,tt,tt,tt,tt,tt,tt,tt,tt,ff,ff,tt,ff,tt,tt,ff,ff,ff,ff,ff,ff] rfl rfl (any_of HT_.out (by kernel_rfl)) (fun _ _ _ h => h) (Or.inl ⟨by rfl,?_⟩) ?_ ?_
      rotate_left
      ·intro w'
       go_simp
       with_reducible rfl
      rotate_left
      ·simp only [Act.put,sA,sZ,sS,i64_w,i32_w]
       rfl
      refine pure_ (i:=14) (N:=some 24) (v:=?_) (a':=?_) #[tt,tt,tt,tt,tt,tt,tt,tt,tt,tt,tt,tt,tt,tt,tt,ff,tt,ff,tt,tt,ff,ff,ff,ff,ff,ff] rfl rfl (any_of HT_.out (by kernel_rfl)) (fun _ _ _ h => h) (Or.inl ⟨by rfl,?_⟩) ?_ ?_
      rotate_left
      ·intro w'
       go_simp
       with_reducible rfl
      rotate_left
      ·simp only [Act.put,sA,sZ,sS,i64_w,i32_w]
       rfl
      refine take_ (i:=15) (N:=some 25) (v:=?_) (a':=?_) #[tt,tt,tt,tt,tt,tt,tt,tt,tt,tt,tt,tt,tt,tt,tt,tt,tt,ff,tt,tt,ff,ff,ff,ff,ff,ff] rfl rfl (take_ofW HT_.out HW_.out (by kernel_rfl)) (fun _ _ _ h => h) (Or.inl ⟨by rfl,?_⟩) hHeld ?_ ?_
      rotate_left
      ·rintro w' ⟨s0,s1,s2,s3,s4,s5,s6,s7,s8,s9,s10,s11,s12,s13,s14,s15⟩
       go_simp
       with_reducible rfl
      rotate_left
      ·simp only [Act.put,sA,sZ,sS,i64_w,i32_w]
       rfl
      refine take_ (i:=17) (N:=some 27) (v:=?_) (a':=?_) #[tt,tt,tt,tt,tt,tt,tt,tt,tt,tt,tt,tt,tt,tt,tt,tt,tt,tt,tt,tt,ff,ff,ff,ff,ff,ff] rfl rfl (take_ofW HT_.out HW_.out (by kernel_rfl)) (fun _ _ _ h => h) (Or.inl ⟨by rfl,?_⟩) hHeld ?_ ?_
      rotate_left
      ·rintro w' ⟨s0,s1,s2,s3,s4,s5,s6,s7,s8,s9,s10,s11,s12,s13,s14,s15⟩
       go_simp
       with_reducible rfl
      rotate_left
      ·simp only [Act.put,sA,sZ,sS,i64_w,i32_w]
       rfl
      refine pure_ (i:=20) (N:=some 30) (v:=?_) (a':=?_) #[tt,tt,tt,tt,tt,tt,tt,tt,tt,tt,tt,tt,tt,tt,tt,tt,tt,tt,tt,tt,tt,ff,ff,ff,ff,ff] rfl rfl (any_of HT_.out (by kernel_rfl)) (fun _ _ _ h => h) (Or.inl ⟨by rfl,?_⟩) ?_ ?_
      rotate_left
      ·intro w'
       go_simp
       with_reducible rfl
      rotate_left
      ·simp only [Act.put,sA,sZ,sS,i64_w,i32_w]
       rfl
      refine pure_ (i:=21) (N:=some 31) (v:=?_) (a':=?_) #[tt,tt,tt,tt,tt,tt,tt,tt,tt,tt,tt,tt,tt,tt,tt,tt,tt,tt,tt,tt,tt,tt,ff,ff,ff,ff] rfl rfl (any_of HT_.out (by kernel_rfl)) (fun _ _ _ h => h) (Or.inl ⟨by rfl,?_⟩) ?_ ?_
      rotate_left
      ·intro w'
       go_simp
       with_reducible rfl
      rotate_left
      ·simp only [Act.put,sA,sZ,sS,i64_w,i32_w]
       rfl
      refine take_ (i:=22) (N:=some 32) (v:=?_) (a':=?_) #[tt,tt,tt,tt,tt,tt,tt,tt,tt,tt,tt,tt,tt,tt,tt,tt,tt,tt,tt,tt,tt,tt,tt,ff,ff,ff] rfl rfl (take_ofW HT_.out HW_.out (by kernel_rfl)) (fun _ _ _ h => h) (Or.inl ⟨by rfl,?_⟩) hHeld ?_ ?_
      rotate_left
      ·rintro w' ⟨s0,s1,s2,s3,s4,s5,s6,s7,s8,s9,s10,s11,s12,s13,s14,s15⟩
       go_simp
       with_reducible rfl
      rotate_left
      ·simp only [Act.put,sA,sZ,sS,i64_w,i32_w]
       rfl
      refine pure_ (i:=23) (N:=some 33) (v:=?_) (a':=?_) #[tt,tt,tt,tt,tt,tt,tt,tt,tt,tt,tt,tt,tt,tt,tt,tt,tt,tt,tt,tt,tt,tt,tt,tt,ff,ff] rfl rfl (any_of HT_.out (by kernel_rfl)) (fun _ _ _ h => h) (Or.inl ⟨by rfl,?_⟩) ?_ ?_
      rotate_left
      ·intro w'
       go_simp
       with_reducible rfl
      rotate_left
      ·simp only [Act.put,sA,sZ,sS,i64_w,i32_w]
       rfl
      refine pure_ (i:=24) (N:=some 34) (v:=?_) (a':=?_) #[tt,tt,tt,tt,tt,tt,tt,tt,tt,tt,tt,tt,tt,tt,tt,tt,tt,tt,tt,tt,tt,tt,tt,tt,tt,ff] rfl rfl (any_of HT_.out (by kernel_rfl)) (fun _ _ _ h => h) (Or.inl ⟨by rfl,?_⟩) ?_ ?_
      rotate_left
      ·intro w'
       go_simp
       with_reducible rfl
      rotate_left
      ·simp only [Act.put,sA,sZ,sS,i64_w,i32_w]
       rfl
      refine pure_ (i:=25) (N:=some 35) (v:=?_) (a':=?_) #[tt,tt,tt,tt,tt,tt,tt,tt,tt,tt,tt,tt,tt,tt,tt,tt,tt,tt,tt,tt,tt,tt,tt,tt,tt,tt] rfl rfl (any_of HT_.out (by kernel_rfl)) (fun _ _ _ h => h) (Or.inl ⟨by rfl,?_⟩) ?_ ?_
      rotate_left
      ·intro w'
       go_simp
       with_reducible rfl
      rotate_left
      ·simp only [Act.put,sA,sZ,sS,i64_w,i32_w]
       rfl
      refine done_ (done_of HT_.out (by kernel_rfl)) ?_
      try go_wp2
      go_ret
      exact ⟨by first|rfl|(simp [errW_none,errW_some] <;> rfl)|(simp only [← hji12];first|rfl|(simp [errW_none,errW_some] <;> rfl))|(simp [*,errW_none,errW_some] <;> rfl),by repeat (first|(with_reducible first|exact HB.out|apply aA|apply aW|apply aD|refine below_set ?_ GE113.out)|exact HB.out)⟩
     ·rw [if_neg c15] at H
      have c15b0 : decide (((rd_T58 l0_0 x7_1).f0) ≤ ((rd_T58 l0_0 (ji12)).f0)) = false:=decide_eq_false c15
      clear c15
      have H':=aK H
      clear H
      try go_wp2
      have n0_:=aK (blk_drew BK113.out)
      have n1_:=aK (aD HB.out)
      clear BK113
      clear HB
      have BK113:=n0_
      have HB:=n1_
      clear n0_ n1_
      have p114 : 0 ≤ (x7_1 : Int):=ad (by first|(with_reducible assumption)|assumption)
      have q114 : x7_1 < (l0_0.length : Int):=ad (by first|(with_reducible assumption)|assumption)
      obtain ⟨ad114,e114,hx114_0,hx114_1,hx114_2,hx114_3⟩:=at_T58 HR0_0.out x7_1 p114 q114
      have hw114_3:=hx114_3
      have hw114_2:=hx114_2
      have hw114_1:=hx114_1
      have hw114_0:=hx114_0
      cases e114
      replace hx114_0:=(HB.out.cell (World.block_lt_of_cell? w _ hx114_0)).trans hx114_0
      replace hx114_1:=(HB.out.cell (World.block_lt_of_cell? w _ hx114_1)).trans hx114_1
      replace hx114_2:=(HB.out.cell (World.block_lt_of_cell? w _ hx114_2)).trans hx114_2
      replace hx114_3:=(HB.out.cell (World.block_lt_of_cell? w _ hx114_3)).trans hx114_3
      replace p114:=eq_true p114
      replace q114:=eq_true q114
      have p116 : 0 ≤ (x7_1 : Int):=ad (by first|(with_reducible assumption)|assumption)
      have q116 : x7_1 < (l0_0.length : Int):=ad (by first|(with_reducible assumption)|assumption)
      obtain ⟨ad116,e116,hx116_0,hx116_1,hx116_2,hx116_3⟩:=at_T58 HR0_0.out x7_1 p116 q116
      have hw116_3:=hx116_3
      have hw116_2:=hx116_2
      have hw116_1:=hx116_1
      have hw116_0:=hx116_0
      obtain rfl : ad114 = ad116:=(by injection e116)
      replace hx116_0:=(HB.out.cell (World.block_lt_of_cell? w _ hx116_0)).trans hx116_0
      replace hx116_1:=(HB.out.cell (World.block_lt_of_cell? w _ hx116_1)).trans hx116_1
      replace hx116_2:=(HB.out.cell (World.block_lt_of_cell? w _ hx116_2)).trans hx116_2
      replace hx116_3:=(HB.out.cell (World.block_lt_of_cell? w _ hx116_3)).trans hx116_3
      replace p116:=eq_true p116
      replace q116:=eq_true q116
      have p117 : 0 ≤ ((ji12) : Int):=ad (by first|(with_reducible assumption)|assumption)
      have q117 : (ji12) < (l0_0.length : Int):=ad (by first|(with_reducible assumption)|assumption)
      obtain ⟨ad117,e117,hx117_0,hx117_1,hx117_2,hx117_3⟩:=at_T58 HR0_0.out (ji12) p117 q117
      have hw117_3:=hx117_3
      have hw117_2:=hx117_2
      have hw117_1:=hx117_1
      have hw117_0:=hx117_0
      obtain rfl : ad114 = ad117:=(by injection e117)
      replace hx117_0:=(HB.out.cell (World.block_lt_of_cell? w _ hx117_0)).trans hx117_0
      replace hx117_1:=(HB.out.cell (World.block_lt_of_cell? w _ hx117_1)).trans hx117_1
      replace hx117_2:=(HB.out.cell (World.block_lt_of_cell? w _ hx117_2)).trans hx117_2
      replace hx117_3:=(HB.out.cell (World.block_lt_of_cell? w _ hx117_3)).trans hx117_3
      replace p117:=eq_true p117
      replace q117:=eq_true q117
      refine start_ (n:=26) (S:=fun w' => w'.cell? ⟨gb113,0,none⟩ = some (.slice (some ad114) l0_0.length c0_0) ∧ w'.cell? ⟨gb113,1,none⟩ = some (.int .u64 a0_1) ∧ w'.cell? ⟨gb113,2,none⟩ = some (.int .u64 a0_2) ∧ w'.cell? ⟨gb113,3,none⟩ = some (.int .u64 a0_3) ∧ w'.cell? (ad114.add ((x7_1).toNat * 4)) = some (.int .u64 ((rd_T58 l0_0 x7_1).f0)) ∧ w'.cell? ⟨(ad114.add ((x7_1).toNat * 4)).block,(ad114.add ((x7_1).toNat * 4)).off + 1,none⟩ = some (.int .u64 ((rd_T58 l0_0 x7_1).f1)) ∧ w'.cell? ⟨(ad114.add ((x7_1).toNat * 4)).block,(ad114.add ((x7_1).toNat * 4)).off + 2,none⟩ = some (.string ((rd_T58 l0_0 x7_1).f2)) ∧ w'.cell? ⟨(ad114.add ((x7_1).toNat * 4)).block,(ad114.add ((x7_1).toNat * 4)).off + 3,none⟩ = some (.string ((rd_T58 l0_0 x7_1).f3)) ∧ w'.cell? (ad114.add ((x7_1).toNat * 4)) = some (.int .u64 ((rd_T58 l0_0 x7_1).f0)) ∧ w'.cell? ⟨(ad114.add ((x7_1).toNat * 4)).block,(ad114.add ((x7_1).toNat * 4)).off + 1,none⟩ = some (.int .u64 ((rd_T58 l0_0 x7_1).f1)) ∧ w'.cell? ⟨(ad114.add ((x7_1).toNat * 4)).block,(ad114.add ((x7_1).toNat * 4)).off + 2,none⟩ = some (.string ((rd_T58 l0_0 x7_1).f2)) ∧ w'.cell? ⟨(ad114.add ((x7_1).toNat * 4)).block,(ad114.add ((x7_1).toNat * 4)).off + 3,none⟩ = some (.string ((rd_T58 l0_0 x7_1).f3)) ∧ w'.cell? (ad114.add (((ji12)).toNat * 4)) = some (.int .u64 ((rd_T58 l0_0 (ji12)).f0)) ∧ w'.cell? ⟨(ad114.add (((ji12)).toNat * 4)).block,(ad114.add (((ji12)).toNat * 4)).off + 1,none⟩ = some (.int .u64 ((rd_T58 l0_0 (ji12)).f1)) ∧ w'.cell? ⟨(ad114.add (((ji12)).toNat * 4)).block,(ad114.add (((ji12)).toNat * 4)).off + 2,none⟩ = some (.string ((rd_T58 l0_0 (ji12)).f2)) ∧ w'.cell? ⟨(ad114.add (((ji12)).toNat * 4)).block,(ad114.add (((ji12)).toNat * 4)).off + 3,none⟩ = some (.string ((rd_T58 l0_0 (ji12)).f3))) (ds:=[]) #[ff,ff,ff,ff,ff,ff,ff,ff,ff,ff,ff,ff,ff,ff,ff,ff,ff,ff,ff,ff,ff,ff,ff,ff,ff,ff] (by kernel_rfl) rfl rfl ⟨(aC BK113.out 0).trans rfl,(aC BK113.out 1).trans rfl,(aC BK113.out 2).trans rfl,(aC BK113.out 3).trans rfl,((HB.out.cell (World.block_lt_of_cell? w _ hw114_0)).trans hw114_0),((HB.out.cell (World.block_lt_of_cell? w _ hw114_1)).trans hw114_1),((HB.out.cell (World.block_lt_of_cell? w _ hw114_2)).trans hw114_2),((HB.out.cell (World.block_lt_of_cell? w _ hw114_3)).trans hw114_3),((HB.out.cell (World.block_lt_of_cell? w _ hw116_0)).trans hw116_0),((HB.out.cell (World.block_lt_of_cell? w _ hw116_1)).trans hw116_1),((HB.out.cell (World.block_lt_of_cell? w _ hw116_2)).trans hw116_2),((HB.out.cell (World.block_lt_of_cell? w _ hw116_3)).trans hw116_3),((HB.out.cell (World.block_lt_of_cell? w _ hw117_0)).trans hw117_0),((HB.out.cell (World.block_lt_of_cell? w _ hw117_1)).trans hw117_1),((HB.out.cell (World.block_lt_of_cell? w _ hw117_2)).trans hw117_2),((HB.out.cell (World.block_lt_of_cell? w _ hw117_3)).trans hw117_3)⟩ (fun hHeld => ?_);refine with_tabW edit_Right.tab4 edit_Right.bits4 (fun HT_ HW_ => ?_)
      generalize wr.drew = w18 at BK113 HB hx114_0 hx114_1 hx114_2 hx114_3 hx116_0 hx116_1 hx116_2 hx116_3 hx117_0 hx117_1 hx117_2 hx117_3 hHeld ⊢
      refine pure_ (i:=0) (N:=some 10) (v:=?_) (a':=?_) #[tt,ff,ff,ff,ff,ff,ff,ff,ff,ff,ff,ff,ff,ff,ff,ff,ff,ff,ff,ff,ff,ff,ff,ff,ff,ff] rfl rfl (any_of HT_.out (by kernel_rfl)) (fun _ _ _ h => h) (Or.inl ⟨by rfl,?_⟩) ?_ ?_
      rotate_left
      ·intro w'
       go_simp
       with_reducible rfl
      rotate_left
      ·simp only [Act.put,sA,sZ,sS,i64_w,i32_w]
       rfl
      refine pure_ (i:=2) (N:=some 12) (v:=?_) (a':=?_) #[tt,ff,tt,ff,ff,ff,ff,ff,ff,ff,ff,ff,ff,ff,ff,ff,ff,ff,ff,ff,ff,ff,ff,ff,ff,ff] rfl rfl (any_of HT_.out (by kernel_rfl)) (fun _ _ _ h => h) (Or.inl ⟨by rfl,?_⟩) ?_ ?_
      rotate_left
      ·intro w'
       go_simp
       with_reducible rfl
      rotate_left
      ·simp only [Act.put,sA,sZ,sS,i64_w,i32_w]
       rfl
      refine take_ (i:=1) (N:=some 11) (v:=?_) (a':=?_) #[tt,tt,tt,ff,ff,ff,ff,ff,ff,ff,ff,ff,ff,ff,ff,ff,ff,ff,ff,ff,ff,ff,ff,ff,ff,ff] rfl rfl (take_ofW HT_.out HW_.out (by kernel_rfl)) (fun _ _ _ h => h) (Or.inl ⟨by rfl,?_⟩) hHeld ?_ ?_
      rotate_left
      ·rintro w' ⟨s0,s1,s2,s3,s4,s5,s6,s7,s8,s9,s10,s11,s12,s13,s14,s15⟩
       go_simp
       with_reducible rfl
      rotate_left
      ·simp only [Act.put,sA,sZ,sS,i64_w,i32_w]
       rfl
      refine pure_ (i:=3) (N:=some 13) (v:=?_) (a':=?_) #[tt,tt,tt,tt,ff,ff,ff,ff,ff,ff,ff,ff,ff,ff,ff,ff,ff,ff,ff,ff,ff,ff,ff,ff,ff,ff] rfl rfl (any_of HT_.out (by kernel_rfl)) (fun _ _ _ h => h) (Or.inl ⟨by rfl,?_⟩) ?_ ?_
      rotate_left
      ·intro w'
       go_simp
       with_reducible rfl
      rotate_left
      ·simp only [Act.put,sA,sZ,sS,i64_w,i32_w]
       rfl
      refine take_ (i:=4) (N:=some 14) (v:=?_) (a':=?_) #[tt,tt,tt,tt,tt,ff,ff,ff,ff,ff,ff,ff,ff,ff,ff,ff,ff,ff,ff,ff,ff,ff,ff,ff,ff,ff] rfl rfl (take_ofW HT_.out HW_.out (by kernel_rfl)) (fun _ _ _ h => h) (Or.inl ⟨by rfl,?_⟩) hHeld ?_ ?_
      rotate_left
      ·rintro w' ⟨s0,s1,s2,s3,s4,s5,s6,s7,s8,s9,s10,s11,s12,s13,s14,s15⟩
       go_simp
       with_reducible rfl
      rotate_left
      ·simp only [Act.put,sA,sZ,sS,i64_w,i32_w]
       rfl
      refine one_ (i:=5) (N:=some 15) #[tt,tt,tt,tt,tt,tt,ff,ff,ff,ff,ff,ff,ff,ff,ff,ff,ff,ff,ff,ff,ff,ff,ff,ff,ff,ff] rfl rfl (one_of HT_.out (by kernel_rfl)) (by decide) (fun K hK => ?_)
      refine goes_ Try.func41 (by kernel_rfl) rfl #[.agg #[.int .u64 ((rd_T58 l0_0 x7_1).f0),.int .u64 ((rd_T58 l0_0 x7_1).f1),.string ((rd_T58 l0_0 x7_1).f2),.string ((rd_T58 l0_0 x7_1).f3)]] (by rfl) rfl rfl (by (try simp only [List.map_toArray,List.map_cons,List.map_nil]);first|done|rfl|(simp only [List.length_drop,List.length_take];rfl)) ?_
      with_reducible refine (edit_odd.calls ((rd_T58 l0_0 x7_1).f0) ((rd_T58 l0_0 x7_1).f1) ((rd_T58 l0_0 x7_1).f2) ((rd_T58 l0_0 x7_1).f3) false _ A7.out).mono ?_
      rintro e w19 ⟨rfl,hb⟩
      refine ⟨_,rfl,?_⟩
      have n0_:=aK (blk_below (g:=gb113) (o:=.cells #[.slice (some ad114) l0_0.length c0_0,.int .u64 a0_1,.int .u64 a0_2,.int .u64 a0_3] 25 (0,0)) (by (with_reducible repeat (first|apply bN|apply bD|apply bA));exact BK113.out) hb)
      have n1_:=aK (below_step (by repeat (first|(with_reducible first|exact HB.out|apply aA|apply aW|apply aD|refine below_set ?_ GE113.out)|exact HB.out)) hb)
      clear BK113
      clear HB
      have BK113:=n0_
      have HB:=n1_
      clear n0_ n1_
      (try clear hb)
      (try clear hb2)
      (try clear hk)
      (try clear hi)
      refine hK.out _ _ ⟨(aC BK113.out 0).trans rfl,(aC BK113.out 1).trans rfl,(aC BK113.out 2).trans rfl,(aC BK113.out 3).trans rfl,((HB.out.cell (World.block_lt_of_cell? w _ hw114_0)).trans hw114_0),((HB.out.cell (World.block_lt_of_cell? w _ hw114_1)).trans hw114_1),((HB.out.cell (World.block_lt_of_cell? w _ hw114_2)).trans hw114_2),((HB.out.cell (World.block_lt_of_cell? w _ hw114_3)).trans hw114_3),((HB.out.cell (World.block_lt_of_cell? w _ hw116_0)).trans hw116_0),((HB.out.cell (World.block_lt_of_cell? w _ hw116_1)).trans hw116_1),((HB.out.cell (World.block_lt_of_cell? w _ hw116_2)).trans hw116_2),((HB.out.cell (World.block_lt_of_cell? w _ hw116_3)).trans hw116_3),((HB.out.cell (World.block_lt_of_cell? w _ hw117_0)).trans hw117_0),((HB.out.cell (World.block_lt_of_cell? w _ hw117_1)).trans hw117_1),((HB.out.cell (World.block_lt_of_cell? w _ hw117_2)).trans hw117_2),((HB.out.cell (World.block_lt_of_cell? w _ hw117_3)).trans hw117_3)⟩ (fun hHeld => ?_)
      clear hK K
      refine norm_ (a':=?_) ?_ ?_
      rotate_left
      ·show Act.put _ (some 15) _ = _
       simp only [Act.put,sA,sZ,sS,i64_w,i32_w]
       rfl
      refine pure_ (i:=6) (N:=some 16) (v:=?_) (a':=?_) #[tt,tt,tt,tt,tt,tt,tt,ff,ff,ff,ff,ff,ff,ff,ff,ff,ff,ff,ff,ff,ff,ff,ff,ff,ff,ff] rfl rfl (any_of HT_.out (by kernel_rfl)) (fun _ _ _ h => h) (Or.inl ⟨by rfl,?_⟩) ?_ ?_
      rotate_left
      ·intro w'
       go_simp
       with_reducible rfl
      rotate_left
      ·simp only [Act.put,sA,sZ,sS,i64_w,i32_w]
       rfl
      refine pure_ (i:=7) (N:=some 17) (v:=?_) (a':=?_) #[tt,tt,tt,tt,tt,tt,tt,tt,ff,ff,ff,ff,ff,ff,ff,ff,ff,ff,ff,ff,ff,ff,ff,ff,ff,ff] rfl rfl (any_of HT_.out (by kernel_rfl)) (fun _ _ _ h => h) (Or.inl ⟨by rfl,?_⟩) ?_ ?_
      rotate_left
      ·intro w'
       go_simp
       with_reducible rfl
      rotate_left
      ·simp only [Act.put,sA,sZ,sS,i64_w,i32_w]
       rfl
      refine pure_ (i:=8) (N:=some 18) (v:=?_) (a':=?_) #[tt,tt,tt,tt,tt,tt,tt,tt,tt,ff,ff,ff,ff,ff,ff,ff,ff,ff,ff,ff,ff,ff,ff,ff,ff,ff] rfl rfl (any_of HT_.out (by kernel_rfl)) (fun _ _ _ h => h) (Or.inl ⟨by rfl,?_⟩) ?_ ?_
      rotate_left
      ·intro w'
       go_simp
       with_reducible rfl
      rotate_left
      ·simp only [Act.put,sA,sZ,sS,i64_w,i32_w]
       rfl
      refine pure_ (i:=9) (N:=some 19) (v:=?_) (a':=?_) #[tt,tt,tt,tt,tt,tt,tt,tt,tt,tt,ff,ff,ff,ff,ff,ff,ff,ff,ff,ff,ff,ff,ff,ff,ff,ff] rfl rfl (any_of HT_.out (by kernel_rfl)) (fun _ _ _ h => h) (Or.inl ⟨by rfl,?_⟩) ?_ ?_
      rotate_left
      ·intro w'
       go_simp
       with_reducible rfl
      rotate_left
      ·simp only [Act.put,sA,sZ,sS,i64_w,i32_w]
       rfl
      refine pure_ (i:=10) (N:=some 20) (v:=?_) (a':=?_) #[tt,tt,tt,tt,tt,tt,tt,tt,tt,tt,tt,ff,ff,ff,ff,ff,ff,ff,ff,ff,ff,ff,ff,ff,ff,ff] rfl rfl (any_of HT_.out (by kernel_rfl)) (fun _ _ _ h => h) (Or.inl ⟨by rfl,?_⟩) ?_ ?_
      rotate_left
      ·intro w'
       go_simp
       with_reducible rfl
      rotate_left
      ·simp only [Act.put,sA,sZ,sS,i64_w,i32_w]
       rfl
      refine pure_ (i:=12) (N:=some 22) (v:=?_) (a':=?_) #[tt,tt,tt,tt,tt,tt,tt,tt,tt,tt,tt,ff,tt,ff,ff,ff,ff,ff,ff,ff,ff,ff,ff,ff,ff,ff] rfl rfl (any_of HT_.out (by kernel_rfl)) (fun _ _ _ h => h) (Or.inl ⟨by rfl,?_⟩) ?_ ?_
      rotate_left
      ·intro w'
       go_simp
       with_reducible rfl
      rotate_left
      ·simp only [Act.put,sA,sZ,sS,i64_w,i32_w]
       rfl
      refine pure_ (i:=16) (N:=some 26) (v:=?_) (a':=?_) #[tt,tt,tt,tt,tt,tt,tt,tt,tt,tt,tt,ff,tt,ff,ff,ff,tt,ff,ff,ff,ff,ff,ff,ff,ff,ff] rfl rfl (any_of HT_.out (by kernel_rfl)) (fun _ _ _ h => h) (Or.inl ⟨by rfl,?_⟩) ?_ ?_
      rotate_left
      ·intro w'
       go_simp
       with_reducible rfl
      rotate_left
      ·simp only [Act.put,sA,sZ,sS,i64_w,i32_w]
       rfl
      refine pure_ (i:=18) (N:=some 28) (v:=?_) (a':=?_) #[tt,tt,tt,tt,tt,tt,tt,tt,tt,tt,tt,ff,tt,ff,ff,ff,tt,ff,tt,ff,ff,ff,ff,ff,ff,ff] rfl rfl (any_of HT_.out (by kernel_rfl)) (fun _ _ _ h => h) (Or.inl ⟨by rfl,?_⟩) ?_ ?_
      rotate_left
      ·intro w'
       go_simp
       with_reducible rfl
      rotate_left
      ·simp only [Act.put,sA,sZ,sS,i64_w,i32_w]
       rfl
      refine pure_ (i:=19) (N:=some 29) (v:=?_) (a':=?_) #[tt,tt,tt,tt,tt,tt,tt,tt,tt,tt,tt,ff,tt,ff,ff,ff,tt,ff,tt,tt,ff,ff,ff,ff,ff,ff] rfl rfl (any_of HT_.out (by kernel_rfl)) (fun _ _ _ h => h) (Or.inl ⟨by rfl,?_⟩) ?_ ?_
      rotate_left
      ·intro w'
       go_simp
       with_reducible rfl
      rotate_left
      ·simp only [Act.put,sA,sZ,sS,i64_w,i32_w]
       rfl
      refine take_ (i:=11) (N:=some 21) (v:=?_) (a':=?_) #[tt,tt,tt,tt,tt,tt,tt,tt,tt,tt,tt,tt,tt,ff,ff,ff,tt,ff,tt,tt,ff,ff,ff,ff,ff,ff] rfl rfl (take_ofW HT_.out HW_.out (by kernel_rfl)) (fun _ _ _ h => h) (Or.inl ⟨by rfl,?_⟩) hHeld ?_ ?_
      rotate_left
      ·rintro w' ⟨s0,s1,s2,s3,s4,s5,s6,s7,s8,s9,s10,s11,s12,s13,s14,s15⟩
       go_simp
       with_reducible rfl
      rotate_left
      ·simp only [Act.put,sA,sZ,sS,i64_w,i32_w]
       rfl
      refine pure_ (i:=13) (N:=some 23) (v:=?_) (a':=?_) #[tt,tt,tt,tt,tt,tt,tt,tt,tt,tt,tt,tt,tt,tt,ff,ff,tt,ff,tt,tt,ff,ff,ff,ff,ff,ff] rfl rfl (any_of HT_.out (by kernel_rfl)) (fun _ _ _ h => h) (Or.inl ⟨by rfl,?_⟩) ?_ ?_
      rotate_left
      ·intro w'
       go_simp
       with_reducible rfl
      rotate_left
      ·simp only [Act.put,sA,sZ,sS,i64_w,i32_w]
       rfl
      refine pure_ (i:=14) (N:=some 24) (v:=?_) (a':=?_) #[tt,tt,tt,tt,tt,tt,tt,tt,tt,tt,tt,tt,tt,tt,tt,ff,tt,ff,tt,tt,ff,ff,ff,ff,ff,ff] rfl rfl (any_of HT_.out (by kernel_rfl)) (fun _ _ _ h => h) (Or.inl ⟨by rfl,?_⟩) ?_ ?_
      rotate_left
      ·intro w'
       go_simp
       with_reducible rfl
      rotate_left
      ·simp only [Act.put,sA,sZ,sS,i64_w,i32_w]
       rfl
      refine take_ (i:=15) (N:=some 25) (v:=?_) (a':=?_) #[tt,tt,tt,tt,tt,tt,tt,tt,tt,tt,tt,tt,tt,tt,tt,tt,tt,ff,tt,tt,ff,ff,ff,ff,ff,ff] rfl rfl (take_ofW HT_.out HW_.out (by kernel_rfl)) (fun _ _ _ h => h) (Or.inl ⟨by rfl,?_⟩) hHeld ?_ ?_
      rotate_left
      ·rintro w' ⟨s0,s1,s2,s3,s4,s5,s6,s7,s8,s9,s10,s11,s12,s13,s14,s15⟩
       go_simp
       with_reducible rfl
      rotate_left
      ·simp only [Act.put,sA,sZ,sS,i64_w,i32_w]
       rfl
      refine take_ (i:=17) (N:=some 27) (v:=?_) (a':=?_) #[tt,tt,tt,tt,tt,tt,tt,tt,tt,tt,tt,tt,tt,tt,tt,tt,tt,tt,tt,tt,ff,ff,ff,ff,ff,ff] rfl rfl (take_ofW HT_.out HW_.out (by kernel_rfl)) (fun _ _ _ h => h) (Or.inl ⟨by rfl,?_⟩) hHeld ?_ ?_
      rotate_left
      ·rintro w' ⟨s0,s1,s2,s3,s4,s5,s6,s7,s8,s9,s10,s11,s12,s13,s14,s15⟩
       go_simp
       with_reducible rfl
      rotate_left
      ·simp only [Act.put,sA,sZ,sS,i64_w,i32_w]
       rfl
      refine pure_ (i:=20) (N:=some 30) (v:=?_) (a':=?_) #[tt,tt,tt,tt,tt,tt,tt,tt,tt,tt,tt,tt,tt,tt,tt,tt,tt,tt,tt,tt,tt,ff,ff,ff,ff,ff] rfl rfl (any_of HT_.out (by kernel_rfl)) (fun _ _ _ h => h) (Or.inl ⟨by rfl,?_⟩) ?_ ?_
      rotate_left
      ·intro w'
       go_simp
       with_reducible rfl
      rotate_left
      ·simp only [Act.put,sA,sZ,sS,i64_w,i32_w]
       rfl
      refine pure_ (i:=21) (N:=some 31) (v:=?_) (a':=?_) #[tt,tt,tt,tt,tt,tt,tt,tt,tt,tt,tt,tt,tt,tt,tt,tt,tt,tt,tt,tt,tt,tt,ff,ff,ff,ff] rfl rfl (any_of HT_.out (by kernel_rfl)) (fun _ _ _ h => h) (Or.inl ⟨by rfl,?_⟩) ?_ ?_
      rotate_left
      ·intro w'
       go_simp
       with_reducible rfl
      rotate_left
      ·simp only [Act.put,sA,sZ,sS,i64_w,i32_w]
       rfl
      refine take_ (i:=22) (N:=some 32) (v:=?_) (a':=?_) #[tt,tt,tt,tt,tt,tt,tt,tt,tt,tt,tt,tt,tt,tt,tt,tt,tt,tt,tt,tt,tt,tt,tt,ff,ff,ff] rfl rfl (take_ofW HT_.out HW_.out (by kernel_rfl)) (fun _ _ _ h => h) (Or.inl ⟨by rfl,?_⟩) hHeld ?_ ?_
      rotate_left
      ·rintro w' ⟨s0,s1,s2,s3,s4,s5,s6,s7,s8,s9,s10,s11,s12,s13,s14,s15⟩
       go_simp
       with_reducible rfl
      rotate_left
      ·simp only [Act.put,sA,sZ,sS,i64_w,i32_w]
       rfl
      refine pure_ (i:=23) (N:=some 33) (v:=?_) (a':=?_) #[tt,tt,tt,tt,tt,tt,tt,tt,tt,tt,tt,tt,tt,tt,tt,tt,tt,tt,tt,tt,tt,tt,tt,tt,ff,ff] rfl rfl (any_of HT_.out (by kernel_rfl)) (fun _ _ _ h => h) (Or.inl ⟨by rfl,?_⟩) ?_ ?_
      rotate_left
      ·intro w'
       go_simp
       with_reducible rfl
      rotate_left
      ·simp only [Act.put,sA,sZ,sS,i64_w,i32_w]
       rfl
      refine pure_ (i:=24) (N:=some 34) (v:=?_) (a':=?_) #[tt,tt,tt,tt,tt,tt,tt,tt,tt,tt,tt,tt,tt,tt,tt,tt,tt,tt,tt,tt,tt,tt,tt,tt,tt,ff] rfl rfl (any_of HT_.out (by kernel_rfl)) (fun _ _ _ h => h) (Or.inl ⟨by rfl,?_⟩) ?_ ?_
      rotate_left
      ·intro w'
       go_simp
       with_reducible rfl
      rotate_left
      ·simp only [Act.put,sA,sZ,sS,i64_w,i32_w]
       rfl
      refine pure_ (i:=25) (N:=some 35) (v:=?_) (a':=?_) #[tt,tt,tt,tt,tt,tt,tt,tt,tt,tt,tt,tt,tt,tt,tt,tt,tt,tt,tt,tt,tt,tt,tt,tt,tt,tt] rfl rfl (any_of HT_.out (by kernel_rfl)) (fun _ _ _ h => h) (Or.inl ⟨by rfl,?_⟩) ?_ ?_
      rotate_left
      ·intro w'
       go_simp
       with_reducible rfl
      rotate_left
      ·simp only [Act.put,sA,sZ,sS,i64_w,i32_w]
       rfl
      refine done_ (done_of HT_.out (by kernel_rfl)) ?_
      try go_wp2
      go_roundg k1
      case measure => have:=HK1.out;omega
      case rel => exact ⟨(wrap64 (x7_1 + 1)),(by first|rfl|(simp;done)|(simp [*];done)),H',⟨by have:=HK1.out;omega⟩,⟨by (with_reducible repeat (first|apply bN|apply bD|apply bA));exact BK113.out⟩,⟨by repeat (first|(with_reducible first|exact HB.out|apply aA|apply aW|apply aD|refine below_set ?_ GE113.out)|exact HB.out)⟩⟩
    ·rw [if_neg c11] at H
     have c11b0 : decide (0 < x7_1) = false:=decide_eq_false c11
     clear c11
     have H':=aK H
     clear H
     try go_wp2
     have n0_:=aK (blk_drew BK113.out)
     have n1_:=aK (aD HB.out)
     clear BK113
     clear HB
     have BK113:=n0_
     have HB:=n1_
     clear n0_ n1_
     have p114 : 0 ≤ (x7_1 : Int):=ad (by first|(with_reducible assumption)|assumption)
     have q114 : x7_1 < (l0_0.length : Int):=ad (by first|(with_reducible assumption)|assumption)
     obtain ⟨ad114,e114,hx114_0,hx114_1,hx114_2,hx114_3⟩:=at_T58 HR0_0.out x7_1 p114 q114
     have hw114_3:=hx114_3
     have hw114_2:=hx114_2
     have hw114_1:=hx114_1
     have hw114_0:=hx114_0
     cases e114
     replace hx114_0:=(HB.out.cell (World.block_lt_of_cell? w _ hx114_0)).trans hx114_0
     replace hx114_1:=(HB.out.cell (World.block_lt_of_cell? w _ hx114_1)).trans hx114_1
     replace hx114_2:=(HB.out.cell (World.block_lt_of_cell? w _ hx114_2)).trans hx114_2
     replace hx114_3:=(HB.out.cell (World.block_lt_of_cell? w _ hx114_3)).trans hx114_3
     replace p114:=eq_true p114
     replace q114:=eq_true q114
     refine start_ (n:=26) (S:=fun w' => w'.cell? ⟨gb113,0,none⟩ = some (.slice (some ad114) l0_0.length c0_0) ∧ w'.cell? ⟨gb113,1,none⟩ = some (.int .u64 a0_1) ∧ w'.cell? ⟨gb113,2,none⟩ = some (.int .u64 a0_2) ∧ w'.cell? ⟨gb113,3,none⟩ = some (.int .u64 a0_3) ∧ w'.cell? (ad114.add ((x7_1).toNat * 4)) = some (.int .u64 ((rd_T58 l0_0 x7_1).f0)) ∧ w'.cell? ⟨(ad114.add ((x7_1).toNat * 4)).block,(ad114.add ((x7_1).toNat * 4)).off + 1,none⟩ = some (.int .u64 ((rd_T58 l0_0 x7_1).f1)) ∧ w'.cell? ⟨(ad114.add ((x7_1).toNat * 4)).block,(ad114.add ((x7_1).toNat * 4)).off + 2,none⟩ = some (.string ((rd_T58 l0_0 x7_1).f2)) ∧ w'.cell? ⟨(ad114.add ((x7_1).toNat * 4)).block,(ad114.add ((x7_1).toNat * 4)).off + 3,none⟩ = some (.string ((rd_T58 l0_0 x7_1).f3))) (ds:=[]) #[ff,ff,ff,ff,ff,ff,ff,ff,ff,ff,ff,ff,ff,ff,ff,ff,ff,ff,ff,ff,ff,ff,ff,ff,ff,ff] (by kernel_rfl) rfl rfl ⟨(aC BK113.out 0).trans rfl,(aC BK113.out 1).trans rfl,(aC BK113.out 2).trans rfl,(aC BK113.out 3).trans rfl,((HB.out.cell (World.block_lt_of_cell? w _ hw114_0)).trans hw114_0),((HB.out.cell (World.block_lt_of_cell? w _ hw114_1)).trans hw114_1),((HB.out.cell (World.block_lt_of_cell? w _ hw114_2)).trans hw114_2),((HB.out.cell (World.block_lt_of_cell? w _ hw114_3)).trans hw114_3)⟩ (fun hHeld => ?_);refine with_tabW edit_Right.tab4 edit_Right.bits4 (fun HT_ HW_ => ?_)
     generalize wr.drew = w20 at BK113 HB hx114_0 hx114_1 hx114_2 hx114_3 hHeld ⊢
     refine pure_ (i:=0) (N:=some 10) (v:=?_) (a':=?_) #[tt,ff,ff,ff,ff,ff,ff,ff,ff,ff,ff,ff,ff,ff,ff,ff,ff,ff,ff,ff,ff,ff,ff,ff,ff,ff] rfl rfl (any_of HT_.out (by kernel_rfl)) (fun _ _ _ h => h) (Or.inl ⟨by rfl,?_⟩) ?_ ?_
     rotate_left
     ·intro w'
      go_simp
      with_reducible rfl
     rotate_left
     ·simp only [Act.put,sA,sZ,sS,i64_w,i32_w]
      rfl
     refine pure_ (i:=2) (N:=some 12) (v:=?_) (a':=?_) #[tt,ff,tt,ff,ff,ff,ff,ff,ff,ff,ff,ff,ff,ff,ff,ff,ff,ff,ff,ff,ff,ff,ff,ff,ff,ff] rfl rfl (any_of HT_.out (by kernel_rfl)) (fun _ _ _ h => h) (Or.inl ⟨by rfl,?_⟩) ?_ ?_
     rotate_left
     ·intro w'
      go_simp
      with_reducible rfl
     rotate_left
     ·simp only [Act.put,sA,sZ,sS,i64_w,i32_w]
      rfl
     refine take_ (i:=1) (N:=some 11) (v:=?_) (a':=?_) #[tt,tt,tt,ff,ff,ff,ff,ff,ff,ff,ff,ff,ff,ff,ff,ff,ff,ff,ff,ff,ff,ff,ff,ff,ff,ff] rfl rfl (take_ofW HT_.out HW_.out (by kernel_rfl)) (fun _ _ _ h => h) (Or.inl ⟨by rfl,?_⟩) hHeld ?_ ?_
     rotate_left
     ·rintro w' ⟨s0,s1,s2,s3,s4,s5,s6,s7⟩
      go_simp
      with_reducible rfl
     rotate_left
     ·simp only [Act.put,sA,sZ,sS,i64_w,i32_w]
      rfl
     refine pure_ (i:=3) (N:=some 13) (v:=?_) (a':=?_) #[tt,tt,tt,tt,ff,ff,ff,ff,ff,ff,ff,ff,ff,ff,ff,ff,ff,ff,ff,ff,ff,ff,ff,ff,ff,ff] rfl rfl (any_of HT_.out (by kernel_rfl)) (fun _ _ _ h => h) (Or.inl ⟨by rfl,?_⟩) ?_ ?_
     rotate_left
     ·intro w'
      go_simp
      with_reducible rfl
     rotate_left
     ·simp only [Act.put,sA,sZ,sS,i64_w,i32_w]
      rfl
     refine take_ (i:=4) (N:=some 14) (v:=?_) (a':=?_) #[tt,tt,tt,tt,tt,ff,ff,ff,ff,ff,ff,ff,ff,ff,ff,ff,ff,ff,ff,ff,ff,ff,ff,ff,ff,ff] rfl rfl (take_ofW HT_.out HW_.out (by kernel_rfl)) (fun _ _ _ h => h) (Or.inl ⟨by rfl,?_⟩) hHeld ?_ ?_
     rotate_left
     ·rintro w' ⟨s0,s1,s2,s3,s4,s5,s6,s7⟩
      go_simp
      with_reducible rfl
     rotate_left
     ·simp only [Act.put,sA,sZ,sS,i64_w,i32_w]
      rfl
     refine one_ (i:=5) (N:=some 15) #[tt,tt,tt,tt,tt,tt,ff,ff,ff,ff,ff,ff,ff,ff,ff,ff,ff,ff,ff,ff,ff,ff,ff,ff,ff,ff] rfl rfl (one_of HT_.out (by kernel_rfl)) (by decide) (fun K hK => ?_)
     refine goes_ Try.func41 (by kernel_rfl) rfl #[.agg #[.int .u64 ((rd_T58 l0_0 x7_1).f0),.int .u64 ((rd_T58 l0_0 x7_1).f1),.string ((rd_T58 l0_0 x7_1).f2),.string ((rd_T58 l0_0 x7_1).f3)]] (by rfl) rfl rfl (by (try simp only [List.map_toArray,List.map_cons,List.map_nil]);first|done|rfl|(simp only [List.length_drop,List.length_take];rfl)) ?_
     with_reducible refine (edit_odd.calls ((rd_T58 l0_0 x7_1).f0) ((rd_T58 l0_0 x7_1).f1) ((rd_T58 l0_0 x7_1).f2) ((rd_T58 l0_0 x7_1).f3) false _ A7.out).mono ?_
     rintro e w21 ⟨rfl,hb⟩
     refine ⟨_,rfl,?_⟩
     have n0_:=aK (blk_below (g:=gb113) (o:=.cells #[.slice (some ad114) l0_0.length c0_0,.int .u64 a0_1,.int .u64 a0_2,.int .u64 a0_3] 25 (0,0)) (by (with_reducible repeat (first|apply bN|apply bD|apply bA));exact BK113.out) hb)
     have n1_:=aK (below_step (by repeat (first|(with_reducible first|exact HB.out|apply aA|apply aW|apply aD|refine below_set ?_ GE113.out)|exact HB.out)) hb)
     clear BK113
     clear HB
     have BK113:=n0_
     have HB:=n1_
     clear n0_ n1_
     (try clear hb)
     (try clear hb2)
     (try clear hk)
     (try clear hi)
     refine hK.out _ _ ⟨(aC BK113.out 0).trans rfl,(aC BK113.out 1).trans rfl,(aC BK113.out 2).trans rfl,(aC BK113.out 3).trans rfl,((HB.out.cell (World.block_lt_of_cell? w _ hw114_0)).trans hw114_0),((HB.out.cell (World.block_lt_of_cell? w _ hw114_1)).trans hw114_1),((HB.out.cell (World.block_lt_of_cell? w _ hw114_2)).trans hw114_2),((HB.out.cell (World.block_lt_of_cell? w _ hw114_3)).trans hw114_3)⟩ (fun hHeld => ?_)
     clear hK K
     refine norm_ (a':=?_) ?_ ?_
     rotate_left
     ·show Act.put _ (some 15) _ = _
      simp only [Act.put,sA,sZ,sS,i64_w,i32_w]
      rfl
     refine pure_ (i:=6) (N:=some 16) (v:=?_) (a':=?_) #[tt,tt,tt,tt,tt,tt,tt,ff,ff,ff,ff,ff,ff,ff,ff,ff,ff,ff,ff,ff,ff,ff,ff,ff,ff,ff] rfl rfl (any_of HT_.out (by kernel_rfl)) (fun _ _ _ h => h) (Or.inl ⟨by rfl,?_⟩) ?_ ?_
     rotate_left
     ·intro w'
      go_simp
      with_reducible rfl
     rotate_left
     ·simp only [Act.put,sA,sZ,sS,i64_w,i32_w]
      rfl
     refine pure_ (i:=7) (N:=some 17) (v:=?_) (a':=?_) #[tt,tt,tt,tt,tt,tt,tt,tt,ff,ff,ff,ff,ff,ff,ff,ff,ff,ff,ff,ff,ff,ff,ff,ff,ff,ff] rfl rfl (any_of HT_.out (by kernel_rfl)) (fun _ _ _ h => h) (Or.inl ⟨by rfl,?_⟩) ?_ ?_
     rotate_left
     ·intro w'
      go_simp
      with_reducible rfl
     rotate_left
     ·simp only [Act.put,sA,sZ,sS,i64_w,i32_w]
      rfl
     refine pure_ (i:=8) (N:=some 18) (v:=?_) (a':=?_) #[tt,tt,tt,tt,tt,tt,tt,tt,tt,ff,ff,ff,ff,ff,ff,ff,ff,ff,ff,ff,ff,ff,ff,ff,ff,ff] rfl rfl (any_of HT_.out (by kernel_rfl)) (fun _ _ _ h => h) (Or.inl ⟨by rfl,?_⟩) ?_ ?_
     rotate_left
     ·intro w'
      go_simp
      with_reducible rfl
     rotate_left
     ·simp only [Act.put,sA,sZ,sS,i64_w,i32_w]
      rfl
     refine pure_ (i:=9) (N:=some 19) (v:=?_) (a':=?_) #[tt,tt,tt,tt,tt,tt,tt,tt,tt,tt,ff,ff,ff,ff,ff,ff,ff,ff,ff,ff,ff,ff,ff,ff,ff,ff] rfl rfl (any_of HT_.out (by kernel_rfl)) (fun _ _ _ h => h) (Or.inl ⟨by rfl,?_⟩) ?_ ?_
     rotate_left
     ·intro w'
      go_simp
      with_reducible rfl
     rotate_left
     ·simp only [Act.put,sA,sZ,sS,i64_w,i32_w]
      rfl
     refine pure_ (i:=10) (N:=some 20) (v:=undef) (a':=?_) #[tt,tt,tt,tt,tt,tt,tt,tt,tt,tt,tt,ff,ff,ff,ff,ff,ff,ff,ff,ff,ff,ff,ff,ff,ff,ff] rfl rfl (any_of HT_.out (by kernel_rfl)) (fun _ _ _ h => h) (Or.inr ⟨by rfl,rfl⟩) ?_ ?_
     rotate_left
     ·simp only [Act.put,sA,sZ,sS,i64_w,i32_w]
      rfl
     refine pure_ (i:=11) (N:=some 21) (v:=undef) (a':=?_) #[tt,tt,tt,tt,tt,tt,tt,tt,tt,tt,tt,tt,ff,ff,ff,ff,ff,ff,ff,ff,ff,ff,ff,ff,ff,ff] rfl rfl (any_of HT_.out (by kernel_rfl)) (fun _ _ _ h => h) (Or.inr ⟨by rfl,rfl⟩) ?_ ?_
     rotate_left
     ·simp only [Act.put,sA,sZ,sS,i64_w,i32_w]
      rfl
     refine pure_ (i:=12) (N:=some 22) (v:=undef) (a':=?_) #[tt,tt,tt,tt,tt,tt,tt,tt,tt,tt,tt,tt,tt,ff,ff,ff,ff,ff,ff,ff,ff,ff,ff,ff,ff,ff] rfl rfl (any_of HT_.out (by kernel_rfl)) (fun _ _ _ h => h) (Or.inr ⟨by rfl,rfl⟩) ?_ ?_
     rotate_left
     ·simp only [Act.put,sA,sZ,sS,i64_w,i32_w]
      rfl
     refine pure_ (i:=13) (N:=some 23) (v:=undef) (a':=?_) #[tt,tt,tt,tt,tt,tt,tt,tt,tt,tt,tt,tt,tt,tt,ff,ff,ff,ff,ff,ff,ff,ff,ff,ff,ff,ff] rfl rfl (any_of HT_.out (by kernel_rfl)) (fun _ _ _ h => h) (Or.inr ⟨by rfl,rfl⟩) ?_ ?_
     rotate_left
     ·simp only [Act.put,sA,sZ,sS,i64_w,i32_w]
      rfl
     refine pure_ (i:=14) (N:=some 24) (v:=undef) (a':=?_) #[tt,tt,tt,tt,tt,tt,tt,tt,tt,tt,tt,tt,tt,tt,tt,ff,ff,ff,ff,ff,ff,ff,ff,ff,ff,ff] rfl rfl (any_of HT_.out (by kernel_rfl)) (fun _ _ _ h => h) (Or.inr ⟨by rfl,rfl⟩) ?_ ?_
     rotate_left
     ·simp only [Act.put,sA,sZ,sS,i64_w,i32_w]
      rfl
     refine pure_ (i:=15) (N:=some 25) (v:=undef) (a':=?_) #[tt,tt,tt,tt,tt,tt,tt,tt,tt,tt,tt,tt,tt,tt,tt,tt,ff,ff,ff,ff,ff,ff,ff,ff,ff,ff] rfl rfl (any_of HT_.out (by kernel_rfl)) (fun _ _ _ h => h) (Or.inr ⟨by rfl,rfl⟩) ?_ ?_
     rotate_left
     ·simp only [Act.put,sA,sZ,sS,i64_w,i32_w]
      rfl
     refine pure_ (i:=16) (N:=some 26) (v:=undef) (a':=?_) #[tt,tt,tt,tt,tt,tt,tt,tt,tt,tt,tt,tt,tt,tt,tt,tt,tt,ff,ff,ff,ff,ff,ff,ff,ff,ff] rfl rfl (any_of HT_.out (by kernel_rfl)) (fun _ _ _ h => h) (Or.inr ⟨by rfl,rfl⟩) ?_ ?_
     rotate_left
     ·simp only [Act.put,sA,sZ,sS,i64_w,i32_w]
      rfl
     refine pure_ (i:=17) (N:=some 27) (v:=undef) (a':=?_) #[tt,tt,tt,tt,tt,tt,tt,tt,tt,tt,tt,tt,tt,tt,tt,tt,tt,tt,ff,ff,ff,ff,ff,ff,ff,ff] rfl rfl (any_of HT_.out (by kernel_rfl)) (fun _ _ _ h => h) (Or.inr ⟨by rfl,rfl⟩) ?_ ?_
     rotate_left
     ·simp only [Act.put,sA,sZ,sS,i64_w,i32_w]
      rfl
     refine pure_ (i:=18) (N:=some 28) (v:=undef) (a':=?_) #[tt,tt,tt,tt,tt,tt,tt,tt,tt,tt,tt,tt,tt,tt,tt,tt,tt,tt,tt,ff,ff,ff,ff,ff,ff,ff] rfl rfl (any_of HT_.out (by kernel_rfl)) (fun _ _ _ h => h) (Or.inr ⟨by rfl,rfl⟩) ?_ ?_
     rotate_left
     ·simp only [Act.put,sA,sZ,sS,i64_w,i32_w]
      rfl
     refine pure_ (i:=19) (N:=some 29) (v:=undef) (a':=?_) #[tt,tt,tt,tt,tt,tt,tt,tt,tt,tt,tt,tt,tt,tt,tt,tt,tt,tt,tt,tt,ff,ff,ff,ff,ff,ff] rfl rfl (any_of HT_.out (by kernel_rfl)) (fun _ _ _ h => h) (Or.inr ⟨by rfl,rfl⟩) ?_ ?_
     rotate_left
     ·simp only [Act.put,sA,sZ,sS,i64_w,i32_w]
      rfl
     refine pure_ (i:=20) (N:=some 30) (v:=undef) (a':=?_) #[tt,tt,tt,tt,tt,tt,tt,tt,tt,tt,tt,tt,tt,tt,tt,tt,tt,tt,tt,tt,tt,ff,ff,ff,ff,ff] rfl rfl (any_of HT_.out (by kernel_rfl)) (fun _ _ _ h => h) (Or.inr ⟨by rfl,rfl⟩) ?_ ?_
     rotate_left
     ·simp only [Act.put,sA,sZ,sS,i64_w,i32_w]
      rfl
     refine pure_ (i:=21) (N:=some 31) (v:=undef) (a':=?_) #[tt,tt,tt,tt,tt,tt,tt,tt,tt,tt,tt,tt,tt,tt,tt,tt,tt,tt,tt,tt,tt,tt,ff,ff,ff,ff] rfl rfl (any_of HT_.out (by kernel_rfl)) (fun _ _ _ h => h) (Or.inr ⟨by rfl,rfl⟩) ?_ ?_
     rotate_left
     ·simp only [Act.put,sA,sZ,sS,i64_w,i32_w]
      rfl
     refine pure_ (i:=22) (N:=some 32) (v:=undef) (a':=?_) #[tt,tt,tt,tt,tt,tt,tt,tt,tt,tt,tt,tt,tt,tt,tt,tt,tt,tt,tt,tt,tt,tt,tt,ff,ff,ff] rfl rfl (any_of HT_.out (by kernel_rfl)) (fun _ _ _ h => h) (Or.inr ⟨by rfl,rfl⟩) ?_ ?_
     rotate_left
     ·simp only [Act.put,sA,sZ,sS,i64_w,i32_w]
      rfl
     refine pure_ (i:=23) (N:=some 33) (v:=undef) (a':=?_) #[tt,tt,tt,tt,tt,tt,tt,tt,tt,tt,tt,tt,tt,tt,tt,tt,tt,tt,tt,tt,tt,tt,tt,tt,ff,ff] rfl rfl (any_of HT_.out (by kernel_rfl)) (fun _ _ _ h => h) (Or.inr ⟨by rfl,rfl⟩) ?_ ?_
     rotate_left
     ·simp only [Act.put,sA,sZ,sS,i64_w,i32_w]
      rfl
     refine pure_ (i:=24) (N:=some 34) (v:=?_) (a':=?_) #[tt,tt,tt,tt,tt,tt,tt,tt,tt,tt,tt,tt,tt,tt,tt,tt,tt,tt,tt,tt,tt,tt,tt,tt,tt,ff] rfl rfl (any_of HT_.out (by kernel_rfl)) (fun _ _ _ h => h) (Or.inl ⟨by rfl,?_⟩) ?_ ?_
     rotate_left
     ·intro w'
      go_simp
      with_reducible rfl
     rotate_left
     ·simp only [Act.put,sA,sZ,sS,i64_w,i32_w]
      rfl
     refine pure_ (i:=25) (N:=some 35) (v:=?_) (a':=?_) #[tt,tt,tt,tt,tt,tt,tt,tt,tt,tt,tt,tt,tt,tt,tt,tt,tt,tt,tt,tt,tt,tt,tt,tt,tt,tt] rfl rfl (any_of HT_.out (by kernel_rfl)) (fun _ _ _ h => h) (Or.inl ⟨by rfl,?_⟩) ?_ ?_
     rotate_left
     ·intro w'
      go_simp
      with_reducible rfl
     rotate_left
     ·simp only [Act.put,sA,sZ,sS,i64_w,i32_w]
      rfl
     refine done_ (done_of HT_.out (by kernel_rfl)) ?_
     try go_wp2
     go_roundg k1
     case measure => have:=HK1.out;omega
     case rel => exact ⟨(wrap64 (x7_1 + 1)),(by first|rfl|(simp;done)|(simp [*];done)),H',⟨by have:=HK1.out;omega⟩,⟨by (with_reducible repeat (first|apply bN|apply bD|apply bA));exact BK113.out⟩,⟨by repeat (first|(with_reducible first|exact HB.out|apply aA|apply aW|apply aD|refine below_set ?_ GE113.out)|exact HB.out)⟩⟩
end Go.Proofs.Ytcagajobpnpicaa.P

end

section
namespace Go.Proofs.Ytcagajobpnpicaa.P
open Go.RowKit Go.Proofs.YtcagajobpnpicaaG Go.Proofs.YtcagajobpnpicaaW.PrintWords Go.Proofs.YtcagajobpnpicaaW.PrintLast Go.Proofs.YtcagajobpnpicaaW.PrintMore
attribute [local go_sem] str_gtr str_geq str_leq max2_int min2_int max_two min_two max_three min_three max_four min_four   -- for this text's walks alone
set_option linter.unusedVariables false
set_option linter.unusedSimpArgs false

def ratlineref09_note.f (a0_0 : Int) (a0_1 : Int) (a0_2 : BA) (a0_3 : BA) : Option (Bool):=if a0_0 > 0 then (if a0_1 > 0 then (if (a0_2.size : Int) ≥ 1 then (if (a0_2.size : Int) ≤ 64 then (if (a0_3.size : Int) ≥ 1 then (if (a0_3.size : Int) ≤ 64 then (some (!(Op.bytesLess a0_3.toList a0_2.toList))) else (some false)) else (some false)) else (some false)) else (some false)) else (some false)) else (some false)
set_option maxHeartbeats 8000000 in
set_option maxRecDepth 100000 in
theorem ratlineref09_note.calls (a0_0 : Int) (a0_1 : Int) (a0_2 : BA) (a0_3 : BA) (r : Bool) (w : World) (h : ratlineref09_note.f a0_0 a0_1 a0_2 a0_3 = some r) :
  Calls Try.prog 42 #[.agg #[.int .u64 a0_0,.int .u64 a0_1,.string a0_2,.string a0_3]] w fun e w' => e = .returned (.bool r) ∧ Below w.heap.size w w':=by
 have hu58:=Try.underlying58
 have HB:=Aside0.mk (Below.refl w.heap.size w)
 have H : (if a0_0 > 0 then (if a0_1 > 0 then (if (a0_2.size : Int) ≥ 1 then (if (a0_2.size : Int) ≤ 64 then (if (a0_3.size : Int) ≥ 1 then (if (a0_3.size : Int) ≤ 64 then (some (!(Op.bytesLess a0_3.toList a0_2.toList))) else (some false)) else (some false)) else (some false)) else (some false)) else (some false)) else (some false)) = some r:=h
 clear h
 by_cases c2 : a0_0 > 0
 rotate_left
 ·rw [if_neg c2] at H
  have c2b0 : decide (0 < a0_0) = false:=decide_eq_false c2
  clear c2
  obtain rfl:=Option.some.inj H
  go_enter Try.func42,Try.ntmps42
  go_wp2_with (first|((with_reducible refine gate_dst (N:=1) rfl ?_);(try (refine gate_guard (by rfl) ?_;dsimp only));refine box_event ?hg (N:=1) ?hd (cs:=#[.int .u64 a0_0,.int .u64 a0_1,.string a0_2,.string a0_3]) (t:=58) ?hr ?_;(case hd => rfl);(case hg => rfl);(case hr => first|(go_simp;done)|(go_simp;rfl));intro gb124 hg w20 hbox hb;have n0_:=Aside0.mk (below_step (by repeat (first|(with_reducible first|exact HB.out|apply below_alloc|apply pw_below_drewN|apply below_drew1)|exact HB.out)) hb);have n1_:=Aside0.mk (hbox);have n2_:=Aside0.mk ((by rw [hg];exact (below_size (by repeat (first|(with_reducible first|exact HB.out|apply below_alloc|apply pw_below_drewN|apply below_drew1)|exact HB.out))) : w.heap.size ≤ gb124));have n3_:=Aside0.mk ((by rw [hg];exact (below_size (by repeat (first|(with_reducible first|exact HB.out|apply below_alloc|apply pw_below_drewN|apply below_drew1)|exact HB.out))) : w.heap.size ≤ gb124));clear HB;have HB:=n0_;have BK124:=n1_;have GW124:=n2_;have GE124:=n3_;clear n0_ n1_ n2_ n3_;clear hb hbox hg;have hcz21_0 : w20.cell? ⟨gb124,0,none⟩ = some (.int .u64 a0_0):=(blk_cell BK124.out 0).trans rfl;have hcz21_1 : w20.cell? ⟨gb124,1,none⟩ = some (.int .u64 a0_1):=(blk_cell BK124.out 1).trans rfl;have hcz21_2 : w20.cell? ⟨gb124,2,none⟩ = some (.string a0_2):=(blk_cell BK124.out 2).trans rfl;have hcz21_3 : w20.cell? ⟨gb124,3,none⟩ = some (.string a0_3):=(blk_cell BK124.out 3).trans rfl;have hfz21_0:=blk_frozen BK124.out 0;have hfz21_1:=blk_frozen BK124.out 1;have hfz21_2:=blk_frozen BK124.out 2;have hfz21_3:=blk_frozen BK124.out 3))
  go_ret
  exact ⟨by first|rfl|(simp [errW_none,errW_some] <;> rfl)|(simp [*,errW_none,errW_some] <;> rfl),by repeat (first|(with_reducible first|exact HB.out|apply below_alloc|apply pw_below_drewN|apply below_drew1|refine below_set ?_ GE124.out)|exact HB.out)⟩

 rw [if_pos c2] at H
 have c2b0 : decide (0 < a0_0) = true:=decide_eq_true c2
 clear c2
 by_cases c3 : a0_1 > 0
 rotate_left
 ·rw [if_neg c3] at H
  have c3b0 : decide (0 < a0_1) = false:=decide_eq_false c3
  clear c3
  obtain rfl:=Option.some.inj H
  go_enter Try.func42,Try.ntmps42
  go_wp2_with (first|((with_reducible refine gate_dst (N:=1) rfl ?_);(try (refine gate_guard (by rfl) ?_;dsimp only));refine box_event ?hg (N:=1) ?hd (cs:=#[.int .u64 a0_0,.int .u64 a0_1,.string a0_2,.string a0_3]) (t:=58) ?hr ?_;(case hd => rfl);(case hg => rfl);(case hr => first|(go_simp;done)|(go_simp;rfl));intro gb124 hg w18 hbox hb;have n0_:=Aside0.mk (below_step (by repeat (first|(with_reducible first|exact HB.out|apply below_alloc|apply pw_below_drewN|apply below_drew1)|exact HB.out)) hb);have n1_:=Aside0.mk (hbox);have n2_:=Aside0.mk ((by rw [hg];exact (below_size (by repeat (first|(with_reducible first|exact HB.out|apply below_alloc|apply pw_below_drewN|apply below_drew1)|exact HB.out))) : w.heap.size ≤ gb124));have n3_:=Aside0.mk ((by rw [hg];exact (below_size (by repeat (first|(with_reducible first|exact HB.out|apply below_alloc|apply pw_below_drewN|apply below_drew1)|exact HB.out))) : w.heap.size ≤ gb124));clear HB;have HB:=n0_;have BK124:=n1_;have GW124:=n2_;have GE124:=n3_;clear n0_ n1_ n2_ n3_;clear hb hbox hg;have hcz19_0 : w18.cell? ⟨gb124,0,none⟩ = some (.int .u64 a0_0):=(blk_cell BK124.out 0).trans rfl;have hcz19_1 : w18.cell? ⟨gb124,1,none⟩ = some (.int .u64 a0_1):=(blk_cell BK124.out 1).trans rfl;have hcz19_2 : w18.cell? ⟨gb124,2,none⟩ = some (.string a0_2):=(blk_cell BK124.out 2).trans rfl;have hcz19_3 : w18.cell? ⟨gb124,3,none⟩ = some (.string a0_3):=(blk_cell BK124.out 3).trans rfl;have hfz19_0:=blk_frozen BK124.out 0;have hfz19_1:=blk_frozen BK124.out 1;have hfz19_2:=blk_frozen BK124.out 2;have hfz19_3:=blk_frozen BK124.out 3))
  go_ret
  exact ⟨by first|rfl|(simp [errW_none,errW_some] <;> rfl)|(simp [*,errW_none,errW_some] <;> rfl),by repeat (first|(with_reducible first|exact HB.out|apply below_alloc|apply pw_below_drewN|apply below_drew1|refine below_set ?_ GE124.out)|exact HB.out)⟩
 rw [if_pos c3] at H
 have c3b0 : decide (0 < a0_1) = true:=decide_eq_true c3
 clear c3
 by_cases c4 : (a0_2.size : Int) ≥ 1
 ·rw [if_pos c4] at H
  have c4b0 : decide (1 ≤ (a0_2.size : Int)) = true:=decide_eq_true c4
  have c4b1 : decide (1 ≤ a0_2.size) = true:=decide_eq_true (by omega)
  clear c4
  by_cases c5 : (a0_2.size : Int) ≤ 64
  ·rw [if_pos c5] at H
   have c5b0 : decide ((a0_2.size : Int) ≤ 64) = true:=decide_eq_true c5
   have c5b1 : decide (a0_2.size ≤ 64) = true:=decide_eq_true (by omega)
   clear c5
   by_cases c6 : (a0_3.size : Int) ≥ 1
   ·rw [if_pos c6] at H
    have c6b0 : decide (1 ≤ (a0_3.size : Int)) = true:=decide_eq_true c6
    have c6b1 : decide (1 ≤ a0_3.size) = true:=decide_eq_true (by omega)
    clear c6
    by_cases c7 : (a0_3.size : Int) ≤ 64
    ·rw [if_pos c7] at H
     have c7b0 : decide ((a0_3.size : Int) ≤ 64) = true:=decide_eq_true c7
     have c7b1 : decide (a0_3.size ≤ 64) = true:=decide_eq_true (by omega)
     clear c7
     obtain rfl:=Option.some.inj H
     go_enter Try.func42,Try.ntmps42
     go_wp2_with (first|((with_reducible refine gate_dst (N:=1) rfl ?_);(try (refine gate_guard (by rfl) ?_;dsimp only));refine box_event ?hg (N:=1) ?hd (cs:=#[.int .u64 a0_0,.int .u64 a0_1,.string a0_2,.string a0_3]) (t:=58) ?hr ?_;(case hd => rfl);(case hg => rfl);(case hr => first|(go_simp;done)|(go_simp;rfl));intro gb124 hg w8 hbox hb;have n0_:=Aside0.mk (below_step (by repeat (first|(with_reducible first|exact HB.out|apply below_alloc|apply pw_below_drewN|apply below_drew1)|exact HB.out)) hb);have n1_:=Aside0.mk (hbox);have n2_:=Aside0.mk ((by rw [hg];exact (below_size (by repeat (first|(with_reducible first|exact HB.out|apply below_alloc|apply pw_below_drewN|apply below_drew1)|exact HB.out))) : w.heap.size ≤ gb124));have n3_:=Aside0.mk ((by rw [hg];exact (below_size (by repeat (first|(with_reducible first|exact HB.out|apply below_alloc|apply pw_below_drewN|apply below_drew1)|exact HB.out))) : w.heap.size ≤ gb124));clear HB;have HB:=n0_;have BK124:=n1_;have GW124:=n2_;have GE124:=n3_;clear n0_ n1_ n2_ n3_;clear hb hbox hg;have hcz9_0 : w8.cell? ⟨gb124,0,none⟩ = some (.int .u64 a0_0):=(blk_cell BK124.out 0).trans rfl;have hcz9_1 : w8.cell? ⟨gb124,1,none⟩ = some (.int .u64 a0_1):=(blk_cell BK124.out 1).trans rfl;have hcz9_2 : w8.cell? ⟨gb124,2,none⟩ = some (.string a0_2):=(blk_cell BK124.out 2).trans rfl;have hcz9_3 : w8.cell? ⟨gb124,3,none⟩ = some (.string a0_3):=(blk_cell BK124.out 3).trans rfl;have hfz9_0:=blk_frozen BK124.out 0;have hfz9_1:=blk_frozen BK124.out 1;have hfz9_2:=blk_frozen BK124.out 2;have hfz9_3:=blk_frozen BK124.out 3))
     go_ret
     exact ⟨by first|rfl|(simp [errW_none,errW_some] <;> rfl)|(simp [*,errW_none,errW_some] <;> rfl),by repeat (first|(with_reducible first|exact HB.out|apply below_alloc|apply pw_below_drewN|apply below_drew1|refine below_set ?_ GE124.out)|exact HB.out)⟩
    ·rw [if_neg c7] at H
     have c7b0 : decide ((a0_3.size : Int) ≤ 64) = false:=decide_eq_false c7
     have c7b1 : decide (a0_3.size ≤ 64) = false:=decide_eq_false (by omega)
     clear c7
     obtain rfl:=Option.some.inj H
     go_enter Try.func42,Try.ntmps42
     go_wp2_with (first|((with_reducible refine gate_dst (N:=1) rfl ?_);(try (refine gate_guard (by rfl) ?_;dsimp only));refine box_event ?hg (N:=1) ?hd (cs:=#[.int .u64 a0_0,.int .u64 a0_1,.string a0_2,.string a0_3]) (t:=58) ?hr ?_;(case hd => rfl);(case hg => rfl);(case hr => first|(go_simp;done)|(go_simp;rfl));intro gb124 hg w10 hbox hb;have n0_:=Aside0.mk (below_step (by repeat (first|(with_reducible first|exact HB.out|apply below_alloc|apply pw_below_drewN|apply below_drew1)|exact HB.out)) hb);have n1_:=Aside0.mk (hbox);have n2_:=Aside0.mk ((by rw [hg];exact (below_size (by repeat (first|(with_reducible first|exact HB.out|apply below_alloc|apply pw_below_drewN|apply below_drew1)|exact HB.out))) : w.heap.size ≤ gb124));have n3_:=Aside0.mk ((by rw [hg];exact (below_size (by repeat (first|(with_reducible first|exact HB.out|apply below_alloc|apply pw_below_drewN|apply below_drew1)|exact HB.out))) : w.heap.size ≤ gb124));clear HB;have HB:=n0_;have BK124:=n1_;have GW124:=n2_;have GE124:=n3_;clear n0_ n1_ n2_ n3_;clear hb hbox hg;have hcz11_0 : w10.cell? ⟨gb124,0,none⟩ = some (.int .u64 a0_0):=(blk_cell BK124.out 0).trans rfl;have hcz11_1 : w10.cell? ⟨gb124,1,none⟩ = some (.int .u64 a0_1):=(blk_cell BK124.out 1).trans rfl;have hcz11_2 : w10.cell? ⟨gb124,2,none⟩ = some (.string a0_2):=(blk_cell BK124.out 2).trans rfl;have hcz11_3 : w10.cell? ⟨gb124,3,none⟩ = some (.string a0_3):=(blk_cell BK124.out 3).trans rfl;have hfz11_0:=blk_frozen BK124.out 0;have hfz11_1:=blk_frozen BK124.out 1;have hfz11_2:=blk_frozen BK124.out 2;have hfz11_3:=blk_frozen BK124.out 3))
     go_ret
     exact ⟨by first|rfl|(simp [errW_none,errW_some] <;> rfl)|(simp [*,errW_none,errW_some] <;> rfl),by repeat (first|(with_reducible first|exact HB.out|apply below_alloc|apply pw_below_drewN|apply below_drew1|refine below_set ?_ GE124.out)|exact HB.out)⟩
   ·rw [if_neg c6] at H
    have c6b0 : decide (1 ≤ (a0_3.size : Int)) = false:=decide_eq_false c6
    have c6b1 : decide (1 ≤ a0_3.size) = false:=decide_eq_false (by omega)
    clear c6
    obtain rfl:=Option.some.inj H
    go_enter Try.func42,Try.ntmps42
    go_wp2_with (first|((with_reducible refine gate_dst (N:=1) rfl ?_);(try (refine gate_guard (by rfl) ?_;dsimp only));refine box_event ?hg (N:=1) ?hd (cs:=#[.int .u64 a0_0,.int .u64 a0_1,.string a0_2,.string a0_3]) (t:=58) ?hr ?_;(case hd => rfl);(case hg => rfl);(case hr => first|(go_simp;done)|(go_simp;rfl));intro gb124 hg w12 hbox hb;have n0_:=Aside0.mk (below_step (by repeat (first|(with_reducible first|exact HB.out|apply below_alloc|apply pw_below_drewN|apply below_drew1)|exact HB.out)) hb);have n1_:=Aside0.mk (hbox);have n2_:=Aside0.mk ((by rw [hg];exact (below_size (by repeat (first|(with_reducible first|exact HB.out|apply below_alloc|apply pw_below_drewN|apply below_drew1)|exact HB.out))) : w.heap.size ≤ gb124));have n3_:=Aside0.mk ((by rw [hg];exact (below_size (by repeat (first|(with_reducible first|exact HB.out|apply below_alloc|apply pw_below_drewN|apply below_drew1)|exact HB.out))) : w.heap.size ≤ gb124));clear HB;have HB:=n0_;have BK124:=n1_;have GW124:=n2_;have GE124:=n3_;clear n0_ n1_ n2_ n3_;clear hb hbox hg;have hcz13_0 : w12.cell? ⟨gb124,0,none⟩ = some (.int .u64 a0_0):=(blk_cell BK124.out 0).trans rfl;have hcz13_1 : w12.cell? ⟨gb124,1,none⟩ = some (.int .u64 a0_1):=(blk_cell BK124.out 1).trans rfl;have hcz13_2 : w12.cell? ⟨gb124,2,none⟩ = some (.string a0_2):=(blk_cell BK124.out 2).trans rfl;have hcz13_3 : w12.cell? ⟨gb124,3,none⟩ = some (.string a0_3):=(blk_cell BK124.out 3).trans rfl;have hfz13_0:=blk_frozen BK124.out 0;have hfz13_1:=blk_frozen BK124.out 1;have hfz13_2:=blk_frozen BK124.out 2;have hfz13_3:=blk_frozen BK124.out 3))
    go_ret
    exact ⟨by first|rfl|(simp [errW_none,errW_some] <;> rfl)|(simp [*,errW_none,errW_some] <;> rfl),by repeat (first|(with_reducible first|exact HB.out|apply below_alloc|apply pw_below_drewN|apply below_drew1|refine below_set ?_ GE124.out)|exact HB.out)⟩
  ·rw [if_neg c5] at H
   have c5b0 : decide ((a0_2.size : Int) ≤ 64) = false:=decide_eq_false c5
   have c5b1 : decide (a0_2.size ≤ 64) = false:=decide_eq_false (by omega)
   clear c5
   obtain rfl:=Option.some.inj H
   go_enter Try.func42,Try.ntmps42
   go_wp2_with (first|((with_reducible refine gate_dst (N:=1) rfl ?_);(try (refine gate_guard (by rfl) ?_;dsimp only));refine box_event ?hg (N:=1) ?hd (cs:=#[.int .u64 a0_0,.int .u64 a0_1,.string a0_2,.string a0_3]) (t:=58) ?hr ?_;(case hd => rfl);(case hg => rfl);(case hr => first|(go_simp;done)|(go_simp;rfl));intro gb124 hg w14 hbox hb;have n0_:=Aside0.mk (below_step (by repeat (first|(with_reducible first|exact HB.out|apply below_alloc|apply pw_below_drewN|apply below_drew1)|exact HB.out)) hb);have n1_:=Aside0.mk (hbox);have n2_:=Aside0.mk ((by rw [hg];exact (below_size (by repeat (first|(with_reducible first|exact HB.out|apply below_alloc|apply pw_below_drewN|apply below_drew1)|exact HB.out))) : w.heap.size ≤ gb124));have n3_:=Aside0.mk ((by rw [hg];exact (below_size (by repeat (first|(with_reducible first|exact HB.out|apply below_alloc|apply pw_below_drewN|apply below_drew1)|exact HB.out))) : w.heap.size ≤ gb124));clear HB;have HB:=n0_;have BK124:=n1_;have GW124:=n2_;have GE124:=n3_;clear n0_ n1_ n2_ n3_;clear hb hbox hg;have hcz15_0 : w14.cell? ⟨gb124,0,none⟩ = some (.int .u64 a0_0):=(blk_cell BK124.out 0).trans rfl;have hcz15_1 : w14.cell? ⟨gb124,1,none⟩ = some (.int .u64 a0_1):=(blk_cell BK124.out 1).trans rfl;have hcz15_2 : w14.cell? ⟨gb124,2,none⟩ = some (.string a0_2):=(blk_cell BK124.out 2).trans rfl;have hcz15_3 : w14.cell? ⟨gb124,3,none⟩ = some (.string a0_3):=(blk_cell BK124.out 3).trans rfl;have hfz15_0:=blk_frozen BK124.out 0;have hfz15_1:=blk_frozen BK124.out 1;have hfz15_2:=blk_frozen BK124.out 2;have hfz15_3:=blk_frozen BK124.out 3))
   go_ret
   exact ⟨by first|rfl|(simp [errW_none,errW_some] <;> rfl)|(simp [*,errW_none,errW_some] <;> rfl),by repeat (first|(with_reducible first|exact HB.out|apply below_alloc|apply pw_below_drewN|apply below_drew1|refine below_set ?_ GE124.out)|exact HB.out)⟩
 ·rw [if_neg c4] at H
  have c4b0 : decide (1 ≤ (a0_2.size : Int)) = false:=decide_eq_false c4
  have c4b1 : decide (1 ≤ a0_2.size) = false:=decide_eq_false (by omega)
  clear c4
  obtain rfl:=Option.some.inj H
  go_enter Try.func42,Try.ntmps42
  go_wp2_with (first|((with_reducible refine gate_dst (N:=1) rfl ?_);(try (refine gate_guard (by rfl) ?_;dsimp only));refine box_event ?hg (N:=1) ?hd (cs:=#[.int .u64 a0_0,.int .u64 a0_1,.string a0_2,.string a0_3]) (t:=58) ?hr ?_;(case hd => rfl);(case hg => rfl);(case hr => first|(go_simp;done)|(go_simp;rfl));intro gb124 hg w16 hbox hb;have n0_:=Aside0.mk (below_step (by repeat (first|(with_reducible first|exact HB.out|apply below_alloc|apply pw_below_drewN|apply below_drew1)|exact HB.out)) hb);have n1_:=Aside0.mk (hbox);have n2_:=Aside0.mk ((by rw [hg];exact (below_size (by repeat (first|(with_reducible first|exact HB.out|apply below_alloc|apply pw_below_drewN|apply below_drew1)|exact HB.out))) : w.heap.size ≤ gb124));have n3_:=Aside0.mk ((by rw [hg];exact (below_size (by repeat (first|(with_reducible first|exact HB.out|apply below_alloc|apply pw_below_drewN|apply below_drew1)|exact HB.out))) : w.heap.size ≤ gb124));clear HB;have HB:=n0_;have BK124:=n1_;have GW124:=n2_;have GE124:=n3_;clear n0_ n1_ n2_ n3_;clear hb hbox hg;have hcz17_0 : w16.cell? ⟨gb124,0,none⟩ = some (.int .u64 a0_0):=(blk_cell BK124.out 0).trans rfl;have hcz17_1 : w16.cell? ⟨gb124,1,none⟩ = some (.int .u64 a0_1):=(blk_cell BK124.out 1).trans rfl;have hcz17_2 : w16.cell? ⟨gb124,2,none⟩ = some (.string a0_2):=(blk_cell BK124.out 2).trans rfl;have hcz17_3 : w16.cell? ⟨gb124,3,none⟩ = some (.string a0_3):=(blk_cell BK124.out 3).trans rfl;have hfz17_0:=blk_frozen BK124.out 0;have hfz17_1:=blk_frozen BK124.out 1;have hfz17_2:=blk_frozen BK124.out 2;have hfz17_3:=blk_frozen BK124.out 3))
  go_ret
  exact ⟨by first|rfl|(simp [errW_none,errW_some] <;> rfl)|(simp [*,errW_none,errW_some] <;> rfl),by repeat (first|(with_reducible first|exact HB.out|apply below_alloc|apply pw_below_drewN|apply below_drew1|refine below_set ?_ GE124.out)|exact HB.out)⟩
end Go.Proofs.Ytcagajobpnpicaa.P

end
