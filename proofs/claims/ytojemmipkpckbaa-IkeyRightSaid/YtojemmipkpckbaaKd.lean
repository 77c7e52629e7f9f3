/- Owned rows beside the law for a range over a function: they fit; an append within a round. Conditions: those of each theorem. Written for this claim. -/
import Derived.Test.YtojemmipkpckbaaRng
import Derived.Test.YtojemmipkpckbaaWWords
import Derived.Test.YtojemmipkpckbaaWLast
import Derived.Test.YtojemmipkpckbaaWMore
import Derived.OwnWalkIn
import Derived.Maps.AppendAt
set_option linter.unusedVariables false
namespace Go.Proofs.YtojemmipkpckbaaR
open Go Go.RowKit Go.Proofs.YtojemmipkpckbaaW.PrintWords

theorem fits_R {β α : Type} (d : Kd α) (e base : Nat) (q : Nat → Prop) (v : β → Value) (f : β → List α) : Fits (fun C s W => d.R e W base (fun k => ¬ C k ∧ q k) (v s) (f s)) :=
  fun C C' s W W' h hs hc => Kd.R_mono (Kd.R_move (Kd.R_bound h) (fun k hk => hs.block k hk.2.2.1 hk.1.1)) (fun k hk => ⟨fun h' => (hc k h').elim hk.1.1 (fun h2 => by have := hk.2.2.1; omega), hk.1.2⟩)
theorem R_putObj {α : Type} {d : Kd α} {e base D : Nat} {W : World} {ok : Nat → Prop} {v : Value} {xs : List α} (h : d.R e W base ok v xs) (hD : ¬ ok D) (o : Obj) : d.R e (W.putObj D o) base (fun _ => True) v xs :=
  Kd.R_mono (Kd.R_move h (fun k hk => World.putObj_heap_other (fun e => hD (by rw [← e]; exact hk)))) (fun _ _ => trivial)
theorem R_setCell {α : Type} {d : Kd α} {e base : Nat} {p : Addr} {W : World} {ok : Nat → Prop} {v : Value} {xs : List α} (h : d.R e W base ok v xs) (hp : ¬ ok p.block) (u : Value) : d.R e (W.setCell p u) base ok v xs :=
  Kd.R_move h (fun k hk => Below.heap_setCell W p u k (fun e => hp (by rw [← e]; exact hk)))

theorem ret_int {k : IntKind} {a b : Int} (h : a = b) : Ending.returned (.int k a) = .returned (.int k b) := by rw [h]
theorem box_cell {b : Nat} {w : World} {t : TypeId} {v : Value} (h : w.heap[b]? = some (.cells #[v] t)) : w.cell? ⟨b, 0, none⟩ = some v := by simp [World.cell?, h]
theorem box_frozen {b : Nat} {w : World} {t : TypeId} {v : Value} (h : w.heap[b]? = some (.cells #[v] t)) : w.frozen? ⟨b, 0, none⟩ = false := by simp [World.frozen?, h]
theorem box_set {b : Nat} {w : World} {t : TypeId} {v : Value} (h : w.heap[b]? = some (.cells #[v] t)) (u : Value) : (w.setCell ⟨b, 0, none⟩ u).heap[b]? = some (.cells #[u] t) := blk_set h 0 u
theorem box_new (W : World) (v : Value) (t : TypeId) : (W.alloc (.cells #[v] t)).heap[W.heap.size]? = some (.cells #[v] t) := World.alloc_heap_new W _
def boxN (b : Nat) (w : World) : Nat := match w.cell? ⟨b, 0, none⟩ with | some (.int _ y) => y.toNat | _ => 0
theorem boxN_eq {b : Nat} {w : World} {k : IntKind} {y : Int} (h : w.cell? ⟨b, 0, none⟩ = some (.int k y)) : boxN b w = y.toNat := by simp [boxN, h]

section
variable {F : Fence} {n : Nat} {P : Program} {ops : Array Oper} {rest : List Oper} {o : Oper} {a : Act} {Q : Exit → Act → World → Prop} {α : Type}
/-- append(v, x) within a fence, behind 'gi_at_builtin'; the goal's world is 'W.alloc' of the variadic's box. -/
theorem appendIn (d : Kd α) {W : World} (base : Nat) (hgd : o.guard = none) (s x : Operand) (t e : TypeId) (z : Value) (bytes : Nat)
    (ho : o.op = .call { callee := .builtin .append, args := #[s, x], argTypes := #[t, t] })
    (ht : P.underlying t = some (.slice e)) (hinfo : (P.info? e).map (fun i => (i.zero, i.size, i.bytes)) = some (some z, d.sz, bytes)) (hz : z.cells.size = d.sz) (hs0 : 0 < d.sz) (hb0 : 0 < bytes)
    (v : Value) (xs : List α) (p : α) (cs : List Value) (ok okp : Nat → Prop) (hs : a.eval s = v) (hx : a.eval x = .slice (some ⟨W.heap.size, 0, none⟩) 1 1) (hp : d.M W base okp p cs) (hokp : ∀ k, okp k → ok k ∧ some k ≠ v.ownBlock) (hfresh : ∀ k, W.heap.size ≤ k → ok k)
    (HO : d.R e W base ok v xs) (hbase : base ≤ W.heap.size) (hl : (xs.length + 1) * bytes ≤ 140737488355328)
    (h : ∀ v1 w1, d.R e w1 base ok v1 (xs ++ [p]) → W.grownBy w1 v.ownBlock → (∃ g c, v1 = .slice (some ⟨g, 0, none⟩) (xs.length + 1) c) → wpListIn F n P ops Q rest (a.put o.dst v1) w1) :
    wpListIn F n P ops Q (o :: rest) a (W.alloc (.cells cs.toArray e)) := by
  obtain ⟨h0, inner, hown, hr⟩ := HO
  obtain ⟨i0, hi, hzz⟩ := Option.map_eq_some_iff.1 hinfo
  simp only [Prod.mk.injEq] at hzz
  obtain ⟨hz0, hz1, hz2⟩ := hzz
  have hys : cs.length = d.sz := d.K_len (d.K_of_M hp)
  have h1 := d.K_one (d.K_of_M hp)
  have hlen : xs.length + 1 ≤ 140737488355328 := Nat.le_trans (Nat.le_mul_of_pos_right _ hb0) hl
  refine wpListIn_plain hgd fun K hK' => ?_
  obtain ⟨v1, w1, hrun, hown1, hg1, _, hat⟩ := run_append_own_at (P := P) (W.alloc (.cells cs.toArray e)) base t o.type e i0 z d.sz bytes ht hi hz0 hz1 hz2 hz hs0 v xs.length inner (hown.alloc _) ⟨W.heap.size, 0, none⟩ 1 1 cs (by rw [hys]; simp)
    (by simpa using World.news_of_block (cs := cs.toArray) (t := e) (fr := (0, 0)) (heap_alloc_new W (.cells cs.toArray e))) h1 (by simp only [maxLen]; omega) hl (by simp; omega)
  have hg : W.grownBy w1 v.ownBlock := World.grownBy.trans (World.grownBy_alloc W _ _) hg1
  have hat' : v1.ownBlock = v.ownBlock ∨ ∃ b, v1.ownBlock = some b ∧ W.heap.size ≤ b := by
    rcases hat with hat | hat
    · exact .inl hat
    · exact .inr ⟨_, hat, by simp⟩
  have hR := Kd.R_appended h0 hr hp hokp hfresh hown1 hg hat'
  have hform : ∃ g c, v1 = .slice (some ⟨g, 0, none⟩) (xs.length + 1) c := by
    obtain ⟨g, cap, he, _⟩ := Kd.R_form hR (by simp)
    exact ⟨g, cap, by simpa using he⟩
  unfold Oper.wpIn
  refine ⟨?_, ?_⟩
  · simp [Oper.about, ho, resolve, Target.leads, Sem.run_pure]
  · rw [Oper.semAt_plain F _ _ (by rw [ho]; intro c hc'; cases hc')]
    simp [execOp, ho, resolve, invoke, builtin, hs, hx, hrun, Result.andThen]
    exact hK' _ _ (h v1 w1 hR hg hform)
end
end Go.Proofs.YtojemmipkpckbaaR
namespace Go.Proofs.YtojemmipkpckbaaG
open Go Go.RowKit Go.Proofs.YtojemmipkpckbaaW.PrintWords
theorem gate_list {P : Program} {ops : Array Oper} {l : List Oper} {a : Act} {Q : Exit → Act → World → Prop} {W : World} (h : wpList P ops Q l a W) : wpList P ops Q l a W := h
/-- What a conversion of bytes to a string wants of the world stays where nothing that was there is written. -/
theorem conv_stays {P : Program} {w : World} {src dst e : TypeId} {A : Option Addr} {n c : Nat} {xs : List Int} (hs : P.underlying src = some (.slice e)) (he : P.underlying e = some (.int .u8)) (hd : P.underlying dst = some .string)
    (h : (Kd.int .u8).C w A n xs) : ∃ S : World → Prop, S w ∧ (∀ w1 w2, S w1 → Below w1.heap.size w1 w2 → S w2) ∧ ∀ w', S w' → (convert src dst (.slice A n c)).run P w' = .ok (.string (strOfNums xs)) w' :=
  ⟨fun w' => (Kd.int .u8).C w' A n xs, h, fun _ _ h hb => Kd.C_below h hb, fun _ h => Kd.C_string hs he hd h⟩
end Go.Proofs.YtojemmipkpckbaaG
