/- What a row's input, trodden, is of a kind (Kd): whole numbers, bools, strings, slices, pairs. Conditions: those of each theorem. Written for this claim. -/
import Derived.Test.YtojemmipkpckbaaWWords
import Derived.ChangeArms
import Derived.DataReads
import Derived.DataElems
import Derived.OpenShut
import Derived.SizedLaws
set_option linter.unusedVariables false
namespace Go.Proofs.YtojemmipkpckbaaG
open Go Go.RowKit Go.Proofs.YtojemmipkpckbaaW.PrintWords

/-- What is trodden of this type is of this kind, and is right. -/
def Opens {α : Type} (P : Program) (t : TypeId) (d : Kd α) (wf : α → Prop) : Prop :=
  ∀ (H : Type) (enc : TypeId × Value → H) (w : World) (base : Nat) (sp : Nat → Bool) (held : Bool) (fuel : Nat) (cs : List Value) (x : DataW H × List MemPlace),
    DataW.trod enc P w base sp held fuel t cs = some x → ∃ a, d.K w a cs ∧ wf a
section
variable {P : Program} {t e : TypeId}
theorem opens_int {k : IntKind} (ht : P.underlying t = some (.int k)) : Opens P t (Kd.int k) (fun n => (Lit.int k n).wf = true) := by
  intro H enc w base sp held fuel cs x h
  obtain ⟨n, rfl, _, hw⟩ := DataW.trod_int ht h
  exact ⟨n, rfl, hw⟩
theorem opens_bool (ht : P.underlying t = some .bool) : Opens P t Kd.bool (fun _ => True) := by
  intro H enc w base sp held fuel cs x h
  obtain ⟨n, rfl, _⟩ := DataW.trod_bool ht h
  exact ⟨n, rfl, trivial⟩
theorem opens_string (ht : P.underlying t = some .string) : Opens P t Kd.string (fun s => s.size ≤ maxLen) := by
  intro H enc w base sp held fuel cs x h
  obtain ⟨n, rfl, _, hm⟩ := DataW.trod_string ht h
  exact ⟨n, rfl, hm⟩
theorem build {α : Type} {Q : Nat → α → Prop} : ∀ n : Nat, (∀ i, i < n → ∃ a, Q i a) → ∃ l : List α, l.length = n ∧ ∀ i a, l[i]? = some a → Q i a := by
  intro n
  induction n with
  | zero => intro _; exact ⟨[], rfl, fun i a h => by simp at h⟩
  | succ n ih =>
    intro h
    obtain ⟨l, hl, hq⟩ := ih (fun i hi => h i (by omega))
    obtain ⟨a, ha⟩ := h n (by omega)
    refine ⟨l ++ [a], by simp [hl], fun i b hb => ?_⟩
    by_cases hi : i < n
    · rw [List.getElem?_append_left (by omega)] at hb
      exact hq i b hb
    · rw [List.getElem?_append_right (by omega)] at hb
      by_cases hin : i = n
      · subst hin
        rw [hl, Nat.sub_self] at hb
        simp at hb
        exact hb ▸ ha
      · rw [List.getElem?_eq_none (by simp; omega)] at hb
        cases hb
theorem opens_row {α : Type} {d : Kd α} {wf : α → Prop} (hc : P.cellsOf e = d.sz) (ht : P.underlying t = some (.slice e)) (he : Opens P e d wf)
    {H : Type} {enc : TypeId × Value → H} {w : World} {base : Nat} {sp : Nat → Bool} {held : Bool} {fuel : Nat} {cs : List Value} {x : DataW H × List MemPlace} (h : DataW.trod enc P w base sp held fuel t cs = some x) :
    ∃ (A : Option Addr) (c : Nat) (xs : List α), cs = [.slice A xs.length c] ∧ xs.length ≤ c ∧ c ≤ maxLen ∧ d.C w A xs.length xs ∧ ∀ a ∈ xs, wf a := by
  rcases DataW.trod_slice ht h with ⟨rfl, _⟩ | ⟨ad, len, cap, elems, rest, n, _, rfl, _, hb, hl, hm, hn, hel, _, _⟩
  · exact ⟨none, 0, [], rfl, Nat.le_refl _, by decide, Kd.C_nil d w, fun a ha => by cases ha⟩
  · obtain ⟨xs, hxl, hx⟩ := build (Q := fun i a => wf a ∧ ∃ c, c.length = d.sz ∧ d.K w a c ∧ ∀ j u, c[j]? = some u → w.cell? (ad.add (i * d.sz + j)) = some u) len (fun i hi => by
      have h1 := hel i hi
      rw [List.getElem?_eq_getElem (by omega)] at h1
      obtain ⟨cs', hcs, htr⟩ := Option.bind_eq_some_iff.1 h1
      obtain ⟨a, ha, hw⟩ := he H enc w base sp held n cs' _ htr
      have hlen := d.K_len ha
      obtain ⟨_, hlen2, hcell⟩ := World.cells?_some hcs
      refine ⟨a, hw, cs', hlen, ha, fun j u hj => ?_⟩
      have hjl : j < cs'.length := by
        by_cases hjl : j < cs'.length
        · exact hjl
        · rw [List.getElem?_eq_none (by omega)] at hj; cases hj
      have h2 := hcell j (by omega)
      rw [hc] at h2
      have hadd : (ad.add (i * d.sz)).add j = ad.add (i * d.sz + j) := Addr.add_add ad _ _
      rw [← hadd, h2, hj])
    have hmax : maxLen ≤ 9223372036854775807 := by decide
    refine ⟨some ad, cap, xs, by rw [hxl], by omega, hm, ⟨rfl, by omega, fun _ => ⟨ad, rfl, fun j p hp => (hx j p hp).2⟩⟩, fun a ha => ?_⟩
    obtain ⟨i, hi⟩ := List.mem_iff_getElem?.1 ha
    exact (hx i a hi).1
theorem opens_slice {α : Type} {d : Kd α} {wf : α → Prop} (hc : P.cellsOf e = d.sz) (ht : P.underlying t = some (.slice e)) (he : Opens P e d wf) :
    Opens P t (Kd.slice e d) (fun l => l.length ≤ maxLen ∧ ∀ a ∈ l, wf a) := by
  intro H enc w base sp held fuel cs x h
  obtain ⟨A, c, xs, rfl, hl, hm, hC, hw⟩ := opens_row hc ht he h
  exact ⟨xs, ⟨A, c, rfl, hl, hC⟩, by omega, hw⟩
theorem Opens.imp {α : Type} {d : Kd α} {wf wf' : α → Prop} (h : Opens P t d wf) (hi : ∀ a, wf a → wf' a) : Opens P t d wf' := by
  intro H enc w base sp held fuel cs x htr
  obtain ⟨a, ha, hw⟩ := h H enc w base sp held fuel cs x htr
  exact ⟨a, ha, hi a hw⟩
theorem Opens.iso {α β : Type} {d : Kd α} {wf : α → Prop} (h : Opens P t d wf) (f : β → α) (g : α → β) (hfg : ∀ a, f (g a) = a) : Opens P t (Kd.iso d f) (fun b => wf (f b)) := by
  intro H enc w base sp held fuel cs x htr
  obtain ⟨a, ha, hw⟩ := h H enc w base sp held fuel cs x htr
  exact ⟨g a, by show d.K w (f (g a)) cs; rw [hfg]; exact ha, by show wf (f (g a)); rw [hfg]; exact hw⟩
end

/-! ### structs -/
/-- A field of a struct. -/
theorem opens_field {α : Type} {P : Program} {t e : TypeId} {fs : Array Field} {d : Kd α} {wf : α → Prop} {off i : Nat} {f : Field} (ht : P.underlying t = some (.struct fs)) (hi : fs[i]? = some f) (hft : f.type = e) (hfo : f.offset = off) (hc : P.cellsOf e = d.sz) (he : Opens P e d wf)
    {H : Type} {enc : TypeId × Value → H} {w : World} {base : Nat} {sp : Nat → Bool} {held : Bool} {fuel : Nat} {cs : List Value} {x : DataW H × List MemPlace} (h : DataW.trod enc P w base sp held fuel t cs = some x) :
    ∃ a, d.K w a ((cs.drop off).take d.sz) ∧ wf a := by
  obtain ⟨xs, n, _, _, _, hn, hf⟩ := DataW.trod_struct ht h
  have h1 := hf i f hi
  have hil : i < xs.length := by
    rw [hn]
    exact (Array.getElem?_eq_some_iff.1 hi).1
  rw [List.getElem?_eq_getElem hil, hft, hfo, hc] at h1
  exact he H enc w base sp held n _ _ h1
theorem opens_cells {P : Program} {t : TypeId} {fs : Array Field} (ht : P.underlying t = some (.struct fs)) {H : Type} {enc : TypeId × Value → H} {w : World} {base : Nat} {sp : Nat → Bool} {held : Bool} {fuel : Nat} {cs : List Value} {x : DataW H × List MemPlace} (h : DataW.trod enc P w base sp held fuel t cs = some x) :
    cs.length = P.cellsOf t := by
  obtain ⟨xs, n, _, _, hl, _⟩ := DataW.trod_struct ht h
  exact hl
theorem opens_struct2 {α β : Type} {P : Program} {t ta tb : TypeId} {fs : Array Field} {a : Kd α} {b : Kd β} {wa : α → Prop} {wb : β → Prop} (ht : P.underlying t = some (.struct fs)) (hc : P.cellsOf t = a.sz + b.sz)
    (f0 : (fs[0]?).map (fun f => (f.type, f.offset)) = some (ta, 0)) (f1 : (fs[1]?).map (fun f => (f.type, f.offset)) = some (tb, a.sz)) (ca : P.cellsOf ta = a.sz) (cb : P.cellsOf tb = b.sz) (oa : Opens P ta a wa) (ob : Opens P tb b wb) :
    Opens P t (Kd.pair a b) (fun x => wa x.1 ∧ wb x.2) := by
  intro H enc w base sp held fuel cs x h
  obtain ⟨g0, e0, q0⟩ := Option.map_eq_some_iff.1 f0
  obtain ⟨g1, e1, q1⟩ := Option.map_eq_some_iff.1 f1
  simp only [Prod.mk.injEq] at q0 q1
  obtain ⟨x0, k0, w0⟩ := opens_field ht e0 q0.1 q0.2 ca oa h
  obtain ⟨x1, k1, w1⟩ := opens_field ht e1 q1.1 q1.2 cb ob h
  have hl := opens_cells ht h
  have hsp : (cs.drop a.sz).take b.sz = cs.drop a.sz := List.take_of_length_le (by rw [List.length_drop]; omega)
  rw [List.drop_zero] at k0
  rw [hsp] at k1
  exact ⟨(x0, x1), ⟨cs.take a.sz, cs.drop a.sz, (List.take_append_drop _ _).symm, k0, k1⟩, w0, w1⟩
theorem opens_struct3 {α β γ : Type} {P : Program} {t ta tb tc : TypeId} {fs : Array Field} {a : Kd α} {b : Kd β} {c : Kd γ} {wa : α → Prop} {wb : β → Prop} {wc : γ → Prop} (ht : P.underlying t = some (.struct fs)) (hc : P.cellsOf t = a.sz + (b.sz + c.sz))
    (f0 : (fs[0]?).map (fun f => (f.type, f.offset)) = some (ta, 0)) (f1 : (fs[1]?).map (fun f => (f.type, f.offset)) = some (tb, a.sz)) (f2 : (fs[2]?).map (fun f => (f.type, f.offset)) = some (tc, a.sz + b.sz)) (ca : P.cellsOf ta = a.sz) (cb : P.cellsOf tb = b.sz) (cc : P.cellsOf tc = c.sz) (oa : Opens P ta a wa) (ob : Opens P tb b wb) (oc : Opens P tc c wc) :
    Opens P t (Kd.pair a (Kd.pair b c)) (fun x => wa x.1 ∧ wb x.2.1 ∧ wc x.2.2) := by
  intro H enc w base sp held fuel cs x h
  obtain ⟨g0, e0, q0⟩ := Option.map_eq_some_iff.1 f0
  obtain ⟨g1, e1, q1⟩ := Option.map_eq_some_iff.1 f1
  obtain ⟨g2, e2, q2⟩ := Option.map_eq_some_iff.1 f2
  simp only [Prod.mk.injEq] at q0 q1 q2
  obtain ⟨x0, k0, w0⟩ := opens_field ht e0 q0.1 q0.2 ca oa h
  obtain ⟨x1, k1, w1⟩ := opens_field ht e1 q1.1 q1.2 cb ob h
  obtain ⟨x2, k2, w2⟩ := opens_field ht e2 q2.1 q2.2 cc oc h
  have hl := opens_cells ht h
  have hsp : (cs.drop (a.sz + b.sz)).take c.sz = (cs.drop a.sz).drop b.sz := by rw [List.take_of_length_le (by rw [List.length_drop]; omega), List.drop_drop]
  rw [List.drop_zero] at k0
  rw [hsp] at k2
  exact ⟨(x0, x1, x2), ⟨cs.take a.sz, cs.drop a.sz, (List.take_append_drop _ _).symm, k0, _, _, (List.take_append_drop b.sz _).symm, k1, k2⟩, w0, w1, w2⟩
theorem opens_struct4 {α β γ δ : Type} {P : Program} {t ta tb tc td : TypeId} {fs : Array Field} {a : Kd α} {b : Kd β} {c : Kd γ} {d : Kd δ} {wa : α → Prop} {wb : β → Prop} {wc : γ → Prop} {wd : δ → Prop} (ht : P.underlying t = some (.struct fs)) (hc : P.cellsOf t = a.sz + (b.sz + (c.sz + d.sz)))
    (f0 : (fs[0]?).map (fun f => (f.type, f.offset)) = some (ta, 0)) (f1 : (fs[1]?).map (fun f => (f.type, f.offset)) = some (tb, a.sz)) (f2 : (fs[2]?).map (fun f => (f.type, f.offset)) = some (tc, a.sz + b.sz)) (f3 : (fs[3]?).map (fun f => (f.type, f.offset)) = some (td, a.sz + b.sz + c.sz)) (ca : P.cellsOf ta = a.sz) (cb : P.cellsOf tb = b.sz) (cc : P.cellsOf tc = c.sz) (cd : P.cellsOf td = d.sz) (oa : Opens P ta a wa) (ob : Opens P tb b wb) (oc : Opens P tc c wc) (od : Opens P td d wd) :
    Opens P t (Kd.pair a (Kd.pair b (Kd.pair c d))) (fun x => wa x.1 ∧ wb x.2.1 ∧ wc x.2.2.1 ∧ wd x.2.2.2) := by
  intro H enc w base sp held fuel cs x h
  obtain ⟨g0, e0, q0⟩ := Option.map_eq_some_iff.1 f0
  obtain ⟨g1, e1, q1⟩ := Option.map_eq_some_iff.1 f1
  obtain ⟨g2, e2, q2⟩ := Option.map_eq_some_iff.1 f2
  obtain ⟨g3, e3, q3⟩ := Option.map_eq_some_iff.1 f3
  simp only [Prod.mk.injEq] at q0 q1 q2 q3
  obtain ⟨x0, k0, w0⟩ := opens_field ht e0 q0.1 q0.2 ca oa h
  obtain ⟨x1, k1, w1⟩ := opens_field ht e1 q1.1 q1.2 cb ob h
  obtain ⟨x2, k2, w2⟩ := opens_field ht e2 q2.1 q2.2 cc oc h
  obtain ⟨x3, k3, w3⟩ := opens_field ht e3 q3.1 q3.2 cd od h
  have hl := opens_cells ht h
  have hsp : (cs.drop (a.sz + b.sz + c.sz)).take d.sz = ((cs.drop a.sz).drop b.sz).drop c.sz := by rw [List.take_of_length_le (by rw [List.length_drop]; omega)]; simp only [List.drop_drop, Nat.add_assoc]
  rw [List.drop_zero] at k0
  rw [hsp] at k3
  rw [← List.drop_drop] at k2
  exact ⟨(x0, x1, x2, x3), ⟨cs.take a.sz, cs.drop a.sz, (List.take_append_drop _ _).symm, k0, _, _, (List.take_append_drop b.sz _).symm, k1, _, _, (List.take_append_drop c.sz _).symm, k2, k3⟩, w0, w1, w2, w3⟩
/-- A struct as an argument. -/
theorem opens_agg {P : Program} {t : TypeId} {fs : Array Field} {w : World} {r : Reach} {base : Nat} {v : Value} (ht : P.underlying t = some (.struct fs)) (h : Value.okWide P w r base t v) : ∃ cs, v = .agg cs := by
  unfold Value.okWide at h
  rw [ht] at h
  obtain ⟨cs, hv, _⟩ := h
  exact ⟨cs, hv⟩
/-- A row's slice is no longer than its weight allows. -/
theorem sized_row {H : Type} {enc : TypeId × Value → H} {P : Program} {W : World} {base : Nat} {spare : Nat → Bool} {held : Bool} {t e : TypeId} {a : Option Addr} {len cap : Nat} {d : DataW H} {ps : List MemPlace} {ts : List TypeId} {ds : List (DataW H)} {j : Nat}
    (hsz : (DataW.weightsEach P ts ds).all (· ≤ reachBytes) = true) (ht : ts[j]? = some t) (hd : ds[j]? = some d) (hu : P.underlying t = some (.slice e)) (B : Nat) (hB : P.bytesOf e = B)
    (h : DataW.Trod enc P W base spare held t (.slice a len cap) d ps) : len * B ≤ 140737488351232 := by
  obtain ⟨fuel, hf⟩ := h
  rcases DataW.trod_slice hu hf with ⟨hcs, _⟩ | ⟨ad, l, c, elems, rest, n, _, hcs, hx, _, _, _, hn, _⟩
  · simp only [Value.cells, List.cons.injEq, Value.slice.injEq, and_true] at hcs
    obtain ⟨rfl, rfl, rfl⟩ := hcs
    rw [Nat.zero_mul]; omega
  · simp only [Value.cells, List.cons.injEq, Value.slice.injEq, and_true] at hcs
    obtain ⟨rfl, rfl, rfl⟩ := hcs
    obtain ⟨hx, _⟩ := Prod.mk.inj hx
    subst hx
    have z := sized_slice hsz ht hd hu
    rw [hB, List.length_map, List.length_map] at z
    exact Nat.le_trans (Nat.mul_le_mul_right _ (by omega)) z
end Go.Proofs.YtojemmipkpckbaaG
