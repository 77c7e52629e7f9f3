/- The pure statement of FrameTells: sums, seals and what bytes begin with, as the document tells them. Conditions: those of the statement. Written for this claim. -/
import Derived.Test.YtdppjknfhggpbaaWWords
import Derived.ChangeArms
import Derived.DataReads
import Derived.DataElems
import Derived.OpenShut
import Derived.SizedLaws
import Derived.Test.YtdppjknfhggpbaaFrameSpec
import Derived.Test.YtdppjknfhggpbaaFrameAwake
import Derived.Test.YtdppjknfhggpbaaNumsRefFour
import Derived.Test.YtdppjknfhggpbaaPx5
import Derived.Test.YtdppjknfhggpbaaPx7
import Derived.Test.YtdppjknfhggpbaaPx9
import Derived.Test.YtdppjknfhggpbaaPx10
set_option linter.unusedVariables false
namespace Go.Proofs.YtdppjknfhggpbaaG
open Go Go.RowKit Go.Proofs.YtdppjknfhggpbaaW.PrintWords

/-- What is trodden of this type is of this kind, and is right. -/
def Opens {α : Type} (P : Program) (t : TypeId) (d : Kd α) (wf : α → Prop) : Prop :=
  ∀ (H : Type) (enc : TypeId × Value → H) (w : World) (base : Nat) (sp : Nat → Bool) (held : Bool) (fuel : Nat) (cs : List Value) (x : DataW H × List MemPlace),
    DataW.trod enc P w base sp held fuel t cs = some x → ∃ a, d.K w a cs ∧ wf a
section
variable {P : Program} {t e : TypeId}
theorem opens_int {k : IntKind} (ht : P.underlying t = some (.int k)) : Opens P t (Kd.int k) (fun n => (Lit.int k n).wf = true) := by
  intro H enc w base sp held fuel cs x h
  obtain ⟨n, rfl, _, hw⟩ := DataW.trod_int ht h
  exact ⟨n, rfl, hw⟩
theorem opens_bool (ht : P.underlying t = some .bool) : Opens P t Kd.bool (fun _ => True) := by
  intro H enc w base sp held fuel cs x h
  obtain ⟨n, rfl, _⟩ := DataW.trod_bool ht h
  exact ⟨n, rfl, trivial⟩
theorem opens_string (ht : P.underlying t = some .string) : Opens P t Kd.string (fun s => s.size ≤ maxLen) := by
  intro H enc w base sp held fuel cs x h
  obtain ⟨n, rfl, _, hm⟩ := DataW.trod_string ht h
  exact ⟨n, rfl, hm⟩
theorem build {α : Type} {Q : Nat → α → Prop} : ∀ n : Nat, (∀ i, i < n → ∃ a, Q i a) → ∃ l : List α, l.length = n ∧ ∀ i a, l[i]? = some a → Q i a := by
  intro n
  induction n with
  | zero => intro _; exact ⟨[], rfl, fun i a h => by simp at h⟩
  | succ n ih =>
    intro h
    obtain ⟨l, hl, hq⟩ := ih (fun i hi => h i (by omega))
    obtain ⟨a, ha⟩ := h n (by omega)
    refine ⟨l ++ [a], by simp [hl], fun i b hb => ?_⟩
    by_cases hi : i < n
    · rw [List.getElem?_append_left (by omega)] at hb
      exact hq i b hb
    · rw [List.getElem?_append_right (by omega)] at hb
      by_cases hin : i = n
      · subst hin
        rw [hl, Nat.sub_self] at hb
        simp at hb
        exact hb ▸ ha
      · rw [List.getElem?_eq_none (by simp; omega)] at hb
        cases hb
theorem opens_row {α : Type} {d : Kd α} {wf : α → Prop} (hc : P.cellsOf e = d.sz) (ht : P.underlying t = some (.slice e)) (he : Opens P e d wf)
    {H : Type} {enc : TypeId × Value → H} {w : World} {base : Nat} {sp : Nat → Bool} {held : Bool} {fuel : Nat} {cs : List Value} {x : DataW H × List MemPlace} (h : DataW.trod enc P w base sp held fuel t cs = some x) :
    ∃ (A : Option Addr) (c : Nat) (xs : List α), cs = [.slice A xs.length c] ∧ xs.length ≤ c ∧ c ≤ maxLen ∧ d.C w A xs.length xs ∧ ∀ a ∈ xs, wf a := by
  rcases DataW.trod_slice ht h with ⟨rfl, _⟩ | ⟨ad, len, cap, elems, rest, n, _, rfl, _, hb, hl, hm, hn, hel, _, _⟩
  · exact ⟨none, 0, [], rfl, Nat.le_refl _, by decide, Kd.C_nil d w, fun a ha => by cases ha⟩
  · obtain ⟨xs, hxl, hx⟩ := build (Q := fun i a => wf a ∧ ∃ c, c.length = d.sz ∧ d.K w a c ∧ ∀ j u, c[j]? = some u → w.cell? (ad.add (i * d.sz + j)) = some u) len (fun i hi => by
      have h1 := hel i hi
      rw [List.getElem?_eq_getElem (by omega)] at h1
      obtain ⟨cs', hcs, htr⟩ := Option.bind_eq_some_iff.1 h1
      obtain ⟨a, ha, hw⟩ := he H enc w base sp held n cs' _ htr
      have hlen := d.K_len ha
      obtain ⟨_, hlen2, hcell⟩ := World.cells?_some hcs
      refine ⟨a, hw, cs', hlen, ha, fun j u hj => ?_⟩
      have hjl : j < cs'.length := by
        by_cases hjl : j < cs'.length
        · exact hjl
        · rw [List.getElem?_eq_none (by omega)] at hj; cases hj
      have h2 := hcell j (by omega)
      rw [hc] at h2
      have hadd : (ad.add (i * d.sz)).add j = ad.add (i * d.sz + j) := Addr.add_add ad _ _
      rw [← hadd, h2, hj])
    have hmax : maxLen ≤ 9223372036854775807 := by decide
    refine ⟨some ad, cap, xs, by rw [hxl], by omega, hm, ⟨rfl, by omega, fun _ => ⟨ad, rfl, fun j p hp => (hx j p hp).2⟩⟩, fun a ha => ?_⟩
    obtain ⟨i, hi⟩ := List.mem_iff_getElem?.1 ha
    exact (hx i a hi).1
theorem opens_slice {α : Type} {d : Kd α} {wf : α → Prop} (hc : P.cellsOf e = d.sz) (ht : P.underlying t = some (.slice e)) (he : Opens P e d wf) :
    Opens P t (Kd.slice e d) (fun l => l.length ≤ maxLen ∧ ∀ a ∈ l, wf a) := by
  intro H enc w base sp held fuel cs x h
  obtain ⟨A, c, xs, rfl, hl, hm, hC, hw⟩ := opens_row hc ht he h
  exact ⟨xs, ⟨A, c, rfl, hl, hC⟩, by omega, hw⟩
theorem Opens.imp {α : Type} {d : Kd α} {wf wf' : α → Prop} (h : Opens P t d wf) (hi : ∀ a, wf a → wf' a) : Opens P t d wf' := by
  intro H enc w base sp held fuel cs x htr
  obtain ⟨a, ha, hw⟩ := h H enc w base sp held fuel cs x htr
  exact ⟨a, ha, hi a hw⟩
theorem Opens.iso {α β : Type} {d : Kd α} {wf : α → Prop} (h : Opens P t d wf) (f : β → α) (g : α → β) (hfg : ∀ a, f (g a) = a) : Opens P t (Kd.iso d f) (fun b => wf (f b)) := by
  intro H enc w base sp held fuel cs x htr
  obtain ⟨a, ha, hw⟩ := h H enc w base sp held fuel cs x htr
  exact ⟨g a, by show d.K w (f (g a)) cs; rw [hfg]; exact ha, by show wf (f (g a)); rw [hfg]; exact hw⟩
end

/-! ### structs -/
/-- A field of a struct. -/
theorem opens_field {α : Type} {P : Program} {t e : TypeId} {fs : Array Field} {d : Kd α} {wf : α → Prop} {off i : Nat} {f : Field} (ht : P.underlying t = some (.struct fs)) (hi : fs[i]? = some f) (hft : f.type = e) (hfo : f.offset = off) (hc : P.cellsOf e = d.sz) (he : Opens P e d wf)
    {H : Type} {enc : TypeId × Value → H} {w : World} {base : Nat} {sp : Nat → Bool} {held : Bool} {fuel : Nat} {cs : List Value} {x : DataW H × List MemPlace} (h : DataW.trod enc P w base sp held fuel t cs = some x) :
    ∃ a, d.K w a ((cs.drop off).take d.sz) ∧ wf a := by
  obtain ⟨xs, n, _, _, _, hn, hf⟩ := DataW.trod_struct ht h
  have h1 := hf i f hi
  have hil : i < xs.length := by
    rw [hn]
    exact (Array.getElem?_eq_some_iff.1 hi).1
  rw [List.getElem?_eq_getElem hil, hft, hfo, hc] at h1
  exact he H enc w base sp held n _ _ h1
theorem opens_cells {P : Program} {t : TypeId} {fs : Array Field} (ht : P.underlying t = some (.struct fs)) {H : Type} {enc : TypeId × Value → H} {w : World} {base : Nat} {sp : Nat → Bool} {held : Bool} {fuel : Nat} {cs : List Value} {x : DataW H × List MemPlace} (h : DataW.trod enc P w base sp held fuel t cs = some x) :
    cs.length = P.cellsOf t := by
  obtain ⟨xs, n, _, _, hl, _⟩ := DataW.trod_struct ht h
  exact hl
theorem opens_struct2 {α β : Type} {P : Program} {t ta tb : TypeId} {fs : Array Field} {a : Kd α} {b : Kd β} {wa : α → Prop} {wb : β → Prop} (ht : P.underlying t = some (.struct fs)) (hc : P.cellsOf t = a.sz + b.sz)
    (f0 : (fs[0]?).map (fun f => (f.type, f.offset)) = some (ta, 0)) (f1 : (fs[1]?).map (fun f => (f.type, f.offset)) = some (tb, a.sz)) (ca : P.cellsOf ta = a.sz) (cb : P.cellsOf tb = b.sz) (oa : Opens P ta a wa) (ob : Opens P tb b wb) :
    Opens P t (Kd.pair a b) (fun x => wa x.1 ∧ wb x.2) := by
  intro H enc w base sp held fuel cs x h
  obtain ⟨g0, e0, q0⟩ := Option.map_eq_some_iff.1 f0
  obtain ⟨g1, e1, q1⟩ := Option.map_eq_some_iff.1 f1
  simp only [Prod.mk.injEq] at q0 q1
  obtain ⟨x0, k0, w0⟩ := opens_field ht e0 q0.1 q0.2 ca oa h
  obtain ⟨x1, k1, w1⟩ := opens_field ht e1 q1.1 q1.2 cb ob h
  have hl := opens_cells ht h
  have hsp : (cs.drop a.sz).take b.sz = cs.drop a.sz := List.take_of_length_le (by rw [List.length_drop]; omega)
  rw [List.drop_zero] at k0
  rw [hsp] at k1
  exact ⟨(x0, x1), ⟨cs.take a.sz, cs.drop a.sz, (List.take_append_drop _ _).symm, k0, k1⟩, w0, w1⟩
theorem opens_struct3 {α β γ : Type} {P : Program} {t ta tb tc : TypeId} {fs : Array Field} {a : Kd α} {b : Kd β} {c : Kd γ} {wa : α → Prop} {wb : β → Prop} {wc : γ → Prop} (ht : P.underlying t = some (.struct fs)) (hc : P.cellsOf t = a.sz + (b.sz + c.sz))
    (f0 : (fs[0]?).map (fun f => (f.type, f.offset)) = some (ta, 0)) (f1 : (fs[1]?).map (fun f => (f.type, f.offset)) = some (tb, a.sz)) (f2 : (fs[2]?).map (fun f => (f.type, f.offset)) = some (tc, a.sz + b.sz)) (ca : P.cellsOf ta = a.sz) (cb : P.cellsOf tb = b.sz) (cc : P.cellsOf tc = c.sz) (oa : Opens P ta a wa) (ob : Opens P tb b wb) (oc : Opens P tc c wc) :
    Opens P t (Kd.pair a (Kd.pair b c)) (fun x => wa x.1 ∧ wb x.2.1 ∧ wc x.2.2) := by
  intro H enc w base sp held fuel cs x h
  obtain ⟨g0, e0, q0⟩ := Option.map_eq_some_iff.1 f0
  obtain ⟨g1, e1, q1⟩ := Option.map_eq_some_iff.1 f1
  obtain ⟨g2, e2, q2⟩ := Option.map_eq_some_iff.1 f2
  simp only [Prod.mk.injEq] at q0 q1 q2
  obtain ⟨x0, k0, w0⟩ := opens_field ht e0 q0.1 q0.2 ca oa h
  obtain ⟨x1, k1, w1⟩ := opens_field ht e1 q1.1 q1.2 cb ob h
  obtain ⟨x2, k2, w2⟩ := opens_field ht e2 q2.1 q2.2 cc oc h
  have hl := opens_cells ht h
  have hsp : (cs.drop (a.sz + b.sz)).take c.sz = (cs.drop a.sz).drop b.sz := by rw [List.take_of_length_le (by rw [List.length_drop]; omega), List.drop_drop]
  rw [List.drop_zero] at k0
  rw [hsp] at k2
  exact ⟨(x0, x1, x2), ⟨cs.take a.sz, cs.drop a.sz, (List.take_append_drop _ _).symm, k0, _, _, (List.take_append_drop b.sz _).symm, k1, k2⟩, w0, w1, w2⟩
theorem opens_struct4 {α β γ δ : Type} {P : Program} {t ta tb tc td : TypeId} {fs : Array Field} {a : Kd α} {b : Kd β} {c : Kd γ} {d : Kd δ} {wa : α → Prop} {wb : β → Prop} {wc : γ → Prop} {wd : δ → Prop} (ht : P.underlying t = some (.struct fs)) (hc : P.cellsOf t = a.sz + (b.sz + (c.sz + d.sz)))
    (f0 : (fs[0]?).map (fun f => (f.type, f.offset)) = some (ta, 0)) (f1 : (fs[1]?).map (fun f => (f.type, f.offset)) = some (tb, a.sz)) (f2 : (fs[2]?).map (fun f => (f.type, f.offset)) = some (tc, a.sz + b.sz)) (f3 : (fs[3]?).map (fun f => (f.type, f.offset)) = some (td, a.sz + b.sz + c.sz)) (ca : P.cellsOf ta = a.sz) (cb : P.cellsOf tb = b.sz) (cc : P.cellsOf tc = c.sz) (cd : P.cellsOf td = d.sz) (oa : Opens P ta a wa) (ob : Opens P tb b wb) (oc : Opens P tc c wc) (od : Opens P td d wd) :
    Opens P t (Kd.pair a (Kd.pair b (Kd.pair c d))) (fun x => wa x.1 ∧ wb x.2.1 ∧ wc x.2.2.1 ∧ wd x.2.2.2) := by
  intro H enc w base sp held fuel cs x h
  obtain ⟨g0, e0, q0⟩ := Option.map_eq_some_iff.1 f0
  obtain ⟨g1, e1, q1⟩ := Option.map_eq_some_iff.1 f1
  obtain ⟨g2, e2, q2⟩ := Option.map_eq_some_iff.1 f2
  obtain ⟨g3, e3, q3⟩ := Option.map_eq_some_iff.1 f3
  simp only [Prod.mk.injEq] at q0 q1 q2 q3
  obtain ⟨x0, k0, w0⟩ := opens_field ht e0 q0.1 q0.2 ca oa h
  obtain ⟨x1, k1, w1⟩ := opens_field ht e1 q1.1 q1.2 cb ob h
  obtain ⟨x2, k2, w2⟩ := opens_field ht e2 q2.1 q2.2 cc oc h
  obtain ⟨x3, k3, w3⟩ := opens_field ht e3 q3.1 q3.2 cd od h
  have hl := opens_cells ht h
  have hsp : (cs.drop (a.sz + b.sz + c.sz)).take d.sz = ((cs.drop a.sz).drop b.sz).drop c.sz := by rw [List.take_of_length_le (by rw [List.length_drop]; omega)]; simp only [List.drop_drop, Nat.add_assoc]
  rw [List.drop_zero] at k0
  rw [hsp] at k3
  rw [← List.drop_drop] at k2
  exact ⟨(x0, x1, x2, x3), ⟨cs.take a.sz, cs.drop a.sz, (List.take_append_drop _ _).symm, k0, _, _, (List.take_append_drop b.sz _).symm, k1, _, _, (List.take_append_drop c.sz _).symm, k2, k3⟩, w0, w1, w2, w3⟩
/-- A struct as an argument. -/
theorem opens_agg {P : Program} {t : TypeId} {fs : Array Field} {w : World} {r : Reach} {base : Nat} {v : Value} (ht : P.underlying t = some (.struct fs)) (h : Value.okWide P w r base t v) : ∃ cs, v = .agg cs := by
  unfold Value.okWide at h
  rw [ht] at h
  obtain ⟨cs, hv, _⟩ := h
  exact ⟨cs, hv⟩
/-- A row's slice is no longer than its weight allows. -/
theorem sized_row {H : Type} {enc : TypeId × Value → H} {P : Program} {W : World} {base : Nat} {spare : Nat → Bool} {held : Bool} {t e : TypeId} {a : Option Addr} {len cap : Nat} {d : DataW H} {ps : List MemPlace} {ts : List TypeId} {ds : List (DataW H)} {j : Nat}
    (hsz : (DataW.weightsEach P ts ds).all (· ≤ reachBytes) = true) (ht : ts[j]? = some t) (hd : ds[j]? = some d) (hu : P.underlying t = some (.slice e)) (B : Nat) (hB : P.bytesOf e = B)
    (h : DataW.Trod enc P W base spare held t (.slice a len cap) d ps) : len * B ≤ 140737488351232 := by
  obtain ⟨fuel, hf⟩ := h
  rcases DataW.trod_slice hu hf with ⟨hcs, _⟩ | ⟨ad, l, c, elems, rest, n, _, hcs, hx, _, _, _, hn, _⟩
  · simp only [Value.cells, List.cons.injEq, Value.slice.injEq, and_true] at hcs
    obtain ⟨rfl, rfl, rfl⟩ := hcs
    rw [Nat.zero_mul]; omega
  · simp only [Value.cells, List.cons.injEq, Value.slice.injEq, and_true] at hcs
    obtain ⟨rfl, rfl, rfl⟩ := hcs
    obtain ⟨hx, _⟩ := Prod.mk.inj hx
    subst hx
    have z := sized_slice hsz ht hd hu
    rw [hB, List.length_map, List.length_map] at z
    exact Nat.le_trans (Nat.mul_le_mul_right _ (by omega)) z
end Go.Proofs.YtdppjknfhggpbaaG

set_option linter.unusedVariables false
namespace Go.Proofs.YtdppjknfhggpbaaL
open Go Go.RowKit Go.Proofs.YtdppjknfhggpbaaG Go.Proofs.Ytdppjknfhggpbaa.P Go.Proofs.YtdppjknfhggpbaaW.PrintWords

theorem step_eq (x : Nat) : crcStep x = (x / 2) ^^^ (if x.testBit 0 then 3945912366 else 0) := by
  unfold crcStep
  have hb : x.testBit 0 = decide (x % 2 = 1) := Nat.testBit_zero x
  rw [hb]
  by_cases h : x % 2 = 1
  · rw [if_pos h, decide_eq_true h, if_pos rfl]
  · rw [if_neg h, decide_eq_false h, if_neg (by decide), Nat.xor_zero]
theorem xor4 (a b c d : Nat) : (a ^^^ b) ^^^ (c ^^^ d) = (a ^^^ c) ^^^ (b ^^^ d) := by
  rw [Nat.xor_assoc, Nat.xor_assoc, ← Nat.xor_assoc b c d, Nat.xor_comm b c, Nat.xor_assoc c b d]
theorem xor_cancel (a b : Nat) : (a ^^^ b) ^^^ b = a := by rw [Nat.xor_assoc, Nat.xor_self, Nat.xor_zero]
theorem xor_zero_iff {a b : Nat} : a ^^^ b = 0 ↔ a = b := ⟨fun h => by have := xor_cancel a b; rw [h, Nat.zero_xor] at this; exact this.symm, fun h => by rw [h, Nat.xor_self]⟩
theorem step_lin (x y : Nat) : crcStep (x ^^^ y) = crcStep x ^^^ crcStep y := by
  rw [step_eq, step_eq, step_eq, Nat.xor_div_two, Nat.testBit_xor, xor4]
  cases x.testBit 0 <;> cases y.testBit 0 <;> simp
theorem steps_lin (n x y : Nat) : crcSteps n (x ^^^ y) = crcSteps n x ^^^ crcSteps n y := by
  induction n with
  | zero => rfl
  | succ n ih => show crcStep _ = crcStep _ ^^^ crcStep _; rw [ih, step_lin]
theorem steps_zero (n : Nat) : crcSteps n 0 = 0 := by
  induction n with
  | zero => rfl
  | succ n ih => show crcStep _ = 0; rw [ih]; rfl
theorem steps_add (m n x : Nat) : crcSteps (m + n) x = crcSteps m (crcSteps n x) := by
  induction m with
  | zero => rw [Nat.zero_add]; rfl
  | succ m ih => rw [Nat.succ_add]; show crcStep _ = crcStep _; rw [ih]
theorem steps_down (n x : Nat) : crcSteps n (x * 2 ^ n) = x := by
  induction n with
  | zero => show x * 1 = x; omega
  | succ n ih =>
    rw [steps_add n 1]
    show crcSteps n (crcStep (x * 2 ^ (n + 1))) = x
    rw [show crcStep (x * 2 ^ (n + 1)) = x * 2 ^ n from by
      unfold crcStep
      rw [Nat.pow_succ, ← Nat.mul_assoc]
      rw [if_neg (by omega)]; omega]
    exact ih
theorem step_inj0 {x : Nat} (h : x < 4294967296) (h0 : crcStep x = 0) : x = 0 := by
  unfold crcStep at h0
  by_cases hx : x % 2 = 1
  · rw [if_pos hx] at h0
    have := xor_zero_iff.1 h0
    omega
  · rw [if_neg hx] at h0; omega
theorem steps_inj0 (n : Nat) {x : Nat} (h : x < 4294967296) (h0 : crcSteps n x = 0) : x = 0 := by
  induction n with
  | zero => exact h0
  | succ n ih => exact ih (step_inj0 (crcSteps_lt n h) h0)

/-- Bytes as one number, the first the least. -/
def le : List Int → Nat
  | [] => 0
  | c :: cs => c.toNat + 256 * le cs
theorem split8 {c : Nat} (h : c < 256) (v : Nat) : c + 256 * v = (v * 2 ^ 8) ^^^ c := by
  apply Nat.eq_of_testBit_eq
  intro i
  rw [Nat.add_comm, Nat.testBit_two_pow_mul_add (i := 8) v h i, Nat.testBit_xor, Nat.testBit_mul_two_pow]
  by_cases hi : i < 8
  · rw [if_pos hi, decide_eq_false (by omega)]; simp
  · rw [if_neg hi, decide_eq_true (by omega), Nat.testBit_lt_two_pow (x := c) (i := i) (Nat.lt_of_lt_of_le h (show 2 ^ 8 ≤ 2 ^ i from Nat.pow_le_pow_right (by omega) (by omega)))]; simp
theorem split8' (x : Nat) : x = ((x / 256) * 2 ^ 8) ^^^ (x % 256) := by
  rw [← split8 (Nat.mod_lt _ (by omega))]; omega
theorem upd_eq (r : Nat) (c : Int) (h0 : 0 ≤ c) (h1 : c < 256) : crcUpd r c = crcSteps 8 (r ^^^ c.toNat) := by
  unfold crcUpd crcTab
  conv => rhs; rw [split8' r, Nat.xor_assoc, steps_lin, steps_down]
/-- The whole of it as one row of bits. -/
theorem fold_eq : ∀ (l : List Int) (r : Nat), By l → l.foldl crcUpd r = crcSteps (8 * l.length) (r ^^^ le l) := by
  intro l
  induction l with
  | nil => intro r _; show r = r ^^^ 0; rw [Nat.xor_zero]
  | cons c cs ih =>
    intro r hb
    have h1 := hb c (List.mem_cons_self ..)
    have hcs : By cs := fun d hd => hb d (List.mem_cons_of_mem _ hd)
    show cs.foldl crcUpd (crcUpd r c) = _
    rw [ih _ hcs, upd_eq r c h1.1 h1.2, List.length_cons, show 8 * (cs.length + 1) = 8 * cs.length + 8 from by omega, steps_add]
    show _ = crcSteps _ (crcSteps 8 (r ^^^ (c.toNat + 256 * le cs)))
    rw [split8 (by omega) (le cs), Nat.xor_comm (le cs * 2 ^ 8), ← Nat.xor_assoc, steps_lin 8 _ (le cs * 2 ^ 8), steps_down]
theorem le_four (n : Nat) (h : n < 4294967296) : le (four n) = n := by
  unfold four
  simp only [le]
  omega
theorem fold_four (r n : Nat) (hn : n < 4294967296) : (four n).foldl crcUpd r = crcSteps 32 (r ^^^ n) := by
  rw [fold_eq _ _ (four_by n), le_four n hn, four_len]
/-- Behind a row of bytes, four that are its sum, and no others, end in nothing. -/
theorem fold_four_zero {r n : Nat} (hr : r < 4294967296) (hn : n < 4294967296) : (four n).foldl crcUpd r = 0 ↔ n = r := by
  rw [fold_four r n hn]
  constructor
  · intro h
    have := steps_inj0 32 (x := r ^^^ n) (Nat.xor_lt_two_pow (n := 32) (by omega) (by omega)) h
    exact (xor_zero_iff.1 this).symm
  · intro h; rw [h, Nat.xor_self, steps_zero]
theorem xor_mul (a b n : Nat) : (a ^^^ b) * 2 ^ n = (a * 2 ^ n) ^^^ (b * 2 ^ n) := by
  rw [← Nat.shiftLeft_eq, ← Nat.shiftLeft_eq, ← Nat.shiftLeft_eq, Nat.shiftLeft_xor_distrib]
/-- A byte that is bent. -/
theorem le_set (m : Nat) (hm : m < 256) : ∀ (l : List Int) (j : Nat), By l → j < l.length → le (l.set j (((l.getD j 0).toNat ^^^ m : Nat) : Int)) = le l ^^^ (m * 2 ^ (8 * j)) := by
  intro l
  induction l with
  | nil => intro j _ h; exact absurd h (Nat.not_lt_zero _)
  | cons c cs ih =>
    intro j hb h
    have hc := hb.head
    have hx : c.toNat ^^^ m < 256 := Nat.xor_lt_two_pow (n := 8) (by omega) (by omega)
    cases j with
    | zero =>
      show ((c.toNat ^^^ m : Nat) : Int).toNat + 256 * le cs = (c.toNat + 256 * le cs) ^^^ (m * 1)
      rw [Int.toNat_natCast, split8 hx, split8 (by omega), Nat.xor_assoc, Nat.mul_one]
    | succ j =>
      show c.toNat + 256 * le (cs.set j (((cs.getD j 0).toNat ^^^ m : Nat) : Int)) = (c.toNat + 256 * le cs) ^^^ (m * 2 ^ (8 * (j + 1)))
      rw [ih j hb.tail (by simp at h; omega), split8 (by omega), split8 (by omega), xor_mul, Nat.mul_assoc, ← Nat.pow_add, show 8 * j + 8 = 8 * (j + 1) from by omega, Nat.xor_assoc, Nat.xor_assoc, Nat.xor_comm c.toNat]
theorem set_by {l : List Int} (h : By l) (j : Nat) {v : Int} (h0 : 0 ≤ v) (h1 : v < 256) : By (l.set j v) := fun c hc => by
  rcases List.mem_or_eq_of_mem_set hc with h' | rfl
  · exact h c h'
  · exact ⟨h0, h1⟩
theorem four_inv {l : List Int} (hb : By l) (h : l.length = 4) : ∃ n, n < 4294967296 ∧ l = four n := by
  rcases takeFour_cases l hb (by omega) with ⟨h4, _⟩ | ⟨_, n, rest, hn, he, _⟩
  · omega
  · have := congrArg List.length he
    rw [List.length_append, four_len] at this
    obtain rfl : rest = [] := List.eq_nil_of_length_eq_zero (by omega)
    exact ⟨n, hn, by rw [he, List.append_nil]⟩
/-- What is behind a frame's length ends in nothing just if it is a frame. -/
theorem frame_zero {n : Nat} {t : List Int} (ht : By t) (hl : t.length = n + 4) : t.foldl crcUpd (crcOf (four n)) = 0 ↔ ∃ b : List Int, b.length = n ∧ four n ++ t = fseal b := by
  have hsum : ∀ b : List Int, b.foldl crcUpd (crcOf (four n)) = crcOf (four n ++ b) := fun b => by rw [crcOf, crcOf, List.foldl_append]
  constructor
  · intro h
    obtain ⟨m, hm, he⟩ := four_inv (ht.drop n) (by rw [List.length_drop]; omega)
    have hsplit : t = t.take n ++ four m := by rw [← he, List.take_append_drop]
    have htl : (t.take n).length = n := by rw [List.length_take]; omega
    rw [hsplit, List.foldl_append, hsum] at h
    have hm2 := (fold_four_zero (crcOf_lt ((four_by n).append (ht.take n))) hm).1 h
    refine ⟨t.take n, htl, ?_⟩
    rw [fseal, body, htl, List.append_assoc, ← hm2, ← hsplit]
  · rintro ⟨b, hbl, he⟩
    rw [fseal, body, hbl, List.append_assoc] at he
    have ht2 := List.append_cancel_left he
    have hb : By b := By.left (b := four (crcOf (four n ++ b))) (ht2 ▸ ht)
    rw [ht2, List.foldl_append, hsum]
    exact (fold_four_zero (crcOf_lt ((four_by n).append hb)) (crcOf_lt ((four_by n).append hb))).2 rfl
theorem take_zero (k : Nat) {n : Nat} (hn : n ≤ 1048576) {t : List Int} (ht : By t) (hl : t.length = n + 4) :
    (t.foldl crcUpd (crcOf (four n)) = 0 → ∃ b, frame_Take.f (k + 1) (four n ++ t) = some (b, [], 0)) ∧ (t.foldl crcUpd (crcOf (four n)) ≠ 0 → frame_Take.f (k + 1) (four n ++ t) = some ([], [], 50)) := by
  rw [Ne, frame_zero ht hl]
  rcases frame_cases k (four n ++ t) ((four_by n).append ht) (by rw [List.length_append, four_len]; omega) with ⟨b, r, hb, he, hf⟩ | ⟨hf, hno⟩
  · have he' := he
    rw [fseal, body] at he'
    simp only [List.append_assoc] at he'
    obtain ⟨h1, h2⟩ := four_inj (by omega) (by omega) he'
    have h3 := congrArg List.length h2
    rw [List.length_append, List.length_append, four_len] at h3
    obtain rfl : r = [] := List.eq_nil_of_length_eq_zero (by omega)
    exact ⟨fun _ => ⟨b, hf⟩, fun h => absurd ⟨b, h1.symm, by rw [he, List.append_nil]⟩ h⟩
  · exact ⟨fun ⟨b, hbl, he⟩ => absurd (by rw [List.append_nil]; exact he) (hno b [] (by omega)), fun _ => hf⟩
/-- A burst of at most 32 bits does not end in nothing. -/
theorem bent {t s : List Int} (ht : By t) (hs : By s) (hl : s.length = t.length) {r p at_ : Nat} (h0 : t.foldl crcUpd r = 0) (hp : p < 4294967296) (ha : at_ ≤ 8 * t.length) (hx : le s = le t ^^^ (p * 2 ^ at_)) :
    s.foldl crcUpd r = 0 ↔ p = 0 := by
  rw [fold_eq t r ht] at h0
  rw [fold_eq s r hs, hx, ← Nat.xor_assoc, hl, steps_lin, h0, Nat.zero_xor, show 8 * t.length = (8 * t.length - at_) + at_ from by omega, steps_add, steps_down]
  exact ⟨steps_inj0 _ hp, fun h => by rw [h, steps_zero]⟩
/-- Bit by bit, what an odd number of three has. -/
theorem crc_three : ∀ (a b c d : List Int) (r s u v : Nat), a.length = d.length → b.length = d.length → c.length = d.length → By a → By b → By c → (∀ i, i < d.length → d.getD i 0 = (((a.getD i 0).toNat ^^^ (b.getD i 0).toNat ^^^ (c.getD i 0).toNat : Nat) : Int)) → v = r ^^^ s ^^^ u → d.foldl crcUpd v = a.foldl crcUpd r ^^^ b.foldl crcUpd s ^^^ c.foldl crcUpd u := by
  intro a b c d
  induction d generalizing a b c with
  | nil =>
    intro r s u v ha hb hc _ _ _ _ hv
    obtain rfl := List.eq_nil_of_length_eq_zero ha
    obtain rfl := List.eq_nil_of_length_eq_zero hb
    obtain rfl := List.eq_nil_of_length_eq_zero hc
    exact hv
  | cons d ds ih =>
    intro r s u v ha hb hc ba bb bc hd hv
    obtain ⟨a0, a1, rfl⟩ := List.exists_cons_of_length_eq_add_one ha
    obtain ⟨b0, bs, rfl⟩ := List.exists_cons_of_length_eq_add_one hb
    obtain ⟨c0, cs, rfl⟩ := List.exists_cons_of_length_eq_add_one hc
    simp only [List.length_cons, Nat.add_right_cancel_iff] at ha hb hc
    have h0 : d = ((a0.toNat ^^^ b0.toNat ^^^ c0.toNat : Nat) : Int) := hd 0 (by simp)
    have ha0 := ba.head
    have hb0 := bb.head
    have hc0 := bc.head
    have hx1 : a0.toNat ^^^ b0.toNat < 256 := Nat.xor_lt_two_pow (n := 8) (by omega) (by omega)
    have hx2 : a0.toNat ^^^ b0.toNat ^^^ c0.toNat < 256 := Nat.xor_lt_two_pow (n := 8) (by omega) (by omega)
    show ds.foldl crcUpd (crcUpd v d) = a1.foldl crcUpd (crcUpd r a0) ^^^ bs.foldl crcUpd (crcUpd s b0) ^^^ cs.foldl crcUpd (crcUpd u c0)
    refine ih a1 bs cs _ _ _ _ ha hb hc ba.tail bb.tail bc.tail (fun i hi => hd (i + 1) (by simpa using hi)) ?_
    rw [upd_eq v d (by omega) (by omega), upd_eq r a0 ha0.1 ha0.2, upd_eq s b0 hb0.1 hb0.2, upd_eq u c0 hc0.1 hc0.2, ← steps_lin, ← steps_lin, h0, Int.toNat_natCast, hv, xor4 r, xor4 (r ^^^ s)]
/-- With another last byte it is another sum. -/
theorem crc_last {l : List Int} (h : By l) {x y : Int} (hx : 0 ≤ x ∧ x < 256) (hy : 0 ≤ y ∧ y < 256) : crcOf (l ++ [x]) = crcOf (l ++ [y]) ↔ x = y := by
  constructor
  · intro he
    rw [crcOf, crcOf, List.foldl_append, List.foldl_append] at he
    change crcUpd (crcOf l) x = crcUpd (crcOf l) y at he
    rw [upd_eq _ x hx.1 hx.2, upd_eq _ y hy.1 hy.2] at he
    have h2 := xor_zero_iff.2 he
    rw [← steps_lin, xor4, Nat.xor_self, Nat.zero_xor] at h2
    have := xor_zero_iff.1 (steps_inj0 8 (x := x.toNat ^^^ y.toNat) (Nat.xor_lt_two_pow (n := 32) (by omega) (by omega)) h2)
    omega
  · intro h; rw [h]
end Go.Proofs.YtdppjknfhggpbaaL

set_option linter.unusedVariables false
namespace Go.Proofs.YtdppjknfhggpbaaL
open Go Go.RowKit Go.Proofs.YtdppjknfhggpbaaG Go.Proofs.Ytdppjknfhggpbaa.P Go.Proofs.YtdppjknfhggpbaaW.PrintWords Go.Proofs.YtdppjknfhggpbaaW.PrintMore

theorem s_succ {a : Nat} (h : a < 100000000) : wrap64 ((a : Int) + 1) = ((a + 1 : Nat) : Int) := by unfold wrap64; omega
theorem s_two (a : Nat) : Int.tmod (a : Int) 2 = ((a % 2 : Nat) : Int) := by rw [Int.ofNat_tmod]; rfl
theorem s_half (a : Nat) (h : a < 4294967296) : Int.tdiv (a : Int) 2 % 4294967296 = ((a / 2 : Nat) : Int) := by rw [show Int.tdiv (a : Int) 2 = ((a / 2 : Nat) : Int) from by rw [Int.ofNat_tdiv]; rfl]; omega
theorem s_w1 {n : Nat} (h : n ≤ 1048576) : wrap64 (wrap64 (n : Int) + 4) = ((n + 4 : Nat) : Int) := by unfold wrap64; omega
theorem s_w2 {n : Nat} (h : n ≤ 1048576) : wrap64 (4 + wrap64 (n : Int)) = ((4 + n : Nat) : Int) := by unfold wrap64; omega
theorem s_w3 {n : Nat} (h : n ≤ 1048576) : (4 + (n : Int)) % 4294967296 = ((4 + n : Nat) : Int) := by omega
theorem s_step (r c : Nat) : ((if r % 2 = c % 2 then r / 2 else (r / 2) ^^^ 3945912366) ^^^ (c / 2)) = crcStep (r ^^^ c) := by
  rw [step_eq, Nat.xor_div_two, Nat.testBit_xor, Nat.testBit_zero, Nat.testBit_zero]
  have h1 := Nat.mod_two_eq_zero_or_one r
  have h2 := Nat.mod_two_eq_zero_or_one c
  rcases h1 with h1 | h1 <;> rcases h2 with h2 | h2 <;> rw [h1, h2] <;> simp
  · rw [Nat.xor_assoc, Nat.xor_comm 3945912366, ← Nat.xor_assoc]
  · rw [Nat.xor_assoc, Nat.xor_comm 3945912366, ← Nat.xor_assoc]
theorem rsum_l1 (x0 : List Int) (x4 : Int) (q : Nat) : ∀ (m j r c : Nat), j + m = 8 → r < 4294967296 → c < 2 ^ m →
    ratlineref05_Sum.l1 (m + 1 + q) x0 (r : Int) x4 (c : Int) (j : Int) = ratlineref05_Sum.l0 q x0 ((crcSteps m (r ^^^ c) : Nat) : Int) (wrap64 (x4 + 1)) := by
  intro m
  induction m with
  | zero =>
    intro j r c hj hr hc
    obtain rfl : j = 8 := by omega
    obtain rfl : c = 0 := by simpa using hc
    generalize hk : 0 + 1 + q = k
    obtain rfl : k = q + 1 := by omega
    simp only [ratlineref05_Sum.l1]
    rw [if_neg (by omega), Nat.xor_zero]
    rfl
  | succ m ih =>
    intro j r c hj hr hc
    generalize hk : m + 1 + q = k
    rw [show m + 1 + 1 + q = k + 1 from by omega]
    have hj1 : j < 100000000 := by omega
    have hc2 : c < 4294967296 := Nat.lt_of_lt_of_le hc (Nat.le_trans (Nat.pow_le_pow_right (by omega) (show m + 1 ≤ 8 by omega)) (by decide))
    have hc3 : c / 2 < 2 ^ m := by rw [Nat.pow_succ] at hc; omega
    simp only [ratlineref05_Sum.l1, s_succ hj1, s_two, s_half r hr, s_half c hc2]
    rw [if_pos (by omega), ← hk]
    have hst := s_step r c
    have hsp : crcSteps (m + 1) (r ^^^ c) = crcSteps m (crcStep (r ^^^ c)) := steps_add m 1 _
    rw [hsp, ← hst]
    by_cases h : r % 2 = c % 2
    · rw [if_pos (by omega), if_pos h]
      exact ih (j + 1) (r / 2) (c / 2) (by omega) (by omega) hc3
    · have hx : (r / 2) ^^^ 3945912366 < 4294967296 := Nat.xor_lt_two_pow (n := 32) (by omega) (by omega)
      rw [if_neg (by omega), if_neg h, show bits .xor .u32 ((r / 2 : Nat) : Int) 3945912366 = (((r / 2) ^^^ 3945912366 : Nat) : Int) from bits_xor_u32 (r / 2) 3945912366 (by omega) (by omega)]
      exact ih (j + 1) _ (c / 2) (by omega) hx hc3
theorem rsum_l0 (l : List Int) (hb : By l) (hl : l.length < 1000000) (q : Nat) : ∀ (n j : Nat), j + n = l.length → ratlineref05_Sum.l0 (10 * n + 1 + q) l ((((l.take j).foldl crcUpd 4294967295 : Nat)) : Int) (j : Int) = some (crcOf l : Int) := by
  intro n
  induction n with
  | zero =>
    intro j hj
    obtain rfl : j = l.length := by omega
    generalize hk : 10 * 0 + 1 + q = k
    obtain rfl : k = q + 1 := by omega
    simp only [ratlineref05_Sum.l0]
    rw [if_neg (by omega), List.take_length]
    rfl
  | succ n ih =>
    intro j hj
    have hlt : j < l.length := by omega
    generalize hq' : 10 * n + 1 + q = q'
    rw [show 10 * (n + 1) + 1 + q = (8 + 1 + q') + 1 from by omega]
    generalize hk : 8 + 1 + q' = k
    simp only [ratlineref05_Sum.l0]
    have hm := hb _ (List.getElem_mem hlt)
    have hrd : rd l (j : Int) = l[j] := by unfold rd; rw [Int.toNat_natCast, List.getD_eq_getElem?_getD, List.getElem?_eq_getElem hlt]; rfl
    have hc : l[j] % 4294967296 = ((l[j].toNat : Nat) : Int) := by omega
    have hr : (l.take j).foldl crcUpd 4294967295 < 4294967296 := crcFold_lt _ _ (by omega) (hb.take j)
    rw [if_pos (by omega), if_pos (by omega), hrd, hc, ← hk]
    have h8 := rsum_l1 l (j : Int) q' 8 0 ((l.take j).foldl crcUpd 4294967295) l[j].toNat (by omega) hr (by omega)
    refine h8.trans ?_
    rw [s_succ (by omega), ← upd_eq _ _ hm.1 hm.2]
    have hnext : (l.take (j + 1)).foldl crcUpd 4294967295 = crcUpd ((l.take j).foldl crcUpd 4294967295) l[j] := by
      rw [List.take_succ_eq_append_getElem hlt, List.foldl_append]; rfl
    rw [← hnext, ← hq']
    exact ih (j + 1) (by omega)
theorem rsum_f {l : List Int} (hb : By l) (hl : l.length ≤ 2000) (k : Nat) : ratlineref05_Sum.f (k + 20001) l = some (crcOf l : Int) := by
  unfold ratlineref05_Sum.f
  have := rsum_l0 l hb (by omega) (k + 20000 - 10 * l.length) l.length 0 (by omega)
  rw [show 10 * l.length + 1 + (k + 20000 - 10 * l.length) = k + 20001 from by omega] at this
  exact this
theorem rseal_f {l : List Int} (h : By l) (hl : l.length ≤ 1000) (k : Nat) : ratlineref05_Seal.f (k + 20001) l = some (fseal l) := by
  unfold ratlineref05_Seal.f
  rw [if_neg (by omega), show ((l.length : Int)) % 4294967296 = (l.length : Int) from by omega]
  refine bind1 (rputFour_f (by omega) (by omega) (by rw [List.length_nil]; omega)) ?_
  rw [List.nil_append, if_pos (by rw [four_len]; omega)]
  refine bind1 rfl ?_
  refine bind1 (rsum_f (body_by h) (by rw [body_len]; omega) k) ?_
  refine bind1 (rputFour_f (crcOf_lt (body_by h)) (by omega) (by rw [List.length_append, four_len]; omega)) ?_
  rfl
/-- What bytes begin with, as the document tells it. -/
theorem rtakeF_f (k : Nat) {l : List Int} (hb : By l) (hl : l.length ≤ 1000) : ratlineref05_Take.f (k + 20002) l = frame_Take.f (k + 1) l := by
  have hj : ∀ q x y z, frame_Take.j0 (q + 1) x y z true = some ([], [], 50) := fun q x y z => by
    simp only [frame_Take.j0]
    rw [if_pos trivial]
  have hj2 : ∀ q x y z, ratlineref05_Take.j0 (q + 1) x y z true = some ([], [], 50) := fun q x y z => by
    simp only [ratlineref05_Take.j0]
    rw [if_pos trivial]
  unfold frame_Take.f ratlineref05_Take.f
  rw [rtakeFour_f hb (by omega) (by omega)]
  rcases takeFour_cases l hb (by omega) with ⟨h4, hf⟩ | ⟨h4, n, rest, hn, he, hf⟩
  · refine bind3 hf (fun t e1 e2 e3 => ?_)
    rw [if_neg (by rw [e3]; decide)]
    symm
    refine bind3 hf (fun u f1 f2 f3 => ?_)
    rw [if_neg (by rw [f3]; decide)]
    exact (hj k _ _ _).trans (hj2 (k + 20001) _ _ _).symm
  · have hr : By rest := By.right (he ▸ hb)
    have hlen : l.length = 4 + rest.length := by rw [he, List.length_append, four_len]
    refine bind3 hf (fun t e1 e2 e3 => ?_)
    symm
    refine bind3 hf (fun u f1 f2 f3 => ?_)
    rw [if_pos e3, if_pos f3, e1, f1, e2, f2]
    by_cases h1 : (n : Int) > 1048576
    · rw [if_pos h1, if_pos h1]
      exact (hj k _ _ _).trans (hj2 (k + 20001) _ _ _).symm
    · rw [if_neg h1, if_neg h1]
      have hn1 : n ≤ 1048576 := by omega
      rw [s_w1 hn1]
      by_cases h2 : rest.length < n + 4
      · rw [decide_eq_true (by omega)]
        exact (hj k _ _ _).trans (hj2 (k + 20001) _ _ _).symm
      · rw [decide_eq_false (by omega)]
        have hdr : By (rest.drop n) := hr.drop n
        have hdl : (rest.drop n).length = rest.length - n := List.length_drop
        rcases takeFour_cases (rest.drop n) hdr (by omega) with ⟨h5, _⟩ | ⟨h5, m, behind, hm, he2, hf2⟩
        · omega
        have hby : By (l.take (4 + n)) := hb.take _
        generalize hK : k + 20001 = K
        rw [show k + 20002 = K + 1 from by omega]
        simp only [frame_Take.j0, ratlineref05_Take.j0, s_w2 hn1, s_w3 hn1]
        simp only [Bool.false_eq_true, if_false]
        rw [if_pos (by omega), if_pos (by omega), if_pos (by omega), if_pos (by omega), Int.toNat_natCast, Int.toNat_natCast]
        rw [rtakeFour_f hdr (by omega) (by omega)]
        refine bind3 hf2 (fun u f1 f2 f3 => ?_)
        rw [if_pos (by omega), if_pos (by omega)]
        refine bind1 (sum_f hby) ?_
        symm
        refine bind1 rfl ?_
        refine bind3 hf2 (fun v g1 g2 g3 => ?_)
        have hs := rsum_f hby (by rw [List.length_take]; omega) k
        rw [hK] at hs
        rw [if_pos (by omega), if_pos (by omega)]
        refine bind1 hs ?_
        rw [f1, f2, g1, g2]
        by_cases hsum : (m : Int) = (crcOf (l.take (4 + n)) : Int)
        · rw [if_pos hsum, if_pos hsum, if_pos (by rw [List.length_take]; simp; omega)]
          symm
          exact bind1 (clone_f (by rw [List.length_take]; omega)) rfl
        · rw [if_neg hsum, if_neg hsum]
end Go.Proofs.YtdppjknfhggpbaaL

set_option linter.unusedVariables false
namespace Go.Proofs.Ytdppjknfhggpbaa.Pure
open Go Go.RowKit Go.Proofs.Ytdppjknfhggpbaa.P Go.Proofs.YtdppjknfhggpbaaG Go.Proofs.YtdppjknfhggpbaaL Go.Proofs.YtdppjknfhggpbaaW.PrintWords Go.Proofs.YtdppjknfhggpbaaW.PrintLast

theorem tells_take {l : List Int} (hb : By l) (hl : l.length ≤ 1000) (q : Nat) : ∃ (a b : List Int) (e : Int), By a ∧ By b ∧ frame_Take.f (q + 20002) l = some (a, b, e) ∧ ratlineref05_Take.f (q + 20002) l = some (a, b, e) := by
  have hr := rtakeF_f (q + 20001) hb hl
  have hr2 := rtakeF_f q hb hl
  rcases frame_cases q l hb (by omega) with ⟨b, r, hbl, he, hf⟩ | ⟨hf, hno⟩
  · have h1 : By b := By.left (b := four (crcOf (four b.length ++ b)) ++ r) (By.right (a := four b.length) (by have := he ▸ hb; unfold fseal at this; rw [show body b = four b.length ++ b from rfl] at this; simpa only [List.append_assoc] using this))
    have h2 : By r := By.right (he ▸ hb)
    refine ⟨b, r, 0, h1, h2, ?_, by rw [hr2, hf]⟩
    rw [he]
    have hlen := congrArg List.length he
    rw [List.length_append, seal_len] at hlen
    exact take_fseal (q + 20001) h1 h2 hbl (by omega)
  · refine ⟨[], [], 50, .nil, .nil, ?_, by rw [hr2, hf]⟩
    rcases frame_cases (q + 20001) l hb (by omega) with ⟨b, r, hbl, he, _⟩ | ⟨hf, _⟩
    · exact absurd he (hno b r hbl)
    · exact hf
theorem tells_l0 (ls : List (List Int)) (hb : ∀ l ∈ ls, By l) (hl : ∀ l ∈ ls, l.length ≤ 1000) (hn : ls.length ≤ 10) (q : Nat) : ∀ (m j : Nat), j + m = ls.length →
    ratlinelaw05_FrameTells.l0 (m + q + 20003) ls (ls.length : Int) (j : Int) = some true := by
  intro m
  induction m with
  | zero =>
    intro j hj
    obtain rfl : j = ls.length := by omega
    generalize hk : 0 + q + 20002 = k
    rw [show 0 + q + 20003 = k + 1 from by omega]
    simp only [ratlinelaw05_FrameTells.l0]
    rw [if_neg (by omega), show k = (q + 20001) + 1 from by omega, awake05]
    rfl
  | succ m ih =>
    intro j hj
    have hlt : j < ls.length := by omega
    obtain ⟨a, b, e, ha, hb2, hf, hrf⟩ := tells_take (hb _ (List.getElem_mem hlt)) (hl _ (List.getElem_mem hlt)) (m + 1 + q)
    generalize hk : m + 1 + q + 20002 = k at hf hrf
    rw [show m + 1 + q + 20003 = k + 1 from by omega]
    have hj1 : j < 100000000 := by omega
    simp only [ratlinelaw05_FrameTells.l0, s_succ hj1]
    have hrd : rd_L1 ls (j : Int) = ls[j] := by
      show ls.getD ((j : Int)).toNat _ = _
      rw [Int.toNat_natCast, List.getD_eq_getElem?_getD, List.getElem?_eq_getElem hlt]
      rfl
    rw [if_pos (by omega), if_pos (by omega), if_pos (by omega), hrd]
    refine bind3 hf (fun t e1 e2 e3 => ?_)
    refine bind3 hrf (fun u f1 f2 f3 => ?_)
    rw [e1, e2, e3, f1, f2, f3, if_pos rfl]
    refine bind1 (same_f ha ha) ?_
    rw [decide_eq_true rfl, if_pos rfl]
    refine bind1 (same_f hb2 hb2) ?_
    rw [decide_eq_true rfl, if_pos rfl]
    have := ih (j + 1) (by omega)
    rwa [show m + q + 20003 = k from by omega] at this
theorem FrameTells (x : List Int) (_ : x.length ≤ maxLen) (_ : x.length * 1 ≤ 140737488351232) (hx0 : ∀ c ∈ x, (Lit.int .u8 c).wf = true) (y : List Int) (_ : y.length ≤ maxLen) (_ : y.length * 1 ≤ 140737488351232) (hy0 : ∀ c ∈ y, (Lit.int .u8 c).wf = true) :
    ∃ k, ratlinelaw05_FrameTells.f k x y = some true := by
  have hx := By.of_wf hx0
  have hy := By.of_wf hy0
  refine ⟨20020, ?_⟩
  have hawake : ratlinelaw05_FrameTells.j0 20020 x y true = some true := by
    generalize hz : 20019 = z
    rw [show 20020 = z + 1 from by omega]
    simp only [ratlinelaw05_FrameTells.j0]
    subst hz
    rw [if_pos trivial, awake05]
    rfl
  unfold ratlinelaw05_FrameTells.f
  by_cases c1 : (x.length : Int) > 300
  · rw [if_pos c1]; exact hawake
  · rw [if_neg c1]
    by_cases c2 : (y.length : Int) > 300
    · rw [decide_eq_true c2]; exact hawake
    · rw [decide_eq_false c2]
      have hsl := seal_len x
      have hse := rseal_f hx (by omega) 18
      have hsu := rsum_f hx (by omega) 18
      generalize hz : 18 + 20001 = z at hse hsu
      rw [show 20020 = z + 1 from by omega]
      simp only [ratlinelaw05_FrameTells.j0]
      rw [if_neg (by decide)]
      refine bind1 hse ?_
      refine bind1 (sum_f hx) ?_
      refine bind1 hsu ?_
      rw [if_pos rfl]
      refine bind1 (seal_f hx (by omega)) ?_
      refine bind1 (same_f (seal_by hx) (seal_by hx)) ?_
      rw [decide_eq_true rfl]
      obtain ⟨z2, rfl⟩ : ∃ z2, z = z2 + 1 := ⟨z - 1, by omega⟩
      simp only [ratlinelaw05_FrameTells.j1]
      rw [if_neg (by decide)]
      refine bind1 rfl ?_
      rw [List.nil_append, if_pos (by simp; omega)]
      refine bind1 rfl ?_
      rw [if_pos (by omega)]
      refine bind1 rfl ?_
      have hz2 : z2 = 3 + 12 + 20003 := by omega
      rw [hz2]
      refine tells_l0 [x, fseal x, fseal x ++ y] (fun l h => ?_) (fun l h => ?_) (show 3 ≤ 10 by decide) 12 3 0 rfl
      · simp only [List.mem_cons, List.not_mem_nil, or_false] at h
        rcases h with rfl | rfl | rfl
        · exact hx
        · exact seal_by hx
        · exact (seal_by hx).append hy
      · simp only [List.mem_cons, List.not_mem_nil, or_false] at h
        rcases h with rfl | rfl | rfl
        · omega
        · omega
        · rw [List.length_append]; omega
end Go.Proofs.Ytdppjknfhggpbaa.Pure
