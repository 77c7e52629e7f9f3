/- Proved here: the row of IkeyTells, and what it needs. Conditions: those of each theorem. Written for this claim by programs; what the claim does not use is left out. -/
import Derived.ChangeArms
import Derived.DataReads
import Derived.DataElems
import Derived.OpenShut
import Derived.SizedLaws
import Derived.Lib.Strings
import Derived.Test.YtojemmipkpckbaaRows
import Derived.WalkKit
import Derived.ProofKit
import Derived.ShutString
import Derived.ChangeOld
import Derived.Below
import Derived.Test.YtojemmipkpckbaaSIkeyTells5
section
set_option linter.unusedVariables false
namespace Go.Proofs.YtojemmipkpckbaaG
open Go Go.RowKit Go.Proofs.YtojemmipkpckbaaW.PrintWords

/-- What is trodden of this type is of this kind, and is right. -/
def Opens {α : Type} (P : Program) (t : TypeId) (d : Kd α) (wf : α → Prop) : Prop :=
  ∀ (H : Type) (enc : TypeId × Value → H) (w : World) (base : Nat) (sp : Nat → Bool) (held : Bool) (fuel : Nat) (cs : List Value) (x : DataW H × List MemPlace),
    DataW.trod enc P w base sp held fuel t cs = some x → ∃ a, d.K w a cs ∧ wf a
section
variable {P : Program} {t e : TypeId}
theorem opens_int {k : IntKind} (ht : P.underlying t = some (.int k)) : Opens P t (Kd.int k) (fun n => (Lit.int k n).wf = true) := by
  intro H enc w base sp held fuel cs x h
  obtain ⟨n, rfl, _, hw⟩ := DataW.trod_int ht h
  exact ⟨n, rfl, hw⟩
theorem opens_string (ht : P.underlying t = some .string) : Opens P t Kd.string (fun s => s.size ≤ maxLen) := by
  intro H enc w base sp held fuel cs x h
  obtain ⟨n, rfl, _, hm⟩ := DataW.trod_string ht h
  exact ⟨n, rfl, hm⟩
theorem build {α : Type} {Q : Nat → α → Prop} : ∀ n : Nat, (∀ i, i < n → ∃ a, Q i a) → ∃ l : List α, l.length = n ∧ ∀ i a, l[i]? = some a → Q i a := by
  intro n
  induction n with
  | zero => intro _; exact ⟨[], rfl, fun i a h => by simp at h⟩
  | succ n ih =>
    intro h
    obtain ⟨l, hl, hq⟩ := ih (fun i hi => h i (by omega))
    obtain ⟨a, ha⟩ := h n (by omega)
    refine ⟨l ++ [a], by simp [hl], fun i b hb => ?_⟩
    by_cases hi : i < n
    · rw [List.getElem?_append_left (by omega)] at hb
      exact hq i b hb
    · rw [List.getElem?_append_right (by omega)] at hb
      by_cases hin : i = n
      · subst hin
        rw [hl, Nat.sub_self] at hb
        simp at hb
        exact hb ▸ ha
      · rw [List.getElem?_eq_none (by simp; omega)] at hb
        cases hb
theorem opens_row {α : Type} {d : Kd α} {wf : α → Prop} (hc : P.cellsOf e = d.sz) (ht : P.underlying t = some (.slice e)) (he : Opens P e d wf)
    {H : Type} {enc : TypeId × Value → H} {w : World} {base : Nat} {sp : Nat → Bool} {held : Bool} {fuel : Nat} {cs : List Value} {x : DataW H × List MemPlace} (h : DataW.trod enc P w base sp held fuel t cs = some x) :
    ∃ (A : Option Addr) (c : Nat) (xs : List α), cs = [.slice A xs.length c] ∧ xs.length ≤ c ∧ c ≤ maxLen ∧ d.C w A xs.length xs ∧ ∀ a ∈ xs, wf a := by
  rcases DataW.trod_slice ht h with ⟨rfl, _⟩ | ⟨ad, len, cap, elems, rest, n, _, rfl, _, hb, hl, hm, hn, hel, _, _⟩
  · exact ⟨none, 0, [], rfl, Nat.le_refl _, by decide, Kd.C_nil d w, fun a ha => by cases ha⟩
  · obtain ⟨xs, hxl, hx⟩ := build (Q := fun i a => wf a ∧ ∃ c, c.length = d.sz ∧ d.K w a c ∧ ∀ j u, c[j]? = some u → w.cell? (ad.add (i * d.sz + j)) = some u) len (fun i hi => by
      have h1 := hel i hi
      rw [List.getElem?_eq_getElem (by omega)] at h1
      obtain ⟨cs', hcs, htr⟩ := Option.bind_eq_some_iff.1 h1
      obtain ⟨a, ha, hw⟩ := he H enc w base sp held n cs' _ htr
      have hlen := d.K_len ha
      obtain ⟨_, hlen2, hcell⟩ := World.cells?_some hcs
      refine ⟨a, hw, cs', hlen, ha, fun j u hj => ?_⟩
      have hjl : j < cs'.length := by
        by_cases hjl : j < cs'.length
        · exact hjl
        · rw [List.getElem?_eq_none (by omega)] at hj; cases hj
      have h2 := hcell j (by omega)
      rw [hc] at h2
      have hadd : (ad.add (i * d.sz)).add j = ad.add (i * d.sz + j) := Addr.add_add ad _ _
      rw [← hadd, h2, hj])
    have hmax : maxLen ≤ 9223372036854775807 := by decide
    refine ⟨some ad, cap, xs, by rw [hxl], by omega, hm, ⟨rfl, by omega, fun _ => ⟨ad, rfl, fun j p hp => (hx j p hp).2⟩⟩, fun a ha => ?_⟩
    obtain ⟨i, hi⟩ := List.mem_iff_getElem?.1 ha
    exact (hx i a hi).1
theorem Opens.iso {α β : Type} {d : Kd α} {wf : α → Prop} (h : Opens P t d wf) (f : β → α) (g : α → β) (hfg : ∀ a, f (g a) = a) : Opens P t (Kd.iso d f) (fun b => wf (f b)) := by
  intro H enc w base sp held fuel cs x htr
  obtain ⟨a, ha, hw⟩ := h H enc w base sp held fuel cs x htr
  exact ⟨g a, by show d.K w (f (g a)) cs; rw [hfg]; exact ha, by show wf (f (g a)); rw [hfg]; exact hw⟩
end

/-- A field of a struct. -/
theorem opens_field {α : Type} {P : Program} {t e : TypeId} {fs : Array Field} {d : Kd α} {wf : α → Prop} {off i : Nat} {f : Field} (ht : P.underlying t = some (.struct fs)) (hi : fs[i]? = some f) (hft : f.type = e) (hfo : f.offset = off) (hc : P.cellsOf e = d.sz) (he : Opens P e d wf)
    {H : Type} {enc : TypeId × Value → H} {w : World} {base : Nat} {sp : Nat → Bool} {held : Bool} {fuel : Nat} {cs : List Value} {x : DataW H × List MemPlace} (h : DataW.trod enc P w base sp held fuel t cs = some x) :
    ∃ a, d.K w a ((cs.drop off).take d.sz) ∧ wf a := by
  obtain ⟨xs, n, _, _, _, hn, hf⟩ := DataW.trod_struct ht h
  have h1 := hf i f hi
  have hil : i < xs.length := by
    rw [hn]
    exact (Array.getElem?_eq_some_iff.1 hi).1
  rw [List.getElem?_eq_getElem hil, hft, hfo, hc] at h1
  exact he H enc w base sp held n _ _ h1
theorem opens_cells {P : Program} {t : TypeId} {fs : Array Field} (ht : P.underlying t = some (.struct fs)) {H : Type} {enc : TypeId × Value → H} {w : World} {base : Nat} {sp : Nat → Bool} {held : Bool} {fuel : Nat} {cs : List Value} {x : DataW H × List MemPlace} (h : DataW.trod enc P w base sp held fuel t cs = some x) :
    cs.length = P.cellsOf t := by
  obtain ⟨xs, n, _, _, hl, _⟩ := DataW.trod_struct ht h
  exact hl
theorem opens_struct2 {α β : Type} {P : Program} {t ta tb : TypeId} {fs : Array Field} {a : Kd α} {b : Kd β} {wa : α → Prop} {wb : β → Prop} (ht : P.underlying t = some (.struct fs)) (hc : P.cellsOf t = a.sz + b.sz)
    (f0 : (fs[0]?).map (fun f => (f.type, f.offset)) = some (ta, 0)) (f1 : (fs[1]?).map (fun f => (f.type, f.offset)) = some (tb, a.sz)) (ca : P.cellsOf ta = a.sz) (cb : P.cellsOf tb = b.sz) (oa : Opens P ta a wa) (ob : Opens P tb b wb) :
    Opens P t (Kd.pair a b) (fun x => wa x.1 ∧ wb x.2) := by
  intro H enc w base sp held fuel cs x h
  obtain ⟨g0, e0, q0⟩ := Option.map_eq_some_iff.1 f0
  obtain ⟨g1, e1, q1⟩ := Option.map_eq_some_iff.1 f1
  simp only [Prod.mk.injEq] at q0 q1
  obtain ⟨x0, k0, w0⟩ := opens_field ht e0 q0.1 q0.2 ca oa h
  obtain ⟨x1, k1, w1⟩ := opens_field ht e1 q1.1 q1.2 cb ob h
  have hl := opens_cells ht h
  have hsp : (cs.drop a.sz).take b.sz = cs.drop a.sz := List.take_of_length_le (by rw [List.length_drop]; omega)
  rw [List.drop_zero] at k0
  rw [hsp] at k1
  exact ⟨(x0, x1), ⟨cs.take a.sz, cs.drop a.sz, (List.take_append_drop _ _).symm, k0, k1⟩, w0, w1⟩
theorem opens_struct3 {α β γ : Type} {P : Program} {t ta tb tc : TypeId} {fs : Array Field} {a : Kd α} {b : Kd β} {c : Kd γ} {wa : α → Prop} {wb : β → Prop} {wc : γ → Prop} (ht : P.underlying t = some (.struct fs)) (hc : P.cellsOf t = a.sz + (b.sz + c.sz))
    (f0 : (fs[0]?).map (fun f => (f.type, f.offset)) = some (ta, 0)) (f1 : (fs[1]?).map (fun f => (f.type, f.offset)) = some (tb, a.sz)) (f2 : (fs[2]?).map (fun f => (f.type, f.offset)) = some (tc, a.sz + b.sz)) (ca : P.cellsOf ta = a.sz) (cb : P.cellsOf tb = b.sz) (cc : P.cellsOf tc = c.sz) (oa : Opens P ta a wa) (ob : Opens P tb b wb) (oc : Opens P tc c wc) :
    Opens P t (Kd.pair a (Kd.pair b c)) (fun x => wa x.1 ∧ wb x.2.1 ∧ wc x.2.2) := by
  intro H enc w base sp held fuel cs x h
  obtain ⟨g0, e0, q0⟩ := Option.map_eq_some_iff.1 f0
  obtain ⟨g1, e1, q1⟩ := Option.map_eq_some_iff.1 f1
  obtain ⟨g2, e2, q2⟩ := Option.map_eq_some_iff.1 f2
  simp only [Prod.mk.injEq] at q0 q1 q2
  obtain ⟨x0, k0, w0⟩ := opens_field ht e0 q0.1 q0.2 ca oa h
  obtain ⟨x1, k1, w1⟩ := opens_field ht e1 q1.1 q1.2 cb ob h
  obtain ⟨x2, k2, w2⟩ := opens_field ht e2 q2.1 q2.2 cc oc h
  have hl := opens_cells ht h
  have hsp : (cs.drop (a.sz + b.sz)).take c.sz = (cs.drop a.sz).drop b.sz := by rw [List.take_of_length_le (by rw [List.length_drop]; omega), List.drop_drop]
  rw [List.drop_zero] at k0
  rw [hsp] at k2
  exact ⟨(x0, x1, x2), ⟨cs.take a.sz, cs.drop a.sz, (List.take_append_drop _ _).symm, k0, _, _, (List.take_append_drop b.sz _).symm, k1, k2⟩, w0, w1, w2⟩
/-- A struct as an argument. -/
theorem opens_agg {P : Program} {t : TypeId} {fs : Array Field} {w : World} {r : Reach} {base : Nat} {v : Value} (ht : P.underlying t = some (.struct fs)) (h : Value.okWide P w r base t v) : ∃ cs, v = .agg cs := by
  unfold Value.okWide at h
  rw [ht] at h
  obtain ⟨cs, hv, _⟩ := h
  exact ⟨cs, hv⟩
/-- A row's slice is no longer than its weight allows. -/
theorem sized_row {H : Type} {enc : TypeId × Value → H} {P : Program} {W : World} {base : Nat} {spare : Nat → Bool} {held : Bool} {t e : TypeId} {a : Option Addr} {len cap : Nat} {d : DataW H} {ps : List MemPlace} {ts : List TypeId} {ds : List (DataW H)} {j : Nat}
    (hsz : (DataW.weightsEach P ts ds).all (· ≤ reachBytes) = true) (ht : ts[j]? = some t) (hd : ds[j]? = some d) (hu : P.underlying t = some (.slice e)) (B : Nat) (hB : P.bytesOf e = B)
    (h : DataW.Trod enc P W base spare held t (.slice a len cap) d ps) : len * B ≤ 140737488351232 := by
  obtain ⟨fuel, hf⟩ := h
  rcases DataW.trod_slice hu hf with ⟨hcs, _⟩ | ⟨ad, l, c, elems, rest, n, _, hcs, hx, _, _, _, hn, _⟩
  · simp only [Value.cells, List.cons.injEq, Value.slice.injEq, and_true] at hcs
    obtain ⟨rfl, rfl, rfl⟩ := hcs
    rw [Nat.zero_mul]; omega
  · simp only [Value.cells, List.cons.injEq, Value.slice.injEq, and_true] at hcs
    obtain ⟨rfl, rfl, rfl⟩ := hcs
    obtain ⟨hx, _⟩ := Prod.mk.inj hx
    subst hx
    have z := sized_slice hsz ht hd hu
    rw [hB, List.length_map, List.length_map] at z
    exact Nat.le_trans (Nat.mul_le_mul_right _ (by omega)) z
end Go.Proofs.YtojemmipkpckbaaG

set_option linter.unusedVariables false
namespace Go.Proofs.YtojemmipkpckbaaL
open Go Go.RowKit Go.Proofs.YtojemmipkpckbaaG Go.Proofs.YtojemmipkpckbaaW.PrintWords

theorem bind3 {α β γ δ : Type} {o : Option (α × β × γ)} {a : α} {b : β} {c : γ} {f : α × β × γ → Option δ} {r : Option δ} (h : o = some (a, b, c)) (k : ∀ t, t.1 = a → t.2.1 = b → t.2.2 = c → f t = r) : o.bind f = r := by
  rw [h]
  exact k _ rfl rfl rfl
theorem bind1 {α δ : Type} {o : Option α} {a : α} {f : α → Option δ} {r : Option δ} (h : o = some a) (k : f a = r) : o.bind f = r := by
  rw [h]
  exact k
/-- Bytes. -/
def By (l : List Int) : Prop := ∀ c ∈ l, 0 ≤ c ∧ c < 256
theorem By.nil : By [] := fun c h => by cases h
theorem By.cons {c : Int} {l : List Int} (h0 : 0 ≤ c) (h1 : c < 256) (h : By l) : By (c :: l) := fun d hd => by
  rcases List.mem_cons.1 hd with rfl | hd
  · exact ⟨h0, h1⟩
  · exact h d hd
theorem By.append {a b : List Int} (ha : By a) (hb : By b) : By (a ++ b) := fun c h => (List.mem_append.1 h).elim (ha c) (hb c)
theorem By.right {a b : List Int} (h : By (a ++ b)) : By b := fun c hc => h c (List.mem_append_right _ hc)
theorem By.take {l : List Int} (h : By l) (n : Nat) : By (l.take n) := fun c hc => h c (List.mem_of_mem_take hc)
theorem By.drop {l : List Int} (h : By l) (n : Nat) : By (l.drop n) := fun c hc => h c (List.mem_of_mem_drop hc)
theorem By.tail {c : Int} {l : List Int} (h : By (c :: l)) : By l := fun d hd => h d (List.mem_cons_of_mem _ hd)
theorem By.head {c : Int} {l : List Int} (h : By (c :: l)) : 0 ≤ c ∧ c < 256 := h c (List.mem_cons_self ..)
theorem By.of_wf {l : List Int} (h : ∀ x ∈ l, (Lit.int .u8 x).wf = true) : By l := fun c hc => by
  have := h c hc
  simp [Lit.wf, IntKind.min, IntKind.max, IntKind.bits, IntKind.signed] at this
  omega

theorem vint_small {x : Nat} (h : ¬ 127 < x) : vint x = [(x : Int)] := by rw [vint, dif_neg h]
theorem vint_big {x : Nat} (h : 127 < x) : vint x = ((x % 128 + 128 : Nat) : Int) :: vint (x / 128) := by rw [vint, dif_pos h]
theorem vint_pos (x : Nat) : 0 < (vint x).length := by
  by_cases h : 127 < x
  · rw [vint_big h]; simp
  · rw [vint_small h]; simp
theorem vint_by (x : Nat) : By (vint x) := by
  induction x using Nat.strongRecOn with
  | ind x ih =>
    by_cases h : 127 < x
    · rw [vint_big h]
      exact .cons (by omega) (by omega) (ih _ (by omega))
    · rw [vint_small h]
      exact .cons (by omega) (by omega) .nil
theorem val7_vint (x : Nat) : val7 (vint x) = x := by
  induction x using Nat.strongRecOn with
  | ind x ih =>
    by_cases h : 127 < x
    · rw [vint_big h, val7, ih _ (by omega)]; omega
    · rw [vint_small h, val7, val7]; omega
theorem vint_inj {x y : Nat} (h : vint x = vint y) : x = y := by rw [← val7_vint x, h, val7_vint]
theorem findIdx_vint (x : Nat) (rest : List Int) : (vint x ++ rest).findIdx (· < 128) = (vint x).length - 1 := by
  induction x using Nat.strongRecOn with
  | ind x ih =>
    by_cases h : 127 < x
    · have hp := vint_pos (x / 128)
      rw [vint_big h, List.cons_append, List.findIdx_cons, ih _ (by omega)]
      have : decide ((((x % 128 + 128 : Nat) : Int)) < 128) = false := decide_eq_false (by omega)
      rw [this]
      simp only [cond_false, List.length_cons]
      omega
    · rw [vint_small h, List.cons_append, List.findIdx_cons]
      have : decide ((x : Int) < 128) = true := decide_eq_true (by omega)
      rw [this]
      simp
theorem vint_last (x : Nat) (rest : List Int) (hx : 0 < x) : (vint x ++ rest).getD ((vint x).length - 1) 0 ≠ 0 := by
  induction x using Nat.strongRecOn with
  | ind x ih =>
    by_cases h : 127 < x
    · have hp := vint_pos (x / 128)
      have := ih (x / 128) (by omega) (by omega)
      rw [vint_big h, List.cons_append, List.length_cons]
      obtain ⟨m, hm⟩ : ∃ m, (vint (x / 128)).length = m + 1 := ⟨_, (Nat.succ_pred_eq_of_pos hp).symm⟩
      rw [hm] at this ⊢
      simpa using this
    · rw [vint_small h]; simp; omega
theorem vint_top (m : Nat) (hm : m ≤ 128) (rest : List Int) : ∀ n x, x < 128 ^ n * m → (vint x).length = n + 1 → (vint x ++ rest).getD n 0 < m := by
  intro n
  induction n with
  | zero =>
    intro x hx hl
    have h : ¬ 127 < x := by simp at hx; omega
    rw [vint_small h]
    simp at hx ⊢
    omega
  | succ n ih =>
    intro x hx hl
    by_cases h : 127 < x
    · rw [vint_big h] at hl ⊢
      have hl' : (vint (x / 128)).length = n + 1 := by simpa using hl
      have := ih (x / 128) (by rw [Nat.pow_succ] at hx; rw [Nat.div_lt_iff_lt_mul (by omega)]; calc x < 128 ^ n * 128 * m := hx
        _ = 128 ^ n * m * 128 := by rw [Nat.mul_assoc, Nat.mul_comm 128 m, ← Nat.mul_assoc]) hl'
      simpa using this
    · rw [vint_small h] at hl
      simp at hl
theorem takeOk_vint (x : Nat) (rest : List Int) (hx : x < 18446744073709551616) : takeOk (vint x ++ rest) = true := by
  have hp := vint_pos x
  have hl := vint_len10 hx
  unfold takeOk
  rw [findIdx_vint]
  have h1 : (vint x).length - 1 < (vint x ++ rest).length := by rw [List.length_append]; omega
  have h3 : ¬ (0 < (vint x).length - 1 ∧ (vint x ++ rest).getD ((vint x).length - 1) 0 = 0) := by
    rintro ⟨h0, h⟩
    refine vint_last x rest ?_ h
    rcases Nat.eq_zero_or_pos x with rfl | h'
    · rw [vint_small (by omega)] at h0; simp at h0
    · exact h'
  have h4 : ¬ ((vint x).length - 1 = 9 ∧ 1 < (vint x ++ rest).getD 9 0) := by
    rintro ⟨h0, h⟩
    have := vint_top 2 (by omega) rest 9 x (by have : (128 : Nat) ^ 9 * 2 = 18446744073709551616 := by decide
                                               omega) (by omega)
    omega
  simp only [h1, decide_true, Bool.true_and, Bool.and_eq_true, Bool.not_eq_true', Bool.and_eq_false_iff, decide_eq_false_iff_not, decide_eq_true_eq]
  refine ⟨⟨by omega, ?_⟩, ?_⟩
  · by_cases h0 : 0 < (vint x).length - 1
    · exact .inr (fun h => h3 ⟨h0, h⟩)
    · exact .inl h0
  · by_cases h0 : (vint x).length - 1 = 9
    · exact .inr (fun h => h4 ⟨h0, h⟩)
    · exact .inl h0

/-- What is put is taken. -/
theorem take_vint (x : Nat) (rest : List Int) (hx : x < 18446744073709551616) (hr : By rest) (hl : rest.length + 10 < 140737488355328) :
    nums_Take.f (vint x ++ rest) = some ((x : Int), rest, true) := by
  have hp := vint_pos x
  have hl10 := vint_len10 hx
  unfold nums_Take.f
  rw [if_pos ⟨(vint_by x).append hr, by rw [List.length_append]; omega⟩, if_pos (takeOk_vint x rest hx), findIdx_vint]
  have e : (vint x).length - 1 + 1 = (vint x).length := by omega
  rw [e, List.take_left, List.drop_left, val7_vint]

theorem val7_pos : ∀ (l : List Int) (i : Nat), By l → l.findIdx (· < 128) = i → i < l.length → l.getD i 0 ≠ 0 → 0 < val7 (l.take (i + 1))
  | [], i, _, _, hl, _ => by simp at hl
  | c :: cs, i, hb, hi, hl, h0 => by
    have hc := hb.head
    rw [List.findIdx_cons] at hi
    by_cases h : c < 128
    · rw [decide_eq_true h] at hi
      simp at hi
      subst hi
      simp at h0
      simp [val7]
      omega
    · rw [decide_eq_false h] at hi
      simp at hi
      subst hi
      have := val7_pos cs _ hb.tail rfl (by simpa using hl) (by simpa using h0)
      rw [List.take_succ_cons, val7]
      omega
theorem vint_back : ∀ (l : List Int) (i : Nat), By l → l.findIdx (· < 128) = i → i < l.length → (0 < i → l.getD i 0 ≠ 0) → vint (val7 (l.take (i + 1))) = l.take (i + 1)
  | [], i, _, _, hl, _ => by simp at hl
  | c :: cs, i, hb, hi, hl, h0 => by
    have hc := hb.head
    rw [List.findIdx_cons] at hi
    by_cases h : c < 128
    · rw [decide_eq_true h] at hi
      simp at hi
      subst hi
      have e : val7 (List.take (0 + 1) (c :: cs)) = c.toNat := by simp [val7]; omega
      rw [e, vint_small (by omega)]
      simp
      omega
    · rw [decide_eq_false h] at hi
      simp at hi
      subst hi
      have hl' : cs.findIdx (· < 128) < cs.length := by simpa using hl
      have h0' : cs.getD (cs.findIdx (· < 128)) 0 ≠ 0 := by simpa using h0 (by omega)
      have ih := vint_back cs _ hb.tail rfl hl' (fun _ => h0')
      have hp := val7_pos cs _ hb.tail rfl hl' h0'
      rw [List.take_succ_cons, val7]
      rw [vint_big (by omega)]
      have e1 : ((c % 128).toNat + 128 * val7 (cs.take (cs.findIdx (· < 128) + 1))) / 128 = val7 (cs.take (cs.findIdx (· < 128) + 1)) := by omega
      have e2 : ((((c % 128).toNat + 128 * val7 (cs.take (cs.findIdx (· < 128) + 1))) % 128 + 128 : Nat) : Int) = c := by omega
      rw [e1, ih, e2]

/-- What is taken is put as it stood; or nothing is taken. -/
theorem take_cases (l : List Int) (hb : By l) (hl : l.length < 140737488355328) :
    (∃ (x : Nat) (rest : List Int), x < 18446744073709551616 ∧ l = vint x ++ rest ∧ nums_Take.f l = some ((x : Int), rest, true)) ∨
    (nums_Take.f l = some (0, [], false) ∧ ∀ (x : Nat) (rest : List Int), x < 18446744073709551616 → l ≠ vint x ++ rest) := by
  have hf : nums_Take.f l = some (if takeOk l = true then ((val7 (l.take (l.findIdx (· < 128) + 1)) : Int), l.drop (l.findIdx (· < 128) + 1), true) else (0, [], false)) := by
    unfold nums_Take.f
    rw [if_pos ⟨hb, hl⟩]
  by_cases ho : takeOk l = true
  · left
    rw [hf, if_pos ho]
    simp only [takeOk, Bool.and_eq_true, decide_eq_true_eq, Bool.not_eq_true', Bool.and_eq_false_iff, decide_eq_false_iff_not] at ho
    obtain ⟨⟨⟨h1, h2⟩, h3⟩, h4⟩ := ho
    have hback := vint_back l _ hb rfl h1 (fun h => by rcases h3 with h' | h'; exact absurd h h'; exact h')
    refine ⟨_, _, ?_, ?_, rfl⟩
    · have e1 : l.take (l.findIdx (· < 128) + 1) = l.take (l.findIdx (· < 128)) ++ [l.getD (l.findIdx (· < 128)) 0] := by
        rw [List.take_succ_eq_append_getElem h1, List.getD_eq_getElem?_getD, List.getElem?_eq_getElem h1]; rfl
      have hlen : (l.take (l.findIdx (· < 128))).length = l.findIdx (· < 128) := by rw [List.length_take]; omega
      have hlt := val7_lt (l.take (l.findIdx (· < 128)))
      rw [e1, val7_snoc, hlen]
      rw [hlen] at hlt
      generalize l.findIdx (· < 128) = i at *
      have hi9 : i ≤ 9 := by omega
      have e9 : (128 : Nat) ^ 9 * 2 = 18446744073709551616 := by decide
      by_cases hi : i = 9
      · subst hi
        have hm : l.getD 9 0 ∈ l := by rw [List.getD_eq_getElem?_getD, List.getElem?_eq_getElem h1]; exact List.getElem_mem h1
        have hm0 := (hb _ hm).1
        have hd : (l.getD 9 0 % 128).toNat ≤ 1 := by
          rcases h4 with h' | h'
          · exact absurd rfl h'
          · omega
        have : (l.getD 9 0 % 128).toNat * 128 ^ 9 ≤ 1 * 128 ^ 9 := Nat.mul_le_mul hd (Nat.le_refl _)
        omega
      · have hd : (l.getD i 0 % 128).toNat ≤ 127 := by omega
        have : (l.getD i 0 % 128).toNat * 128 ^ i ≤ 127 * 128 ^ i := Nat.mul_le_mul hd (Nat.le_refl _)
        have h8 : (128 : Nat) ^ i ≤ 128 ^ 8 := Nat.pow_le_pow_right (by omega) (by omega)
        have e8 : (128 : Nat) ^ 8 = 72057594037927936 := by decide
        omega
    · rw [hback, List.take_append_drop]
  · right
    rw [hf, if_neg ho]
    refine ⟨rfl, fun x rest hx e => ho ?_⟩
    rw [e]
    exact takeOk_vint x rest hx
theorem vint_append_inj {x y : Nat} {a b : List Int} (hx : x < 18446744073709551616) (hy : y < 18446744073709551616) (h : vint x ++ a = vint y ++ b) : x = y ∧ a = b := by
  have h1 := findIdx_vint x a
  have h2 := findIdx_vint y b
  rw [h] at h1
  have hp := vint_pos x
  have hq := vint_pos y
  have hl : (vint x).length = (vint y).length := by omega
  have h3 := List.append_inj h hl
  exact ⟨vint_inj h3.1, h3.2⟩
end Go.Proofs.YtojemmipkpckbaaL

set_option linter.unusedVariables false
namespace Go.Proofs.YtojemmipkpckbaaL
open Go Go.RowKit Go.Proofs.YtojemmipkpckbaaG Go.Proofs.Ytojemmipkpckbaa.P Go.Proofs.YtojemmipkpckbaaW.PrintWords Go.Proofs.YtojemmipkpckbaaW.PrintMore

theorem toList_data (s : ByteArray) : s.toList = s.data.toList := Lib.toList_data s
theorem ba_ext {s t : ByteArray} (h : s.toList = t.toList) : s = t := by
  rw [toList_data, toList_data] at h
  cases s; cases t
  simpa using h
theorem str_bytes (s : ByteArray) : strOfNums (bytesOf s) = s := by
  refine ba_ext ?_
  rw [toList_data, strOfNums_data, bytesOf, List.map_map, toList_data]
  conv => rhs; rw [← List.map_id s.data.toList]
  refine List.map_congr_left (fun b _ => ?_)
  simp
theorem bytes_str {l : List Int} (h : By l) : bytesOf (strOfNums l) = l := by
  rw [bytesOf, strOfNums_data, List.map_map]
  conv => rhs; rw [← List.map_id l]
  refine List.map_congr_left (fun c hc => ?_)
  have := h c hc
  simp only [Function.comp, UInt8.toNat_ofNat', id]
  omega
theorem bytesOf_by (s : ByteArray) : By (bytesOf s) := by
  intro c hc
  obtain ⟨b, _, rfl⟩ := List.mem_map.1 hc
  have := b.toNat_lt
  omega
theorem str_inj {a b : List Int} (ha : By a) (hb : By b) (h : strOfNums a = strOfNums b) : a = b := by rw [← bytes_str ha, h, bytes_str hb]

theorem same_f {a b : List Int} (ha : By a) (hb : By b) : ratlinelaw02_Same.f a b = some (decide (a = b)) := by
  unfold ratlinelaw02_Same.f
  by_cases h : a = b
  · subst h; simp
  · have : (strOfNums a).toList ≠ (strOfNums b).toList := fun e => h (str_inj ha hb (ba_ext e))
    rw [decide_eq_false h, beq_eq_false_iff_ne.2 this]
theorem put_f {l : List Int} {x : Nat} (hx : x < 18446744073709551616) (hl : l.length + 10 < 140737488355328) : nums_Put.f l (x : Int) = some (l ++ vint x) := by
  unfold nums_Put.f
  rw [if_pos ⟨by omega, by omega, hl⟩, Int.toNat_natCast]
theorem wrap_u64_nat {x : Nat} (hx : x < 18446744073709551616) : IntKind.u64.wrap (x : Int) = (x : Int) := by rw [IntKind.wrap_u64]; omega
theorem putText_f {l : List Int} {s : ByteArray} (hl : l.length + 10 + s.size < 140737488355328) : nums_PutText.f l s = some (l ++ vint s.size ++ bytesOf s) := by
  have := vint_len10 (x := s.size) (by omega)
  unfold nums_PutText.f
  rw [wrap_u64_nat (by omega), put_f (by omega) (by omega)]
  simp only [Option.bind_some]
  rw [if_pos (by rw [List.length_append]; omega)]
theorem clone_f {l : List Int} (hl : l.length < 140737488355328) : slices_Clone_byte_byte.f l = some l := by
  unfold slices_Clone_byte_byte.f
  rw [if_pos hl]
theorem mx_eq (a b : Int) : mx a b = max a b := by unfold mx; split <;> omega

/-- The text that bytes say. -/
theorem takeText_yes (s : ByteArray) (rest : List Int) (most : Int) (hm : most ≤ 9223372036854775807) (hr : By rest) (hl : s.size + rest.length + 20 < 140737488355328) (h : (s.size : Int) ≤ most) :
    nums_TakeText.f (vint s.size ++ (bytesOf s ++ rest)) most = some (s, rest, true) := by
  have hbl := bytesOf_length s
  unfold nums_TakeText.f
  rw [take_vint s.size _ (by omega) ((bytesOf_by s).append hr) (by rw [List.length_append]; omega)]
  simp only [Option.bind_some, if_true]
  have e1 : IntKind.u64.wrap (mx most 0) = most := by rw [mx_eq, IntKind.wrap_u64]; omega
  have e2 : IntKind.u64.wrap (((bytesOf s ++ rest).length : Nat) : Int) = ((s.size + rest.length : Nat) : Int) := by rw [List.length_append, hbl]; exact wrap_u64_nat (by omega)
  rw [e1, e2, if_neg (by omega), if_neg (by omega), if_neg (by omega), if_pos (by omega), if_pos (by rw [List.length_append]; omega), Int.toNat_natCast]
  have e3 : (bytesOf s ++ rest).drop s.size = rest := by rw [← hbl, List.drop_left]
  have e4 : (bytesOf s ++ rest).take s.size = bytesOf s := by rw [← hbl, List.take_left]
  rw [e3, e4, clone_f (by omega)]
  simp only [Option.bind_some, str_bytes]
theorem takeText_cases (l : List Int) (most : Int) (hm : most ≤ 9223372036854775807) (hb : By l) (hl : l.length + 20 < 140737488355328) :
    (∃ (s : ByteArray) (rest : List Int), (s.size : Int) ≤ most ∧ l = vint s.size ++ (bytesOf s ++ rest) ∧ nums_TakeText.f l most = some (s, rest, true)) ∨
    (nums_TakeText.f l most = some (⟨#[]⟩, [], false) ∧ ∀ (s : ByteArray) (rest : List Int), (s.size : Int) ≤ most → l ≠ vint s.size ++ (bytesOf s ++ rest)) := by
  rcases take_cases l hb (by omega) with ⟨x, rest, hx, he, hf⟩ | ⟨hf, hno⟩
  · by_cases h : (x : Int) ≤ most ∧ x ≤ rest.length
    · left
      have hr : By rest := By.right (he ▸ hb)
      have hsz : (strOfNums (rest.take x)).size = x := by rw [strOfNums_size, List.length_take]; omega
      have hl2 : l.length = (vint x).length + rest.length := by rw [he, List.length_append]
      have e0 : rest = bytesOf (strOfNums (rest.take x)) ++ rest.drop x := by rw [bytes_str (hr.take x), List.take_append_drop]
      have e1 : l = vint (strOfNums (rest.take x)).size ++ (bytesOf (strOfNums (rest.take x)) ++ rest.drop x) := by rw [hsz, ← e0]; exact he
      refine ⟨strOfNums (rest.take x), rest.drop x, by rw [hsz]; exact h.1, e1, ?_⟩
      have := takeText_yes (strOfNums (rest.take x)) (rest.drop x) most hm (hr.drop x) (by rw [hsz, List.length_drop]; omega) (by rw [hsz]; exact h.1)
      rw [← e1] at this
      exact this
    · right
      refine ⟨?_, fun s rest' hs e => h ?_⟩
      · have hl2 : l.length = (vint x).length + rest.length := by rw [he, List.length_append]
        unfold nums_TakeText.f
        rw [hf]
        simp only [Option.bind_some, if_true]
        have e2 : IntKind.u64.wrap ((rest.length : Nat) : Int) = (rest.length : Int) := wrap_u64_nat (by omega)
        have e1 : IntKind.u64.wrap (mx most 0) = max most 0 := by rw [mx_eq, IntKind.wrap_u64]; omega
        rw [e1, e2]
        by_cases c1 : (x : Int) > max most 0
        · rw [if_pos c1]
        · rw [if_neg c1]
          by_cases c2 : most < 0
          · rw [if_pos c2]
          · rw [if_neg c2, if_pos (by omega)]
      · rw [he] at e
        obtain ⟨rfl, rfl⟩ := vint_append_inj hx (by have : l.length = (vint s.size).length + (s.size + rest'.length) := by rw [he, e, List.length_append, List.length_append, bytesOf_length]
                                                    omega) e
        exact ⟨hs, by rw [List.length_append, bytesOf_length]; omega⟩
  · right
    refine ⟨?_, fun s rest' hs e => hno s.size (bytesOf s ++ rest') ?_ e⟩
    · unfold nums_TakeText.f
      rw [hf]
      simp
    · have : l.length = (vint s.size).length + (s.size + rest'.length) := by rw [e, List.length_append, List.length_append, bytesOf_length]
      omega
end Go.Proofs.YtojemmipkpckbaaL

set_option linter.unusedVariables false
namespace Go.Proofs.YtojemmipkpckbaaL
open Go Go.RowKit Go.Proofs.YtojemmipkpckbaaG Go.Proofs.Ytojemmipkpckbaa.P Go.Proofs.YtojemmipkpckbaaW.PrintWords Go.Proofs.YtojemmipkpckbaaW.PrintMore

theorem rput_l0 : ∀ (n x k : Nat) (l : List Int), x < 18446744073709551616 → (vint x).length ≤ n → n < k → l.length + n < 140737488355328 → ratlineref02_Put.l0 k (x : Int) l = some (l ++ vint x) := by
  intro n
  induction n with
  | zero => intro x k l hx hn; have := vint_pos x; omega
  | succ n ih =>
    intro x k l hx hn hk hl
    obtain ⟨k, rfl⟩ : ∃ m, k = m + 1 := ⟨k - 1, by omega⟩
    simp only [ratlineref02_Put.l0]
    by_cases h : 127 < x
    · rw [vint_big h] at hn ⊢
      have e1 : IntKind.u64.wrap (Int.tdiv (x : Int) 128) = ((x / 128 : Nat) : Int) := by
        rw [show Int.tdiv (x : Int) 128 = ((x / 128 : Nat) : Int) from rfl]; exact wrap_u64_nat (by omega)
      have e2 : ((Int.tmod (x : Int) 128) + 128) % 256 = ((x % 128 + 128 : Nat) : Int) := by
        rw [show Int.tmod (x : Int) 128 = ((x % 128 : Nat) : Int) from rfl]; omega
      rw [if_pos (by omega), if_pos (by omega), e1, e2, ih (x / 128) k _ (by omega) (by simpa using hn) (by omega) (by rw [List.length_append]; simp; omega)]
      simp
    · rw [vint_small h, if_neg (by omega), if_pos (by omega), show (x : Int) % 256 = (x : Int) from by omega]
theorem rput_f {l : List Int} {x k : Nat} (hx : x < 18446744073709551616) (hk : 10 < k) (hl : l.length + 20 < 140737488355328) : ratlineref02_Put.f k l (x : Int) = some (l ++ vint x) := by
  have := vint_len10 hx
  unfold ratlineref02_Put.f
  rw [List.nil_append, if_pos (by simp; omega), rput_l0 10 x k l hx this hk (by omega)]
theorem rsame_f {a b : List Int} (ha : By a) (hb : By b) : ratlineref02_same.f a b = some (decide (b.length ≤ a.length ∧ a.take b.length = b)) := by
  unfold ratlineref02_same.f
  by_cases h : b.length ≤ a.length
  · rw [if_pos (by omega), if_pos (by omega), if_pos (by omega), Int.toNat_natCast]
    by_cases e : a.take b.length = b
    · rw [e, decide_eq_true ⟨h, rfl⟩]; simp
    · have : (strOfNums (a.take b.length)).toList ≠ (strOfNums b).toList := fun e' => e (str_inj (ha.take _) hb (ba_ext e'))
      rw [decide_eq_false (fun h' => e h'.2), beq_eq_false_iff_ne.2 this]
  · rw [if_neg (by omega), decide_eq_false (fun h' => h h'.1)]
theorem rrest_f {a : List Int} {n : Nat} (hn : n ≤ a.length) (hl : a.length < 140737488355328) : ratlineref02_rest.f a (n : Int) = some (a.drop n) := by
  unfold ratlineref02_rest.f
  rw [if_pos (by omega), if_pos (by omega), Int.toNat_natCast, if_pos (by simp; omega), List.nil_append]

theorem wrap_mod (n : Nat) : IntKind.u64.wrap (n : Int) = ((n % 18446744073709551616 : Nat) : Int) := by rw [IntKind.wrap_u64]; omega
theorem mod_steps (a c p N : Nat) : (a % N + c * (p % N) % N) % N = (a + c * p) % N := by
  rw [← Nat.add_mod, Nat.add_mod a (c * (p % N)), Nat.mul_mod c (p % N), Nat.mod_mod, ← Nat.mul_mod, ← Nat.add_mod]
/-- What is reckoned of the first bytes. -/
def acc (l : List Int) (i : Nat) : Nat := val7 (l.take i) % 18446744073709551616
theorem acc_step {l : List Int} (hb : By l) {i : Nat} (hi : i < l.length) : IntKind.u64.wrap ((acc l i : Int) + IntKind.u64.wrap (IntKind.u64.wrap (Int.tmod (rd l (i : Int)) 128) * ((128 ^ i % 18446744073709551616 : Nat) : Int))) = (acc l (i + 1) : Int) := by
  have hrd : rd l (i : Int) = l.getD i 0 := by unfold rd; rw [Int.toNat_natCast]
  have hm : l.getD i 0 ∈ l := by rw [List.getD_eq_getElem?_getD, List.getElem?_eq_getElem hi]; exact List.getElem_mem hi
  have hc := hb _ hm
  have e1 : l.take (i + 1) = l.take i ++ [l.getD i 0] := by rw [List.take_succ_eq_append_getElem hi, List.getD_eq_getElem?_getD, List.getElem?_eq_getElem hi]; rfl
  have hlen : (l.take i).length = i := by rw [List.length_take]; omega
  rw [hrd]
  unfold acc
  rw [e1, val7_snoc, hlen]
  obtain ⟨c, hc'⟩ := Int.eq_ofNat_of_zero_le hc.1
  rw [hc'] at hc ⊢
  rw [show Int.tmod (c : Int) 128 = ((c % 128 : Nat) : Int) from rfl, wrap_u64_nat (by omega), show ((c : Int) % 128).toNat = c % 128 from by omega]
  rw [← Int.natCast_mul, wrap_mod, ← Int.natCast_add, wrap_mod, mod_steps]

theorem rtake_none {l : List Int} (hb : By l) (hl : l.length < 140737488355328) (h : ∀ j, j < l.length → j < 10 → 128 ≤ l.getD j 0) : nums_Take.f l = some (0, [], false) := by
  rcases take_cases l hb hl with ⟨x, rest, hx, he, _⟩ | ⟨hf, _⟩
  · exfalso
    have hp := vint_pos x
    have hv := vint_len10 hx
    have h1 := findIdx_vint x rest
    rw [← he] at h1
    have hlt : l.findIdx (· < 128) < l.length := by rw [h1, he, List.length_append]; omega
    have h2 := List.findIdx_getElem (p := fun c : Int => decide (c < 128)) (w := hlt)
    have h3 := h _ hlt (by omega)
    rw [List.getD_eq_getElem?_getD, List.getElem?_eq_getElem hlt] at h3
    simp at h2 h3
    omega
  · exact hf
theorem rtake_l0 {l : List Int} (hb : By l) (hl : l.length + 20 < 140737488355328) : ∀ (d k i : Nat), i + d = 10 → i ≤ l.length → (∀ j, j < i → 128 ≤ l.getD j 0) → 2 * d + 20 < k →
    ratlineref02_Take.l0 k l (acc l i : Int) ((128 ^ i % 18446744073709551616 : Nat) : Int) (i : Int) = nums_Take.f l := by
  intro d
  induction d with
  | zero =>
    intro k i hd hi hj hk
    obtain ⟨k, rfl⟩ : ∃ m, k = m + 2 := ⟨k - 2, by omega⟩
    have hno := rtake_none hb (by omega) (fun j h1 h2 => hj j (by omega))
    simp only [ratlineref02_Take.l0]
    rw [decide_eq_false (show ¬ (i : Int) < 10 from by omega), ite_self]
    simp only [ratlineref02_Take.j1]
    rw [if_neg (by decide), hno]
  | succ d ih =>
    intro k i hd hi hj hk
    obtain ⟨k, rfl⟩ : ∃ m, k = m + 2 := ⟨k - 2, by omega⟩
    simp only [ratlineref02_Take.l0]
    by_cases h : i < l.length
    · have hrd : rd l (i : Int) = l.getD i 0 := by unfold rd; rw [Int.toNat_natCast]
      have hstep := acc_step hb h
      have hw : wrap64 ((i : Int) + 1) = ((i + 1 : Nat) : Int) := by unfold wrap64; omega
      rw [if_pos (by omega), decide_eq_true (show (i : Int) < 10 from by omega)]
      simp only [ratlineref02_Take.j1]
      rw [if_pos trivial, if_pos (by omega), if_pos (by omega), hstep, hw]
      by_cases hc : rd l (i : Int) < 128
      · rw [if_pos hc]
        have hx : acc l (i + 1) < 18446744073709551616 := Nat.mod_lt _ (by omega)
        have hidx : l.findIdx (· < 128) = i := by
          refine (List.findIdx_eq h).2 ⟨?_, fun j hj' => ?_⟩
          · rw [hrd, List.getD_eq_getElem?_getD, List.getElem?_eq_getElem h] at hc
            simpa using hc
          · have := hj j hj'
            rw [List.getD_eq_getElem?_getD, List.getElem?_eq_getElem (by omega)] at this
            simpa using this
        refine bind1 (rput_f hx (by omega) (by rw [List.length_nil]; omega)) ?_
        rw [List.nil_append]
        refine bind1 (rsame_f hb (vint_by _)) ?_
        rcases take_cases l hb (by omega) with ⟨x, rest, hx', he, hf⟩ | ⟨hf, hno⟩
        · have h1 := findIdx_vint x rest
          have hp := vint_pos x
          rw [← he, hidx] at h1
          have htk : l.take (i + 1) = vint x := by rw [he, show i + 1 = (vint x).length from by omega, List.take_left]
          have hax : acc l (i + 1) = x := by unfold acc; rw [htk, val7_vint]; omega
          have hdr : l.drop (i + 1) = rest := by rw [he, show i + 1 = (vint x).length from by omega, List.drop_left]
          have hlen : l.length = (vint x).length + rest.length := by rw [he, List.length_append]
          rw [hax, decide_eq_true (show (vint x).length ≤ l.length ∧ l.take (vint x).length = vint x from ⟨by omega, by rw [show (vint x).length = i + 1 from by omega]; exact htk⟩), if_pos rfl]
          refine bind1 (rput_f hx' (by omega) (by rw [List.length_nil]; omega)) ?_
          rw [List.nil_append, if_pos (by omega)]
          refine bind1 (rrest_f (by omega) (by omega)) ?_
          rw [hdr, hf]
        · have hfalse : decide ((vint (acc l (i + 1))).length ≤ l.length ∧ l.take (vint (acc l (i + 1))).length = vint (acc l (i + 1))) = false := by
            refine decide_eq_false (fun h' => hno _ (l.drop (vint (acc l (i + 1))).length) hx ?_)
            conv => rhs; lhs; rw [← h'.2]
            exact (List.take_append_drop _ _).symm
          rw [hfalse, if_neg (by decide), hf]
      · rw [if_neg hc]
        have hw2 : IntKind.u64.wrap (((128 ^ i % 18446744073709551616 : Nat) : Int) * 128) = ((128 ^ (i + 1) % 18446744073709551616 : Nat) : Int) := by
          rw [IntKind.wrap_u64, Nat.pow_succ]; omega
        rw [hw2]
        refine ih k (i + 1) (by omega) (by omega) (fun j hj' => ?_) (by omega)
        rcases Nat.lt_or_ge j i with h' | h'
        · exact hj j h'
        · obtain rfl : j = i := by omega
          rw [hrd] at hc; omega
    · have hno := rtake_none hb (by omega) (fun j h1 h2 => hj j (by omega))
      rw [if_neg (by omega)]
      simp only [ratlineref02_Take.j1]
      rw [if_neg (by decide), hno]
theorem rtake_f {l : List Int} {k : Nat} (hb : By l) (hl : l.length + 20 < 140737488355328) (hk : 50 < k) : ratlineref02_Take.f k l = nums_Take.f l :=
  rtake_l0 hb hl 10 k 0 (by omega) (by omega) (fun j h => absurd h (by omega)) (by omega)

theorem rtakeText_f {l : List Int} {k : Nat} {most : Int} (hm0 : -9223372036854775808 ≤ most) (hm : most ≤ 9223372036854775807) (hb : By l) (hl : l.length + 20 < 140737488355328) (hk : 50 < k) : ratlineref02_TakeText.f k l most = nums_TakeText.f l most := by
  unfold ratlineref02_TakeText.f nums_TakeText.f
  rw [rtake_f hb hl hk]
  rcases take_cases l hb (by omega) with ⟨x, rest, hx, he, hf⟩ | ⟨hf, hno⟩
  · have hlen : l.length = (vint x).length + rest.length := by rw [he, List.length_append]
    rw [hf]
    simp only [Option.bind_some, if_true]
    have e1 : IntKind.u64.wrap (mx most 0) = max most 0 := by rw [mx_eq, IntKind.wrap_u64]; omega
    rw [e1, wrap_u64_nat (show rest.length < 18446744073709551616 from by omega)]
    by_cases c1 : most < 0
    · rw [if_pos c1, if_pos c1, ite_self]
    · have e2 : IntKind.u64.wrap most = most := by rw [IntKind.wrap_u64]; omega
      have e3 : max most 0 = most := by omega
      rw [if_neg c1, if_neg c1, e2, e3]
      by_cases c2 : (x : Int) > most
      · rw [if_pos c2, if_pos c2]
      · rw [if_neg c2, if_neg c2]
        by_cases c3 : (x : Int) > (rest.length : Int)
        · rw [if_pos c3, if_pos c3]
        · rw [if_neg c3, if_neg c3, if_pos (by omega), if_pos (by omega), if_pos (by omega), if_pos (by omega), show wrap64 (x : Int) = (x : Int) from by unfold wrap64; omega, rrest_f (by omega) (by omega), Int.toNat_natCast, clone_f (by rw [List.length_drop]; omega)]
  · rw [hf]
    simp

theorem rputText_f {l : List Int} {s : ByteArray} {k : Nat} (hk : 10 < k) (hl : l.length + 20 + s.size < 140737488355328) : ratlineref02_PutText.f k l s = some (l ++ vint s.size ++ bytesOf s) := by
  have := vint_len10 (x := s.size) (by omega)
  unfold ratlineref02_PutText.f
  rw [wrap_u64_nat (by omega), rput_f (by omega) hk (by omega)]
  simp only [Option.bind_some]
  rw [if_pos (by rw [List.length_append]; omega)]
end Go.Proofs.YtojemmipkpckbaaL

set_option linter.unusedVariables false
namespace Go.Proofs.YtojemmipkpckbaaL
open Go Go.RowKit Go.Proofs.YtojemmipkpckbaaG Go.Proofs.Ytojemmipkpckbaa.P Go.Proofs.YtojemmipkpckbaaW.PrintWords Go.Proofs.YtojemmipkpckbaaW.PrintMore

abbrev Ik := S39
abbrev En := S41
def lt (a b : ByteArray) : Prop := Op.bytesLess a.toList b.toList = true
instance (a b : ByteArray) : Decidable (lt a b) := inferInstanceAs (Decidable (_ = true))
theorem lt_asymm {a b : ByteArray} (h : lt a b) : ¬ lt b a := by
  unfold lt at *
  rw [← bytesLess_gtr, h]
  simp
theorem lt_irrefl (a : ByteArray) : ¬ lt a a := fun h => lt_asymm h h
theorem ba_nil_iff {a : ByteArray} : a.toList = [] ↔ a.size = 0 := by
  rw [toList_data]
  exact ⟨fun h => by show a.data.size = 0; rw [← Array.length_toList, h]; rfl, fun h => List.eq_nil_of_length_eq_zero (by rw [Array.length_toList]; exact h)⟩

def cmpI (x y : Ik) : Int := if lt x.f0 y.f0 then -1 else if lt y.f0 x.f0 then 1 else if x.f1 > y.f1 then -1 else if x.f1 < y.f1 then 1 else if x.f2 > y.f2 then -1 else if x.f2 < y.f2 then 1 else 0
theorem or_f (k : Nat) (a b c : Int) : cmp_Or_int.f (k + 4) [a, b, c] = some (if a = 0 then (if b = 0 then (if c = 0 then 0 else c) else b) else a) := by
  unfold cmp_Or_int.f
  have e : ∀ n : Nat, n < 100 → wrap64 ((n : Int) + 1) = ((n + 1 : Nat) : Int) := fun n h => by unfold wrap64; omega
  have e0 : wrap64 (0 + 1) = 1 := e 0 (by omega)
  have e1 : wrap64 (1 + 1) = 2 := e 1 (by omega)
  have e2 : wrap64 (2 + 1) = 3 := e 2 (by omega)
  have l3 : (([a, b, c] : List Int).length : Int) = 3 := rfl
  simp only [cmp_Or_int.l0, l3, e0, e1, e2, rd]
  simp only [show (0 : Int) < 3 from by omega, show (1 : Int) < 3 from by omega, show (2 : Int) < 3 from by omega, show (0 : Int) ≤ 0 from by omega, show (0 : Int) ≤ 1 from by omega, show (0 : Int) ≤ 2 from by omega, show ¬ (3 : Int) < 3 from by omega, if_true, if_false]
  show (if a = 0 then (if b = 0 then (if c = 0 then some 0 else some c) else some b) else some a) = _
  split
  · split
    · split <;> rfl
    · rfl
  · rfl
theorem compare_f (k : Nat) (x y : Ik) : ikey_Compare.f (k + 4) x.f0 x.f1 x.f2 y.f0 y.f1 y.f2 = some (cmpI x y) := by
  have h1 : cmp_Compare_string.f x.f0 y.f0 = some (if lt x.f0 y.f0 then -1 else if lt y.f0 x.f0 then 1 else 0) := by
    unfold cmp_Compare_string.f cmp_isNaN_string.f lt
    simp only [bne_self_eq_false, Option.bind_some, Bool.false_eq_true, if_false]
    by_cases c1 : Op.bytesLess x.f0.toList y.f0.toList = true
    · simp [c1]
    · by_cases c2 : Op.bytesLess y.f0.toList x.f0.toList = true
      · simp [c1, c2]
      · simp [c1, c2]
  have h2 : ∀ a b : Int, cmp_Compare_uint64.f a b = some (if a < b then -1 else if b < a then 1 else 0) := fun a b => by
    unfold cmp_Compare_uint64.f cmp_isNaN_uint64.f
    simp only [bne_self_eq_false, Option.bind_some, Bool.false_eq_true, if_false]
    split
    · rfl
    · split <;> rfl
  have h3 : ∀ a b : Int, cmp_Compare_uint8.f a b = some (if a < b then -1 else if b < a then 1 else 0) := fun a b => by
    unfold cmp_Compare_uint8.f cmp_isNaN_uint8.f
    simp only [bne_self_eq_false, Option.bind_some, Bool.false_eq_true, if_false]
    split
    · rfl
    · split <;> rfl
  unfold ikey_Compare.f ikey_key_to.f
  rw [h1, h2, h3]
  simp only [Option.bind_some, or_f]
  congr 1
  unfold cmpI
  by_cases c1 : lt x.f0 y.f0
  · simp [c1]
  · by_cases c2 : lt y.f0 x.f0
    · simp [c1, c2]
    · simp only [if_neg c1, if_neg c2]
      by_cases c3 : x.f1 > y.f1
      · simp [c3]
      · by_cases c4 : x.f1 < y.f1
        · simp [c4, show ¬ y.f1 < x.f1 from by omega]
        · by_cases c5 : x.f2 > y.f2
          · simp [c4, c5, show ¬ y.f1 < x.f1 from by omega]
          · by_cases c6 : x.f2 < y.f2
            · simp [c4, c6, show ¬ y.f1 < x.f1 from by omega, show ¬ y.f2 < x.f2 from by omega]
            · simp [c4, c6, show ¬ y.f1 < x.f1 from by omega, show ¬ y.f2 < x.f2 from by omega]
def RightI (x : Ik) : Prop := 1 ≤ x.f0.size ∧ x.f0.size ≤ 64 ∧ x.f1 ≤ 72057594037927935 ∧ x.f2 ≤ 1
instance (x : Ik) : Decidable (RightI x) := inferInstanceAs (Decidable (_ ∧ _))
theorem right_f (x : Ik) : ikey_Right.f x.f0 x.f1 x.f2 = some (decide (RightI x)) := by
  unfold ikey_Right.f
  by_cases h0 : x.f0.size = 0
  · rw [if_pos (ba_nil_iff.2 h0), decide_eq_false (show ¬ RightI x from fun h => by have := h.1; omega)]
  · rw [if_neg (fun h => h0 (ba_nil_iff.1 h))]
    by_cases h1 : (x.f0.size : Int) ≤ 64
    · rw [if_pos h1]
      by_cases h2 : x.f1 ≤ 72057594037927935
      · rw [if_pos h2]
        congr 1
        exact decide_eq_decide.2 ⟨fun h => ⟨by omega, by omega, h2, h⟩, fun h => h.2.2.2⟩
      · rw [if_neg h2, decide_eq_false (show ¬ RightI x from fun h => h2 h.2.2.1)]
    · rw [if_neg h1, decide_eq_false (show ¬ RightI x from fun h => h1 (by have := h.2.1; omega))]
theorem right_f' (a : ByteArray) (b c : Int) : ikey_Right.f a b c = some (decide (RightI ⟨a, b, c⟩)) := right_f ⟨a, b, c⟩
theorem entry_f (x : Ik) (v : ByteArray) : ikey_Entry.f x.f0 x.f1 x.f2 v = some (decide (RightI x) && decide ((v.size : Int) ≤ (if x.f2 = 0 then 0 else 256))) := by
  unfold ikey_Entry.f
  rw [right_f]
  by_cases h : RightI x
  · by_cases h2 : x.f2 = 0
    · simp [h, h2]
    · simp [h, h2]
  · by_cases h2 : x.f2 = 0
    · simp [h, h2]
    · simp [h, h2]

/-- In kind. -/
def Wf (x : Ik) : Prop := 0 ≤ x.f1 ∧ x.f1 < 18446744073709551616 ∧ 0 ≤ x.f2 ∧ x.f2 < 256
def formI (x : Ik) : List Int := vint x.f0.size ++ (bytesOf x.f0 ++ vint (x.f2.toNat + x.f1.toNat * 2))
theorem formI_by (x : Ik) : By (formI x) := (vint_by _).append ((bytesOf_by _).append (vint_by _))
theorem put_yes {x : Ik} (hw : Wf x) (hr : RightI x) {l : List Int} (hl : l.length + 200 < 140737488355328) : ikey_Put.f l x.f0 x.f1 x.f2 = some (l ++ formI x) := by
  obtain ⟨w1, w2, w3, w4⟩ := hw
  obtain ⟨r1, r2, r3, r4⟩ := hr
  unfold ikey_Put.f
  refine bind1 (right_f x) ?_
  rw [decide_eq_true (show RightI x from ⟨r1, r2, r3, r4⟩), if_pos rfl]
  refine bind1 (putText_f (by omega)) ?_
  have e1 : IntKind.u64.wrap (x.f1 * 2) = ((x.f1.toNat * 2 ^ 1 : Nat) : Int) := by rw [IntKind.wrap_u64]; omega
  have e2 : IntKind.u64.wrap x.f2 = ((x.f2.toNat : Nat) : Int) := by rw [IntKind.wrap_u64]; omega
  have e3 : bits .or .u64 ((x.f1.toNat * 2 ^ 1 : Nat) : Int) ((x.f2.toNat : Nat) : Int) = ((x.f2.toNat + x.f1.toNat * 2 ^ 1 : Nat) : Int) := by
    rw [bits_or_u64 _ _ (by omega) (by omega), Nat.or_comm, or_add _ _ _ (by omega)]
  have hv := vint_len10 (x := x.f0.size) (by omega)
  rw [e1, e2, e3]
  refine bind1 (put_f (by omega) (by rw [List.length_append, List.length_append, bytesOf_length]; omega)) ?_
  unfold formI
  simp only [List.append_assoc]
theorem put_no {x : Ik} (hr : ¬ RightI x) {l : List Int} (hl : l.length + 200 < 140737488355328) : ikey_Put.f l x.f0 x.f1 x.f2 = some l := by
  unfold ikey_Put.f
  refine bind1 (right_f x) ?_
  rw [decide_eq_false hr, if_neg (by decide)]
  exact bind1 (clone_f (by omega)) rfl
theorem formI_len {x : Ik} (hw : Wf x) (hr : RightI x) : (formI x).length ≤ 84 := by
  obtain ⟨w1, w2, w3, w4⟩ := hw
  obtain ⟨r1, r2, r3, r4⟩ := hr
  have h1 := vint_len10 (x := x.f0.size) (by omega)
  have h2 := vint_len10 (x := x.f2.toNat + x.f1.toNat * 2) (by omega)
  rw [formI, List.length_append, List.length_append, bytesOf_length]
  omega
theorem bytesOf_inj {a b : ByteArray} (h : bytesOf a = bytesOf b) : a = b := by rw [← str_bytes a, h, str_bytes]
/-- No form begins with another one. -/
theorem formI_inj {x y : Ik} {a b : List Int} (hx : Wf x) (hy : Wf y) (rx : RightI x) (ry : RightI y) (h : formI x ++ a = formI y ++ b) : x = y ∧ a = b := by
  obtain ⟨w1, w2, w3, w4⟩ := hx
  obtain ⟨r1, r2, r3, r4⟩ := rx
  obtain ⟨v1, v2, v3, v4⟩ := hy
  obtain ⟨s1, s2, s3, s4⟩ := ry
  unfold formI at h
  simp only [List.append_assoc] at h
  obtain ⟨h1, h2⟩ := vint_append_inj (by omega) (by omega) h
  obtain ⟨h3, h4⟩ := List.append_inj h2 (by rw [bytesOf_length, bytesOf_length, h1])
  obtain ⟨h5, h6⟩ := vint_append_inj (by omega) (by omega) h4
  refine ⟨?_, h6⟩
  have e0 := bytesOf_inj h3
  have e1 : x.f1 = y.f1 := by omega
  have e2 : x.f2 = y.f2 := by omega
  cases x; cases y
  simp_all
theorem and1_u64 (a : Nat) (ha : a < 18446744073709551616) : bits .and .u64 (a : Int) 1 = ((a % 2 : Nat) : Int) := by
  show IntKind.u64.wrap ((BitVec.ofInt 64 (a : Int) &&& BitVec.ofInt 64 1).toNat : Int) = _
  rw [BitVec.ofInt_natCast, BitVec.toNat_and, BitVec.toNat_ofNat, show (BitVec.ofInt 64 1).toNat = 1 from rfl, Nat.mod_eq_of_lt (by omega), Nat.and_one_is_mod, IntKind.wrap_u64]
  omega
theorem takeI_cases (l : List Int) (hb : By l) (hl : l.length + 20 < 140737488355328) :
    (∃ (x : Ik) (rest : List Int), Wf x ∧ RightI x ∧ l = formI x ++ rest ∧ ikey_Take.f l = some (x.f0, x.f1, x.f2, rest, true)) ∨
    (ikey_Take.f l = some (⟨#[]⟩, 0, 0, [], false) ∧ ∀ (x : Ik) (rest : List Int), Wf x → RightI x → l ≠ formI x ++ rest) := by
  rcases takeText_cases l 64 (by omega) hb hl with ⟨s, rest, hs, he, hf⟩ | ⟨hf, hno⟩
  · have hr : By rest := By.right (By.right (he ▸ hb))
    have hlr : l.length = (vint s.size).length + (s.size + rest.length) := by rw [he, List.length_append, List.length_append, bytesOf_length]
    rcases take_cases rest hr (by omega) with ⟨m, behind, hm, he2, hf2⟩ | ⟨hf2, hno2⟩
    · have hk : ikey_Take.f l = some (if RightI ⟨s, ((m / 2 : Nat) : Int), ((m % 2 : Nat) : Int)⟩ then (s, ((m / 2 : Nat) : Int), ((m % 2 : Nat) : Int), behind, true) else (⟨#[]⟩, 0, 0, [], false)) := by
        unfold ikey_Take.f
        refine bind3 hf (fun t e1 e2 e3 => ?_)
        rw [e2]
        refine bind3 hf2 (fun u f1 f2 f3 => ?_)
        have q1 : (m : Int) / 2 = ((m / 2 : Nat) : Int) := by omega
        have q2 : bits .and .u64 (m : Int) 1 % 256 = ((m % 2 : Nat) : Int) := by rw [and1_u64 m hm]; omega
        rw [if_pos e3, if_pos f3, e1, f1, f2, q1, q2]
        refine bind1 (right_f' _ _ _) ?_
        by_cases h : RightI ⟨s, ((m / 2 : Nat) : Int), ((m % 2 : Nat) : Int)⟩
        · rw [decide_eq_true h, if_pos rfl, if_pos h]
        · rw [decide_eq_false h, if_neg (by decide), if_neg h]
      have hform : l = formI ⟨s, ((m / 2 : Nat) : Int), ((m % 2 : Nat) : Int)⟩ ++ behind := by
        rw [formI, show ((m % 2 : Nat) : Int).toNat + ((m / 2 : Nat) : Int).toNat * 2 = m from by omega]
        rw [he, he2]
        simp only [List.append_assoc]
      have hwf : Wf ⟨s, ((m / 2 : Nat) : Int), ((m % 2 : Nat) : Int)⟩ := ⟨by show (0 : Int) ≤ ((m / 2 : Nat) : Int); omega, by show ((m / 2 : Nat) : Int) < _; omega, by show (0 : Int) ≤ ((m % 2 : Nat) : Int); omega, by show ((m % 2 : Nat) : Int) < _; omega⟩
      by_cases h : RightI ⟨s, ((m / 2 : Nat) : Int), ((m % 2 : Nat) : Int)⟩
      · left
        rw [if_pos h] at hk
        exact ⟨⟨s, ((m / 2 : Nat) : Int), ((m % 2 : Nat) : Int)⟩, behind, hwf, h, hform, hk⟩
      · right
        rw [if_neg h] at hk
        refine ⟨hk, fun y r wy ry e => h ?_⟩
        obtain ⟨w1, w2, w3, w4⟩ := wy
        obtain ⟨r1, r2, r3, r4⟩ := ry
        rw [he, formI] at e
        simp only [List.append_assoc] at e
        obtain ⟨h1, h2⟩ := vint_append_inj (by omega) (by omega) e
        obtain ⟨h3, h4⟩ := List.append_inj h2 (by rw [bytesOf_length, bytesOf_length, h1])
        rw [he2] at h4
        obtain ⟨h5, _⟩ := vint_append_inj hm (by omega) h4
        have := bytesOf_inj h3
        subst this
        unfold RightI
        exact ⟨r1, r2, by show ((m / 2 : Nat) : Int) ≤ _; omega, by show ((m % 2 : Nat) : Int) ≤ _; omega⟩
    · right
      refine ⟨?_, fun y r wy ry e => ?_⟩
      · unfold ikey_Take.f
        refine bind3 hf (fun t e1 e2 e3 => ?_)
        rw [e2]
        refine bind3 hf2 (fun u f1 f2 f3 => ?_)
        rw [if_pos e3, if_neg (by rw [f3]; decide)]
      · obtain ⟨w1, w2, w3, w4⟩ := wy
        obtain ⟨r1, r2, r3, r4⟩ := ry
        rw [he, formI] at e
        simp only [List.append_assoc] at e
        obtain ⟨h1, h2⟩ := vint_append_inj (by omega) (by omega) e
        obtain ⟨h3, h4⟩ := List.append_inj h2 (by rw [bytesOf_length, bytesOf_length, h1])
        exact hno2 _ _ (by omega) h4
  · right
    refine ⟨?_, fun y r wy ry e => ?_⟩
    · unfold ikey_Take.f
      refine bind3 hf (fun t e1 e2 e3 => ?_)
      rw [e2]
      have h0 : nums_Take.f [] = some (0, [], false) := by
        rcases take_cases [] .nil (by simp) with ⟨x, rest, _, he, _⟩ | ⟨h, _⟩
        · have := congrArg List.length he
          rw [List.length_append] at this
          have := vint_pos x
          simp at *
          omega
        · exact h
      refine bind3 h0 (fun u f1 f2 f3 => ?_)
      rw [if_neg (by rw [e3]; decide)]
    · obtain ⟨w1, w2, w3, w4⟩ := wy
      obtain ⟨r1, r2, r3, r4⟩ := ry
      rw [formI] at e
      simp only [List.append_assoc] at e
      exact hno y.f0 _ (by omega) e
theorem takeI_form {x : Ik} {rest : List Int} (hw : Wf x) (hr : RightI x) (hb : By rest) (hl : rest.length + 200 < 140737488355328) : ikey_Take.f (formI x ++ rest) = some (x.f0, x.f1, x.f2, rest, true) := by
  have hlen := formI_len hw hr
  rcases takeI_cases (formI x ++ rest) ((formI_by x).append hb) (by rw [List.length_append]; omega) with ⟨y, r, wy, ry, he, hf⟩ | ⟨_, hno⟩
  · obtain ⟨rfl, rfl⟩ := formI_inj hw wy hr ry he
    exact hf
  · exact absurd rfl (hno x rest hw hr)
end Go.Proofs.YtojemmipkpckbaaL

set_option linter.unusedVariables false
namespace Go.Proofs.YtojemmipkpckbaaL
open Go Go.RowKit Go.Proofs.YtojemmipkpckbaaG Go.Proofs.Ytojemmipkpckbaa.P Go.Proofs.YtojemmipkpckbaaW.PrintWords Go.Proofs.YtojemmipkpckbaaW.PrintMore

theorem bind5 {α β γ δ ε ζ : Type} {o : Option (α × β × γ × δ × ε)} {a : α} {b : β} {c : γ} {d : δ} {e : ε} {f : α × β × γ × δ × ε → Option ζ} {r : Option ζ} (h : o = some (a, b, c, d, e)) (k : ∀ t, t.1 = a → t.2.1 = b → t.2.2.1 = c → t.2.2.2.1 = d → t.2.2.2.2 = e → f t = r) : o.bind f = r := by
  rw [h]
  exact k _ rfl rfl rfl rfl rfl
theorem one_f (s : ByteArray) (q d : Int) : ratlinelaw03_one.f s q d = some (s, q, d) := rfl
def ka (q d : Int) : Ik := ⟨⟨#[97]⟩, q, d⟩
theorem ka_form (q : Nat) (hq : q < 50) (d : Nat) (hd : d ≤ 1) : formI (ka q d) = [1, 97, ((d + q * 2 : Nat) : Int)] := by
  show vint 1 ++ (bytesOf ⟨#[97]⟩ ++ vint ((d : Int).toNat + (q : Int).toNat * 2)) = _
  rw [Int.toNat_natCast, Int.toNat_natCast, vint_small (by omega), vint_small (by omega)]
  rfl
theorem ka_wf (q : Nat) (hq : q < 50) (d : Nat) (hd : d ≤ 1) : Wf (ka q d) := ⟨by show (0 : Int) ≤ (q : Int); omega, by show (q : Int) < _; omega, by show (0 : Int) ≤ (d : Int); omega, by show (d : Int) < _; omega⟩
theorem ka_right (q : Nat) (hq : q < 50) (d : Nat) (hd : d ≤ 1) : RightI (ka q d) := ⟨by show 1 ≤ 1; omega, by show 1 ≤ 64; omega, by show (q : Int) ≤ _; omega, by show (d : Int) ≤ _; omega⟩
theorem awake03 (k : Nat) : ratlinelaw03_awake.f (k + 4) = some true := by
  have h7 : By [7] := .cons (by omega) (by omega) .nil
  have b3 : ∀ z : Int, 0 ≤ z → z < 256 → By [1, 97, z] := fun z h h2 => .cons (by omega) (by omega) (.cons (by omega) (by omega) (.cons h h2 .nil))
  have t1 : ikey_Take.f [1, 97, 11, 7] = some (⟨#[97]⟩, 5, 1, [7], true) := by
    have := takeI_form (x := ka (5 : Nat) (1 : Nat)) (ka_wf 5 (by omega) 1 (by omega)) (ka_right 5 (by omega) 1 (by omega)) h7 (by decide)
    rw [ka_form 5 (by omega) 1 (by omega)] at this
    exact this
  have t2 : ∃ a b c d, ikey_Take.f [0, 11] = some (a, b, c, d, false) := by
    rcases takeI_cases [0, 11] (.cons (by omega) (by omega) (.cons (by omega) (by omega) .nil)) (by decide) with ⟨x, rest, hw, hr, he, _⟩ | ⟨hf, _⟩
    · exfalso
      obtain ⟨r1, r2, _, _⟩ := hr
      rw [formI, vint_small (by omega)] at he
      simp only [List.cons_append, List.cons.injEq] at he
      omega
    · exact ⟨_, _, _, _, hf⟩
  obtain ⟨a', b', c', d', t2⟩ := t2
  have p1 : ikey_Put.f [] ⟨#[97]⟩ 5 1 = some [1, 97, 11] := by
    have := put_yes (x := ka (5 : Nat) (1 : Nat)) (ka_wf 5 (by omega) 1 (by omega)) (ka_right 5 (by omega) 1 (by omega)) (l := []) (by decide)
    rw [ka_form 5 (by omega) 1 (by omega)] at this
    exact this
  have p0 : ikey_Put.f [] ⟨#[97]⟩ 5 0 = some [1, 97, 10] := by
    have := put_yes (x := ka (5 : Nat) (0 : Nat)) (ka_wf 5 (by omega) 0 (by omega)) (ka_right 5 (by omega) 0 (by omega)) (l := []) (by decide)
    rw [ka_form 5 (by omega) 0 (by omega)] at this
    exact this
  have c1 : ikey_Compare.f (k + 4) ⟨#[97]⟩ 5 1 ⟨#[97]⟩ 4 1 = some (-1) := (compare_f k (ka 5 1) (ka 4 1)).trans (by decide +kernel)
  have c2 : ikey_Compare.f (k + 4) ⟨#[97]⟩ 5 1 ⟨#[97]⟩ 5 0 = some (-1) := (compare_f k (ka 5 1) (ka 5 0)).trans (by decide +kernel)
  have c3 : ikey_Compare.f (k + 4) ⟨#[97]⟩ 5 1 ⟨#[97, 98]⟩ 9 1 = some (-1) := (compare_f k (ka 5 1) ⟨⟨#[97, 98]⟩, 9, 1⟩).trans (by decide +kernel)
  have c4 : ikey_Compare.f (k + 4) ⟨#[97]⟩ 5 1 ⟨#[97]⟩ 6 0 = some 1 := (compare_f k (ka 5 1) (ka 6 0)).trans (by decide +kernel)
  have e1 : ikey_Entry.f ⟨#[97]⟩ 5 0 ⟨#[120]⟩ = some false := (entry_f (ka 5 0) ⟨#[120]⟩).trans (by decide +kernel)
  unfold ratlinelaw03_awake.f
  refine bind3 (one_f _ _ _) (fun t x1 x2 x3 => ?_)
  refine bind5 t1 (fun u u1 u2 u3 u4 u5 => ?_)
  refine bind5 t2 (fun v v1 v2 v3 v4 v5 => ?_)
  refine bind3 (one_f _ _ _) (fun s y1 y2 y3 => ?_)
  rw [x1, x2, x3, y1, y2, y3]
  refine bind1 c1 ?_
  rw [if_pos rfl]
  refine bind3 (one_f _ _ _) (fun s y1 y2 y3 => ?_)
  rw [y1, y2, y3]
  refine bind1 c2 ?_
  rw [if_pos rfl]
  refine bind3 (one_f _ _ _) (fun s y1 y2 y3 => ?_)
  rw [y1, y2, y3]
  refine bind1 c3 ?_
  rw [if_pos rfl]
  refine bind3 (one_f _ _ _) (fun s y1 y2 y3 => ?_)
  rw [y1, y2, y3]
  refine bind1 c4 ?_
  rw [if_pos rfl]
  refine bind3 (show ikey_Sought.f ⟨#[97]⟩ 5 = some (⟨#[97]⟩, 5, 1) from rfl) (fun s y1 y2 y3 => ?_)
  rw [y1, y2, y3, if_pos (by simp)]
  refine bind1 p1 ?_
  refine bind1 (same_f (b3 11 (by omega) (by omega)) (b3 11 (by omega) (by omega))) ?_
  rw [decide_eq_true rfl, if_pos rfl]
  refine bind3 (one_f _ _ _) (fun s y1 y2 y3 => ?_)
  rw [y1, y2, y3]
  refine bind1 p0 ?_
  refine bind1 (same_f (b3 10 (by omega) (by omega)) (b3 10 (by omega) (by omega))) ?_
  rw [decide_eq_true rfl, if_pos rfl, u1, u2, u3, u4, u5, if_pos (by simp)]
  refine bind1 (same_f h7 h7) ?_
  rw [decide_eq_true rfl, if_pos rfl, if_pos rfl, v5, if_neg (by decide)]
  refine bind3 (one_f _ _ _) (fun s y1 y2 y3 => ?_)
  rw [y1, y2, y3]
  refine bind1 e1 ?_
  rfl
end Go.Proofs.YtojemmipkpckbaaL

set_option linter.unusedVariables false
namespace Go.Proofs.YtojemmipkpckbaaL
open Go Go.RowKit Go.Proofs.YtojemmipkpckbaaG Go.Proofs.Ytojemmipkpckbaa.P Go.Proofs.YtojemmipkpckbaaW.PrintWords Go.Proofs.YtojemmipkpckbaaW.PrintMore

def Short (e : En) : Prop := e.f0.f0.size ≤ 70 ∧ e.f1.size ≤ 300
instance (e : En) : Decidable (Short e) := inferInstanceAs (Decidable (_ ∧ _))
theorem rd_en (l : List En) {j : Nat} (h : j < l.length) : rd_T41 l (j : Int) = l[j] := by
  show l.getD ((j : Int)).toNat _ = _
  rw [Int.toNat_natCast, List.getD_eq_getElem?_getD, List.getElem?_eq_getElem h]
  rfl
theorem few_succ {a : Nat} (h : a < 9223372036854775800) : wrap64 ((a : Int) + 1) = ((a + 1 : Nat) : Int) := by unfold wrap64; omega
theorem few_loop (l : List En) (most : Int) (hl : l.length < 9223372036854775800) (k : Nat) :
    ∀ (m j : Nat), j + m = l.length → ratlinelaw03_Few.l0 (m + k + 1) l most l (l.length : Int) (j : Int) = some (decide (∀ e ∈ l.drop j, Short e) && decide ((l.length : Int) ≤ most)) := by
  intro m
  induction m with
  | zero =>
    intro j hj
    obtain rfl : j = l.length := by omega
    simp only [ratlinelaw03_Few.l0]
    rw [if_neg (by omega), List.drop_length]
    simp
  | succ m ih =>
    intro j hj
    have hlt : j < l.length := by omega
    generalize hk : m + 1 + k = q
    have hj1 : j < 9223372036854775800 := by omega
    simp only [ratlinelaw03_Few.l0, few_succ hj1]
    rw [if_pos (by omega), if_pos (by omega), if_pos (by omega), rd_en l hlt, ← hk, show m + 1 + k = m + k + 1 from by omega, ih (j + 1) (by omega), List.drop_eq_getElem_cons hlt]
    by_cases h1 : ((l[j].f0.f0.size : Nat) : Int) > 70
    · rw [if_pos h1, decide_eq_false (fun h => by have := (h l[j] (List.mem_cons_self ..)).1; omega)]
      rfl
    · rw [if_neg h1]
      by_cases h2 : ((l[j].f1.size : Nat) : Int) > 300
      · rw [if_pos h2, decide_eq_false (fun h => by have := (h l[j] (List.mem_cons_self ..)).2; omega)]
        rfl
      · rw [if_neg h2]
        congr 2
        refine decide_eq_decide.2 ⟨fun h e he => ?_, fun h e he => h e (List.mem_cons_of_mem _ he)⟩
        rcases List.mem_cons.1 he with rfl | he
        · exact ⟨by omega, by omega⟩
        · exact h e he
theorem few_f (l : List En) (most : Int) (hl : l.length < 9223372036854775800) (k : Nat) : ratlinelaw03_Few.f (l.length + k + 1) l most = some (decide (∀ e ∈ l, Short e) && decide ((l.length : Int) ≤ most)) := by
  have := few_loop l most hl k l.length 0 (by omega)
  rwa [List.drop_zero] at this
end Go.Proofs.YtojemmipkpckbaaL

set_option linter.unusedVariables false
namespace Go.Proofs.YtojemmipkpckbaaL
open Go Go.RowKit Go.Proofs.YtojemmipkpckbaaG Go.Proofs.Ytojemmipkpckbaa.P Go.Proofs.YtojemmipkpckbaaW.PrintWords Go.Proofs.YtojemmipkpckbaaW.PrintMore

def risesB : List En → Bool
  | a :: b :: r => decide (cmpI a.f0 b.f0 < 0) && risesB (b :: r)
  | _ => true
theorem rises_two (a b : En) (r : List En) : risesB (a :: b :: r) = (decide (cmpI a.f0 b.f0 < 0) && risesB (b :: r)) := rfl
theorem rising_loop (l : List En) (hl : l.length < 9223372036854775800) (q : Nat) :
    ∀ (m j : Nat), j + m + 1 = l.length → ikey_Rising.l0 (m + q + 5) l ((l.length - 1 : Nat) : Int) (j : Int) = some (risesB (l.drop j)) := by
  intro m
  induction m with
  | zero =>
    intro j hj
    simp only [ikey_Rising.l0]
    rw [if_neg (by omega)]
    have : l.drop j = [l[j]'(by omega)] := by rw [List.drop_eq_getElem_cons (by omega), List.drop_of_length_le (by omega)]
    rw [this]
    rfl
  | succ m ih =>
    intro j hj
    have hlt : j < l.length := by omega
    have hlt2 : j + 1 < l.length := by omega
    generalize hk : m + 1 + q + 4 = k
    have hj1 : j < 9223372036854775800 := by omega
    rw [show m + 1 + q + 5 = k + 1 from by omega]
    simp only [ikey_Rising.l0, few_succ hj1]
    rw [if_pos (by omega), if_pos (by omega), if_pos (by omega), if_pos (by omega), if_pos (by omega), rd_en l hlt, rd_en l hlt2]
    have hc := compare_f (m + 1 + q) l[j].f0 l[j + 1].f0
    rw [hk] at hc
    refine bind1 hc ?_
    rw [List.drop_eq_getElem_cons hlt, List.drop_eq_getElem_cons hlt2, rises_two]
    by_cases h : cmpI l[j].f0 l[j + 1].f0 ≥ 0
    · rw [if_pos h, decide_eq_false (by omega), Bool.false_and]
    · rw [if_neg h, decide_eq_true (by omega), Bool.true_and, ← hk, show m + 1 + q + 4 = m + q + 5 from by omega, ih (j + 1) (by omega), List.drop_eq_getElem_cons hlt2]
theorem rising_f (l : List En) (hl : l.length < 9223372036854775800) (q : Nat) : ikey_Rising.f (l.length + q + 5) l = some (risesB l) := by
  unfold ikey_Rising.f
  by_cases h : l.length = 0
  · obtain rfl : l = [] := List.eq_nil_of_length_eq_zero h
    rw [if_pos (by decide), if_pos (by decide)]
    show ikey_Rising.l0 (0 + q + 4 + 1) [] _ _ = _
    simp only [ikey_Rising.l0]
    rw [if_neg (by decide)]
    rfl
  · have hm : mn (l.length : Int) 1 = ((1 : Nat) : Int) := by unfold mn; split <;> omega
    rw [hm, if_pos (by omega), if_pos (by omega), Int.toNat_natCast, List.length_drop]
    have := rising_loop l hl (q + 1) (l.length - 1) 0 (by omega)
    rwa [show l.length - 1 + (q + 1) + 5 = l.length + q + 5 from by omega, List.drop_zero] at this
theorem rising_k {l : List En} (h : l.length ≤ 150) (k : Nat) : ikey_Rising.f (k + 200) l = some (risesB l) := by
  have := rising_f l (by omega) (k + 195 - l.length)
  rwa [show l.length + (k + 195 - l.length) + 5 = k + 200 from by omega] at this
end Go.Proofs.YtojemmipkpckbaaL

set_option linter.unusedVariables false
namespace Go.Proofs.YtojemmipkpckbaaL
open Go Go.RowKit Go.Proofs.YtojemmipkpckbaaG Go.Proofs.Ytojemmipkpckbaa.P Go.Proofs.YtojemmipkpckbaaW.PrintWords Go.Proofs.YtojemmipkpckbaaW.PrintMore

theorem rright_f' (a : ByteArray) (b c : Int) : ratlineref03_Right.f a b c = some (decide (RightI ⟨a, b, c⟩)) := by
  unfold ratlineref03_Right.f
  by_cases h0 : (a.size : Int) ≥ 1
  · rw [if_pos h0]
    by_cases h1 : (a.size : Int) ≤ 64
    · rw [if_pos h1]
      by_cases h2 : b ≤ 72057594037927935
      · rw [if_pos h2]
        congr 1
        exact decide_eq_decide.2 ⟨fun h => ⟨by show 1 ≤ a.size; omega, by show a.size ≤ 64; omega, h2, h⟩, fun h => h.2.2.2⟩
      · rw [if_neg h2, decide_eq_false (show ¬ RightI ⟨a, b, c⟩ from fun h => h2 h.2.2.1)]
    · rw [if_neg h1, decide_eq_false (show ¬ RightI ⟨a, b, c⟩ from fun h => h1 (by have := h.2.1; simp only at this; omega))]
  · rw [if_neg h0, decide_eq_false (show ¬ RightI ⟨a, b, c⟩ from fun h => h0 (by have := h.1; simp only at this; omega))]
theorem rentry_f (x : Ik) (v : ByteArray) (hw : Wf x) : ratlineref03_Entry.f x.f0 x.f1 x.f2 v = ikey_Entry.f x.f0 x.f1 x.f2 v := by
  obtain ⟨_, _, w3, _⟩ := hw
  rw [entry_f]
  unfold ratlineref03_Entry.f
  refine bind1 (rright_f' _ _ _) ?_
  by_cases hr : RightI x
  · rw [show decide (RightI ⟨x.f0, x.f1, x.f2⟩) = true from decide_eq_true hr, if_pos rfl, Bool.true_and]
    have h2 := hr.2.2.2
    by_cases hv : (v.size : Int) ≤ 256
    · rw [if_pos hv]
      by_cases h1 : x.f2 = 1
      · rw [if_pos h1, if_neg (by omega), decide_eq_true hv]
      · rw [if_neg h1, if_pos (by omega)]
        congr 1
        by_cases hz : v.size = 0
        · rw [ba_nil_iff.2 hz, decide_eq_true (by omega)]; rfl
        · have : ¬ v.toList = [] := fun e => hz (ba_nil_iff.1 e)
          rw [beq_false_of_ne this, decide_eq_false (by omega)]
    · rw [if_neg hv, decide_eq_false (by split <;> omega)]
  · rw [show decide (RightI ⟨x.f0, x.f1, x.f2⟩) = false from decide_eq_false hr, if_neg (by decide), Bool.false_and]
theorem rcompare_f (x y : Ik) : ratlineref03_Compare.f x.f0 x.f1 x.f2 y.f0 y.f1 y.f2 = some (cmpI x y) := by
  unfold ratlineref03_Compare.f cmpI
  by_cases c1 : lt x.f0 y.f0
  · rw [if_pos c1, if_pos (show Op.bytesLess x.f0.toList y.f0.toList = true from c1)]
  · rw [if_neg c1, if_neg (show ¬ Op.bytesLess x.f0.toList y.f0.toList = true from c1)]
    by_cases c2 : lt y.f0 x.f0
    · rw [if_pos c2, if_pos (show Op.bytesLess y.f0.toList x.f0.toList = true from c2)]
    · rw [if_neg c2, if_neg (show ¬ Op.bytesLess y.f0.toList x.f0.toList = true from c2)]
      repeat' split
      all_goals rfl
theorem rrising_loop (l : List En) (hl : l.length < 9223372036854775800) (q : Nat) :
    ∀ (m j : Nat), j + m + 1 = l.length → ratlineref03_Rising.l0 (m + q + 1) l ((j + 1 : Nat) : Int) = some (risesB (l.drop j)) := by
  intro m
  induction m with
  | zero =>
    intro j hj
    simp only [ratlineref03_Rising.l0]
    rw [if_neg (by omega)]
    have : l.drop j = [l[j]'(by omega)] := by rw [List.drop_eq_getElem_cons (by omega), List.drop_of_length_le (by omega)]
    rw [this]
    rfl
  | succ m ih =>
    intro j hj
    have hlt : j < l.length := by omega
    have hlt2 : j + 1 < l.length := by omega
    generalize hk : m + 1 + q = k
    have hj1 : j + 1 < 9223372036854775800 := by omega
    have hm : wrap64 (((j + 1 : Nat) : Int) - 1) = (j : Int) := by unfold wrap64; omega
    simp only [ratlineref03_Rising.l0, few_succ hj1, hm]
    rw [if_pos (by omega), if_pos (by omega), if_pos (by omega), if_pos (by omega), rd_en l hlt, rd_en l hlt2]
    refine bind1 (rcompare_f _ _) ?_
    rw [List.drop_eq_getElem_cons hlt, List.drop_eq_getElem_cons hlt2, rises_two]
    by_cases h : cmpI l[j].f0 l[j + 1].f0 ≥ 0
    · rw [if_pos h, decide_eq_false (by omega), Bool.false_and]
    · rw [if_neg h, decide_eq_true (by omega), Bool.true_and, ← hk, show m + 1 + q = m + q + 1 from by omega, ih (j + 1) (by omega), List.drop_eq_getElem_cons hlt2]
theorem rrising_k {l : List En} (h : l.length ≤ 150) (k : Nat) : ratlineref03_Rising.f (k + 200) l = some (risesB l) := by
  unfold ratlineref03_Rising.f
  by_cases h0 : l.length = 0
  · obtain rfl : l = [] := List.eq_nil_of_length_eq_zero h0
    rw [show k + 200 = (k + 199) + 1 from rfl]
    generalize k + 199 = z
    simp only [ratlineref03_Rising.l0]
    rw [if_neg (by decide)]
    rfl
  · have := rrising_loop l (by omega) (k + 200 - l.length) (l.length - 1) 0 (by omega)
    rw [show l.length - 1 + (k + 200 - l.length) + 1 = k + 200 from by omega, List.drop_zero] at this
    exact this
theorem rputI_f (x : Ik) (hw : Wf x) {l : List Int} (hl : l.length + 200 < 140737488355328) (k : Nat) : ratlineref03_Put.f (k + 200) l x.f0 x.f1 x.f2 = ikey_Put.f l x.f0 x.f1 x.f2 := by
  unfold ratlineref03_Put.f
  refine bind1 (rright_f' _ _ _) ?_
  by_cases hr : RightI x
  · rw [show decide (RightI ⟨x.f0, x.f1, x.f2⟩) = true from decide_eq_true hr, if_pos rfl, put_yes hw hr hl]
    obtain ⟨w1, w2, w3, w4⟩ := hw
    obtain ⟨r1, r2, r3, r4⟩ := hr
    refine bind1 (rputText_f (by omega) (by omega)) ?_
    have e1 : IntKind.u64.wrap (IntKind.u64.wrap (x.f1 * 2) + IntKind.u64.wrap x.f2) = ((x.f2.toNat + x.f1.toNat * 2 : Nat) : Int) := by rw [IntKind.wrap_u64, IntKind.wrap_u64, IntKind.wrap_u64]; omega
    have hv := vint_len10 (x := x.f0.size) (by omega)
    rw [e1]
    refine bind1 (rput_f (by omega) (by omega) (by rw [List.length_append, List.length_append, bytesOf_length]; omega)) ?_
    unfold formI
    simp only [List.append_assoc]
  · rw [show decide (RightI ⟨x.f0, x.f1, x.f2⟩) = false from decide_eq_false hr, if_neg (by decide), put_no hr hl, if_pos (by simp; omega)]
    rfl
theorem rtakeI_f {l : List Int} (hb : By l) (hl : l.length + 20 < 140737488355328) (k : Nat) : ratlineref03_Take.f (k + 200) l = ikey_Take.f l := by
  unfold ratlineref03_Take.f ikey_Take.f
  rw [rtakeText_f (by omega) (by omega) hb hl (by omega)]
  rcases takeText_cases l 64 (by omega) hb hl with ⟨s, rest, hs, he, hf⟩ | ⟨hf, hno⟩
  · have hr : By rest := By.right (By.right (he ▸ hb))
    have hlr : l.length = (vint s.size).length + (s.size + rest.length) := by rw [he, List.length_append, List.length_append, bytesOf_length]
    rw [hf]
    refine bind3 rfl (fun t e1 e2 e3 => ?_)
    rw [if_pos e3, e1, e2]
    symm
    refine bind3 rfl (fun u f1 f2 f3 => ?_)
    rw [f1, f2, f3, rtake_f hr (by omega) (by omega)]
    rcases take_cases rest hr (by omega) with ⟨m, behind, hm, he2, hf2⟩ | ⟨hf2, _⟩
    · rw [hf2]
      refine bind3 rfl (fun v g1 g2 g3 => ?_)
      symm
      refine bind3 rfl (fun w' h1 h2 h3 => ?_)
      have q1 : IntKind.u64.wrap (Int.tdiv (m : Int) 2) = (m : Int) / 2 := by rw [show Int.tdiv (m : Int) 2 = ((m / 2 : Nat) : Int) from by rw [Int.ofNat_tdiv]; rfl, IntKind.wrap_u64]; omega
      have q2 : Int.tmod (m : Int) 2 % 256 = bits .and .u64 (m : Int) 1 % 256 := by rw [and1_u64 m hm, show Int.tmod (m : Int) 2 = ((m % 2 : Nat) : Int) from by rw [Int.ofNat_tmod]; rfl]
      rw [if_pos h3, if_pos rfl, if_pos g3, h1, h2, g1, g2, q1, q2, rright_f', right_f']
    · rw [hf2]
      refine bind3 rfl (fun v g1 g2 g3 => ?_)
      symm
      refine bind3 rfl (fun w' h1 h2 h3 => ?_)
      rw [if_neg (by rw [h3]; decide), if_pos rfl, if_neg (by rw [g3]; decide)]
  · rw [hf]
    refine bind3 rfl (fun t e1 e2 e3 => ?_)
    rw [if_neg (by rw [e3]; decide)]
    symm
    refine bind3 rfl (fun u f1 f2 f3 => ?_)
    rw [f2]
    have h0 : nums_Take.f [] = some (0, [], false) := by
      rcases take_cases [] .nil (by simp) with ⟨x, rest, _, he, _⟩ | ⟨h, _⟩
      · have := congrArg List.length he
        rw [List.length_append] at this
        have := vint_pos x
        simp at *
        omega
      · exact h
    rw [h0]
    refine bind3 rfl (fun v g1 g2 g3 => ?_)
    rw [if_neg (by rw [f3]; decide)]
end Go.Proofs.YtojemmipkpckbaaL

set_option linter.unusedVariables false
namespace Go.Proofs.Ytojemmipkpckbaa.Pure
open Go Go.RowKit Go.Proofs.Ytojemmipkpckbaa.P Go.Proofs.YtojemmipkpckbaaG Go.Proofs.YtojemmipkpckbaaL Go.Proofs.YtojemmipkpckbaaW.PrintWords Go.Proofs.YtojemmipkpckbaaW.PrintMore Go.Proofs.YtojemmipkpckbaaW.PrintLast

theorem wf_ik {x : Ik} (h1 : (Lit.int .u64 x.f1).wf = true) (h2 : (Lit.int .u8 x.f2).wf = true) : Wf x := by
  simp [Lit.wf, IntKind.min, IntKind.max, IntKind.bits, IntKind.signed] at h1 h2
  exact ⟨by omega, by omega, by omega, by omega⟩
theorem take_eq {l : List Int} (hb : By l) (hl : l.length + 20 < 140737488355328) : ∃ (a : ByteArray) (b c : Int) (d : List Int) (e : Bool), By d ∧ ikey_Take.f l = some (a, b, c, d, e) := by
  rcases takeI_cases l hb hl with ⟨x, rest, _, _, he, hf⟩ | ⟨hf, _⟩
  · exact ⟨_, _, _, _, _, By.right (he ▸ hb), hf⟩
  · exact ⟨_, _, _, _, _, .nil, hf⟩
theorem put_by {x : Ik} (hw : Wf x) {l : List Int} (hb : By l) (hl : l.length + 200 < 140737488355328) : ∃ r, By r ∧ ikey_Put.f l x.f0 x.f1 x.f2 = some r := by
  by_cases hr : RightI x
  · exact ⟨_, hb.append (formI_by x), put_yes hw hr hl⟩
  · exact ⟨_, hb, put_no hr hl⟩
theorem tells_j0 (x y : Ik) (hx : Wf x) (v : ByteArray) (l : List En) (hl : l.length ≤ 60) (raw : List Int) (hr : By raw) (hrl : raw.length ≤ 200) (k : Nat) :
    ratlinelaw03_IkeyTells.j0 (k + 201) v l raw false x.f0 x.f1 x.f2 y.f0 y.f1 y.f2 = some true := by
  generalize hq : k + 200 = q
  rw [show k + 201 = q + 1 from by omega]
  simp only [ratlinelaw03_IkeyTells.j0]
  rw [if_neg (by decide)]
  obtain ⟨a, b, c, d, e, hd, ht⟩ := take_eq hr (by omega)
  have hrt : ratlineref03_Take.f q raw = some (a, b, c, d, e) := by rw [← hq, rtakeI_f hr (by omega) k, ht]
  refine bind5 ht (fun t t1 t2 t3 t4 t5 => ?_)
  refine bind5 hrt (fun u u1 u2 u3 u4 u5 => ?_)
  rw [t1, t2, t3, t4, t5, u1, u2, u3, u4, u5]
  refine bind1 (right_f x) ?_
  refine bind1 (rright_f' x.f0 x.f1 x.f2) ?_
  rw [if_pos (by exact beq_self_eq_true _)]
  have he1 := entry_f x v
  have he2 := rentry_f x v hx
  rw [he1] at he2
  refine bind1 he1 ?_
  refine bind1 he2 ?_
  rw [if_pos (beq_self_eq_true _)]
  have hc := compare_f (k + 196) x y
  rw [show k + 196 + 4 = q from by omega] at hc
  refine bind1 hc ?_
  refine bind1 (rcompare_f x y) ?_
  rw [if_pos rfl]
  have h1 := rising_k (l := l) (by omega) k
  have h2 := rrising_k (l := l) (by omega) k
  rw [hq] at h1 h2
  refine bind1 h1 ?_
  refine bind1 h2 ?_
  rw [if_pos (beq_self_eq_true _)]
  refine bind3 (show ikey_Sought.f x.f0 y.f1 = some (x.f0, y.f1, 1) from rfl) (fun w w1 w2 w3 => ?_)
  refine bind3 (show ratlineref03_Sought.f x.f0 y.f1 = some (x.f0, y.f1, 1) from rfl) (fun z z1 z2 z3 => ?_)
  rw [w1, w2, w3, z1, z2, z3, if_pos (by simp)]
  obtain ⟨r, hrb, hp⟩ := put_by hx hr (by omega)
  have hp2 := rputI_f x hx (l := raw) (by omega) k
  rw [hq, hp] at hp2
  refine bind1 hp ?_
  refine bind1 hp2 ?_
  refine bind1 (same_f hrb hrb) ?_
  rw [decide_eq_true rfl, if_pos rfl, if_pos (by simp)]
  refine bind1 (same_f hd hd) ?_
  rw [decide_eq_true rfl, if_pos rfl, if_pos (beq_self_eq_true _), show q = (k + 196) + 4 from by omega, awake03]
  rfl
theorem IkeyTells (x : Ik) (hx : x.f0.size ≤ maxLen ∧ (Lit.int .u64 x.f1).wf = true ∧ (Lit.int .u8 x.f2).wf = true) (y : Ik) (_ : y.f0.size ≤ maxLen ∧ (Lit.int .u64 y.f1).wf = true ∧ (Lit.int .u8 y.f2).wf = true) (v : ByteArray) (_ : v.size ≤ maxLen)
    (l : List En) (_ : l.length ≤ maxLen) (hl : l.length * 48 ≤ 140737488351232) (_ : ∀ e ∈ l, (e.f0.f0.size ≤ maxLen ∧ (Lit.int .u64 e.f0.f1).wf = true ∧ (Lit.int .u8 e.f0.f2).wf = true) ∧ e.f1.size ≤ maxLen)
    (raw : List Int) (_ : raw.length ≤ maxLen) (_ : raw.length * 1 ≤ 140737488351232) (hr0 : ∀ c ∈ raw, (Lit.int .u8 c).wf = true) :
    ∃ k, ratlinelaw03_IkeyTells.f k x.f0 x.f1 x.f2 y.f0 y.f1 y.f2 v l raw = some true := by
  have hr := By.of_wf hr0
  refine ⟨l.length + 500, ?_⟩
  have hj : ratlinelaw03_IkeyTells.j0 (l.length + 500) v l raw true x.f0 x.f1 x.f2 y.f0 y.f1 y.f2 = some true := by
    generalize hq : l.length + 499 = q
    rw [show l.length + 500 = q + 1 from by omega]
    simp only [ratlinelaw03_IkeyTells.j0]
    rw [if_pos trivial, show q = (l.length + 495) + 4 from by omega, awake03]
    rfl
  unfold ratlinelaw03_IkeyTells.f
  refine bind1 rfl ?_
  rw [if_pos (by show 2 + l.length < _; omega)]
  have hfew := few_f ([(⟨(⟨x.f0, x.f1, x.f2⟩ : Ik), v⟩ : En), (⟨(⟨y.f0, y.f1, y.f2⟩ : Ik), (⟨#[]⟩ : ByteArray)⟩ : En)] ++ l) 62 (by show (l.length + 1 + 1) < _; omega) 497
  rw [show ([(⟨(⟨x.f0, x.f1, x.f2⟩ : Ik), v⟩ : En), (⟨(⟨y.f0, y.f1, y.f2⟩ : Ik), (⟨#[]⟩ : ByteArray)⟩ : En)] ++ l).length = l.length + 2 from by simp, show l.length + 2 + 497 + 1 = l.length + 500 from by omega] at hfew
  refine bind1 hfew ?_
  by_cases hs : (decide (∀ e ∈ ([(⟨(⟨x.f0, x.f1, x.f2⟩ : Ik), v⟩ : En), (⟨(⟨y.f0, y.f1, y.f2⟩ : Ik), (⟨#[]⟩ : ByteArray)⟩ : En)] ++ l), Short e) && decide (((l.length + 2 : Nat) : Int) ≤ 62)) = true
  · rw [if_pos hs]
    rw [Bool.and_eq_true, decide_eq_true_eq, decide_eq_true_eq] at hs
    by_cases c : (raw.length : Int) > 200
    · rw [decide_eq_true c]; exact hj
    · rw [decide_eq_false c]
      exact tells_j0 x y (wf_ik hx.2.1 hx.2.2) v l (by omega) raw hr (by omega) (l.length + 299)
  · rw [if_neg hs]; exact hj
end Go.Proofs.Ytojemmipkpckbaa.Pure

end

section
set_option linter.unusedVariables false
namespace Go.Proofs.Ytojemmipkpckbaa.ikeyTells
open Go Go.ChangeShapes Go.WideShapes Go.ChangeAt Go.RowKit Go.Proofs.YtojemmipkpckbaaG Go.Proofs.Ytojemmipkpckbaa.P Go.Proofs.YtojemmipkpckbaaW.PrintWords
open Go.ChangeMaps (open_string shut_string)
theorem own : ownKnob Try.prog.godebug = none := by kernel_rfl
theorem laidOut : laidOutB Try.prog = true := by kernel_rfl
set_option maxRecDepth 100000 in
theorem lifted (os : Os) (started : os.Started) (H : Type) (enc : TypeId × Value → H) :
    ReturnsInHanded {} Try.checked os 12 .any (Rows.ikeyTellsSpec.pre6 enc Try.prog Try.f12 Rows.ikeyTellsRow.domain false) (Rows.ikeyTellsSpec.post enc Try.prog Try.f12 false true false false) := by
  refine returnsInHanded_of_change_sized (C := Try.checked) own started (by kernel_rfl) Try.func12
    (ChangeSpec.witness6 (enc := enc) (C := Try.checked) false ⟨#[], #[.agg #[.string ⟨#[]⟩, .int .u64 0, .int .u8 0], .agg #[.string ⟨#[]⟩, .int .u64 0, .int .u8 0], .string ⟨#[]⟩, .slice none 0 0, .slice none 0 0], []⟩ 8 (by kernel_rfl) (by kernel_rfl) (by kernel_rfl) (by kernel_rfl)) ?_
  intro W base args ds gs before hval0 hW hcnd hsz0 _
  have hsz : (DataW.weightsEach Try.prog (Try.f12.params.toList ++ Rows.ikeyTellsSpec.plain.varTypes Try.prog) (ds ++ gs)).all (· ≤ reachBytes) = true := hsz0
  have hval : ∀ (j : Nat) t v, Try.f12.params[j]? = some t → args[j]? = some v → Value.okWide Try.prog W .any base t v := hval0
  have hW' := hW
  obtain ⟨p, q, hA0, hV, rfl, hfz, hnd⟩ := hW
  have hA : DataW.TrodAll enc Try.prog W 0 (fun _ => true) true Try.f12.params.toList args.toList ds p := hA0
  rw [Try.params12] at hA hval hsz
  obtain ⟨v0, vs0, d0, ds0, p0, q0, hargs, rfl, rfl, h0, r0⟩ := trodAll_cons hA
  obtain ⟨v1, vs1, d1, ds1, p1, q1, rfl, rfl, rfl, h1, r1⟩ := trodAll_cons r0
  obtain ⟨v2, vs2, d2, ds2, p2, q2, rfl, rfl, rfl, h2, r2⟩ := trodAll_cons r1
  obtain ⟨v3, vs3, d3, ds3, p3, q3, rfl, rfl, rfl, h3, r3⟩ := trodAll_cons r2
  obtain ⟨v4, vs4, d4, ds4, p4, q4, rfl, rfl, rfl, h4, r4⟩ := trodAll_cons r3
  obtain ⟨rfl, rfl, rfl⟩ := trodAll_nil r4
  obtain rfl : args = #[v0, v1, v2, v3, v4] := by cases args; simp_all
  obtain ⟨rfl, rfl⟩ := trodVars_none hV
  obtain ⟨cs0, rfl⟩ := opens_agg Try.underlying39 (hval 0 39 v0 rfl rfl)
  have k0 := h0
  have lt0 : ∀ x ∈ p0, x.block < W.heap.size := by obtain ⟨m, hm⟩ := k0; exact DataW.trod_lt m _ _ _ hm
  obtain ⟨fuel0, hf0⟩ := h0
  obtain ⟨x0, hx0, hw0⟩ := (show Opens Try.prog 39 k39 _ from Opens.iso (opens_struct3 (ta := 9) (tb := 23) (tc := 5) Try.underlying39 (by kernel_rfl) (by kernel_rfl) (by kernel_rfl) (by kernel_rfl) (by kernel_rfl) (by kernel_rfl) (by kernel_rfl) (opens_string Try.underlying9) (opens_int Try.underlying23) (opens_int Try.underlying5)) (fun x : S39 => (x.f0, x.f1, x.f2)) (fun q => ⟨q.1, q.2.1, q.2.2⟩) (fun _ => rfl)) H enc _ _ _ _ _ _ _ hf0
  obtain rfl : cs0 = #[.string x0.f0, .int .u64 x0.f1, .int .u8 x0.f2] := Array.ext' (k39_open hx0)
  obtain ⟨cs1, rfl⟩ := opens_agg Try.underlying39 (hval 1 39 v1 rfl rfl)
  have k1 := h1
  have lt1 : ∀ x ∈ p1, x.block < W.heap.size := by obtain ⟨m, hm⟩ := k1; exact DataW.trod_lt m _ _ _ hm
  obtain ⟨fuel1, hf1⟩ := h1
  obtain ⟨x1, hx1, hw1⟩ := (show Opens Try.prog 39 k39 _ from Opens.iso (opens_struct3 (ta := 9) (tb := 23) (tc := 5) Try.underlying39 (by kernel_rfl) (by kernel_rfl) (by kernel_rfl) (by kernel_rfl) (by kernel_rfl) (by kernel_rfl) (by kernel_rfl) (opens_string Try.underlying9) (opens_int Try.underlying23) (opens_int Try.underlying5)) (fun x : S39 => (x.f0, x.f1, x.f2)) (fun q => ⟨q.1, q.2.1, q.2.2⟩) (fun _ => rfl)) H enc _ _ _ _ _ _ _ hf1
  obtain rfl : cs1 = #[.string x1.f0, .int .u64 x1.f1, .int .u8 x1.f2] := Array.ext' (k39_open hx1)
  obtain ⟨a2, rfl, rfl, rfl, w2⟩ := open_string Try.underlying9 (hval 2 9 v2 rfl rfl) h2
  obtain ⟨a3, len3, cap3, rfl⟩ := okWide_slice Try.underlying29 (hval 3 29 v3 rfl rfl)
  have k3 := h3
  have y3 := sized_row hsz (j := 3) (t := 29) rfl rfl Try.underlying29 48 (by kernel_rfl) h3
  have lt3 : ∀ x ∈ p3, x.block < W.heap.size := by obtain ⟨m, hm⟩ := k3; exact DataW.trod_lt m _ _ _ hm
  obtain ⟨fuel3, hf3⟩ := h3
  obtain ⟨A3, c3, l3, hcs3, hl3, hm3, hC3, hw3⟩ := opens_row (by kernel_rfl) Try.underlying29 (show Opens Try.prog 41 k41 _ from Opens.iso (opens_struct2 (ta := 39) (tb := 9) Try.underlying41 (by kernel_rfl) (by kernel_rfl) (by kernel_rfl) (by kernel_rfl) (by kernel_rfl) (show Opens Try.prog 39 k39 _ from Opens.iso (opens_struct3 (ta := 9) (tb := 23) (tc := 5) Try.underlying39 (by kernel_rfl) (by kernel_rfl) (by kernel_rfl) (by kernel_rfl) (by kernel_rfl) (by kernel_rfl) (by kernel_rfl) (opens_string Try.underlying9) (opens_int Try.underlying23) (opens_int Try.underlying5)) (fun x : S39 => (x.f0, x.f1, x.f2)) (fun q => ⟨q.1, q.2.1, q.2.2⟩) (fun _ => rfl)) (opens_string Try.underlying9)) (fun x : S41 => (x.f0, x.f1)) (fun q => ⟨q.1, q.2⟩) (fun _ => rfl)) hf3
  simp only [Value.cells, List.cons.injEq, Value.slice.injEq, and_true] at hcs3
  obtain ⟨rfl, rfl, rfl⟩ := hcs3
  obtain ⟨a4, len4, cap4, rfl⟩ := okWide_slice Try.underlying44 (hval 4 44 v4 rfl rfl)
  have k4 := h4
  have y4 := sized_row hsz (j := 4) (t := 44) rfl rfl Try.underlying44 1 (by kernel_rfl) h4
  have lt4 : ∀ x ∈ p4, x.block < W.heap.size := by obtain ⟨m, hm⟩ := k4; exact DataW.trod_lt m _ _ _ hm
  obtain ⟨fuel4, hf4⟩ := h4
  obtain ⟨A4, c4, l4, hcs4, hl4, hm4, hC4, hw4⟩ := opens_row (by kernel_rfl) Try.underlying44 (opens_int Try.underlying5) hf4
  simp only [Value.cells, List.cons.injEq, Value.slice.injEq, and_true] at hcs4
  obtain ⟨rfl, rfl, rfl⟩ := hcs4
  obtain ⟨k, h⟩ := Pure.IkeyTells x0 hw0 x1 hw1 a2 w2 l3 (Nat.le_trans hl3 hm3) y3 hw3 l4 (Nat.le_trans hl4 hm4) y4 hw4
  clear hA0 hval0 hsz0 hsz
  refine (P.ratlinelaw03_IkeyTells.calls k x0.f0 x0.f1 x0.f2 x1.f0 x1.f1 x1.f2 a2 _ _ l3 _ _ l4 true W hC3 hl3 hC4 hl4 h).mono fun e W' ⟨he, bel⟩ => ?_
  subst he
  exact ⟨_, rfl, _, _, _, [], _, [], hW', trodAll_mk1 (shut_bool Try.underlying4 _), (trodAll_cons_mk (Below.trod laidOut (by kernel_rfl) (of_decide_eq_true (by kernel_rfl)) k0 bel lt0) (trodAll_cons_mk (Below.trod laidOut (by kernel_rfl) (of_decide_eq_true (by kernel_rfl)) k1 bel lt1) (trodAll_cons_mk (shut_string Try.underlying9 w2) (trodAll_cons_mk (Below.trod laidOut (by kernel_rfl) (of_decide_eq_true (by kernel_rfl)) k3 bel lt3) (trodAll_cons_mk (Below.trod laidOut (by kernel_rfl) (of_decide_eq_true (by kernel_rfl)) k4 bel lt4) trodAll_mk0))))), rfl, bel.frame _, fun h => by cases h⟩
theorem over : Rows.ikeyTellsRow.holds Try.pinned (OpenSpec.ofChange Rows.ikeyTellsSpec) :=
  OpenClaim.holds_of_wide 12 Try.f12 rfl rfl rfl rfl rfl rfl rfl ⟨rfl, rfl, rfl, rfl, rfl⟩ rfl rfl rfl rfl rfl (by kernel_rfl) Try.func12 (by kernel_rfl)
    (of_decide_eq_true (by kernel_rfl)) (by unfold Func.isWrapper; first | (rw [if_pos (by decide +kernel)]; kernel_rfl) | (rw [if_neg (by decide +kernel)]; exact ⟨rfl, rfl⟩))
    (fun os started H enc _ => lifted os started H enc)
theorem proved : Rows.IkeyTellsSaid := over
#print axioms proved
end Go.Proofs.Ytojemmipkpckbaa.ikeyTells
namespace Go.Proofs.Ytojemmipkpckbaa
/-- The row, under a short name, for the claim. -/
theorem ikeyTells_holds : Rows.IkeyTellsSaid := ikeyTells.proved
end Go.Proofs.Ytojemmipkpckbaa

end
