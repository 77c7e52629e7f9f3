/- Proved here: the row of MergeLater, and what it needs. Conditions: those of each theorem. Written for this claim by programs; what the claim does not use is left out. -/
import Derived.ChangeArms
import Derived.DataReads
import Derived.DataElems
import Derived.OpenShut
import Derived.SizedLaws
import Derived.Test.YtojemmipkpckbaaRows
import Derived.WalkKit
import Derived.ProofKit
import Derived.ShutString
import Derived.ChangeOld
import Derived.Below
import Derived.Test.YtojemmipkpckbaaSMergeLater4
section
set_option linter.unusedVariables false
namespace Go.Proofs.Ytojemmipkpckbaa.Pure
open Go Go.RowKit Go.Proofs.Ytojemmipkpckbaa.P Go.Proofs.YtojemmipkpckbaaG Go.Proofs.YtojemmipkpckbaaL Go.Proofs.YtojemmipkpckbaaW.PrintWords Go.Proofs.YtojemmipkpckbaaW.PrintMore Go.Proofs.YtojemmipkpckbaaW.PrintLast

theorem fine_rest {e : MEn} {L : List (List MEn)} (h : fineB ([e] :: L) = true) : Rises L ∧ L.length ≤ 12 ∧ mSize L ≤ 120 ∧ mFits L := by
  obtain ⟨h1, h2, h3, _⟩ := fine_fits h
  have hs : mSize ([e] :: L) = 1 + mSize L := rfl
  rw [List.length_cons] at h2
  exact ⟨fun l hl => h1 l (List.mem_cons_of_mem _ hl), by omega, by omega, ⟨by omega, by omega⟩⟩
theorem low_lt {s b : Int} (h1 : 1 ≤ s) (h2 : s < 18446744073709551616) (h3 : 0 ≤ b) (h4 : b < 256) : IntKind.u64.wrap ((IntKind.u64.wrap (s - 1)) - (Int.tmod (IntKind.u64.wrap b) s)) < s := by
  rw [IntKind.wrap_u64, IntKind.wrap_u64, IntKind.wrap_u64, Int.emod_eq_of_lt h3 (by omega), Int.emod_eq_of_lt (by omega : 0 ≤ s - 1) (by omega), Int.tmod_eq_emod_of_nonneg h3]
  have h5 := Int.emod_nonneg b (by omega : s ≠ 0)
  have h6 := Int.emod_lt_of_pos b (by omega : 0 < s)
  rw [Int.emod_eq_of_lt (by omega) (by omega)]
  omega
theorem later_scan {e : MEn} {L : List (List MEn)} (h : fineB ([e] :: L) = true) {q : Int} (hq : q < e.f0.f1) : merge_Scan.f ([e] :: L) ⟨#[]⟩ ⟨#[]⟩ q 1000 = merge_Scan.f L ⟨#[]⟩ ⟨#[]⟩ q 1000 := by
  obtain ⟨hr, h1, h2, hf⟩ := fine_rest h
  obtain ⟨hr2, h12, h22, hf2⟩ := fine_fits h
  unfold merge_Scan.f
  rw [if_pos hf, if_pos hf2, seen_filter ⟨#[]⟩ q (mAll (mSize ([e] :: L)) ([e] :: L)), seen_filter ⟨#[]⟩ q (mAll (mSize L) L), mAll_more_filter hr (fun k => decide (k.f1 ≤ q)) (by simp; omega)]
theorem later_get {e : MEn} {L : List (List MEn)} (h : fineB ([e] :: L) = true) {key : ByteArray} (hk : ¬ key = e.f0.f0) (q : Int) : merge_Get.f ([e] :: L) key q = merge_Get.f L key q := by
  obtain ⟨hr, h1, h2, hf⟩ := fine_rest h
  obtain ⟨hr2, h12, h22, hf2⟩ := fine_fits h
  have hu := keys_up (mAll_up (mSize L) L hr).1
  have hu2 := keys_up (mAll_up (mSize ([e] :: L)) ([e] :: L) hr2).1
  unfold merge_Get.f
  rw [if_pos hf, if_pos hf2, get_seen _ _ _ hu, get_seen _ _ _ hu2, get_filter key q (mAll (mSize ([e] :: L)) ([e] :: L)), get_filter key q (mAll (mSize L) L), mAll_more_filter hr (fun k => decide (k.f0 = key)) (by simpa using fun z => hk z.symm)]
theorem ml_true (L : List (List MEn)) (b : Int) (key a0 : ByteArray) (a1 a2 : Int) (a3 : ByteArray) : Ev (fun k => ratlinelaw11_MergeLater.j0 k L b key true a0 a1 a2 a3) true :=
  ev_step (fun k => by rw [ratlinelaw11_MergeLater.j0]) (ev_pos rfl (ev_call awake11 (ev_some _)))
theorem ml_false {L : List (List MEn)} (hL : L.length ≤ 5864062014634) {b : Int} (key : ByteArray) {e : MEn} (h : fineB ([e] :: L) = true) (h1 : 1 ≤ e.f0.f1) (h2 : e.f0.f1 < 18446744073709551616) (h3 : 0 ≤ b) (h4 : b < 256) :
    Ev (fun k => ratlinelaw11_MergeLater.j0 k L b key false e.f0.f0 e.f0.f1 e.f0.f2 e.f1) true := by
  obtain ⟨hr, h12, h22, hf⟩ := fine_rest h
  obtain ⟨hr2, h13, h23, hf2⟩ := fine_fits h
  have hlow := low_lt h1 h2 h3 h4
  have hsc := later_scan h hlow
  have hlen := mAll_len (mSize L) L
  have hs : merge_Scan.f L ⟨#[]⟩ ⟨#[]⟩ (IntKind.u64.wrap ((IntKind.u64.wrap (e.f0.f1 - 1)) - (Int.tmod (IntKind.u64.wrap b) e.f0.f1))) 1000 = some (mScan ⟨#[]⟩ 1000 [] (mSeen ⟨#[]⟩ (IntKind.u64.wrap ((IntKind.u64.wrap (e.f0.f1 - 1)) - (Int.tmod (IntKind.u64.wrap b) e.f0.f1))) none (mAll (mSize L) L))) := by unfold merge_Scan.f; rw [if_pos hf]
  have hsl := mScan_len ⟨#[]⟩ 1000 (mSeen ⟨#[]⟩ (IntKind.u64.wrap ((IntKind.u64.wrap (e.f0.f1 - 1)) - (Int.tmod (IntKind.u64.wrap b) e.f0.f1))) none (mAll (mSize L) L)) []
  have hml := mSeen_len ⟨#[]⟩ (IntKind.u64.wrap ((IntKind.u64.wrap (e.f0.f1 - 1)) - (Int.tmod (IntKind.u64.wrap b) e.f0.f1))) (mAll (mSize L) L) none
  have hg1 : ∃ v1 b1, merge_Get.f ([e] :: L) key e.f0.f1 = some (v1, b1) := by unfold merge_Get.f; rw [if_pos hf2]; exact ⟨_, _, rfl⟩
  have hg2 : ∃ v1 b1, merge_Get.f L key e.f0.f1 = some (v1, b1) := by unfold merge_Get.f; rw [if_pos hf]; exact ⟨_, _, rfl⟩
  obtain ⟨v1, b1, hg1⟩ := hg1
  obtain ⟨v2, b2, hg2⟩ := hg2
  refine ev_step (fun k => by rw [ratlinelaw11_MergeLater.j0]) ?_
  refine ev_neg (by decide) ?_
  refine ev_bind (a := [[e]]) rfl ?_
  refine ev_pos (by simp; omega) ?_
  refine ev_bind (a := [e] :: L) rfl ?_
  refine ev_neg (by omega) ?_
  refine ev_bind (hsc.trans hs) (ev_bind hs (ev_call (pairs_same _ (by simp at hsl; omega)) (ev_pos rfl (ev_bind hg1 (ev_bind hg2 ?_)))))
  by_cases hk : key = e.f0.f0
  · exact ev_pos (by rw [hk]) (ev_call awake11 (ev_some _))
  · rw [later_get h hk, hg2] at hg1
    obtain ⟨rfl, rfl⟩ := Prod.mk.inj (Option.some.inj hg1)
    exact ev_neg (fun z => hk (ba_eq_iff.1 z)) (ev_pos rfl (ev_pos (by simp) (ev_call awake11 (ev_some _))))
theorem MergeLater (L : List (List MEn)) (_ : L.length ≤ maxLen) (hl : L.length * 24 ≤ 140737488351232) (hw : ∀ l ∈ L, l.length ≤ maxLen ∧ ∀ e ∈ l, (e.f0.f0.size ≤ maxLen ∧ (Lit.int .u64 e.f0.f1).wf = true ∧ (Lit.int .u8 e.f0.f2).wf = true) ∧ e.f1.size ≤ maxLen)
    (e : MEn) (he : (e.f0.f0.size ≤ maxLen ∧ (Lit.int .u64 e.f0.f1).wf = true ∧ (Lit.int .u8 e.f0.f2).wf = true) ∧ e.f1.size ≤ maxLen) (back : Int) (hb : (Lit.int .u8 back).wf = true) (key : ByteArray) (_ : key.size ≤ maxLen) :
    ∃ k, ratlinelaw11_MergeLater.f k L e.f0.f0 e.f0.f1 e.f0.f2 e.f1 back key = some true := by
  refine Ev.rounds (g := fun k => ratlinelaw11_MergeLater.f k L e.f0.f0 e.f0.f1 e.f0.f2 e.f1 back key) ?_
  have he1 := he.1.2.1
  simp [Lit.wf, IntKind.min, IntKind.max, IntKind.bits, IntKind.signed] at he1 hb
  unfold ratlinelaw11_MergeLater.f
  refine ev_bind (a := [[e]]) rfl (ev_pos (by simp; omega) (ev_call (fine_ev ([e] :: L) (by simp; omega) (fun l h => ?_)) ?_))
  · rcases List.mem_cons.1 h with rfl | h
    · simp
    · have := (hw l h).1
      simp only [maxLen] at this
      omega
  · by_cases h : fineB ([e] :: L) = true
    · rw [h]
      refine ev_pos rfl ?_
      by_cases h1 : (key.size : Int) > 70
      · exact ev_pos h1 (ml_true ..)
      · refine ev_neg h1 ?_
        by_cases h2 : e.f0.f1 = 0
        · rw [h2]
          exact ml_true ..
        · rw [show (e.f0.f1 == 0) = false from by simpa using h2]
          exact ml_false (by omega) key h (by omega) (by omega) (by omega) (by omega)
    · rw [Bool.eq_false_iff.2 h]
      exact ev_neg (by decide) (ml_true ..)
end Go.Proofs.Ytojemmipkpckbaa.Pure

end

section
set_option linter.unusedVariables false
namespace Go.Proofs.YtojemmipkpckbaaG
open Go Go.RowKit Go.Proofs.YtojemmipkpckbaaW.PrintWords

/-- What is trodden of this type is of this kind, and is right. -/
def Opens {α : Type} (P : Program) (t : TypeId) (d : Kd α) (wf : α → Prop) : Prop :=
  ∀ (H : Type) (enc : TypeId × Value → H) (w : World) (base : Nat) (sp : Nat → Bool) (held : Bool) (fuel : Nat) (cs : List Value) (x : DataW H × List MemPlace),
    DataW.trod enc P w base sp held fuel t cs = some x → ∃ a, d.K w a cs ∧ wf a
section
variable {P : Program} {t e : TypeId}
theorem opens_int {k : IntKind} (ht : P.underlying t = some (.int k)) : Opens P t (Kd.int k) (fun n => (Lit.int k n).wf = true) := by
  intro H enc w base sp held fuel cs x h
  obtain ⟨n, rfl, _, hw⟩ := DataW.trod_int ht h
  exact ⟨n, rfl, hw⟩
theorem opens_string (ht : P.underlying t = some .string) : Opens P t Kd.string (fun s => s.size ≤ maxLen) := by
  intro H enc w base sp held fuel cs x h
  obtain ⟨n, rfl, _, hm⟩ := DataW.trod_string ht h
  exact ⟨n, rfl, hm⟩
theorem build {α : Type} {Q : Nat → α → Prop} : ∀ n : Nat, (∀ i, i < n → ∃ a, Q i a) → ∃ l : List α, l.length = n ∧ ∀ i a, l[i]? = some a → Q i a := by
  intro n
  induction n with
  | zero => intro _; exact ⟨[], rfl, fun i a h => by simp at h⟩
  | succ n ih =>
    intro h
    obtain ⟨l, hl, hq⟩ := ih (fun i hi => h i (by omega))
    obtain ⟨a, ha⟩ := h n (by omega)
    refine ⟨l ++ [a], by simp [hl], fun i b hb => ?_⟩
    by_cases hi : i < n
    · rw [List.getElem?_append_left (by omega)] at hb
      exact hq i b hb
    · rw [List.getElem?_append_right (by omega)] at hb
      by_cases hin : i = n
      · subst hin
        rw [hl, Nat.sub_self] at hb
        simp at hb
        exact hb ▸ ha
      · rw [List.getElem?_eq_none (by simp; omega)] at hb
        cases hb
theorem opens_row {α : Type} {d : Kd α} {wf : α → Prop} (hc : P.cellsOf e = d.sz) (ht : P.underlying t = some (.slice e)) (he : Opens P e d wf)
    {H : Type} {enc : TypeId × Value → H} {w : World} {base : Nat} {sp : Nat → Bool} {held : Bool} {fuel : Nat} {cs : List Value} {x : DataW H × List MemPlace} (h : DataW.trod enc P w base sp held fuel t cs = some x) :
    ∃ (A : Option Addr) (c : Nat) (xs : List α), cs = [.slice A xs.length c] ∧ xs.length ≤ c ∧ c ≤ maxLen ∧ d.C w A xs.length xs ∧ ∀ a ∈ xs, wf a := by
  rcases DataW.trod_slice ht h with ⟨rfl, _⟩ | ⟨ad, len, cap, elems, rest, n, _, rfl, _, hb, hl, hm, hn, hel, _, _⟩
  · exact ⟨none, 0, [], rfl, Nat.le_refl _, by decide, Kd.C_nil d w, fun a ha => by cases ha⟩
  · obtain ⟨xs, hxl, hx⟩ := build (Q := fun i a => wf a ∧ ∃ c, c.length = d.sz ∧ d.K w a c ∧ ∀ j u, c[j]? = some u → w.cell? (ad.add (i * d.sz + j)) = some u) len (fun i hi => by
      have h1 := hel i hi
      rw [List.getElem?_eq_getElem (by omega)] at h1
      obtain ⟨cs', hcs, htr⟩ := Option.bind_eq_some_iff.1 h1
      obtain ⟨a, ha, hw⟩ := he H enc w base sp held n cs' _ htr
      have hlen := d.K_len ha
      obtain ⟨_, hlen2, hcell⟩ := World.cells?_some hcs
      refine ⟨a, hw, cs', hlen, ha, fun j u hj => ?_⟩
      have hjl : j < cs'.length := by
        by_cases hjl : j < cs'.length
        · exact hjl
        · rw [List.getElem?_eq_none (by omega)] at hj; cases hj
      have h2 := hcell j (by omega)
      rw [hc] at h2
      have hadd : (ad.add (i * d.sz)).add j = ad.add (i * d.sz + j) := Addr.add_add ad _ _
      rw [← hadd, h2, hj])
    have hmax : maxLen ≤ 9223372036854775807 := by decide
    refine ⟨some ad, cap, xs, by rw [hxl], by omega, hm, ⟨rfl, by omega, fun _ => ⟨ad, rfl, fun j p hp => (hx j p hp).2⟩⟩, fun a ha => ?_⟩
    obtain ⟨i, hi⟩ := List.mem_iff_getElem?.1 ha
    exact (hx i a hi).1
theorem opens_slice {α : Type} {d : Kd α} {wf : α → Prop} (hc : P.cellsOf e = d.sz) (ht : P.underlying t = some (.slice e)) (he : Opens P e d wf) :
    Opens P t (Kd.slice e d) (fun l => l.length ≤ maxLen ∧ ∀ a ∈ l, wf a) := by
  intro H enc w base sp held fuel cs x h
  obtain ⟨A, c, xs, rfl, hl, hm, hC, hw⟩ := opens_row hc ht he h
  exact ⟨xs, ⟨A, c, rfl, hl, hC⟩, by omega, hw⟩
theorem Opens.iso {α β : Type} {d : Kd α} {wf : α → Prop} (h : Opens P t d wf) (f : β → α) (g : α → β) (hfg : ∀ a, f (g a) = a) : Opens P t (Kd.iso d f) (fun b => wf (f b)) := by
  intro H enc w base sp held fuel cs x htr
  obtain ⟨a, ha, hw⟩ := h H enc w base sp held fuel cs x htr
  exact ⟨g a, by show d.K w (f (g a)) cs; rw [hfg]; exact ha, by show wf (f (g a)); rw [hfg]; exact hw⟩
end

/-- A field of a struct. -/
theorem opens_field {α : Type} {P : Program} {t e : TypeId} {fs : Array Field} {d : Kd α} {wf : α → Prop} {off i : Nat} {f : Field} (ht : P.underlying t = some (.struct fs)) (hi : fs[i]? = some f) (hft : f.type = e) (hfo : f.offset = off) (hc : P.cellsOf e = d.sz) (he : Opens P e d wf)
    {H : Type} {enc : TypeId × Value → H} {w : World} {base : Nat} {sp : Nat → Bool} {held : Bool} {fuel : Nat} {cs : List Value} {x : DataW H × List MemPlace} (h : DataW.trod enc P w base sp held fuel t cs = some x) :
    ∃ a, d.K w a ((cs.drop off).take d.sz) ∧ wf a := by
  obtain ⟨xs, n, _, _, _, hn, hf⟩ := DataW.trod_struct ht h
  have h1 := hf i f hi
  have hil : i < xs.length := by
    rw [hn]
    exact (Array.getElem?_eq_some_iff.1 hi).1
  rw [List.getElem?_eq_getElem hil, hft, hfo, hc] at h1
  exact he H enc w base sp held n _ _ h1
theorem opens_cells {P : Program} {t : TypeId} {fs : Array Field} (ht : P.underlying t = some (.struct fs)) {H : Type} {enc : TypeId × Value → H} {w : World} {base : Nat} {sp : Nat → Bool} {held : Bool} {fuel : Nat} {cs : List Value} {x : DataW H × List MemPlace} (h : DataW.trod enc P w base sp held fuel t cs = some x) :
    cs.length = P.cellsOf t := by
  obtain ⟨xs, n, _, _, hl, _⟩ := DataW.trod_struct ht h
  exact hl
theorem opens_struct2 {α β : Type} {P : Program} {t ta tb : TypeId} {fs : Array Field} {a : Kd α} {b : Kd β} {wa : α → Prop} {wb : β → Prop} (ht : P.underlying t = some (.struct fs)) (hc : P.cellsOf t = a.sz + b.sz)
    (f0 : (fs[0]?).map (fun f => (f.type, f.offset)) = some (ta, 0)) (f1 : (fs[1]?).map (fun f => (f.type, f.offset)) = some (tb, a.sz)) (ca : P.cellsOf ta = a.sz) (cb : P.cellsOf tb = b.sz) (oa : Opens P ta a wa) (ob : Opens P tb b wb) :
    Opens P t (Kd.pair a b) (fun x => wa x.1 ∧ wb x.2) := by
  intro H enc w base sp held fuel cs x h
  obtain ⟨g0, e0, q0⟩ := Option.map_eq_some_iff.1 f0
  obtain ⟨g1, e1, q1⟩ := Option.map_eq_some_iff.1 f1
  simp only [Prod.mk.injEq] at q0 q1
  obtain ⟨x0, k0, w0⟩ := opens_field ht e0 q0.1 q0.2 ca oa h
  obtain ⟨x1, k1, w1⟩ := opens_field ht e1 q1.1 q1.2 cb ob h
  have hl := opens_cells ht h
  have hsp : (cs.drop a.sz).take b.sz = cs.drop a.sz := List.take_of_length_le (by rw [List.length_drop]; omega)
  rw [List.drop_zero] at k0
  rw [hsp] at k1
  exact ⟨(x0, x1), ⟨cs.take a.sz, cs.drop a.sz, (List.take_append_drop _ _).symm, k0, k1⟩, w0, w1⟩
theorem opens_struct3 {α β γ : Type} {P : Program} {t ta tb tc : TypeId} {fs : Array Field} {a : Kd α} {b : Kd β} {c : Kd γ} {wa : α → Prop} {wb : β → Prop} {wc : γ → Prop} (ht : P.underlying t = some (.struct fs)) (hc : P.cellsOf t = a.sz + (b.sz + c.sz))
    (f0 : (fs[0]?).map (fun f => (f.type, f.offset)) = some (ta, 0)) (f1 : (fs[1]?).map (fun f => (f.type, f.offset)) = some (tb, a.sz)) (f2 : (fs[2]?).map (fun f => (f.type, f.offset)) = some (tc, a.sz + b.sz)) (ca : P.cellsOf ta = a.sz) (cb : P.cellsOf tb = b.sz) (cc : P.cellsOf tc = c.sz) (oa : Opens P ta a wa) (ob : Opens P tb b wb) (oc : Opens P tc c wc) :
    Opens P t (Kd.pair a (Kd.pair b c)) (fun x => wa x.1 ∧ wb x.2.1 ∧ wc x.2.2) := by
  intro H enc w base sp held fuel cs x h
  obtain ⟨g0, e0, q0⟩ := Option.map_eq_some_iff.1 f0
  obtain ⟨g1, e1, q1⟩ := Option.map_eq_some_iff.1 f1
  obtain ⟨g2, e2, q2⟩ := Option.map_eq_some_iff.1 f2
  simp only [Prod.mk.injEq] at q0 q1 q2
  obtain ⟨x0, k0, w0⟩ := opens_field ht e0 q0.1 q0.2 ca oa h
  obtain ⟨x1, k1, w1⟩ := opens_field ht e1 q1.1 q1.2 cb ob h
  obtain ⟨x2, k2, w2⟩ := opens_field ht e2 q2.1 q2.2 cc oc h
  have hl := opens_cells ht h
  have hsp : (cs.drop (a.sz + b.sz)).take c.sz = (cs.drop a.sz).drop b.sz := by rw [List.take_of_length_le (by rw [List.length_drop]; omega), List.drop_drop]
  rw [List.drop_zero] at k0
  rw [hsp] at k2
  exact ⟨(x0, x1, x2), ⟨cs.take a.sz, cs.drop a.sz, (List.take_append_drop _ _).symm, k0, _, _, (List.take_append_drop b.sz _).symm, k1, k2⟩, w0, w1, w2⟩
/-- A struct as an argument. -/
theorem opens_agg {P : Program} {t : TypeId} {fs : Array Field} {w : World} {r : Reach} {base : Nat} {v : Value} (ht : P.underlying t = some (.struct fs)) (h : Value.okWide P w r base t v) : ∃ cs, v = .agg cs := by
  unfold Value.okWide at h
  rw [ht] at h
  obtain ⟨cs, hv, _⟩ := h
  exact ⟨cs, hv⟩
/-- A row's slice is no longer than its weight allows. -/
theorem sized_row {H : Type} {enc : TypeId × Value → H} {P : Program} {W : World} {base : Nat} {spare : Nat → Bool} {held : Bool} {t e : TypeId} {a : Option Addr} {len cap : Nat} {d : DataW H} {ps : List MemPlace} {ts : List TypeId} {ds : List (DataW H)} {j : Nat}
    (hsz : (DataW.weightsEach P ts ds).all (· ≤ reachBytes) = true) (ht : ts[j]? = some t) (hd : ds[j]? = some d) (hu : P.underlying t = some (.slice e)) (B : Nat) (hB : P.bytesOf e = B)
    (h : DataW.Trod enc P W base spare held t (.slice a len cap) d ps) : len * B ≤ 140737488351232 := by
  obtain ⟨fuel, hf⟩ := h
  rcases DataW.trod_slice hu hf with ⟨hcs, _⟩ | ⟨ad, l, c, elems, rest, n, _, hcs, hx, _, _, _, hn, _⟩
  · simp only [Value.cells, List.cons.injEq, Value.slice.injEq, and_true] at hcs
    obtain ⟨rfl, rfl, rfl⟩ := hcs
    rw [Nat.zero_mul]; omega
  · simp only [Value.cells, List.cons.injEq, Value.slice.injEq, and_true] at hcs
    obtain ⟨rfl, rfl, rfl⟩ := hcs
    obtain ⟨hx, _⟩ := Prod.mk.inj hx
    subst hx
    have z := sized_slice hsz ht hd hu
    rw [hB, List.length_map, List.length_map] at z
    exact Nat.le_trans (Nat.mul_le_mul_right _ (by omega)) z
end Go.Proofs.YtojemmipkpckbaaG

end

section
set_option linter.unusedVariables false
namespace Go.Proofs.Ytojemmipkpckbaa.mergeLater
open Go Go.ChangeShapes Go.WideShapes Go.ChangeAt Go.RowKit Go.Proofs.YtojemmipkpckbaaG Go.Proofs.Ytojemmipkpckbaa.P Go.Proofs.YtojemmipkpckbaaW.PrintWords
open Go.ChangeMaps (open_string shut_string)
theorem own : ownKnob Try.prog.godebug = none := by kernel_rfl
theorem laidOut : laidOutB Try.prog = true := by kernel_rfl
set_option maxRecDepth 100000 in
theorem lifted (os : Os) (started : os.Started) (H : Type) (enc : TypeId × Value → H) :
    ReturnsInHanded {} Try.checked os 5 .any (Rows.mergeLaterSpec.pre6 enc Try.prog Try.f5 Rows.mergeLaterRow.domain false) (Rows.mergeLaterSpec.post enc Try.prog Try.f5 false true false false) := by
  refine returnsInHanded_of_change_sized (C := Try.checked) own started (by kernel_rfl) Try.func5
    (ChangeSpec.witness6 (enc := enc) (C := Try.checked) false ⟨#[], #[.slice none 0 0, .agg #[.string ⟨#[]⟩, .int .u64 0, .int .u8 0, .string ⟨#[]⟩], .int .u8 0, .string ⟨#[]⟩], []⟩ 8 (by kernel_rfl) (by kernel_rfl) (by kernel_rfl) (by kernel_rfl)) ?_
  intro W base args ds gs before hval0 hW hcnd hsz0 _
  have hsz : (DataW.weightsEach Try.prog (Try.f5.params.toList ++ Rows.mergeLaterSpec.plain.varTypes Try.prog) (ds ++ gs)).all (· ≤ reachBytes) = true := hsz0
  have hval : ∀ (j : Nat) t v, Try.f5.params[j]? = some t → args[j]? = some v → Value.okWide Try.prog W .any base t v := hval0
  have hW' := hW
  obtain ⟨p, q, hA0, hV, rfl, hfz, hnd⟩ := hW
  have hA : DataW.TrodAll enc Try.prog W 0 (fun _ => true) true Try.f5.params.toList args.toList ds p := hA0
  rw [Try.params5] at hA hval hsz
  obtain ⟨v0, vs0, d0, ds0, p0, q0, hargs, rfl, rfl, h0, r0⟩ := trodAll_cons hA
  obtain ⟨v1, vs1, d1, ds1, p1, q1, rfl, rfl, rfl, h1, r1⟩ := trodAll_cons r0
  obtain ⟨v2, vs2, d2, ds2, p2, q2, rfl, rfl, rfl, h2, r2⟩ := trodAll_cons r1
  obtain ⟨v3, vs3, d3, ds3, p3, q3, rfl, rfl, rfl, h3, r3⟩ := trodAll_cons r2
  obtain ⟨rfl, rfl, rfl⟩ := trodAll_nil r3
  obtain rfl : args = #[v0, v1, v2, v3] := by cases args; simp_all
  obtain ⟨rfl, rfl⟩ := trodVars_none hV
  obtain ⟨a0, len0, cap0, rfl⟩ := okWide_slice Try.underlying22 (hval 0 22 v0 rfl rfl)
  have k0 := h0
  have y0 := sized_row hsz (j := 0) (t := 22) rfl rfl Try.underlying22 24 (by kernel_rfl) h0
  have lt0 : ∀ x ∈ p0, x.block < W.heap.size := by obtain ⟨m, hm⟩ := k0; exact DataW.trod_lt m _ _ _ hm
  obtain ⟨fuel0, hf0⟩ := h0
  obtain ⟨A0, c0, l0, hcs0, hl0, hm0, hC0, hw0⟩ := opens_row (by kernel_rfl) Try.underlying22 (opens_slice (by kernel_rfl) Try.underlying29 (show Opens Try.prog 41 k41 _ from Opens.iso (opens_struct2 (ta := 39) (tb := 9) Try.underlying41 (by kernel_rfl) (by kernel_rfl) (by kernel_rfl) (by kernel_rfl) (by kernel_rfl) (show Opens Try.prog 39 k39 _ from Opens.iso (opens_struct3 (ta := 9) (tb := 23) (tc := 5) Try.underlying39 (by kernel_rfl) (by kernel_rfl) (by kernel_rfl) (by kernel_rfl) (by kernel_rfl) (by kernel_rfl) (by kernel_rfl) (opens_string Try.underlying9) (opens_int Try.underlying23) (opens_int Try.underlying5)) (fun x : S39 => (x.f0, x.f1, x.f2)) (fun q => ⟨q.1, q.2.1, q.2.2⟩) (fun _ => rfl)) (opens_string Try.underlying9)) (fun x : S41 => (x.f0, x.f1)) (fun q => ⟨q.1, q.2⟩) (fun _ => rfl))) hf0
  simp only [Value.cells, List.cons.injEq, Value.slice.injEq, and_true] at hcs0
  obtain ⟨rfl, rfl, rfl⟩ := hcs0
  obtain ⟨cs1, rfl⟩ := opens_agg Try.underlying41 (hval 1 41 v1 rfl rfl)
  have k1 := h1
  have lt1 : ∀ x ∈ p1, x.block < W.heap.size := by obtain ⟨m, hm⟩ := k1; exact DataW.trod_lt m _ _ _ hm
  obtain ⟨fuel1, hf1⟩ := h1
  obtain ⟨x1, hx1, hw1⟩ := (show Opens Try.prog 41 k41 _ from Opens.iso (opens_struct2 (ta := 39) (tb := 9) Try.underlying41 (by kernel_rfl) (by kernel_rfl) (by kernel_rfl) (by kernel_rfl) (by kernel_rfl) (show Opens Try.prog 39 k39 _ from Opens.iso (opens_struct3 (ta := 9) (tb := 23) (tc := 5) Try.underlying39 (by kernel_rfl) (by kernel_rfl) (by kernel_rfl) (by kernel_rfl) (by kernel_rfl) (by kernel_rfl) (by kernel_rfl) (opens_string Try.underlying9) (opens_int Try.underlying23) (opens_int Try.underlying5)) (fun x : S39 => (x.f0, x.f1, x.f2)) (fun q => ⟨q.1, q.2.1, q.2.2⟩) (fun _ => rfl)) (opens_string Try.underlying9)) (fun x : S41 => (x.f0, x.f1)) (fun q => ⟨q.1, q.2⟩) (fun _ => rfl)) H enc _ _ _ _ _ _ _ hf1
  obtain rfl : cs1 = #[.string x1.f0.f0, .int .u64 x1.f0.f1, .int .u8 x1.f0.f2, .string x1.f1] := Array.ext' (k41_open hx1)
  obtain ⟨a2, rfl, rfl, rfl, w2⟩ := open_int Try.underlying5 (hval 2 5 v2 rfl rfl) h2
  obtain ⟨a3, rfl, rfl, rfl, w3⟩ := open_string Try.underlying9 (hval 3 9 v3 rfl rfl) h3
  obtain ⟨k, h⟩ := Pure.MergeLater l0 (Nat.le_trans hl0 hm0) y0 hw0 x1 hw1 a2 w2 a3 w3
  clear hA0 hval0 hsz0 hsz
  refine (P.ratlinelaw11_MergeLater.calls k (fun _ => True) _ _ l0 x1.f0.f0 x1.f0.f1 x1.f0.f2 x1.f1 a2 a3 true W (Kd.V_mk hl0 (Kd.F_mono (Kd.C_F heapL hC0) (fun _ _ => trivial))) h).mono fun e W' ⟨he, bel⟩ => ?_
  subst he
  exact ⟨_, rfl, _, _, _, [], _, [], hW', trodAll_mk1 (shut_bool Try.underlying4 _), (trodAll_cons_mk (Below.trod laidOut (by kernel_rfl) (of_decide_eq_true (by kernel_rfl)) k0 bel lt0) (trodAll_cons_mk (Below.trod laidOut (by kernel_rfl) (of_decide_eq_true (by kernel_rfl)) k1 bel lt1) (trodAll_cons_mk (shut_int Try.underlying5 w2) (trodAll_cons_mk (shut_string Try.underlying9 w3) trodAll_mk0)))), rfl, bel.frame _, fun h => by cases h⟩
theorem over : Rows.mergeLaterRow.holds Try.pinned (OpenSpec.ofChange Rows.mergeLaterSpec) :=
  OpenClaim.holds_of_wide 5 Try.f5 rfl rfl rfl rfl rfl rfl rfl ⟨rfl, rfl, rfl, rfl, rfl⟩ rfl rfl rfl rfl rfl (by kernel_rfl) Try.func5 (by kernel_rfl)
    (of_decide_eq_true (by kernel_rfl)) (by unfold Func.isWrapper; first | (rw [if_pos (by decide +kernel)]; kernel_rfl) | (rw [if_neg (by decide +kernel)]; exact ⟨rfl, rfl⟩))
    (fun os started H enc _ => lifted os started H enc)
theorem proved : Rows.MergeLaterSaid := over
#print axioms proved
end Go.Proofs.Ytojemmipkpckbaa.mergeLater
namespace Go.Proofs.Ytojemmipkpckbaa
/-- The row, under a short name, for the claim. -/
theorem mergeLater_holds : Rows.MergeLaterSaid := mergeLater.proved
end Go.Proofs.Ytojemmipkpckbaa

end
