/- Proved here: the row of BatchEntries, and what it needs. Conditions: those of each theorem. Written for this claim by programs; what the claim does not use is left out. -/
import Derived.ChangeArms
import Derived.DataReads
import Derived.DataElems
import Derived.OpenShut
import Derived.SizedLaws
import Derived.Test.YtlaihdipagejfaaRows
import Derived.WalkKit
import Derived.ProofKit
import Derived.ShutString
import Derived.ChangeOld
import Derived.Below
import Derived.Test.YtlaihdipagejfaaSBatchEntries3
section
set_option linter.unusedVariables false
namespace Go.Proofs.YtlaihdipagejfaaL
open Go Go.RowKit Go.Proofs.YtlaihdipagejfaaG Go.Proofs.Ytlaihdipagejfaa.P Go.Proofs.YtlaihdipagejfaaW.PrintWords Go.Proofs.YtlaihdipagejfaaW.PrintMore

def aw1 : OpS := ⟨1, ⟨#[97]⟩, ⟨#[120]⟩⟩
def aw2 : OpS := ⟨0, ⟨#[98]⟩, ⟨#[]⟩⟩
theorem aw_few : FewI [aw1, aw2] 128 := ⟨by decide, by decide, fun o ho => by
  simp only [List.mem_cons, List.not_mem_nil, or_false] at ho
  rcases ho with rfl | rfl
  · exact ⟨⟨by decide, by decide, by decide, by decide⟩, by decide⟩
  · exact ⟨⟨by decide, by decide, by decide, by decide⟩, by decide⟩⟩
theorem aw_wf : ∀ o ∈ [aw1, aw2], WfO o := fun o ho => by
  simp only [List.mem_cons, List.not_mem_nil, or_false] at ho
  rcases ho with rfl | rfl
  · exact ⟨by decide, by decide⟩
  · exact ⟨by decide, by decide⟩
theorem aw_form : formG [aw1, aw2] = [2, 1, 1, 97, 1, 120, 0, 1, 98] := by
  show vint 2 ++ ((1 :: (vint 1 ++ (bytesOf _ ++ (vint 1 ++ bytesOf _)))) ++ ((0 :: (vint 1 ++ (bytesOf _ ++ []))) ++ [])) = _
  rw [vint_small (x := 1) (by omega), vint_small (x := 2) (by omega)]
  rfl
theorem aw_none {l : List Int} (hb : By l) (hl : l.length ≤ 100) (h : ∀ ops, FewI ops 128 → (∀ o ∈ ops, WfO o) → l ≠ formG ops) : batch_Parse.f l = some ([], 40) := by
  rcases parse_cases l hb (by omega) with ⟨ops, h1, h2, he, _⟩ | ⟨hf, _⟩
  · exact absurd he (h ops h1 h2)
  · exact hf
theorem aw_loop (r : Bool) (x1 : List OpS) (x2 x3 : List Int) (x4 : Int) (x5 : List OpS) (x6 x8 x10 x12 x14 : Int) (h1 : 0 < x1.length)
    (hend : ∀ x15 : List OpS, x15.length = 129 → Ev (fun k => ratlinelaw04_awake.l0 k x1 x2 x3 x4 x5 x6 x8 x10 x12 x14 x15 129 129) r) :
    ∀ (m j : Nat) (x15 : List OpS), j + m = 129 → x15.length = 129 → Ev (fun k => ratlinelaw04_awake.l0 k x1 x2 x3 x4 x5 x6 x8 x10 x12 x14 x15 129 (j : Int)) r := by
  intro m
  induction m with
  | zero =>
    intro j x15 hj hl
    obtain rfl : j = 129 := by omega
    exact hend x15 hl
  | succ m ih =>
    intro j x15 hj hl
    refine ev_step (fun k => by rw [ratlinelaw04_awake.l0, if_pos (by omega), if_pos (by omega), if_pos (by omega), if_pos (by omega), up1 (by omega)]) ?_
    exact ih (j + 1) _ (by omega) (by rw [List.length_set]; exact hl)
theorem awake04 : Ev (fun k => ratlinelaw04_awake.f k) true := by
  have b4 : ∀ a b c d : Int, 0 ≤ a → a < 256 → 0 ≤ b → b < 256 → 0 ≤ c → c < 256 → 0 ≤ d → d < 256 → By [a, b, c, d] := fun a b c d h1 h2 h3 h4 h5 h6 h7 h8 => .cons h1 h2 (.cons h3 h4 (.cons h5 h6 (.cons h7 h8 .nil)))
  have p1 : batch_Parse.f [2, 1, 1, 97, 1, 120, 0, 1, 98] = some ([aw1, aw2], 0) := by rw [← aw_form]; exact parse_form aw_few aw_wf
  have p2 : batch_Parse.f (([] ++ [2, 1, 1, 97, 1, 120, 0, 1, 98]) ++ [0]) = some ([], 40) := by
    rw [← aw_form, List.nil_append]
    refine aw_none ((formG_by aw_wf).append (.cons (by decide) (by decide) .nil)) (by rw [aw_form]; decide) (fun ops h1 h2 e => ?_)
    have := (formG_inj (a := [0]) (b := []) aw_few h1 aw_wf h2 (by rw [List.append_nil]; exact e)).2
    simp at this
  have p3 : batch_Parse.f [0] = some ([], 40) := by
    refine aw_none (.cons (by decide) (by decide) .nil) (by decide) (fun ops h1 h2 e => ?_)
    have h3 := h1.2.1
    have h4 := h1.1
    rw [formG, show ([0] : List Int) = vint 0 ++ [] from by rw [vint_small (by omega)]; rfl] at e
    have := (vint_append_inj (by omega) (by omega) e).1
    omega
  have p4 : batch_Parse.f [1, 2, 1, 97] = some ([], 40) := by
    refine aw_none (b4 _ _ _ _ (by decide) (by decide) (by decide) (by decide) (by decide) (by decide) (by decide) (by decide)) (by decide) (fun ops h1 h2 e => ?_)
    have h3 := h1.2.1
    have h4 := h1.1
    rw [formG, show ([1, 2, 1, 97] : List Int) = vint 1 ++ [2, 1, 97] from by rw [vint_small (by omega)]; rfl] at e
    obtain ⟨e1, e2⟩ := vint_append_inj (by omega) (by omega) e
    match ops, e1, e2, h1 with
    | [o], _, e2, h1 =>
      have h5 := (op_sizes (h1.2.2 o (by simp))).2.2.1
      rw [formL_cons, formO] at e2
      simp only [List.cons_append, List.cons.injEq] at e2
      omega
  have q1 : Ev (fun k => batch_Bytes.f k [aw1, aw2]) (formG [aw1, aw2], 0) := by
    have := bytes_f [aw1, aw2]
    rwa [if_pos aw_few] at this
  have q2 : ∀ l : List OpS, ¬ FewI l 128 → Ev (fun k => batch_Bytes.f k l) ([], 40) := fun l h => by
    have := bytes_f l
    rwa [if_neg h] at this
  unfold ratlinelaw04_awake.f
  refine ev_bind rfl ?_
  refine ev_bind rfl ?_
  refine ev_call2 q1 (fun t t1 t2 => ?_)
  refine ev_bind2 p1 (fun u u1 u2 => ?_)
  refine ev_bind rfl (ev_pos (by decide) ?_)
  refine ev_bind rfl (ev_pos (by decide) ?_)
  refine ev_bind2 p2 (fun v v1 v2 => ?_)
  refine ev_bind2 p3 (fun w w1 w2 => ?_)
  refine ev_bind2 p4 (fun x x1 x2 => ?_)
  refine ev_call2 (q2 [] (fun h => absurd h.1 (by decide))) (fun y y1 y2 => ?_)
  refine ev_pos (by decide) (ev_bind rfl ?_)
  rw [t1, t2, u1, u2, v2, w2, x2, y2, List.length_replicate]
  refine aw_loop true _ _ _ _ _ _ _ _ _ _ (by decide) (fun x15 hl => ?_) 129 0 _ rfl (List.length_replicate ..)
  refine ev_step (fun k => by rw [ratlinelaw04_awake.l0, if_neg (Int.lt_irrefl _)]) ?_
  refine ev_call2 (q2 x15 (fun h => by have := h.2.1; omega)) (fun y y1 y2 => ?_)
  refine ev_call (entries_f [aw1, aw2] 7 (by decide)) ?_
  refine ev_pos (by unfold wrap64; omega) ?_
  refine ev_bind (same_f (formG_by aw_wf) (by rw [← aw_form]; exact formG_by aw_wf)) (ev_pos (decide_eq_true aw_form) ?_)
  refine ev_call (osame_f _ _ (by decide)) (ev_pos (decide_eq_true rfl) ?_)
  refine ev_pos rfl (ev_pos rfl (ev_pos rfl (ev_pos rfl (ev_pos y2 ?_))))
  refine ev_call (a := true) ?_ (ev_some _)
  have := esame_f (entL 7 [aw1, aw2]) [⟨⟨⟨#[97]⟩, 7, 1⟩, ⟨#[120]⟩⟩, ⟨⟨⟨#[98]⟩, 8, 0⟩, ⟨#[]⟩⟩] (by decide)
  rwa [decide_eq_true (by rfl)] at this
end Go.Proofs.YtlaihdipagejfaaL

end

section
set_option linter.unusedVariables false
namespace Go.Proofs.YtlaihdipagejfaaL
open Go Go.RowKit Go.Proofs.YtlaihdipagejfaaG Go.Proofs.Ytlaihdipagejfaa.P Go.Proofs.YtlaihdipagejfaaW.PrintWords Go.Proofs.YtlaihdipagejfaaW.PrintMore

theorem awake04' : Ev (fun k => (ratlinelaw04_awake.f k).bind fun t => some t) true := ev_call awake04 (ev_some _)
end Go.Proofs.YtlaihdipagejfaaL

end

section
set_option linter.unusedVariables false
namespace Go.Proofs.Ytlaihdipagejfaa.Pure
open Go Go.RowKit Go.Proofs.Ytlaihdipagejfaa.P Go.Proofs.YtlaihdipagejfaaG Go.Proofs.YtlaihdipagejfaaL Go.Proofs.YtlaihdipagejfaaW.PrintWords Go.Proofs.YtlaihdipagejfaaW.PrintMore Go.Proofs.YtlaihdipagejfaaW.PrintLast

theorem ent_app (q : Int) (hq : 0 ≤ q ∧ q < 18446744073709551616) (l o : List OpS) (hl : l.length ≤ 60) : entL q (l ++ o) = entL q l ++ entL (IntKind.u64.wrap (q + (l.length : Int))) o := by
  refine List.ext_getElem (by simp [entL]) (fun j h1 h2 => ?_)
  rw [entL_length, List.length_append] at h1
  by_cases hj : j < l.length
  · rw [List.getElem_append_left (by rw [entL_length]; exact hj), entL_at q _ (by rw [List.length_append]; omega), entL_at q l hj, List.getElem_append_left hj]
  · rw [List.getElem_append_right (by rw [entL_length]; omega), entL_at q _ (by rw [List.length_append]; omega)]
    have e := entL_at (IntKind.u64.wrap (q + (l.length : Int))) o (j := j - l.length) (by omega)
    simp only [entL_length]
    rw [e, List.getElem_append_right (by omega)]
    unfold entO
    rw [show IntKind.u64.wrap (IntKind.u64.wrap (q + (l.length : Int)) + ((j - l.length : Nat) : Int)) = IntKind.u64.wrap (q + (j : Int)) from by simp only [IntKind.wrap_u64]; omega]
section
variable {l o : List OpS} {q : Int}
theorem entries_end (hq : 0 ≤ q ∧ q < 18446744073709551616) (hl : l.length ≤ 60) (ho : o.length ≤ 60) :
    Ev (fun k => ratlinelaw04_BatchEntries.l0 k l o q (entL q l) (entL q l) ((entL q l).length : Int) ((entL q l).length : Int)) true := by
  refine ev_step (fun k => by rw [ratlinelaw04_BatchEntries.l0, if_neg (Int.lt_irrefl _)]) ?_
  refine ev_bind rfl (ev_pos (by simp; omega) (ev_bind rfl (ev_pos (by simp; omega) ?_)))
  rw [List.nil_append]
  refine ev_call (entries_f (l ++ o) q (by rw [List.length_append]; omega)) (ev_bind rfl (ev_pos (by rw [entL_length]; simp; omega) (ev_bind rfl ?_)))
  rw [List.nil_append, wrap_u64_nat (by omega)]
  refine ev_call (entries_f o _ (by omega)) (ev_pos (by rw [entL_length, entL_length]; omega) ?_)
  refine ev_call (esame_f _ _ (by rw [entL_length, List.length_append]; omega)) (ev_pos (decide_eq_true (ent_app q hq l o hl)) awake04')
theorem entries_l1 (hq : 0 ≤ q ∧ q < 18446744073709551616) (hl : l.length ≤ 60) (i : Nat) (hi : i < l.length) (x0 : ByteArray) (x2 : Int) (x3 : ByteArray)
    (hk : Ev (fun k => ratlinelaw04_BatchEntries.l0 k l o q (entL q l) (entL q l) ((entL q l).length : Int) ((i + 1 : Nat) : Int)) true) :
    ∀ (m j : Nat), j + m = i → Ev (fun k => ratlinelaw04_BatchEntries.l1 k l o q (entL q l) (entL q l) ((entL q l).length : Int) (i : Int) ((entL q l).take i) (((entL q l).take i).length : Int) (j : Int) x0 (IntKind.u64.wrap (q + (i : Int))) x2 x3) true := by
  have hlen : ((entL q l).take i).length = i := by rw [List.length_take, entL_length]; omega
  intro m
  induction m with
  | zero =>
    intro j hj
    obtain rfl : j = i := by omega
    exact ev_step (fun k => by rw [ratlinelaw04_BatchEntries.l1, hlen, if_neg (Int.lt_irrefl _), up1 (by omega)]) hk
  | succ m ih =>
    intro j hj
    have hj1 : j < ((entL q l).take i).length := by omega
    refine ev_step (fun k => by rw [ratlinelaw04_BatchEntries.l1, if_pos (by omega), if_pos (by omega), if_pos (by omega), rd_ent _ hj1, up1 (by omega)]) ?_
    refine ev_neg ?_ (ih (j + 1) (by omega))
    rw [List.getElem_take, entL_at q l (by omega)]
    have hne : (entO q l[j] j).f0.f1 ≠ IntKind.u64.wrap (q + (i : Int)) := by
      show IntKind.u64.wrap (q + (j : Int)) ≠ _
      simp only [IntKind.wrap_u64]
      omega
    rw [beq_eq_false_iff_ne.2 hne]
    simp
theorem entries_l0 (hq : 0 ≤ q ∧ q < 18446744073709551616) (hl : l.length ≤ 60) (ho : o.length ≤ 60) :
    ∀ (m i : Nat), i + m = l.length → Ev (fun k => ratlinelaw04_BatchEntries.l0 k l o q (entL q l) (entL q l) ((entL q l).length : Int) (i : Int)) true := by
  intro m
  induction m with
  | zero =>
    intro i hi
    have := entries_end (o := o) hq hl ho
    have e : (entL q l).length = i := by rw [entL_length]; omega
    rw [e] at this ⊢
    exact this
  | succ m ih =>
    intro i hi
    have hlt : i < l.length := by omega
    have hlt2 : i < (entL q l).length := by rw [entL_length]; exact hlt
    have hk := entries_l1 (o := o) hq hl i hlt l[i].f1 l[i].f0 l[i].f2 (ih (i + 1) (by omega)) i 0 (by omega)
    have e3 : Ev (fun k => ratlinelaw04_BatchEntries.j3 k l o q (entL q l) (i : Int) (entL q l) ((entL q l).length : Int) (i : Int) false l[i].f1 (IntKind.u64.wrap (q + (i : Int))) l[i].f0 l[i].f2) true := by
      refine ev_step (fun k => by rw [ratlinelaw04_BatchEntries.j3]) (ev_neg (by decide) (ev_pos (by omega) (ev_pos (by omega) (ev_bind rfl ?_))))
      rw [Int.toNat_natCast]
      exact hk
    refine ev_step (fun k => by rw [ratlinelaw04_BatchEntries.l0, if_pos (by omega), if_pos (by omega), if_pos (by omega), if_pos (by omega), rd_ent _ hlt2, rd_op l hlt, entL_at q l hlt, wrap_u64_nat (show i < _ from by omega)]) ?_
    refine ev_pos rfl (ev_pos rfl (ev_pos rfl ?_))
    have e1 : ((entO q l[i] i).f0.f1 != IntKind.u64.wrap (q + (i : Int))) = false := by simp [entO]
    rw [e1]
    refine ev_step (fun k => by rw [ratlinelaw04_BatchEntries.j2]) (ev_neg (by decide) ?_)
    by_cases hs : q ≤ 72057594037927875
    · refine ev_pos hs (ev_bind (entry_f (entO q l[i] i).f0 (entO q l[i] i).f1) (ev_pos (by omega) (ev_pos (by omega) ?_)))
      rw [rd_op l hlt]
      refine ev_bind (op_f l[i]) ?_
      have e2 : (decide (RightI (entO q l[i] i).f0) && decide (((entO q l[i] i).f1.size : Int) ≤ (if (entO q l[i] i).f0.f2 = 0 then 0 else 256))) = decide (OpI l[i]) := by
        rw [Bool.eq_iff_iff, Bool.and_eq_true, decide_eq_true_eq, decide_eq_true_eq, decide_eq_true_eq]
        refine ⟨fun ⟨⟨a, b, c, d⟩, e⟩ => ⟨⟨a, b, by show (0 : Int) ≤ _; omega, d⟩, e⟩, fun ⟨⟨a, b, c, d⟩, e⟩ => ⟨⟨a, b, ?_, d⟩, e⟩⟩
        show IntKind.u64.wrap (q + (i : Int)) ≤ _
        rw [IntKind.wrap_u64]; omega
      rw [e2, bne_self_eq_false]
      exact e3
    · exact ev_neg hs e3
end
theorem BatchEntries (l : List OpS) (_ : l.length ≤ maxLen) (hl : l.length * 40 ≤ 140737488351232) (hw : ∀ o ∈ l, (Lit.int .u8 o.f0).wf = true ∧ o.f1.size ≤ maxLen ∧ o.f2.size ≤ maxLen)
    (o : List OpS) (_ : o.length ≤ maxLen) (hol : o.length * 40 ≤ 140737488351232) (how : ∀ x ∈ o, (Lit.int .u8 x.f0).wf = true ∧ x.f1.size ≤ maxLen ∧ x.f2.size ≤ maxLen)
    (q : Int) (hq : (Lit.int .u64 q).wf = true) : ∃ k, ratlinelaw04_BatchEntries.f k l o q = some true := by
  refine Ev.rounds ?_
  have hq : 0 ≤ q ∧ q < 18446744073709551616 := by
    simp [Lit.wf, IntKind.min, IntKind.max, IntKind.bits, IntKind.signed] at hq
    omega
  have hj : Ev (fun k => ratlinelaw04_BatchEntries.j0 k l o q true) true := ev_step (fun k => by rw [ratlinelaw04_BatchEntries.j0]) (ev_pos rfl awake04')
  unfold ratlinelaw04_BatchEntries.f
  refine ev_call (ofew_f l 60 (by omega)) ?_
  by_cases h1 : (decide (∀ e ∈ l, ShortO e) && decide ((l.length : Int) ≤ 60)) = true
  · refine ev_pos h1 (ev_call (ofew_f o 60 (by omega)) ?_)
    by_cases h2 : (decide (∀ e ∈ o, ShortO e) && decide ((o.length : Int) ≤ 60)) = true
    · rw [h2]
      rw [Bool.and_eq_true, decide_eq_true_eq, decide_eq_true_eq] at h1 h2
      refine ev_step (fun k => by rw [ratlinelaw04_BatchEntries.j0]) (ev_neg (by decide) ?_)
      refine ev_call (entries_f l q (by omega)) (ev_pos (by rw [entL_length]) ?_)
      exact entries_l0 hq (by omega) (by omega) l.length 0 (by omega)
    · rw [Bool.eq_false_iff.2 h2]
      exact hj
  · exact ev_neg h1 hj
end Go.Proofs.Ytlaihdipagejfaa.Pure

end

section
set_option linter.unusedVariables false
namespace Go.Proofs.YtlaihdipagejfaaG
open Go Go.RowKit Go.Proofs.YtlaihdipagejfaaW.PrintWords

/-- What is trodden of this type is of this kind, and is right. -/
def Opens {α : Type} (P : Program) (t : TypeId) (d : Kd α) (wf : α → Prop) : Prop :=
  ∀ (H : Type) (enc : TypeId × Value → H) (w : World) (base : Nat) (sp : Nat → Bool) (held : Bool) (fuel : Nat) (cs : List Value) (x : DataW H × List MemPlace),
    DataW.trod enc P w base sp held fuel t cs = some x → ∃ a, d.K w a cs ∧ wf a
section
variable {P : Program} {t e : TypeId}
theorem opens_int {k : IntKind} (ht : P.underlying t = some (.int k)) : Opens P t (Kd.int k) (fun n => (Lit.int k n).wf = true) := by
  intro H enc w base sp held fuel cs x h
  obtain ⟨n, rfl, _, hw⟩ := DataW.trod_int ht h
  exact ⟨n, rfl, hw⟩
theorem opens_string (ht : P.underlying t = some .string) : Opens P t Kd.string (fun s => s.size ≤ maxLen) := by
  intro H enc w base sp held fuel cs x h
  obtain ⟨n, rfl, _, hm⟩ := DataW.trod_string ht h
  exact ⟨n, rfl, hm⟩
theorem build {α : Type} {Q : Nat → α → Prop} : ∀ n : Nat, (∀ i, i < n → ∃ a, Q i a) → ∃ l : List α, l.length = n ∧ ∀ i a, l[i]? = some a → Q i a := by
  intro n
  induction n with
  | zero => intro _; exact ⟨[], rfl, fun i a h => by simp at h⟩
  | succ n ih =>
    intro h
    obtain ⟨l, hl, hq⟩ := ih (fun i hi => h i (by omega))
    obtain ⟨a, ha⟩ := h n (by omega)
    refine ⟨l ++ [a], by simp [hl], fun i b hb => ?_⟩
    by_cases hi : i < n
    · rw [List.getElem?_append_left (by omega)] at hb
      exact hq i b hb
    · rw [List.getElem?_append_right (by omega)] at hb
      by_cases hin : i = n
      · subst hin
        rw [hl, Nat.sub_self] at hb
        simp at hb
        exact hb ▸ ha
      · rw [List.getElem?_eq_none (by simp; omega)] at hb
        cases hb
theorem opens_row {α : Type} {d : Kd α} {wf : α → Prop} (hc : P.cellsOf e = d.sz) (ht : P.underlying t = some (.slice e)) (he : Opens P e d wf)
    {H : Type} {enc : TypeId × Value → H} {w : World} {base : Nat} {sp : Nat → Bool} {held : Bool} {fuel : Nat} {cs : List Value} {x : DataW H × List MemPlace} (h : DataW.trod enc P w base sp held fuel t cs = some x) :
    ∃ (A : Option Addr) (c : Nat) (xs : List α), cs = [.slice A xs.length c] ∧ xs.length ≤ c ∧ c ≤ maxLen ∧ d.C w A xs.length xs ∧ ∀ a ∈ xs, wf a := by
  rcases DataW.trod_slice ht h with ⟨rfl, _⟩ | ⟨ad, len, cap, elems, rest, n, _, rfl, _, hb, hl, hm, hn, hel, _, _⟩
  · exact ⟨none, 0, [], rfl, Nat.le_refl _, by decide, Kd.C_nil d w, fun a ha => by cases ha⟩
  · obtain ⟨xs, hxl, hx⟩ := build (Q := fun i a => wf a ∧ ∃ c, c.length = d.sz ∧ d.K w a c ∧ ∀ j u, c[j]? = some u → w.cell? (ad.add (i * d.sz + j)) = some u) len (fun i hi => by
      have h1 := hel i hi
      rw [List.getElem?_eq_getElem (by omega)] at h1
      obtain ⟨cs', hcs, htr⟩ := Option.bind_eq_some_iff.1 h1
      obtain ⟨a, ha, hw⟩ := he H enc w base sp held n cs' _ htr
      have hlen := d.K_len ha
      obtain ⟨_, hlen2, hcell⟩ := World.cells?_some hcs
      refine ⟨a, hw, cs', hlen, ha, fun j u hj => ?_⟩
      have hjl : j < cs'.length := by
        by_cases hjl : j < cs'.length
        · exact hjl
        · rw [List.getElem?_eq_none (by omega)] at hj; cases hj
      have h2 := hcell j (by omega)
      rw [hc] at h2
      have hadd : (ad.add (i * d.sz)).add j = ad.add (i * d.sz + j) := Addr.add_add ad _ _
      rw [← hadd, h2, hj])
    have hmax : maxLen ≤ 9223372036854775807 := by decide
    refine ⟨some ad, cap, xs, by rw [hxl], by omega, hm, ⟨rfl, by omega, fun _ => ⟨ad, rfl, fun j p hp => (hx j p hp).2⟩⟩, fun a ha => ?_⟩
    obtain ⟨i, hi⟩ := List.mem_iff_getElem?.1 ha
    exact (hx i a hi).1
theorem Opens.iso {α β : Type} {d : Kd α} {wf : α → Prop} (h : Opens P t d wf) (f : β → α) (g : α → β) (hfg : ∀ a, f (g a) = a) : Opens P t (Kd.iso d f) (fun b => wf (f b)) := by
  intro H enc w base sp held fuel cs x htr
  obtain ⟨a, ha, hw⟩ := h H enc w base sp held fuel cs x htr
  exact ⟨g a, by show d.K w (f (g a)) cs; rw [hfg]; exact ha, by show wf (f (g a)); rw [hfg]; exact hw⟩
end

/-- A field of a struct. -/
theorem opens_field {α : Type} {P : Program} {t e : TypeId} {fs : Array Field} {d : Kd α} {wf : α → Prop} {off i : Nat} {f : Field} (ht : P.underlying t = some (.struct fs)) (hi : fs[i]? = some f) (hft : f.type = e) (hfo : f.offset = off) (hc : P.cellsOf e = d.sz) (he : Opens P e d wf)
    {H : Type} {enc : TypeId × Value → H} {w : World} {base : Nat} {sp : Nat → Bool} {held : Bool} {fuel : Nat} {cs : List Value} {x : DataW H × List MemPlace} (h : DataW.trod enc P w base sp held fuel t cs = some x) :
    ∃ a, d.K w a ((cs.drop off).take d.sz) ∧ wf a := by
  obtain ⟨xs, n, _, _, _, hn, hf⟩ := DataW.trod_struct ht h
  have h1 := hf i f hi
  have hil : i < xs.length := by
    rw [hn]
    exact (Array.getElem?_eq_some_iff.1 hi).1
  rw [List.getElem?_eq_getElem hil, hft, hfo, hc] at h1
  exact he H enc w base sp held n _ _ h1
theorem opens_cells {P : Program} {t : TypeId} {fs : Array Field} (ht : P.underlying t = some (.struct fs)) {H : Type} {enc : TypeId × Value → H} {w : World} {base : Nat} {sp : Nat → Bool} {held : Bool} {fuel : Nat} {cs : List Value} {x : DataW H × List MemPlace} (h : DataW.trod enc P w base sp held fuel t cs = some x) :
    cs.length = P.cellsOf t := by
  obtain ⟨xs, n, _, _, hl, _⟩ := DataW.trod_struct ht h
  exact hl
theorem opens_struct3 {α β γ : Type} {P : Program} {t ta tb tc : TypeId} {fs : Array Field} {a : Kd α} {b : Kd β} {c : Kd γ} {wa : α → Prop} {wb : β → Prop} {wc : γ → Prop} (ht : P.underlying t = some (.struct fs)) (hc : P.cellsOf t = a.sz + (b.sz + c.sz))
    (f0 : (fs[0]?).map (fun f => (f.type, f.offset)) = some (ta, 0)) (f1 : (fs[1]?).map (fun f => (f.type, f.offset)) = some (tb, a.sz)) (f2 : (fs[2]?).map (fun f => (f.type, f.offset)) = some (tc, a.sz + b.sz)) (ca : P.cellsOf ta = a.sz) (cb : P.cellsOf tb = b.sz) (cc : P.cellsOf tc = c.sz) (oa : Opens P ta a wa) (ob : Opens P tb b wb) (oc : Opens P tc c wc) :
    Opens P t (Kd.pair a (Kd.pair b c)) (fun x => wa x.1 ∧ wb x.2.1 ∧ wc x.2.2) := by
  intro H enc w base sp held fuel cs x h
  obtain ⟨g0, e0, q0⟩ := Option.map_eq_some_iff.1 f0
  obtain ⟨g1, e1, q1⟩ := Option.map_eq_some_iff.1 f1
  obtain ⟨g2, e2, q2⟩ := Option.map_eq_some_iff.1 f2
  simp only [Prod.mk.injEq] at q0 q1 q2
  obtain ⟨x0, k0, w0⟩ := opens_field ht e0 q0.1 q0.2 ca oa h
  obtain ⟨x1, k1, w1⟩ := opens_field ht e1 q1.1 q1.2 cb ob h
  obtain ⟨x2, k2, w2⟩ := opens_field ht e2 q2.1 q2.2 cc oc h
  have hl := opens_cells ht h
  have hsp : (cs.drop (a.sz + b.sz)).take c.sz = (cs.drop a.sz).drop b.sz := by rw [List.take_of_length_le (by rw [List.length_drop]; omega), List.drop_drop]
  rw [List.drop_zero] at k0
  rw [hsp] at k2
  exact ⟨(x0, x1, x2), ⟨cs.take a.sz, cs.drop a.sz, (List.take_append_drop _ _).symm, k0, _, _, (List.take_append_drop b.sz _).symm, k1, k2⟩, w0, w1, w2⟩
/-- A row's slice is no longer than its weight allows. -/
theorem sized_row {H : Type} {enc : TypeId × Value → H} {P : Program} {W : World} {base : Nat} {spare : Nat → Bool} {held : Bool} {t e : TypeId} {a : Option Addr} {len cap : Nat} {d : DataW H} {ps : List MemPlace} {ts : List TypeId} {ds : List (DataW H)} {j : Nat}
    (hsz : (DataW.weightsEach P ts ds).all (· ≤ reachBytes) = true) (ht : ts[j]? = some t) (hd : ds[j]? = some d) (hu : P.underlying t = some (.slice e)) (B : Nat) (hB : P.bytesOf e = B)
    (h : DataW.Trod enc P W base spare held t (.slice a len cap) d ps) : len * B ≤ 140737488351232 := by
  obtain ⟨fuel, hf⟩ := h
  rcases DataW.trod_slice hu hf with ⟨hcs, _⟩ | ⟨ad, l, c, elems, rest, n, _, hcs, hx, _, _, _, hn, _⟩
  · simp only [Value.cells, List.cons.injEq, Value.slice.injEq, and_true] at hcs
    obtain ⟨rfl, rfl, rfl⟩ := hcs
    rw [Nat.zero_mul]; omega
  · simp only [Value.cells, List.cons.injEq, Value.slice.injEq, and_true] at hcs
    obtain ⟨rfl, rfl, rfl⟩ := hcs
    obtain ⟨hx, _⟩ := Prod.mk.inj hx
    subst hx
    have z := sized_slice hsz ht hd hu
    rw [hB, List.length_map, List.length_map] at z
    exact Nat.le_trans (Nat.mul_le_mul_right _ (by omega)) z
end Go.Proofs.YtlaihdipagejfaaG

end

section
set_option linter.unusedVariables false
namespace Go.Proofs.Ytlaihdipagejfaa.batchEntries
open Go Go.ChangeShapes Go.WideShapes Go.ChangeAt Go.RowKit Go.Proofs.YtlaihdipagejfaaG Go.Proofs.Ytlaihdipagejfaa.P Go.Proofs.YtlaihdipagejfaaW.PrintWords
open Go.ChangeMaps (open_string shut_string)
theorem own : ownKnob Try.prog.godebug = none := by kernel_rfl
theorem laidOut : laidOutB Try.prog = true := by kernel_rfl
set_option maxRecDepth 100000 in
theorem lifted (os : Os) (started : os.Started) (H : Type) (enc : TypeId × Value → H) :
    ReturnsInHanded {} Try.checked os 4 .any (Rows.batchEntriesSpec.pre6 enc Try.prog Try.f4 Rows.batchEntriesRow.domain false) (Rows.batchEntriesSpec.post enc Try.prog Try.f4 false true false false) := by
  refine returnsInHanded_of_change_sized (C := Try.checked) own started (by kernel_rfl) Try.func4
    (ChangeSpec.witness6 (enc := enc) (C := Try.checked) false ⟨#[], #[.slice none 0 0, .slice none 0 0, .int .u64 0], []⟩ 8 (by kernel_rfl) (by kernel_rfl) (by kernel_rfl) (by kernel_rfl)) ?_
  intro W base args ds gs before hval0 hW hcnd hsz0 _
  have hsz : (DataW.weightsEach Try.prog (Try.f4.params.toList ++ Rows.batchEntriesSpec.plain.varTypes Try.prog) (ds ++ gs)).all (· ≤ reachBytes) = true := hsz0
  have hval : ∀ (j : Nat) t v, Try.f4.params[j]? = some t → args[j]? = some v → Value.okWide Try.prog W .any base t v := hval0
  have hW' := hW
  obtain ⟨p, q, hA0, hV, rfl, hfz, hnd⟩ := hW
  have hA : DataW.TrodAll enc Try.prog W 0 (fun _ => true) true Try.f4.params.toList args.toList ds p := hA0
  rw [Try.params4] at hA hval hsz
  obtain ⟨v0, vs0, d0, ds0, p0, q0, hargs, rfl, rfl, h0, r0⟩ := trodAll_cons hA
  obtain ⟨v1, vs1, d1, ds1, p1, q1, rfl, rfl, rfl, h1, r1⟩ := trodAll_cons r0
  obtain ⟨v2, vs2, d2, ds2, p2, q2, rfl, rfl, rfl, h2, r2⟩ := trodAll_cons r1
  obtain ⟨rfl, rfl, rfl⟩ := trodAll_nil r2
  obtain rfl : args = #[v0, v1, v2] := by cases args; simp_all
  obtain ⟨rfl, rfl⟩ := trodVars_none hV
  obtain ⟨a0, len0, cap0, rfl⟩ := okWide_slice Try.underlying22 (hval 0 22 v0 rfl rfl)
  have k0 := h0
  have y0 := sized_row hsz (j := 0) (t := 22) rfl rfl Try.underlying22 40 (by kernel_rfl) h0
  have lt0 : ∀ x ∈ p0, x.block < W.heap.size := by obtain ⟨m, hm⟩ := k0; exact DataW.trod_lt m _ _ _ hm
  obtain ⟨fuel0, hf0⟩ := h0
  obtain ⟨A0, c0, l0, hcs0, hl0, hm0, hC0, hw0⟩ := opens_row (by kernel_rfl) Try.underlying22 (show Opens Try.prog 43 k43 _ from Opens.iso (opens_struct3 (ta := 5) (tb := 9) (tc := 9) Try.underlying43 (by kernel_rfl) (by kernel_rfl) (by kernel_rfl) (by kernel_rfl) (by kernel_rfl) (by kernel_rfl) (by kernel_rfl) (opens_int Try.underlying5) (opens_string Try.underlying9) (opens_string Try.underlying9)) (fun x : S43 => (x.f0, x.f1, x.f2)) (fun q => ⟨q.1, q.2.1, q.2.2⟩) (fun _ => rfl)) hf0
  simp only [Value.cells, List.cons.injEq, Value.slice.injEq, and_true] at hcs0
  obtain ⟨rfl, rfl, rfl⟩ := hcs0
  obtain ⟨a1, len1, cap1, rfl⟩ := okWide_slice Try.underlying22 (hval 1 22 v1 rfl rfl)
  have k1 := h1
  have y1 := sized_row hsz (j := 1) (t := 22) rfl rfl Try.underlying22 40 (by kernel_rfl) h1
  have lt1 : ∀ x ∈ p1, x.block < W.heap.size := by obtain ⟨m, hm⟩ := k1; exact DataW.trod_lt m _ _ _ hm
  obtain ⟨fuel1, hf1⟩ := h1
  obtain ⟨A1, c1, l1, hcs1, hl1, hm1, hC1, hw1⟩ := opens_row (by kernel_rfl) Try.underlying22 (show Opens Try.prog 43 k43 _ from Opens.iso (opens_struct3 (ta := 5) (tb := 9) (tc := 9) Try.underlying43 (by kernel_rfl) (by kernel_rfl) (by kernel_rfl) (by kernel_rfl) (by kernel_rfl) (by kernel_rfl) (by kernel_rfl) (opens_int Try.underlying5) (opens_string Try.underlying9) (opens_string Try.underlying9)) (fun x : S43 => (x.f0, x.f1, x.f2)) (fun q => ⟨q.1, q.2.1, q.2.2⟩) (fun _ => rfl)) hf1
  simp only [Value.cells, List.cons.injEq, Value.slice.injEq, and_true] at hcs1
  obtain ⟨rfl, rfl, rfl⟩ := hcs1
  obtain ⟨a2, rfl, rfl, rfl, w2⟩ := open_int Try.underlying35 (hval 2 35 v2 rfl rfl) h2
  obtain ⟨k, h⟩ := Pure.BatchEntries l0 (Nat.le_trans hl0 hm0) y0 hw0 l1 (Nat.le_trans hl1 hm1) y1 hw1 a2 w2
  clear hA0 hval0 hsz0 hsz
  refine (P.ratlinelaw04_BatchEntries.calls k _ _ l0 _ _ l1 a2 true W hC0 hl0 hC1 hl1 h).mono fun e W' ⟨he, bel⟩ => ?_
  subst he
  exact ⟨_, rfl, _, _, _, [], _, [], hW', trodAll_mk1 (shut_bool Try.underlying4 _), (trodAll_cons_mk (Below.trod laidOut (by kernel_rfl) (of_decide_eq_true (by kernel_rfl)) k0 bel lt0) (trodAll_cons_mk (Below.trod laidOut (by kernel_rfl) (of_decide_eq_true (by kernel_rfl)) k1 bel lt1) (trodAll_cons_mk (shut_int Try.underlying35 w2) trodAll_mk0))), rfl, bel.frame _, fun h => by cases h⟩
theorem over : Rows.batchEntriesRow.holds Try.pinned (OpenSpec.ofChange Rows.batchEntriesSpec) :=
  OpenClaim.holds_of_wide 4 Try.f4 rfl rfl rfl rfl rfl rfl rfl ⟨rfl, rfl, rfl, rfl, rfl⟩ rfl rfl rfl rfl rfl (by kernel_rfl) Try.func4 (by kernel_rfl)
    (of_decide_eq_true (by kernel_rfl)) (by unfold Func.isWrapper; first | (rw [if_pos (by decide +kernel)]; kernel_rfl) | (rw [if_neg (by decide +kernel)]; exact ⟨rfl, rfl⟩))
    (fun os started H enc _ => lifted os started H enc)
theorem proved : Rows.BatchEntriesSaid := over
#print axioms proved
end Go.Proofs.Ytlaihdipagejfaa.batchEntries
namespace Go.Proofs.Ytlaihdipagejfaa
/-- The row, under a short name, for the claim. -/
theorem batchEntries_holds : Rows.BatchEntriesSaid := batchEntries.proved
end Go.Proofs.Ytlaihdipagejfaa

end
