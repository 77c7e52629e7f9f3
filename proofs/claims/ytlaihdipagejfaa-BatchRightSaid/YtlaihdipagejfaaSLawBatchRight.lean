/- Proved here: the row of BatchRight, and what it needs. Conditions: those of each theorem. Written for this claim by programs; what the claim does not use is left out. -/
import Derived.ChangeArms
import Derived.DataReads
import Derived.DataElems
import Derived.OpenShut
import Derived.SizedLaws
import Derived.Test.YtlaihdipagejfaaRows
import Derived.WalkKit
import Derived.ProofKit
import Derived.ShutString
import Derived.ChangeOld
import Derived.Below
import Derived.Test.YtlaihdipagejfaaSBatchRight2
section
set_option linter.unusedVariables false
namespace Go.Proofs.YtlaihdipagejfaaL
open Go Go.RowKit Go.Proofs.YtlaihdipagejfaaG Go.Proofs.Ytlaihdipagejfaa.P Go.Proofs.YtlaihdipagejfaaW.PrintWords Go.Proofs.YtlaihdipagejfaaW.PrintMore

abbrev OpS := S43
instance : DecidableEq OpS := fun x y => decidable_of_iff (x.f0 = y.f0 ∧ x.f1 = y.f1 ∧ x.f2 = y.f2) (by cases x; cases y; simp)
instance : DecidableEq Ik := fun x y => decidable_of_iff (x.f0 = y.f0 ∧ x.f1 = y.f1 ∧ x.f2 = y.f2) (by cases x; cases y; simp)
instance : DecidableEq En := fun x y => decidable_of_iff (x.f0 = y.f0 ∧ x.f1 = y.f1) (by cases x; cases y; simp)
theorem rd_op (l : List OpS) {j : Nat} (h : j < l.length) : rd_T43 l (j : Int) = l[j] := getD_at h
theorem rd_ent (l : List En) {j : Nat} (h : j < l.length) : rd_T41 l (j : Int) = l[j] := getD_at h

def OpI (o : OpS) : Prop := EntryI ⟨o.f1, 0, o.f0⟩ o.f2
instance (x : Ik) (v : ByteArray) : Decidable (EntryI x v) := inferInstanceAs (Decidable (_ ∧ _))
instance (o : OpS) : Decidable (OpI o) := inferInstanceAs (Decidable (EntryI _ _))
theorem op_f (o : OpS) : batch_Op.f o.f0 o.f1 o.f2 = some (decide (OpI o)) := by
  unfold batch_Op.f
  refine bind1 (entry_f ⟨o.f1, 0, o.f0⟩ o.f2) ?_
  congr 1
  rw [Bool.eq_iff_iff, Bool.and_eq_true, decide_eq_true_eq, decide_eq_true_eq, decide_eq_true_eq]
  exact Iff.rfl
theorem bad_f : ∀ l : List OpS, batch_bad l = some (!decide (∀ o ∈ l, OpI o))
  | [] => by simp [batch_bad]
  | o :: l => by
    rw [batch_bad, op_f, bad_f l, Option.bind_some]
    by_cases h : OpI o
    · simp [h]
    · simp [h]
def FewI (l : List OpS) (a : Int) : Prop := 0 < l.length ∧ (l.length : Int) ≤ a ∧ ∀ o ∈ l, OpI o
instance (l : List OpS) (a : Int) : Decidable (FewI l a) := inferInstanceAs (Decidable (_ ∧ _ ∧ _))
theorem bfew_f (l : List OpS) (a : Int) : batch_few.f l a = some (decide (FewI l a)) := by
  unfold batch_few.f
  by_cases h : 0 < l.length ∧ (l.length : Int) ≤ a
  · rw [if_pos h, bad_f, Option.bind_some, Bool.not_not]
    congr 1
    exact decide_eq_decide.2 ⟨fun q => ⟨h.1, h.2, q⟩, fun q => q.2.2⟩
  · rw [if_neg h, decide_eq_false (fun q : FewI l a => h ⟨q.1, q.2.1⟩)]

def WfO (o : OpS) : Prop := 0 ≤ o.f0 ∧ o.f0 < 256
def formO (o : OpS) : List Int := o.f0 :: (vint o.f1.size ++ (bytesOf o.f1 ++ (if o.f0 = 1 then vint o.f2.size ++ bytesOf o.f2 else [])))
def formL (l : List OpS) : List Int := l.flatMap formO
def formG (l : List OpS) : List Int := vint l.length ++ formL l
theorem formL_cons (o : OpS) (l : List OpS) : formL (o :: l) = formO o ++ formL l := rfl
theorem formL_nil : formL [] = [] := rfl
theorem op_sizes {o : OpS} (h : OpI o) : 1 ≤ o.f1.size ∧ o.f1.size ≤ 64 ∧ o.f0 ≤ 1 ∧ o.f2.size ≤ 256 ∧ (o.f0 = 0 → o.f2 = ⟨#[]⟩) := by
  obtain ⟨⟨h1, h2, _, h3⟩, h4⟩ := h
  refine ⟨h1, h2, h3, ?_, fun e => ?_⟩
  · simp only at h4
    split at h4 <;> omega
  · simp only [e, if_true] at h4
    exact ba_ext (by rw [ba_nil_iff.2 (by omega)]; exact (ba_nil_iff.2 (by rfl)).symm)
theorem formO_by {o : OpS} (hw : WfO o) : By (formO o) := by
  unfold formO
  refine .cons hw.1 hw.2 ((vint_by _).append ((bytesOf_by _).append ?_))
  split
  · exact (vint_by _).append (bytesOf_by _)
  · exact .nil
theorem formL_by {l : List OpS} (hw : ∀ o ∈ l, WfO o) : By (formL l) := fun c hc => by
  obtain ⟨o, ho, hc⟩ := List.mem_flatMap.1 hc
  exact formO_by (hw o ho) c hc
theorem formG_by {l : List OpS} (hw : ∀ o ∈ l, WfO o) : By (formG l) := (vint_by _).append (formL_by hw)
theorem formO_len {o : OpS} (h : OpI o) : (formO o).length ≤ 341 := by
  obtain ⟨h1, h2, _, h4, _⟩ := op_sizes h
  have v1 := vint_len10 (x := o.f1.size) (by omega)
  have v2 := vint_len10 (x := o.f2.size) (by omega)
  unfold formO
  rw [List.length_cons, List.length_append, List.length_append, bytesOf_length]
  split
  · rw [List.length_append, bytesOf_length]; omega
  · simp; omega
theorem formL_len {l : List OpS} (h : ∀ o ∈ l, OpI o) : (formL l).length ≤ 341 * l.length := by
  induction l with
  | nil => simp [formL]
  | cons o l ih =>
    have h1 := formO_len (h o (List.mem_cons_self ..))
    have h2 := ih (fun q hq => h q (List.mem_cons_of_mem _ hq))
    rw [formL_cons, List.length_append, List.length_cons]; omega
/-- No form of a right op begins with another one. -/
theorem formO_inj {o p : OpS} {a b : List Int} (ho : OpI o) (hp : OpI p) (wo : WfO o) (wp : WfO p) (h : formO o ++ a = formO p ++ b) : o = p ∧ a = b := by
  obtain ⟨_, o2, o3, o4, o5⟩ := op_sizes ho
  obtain ⟨_, p2, p3, p4, p5⟩ := op_sizes hp
  obtain ⟨o6, _⟩ := wo
  obtain ⟨p6, _⟩ := wp
  unfold formO at h
  simp only [List.cons_append, List.cons.injEq, List.append_assoc] at h
  obtain ⟨e0, h⟩ := h
  obtain ⟨e1, h⟩ := vint_append_inj (by omega) (by omega) h
  obtain ⟨e2, h⟩ := List.append_inj h (by rw [bytesOf_length, bytesOf_length, e1])
  have e2 : o.f1 = p.f1 := by rw [← str_bytes o.f1, e2, str_bytes]
  by_cases hk : o.f0 = 1
  · rw [if_pos hk, if_pos (e0 ▸ hk)] at h
    simp only [List.append_assoc] at h
    obtain ⟨e3, h⟩ := vint_append_inj (by omega) (by omega) h
    obtain ⟨e4, h⟩ := List.append_inj h (by rw [bytesOf_length, bytesOf_length, e3])
    have e4 : o.f2 = p.f2 := by rw [← str_bytes o.f2, e4, str_bytes]
    refine ⟨?_, h⟩
    cases o; cases p; simp_all
  · rw [if_neg hk, if_neg (e0 ▸ hk)] at h
    have e4 : o.f2 = p.f2 := by rw [o5 (by omega), p5 (by omega)]
    refine ⟨?_, h⟩
    cases o; cases p; simp_all
theorem formL_inj : ∀ {l m : List OpS} {a b : List Int}, (∀ o ∈ l, OpI o ∧ WfO o) → (∀ o ∈ m, OpI o ∧ WfO o) → l.length = m.length → formL l ++ a = formL m ++ b → l = m ∧ a = b
  | [], [], a, b, _, _, _, h => ⟨rfl, h⟩
  | [], _ :: _, _, _, _, _, hl, _ => by simp at hl
  | _ :: _, [], _, _, _, _, hl, _ => by simp at hl
  | o :: l, p :: m, a, b, h1, h2, hl, h => by
    rw [formL_cons, formL_cons, List.append_assoc, List.append_assoc] at h
    obtain ⟨q1, q2⟩ := h1 o (List.mem_cons_self ..)
    obtain ⟨q3, q4⟩ := h2 p (List.mem_cons_self ..)
    obtain ⟨e1, h'⟩ := formO_inj q1 q3 q2 q4 h
    obtain ⟨e2, h'⟩ := formL_inj (fun x hx => h1 x (List.mem_cons_of_mem _ hx)) (fun x hx => h2 x (List.mem_cons_of_mem _ hx)) (by simpa using hl) h'
    exact ⟨by rw [e1, e2], h'⟩
theorem formG_inj {l m : List OpS} {a b : List Int} (hl : FewI l 128) (hm : FewI m 128) (wl : ∀ o ∈ l, WfO o) (wm : ∀ o ∈ m, WfO o) (h : formG l ++ a = formG m ++ b) : l = m ∧ a = b := by
  unfold formG at h
  rw [List.append_assoc, List.append_assoc] at h
  have := hl.2.1
  have := hm.2.1
  obtain ⟨e, h⟩ := vint_append_inj (by omega) (by omega) h
  exact formL_inj (fun o ho => ⟨hl.2.2 o ho, wl o ho⟩) (fun o ho => ⟨hm.2.2 o ho, wm o ho⟩) e h

def ShortO (o : OpS) : Prop := o.f1.size ≤ 70 ∧ o.f2.size ≤ 300
instance (e : OpS) : Decidable (ShortO e) := inferInstanceAs (Decidable (_ ∧ _))
theorem ofew_loop (l : List OpS) (most : Int) (hl : l.length < 9223372036854775800) :
    ∀ (m j : Nat), j + m = l.length → Ev (fun k => ratlinelaw04_Few.l0 k l most l (l.length : Int) (j : Int)) (decide (∀ e ∈ l.drop j, ShortO e) && decide ((l.length : Int) ≤ most)) := by
  intro m
  induction m with
  | zero =>
    intro j hj
    obtain rfl : j = l.length := by omega
    refine ev_step (fun k => by rw [ratlinelaw04_Few.l0, if_neg (Int.lt_irrefl _)]) ?_
    rw [List.drop_length]
    simpa using ev_some _
  | succ m ih =>
    intro j hj
    have hlt : j < l.length := by omega
    refine ev_step (fun k => by rw [ratlinelaw04_Few.l0, if_pos (by omega), if_pos (by omega), if_pos (by omega), rd_op l hlt, up1 (by omega)]) ?_
    rw [List.drop_eq_getElem_cons hlt]
    by_cases h1 : ((l[j].f1.size : Nat) : Int) > 70
    · refine ev_pos h1 ?_
      rw [decide_eq_false (fun h => by have := (h l[j] (List.mem_cons_self ..)).1; omega)]
      exact ev_some _
    · refine ev_neg h1 ?_
      by_cases h2 : ((l[j].f2.size : Nat) : Int) > 300
      · refine ev_pos h2 ?_
        rw [decide_eq_false (fun h => by have := (h l[j] (List.mem_cons_self ..)).2; omega)]
        exact ev_some _
      · refine ev_neg h2 ?_
        have e0 : (∀ e ∈ l[j] :: l.drop (j + 1), ShortO e) ↔ ∀ e ∈ l.drop (j + 1), ShortO e := ⟨fun h e he => h e (List.mem_cons_of_mem _ he), fun h e he => by
          rcases List.mem_cons.1 he with rfl | he
          · exact ⟨by omega, by omega⟩
          · exact h e he⟩
        rw [decide_eq_decide.2 e0]
        exact ih (j + 1) (by omega)
theorem ofew_f (l : List OpS) (most : Int) (hl : l.length < 9223372036854775800) : Ev (fun k => ratlinelaw04_Few.f k l most) (decide (∀ e ∈ l, ShortO e) && decide ((l.length : Int) ≤ most)) := by
  have := ofew_loop l most hl l.length 0 (by omega)
  rwa [List.drop_zero] at this
theorem same_loop (a b : List OpS) (hl : a.length = b.length) (hm : a.length < 9223372036854775800) :
    ∀ (m j : Nat), j + m = a.length → Ev (fun k => ratlinelaw04_Same.l0 k a b (a.length : Int) (j : Int)) (decide (a.drop j = b.drop j)) := by
  intro m
  induction m with
  | zero =>
    intro j hj
    obtain rfl : j = a.length := by omega
    refine ev_step (fun k => by rw [ratlinelaw04_Same.l0, if_neg (Int.lt_irrefl _)]) ?_
    rw [List.drop_length, hl, List.drop_length]
    simpa using ev_some _
  | succ m ih =>
    intro j hj
    have ha : j < a.length := by omega
    have hb : j < b.length := by omega
    refine ev_step (fun k => by rw [ratlinelaw04_Same.l0, if_pos (by omega), if_pos (by omega), if_pos (by omega), if_pos (by omega), rd_op a ha, rd_op b hb, up1 (by omega)]) ?_
    rw [List.drop_eq_getElem_cons ha, List.drop_eq_getElem_cons hb]
    by_cases h : a[j] = b[j]
    · refine ev_neg (by rw [h]; simp) ?_
      rw [show decide (a[j] :: a.drop (j + 1) = b[j] :: b.drop (j + 1)) = decide (a.drop (j + 1) = b.drop (j + 1)) from decide_eq_decide.2 ⟨fun q => (List.cons.inj q).2, fun q => by rw [h, q]⟩]
      exact ih (j + 1) (by omega)
    · refine ev_pos ?_ ?_
      · generalize a[j] = x at *
        generalize b[j] = y at *
        cases x; cases y
        simp only [S43.mk.injEq] at h
        simp only [Bool.or_eq_true, Bool.not_eq_true', beq_eq_false_iff_ne, ne_eq, ba_eq_iff]
        simp only [not_and] at h
        exact Classical.byCases (fun q => .inr (Classical.byCases (fun q2 => .inr (h q q2)) (fun q2 => .inl q2))) (fun q => .inl q)
      · rw [decide_eq_false (fun q => h (List.cons.inj q).1)]
        exact ev_some _
theorem osame_f (a b : List OpS) (hm : a.length < 9223372036854775800) : Ev (fun k => ratlinelaw04_Same.f k a b) (decide (a = b)) := by
  unfold ratlinelaw04_Same.f
  by_cases hl : a.length = b.length
  · refine ev_pos (by omega) ?_
    have := same_loop a b hl hm a.length 0 (by omega)
    rwa [List.drop_zero, List.drop_zero] at this
  · refine ev_neg (by omega) ?_
    rw [decide_eq_false (fun e => hl (by rw [e]))]
    exact ev_some _
end Go.Proofs.YtlaihdipagejfaaL

end

section
set_option linter.unusedVariables false
namespace Go.Proofs.YtlaihdipagejfaaL
open Go Go.RowKit Go.Proofs.YtlaihdipagejfaaG Go.Proofs.Ytlaihdipagejfaa.P Go.Proofs.YtlaihdipagejfaaW.PrintWords Go.Proofs.YtlaihdipagejfaaW.PrintMore

theorem putO {o : OpS} (h : OpI o) {l : List Int} (hl : l.length + 1000 < 140737488355328) : ∃ t, nums_PutText.f (l ++ [o.f0]) o.f1 = some t ∧ (o.f0 = 1 → nums_PutText.f t o.f2 = some (l ++ formO o)) ∧ (o.f0 ≠ 1 → t = l ++ formO o) := by
  obtain ⟨h1, h2, _, h4, _⟩ := op_sizes h
  have v1 := vint_len10 (x := o.f1.size) (by omega)
  refine ⟨_, putText_f (by rw [List.length_append, List.length_singleton]; omega), fun hk => ?_, fun hk => ?_⟩
  · rw [putText_f (by simp only [List.length_append, List.length_singleton, bytesOf_length]; omega), formO, if_pos hk]
    simp only [List.append_assoc, List.cons_append, List.nil_append]
  · rw [formO, if_neg hk]
    simp only [List.append_assoc, List.cons_append, List.nil_append, List.append_nil]
theorem bytes_loop (l : List OpS) (h : ∀ o ∈ l, OpI o) (hl : l.length ≤ 200) :
    ∀ (m j : Nat) (acc : List Int), j + m = l.length → acc.length + 341 * m ≤ 1000000 → Ev (fun k => batch_Bytes.l0 k acc l (l.length : Int) (j : Int)) (acc ++ formL (l.drop j), 0) := by
  intro m
  induction m with
  | zero =>
    intro j acc hj ha
    obtain rfl : j = l.length := by omega
    refine ev_step (fun k => by rw [batch_Bytes.l0, if_neg (Int.lt_irrefl _)]) ?_
    rw [List.drop_length, formL_nil, List.append_nil]
    exact ev_some _
  | succ m ih =>
    intro j acc hj ha
    have hlt : j < l.length := by omega
    have ho := h l[j] (List.getElem_mem hlt)
    obtain ⟨t, h1, h2, h3⟩ := putO ho (l := acc) (by omega)
    refine ev_step (fun k => by rw [batch_Bytes.l0, if_pos (by omega), if_pos (by omega), if_pos (by omega), if_pos (by omega), rd_op l hlt, up1 (by omega)]) ?_
    refine ev_bind h1 ?_
    have hlen := formO_len ho
    have := ih (j + 1) (acc ++ formO l[j]) (by omega) (by rw [List.length_append]; omega)
    rw [List.drop_eq_getElem_cons hlt, formL_cons, ← List.append_assoc]
    by_cases hk : l[j].f0 = 1
    · refine ev_pos hk (ev_bind (h2 hk) this)
    · refine ev_neg hk ?_
      rw [h3 hk]
      exact this
theorem bytes_f (l : List OpS) : Ev (fun k => batch_Bytes.f k l) (if FewI l 128 then (formG l, 0) else ([], 40)) := by
  unfold batch_Bytes.f
  refine ev_bind (bfew_f l 128) ?_
  by_cases h : FewI l 128
  · rw [decide_eq_true h, if_pos h]
    refine ev_pos rfl ?_
    have h2 := h.2.1
    have h3 := vint_len10 (x := l.length) (by omega)
    refine ev_bind (a := vint l.length) ?_ ?_
    · rw [wrap_u64_nat (by omega), put_f (by omega) (by simp)]; rfl
    · have := bytes_loop l h.2.2 (by omega) l.length 0 (vint l.length) (by omega) (by omega)
      rwa [List.drop_zero] at this
  · rw [decide_eq_false h, if_neg h]
    exact ev_neg (by decide) (ev_some _)

/-- An op that may be is taken. -/
theorem op_form {o : OpS} (h : OpI o) (hw : WfO o) {rest : List Int} (hr : By rest) (hl : rest.length + 1000 < 140737488355328) : opF (formO o ++ rest) false = some (o, rest, false) := by
  obtain ⟨h1, h2, h3, h4, h5⟩ := op_sizes h
  unfold opF formO
  rw [List.cons_append]
  simp only [kindF, Bool.not_true, Bool.or_false]
  by_cases hk : o.f0 = 1
  · have e1 := takeText_yes o.f1 (vint o.f2.size ++ (bytesOf o.f2 ++ rest)) 64 (by omega) ((vint_by _).append ((bytesOf_by _).append hr)) (by
      have := vint_len10 (x := o.f2.size) (by omega)
      rw [List.length_append, List.length_append, bytesOf_length]; omega) (by omega)
    have e2 := takeText_yes o.f2 rest 256 (by omega) hr (by omega) (by omega)
    simp only [if_pos hk, List.append_assoc]
    rw [e1]
    show (nums_TakeText.f (vint o.f2.size ++ (bytesOf o.f2 ++ rest)) 256).bind _ = _
    rw [e2]
    rfl
  · have e1 := takeText_yes o.f1 rest 64 (by omega) hr (by omega) (by omega)
    have e3 : o.f2 = ⟨#[]⟩ := h5 (by have := hw.1; omega)
    simp only [if_neg hk, List.append_assoc, List.append_nil]
    rw [e1]
    show some (_, _, _) = _
    cases o
    simp only at e3
    subst e3
    rfl
/-- What is taken as an op, whatever stands there. -/
theorem op_cases (l : List Int) (bad : Bool) (hb : By l) (hl : l.length + 20 < 140737488355328) :
    ∃ (o : OpS) (rest : List Int) (bad1 : Bool), opF l bad = some (o, rest, bad1) ∧ By rest ∧ rest.length ≤ l.length ∧ (bad1 = false → bad = false ∧ WfO o ∧ (OpI o → l = formO o ++ rest)) := by
  have h0 : ∀ most : Int, most ≤ 9223372036854775807 → ∀ (q : List Int), By q → q.length ≤ l.length → ∃ (s : ByteArray) (rest : List Int) (ok : Bool), nums_TakeText.f q most = some (s, rest, ok) ∧ By rest ∧ rest.length ≤ q.length ∧ (ok = true → q = vint s.size ++ (bytesOf s ++ rest)) := by
    intro most hm q hq hql
    rcases takeText_cases q most hm hq (by omega) with ⟨s, rest, hs, he, hf⟩ | ⟨hf, _⟩
    · exact ⟨s, rest, true, hf, By.right (By.right (he ▸ hq)), by rw [he, List.length_append, List.length_append]; omega, fun _ => he⟩
    · exact ⟨_, _, _, hf, .nil, by simp, fun h => by cases h⟩
  have hk2 : By (kindF l).2.1 ∧ (kindF l).2.1.length ≤ l.length ∧ ((kindF l).2.2 = true → l = (kindF l).1 :: (kindF l).2.1) := by
    cases l with
    | nil => exact ⟨.nil, by simp [kindF], fun h => by simp [kindF] at h⟩
    | cons c r => exact ⟨hb.tail, by simp [kindF], fun _ => rfl⟩
  obtain ⟨hk2, hk3, hk4⟩ := hk2
  obtain ⟨s, r1, ok1, hf1, hb1, hl1, he1⟩ := h0 64 (by omega) _ hk2 hk3
  unfold opF
  rw [hf1, Option.bind_some]
  by_cases hk : (kindF l).1 = 1
  · simp only [if_pos hk]
    obtain ⟨s2, r2, ok2, hf2, hb2, hl2, he2⟩ := h0 256 (by omega) r1 hb1 (by omega)
    rw [hf2, Option.bind_some]
    refine ⟨_, _, _, rfl, hb2, by show r2.length ≤ _; omega, fun hbad => ?_⟩
    simp only [Bool.or_eq_false_iff, Bool.not_eq_false'] at hbad
    obtain ⟨⟨⟨q1, q2⟩, q3⟩, q4⟩ := hbad
    refine ⟨q1, ⟨by show 0 ≤ (kindF l).1; omega, by show (kindF l).1 < 256; omega⟩, fun _ => ?_⟩
    have e := hk4 q2
    rw [he1 q3, he2 q4] at e
    rw [formO]
    simp only [if_pos hk, List.cons_append, List.append_assoc]
    exact e
  · simp only [if_neg hk]
    refine ⟨_, _, _, rfl, hb1, by show r1.length ≤ _; omega, fun hbad => ?_⟩
    simp only [Bool.or_eq_false_iff, Bool.not_eq_false'] at hbad
    obtain ⟨⟨q1, q2⟩, q3⟩ := hbad
    have e := hk4 q2
    refine ⟨q1, ?_, fun _ => ?_⟩
    · show 0 ≤ (kindF l).1 ∧ (kindF l).1 < 256
      rw [e] at hb
      exact hb.head
    · rw [he1 q3] at e
      rw [formO]
      simp only [if_neg hk, List.cons_append, List.append_assoc, List.append_nil]
      exact e
theorem wrap_down {n : Nat} (h : n < 18446744073709551616) : IntKind.u64.wrap (((n + 1 : Nat) : Int) - 1) = (n : Int) := by rw [IntKind.wrap_u64]; omega
theorem parse_down : ∀ (ops : List OpS) (m n : Nat) (out : List OpS) (rest : List Int), (∀ o ∈ ops, OpI o ∧ WfO o) → By rest → rest.length + 400 * ops.length + 2000 < 140737488355328 → n < 18446744073709551616 → ops.length ≤ n → ops.length ≤ m →
    parseL m (n : Int) out (formL ops ++ rest) false = parseL (m - ops.length) ((n - ops.length : Nat) : Int) (out ++ ops) rest false
  | [], m, n, out, rest, _, _, _, _, _, _ => by rw [formL_nil, List.nil_append, List.append_nil]; rfl
  | o :: ops, m, n, out, rest, h, hr, hl, hn, h1, h2 => by
    obtain ⟨ho, hw⟩ := h o (List.mem_cons_self ..)
    have hs : ∀ q ∈ ops, OpI q ∧ WfO q := fun q hq => h q (List.mem_cons_of_mem _ hq)
    rw [List.length_cons] at hl h1 h2
    obtain ⟨m, rfl⟩ : ∃ q, m = q + 1 := ⟨m - 1, by omega⟩
    obtain ⟨n, rfl⟩ : ∃ q, n = q + 1 := ⟨n - 1, by omega⟩
    have hfl := formL_len (fun q hq => (hs q hq).1)
    rw [parseL, if_pos (by omega), if_neg (by decide), formL_cons, List.append_assoc, op_form ho hw ((formL_by (fun q hq => (hs q hq).2)).append hr) (by rw [List.length_append]; omega), Option.bind_some, wrap_down (by omega)]
    rw [parse_down ops m n (out ++ [o]) rest hs hr (by omega) (by omega) (by omega) (by omega)]
    rw [show m + 1 - (o :: ops).length = m - ops.length from by simp, show n + 1 - (o :: ops).length = n - ops.length from by simp, List.append_assoc, List.singleton_append]
/-- A group's bytes are parsed. -/
theorem parse_form {l : List OpS} (h : FewI l 128) (hw : ∀ o ∈ l, WfO o) : batch_Parse.f (formG l) = some (l, 0) := by
  have h1 := h.2.1
  have h2 := h.1
  have hlen := formL_len h.2.2
  unfold batch_Parse.f formG
  rw [take_vint l.length _ (by omega) (formL_by hw) (by omega), Option.bind_some]
  have := parse_down l 129 l.length [] [] (fun o ho => ⟨h.2.2 o ho, hw o ho⟩) .nil (by simp; omega) (by omega) (Nat.le_refl _) (by omega)
  rw [List.append_nil, Nat.sub_self, List.nil_append] at this
  show (parseL 129 (l.length : Int) [] (formL l) false).bind _ = _
  rw [this]
  have h3 : parseL (129 - l.length) ((0 : Nat) : Int) l [] false = some (l, [], false) := by
    cases 129 - l.length with
    | zero => rfl
    | succ m => rw [parseL, if_neg (by omega)]
  rw [h3, Option.bind_some, if_neg (show ¬ false = true from by decide), if_neg (show ¬ 0 < ([] : List Int).length from by decide), bfew_f, Option.bind_some, decide_eq_true h, if_pos rfl]
/-- What was parsed stood there. -/
theorem parse_up : ∀ (m n : Nat) (out : List OpS) (b : List Int) (bad : Bool), By b → b.length + 20 < 140737488355328 → n < 18446744073709551616 → ∃ (out' : List OpS) (b' : List Int) (bad' : Bool), parseL m (n : Int) out b bad = some (out', b', bad') ∧
    (bad' = false → bad = false ∧ ∃ ops, out' = out ++ ops ∧ (∀ o ∈ ops, WfO o) ∧ ops.length ≤ m ∧ (ops.length = n ∨ ops.length = m) ∧ ((∀ o ∈ ops, OpI o) → b = formL ops ++ b'))
  | 0, n, out, b, bad, hb, hl, hn => ⟨out, b, bad, rfl, fun h => ⟨h, [], by simp, (fun o ho => by cases ho), Nat.le_refl _, .inr rfl, fun _ => rfl⟩⟩
  | m + 1, 0, out, b, bad, hb, hl, hn => ⟨out, b, bad, by rw [parseL, if_neg (by omega)], fun h => ⟨h, [], by simp, (fun o ho => by cases ho), Nat.zero_le _, .inl rfl, fun _ => rfl⟩⟩
  | m + 1, n + 1, out, b, true, hb, hl, hn => ⟨out, b, true, by rw [parseL, if_pos (by omega), if_pos rfl], fun h => by cases h⟩
  | m + 1, n + 1, out, b, false, hb, hl, hn => by
    obtain ⟨o, rest, bad1, hf, hr, hrl, hs⟩ := op_cases b false hb hl
    obtain ⟨out', b', bad', hp, hq⟩ := parse_up m n (out ++ [o]) rest bad1 hr (by omega) (by omega)
    refine ⟨out', b', bad', by rw [parseL, if_pos (by omega), if_neg (by decide), hf, Option.bind_some, wrap_down (by omega)]; exact hp, fun hbad => ⟨rfl, ?_⟩⟩
    obtain ⟨q1, ops, q2, q3, q4, q5, q6⟩ := hq hbad
    obtain ⟨_, s1, s2⟩ := hs q1
    refine ⟨o :: ops, by rw [q2, List.append_assoc, List.singleton_append], fun p hp => ?_, by simp; omega, by simp only [List.length_cons]; omega, fun hops => ?_⟩
    · rcases List.mem_cons.1 hp with rfl | hp
      · exact s1
      · exact q3 p hp
    · rw [formL_cons, List.append_assoc, ← q6 (fun p hp => hops p (List.mem_cons_of_mem _ hp))]
      exact s2 (hops o (List.mem_cons_self ..))
theorem parse_cases (l : List Int) (hb : By l) (hl : l.length + 20 < 140737488355328) :
    (∃ ops, FewI ops 128 ∧ (∀ o ∈ ops, WfO o) ∧ l = formG ops ∧ batch_Parse.f l = some (ops, 0)) ∨ (batch_Parse.f l = some ([], 40) ∧ ∀ ops, FewI ops 128 → (∀ o ∈ ops, WfO o) → l ≠ formG ops) := by
  have key : (∃ ops, FewI ops 128 ∧ (∀ o ∈ ops, WfO o) ∧ l = formG ops) ∨ batch_Parse.f l = some ([], 40) := by
    rcases take_cases l hb (by omega) with ⟨x, rest, hx, he, hf⟩ | ⟨hf, _⟩
    · have hr : By rest := By.right (he ▸ hb)
      have hrl : rest.length ≤ l.length := by rw [he, List.length_append]; omega
      obtain ⟨out, b, bad, hp, hs⟩ := parse_up 129 x [] rest false hr (by omega) hx
      unfold batch_Parse.f
      rw [hf, Option.bind_some]
      show _ ∨ (parseL 129 (x : Int) [] rest false).bind _ = _
      rw [hp, Option.bind_some]
      cases bad with
      | true => exact .inr (if_pos rfl)
      | false =>
        rw [if_neg (show ¬ false = true from by decide)]
        by_cases hbl : 0 < b.length
        · exact .inr (if_pos hbl)
        · rw [if_neg hbl, bfew_f, Option.bind_some]
          obtain rfl : b = [] := List.eq_nil_of_length_eq_zero (by omega)
          obtain ⟨_, ops, q2, q3, q4, q5, q6⟩ := hs rfl
          rw [List.nil_append] at q2
          subst q2
          by_cases hfew : FewI out 128
          · refine .inl ⟨out, hfew, q3, ?_⟩
            have := hfew.2.1
            have e := q6 hfew.2.2
            rw [List.append_nil] at e
            rw [he, formG, e, show out.length = x from by omega]
          · exact .inr (by rw [decide_eq_false hfew, if_neg (by decide)])
    · right
      unfold batch_Parse.f
      rw [hf, Option.bind_some]
      show (parseL 129 0 [] [] true).bind _ = _
      rw [show parseL 129 0 [] [] true = some ([], [], true) from rfl, Option.bind_some]
      exact if_pos rfl
  rcases key with ⟨ops, h1, h2, rfl⟩ | h
  · exact .inl ⟨ops, h1, h2, rfl, parse_form h1 h2⟩
  · refine .inr ⟨h, fun ops h1 h2 e => ?_⟩
    rw [e, parse_form h1 h2] at h
    simp at h

def entO (first : Int) (o : OpS) (j : Nat) : En := ⟨⟨o.f1, IntKind.u64.wrap (first + (j : Int)), o.f0⟩, o.f2⟩
def entL (first : Int) (l : List OpS) : List En := l.mapIdx fun j o => entO first o j
theorem entL_length (first : Int) (l : List OpS) : (entL first l).length = l.length := by simp [entL]
theorem entL_at (first : Int) (l : List OpS) {j : Nat} (h : j < l.length) : (entL first l)[j]'(by rw [entL_length]; exact h) = entO first l[j] j := by simp [entL]
theorem ent_loop (l : List OpS) (first : Int) (hl : l.length ≤ 1000) :
    ∀ (m j : Nat), j + m = l.length → Ev (fun k => batch_Entries.l0 k first ((entL first l).take j) l (l.length : Int) (j : Int)) (entL first l) := by
  intro m
  induction m with
  | zero =>
    intro j hj
    obtain rfl : j = l.length := by omega
    refine ev_step (fun k => by rw [batch_Entries.l0, if_neg (Int.lt_irrefl _)]) ?_
    rw [List.take_of_length_le (by rw [entL_length]; omega)]
    exact ev_some _
  | succ m ih =>
    intro j hj
    have hlt : j < l.length := by omega
    have hlt2 : j < (entL first l).length := by rw [entL_length]; exact hlt
    refine ev_step (fun k => by rw [batch_Entries.l0, if_pos (by omega), if_pos (by omega), if_pos (by omega), if_pos (by rw [List.length_take]; omega), rd_op l hlt, up1 (by omega), wrap_u64_nat (by omega)]) ?_
    have := ih (j + 1) (by omega)
    rw [List.take_succ_eq_append_getElem hlt2, entL_at first l hlt] at this
    exact this
theorem entries_f (l : List OpS) (first : Int) (hl : l.length ≤ 1000) : Ev (fun k => batch_Entries.f k l first) (entL first l) := by
  have := ent_loop l first hl l.length 0 (by omega)
  rwa [List.take_zero] at this
theorem esame_loop (a b : List En) (hl : a.length = b.length) (hm : a.length < 9223372036854775800) :
    ∀ (m j : Nat), j + m = a.length → Ev (fun k => ratlinelaw04_Entries.l0 k a b (a.length : Int) (j : Int)) (decide (a.drop j = b.drop j)) := by
  intro m
  induction m with
  | zero =>
    intro j hj
    obtain rfl : j = a.length := by omega
    refine ev_step (fun k => by rw [ratlinelaw04_Entries.l0, if_neg (Int.lt_irrefl _)]) ?_
    rw [List.drop_length, hl, List.drop_length]
    simpa using ev_some _
  | succ m ih =>
    intro j hj
    have ha : j < a.length := by omega
    have hb : j < b.length := by omega
    refine ev_step (fun k => by rw [ratlinelaw04_Entries.l0, if_pos (by omega), if_pos (by omega), if_pos (by omega), if_pos (by omega), rd_ent a ha, rd_ent b hb, up1 (by omega)]) ?_
    rw [List.drop_eq_getElem_cons ha, List.drop_eq_getElem_cons hb]
    by_cases h : a[j] = b[j]
    · refine ev_neg (by rw [h]; simp) ?_
      rw [show decide (a[j] :: a.drop (j + 1) = b[j] :: b.drop (j + 1)) = decide (a.drop (j + 1) = b.drop (j + 1)) from decide_eq_decide.2 ⟨fun q => (List.cons.inj q).2, fun q => by rw [h, q]⟩]
      exact ih (j + 1) (by omega)
    · refine ev_pos ?_ ?_
      · generalize a[j] = x at *
        generalize b[j] = y at *
        obtain ⟨⟨x0, x1, x2⟩, x3⟩ := x
        obtain ⟨⟨y0, y1, y2⟩, y3⟩ := y
        simp only [S41.mk.injEq, S39.mk.injEq] at h
        simp only [Bool.or_eq_true, Bool.not_eq_true', beq_eq_false_iff_ne, ne_eq, ba_eq_iff]
        exact Classical.byCases (fun q : x3 = y3 => .inl (Classical.byCases (fun q1 : x0 = y0 => .inr (Classical.byCases (fun q2 : x1 = y1 => .inr (fun q3 => h ⟨⟨q1, q2, q3⟩, q⟩)) .inl)) .inl)) .inr
      · rw [decide_eq_false (fun q => h (List.cons.inj q).1)]
        exact ev_some _
theorem esame_f (a b : List En) (hm : a.length < 9223372036854775800) : Ev (fun k => ratlinelaw04_Entries.f k a b) (decide (a = b)) := by
  unfold ratlinelaw04_Entries.f
  by_cases hl : a.length = b.length
  · refine ev_pos (by omega) ?_
    have := esame_loop a b hl hm a.length 0 (by omega)
    rwa [List.drop_zero, List.drop_zero] at this
  · refine ev_neg (by omega) ?_
    rw [decide_eq_false (fun e => hl (by rw [e]))]
    exact ev_some _
end Go.Proofs.YtlaihdipagejfaaL

end

section
set_option linter.unusedVariables false
namespace Go.Proofs.YtlaihdipagejfaaL
open Go Go.RowKit Go.Proofs.YtlaihdipagejfaaG Go.Proofs.Ytlaihdipagejfaa.P Go.Proofs.YtlaihdipagejfaaW.PrintWords Go.Proofs.YtlaihdipagejfaaW.PrintMore

def aw1 : OpS := ⟨1, ⟨#[97]⟩, ⟨#[120]⟩⟩
def aw2 : OpS := ⟨0, ⟨#[98]⟩, ⟨#[]⟩⟩
theorem aw_few : FewI [aw1, aw2] 128 := ⟨by decide, by decide, fun o ho => by
  simp only [List.mem_cons, List.not_mem_nil, or_false] at ho
  rcases ho with rfl | rfl
  · exact ⟨⟨by decide, by decide, by decide, by decide⟩, by decide⟩
  · exact ⟨⟨by decide, by decide, by decide, by decide⟩, by decide⟩⟩
theorem aw_wf : ∀ o ∈ [aw1, aw2], WfO o := fun o ho => by
  simp only [List.mem_cons, List.not_mem_nil, or_false] at ho
  rcases ho with rfl | rfl
  · exact ⟨by decide, by decide⟩
  · exact ⟨by decide, by decide⟩
theorem aw_form : formG [aw1, aw2] = [2, 1, 1, 97, 1, 120, 0, 1, 98] := by
  show vint 2 ++ ((1 :: (vint 1 ++ (bytesOf _ ++ (vint 1 ++ bytesOf _)))) ++ ((0 :: (vint 1 ++ (bytesOf _ ++ []))) ++ [])) = _
  rw [vint_small (x := 1) (by omega), vint_small (x := 2) (by omega)]
  rfl
theorem aw_none {l : List Int} (hb : By l) (hl : l.length ≤ 100) (h : ∀ ops, FewI ops 128 → (∀ o ∈ ops, WfO o) → l ≠ formG ops) : batch_Parse.f l = some ([], 40) := by
  rcases parse_cases l hb (by omega) with ⟨ops, h1, h2, he, _⟩ | ⟨hf, _⟩
  · exact absurd he (h ops h1 h2)
  · exact hf
theorem aw_loop (r : Bool) (x1 : List OpS) (x2 x3 : List Int) (x4 : Int) (x5 : List OpS) (x6 x8 x10 x12 x14 : Int) (h1 : 0 < x1.length)
    (hend : ∀ x15 : List OpS, x15.length = 129 → Ev (fun k => ratlinelaw04_awake.l0 k x1 x2 x3 x4 x5 x6 x8 x10 x12 x14 x15 129 129) r) :
    ∀ (m j : Nat) (x15 : List OpS), j + m = 129 → x15.length = 129 → Ev (fun k => ratlinelaw04_awake.l0 k x1 x2 x3 x4 x5 x6 x8 x10 x12 x14 x15 129 (j : Int)) r := by
  intro m
  induction m with
  | zero =>
    intro j x15 hj hl
    obtain rfl : j = 129 := by omega
    exact hend x15 hl
  | succ m ih =>
    intro j x15 hj hl
    refine ev_step (fun k => by rw [ratlinelaw04_awake.l0, if_pos (by omega), if_pos (by omega), if_pos (by omega), if_pos (by omega), up1 (by omega)]) ?_
    exact ih (j + 1) _ (by omega) (by rw [List.length_set]; exact hl)
theorem awake04 : Ev (fun k => ratlinelaw04_awake.f k) true := by
  have b4 : ∀ a b c d : Int, 0 ≤ a → a < 256 → 0 ≤ b → b < 256 → 0 ≤ c → c < 256 → 0 ≤ d → d < 256 → By [a, b, c, d] := fun a b c d h1 h2 h3 h4 h5 h6 h7 h8 => .cons h1 h2 (.cons h3 h4 (.cons h5 h6 (.cons h7 h8 .nil)))
  have p1 : batch_Parse.f [2, 1, 1, 97, 1, 120, 0, 1, 98] = some ([aw1, aw2], 0) := by rw [← aw_form]; exact parse_form aw_few aw_wf
  have p2 : batch_Parse.f (([] ++ [2, 1, 1, 97, 1, 120, 0, 1, 98]) ++ [0]) = some ([], 40) := by
    rw [← aw_form, List.nil_append]
    refine aw_none ((formG_by aw_wf).append (.cons (by decide) (by decide) .nil)) (by rw [aw_form]; decide) (fun ops h1 h2 e => ?_)
    have := (formG_inj (a := [0]) (b := []) aw_few h1 aw_wf h2 (by rw [List.append_nil]; exact e)).2
    simp at this
  have p3 : batch_Parse.f [0] = some ([], 40) := by
    refine aw_none (.cons (by decide) (by decide) .nil) (by decide) (fun ops h1 h2 e => ?_)
    have h3 := h1.2.1
    have h4 := h1.1
    rw [formG, show ([0] : List Int) = vint 0 ++ [] from by rw [vint_small (by omega)]; rfl] at e
    have := (vint_append_inj (by omega) (by omega) e).1
    omega
  have p4 : batch_Parse.f [1, 2, 1, 97] = some ([], 40) := by
    refine aw_none (b4 _ _ _ _ (by decide) (by decide) (by decide) (by decide) (by decide) (by decide) (by decide) (by decide)) (by decide) (fun ops h1 h2 e => ?_)
    have h3 := h1.2.1
    have h4 := h1.1
    rw [formG, show ([1, 2, 1, 97] : List Int) = vint 1 ++ [2, 1, 97] from by rw [vint_small (by omega)]; rfl] at e
    obtain ⟨e1, e2⟩ := vint_append_inj (by omega) (by omega) e
    match ops, e1, e2, h1 with
    | [o], _, e2, h1 =>
      have h5 := (op_sizes (h1.2.2 o (by simp))).2.2.1
      rw [formL_cons, formO] at e2
      simp only [List.cons_append, List.cons.injEq] at e2
      omega
  have q1 : Ev (fun k => batch_Bytes.f k [aw1, aw2]) (formG [aw1, aw2], 0) := by
    have := bytes_f [aw1, aw2]
    rwa [if_pos aw_few] at this
  have q2 : ∀ l : List OpS, ¬ FewI l 128 → Ev (fun k => batch_Bytes.f k l) ([], 40) := fun l h => by
    have := bytes_f l
    rwa [if_neg h] at this
  unfold ratlinelaw04_awake.f
  refine ev_bind rfl ?_
  refine ev_bind rfl ?_
  refine ev_call2 q1 (fun t t1 t2 => ?_)
  refine ev_bind2 p1 (fun u u1 u2 => ?_)
  refine ev_bind rfl (ev_pos (by decide) ?_)
  refine ev_bind rfl (ev_pos (by decide) ?_)
  refine ev_bind2 p2 (fun v v1 v2 => ?_)
  refine ev_bind2 p3 (fun w w1 w2 => ?_)
  refine ev_bind2 p4 (fun x x1 x2 => ?_)
  refine ev_call2 (q2 [] (fun h => absurd h.1 (by decide))) (fun y y1 y2 => ?_)
  refine ev_pos (by decide) (ev_bind rfl ?_)
  rw [t1, t2, u1, u2, v2, w2, x2, y2, List.length_replicate]
  refine aw_loop true _ _ _ _ _ _ _ _ _ _ (by decide) (fun x15 hl => ?_) 129 0 _ rfl (List.length_replicate ..)
  refine ev_step (fun k => by rw [ratlinelaw04_awake.l0, if_neg (Int.lt_irrefl _)]) ?_
  refine ev_call2 (q2 x15 (fun h => by have := h.2.1; omega)) (fun y y1 y2 => ?_)
  refine ev_call (entries_f [aw1, aw2] 7 (by decide)) ?_
  refine ev_pos (by unfold wrap64; omega) ?_
  refine ev_bind (same_f (formG_by aw_wf) (by rw [← aw_form]; exact formG_by aw_wf)) (ev_pos (decide_eq_true aw_form) ?_)
  refine ev_call (osame_f _ _ (by decide)) (ev_pos (decide_eq_true rfl) ?_)
  refine ev_pos rfl (ev_pos rfl (ev_pos rfl (ev_pos rfl (ev_pos y2 ?_))))
  refine ev_call (a := true) ?_ (ev_some _)
  have := esame_f (entL 7 [aw1, aw2]) [⟨⟨⟨#[97]⟩, 7, 1⟩, ⟨#[120]⟩⟩, ⟨⟨⟨#[98]⟩, 8, 0⟩, ⟨#[]⟩⟩] (by decide)
  rwa [decide_eq_true (by rfl)] at this
end Go.Proofs.YtlaihdipagejfaaL

end

section
set_option linter.unusedVariables false
namespace Go.Proofs.YtlaihdipagejfaaL
open Go Go.RowKit Go.Proofs.YtlaihdipagejfaaG Go.Proofs.Ytlaihdipagejfaa.P Go.Proofs.YtlaihdipagejfaaW.PrintWords Go.Proofs.YtlaihdipagejfaaW.PrintMore

theorem awake04' : Ev (fun k => (ratlinelaw04_awake.f k).bind fun t => some t) true := ev_call awake04 (ev_some _)
end Go.Proofs.YtlaihdipagejfaaL

end

section
set_option linter.unusedVariables false
namespace Go.Proofs.Ytlaihdipagejfaa.Pure
open Go Go.RowKit Go.Proofs.Ytlaihdipagejfaa.P Go.Proofs.YtlaihdipagejfaaG Go.Proofs.YtlaihdipagejfaaL Go.Proofs.YtlaihdipagejfaaW.PrintWords Go.Proofs.YtlaihdipagejfaaW.PrintMore Go.Proofs.YtlaihdipagejfaaW.PrintLast

theorem right_b (l : List OpS) : batch_Right.f l = some (decide (FewI l 32)) := by
  unfold batch_Right.f
  rw [bfew_f]
  rfl
theorem right_one (o : OpS) : FewI [o] 32 ↔ OpI o := ⟨fun h => h.2.2 o (by simp), fun h => ⟨Nat.one_pos, by show (1 : Int) ≤ 32; omega, fun p hp => by rw [List.mem_singleton.1 hp]; exact h⟩⟩
theorem right_app (l o : List OpS) (h1 : FewI l 32) (h2 : FewI o 32) : FewI (l ++ o) 32 ↔ (l.length : Int) + o.length ≤ 32 := by
  refine ⟨fun h => by have := h.2.1; rw [List.length_append] at this; omega, fun h => ⟨by rw [List.length_append]; have := h1.1; omega, by rw [List.length_append]; omega, fun p hp => ?_⟩⟩
  rcases List.mem_append.1 hp with hp | hp
  · exact h1.2.2 p hp
  · exact h2.2.2 p hp
theorem right_j3 {l o : List OpS} (hl : l.length ≤ 60) (ho : o.length ≤ 60) (at_ : Int) (ha : 0 ≤ at_ ∧ at_ < 256) (h1 : FewI l 32) (b : Bool) (hb : b = !decide (FewI o 32)) :
    Ev (fun k => ratlinelaw04_BatchRight.j3 k l o at_ b) true := by
  refine ev_step (fun k => by rw [ratlinelaw04_BatchRight.j3]) ?_
  by_cases h2 : FewI o 32
  · rw [decide_eq_true h2] at hb
    subst hb
    have h0 := h1.1
    obtain ⟨n, rfl⟩ := Int.eq_ofNat_of_zero_le ha.1
    have hw : wrap64 (n : Int) = (n : Int) := by unfold wrap64; omega
    have hm : Int.tmod (n : Int) (l.length : Int) = ((n % l.length : Nat) : Int) := by rw [Int.ofNat_tmod]
    have hlt := Nat.mod_lt n h0
    have hw2 : wrap64 ((l.length : Int) + (o.length : Int)) = (l.length : Int) + (o.length : Int) := by unfold wrap64; omega
    refine ev_neg (by decide) (ev_neg (by omega) ?_)
    refine ev_bind rfl (ev_pos (by simp; omega) (ev_bind rfl (ev_pos (by simp; omega) ?_)))
    refine ev_bind (right_b _) ?_
    rw [hw, hm, hw2, List.nil_append]
    refine ev_pos (by omega) (ev_pos (by omega) ?_)
    refine ev_bind (right_b _) ?_
    have h3 := h1.2.1
    refine ev_pos ?_ ?_
    · rw [Int.toNat_natCast]
      exact decide_eq_true ⟨by rw [List.length_drop]; omega, by rw [List.length_drop]; omega, fun p hp => h1.2.2 p (List.mem_of_mem_drop hp)⟩
    · by_cases hs : (l.length : Int) + o.length ≤ 32
      · exact ev_pos hs (ev_pos (decide_eq_true ((right_app l o h1 h2).2 hs)) awake04')
      · exact ev_neg hs (ev_neg (by rw [decide_eq_false (fun q => hs ((right_app l o h1 h2).1 q))]; decide) awake04')
  · rw [decide_eq_false h2] at hb
    subst hb
    exact ev_pos rfl awake04'
theorem right_j2 {l o : List OpS} (hl : l.length ≤ 60) (ho : o.length ≤ 60) (at_ : Int) (ha : 0 ≤ at_ ∧ at_ < 256) : Ev (fun k => ratlinelaw04_BatchRight.j2 k l o at_ false) true := by
  refine ev_step (fun k => by rw [ratlinelaw04_BatchRight.j2]) ?_
  refine ev_neg (by decide) (ev_bind (right_b l) ?_)
  by_cases h : FewI l 32
  · refine ev_pos (decide_eq_true h) (ev_bind (right_b o) ?_)
    exact right_j3 hl ho at_ ha h _ rfl
  · refine ev_neg (by rw [decide_eq_false h]; decide) ?_
    refine ev_step (fun k => by rw [ratlinelaw04_BatchRight.j3]) ?_
    exact ev_pos rfl awake04'
theorem right_l0 {l o : List OpS} (hl : l.length ≤ 60) (ho : o.length ≤ 60) (at_ : Int) (ha : 0 ≤ at_ ∧ at_ < 256) :
    ∀ (m j : Nat), j + m = l.length → Ev (fun k => ratlinelaw04_BatchRight.l0 k l o at_ (decide (∀ x ∈ l.take j, OpI x)) l (l.length : Int) (j : Int)) true := by
  intro m
  induction m with
  | zero =>
    intro j hj
    obtain rfl : j = l.length := by omega
    refine ev_step (fun k => by rw [ratlinelaw04_BatchRight.l0, if_neg (Int.lt_irrefl _)]) ?_
    rw [List.take_of_length_le (Nat.le_refl _)]
    have h0 : batch_Right.f [] = some false := by rw [right_b, decide_eq_false (fun h => absurd h.1 (by decide))]
    refine ev_bind (right_b l) ?_
    by_cases h : ∀ x ∈ l, OpI x
    · refine ev_pos (decide_eq_true h) ?_
      by_cases h1 : (l.length : Int) > 0
      · refine ev_pos h1 ?_
        by_cases h2 : (l.length : Int) ≤ 32
        · refine ev_pos h2 (ev_pos (decide_eq_true ⟨by omega, h2, h⟩) (ev_bind h0 ?_))
          exact right_j2 hl ho at_ ha
        · refine ev_neg h2 (ev_neg (by rw [decide_eq_false (fun q => h2 q.2.1)]; decide) (ev_bind h0 ?_))
          exact right_j2 hl ho at_ ha
      · refine ev_neg h1 (ev_neg (by rw [decide_eq_false (fun q => h1 (by have := q.1; omega))]; decide) (ev_bind h0 ?_))
        exact right_j2 hl ho at_ ha
    · refine ev_neg (by rw [decide_eq_false h]; decide) (ev_neg (by rw [decide_eq_false (fun q => h q.2.2)]; decide) (ev_bind h0 ?_))
      exact right_j2 hl ho at_ ha
  | succ m ih =>
    intro j hj
    have hlt : j < l.length := by omega
    refine ev_step (fun k => by rw [ratlinelaw04_BatchRight.l0, if_pos (by omega), if_pos (by omega), if_pos (by omega), rd_op l hlt, up1 (by omega)]) ?_
    have hi := ih (j + 1) (by omega)
    by_cases h : ∀ x ∈ l.take j, OpI x
    · refine ev_pos (decide_eq_true h) (ev_bind (right_b _) ?_)
      have e : (FewI [(⟨l[j].f0, l[j].f1, l[j].f2⟩ : OpS)] 32) ↔ ∀ x ∈ l.take (j + 1), OpI x := by
        rw [List.take_succ_eq_append_getElem hlt]
        exact (right_one _).trans ⟨fun q x hx => (List.mem_append.1 hx).elim (h x) (fun hx => by rw [List.mem_singleton.1 hx]; exact q), fun q => q l[j] (List.mem_append_right _ (List.mem_singleton.2 rfl))⟩
      by_cases q : ∀ x ∈ l.take (j + 1), OpI x
      · rw [decide_eq_true q] at hi
        rw [decide_eq_true (e.2 q)]
        exact hi
      · rw [decide_eq_false q] at hi
        rw [decide_eq_false (fun z => q (e.1 z))]
        exact hi
    · refine ev_neg (by rw [decide_eq_false h]; decide) ?_
      rw [decide_eq_false (fun q => h (fun x hx => q x (List.take_subset_take_left l (Nat.le_succ j) hx)))] at hi
      exact hi
theorem BatchRight (l : List OpS) (_ : l.length ≤ maxLen) (hl : l.length * 40 ≤ 140737488351232) (hw : ∀ o ∈ l, (Lit.int .u8 o.f0).wf = true ∧ o.f1.size ≤ maxLen ∧ o.f2.size ≤ maxLen)
    (o : List OpS) (_ : o.length ≤ maxLen) (hol : o.length * 40 ≤ 140737488351232) (how : ∀ x ∈ o, (Lit.int .u8 x.f0).wf = true ∧ x.f1.size ≤ maxLen ∧ x.f2.size ≤ maxLen)
    (at_ : Int) (hat : (Lit.int .u8 at_).wf = true) : ∃ k, ratlinelaw04_BatchRight.f k l o at_ = some true := by
  refine Ev.rounds ?_
  have ha : 0 ≤ at_ ∧ at_ < 256 := by
    simp [Lit.wf, IntKind.min, IntKind.max, IntKind.bits, IntKind.signed] at hat
    omega
  have hj : Ev (fun k => ratlinelaw04_BatchRight.j0 k l o at_ true) true := ev_step (fun k => by rw [ratlinelaw04_BatchRight.j0]) (ev_pos rfl awake04')
  unfold ratlinelaw04_BatchRight.f
  refine ev_call (ofew_f l 60 (by omega)) ?_
  by_cases h1 : (decide (∀ e ∈ l, ShortO e) && decide ((l.length : Int) ≤ 60)) = true
  · refine ev_pos h1 (ev_call (ofew_f o 60 (by omega)) ?_)
    by_cases h2 : (decide (∀ e ∈ o, ShortO e) && decide ((o.length : Int) ≤ 60)) = true
    · rw [h2]
      rw [Bool.and_eq_true, decide_eq_true_eq, decide_eq_true_eq] at h1 h2
      refine ev_step (fun k => by rw [ratlinelaw04_BatchRight.j0]) (ev_neg (by decide) ?_)
      have := right_l0 (l := l) (o := o) (by omega) (by omega) at_ ha l.length 0 (by omega)
      rw [List.take_zero, decide_eq_true (by simp)] at this
      exact this
    · rw [Bool.eq_false_iff.2 h2]
      exact hj
  · exact ev_neg h1 hj
end Go.Proofs.Ytlaihdipagejfaa.Pure

end

section
set_option linter.unusedVariables false
namespace Go.Proofs.YtlaihdipagejfaaG
open Go Go.RowKit Go.Proofs.YtlaihdipagejfaaW.PrintWords

/-- What is trodden of this type is of this kind, and is right. -/
def Opens {α : Type} (P : Program) (t : TypeId) (d : Kd α) (wf : α → Prop) : Prop :=
  ∀ (H : Type) (enc : TypeId × Value → H) (w : World) (base : Nat) (sp : Nat → Bool) (held : Bool) (fuel : Nat) (cs : List Value) (x : DataW H × List MemPlace),
    DataW.trod enc P w base sp held fuel t cs = some x → ∃ a, d.K w a cs ∧ wf a
section
variable {P : Program} {t e : TypeId}
theorem opens_int {k : IntKind} (ht : P.underlying t = some (.int k)) : Opens P t (Kd.int k) (fun n => (Lit.int k n).wf = true) := by
  intro H enc w base sp held fuel cs x h
  obtain ⟨n, rfl, _, hw⟩ := DataW.trod_int ht h
  exact ⟨n, rfl, hw⟩
theorem opens_string (ht : P.underlying t = some .string) : Opens P t Kd.string (fun s => s.size ≤ maxLen) := by
  intro H enc w base sp held fuel cs x h
  obtain ⟨n, rfl, _, hm⟩ := DataW.trod_string ht h
  exact ⟨n, rfl, hm⟩
theorem build {α : Type} {Q : Nat → α → Prop} : ∀ n : Nat, (∀ i, i < n → ∃ a, Q i a) → ∃ l : List α, l.length = n ∧ ∀ i a, l[i]? = some a → Q i a := by
  intro n
  induction n with
  | zero => intro _; exact ⟨[], rfl, fun i a h => by simp at h⟩
  | succ n ih =>
    intro h
    obtain ⟨l, hl, hq⟩ := ih (fun i hi => h i (by omega))
    obtain ⟨a, ha⟩ := h n (by omega)
    refine ⟨l ++ [a], by simp [hl], fun i b hb => ?_⟩
    by_cases hi : i < n
    · rw [List.getElem?_append_left (by omega)] at hb
      exact hq i b hb
    · rw [List.getElem?_append_right (by omega)] at hb
      by_cases hin : i = n
      · subst hin
        rw [hl, Nat.sub_self] at hb
        simp at hb
        exact hb ▸ ha
      · rw [List.getElem?_eq_none (by simp; omega)] at hb
        cases hb
theorem opens_row {α : Type} {d : Kd α} {wf : α → Prop} (hc : P.cellsOf e = d.sz) (ht : P.underlying t = some (.slice e)) (he : Opens P e d wf)
    {H : Type} {enc : TypeId × Value → H} {w : World} {base : Nat} {sp : Nat → Bool} {held : Bool} {fuel : Nat} {cs : List Value} {x : DataW H × List MemPlace} (h : DataW.trod enc P w base sp held fuel t cs = some x) :
    ∃ (A : Option Addr) (c : Nat) (xs : List α), cs = [.slice A xs.length c] ∧ xs.length ≤ c ∧ c ≤ maxLen ∧ d.C w A xs.length xs ∧ ∀ a ∈ xs, wf a := by
  rcases DataW.trod_slice ht h with ⟨rfl, _⟩ | ⟨ad, len, cap, elems, rest, n, _, rfl, _, hb, hl, hm, hn, hel, _, _⟩
  · exact ⟨none, 0, [], rfl, Nat.le_refl _, by decide, Kd.C_nil d w, fun a ha => by cases ha⟩
  · obtain ⟨xs, hxl, hx⟩ := build (Q := fun i a => wf a ∧ ∃ c, c.length = d.sz ∧ d.K w a c ∧ ∀ j u, c[j]? = some u → w.cell? (ad.add (i * d.sz + j)) = some u) len (fun i hi => by
      have h1 := hel i hi
      rw [List.getElem?_eq_getElem (by omega)] at h1
      obtain ⟨cs', hcs, htr⟩ := Option.bind_eq_some_iff.1 h1
      obtain ⟨a, ha, hw⟩ := he H enc w base sp held n cs' _ htr
      have hlen := d.K_len ha
      obtain ⟨_, hlen2, hcell⟩ := World.cells?_some hcs
      refine ⟨a, hw, cs', hlen, ha, fun j u hj => ?_⟩
      have hjl : j < cs'.length := by
        by_cases hjl : j < cs'.length
        · exact hjl
        · rw [List.getElem?_eq_none (by omega)] at hj; cases hj
      have h2 := hcell j (by omega)
      rw [hc] at h2
      have hadd : (ad.add (i * d.sz)).add j = ad.add (i * d.sz + j) := Addr.add_add ad _ _
      rw [← hadd, h2, hj])
    have hmax : maxLen ≤ 9223372036854775807 := by decide
    refine ⟨some ad, cap, xs, by rw [hxl], by omega, hm, ⟨rfl, by omega, fun _ => ⟨ad, rfl, fun j p hp => (hx j p hp).2⟩⟩, fun a ha => ?_⟩
    obtain ⟨i, hi⟩ := List.mem_iff_getElem?.1 ha
    exact (hx i a hi).1
theorem Opens.iso {α β : Type} {d : Kd α} {wf : α → Prop} (h : Opens P t d wf) (f : β → α) (g : α → β) (hfg : ∀ a, f (g a) = a) : Opens P t (Kd.iso d f) (fun b => wf (f b)) := by
  intro H enc w base sp held fuel cs x htr
  obtain ⟨a, ha, hw⟩ := h H enc w base sp held fuel cs x htr
  exact ⟨g a, by show d.K w (f (g a)) cs; rw [hfg]; exact ha, by show wf (f (g a)); rw [hfg]; exact hw⟩
end

/-- A field of a struct. -/
theorem opens_field {α : Type} {P : Program} {t e : TypeId} {fs : Array Field} {d : Kd α} {wf : α → Prop} {off i : Nat} {f : Field} (ht : P.underlying t = some (.struct fs)) (hi : fs[i]? = some f) (hft : f.type = e) (hfo : f.offset = off) (hc : P.cellsOf e = d.sz) (he : Opens P e d wf)
    {H : Type} {enc : TypeId × Value → H} {w : World} {base : Nat} {sp : Nat → Bool} {held : Bool} {fuel : Nat} {cs : List Value} {x : DataW H × List MemPlace} (h : DataW.trod enc P w base sp held fuel t cs = some x) :
    ∃ a, d.K w a ((cs.drop off).take d.sz) ∧ wf a := by
  obtain ⟨xs, n, _, _, _, hn, hf⟩ := DataW.trod_struct ht h
  have h1 := hf i f hi
  have hil : i < xs.length := by
    rw [hn]
    exact (Array.getElem?_eq_some_iff.1 hi).1
  rw [List.getElem?_eq_getElem hil, hft, hfo, hc] at h1
  exact he H enc w base sp held n _ _ h1
theorem opens_cells {P : Program} {t : TypeId} {fs : Array Field} (ht : P.underlying t = some (.struct fs)) {H : Type} {enc : TypeId × Value → H} {w : World} {base : Nat} {sp : Nat → Bool} {held : Bool} {fuel : Nat} {cs : List Value} {x : DataW H × List MemPlace} (h : DataW.trod enc P w base sp held fuel t cs = some x) :
    cs.length = P.cellsOf t := by
  obtain ⟨xs, n, _, _, hl, _⟩ := DataW.trod_struct ht h
  exact hl
theorem opens_struct3 {α β γ : Type} {P : Program} {t ta tb tc : TypeId} {fs : Array Field} {a : Kd α} {b : Kd β} {c : Kd γ} {wa : α → Prop} {wb : β → Prop} {wc : γ → Prop} (ht : P.underlying t = some (.struct fs)) (hc : P.cellsOf t = a.sz + (b.sz + c.sz))
    (f0 : (fs[0]?).map (fun f => (f.type, f.offset)) = some (ta, 0)) (f1 : (fs[1]?).map (fun f => (f.type, f.offset)) = some (tb, a.sz)) (f2 : (fs[2]?).map (fun f => (f.type, f.offset)) = some (tc, a.sz + b.sz)) (ca : P.cellsOf ta = a.sz) (cb : P.cellsOf tb = b.sz) (cc : P.cellsOf tc = c.sz) (oa : Opens P ta a wa) (ob : Opens P tb b wb) (oc : Opens P tc c wc) :
    Opens P t (Kd.pair a (Kd.pair b c)) (fun x => wa x.1 ∧ wb x.2.1 ∧ wc x.2.2) := by
  intro H enc w base sp held fuel cs x h
  obtain ⟨g0, e0, q0⟩ := Option.map_eq_some_iff.1 f0
  obtain ⟨g1, e1, q1⟩ := Option.map_eq_some_iff.1 f1
  obtain ⟨g2, e2, q2⟩ := Option.map_eq_some_iff.1 f2
  simp only [Prod.mk.injEq] at q0 q1 q2
  obtain ⟨x0, k0, w0⟩ := opens_field ht e0 q0.1 q0.2 ca oa h
  obtain ⟨x1, k1, w1⟩ := opens_field ht e1 q1.1 q1.2 cb ob h
  obtain ⟨x2, k2, w2⟩ := opens_field ht e2 q2.1 q2.2 cc oc h
  have hl := opens_cells ht h
  have hsp : (cs.drop (a.sz + b.sz)).take c.sz = (cs.drop a.sz).drop b.sz := by rw [List.take_of_length_le (by rw [List.length_drop]; omega), List.drop_drop]
  rw [List.drop_zero] at k0
  rw [hsp] at k2
  exact ⟨(x0, x1, x2), ⟨cs.take a.sz, cs.drop a.sz, (List.take_append_drop _ _).symm, k0, _, _, (List.take_append_drop b.sz _).symm, k1, k2⟩, w0, w1, w2⟩
/-- A row's slice is no longer than its weight allows. -/
theorem sized_row {H : Type} {enc : TypeId × Value → H} {P : Program} {W : World} {base : Nat} {spare : Nat → Bool} {held : Bool} {t e : TypeId} {a : Option Addr} {len cap : Nat} {d : DataW H} {ps : List MemPlace} {ts : List TypeId} {ds : List (DataW H)} {j : Nat}
    (hsz : (DataW.weightsEach P ts ds).all (· ≤ reachBytes) = true) (ht : ts[j]? = some t) (hd : ds[j]? = some d) (hu : P.underlying t = some (.slice e)) (B : Nat) (hB : P.bytesOf e = B)
    (h : DataW.Trod enc P W base spare held t (.slice a len cap) d ps) : len * B ≤ 140737488351232 := by
  obtain ⟨fuel, hf⟩ := h
  rcases DataW.trod_slice hu hf with ⟨hcs, _⟩ | ⟨ad, l, c, elems, rest, n, _, hcs, hx, _, _, _, hn, _⟩
  · simp only [Value.cells, List.cons.injEq, Value.slice.injEq, and_true] at hcs
    obtain ⟨rfl, rfl, rfl⟩ := hcs
    rw [Nat.zero_mul]; omega
  · simp only [Value.cells, List.cons.injEq, Value.slice.injEq, and_true] at hcs
    obtain ⟨rfl, rfl, rfl⟩ := hcs
    obtain ⟨hx, _⟩ := Prod.mk.inj hx
    subst hx
    have z := sized_slice hsz ht hd hu
    rw [hB, List.length_map, List.length_map] at z
    exact Nat.le_trans (Nat.mul_le_mul_right _ (by omega)) z
end Go.Proofs.YtlaihdipagejfaaG

end

section
set_option linter.unusedVariables false
namespace Go.Proofs.Ytlaihdipagejfaa.batchRight
open Go Go.ChangeShapes Go.WideShapes Go.ChangeAt Go.RowKit Go.Proofs.YtlaihdipagejfaaG Go.Proofs.Ytlaihdipagejfaa.P Go.Proofs.YtlaihdipagejfaaW.PrintWords
open Go.ChangeMaps (open_string shut_string)
theorem own : ownKnob Try.prog.godebug = none := by kernel_rfl
theorem laidOut : laidOutB Try.prog = true := by kernel_rfl
set_option maxRecDepth 100000 in
theorem lifted (os : Os) (started : os.Started) (H : Type) (enc : TypeId × Value → H) :
    ReturnsInHanded {} Try.checked os 7 .any (Rows.batchRightSpec.pre6 enc Try.prog Try.f7 Rows.batchRightRow.domain false) (Rows.batchRightSpec.post enc Try.prog Try.f7 false true false false) := by
  refine returnsInHanded_of_change_sized (C := Try.checked) own started (by kernel_rfl) Try.func7
    (ChangeSpec.witness6 (enc := enc) (C := Try.checked) false ⟨#[], #[.slice none 0 0, .slice none 0 0, .int .u8 0], []⟩ 8 (by kernel_rfl) (by kernel_rfl) (by kernel_rfl) (by kernel_rfl)) ?_
  intro W base args ds gs before hval0 hW hcnd hsz0 _
  have hsz : (DataW.weightsEach Try.prog (Try.f7.params.toList ++ Rows.batchRightSpec.plain.varTypes Try.prog) (ds ++ gs)).all (· ≤ reachBytes) = true := hsz0
  have hval : ∀ (j : Nat) t v, Try.f7.params[j]? = some t → args[j]? = some v → Value.okWide Try.prog W .any base t v := hval0
  have hW' := hW
  obtain ⟨p, q, hA0, hV, rfl, hfz, hnd⟩ := hW
  have hA : DataW.TrodAll enc Try.prog W 0 (fun _ => true) true Try.f7.params.toList args.toList ds p := hA0
  rw [Try.params7] at hA hval hsz
  obtain ⟨v0, vs0, d0, ds0, p0, q0, hargs, rfl, rfl, h0, r0⟩ := trodAll_cons hA
  obtain ⟨v1, vs1, d1, ds1, p1, q1, rfl, rfl, rfl, h1, r1⟩ := trodAll_cons r0
  obtain ⟨v2, vs2, d2, ds2, p2, q2, rfl, rfl, rfl, h2, r2⟩ := trodAll_cons r1
  obtain ⟨rfl, rfl, rfl⟩ := trodAll_nil r2
  obtain rfl : args = #[v0, v1, v2] := by cases args; simp_all
  obtain ⟨rfl, rfl⟩ := trodVars_none hV
  obtain ⟨a0, len0, cap0, rfl⟩ := okWide_slice Try.underlying22 (hval 0 22 v0 rfl rfl)
  have k0 := h0
  have y0 := sized_row hsz (j := 0) (t := 22) rfl rfl Try.underlying22 40 (by kernel_rfl) h0
  have lt0 : ∀ x ∈ p0, x.block < W.heap.size := by obtain ⟨m, hm⟩ := k0; exact DataW.trod_lt m _ _ _ hm
  obtain ⟨fuel0, hf0⟩ := h0
  obtain ⟨A0, c0, l0, hcs0, hl0, hm0, hC0, hw0⟩ := opens_row (by kernel_rfl) Try.underlying22 (show Opens Try.prog 43 k43 _ from Opens.iso (opens_struct3 (ta := 5) (tb := 9) (tc := 9) Try.underlying43 (by kernel_rfl) (by kernel_rfl) (by kernel_rfl) (by kernel_rfl) (by kernel_rfl) (by kernel_rfl) (by kernel_rfl) (opens_int Try.underlying5) (opens_string Try.underlying9) (opens_string Try.underlying9)) (fun x : S43 => (x.f0, x.f1, x.f2)) (fun q => ⟨q.1, q.2.1, q.2.2⟩) (fun _ => rfl)) hf0
  simp only [Value.cells, List.cons.injEq, Value.slice.injEq, and_true] at hcs0
  obtain ⟨rfl, rfl, rfl⟩ := hcs0
  obtain ⟨a1, len1, cap1, rfl⟩ := okWide_slice Try.underlying22 (hval 1 22 v1 rfl rfl)
  have k1 := h1
  have y1 := sized_row hsz (j := 1) (t := 22) rfl rfl Try.underlying22 40 (by kernel_rfl) h1
  have lt1 : ∀ x ∈ p1, x.block < W.heap.size := by obtain ⟨m, hm⟩ := k1; exact DataW.trod_lt m _ _ _ hm
  obtain ⟨fuel1, hf1⟩ := h1
  obtain ⟨A1, c1, l1, hcs1, hl1, hm1, hC1, hw1⟩ := opens_row (by kernel_rfl) Try.underlying22 (show Opens Try.prog 43 k43 _ from Opens.iso (opens_struct3 (ta := 5) (tb := 9) (tc := 9) Try.underlying43 (by kernel_rfl) (by kernel_rfl) (by kernel_rfl) (by kernel_rfl) (by kernel_rfl) (by kernel_rfl) (by kernel_rfl) (opens_int Try.underlying5) (opens_string Try.underlying9) (opens_string Try.underlying9)) (fun x : S43 => (x.f0, x.f1, x.f2)) (fun q => ⟨q.1, q.2.1, q.2.2⟩) (fun _ => rfl)) hf1
  simp only [Value.cells, List.cons.injEq, Value.slice.injEq, and_true] at hcs1
  obtain ⟨rfl, rfl, rfl⟩ := hcs1
  obtain ⟨a2, rfl, rfl, rfl, w2⟩ := open_int Try.underlying5 (hval 2 5 v2 rfl rfl) h2
  obtain ⟨k, h⟩ := Pure.BatchRight l0 (Nat.le_trans hl0 hm0) y0 hw0 l1 (Nat.le_trans hl1 hm1) y1 hw1 a2 w2
  clear hA0 hval0 hsz0 hsz
  refine (P.ratlinelaw04_BatchRight.calls k _ _ l0 _ _ l1 a2 true W hC0 hl0 hC1 hl1 h).mono fun e W' ⟨he, bel⟩ => ?_
  subst he
  exact ⟨_, rfl, _, _, _, [], _, [], hW', trodAll_mk1 (shut_bool Try.underlying4 _), (trodAll_cons_mk (Below.trod laidOut (by kernel_rfl) (of_decide_eq_true (by kernel_rfl)) k0 bel lt0) (trodAll_cons_mk (Below.trod laidOut (by kernel_rfl) (of_decide_eq_true (by kernel_rfl)) k1 bel lt1) (trodAll_cons_mk (shut_int Try.underlying5 w2) trodAll_mk0))), rfl, bel.frame _, fun h => by cases h⟩
theorem over : Rows.batchRightRow.holds Try.pinned (OpenSpec.ofChange Rows.batchRightSpec) :=
  OpenClaim.holds_of_wide 7 Try.f7 rfl rfl rfl rfl rfl rfl rfl ⟨rfl, rfl, rfl, rfl, rfl⟩ rfl rfl rfl rfl rfl (by kernel_rfl) Try.func7 (by kernel_rfl)
    (of_decide_eq_true (by kernel_rfl)) (by unfold Func.isWrapper; first | (rw [if_pos (by decide +kernel)]; kernel_rfl) | (rw [if_neg (by decide +kernel)]; exact ⟨rfl, rfl⟩))
    (fun os started H enc _ => lifted os started H enc)
theorem proved : Rows.BatchRightSaid := over
#print axioms proved
end Go.Proofs.Ytlaihdipagejfaa.batchRight
namespace Go.Proofs.Ytlaihdipagejfaa
/-- The row, under a short name, for the claim. -/
theorem batchRight_holds : Rows.BatchRightSaid := batchRight.proved
end Go.Proofs.Ytlaihdipagejfaa

end
