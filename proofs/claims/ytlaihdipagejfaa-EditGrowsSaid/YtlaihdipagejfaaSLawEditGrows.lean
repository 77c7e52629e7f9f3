/- Proved here: the row of EditGrows, and what it needs. Conditions: those of each theorem. Written for this claim by programs; what the claim does not use is left out. -/
import Derived.ChangeArms
import Derived.DataReads
import Derived.DataElems
import Derived.OpenShut
import Derived.SizedLaws
import Derived.Test.YtlaihdipagejfaaRows
import Derived.WalkKit
import Derived.ProofKit
import Derived.ShutString
import Derived.ChangeOld
import Derived.Below
import Derived.Test.YtlaihdipagejfaaSEditGrows4
section
set_option linter.unusedVariables false
set_option linter.unusedSimpArgs false
namespace Go.Proofs.YtlaihdipagejfaaL
open Go Go.RowKit Go.Proofs.YtlaihdipagejfaaG Go.Proofs.Ytlaihdipagejfaa.P Go.Proofs.YtlaihdipagejfaaW.PrintWords Go.Proofs.YtlaihdipagejfaaW.PrintMore

instance decMeta : DecidableEq MetaS := fun x y => decidable_of_iff (x.f0 = y.f0 ∧ x.f1 = y.f1 ∧ x.f2 = y.f2 ∧ x.f3 = y.f3) (by cases x; cases y; simp)
theorem rd_meta (l : List MetaS) {j : Nat} (h : j < l.length) : rd_T62 l (j : Int) = l[j] := getD_at h
theorem meta_ne (x y : MetaS) : ((!((x.f0) == (y.f0)) || (!((x.f1) == (y.f1)) || (!(((x.f2).toList) == ((y.f2).toList)) || (!(((x.f3).toList) == ((y.f3).toList)))))) = true) ↔ x ≠ y := by
  obtain ⟨x0, x1, x2, x3⟩ := x
  obtain ⟨y0, y1, y2, y3⟩ := y
  simp only [Bool.or_eq_true, Bool.not_eq_true', beq_eq_false_iff_ne, ne_eq, ba_eq_iff, S62.mk.injEq]
  constructor
  · rintro (h | h | h | h) ⟨h0, h1, h2, h3⟩
    · exact h h0
    · exact h h1
    · exact h h2
    · exact h h3
  · intro h
    by_cases h0 : x0 = y0
    · by_cases h1 : x1 = y1
      · by_cases h2 : x2 = y2
        · exact .inr (.inr (.inr (fun h3 => h ⟨h0, h1, h2, h3⟩)))
        · exact .inr (.inr (.inl h2))
      · exact .inr (.inl h1)
    · exact .inl h0
theorem metas_loop (a b : List MetaS) (hl : a.length = b.length) (hm : a.length < 9223372036854775800) :
    ∀ (m j : Nat), j + m = a.length → Ev (fun k => api_Meta_61.l0 k a b (a.length : Int) (j : Int)) (decide (a.drop j = b.drop j)) := by
  intro m
  induction m with
  | zero =>
    intro j hj
    obtain rfl : j = a.length := by omega
    refine ev_step (fun k => by rw [api_Meta_61.l0, if_neg (Int.lt_irrefl _)]) ?_
    rw [List.drop_length, hl, List.drop_length]
    simpa using ev_some _
  | succ m ih =>
    intro j hj
    have ha : j < a.length := by omega
    have hb : j < b.length := by omega
    refine ev_step (fun k => by rw [api_Meta_61.l0, if_pos (by omega), if_pos (by omega), if_pos (by omega), if_pos (by omega), rd_meta a ha, rd_meta b hb, up1 (by omega)]) ?_
    rw [List.drop_eq_getElem_cons ha, List.drop_eq_getElem_cons hb]
    by_cases h : a[j] = b[j]
    · refine ev_neg (fun q => (meta_ne _ _).1 q h) ?_
      rw [show decide (a[j] :: a.drop (j + 1) = b[j] :: b.drop (j + 1)) = decide (a.drop (j + 1) = b.drop (j + 1)) from decide_eq_decide.2 ⟨fun q => (List.cons.inj q).2, fun q => by rw [h, q]⟩]
      exact ih (j + 1) (by omega)
    · refine ev_pos ((meta_ne _ _).2 h) ?_
      rw [decide_eq_false (fun q => h (List.cons.inj q).1)]
      exact ev_some _
theorem metas_f (a b : List MetaS) (hm : a.length < 9223372036854775800) : Ev (fun k => api_Meta_61.f k a b) (decide (a = b)) := by
  unfold api_Meta_61.f
  by_cases hl : a.length = b.length
  · refine ev_pos (by omega) ?_
    have := metas_loop a b hl hm a.length 0 (by omega)
    rwa [List.drop_zero, List.drop_zero] at this
  · refine ev_neg (by omega) ?_
    rw [decide_eq_false (fun e => hl (by rw [e]))]
    exact ev_some _
/-- The same edit. -/
def sameE (l : List MetaS) (a b c : Int) (l' : List MetaS) (a' b' c' : Int) : Prop := l = l' ∧ a = a' ∧ b = b' ∧ c = c'
instance decSameE (l : List MetaS) (a b c : Int) (l' : List MetaS) (a' b' c' : Int) : Decidable (sameE l a b c l' a' b' c') := inferInstanceAs (Decidable (_ ∧ _ ∧ _ ∧ _))
theorem sameE_refl (l : List MetaS) (a b c : Int) : sameE l a b c l a b c := ⟨rfl, rfl, rfl, rfl⟩
theorem esameE_ev (l : List MetaS) (a b c : Int) (l' : List MetaS) (a' b' c' : Int) (hm : l.length < 9223372036854775800) : Ev (fun k => edit_Same.f k l a b c l' a' b' c') (decide (sameE l a b c l' a' b' c')) := by
  unfold edit_Same.f
  refine ev_call (metas_f l l' hm) ?_
  by_cases h0 : l = l'
  · refine ev_pos (decide_eq_true h0) ?_
    by_cases h1 : a = a'
    · refine ev_pos h1 ?_
      by_cases h2 : b = b'
      · refine ev_pos h2 ?_
        rw [show (c == c') = decide (sameE l a b c l' a' b' c') from by
          by_cases h3 : c = c'
          · rw [decide_eq_true (show sameE l a b c l' a' b' c' from ⟨h0, h1, h2, h3⟩), beq_iff_eq.2 h3]
          · rw [decide_eq_false (fun q : sameE l a b c l' a' b' c' => h3 q.2.2.2), beq_eq_false_iff_ne.2 h3]]
        exact ev_some _
      · refine ev_neg h2 ?_
        rw [decide_eq_false (fun q : sameE l a b c l' a' b' c' => h2 q.2.2.1)]
        exact ev_some _
    · refine ev_neg h1 ?_
      rw [decide_eq_false (fun q : sameE l a b c l' a' b' c' => h1 q.2.1)]
      exact ev_some _
  · refine ev_neg (by rw [decide_eq_false h0]; decide) ?_
    rw [decide_eq_false (fun q : sameE l a b c l' a' b' c' => h0 q.1)]
    exact ev_some _
theorem whole_f (l : List MetaS) (a b c : Int) (hl : l.length < 2932031007402) : edit_Whole.f l a b c = some (l, a, b, c) := by
  unfold edit_Whole.f
  exact bind1 (show api_Meta_57.f l = some l from if_pos hl) rfl
theorem apply_eq {l0 : List MetaS} {a b c : Int} {l1 : List MetaS} {d e f : Int} (hw : WfE l1 d e f) (hl : l0.length ≤ 1000000) : edit_Apply.f l0 a b c l1 d e f = some (if okB l0 a b c l1 d e f = true then (l0 ++ l1, mx a d, mx b e, mx c f, 0) else (l0, a, b, c, 90)) := by
  unfold edit_Apply.f
  rw [if_pos ⟨hw, by omega⟩]
end Go.Proofs.YtlaihdipagejfaaL

end

section
set_option linter.unusedVariables false
set_option linter.unusedSimpArgs false
namespace Go.Proofs.YtlaihdipagejfaaL
open Go Go.RowKit Go.Proofs.YtlaihdipagejfaaG Go.Proofs.Ytlaihdipagejfaa.P Go.Proofs.YtlaihdipagejfaaW.PrintWords Go.Proofs.YtlaihdipagejfaaW.PrintMore

theorem rsame_loop (a b : List MetaS) (p q s p' q' s' : Int) (hl : a.length = b.length) (hm : a.length < 9223372036854775800) :
    ∀ (m j : Nat), j + m = a.length → Ev (fun k => ratlineref09_Same.l0 k (j : Int) a p q s b p' q' s') (decide (a.drop j = b.drop j)) := by
  intro m
  induction m with
  | zero =>
    intro j hj
    obtain rfl : j = a.length := by omega
    refine ev_step (fun k => by rw [ratlineref09_Same.l0, if_neg (Int.lt_irrefl _)]) ?_
    rw [List.drop_length, hl, List.drop_length]
    simpa using ev_some _
  | succ m ih =>
    intro j hj
    have ha : j < a.length := by omega
    have hb : j < b.length := by omega
    refine ev_step (fun k => by rw [ratlineref09_Same.l0, if_pos (by omega), if_pos (by omega), if_pos (by omega), rd_meta a ha, rd_meta b hb, up1 (by omega)]) ?_
    rw [List.drop_eq_getElem_cons ha, List.drop_eq_getElem_cons hb]
    by_cases h : a[j] = b[j]
    · refine ev_neg (fun q => (meta_ne _ _).1 q h) ?_
      rw [show decide (a[j] :: a.drop (j + 1) = b[j] :: b.drop (j + 1)) = decide (a.drop (j + 1) = b.drop (j + 1)) from decide_eq_decide.2 ⟨fun q => (List.cons.inj q).2, fun q => by rw [h, q]⟩]
      exact ih (j + 1) (by omega)
    · refine ev_pos ((meta_ne _ _).2 h) ?_
      rw [decide_eq_false (fun q => h (List.cons.inj q).1)]
      exact ev_some _
theorem rsame_j0 (l : List MetaS) (a b c : Int) (l' : List MetaS) (a' b' c' : Int) : Ev (fun k => ratlineref09_Same.j0 k true l a b c l' a' b' c') false := ev_step (fun k => by rw [ratlineref09_Same.j0]) (ev_pos rfl (ev_some _))
theorem rsame_ev (l : List MetaS) (a b c : Int) (l' : List MetaS) (a' b' c' : Int) (hm : l.length < 9223372036854775800) : Ev (fun k => ratlineref09_Same.f k l a b c l' a' b' c') (decide (sameE l a b c l' a' b' c')) := by
  unfold ratlineref09_Same.f
  by_cases hl : l.length = l'.length
  · refine ev_pos (by omega) ?_
    by_cases h1 : a = a'
    · refine ev_pos h1 ?_
      by_cases h2 : b = b'
      · refine ev_pos h2 ?_
        by_cases h3 : c = c'
        · refine ev_step (f := fun k => ratlineref09_Same.l0 k 0 l a b c l' a' b' c') (fun k => by rw [ratlineref09_Same.j0, if_neg (by rw [h3]; simp)]) ?_
          have h := rsame_loop l l' a b c a' b' c' hl hm l.length 0 (by omega)
          rw [List.drop_zero, List.drop_zero] at h
          rw [show decide (sameE l a b c l' a' b' c') = decide (l = l') from decide_eq_decide.2 ⟨fun q => q.1, fun q => ⟨q, h1, h2, h3⟩⟩]
          exact h
        · rw [decide_eq_false (fun q : sameE l a b c l' a' b' c' => h3 q.2.2.2)]
          rw [show (c != c') = true from by simpa using h3]
          exact rsame_j0 ..
      · refine ev_neg h2 ?_
        rw [decide_eq_false (fun q : sameE l a b c l' a' b' c' => h2 q.2.2.1)]
        exact rsame_j0 ..
    · refine ev_neg h1 ?_
      rw [decide_eq_false (fun q : sameE l a b c l' a' b' c' => h1 q.2.1)]
      exact rsame_j0 ..
  · refine ev_neg (by omega) ?_
    rw [decide_eq_false (fun q : sameE l a b c l' a' b' c' => hl (by rw [q.1]))]
    exact rsame_j0 ..
theorem rwhole_f (l : List MetaS) (a b c : Int) (hl : l.length < 2932031007402) : ratlineref09_Whole.f l a b c = some (l, a, b, c) := by
  unfold ratlineref09_Whole.f
  rw [if_pos (by show 0 + l.length < _; omega)]
  rfl
theorem versions_ev (l : List MetaS) (a b c : Int) (l' : List MetaS) (a' b' c' : Int) (hl : l.length < 2932031007402) (hl' : l'.length < 2932031007402) : Ev (fun k => ratlinelaw09_Versions.f k l a b c l' a' b' c') (decide (sameE l a b c l' a' b' c')) := by
  unfold ratlinelaw09_Versions.f
  refine ev_bind (rwhole_f l a b c hl) ?_
  refine ev_bind (rwhole_f l' a' b' c' hl') ?_
  refine ev_call (rsame_ev l a b c l' a' b' c' (by omega)) ?_
  exact ev_some _

theorem notesB_append : ∀ (l : List MetaS) (p : Option Int) (m : List MetaS), notesB p l = true → notesB none m = true → (∀ x ∈ l.getLast?, ∀ y ∈ m.head?, x.f0 < y.f0) → (l = [] → ∀ y ∈ m.head?, upB p y.f0 = true) → notesB p (l ++ m) = true
  | [], p, m, _, h2, _, h4 => by
    rw [List.nil_append]
    cases m with
    | nil => exact notesB_nil p
    | cons y r =>
      rw [notesB_cons, Bool.and_eq_true, Bool.and_eq_true] at h2 ⊢
      exact ⟨⟨h2.1.1, h4 rfl y rfl⟩, h2.2⟩
  | x :: r, p, m, h1, h2, h3, h4 => by
    rw [List.cons_append]
    rw [notesB_cons, Bool.and_eq_true] at h1 ⊢
    refine ⟨h1.1, notesB_append r (some x.f0) m h1.2 h2 (fun z hz y hy => h3 z ?_ y hy) (fun e y hy => ?_)⟩
    · cases r with
      | nil => simp at hz
      | cons a b => rw [List.getLast?_cons_cons]; exact hz
    · subst e
      exact decide_eq_true (h3 x (by simp) y hy)
theorem notes_rise : ∀ (l : List MetaS) (p : Option Int), notesB p l = true → ∀ (j : Nat) (h : j + 1 < l.length), (l[j]).f0 < (l[j + 1]).f0
  | [], _, _, j, h => by simp at h
  | [x], _, _, j, h => by simp at h
  | x :: y :: r, p, hn, j, h => by
    rw [notesB_cons, Bool.and_eq_true] at hn
    cases j with
    | zero =>
      have := hn.2
      rw [notesB_cons, Bool.and_eq_true, Bool.and_eq_true] at this
      exact of_decide_eq_true this.1.2
    | succ j => exact notes_rise (y :: r) _ hn.2 j (by simpa using h)
theorem getLast_at {l : List MetaS} {x : MetaS} (h : x ∈ l.getLast?) : 0 < l.length ∧ rd_T62 l ((l.length : Int) - 1) = x := by
  rw [List.getLast?_eq_getElem?] at h
  have h : l[l.length - 1]? = some x := h
  obtain ⟨hlt, he⟩ := List.getElem?_eq_some_iff.1 h
  refine ⟨by omega, ?_⟩
  rw [show ((l.length : Int) - 1) = ((l.length - 1 : Nat) : Int) by omega, rd_meta l hlt, he]
theorem head_at {l : List MetaS} {y : MetaS} (h : y ∈ l.head?) : 0 < l.length ∧ rd_T62 l 0 = y := by
  cases l with
  | nil => simp at h
  | cons a r =>
    have : a = y := by simpa using h
    subst this
    exact ⟨by simp, rd_meta (a :: r) (j := 0) (by simp)⟩
theorem mx_up (a b : Int) : a ≤ mx a b := by unfold mx; split <;> omega
theorem mx_le {a b c : Int} (h1 : a ≤ c) (h2 : b ≤ c) : mx a b ≤ c := by unfold mx; split <;> omega
theorem mxU {x w : Int} (hx : U64 x) (hw : U64 w) : U64 (mx x w) := by
  unfold mx
  split <;> assumption
/-- A version that comes of edits. -/
structure Ver (n : Nat) (l : List MetaS) (a b c : Int) : Prop where
  wf : WfE l a b c
  up : notesB none l = true
  seq : b ≤ 72057594037927935
  len : l.length ≤ n
theorem Ver.nil : Ver 0 [] 0 0 0 := ⟨⟨fun m hm => (by cases hm), ⟨by decide, by decide⟩, ⟨by decide, by decide⟩, ⟨by decide, by decide⟩⟩, notesB_nil _, by decide, by simp⟩
theorem Ver.mono {n m : Nat} {l : List MetaS} {a b c : Int} (h : Ver n l a b c) (hm : n ≤ m) : Ver m l a b c := ⟨h.wf, h.up, h.seq, Nat.le_trans h.len hm⟩
theorem okB_right {l : List MetaS} {a b c : Int} {m : List MetaS} {d e f : Int} (h : okB l a b c m d e f = true) : rightB m d e f = true := by
  unfold okB at h
  simp only [Bool.and_eq_true] at h
  exact h.1.1.1.1
theorem rightB_parts {m : List MetaS} {d e f : Int} (h : rightB m d e f = true) : notesB none m = true ∧ m.length ≤ 64 ∧ e ≤ 72057594037927935 := by
  unfold rightB at h
  simp only [Bool.and_eq_true, decide_eq_true_eq] at h
  exact ⟨h.1, h.2.1.1, h.2.1.2⟩
theorem Ver.apply {n : Nat} {l : List MetaS} {a b c : Int} {m : List MetaS} {d e f : Int} (h : Ver n l a b c) (hw : WfE m d e f) (ho : okB l a b c m d e f = true) : Ver (n + 64) (l ++ m) (mx a d) (mx b e) (mx c f) := by
  obtain ⟨h1, h2, h3⟩ := rightB_parts (okB_right ho)
  have hlow : lowB l m = false := by
    unfold okB at ho
    simp only [Bool.and_eq_true, Bool.not_eq_true'] at ho
    exact ho.2
  refine ⟨⟨fun x hx => ?_, mxU h.wf.2.1 hw.2.1, mxU h.wf.2.2.1 hw.2.2.1, mxU h.wf.2.2.2 hw.2.2.2⟩, ?_, mx_le h.seq h3, by rw [List.length_append]; have := h.len; omega⟩
  · rcases List.mem_append.1 hx with hx | hx
    · exact h.wf.1 x hx
    · exact hw.1 x hx
  · refine notesB_append l none m h.up h1 (fun x hx y hy => ?_) (fun _ y _ => rfl)
    obtain ⟨q1, q2⟩ := getLast_at hx
    obtain ⟨q3, q4⟩ := head_at hy
    unfold lowB at hlow
    rw [decide_eq_true q1, decide_eq_true q3, q2, q4, Bool.true_and, Bool.true_and] at hlow
    have := of_decide_eq_false hlow
    omega
/-- All of a version, as an edit, may be applied to that of nothing. -/
theorem fallsB_zero {x : Int} (h : U64 x) : fallsB 0 x = false := by
  unfold fallsB
  by_cases h1 : 0 < x
  · rw [decide_eq_true h1, Bool.true_and]
    exact decide_eq_false (by omega)
  · rw [decide_eq_false h1, Bool.false_and]
theorem lowB_nil (l : List MetaS) : lowB [] l = false := by unfold lowB; simp
theorem okB_nil {l : List MetaS} {a b c : Int} (h : WfE l a b c) : okB [] 0 0 0 l a b c = rightB l a b c := by
  unfold okB
  rw [fallsB_zero h.2.1, fallsB_zero h.2.2.1, fallsB_zero h.2.2.2, lowB_nil]
  simp
theorem mx0 {x : Int} (h : U64 x) : mx 0 x = x := by
  have h1 := h.1
  unfold mx
  split <;> omega
theorem Ver.right {n : Nat} {l : List MetaS} {a b c : Int} (h : Ver n l a b c) (hl : l.length ≤ 64) (hs : ¬ sameE l a b c [] 0 0 0) : rightB l a b c = true := by
  unfold rightB
  rw [h.up, decide_eq_true hl, decide_eq_true h.seq, Bool.true_and, Bool.true_and, Bool.true_and]
  by_cases h0 : 0 < l.length
  · rw [decide_eq_true h0]; rfl
  · have h0 : l = [] := by cases l with | nil => rfl | cons _ _ => exact absurd (Nat.succ_pos _) h0
    by_cases h1 : a = 0
    · by_cases h2 : b = 0
      · by_cases h3 : c = 0
        · exact absurd ⟨h0, h1, h2, h3⟩ hs
        · rw [decide_eq_true h3, Bool.or_true]
      · rw [decide_eq_true h2, Bool.or_true, Bool.true_or]
    · rw [decide_eq_true h1, Bool.or_true, Bool.true_or, Bool.true_or]
theorem Ver.whole {n : Nat} {l : List MetaS} {a b c : Int} (h : Ver n l a b c) (hl : l.length ≤ 64) (hs : ¬ sameE l a b c [] 0 0 0) : edit_Apply.f [] 0 0 0 l a b c = some (l, a, b, c, 0) := by
  rw [apply_eq h.wf (by simp), okB_nil h.wf, h.right hl hs, if_pos rfl, List.nil_append, mx0 h.wf.2.1, mx0 h.wf.2.2.1, mx0 h.wf.2.2.2]
end Go.Proofs.YtlaihdipagejfaaL

end

section
set_option linter.unusedVariables false
set_option linter.unusedSimpArgs false
namespace Go.Proofs.Ytlaihdipagejfaa.Pure
open Go Go.RowKit Go.Proofs.Ytlaihdipagejfaa.P Go.Proofs.YtlaihdipagejfaaG Go.Proofs.YtlaihdipagejfaaL Go.Proofs.YtlaihdipagejfaaW.PrintWords Go.Proofs.YtlaihdipagejfaaW.PrintMore Go.Proofs.YtlaihdipagejfaaW.PrintLast

theorem awake_g : Ev (fun _ : Nat => (ratlinelaw09_awake.f).bind fun t => some t) true := ev_some true
theorem rd_edit (l : List EdS) {j : Nat} (h : j < l.length) : rd_T54 l (j : Int) = l[j] := getD_at h
theorem down1 (j : Nat) (h : j < 1000000) : wrap64 (((j + 1 : Nat) : Int) - 1) = (j : Int) := by unfold wrap64; omega
theorem grows_l1 (L : List EdS) (n i : Int) (lv m : List MetaS) (p q s p' q' s' : Int) (hl : (lv ++ m).length ≤ 10000) (hr : notesB none (lv ++ m) = true)
    (h0 : Ev (fun k => ratlinelaw09_EditGrows.l0 k L n (wrap64 (i + 1)) (lv ++ m) p' q' s') true) :
    ∀ (d j : Nat), j + d = (lv ++ m).length → Ev (fun k => ratlinelaw09_EditGrows.l1 k L n i (lv ++ m) ((lv ++ m).length : Int) (j : Int) lv p q s (lv ++ m) p' q' s') true := by
  intro d
  induction d with
  | zero =>
    intro j hj
    obtain rfl : j = (lv ++ m).length := by omega
    exact ev_step (fun k => by rw [ratlinelaw09_EditGrows.l1, if_neg (Int.lt_irrefl _)]) h0
  | succ d ih =>
    intro j hj
    have hlt : j < (lv ++ m).length := by omega
    have h := ih (j + 1) (by omega)
    have hz : wrap64 ((j : Int) + 1) = ((j + 1 : Nat) : Int) := up1 (by omega)
    have hrise : ∀ (A : Nat → Option Bool), Ev A true → Ev (fun k => if (j : Int) > 0 then (if 0 ≤ wrap64 ((j : Int) - 1) then (if wrap64 ((j : Int) - 1) < ((lv ++ m).length : Int) then (if (rd_T62 (lv ++ m) (wrap64 ((j : Int) - 1))).f0 ≥ (rd_T62 (lv ++ m) (j : Int)).f0 then none else A k) else none) else none) else A k) true := by
      intro A hA
      cases j with
      | zero => exact ev_neg (by simp) hA
      | succ j =>
        refine ev_pos (by omega) ?_
        rw [down1 j (by omega)]
        refine ev_pos (by omega) (ev_pos (by omega) (ev_neg ?_ hA))
        rw [rd_meta (lv ++ m) (j := j) (by omega), rd_meta (lv ++ m) hlt]
        have := notes_rise (lv ++ m) none hr j hlt
        omega
    by_cases hv : j < lv.length
    · refine ev_step (f := fun k => if (j : Int) > 0 then (if 0 ≤ wrap64 ((j : Int) - 1) then (if wrap64 ((j : Int) - 1) < ((lv ++ m).length : Int) then (if (rd_T62 (lv ++ m) (wrap64 ((j : Int) - 1))).f0 ≥ (rd_T62 (lv ++ m) (j : Int)).f0 then none else ratlinelaw09_EditGrows.l1 k L n i (lv ++ m) ((lv ++ m).length : Int) (wrap64 ((j : Int) + 1)) lv p q s (lv ++ m) p' q' s') else none) else none) else ratlinelaw09_EditGrows.l1 k L n i (lv ++ m) ((lv ++ m).length : Int) (wrap64 ((j : Int) + 1)) lv p q s (lv ++ m) p' q' s') (fun k => by
        rw [ratlinelaw09_EditGrows.l1, if_pos (by omega), if_pos (by omega), if_pos (by omega), if_pos (by omega), if_neg (fun z => (meta_ne _ _).1 z (by rw [rd_meta (lv ++ m) hlt, rd_meta lv hv, List.getElem_append_left hv]))]) ?_
      exact hrise _ (by rw [hz]; exact h)
    · refine ev_step (f := fun k => if (j : Int) > 0 then (if 0 ≤ wrap64 ((j : Int) - 1) then (if wrap64 ((j : Int) - 1) < ((lv ++ m).length : Int) then (if (rd_T62 (lv ++ m) (wrap64 ((j : Int) - 1))).f0 ≥ (rd_T62 (lv ++ m) (j : Int)).f0 then none else ratlinelaw09_EditGrows.l1 k L n i (lv ++ m) ((lv ++ m).length : Int) (wrap64 ((j : Int) + 1)) lv p q s (lv ++ m) p' q' s') else none) else none) else ratlinelaw09_EditGrows.l1 k L n i (lv ++ m) ((lv ++ m).length : Int) (wrap64 ((j : Int) + 1)) lv p q s (lv ++ m) p' q' s') (fun k => by
        rw [ratlinelaw09_EditGrows.l1, if_pos (by omega), if_pos (by omega), if_pos (by omega), if_neg (by omega)]) ?_
      exact hrise _ (by rw [hz]; exact h)
theorem grows_j3 {n : Nat} {l : List MetaS} {a b c : Int} (h : Ver n l a b c) (hn : n ≤ 10000) (t : Bool) (ht : t = false → l.length ≤ 64 ∧ ¬ sameE l a b c [] 0 0 0) : Ev (fun k => ratlinelaw09_EditGrows.j3 k t l a b c l a b c) true := by
  cases t with
  | true => exact ev_step (fun k => by rw [ratlinelaw09_EditGrows.j3]) (ev_pos rfl awake_g)
  | false =>
    obtain ⟨h1, h2⟩ := ht rfl
    refine ev_step (fun k => by rw [ratlinelaw09_EditGrows.j3]) (ev_neg (by decide) ?_)
    refine ev_bind (h.whole h1 h2) ?_
    refine ev_pos rfl ?_
    refine ev_call (versions_ev l a b c l a b c (by omega) (by omega)) ?_
    exact ev_pos (decide_eq_true (sameE_refl _ _ _ _)) awake_g
theorem grows_l0 (L : List EdS) (hL : L.length ≤ 20) (hw : ∀ e ∈ L, WfE e.f0 e.f1 e.f2 e.f3) :
    ∀ (d i : Nat) (l : List MetaS) (a b c : Int), i + d = L.length → Ver (64 * i) l a b c → Ev (fun k => ratlinelaw09_EditGrows.l0 k L (L.length : Int) (i : Int) l a b c) true := by
  intro d
  induction d with
  | zero =>
    intro i l a b c hi h
    obtain rfl : i = L.length := by omega
    refine ev_step (fun k => by rw [ratlinelaw09_EditGrows.l0, if_neg (Int.lt_irrefl _)]) ?_
    have hlen := h.len
    refine ev_bind (whole_f l a b c (by omega)) ?_
    by_cases h64 : (l.length : Int) > 64
    · exact ev_pos h64 (grows_j3 h (by omega) true (fun z => by cases z))
    · refine ev_neg h64 ?_
      refine ev_call (esameE_ev l a b c [] 0 0 0 (by omega)) ?_
      exact grows_j3 h (by omega) _ (fun z => ⟨by omega, of_decide_eq_false z⟩)
  | succ d ih =>
    intro i l a b c hi h
    have hlt : i < L.length := by omega
    have hlen := h.len
    have hwe := hw L[i] (List.getElem_mem hlt)
    have hz : wrap64 ((i : Int) + 1) = ((i + 1 : Nat) : Int) := up1 (by omega)
    refine ev_step (fun k => by rw [ratlinelaw09_EditGrows.l0, if_pos (by omega), if_pos (by omega), if_pos (by omega), rd_edit L hlt]) ?_
    refine ev_bind (apply_eq hwe (by omega)) ?_
    by_cases ho : okB l a b c (L[i]).f0 (L[i]).f1 (L[i]).f2 (L[i]).f3 = true
    · rw [if_pos ho]
      have hr := okB_right ho
      obtain ⟨r1, r2, r3⟩ := rightB_parts hr
      have hv := h.apply hwe ho
      have hvl := hv.len
      have m1 := mx_up a (L[i]).f1
      have m2 := mx_up b (L[i]).f2
      have m3 := mx_up c (L[i]).f3
      refine ev_pos rfl ?_
      refine ev_neg (by show ¬ (mx a (L[i]).f1 < a); omega) ?_
      refine ev_neg (by show ¬ (mx b (L[i]).f2 < b); omega) ?_
      refine ev_neg (by show ¬ (mx c (L[i]).f3 < c); omega) ?_
      refine ev_pos (by
        show (((l ++ (L[i]).f0).length : Nat) : Int) = wrap64 ((l.length : Int) + ((L[i]).f0.length : Int))
        rw [List.length_append]; unfold wrap64; omega) ?_
      refine ev_call (right_ev _ _ _ _ (by omega) hwe) ?_
      rw [hr]
      refine ev_step (fun k => by rw [ratlinelaw09_EditGrows.j1]) ?_
      refine ev_neg (by decide) ?_
      exact grows_l1 L _ _ l (L[i]).f0 a b c _ _ _ (by omega) hv.up (by rw [hz]; exact ih (i + 1) _ _ _ _ (by omega) (hv.mono (by omega))) (l ++ (L[i]).f0).length 0 (by omega)
    · rw [if_neg ho]
      refine ev_neg (show ¬ ((90 : Int) = 0) from by decide) ?_
      refine ev_pos rfl ?_
      refine ev_call (versions_ev l a b c l a b c (by omega) (by omega)) ?_
      refine ev_pos (decide_eq_true (sameE_refl _ _ _ _)) ?_
      rw [hz]
      exact ih (i + 1) l a b c (by omega) (h.mono (by omega))
theorem mn_bounds (n : Nat) : 0 ≤ mn (n : Int) 20 ∧ mn (n : Int) 20 ≤ n ∧ mn (n : Int) 20 ≤ 20 := by
  unfold mn
  split <;> omega
theorem EditGrows (L : List EdS) (_ : L.length ≤ maxLen) (hL : L.length * 48 ≤ 140737488351232) (hw : ∀ e ∈ L, WfI e) : ∃ k, ratlinelaw09_EditGrows.f k L = some true := by
  refine Ev.rounds (g := fun k => ratlinelaw09_EditGrows.f k L) ?_
  unfold ratlinelaw09_EditGrows.f
  obtain ⟨h1, h2, h3⟩ := mn_bounds L.length
  refine ev_pos h1 (ev_pos h2 (ev_bind rfl ?_))
  have hmem : ∀ e ∈ L.take (mn (L.length : Int) 20).toNat, e ∈ L := fun e he => List.mem_of_mem_take he
  have hlen : (L.take (mn (L.length : Int) 20).toNat).length ≤ 20 := by rw [List.length_take]; omega
  generalize L.take (mn (L.length : Int) 20).toNat = M at hmem hlen ⊢
  refine ev_call (few_ev M (by omega) (fun x hx => (hw x (hmem x hx)).len)) ?_
  by_cases hf : M.all fewE = true
  · refine ev_pos hf ?_
    exact grows_l0 M hlen (fun e he => (hw e (hmem e he)).e) M.length 0 [] 0 0 0 (by omega) Ver.nil
  · exact ev_neg hf awake_g
end Go.Proofs.Ytlaihdipagejfaa.Pure

end

section
set_option linter.unusedVariables false
namespace Go.Proofs.YtlaihdipagejfaaG
open Go Go.RowKit Go.Proofs.YtlaihdipagejfaaW.PrintWords

/-- What is trodden of this type is of this kind, and is right. -/
def Opens {α : Type} (P : Program) (t : TypeId) (d : Kd α) (wf : α → Prop) : Prop :=
  ∀ (H : Type) (enc : TypeId × Value → H) (w : World) (base : Nat) (sp : Nat → Bool) (held : Bool) (fuel : Nat) (cs : List Value) (x : DataW H × List MemPlace),
    DataW.trod enc P w base sp held fuel t cs = some x → ∃ a, d.K w a cs ∧ wf a
section
variable {P : Program} {t e : TypeId}
theorem opens_int {k : IntKind} (ht : P.underlying t = some (.int k)) : Opens P t (Kd.int k) (fun n => (Lit.int k n).wf = true) := by
  intro H enc w base sp held fuel cs x h
  obtain ⟨n, rfl, _, hw⟩ := DataW.trod_int ht h
  exact ⟨n, rfl, hw⟩
theorem opens_string (ht : P.underlying t = some .string) : Opens P t Kd.string (fun s => s.size ≤ maxLen) := by
  intro H enc w base sp held fuel cs x h
  obtain ⟨n, rfl, _, hm⟩ := DataW.trod_string ht h
  exact ⟨n, rfl, hm⟩
theorem build {α : Type} {Q : Nat → α → Prop} : ∀ n : Nat, (∀ i, i < n → ∃ a, Q i a) → ∃ l : List α, l.length = n ∧ ∀ i a, l[i]? = some a → Q i a := by
  intro n
  induction n with
  | zero => intro _; exact ⟨[], rfl, fun i a h => by simp at h⟩
  | succ n ih =>
    intro h
    obtain ⟨l, hl, hq⟩ := ih (fun i hi => h i (by omega))
    obtain ⟨a, ha⟩ := h n (by omega)
    refine ⟨l ++ [a], by simp [hl], fun i b hb => ?_⟩
    by_cases hi : i < n
    · rw [List.getElem?_append_left (by omega)] at hb
      exact hq i b hb
    · rw [List.getElem?_append_right (by omega)] at hb
      by_cases hin : i = n
      · subst hin
        rw [hl, Nat.sub_self] at hb
        simp at hb
        exact hb ▸ ha
      · rw [List.getElem?_eq_none (by simp; omega)] at hb
        cases hb
theorem opens_row {α : Type} {d : Kd α} {wf : α → Prop} (hc : P.cellsOf e = d.sz) (ht : P.underlying t = some (.slice e)) (he : Opens P e d wf)
    {H : Type} {enc : TypeId × Value → H} {w : World} {base : Nat} {sp : Nat → Bool} {held : Bool} {fuel : Nat} {cs : List Value} {x : DataW H × List MemPlace} (h : DataW.trod enc P w base sp held fuel t cs = some x) :
    ∃ (A : Option Addr) (c : Nat) (xs : List α), cs = [.slice A xs.length c] ∧ xs.length ≤ c ∧ c ≤ maxLen ∧ d.C w A xs.length xs ∧ ∀ a ∈ xs, wf a := by
  rcases DataW.trod_slice ht h with ⟨rfl, _⟩ | ⟨ad, len, cap, elems, rest, n, _, rfl, _, hb, hl, hm, hn, hel, _, _⟩
  · exact ⟨none, 0, [], rfl, Nat.le_refl _, by decide, Kd.C_nil d w, fun a ha => by cases ha⟩
  · obtain ⟨xs, hxl, hx⟩ := build (Q := fun i a => wf a ∧ ∃ c, c.length = d.sz ∧ d.K w a c ∧ ∀ j u, c[j]? = some u → w.cell? (ad.add (i * d.sz + j)) = some u) len (fun i hi => by
      have h1 := hel i hi
      rw [List.getElem?_eq_getElem (by omega)] at h1
      obtain ⟨cs', hcs, htr⟩ := Option.bind_eq_some_iff.1 h1
      obtain ⟨a, ha, hw⟩ := he H enc w base sp held n cs' _ htr
      have hlen := d.K_len ha
      obtain ⟨_, hlen2, hcell⟩ := World.cells?_some hcs
      refine ⟨a, hw, cs', hlen, ha, fun j u hj => ?_⟩
      have hjl : j < cs'.length := by
        by_cases hjl : j < cs'.length
        · exact hjl
        · rw [List.getElem?_eq_none (by omega)] at hj; cases hj
      have h2 := hcell j (by omega)
      rw [hc] at h2
      have hadd : (ad.add (i * d.sz)).add j = ad.add (i * d.sz + j) := Addr.add_add ad _ _
      rw [← hadd, h2, hj])
    have hmax : maxLen ≤ 9223372036854775807 := by decide
    refine ⟨some ad, cap, xs, by rw [hxl], by omega, hm, ⟨rfl, by omega, fun _ => ⟨ad, rfl, fun j p hp => (hx j p hp).2⟩⟩, fun a ha => ?_⟩
    obtain ⟨i, hi⟩ := List.mem_iff_getElem?.1 ha
    exact (hx i a hi).1
theorem opens_slice {α : Type} {d : Kd α} {wf : α → Prop} (hc : P.cellsOf e = d.sz) (ht : P.underlying t = some (.slice e)) (he : Opens P e d wf) :
    Opens P t (Kd.slice e d) (fun l => l.length ≤ maxLen ∧ ∀ a ∈ l, wf a) := by
  intro H enc w base sp held fuel cs x h
  obtain ⟨A, c, xs, rfl, hl, hm, hC, hw⟩ := opens_row hc ht he h
  exact ⟨xs, ⟨A, c, rfl, hl, hC⟩, by omega, hw⟩
theorem Opens.iso {α β : Type} {d : Kd α} {wf : α → Prop} (h : Opens P t d wf) (f : β → α) (g : α → β) (hfg : ∀ a, f (g a) = a) : Opens P t (Kd.iso d f) (fun b => wf (f b)) := by
  intro H enc w base sp held fuel cs x htr
  obtain ⟨a, ha, hw⟩ := h H enc w base sp held fuel cs x htr
  exact ⟨g a, by show d.K w (f (g a)) cs; rw [hfg]; exact ha, by show wf (f (g a)); rw [hfg]; exact hw⟩
end

/-- A field of a struct. -/
theorem opens_field {α : Type} {P : Program} {t e : TypeId} {fs : Array Field} {d : Kd α} {wf : α → Prop} {off i : Nat} {f : Field} (ht : P.underlying t = some (.struct fs)) (hi : fs[i]? = some f) (hft : f.type = e) (hfo : f.offset = off) (hc : P.cellsOf e = d.sz) (he : Opens P e d wf)
    {H : Type} {enc : TypeId × Value → H} {w : World} {base : Nat} {sp : Nat → Bool} {held : Bool} {fuel : Nat} {cs : List Value} {x : DataW H × List MemPlace} (h : DataW.trod enc P w base sp held fuel t cs = some x) :
    ∃ a, d.K w a ((cs.drop off).take d.sz) ∧ wf a := by
  obtain ⟨xs, n, _, _, _, hn, hf⟩ := DataW.trod_struct ht h
  have h1 := hf i f hi
  have hil : i < xs.length := by
    rw [hn]
    exact (Array.getElem?_eq_some_iff.1 hi).1
  rw [List.getElem?_eq_getElem hil, hft, hfo, hc] at h1
  exact he H enc w base sp held n _ _ h1
theorem opens_cells {P : Program} {t : TypeId} {fs : Array Field} (ht : P.underlying t = some (.struct fs)) {H : Type} {enc : TypeId × Value → H} {w : World} {base : Nat} {sp : Nat → Bool} {held : Bool} {fuel : Nat} {cs : List Value} {x : DataW H × List MemPlace} (h : DataW.trod enc P w base sp held fuel t cs = some x) :
    cs.length = P.cellsOf t := by
  obtain ⟨xs, n, _, _, hl, _⟩ := DataW.trod_struct ht h
  exact hl
theorem opens_struct4 {α β γ δ : Type} {P : Program} {t ta tb tc td : TypeId} {fs : Array Field} {a : Kd α} {b : Kd β} {c : Kd γ} {d : Kd δ} {wa : α → Prop} {wb : β → Prop} {wc : γ → Prop} {wd : δ → Prop} (ht : P.underlying t = some (.struct fs)) (hc : P.cellsOf t = a.sz + (b.sz + (c.sz + d.sz)))
    (f0 : (fs[0]?).map (fun f => (f.type, f.offset)) = some (ta, 0)) (f1 : (fs[1]?).map (fun f => (f.type, f.offset)) = some (tb, a.sz)) (f2 : (fs[2]?).map (fun f => (f.type, f.offset)) = some (tc, a.sz + b.sz)) (f3 : (fs[3]?).map (fun f => (f.type, f.offset)) = some (td, a.sz + b.sz + c.sz)) (ca : P.cellsOf ta = a.sz) (cb : P.cellsOf tb = b.sz) (cc : P.cellsOf tc = c.sz) (cd : P.cellsOf td = d.sz) (oa : Opens P ta a wa) (ob : Opens P tb b wb) (oc : Opens P tc c wc) (od : Opens P td d wd) :
    Opens P t (Kd.pair a (Kd.pair b (Kd.pair c d))) (fun x => wa x.1 ∧ wb x.2.1 ∧ wc x.2.2.1 ∧ wd x.2.2.2) := by
  intro H enc w base sp held fuel cs x h
  obtain ⟨g0, e0, q0⟩ := Option.map_eq_some_iff.1 f0
  obtain ⟨g1, e1, q1⟩ := Option.map_eq_some_iff.1 f1
  obtain ⟨g2, e2, q2⟩ := Option.map_eq_some_iff.1 f2
  obtain ⟨g3, e3, q3⟩ := Option.map_eq_some_iff.1 f3
  simp only [Prod.mk.injEq] at q0 q1 q2 q3
  obtain ⟨x0, k0, w0⟩ := opens_field ht e0 q0.1 q0.2 ca oa h
  obtain ⟨x1, k1, w1⟩ := opens_field ht e1 q1.1 q1.2 cb ob h
  obtain ⟨x2, k2, w2⟩ := opens_field ht e2 q2.1 q2.2 cc oc h
  obtain ⟨x3, k3, w3⟩ := opens_field ht e3 q3.1 q3.2 cd od h
  have hl := opens_cells ht h
  have hsp : (cs.drop (a.sz + b.sz + c.sz)).take d.sz = ((cs.drop a.sz).drop b.sz).drop c.sz := by rw [List.take_of_length_le (by rw [List.length_drop]; omega)]; simp only [List.drop_drop, Nat.add_assoc]
  rw [List.drop_zero] at k0
  rw [hsp] at k3
  rw [← List.drop_drop] at k2
  exact ⟨(x0, x1, x2, x3), ⟨cs.take a.sz, cs.drop a.sz, (List.take_append_drop _ _).symm, k0, _, _, (List.take_append_drop b.sz _).symm, k1, _, _, (List.take_append_drop c.sz _).symm, k2, k3⟩, w0, w1, w2, w3⟩
/-- A row's slice is no longer than its weight allows. -/
theorem sized_row {H : Type} {enc : TypeId × Value → H} {P : Program} {W : World} {base : Nat} {spare : Nat → Bool} {held : Bool} {t e : TypeId} {a : Option Addr} {len cap : Nat} {d : DataW H} {ps : List MemPlace} {ts : List TypeId} {ds : List (DataW H)} {j : Nat}
    (hsz : (DataW.weightsEach P ts ds).all (· ≤ reachBytes) = true) (ht : ts[j]? = some t) (hd : ds[j]? = some d) (hu : P.underlying t = some (.slice e)) (B : Nat) (hB : P.bytesOf e = B)
    (h : DataW.Trod enc P W base spare held t (.slice a len cap) d ps) : len * B ≤ 140737488351232 := by
  obtain ⟨fuel, hf⟩ := h
  rcases DataW.trod_slice hu hf with ⟨hcs, _⟩ | ⟨ad, l, c, elems, rest, n, _, hcs, hx, _, _, _, hn, _⟩
  · simp only [Value.cells, List.cons.injEq, Value.slice.injEq, and_true] at hcs
    obtain ⟨rfl, rfl, rfl⟩ := hcs
    rw [Nat.zero_mul]; omega
  · simp only [Value.cells, List.cons.injEq, Value.slice.injEq, and_true] at hcs
    obtain ⟨rfl, rfl, rfl⟩ := hcs
    obtain ⟨hx, _⟩ := Prod.mk.inj hx
    subst hx
    have z := sized_slice hsz ht hd hu
    rw [hB, List.length_map, List.length_map] at z
    exact Nat.le_trans (Nat.mul_le_mul_right _ (by omega)) z
end Go.Proofs.YtlaihdipagejfaaG

end

section
set_option linter.unusedVariables false
namespace Go.Proofs.Ytlaihdipagejfaa.editGrows
open Go Go.ChangeShapes Go.WideShapes Go.ChangeAt Go.RowKit Go.Proofs.YtlaihdipagejfaaG Go.Proofs.Ytlaihdipagejfaa.P Go.Proofs.YtlaihdipagejfaaL Go.Proofs.YtlaihdipagejfaaW.PrintWords
open Go.ChangeMaps (open_string shut_string)
theorem own : ownKnob Try.prog.godebug = none := by kernel_rfl
theorem laidOut : laidOutB Try.prog = true := by kernel_rfl
set_option maxRecDepth 100000 in
theorem lifted (os : Os) (started : os.Started) (H : Type) (enc : TypeId × Value → H) :
    ReturnsInHanded {} Try.checked os 12 .any (Rows.editGrowsSpec.pre6 enc Try.prog Try.f12 Rows.editGrowsRow.domain false) (Rows.editGrowsSpec.post enc Try.prog Try.f12 false true false false) := by
  refine returnsInHanded_of_change_sized (C := Try.checked) own started (by kernel_rfl) Try.func12
    (ChangeSpec.witness6 (enc := enc) (C := Try.checked) false ⟨#[], #[.slice none 0 0], []⟩ 8 (by kernel_rfl) (by kernel_rfl) (by kernel_rfl) (by kernel_rfl)) ?_
  intro W base args ds gs before hval0 hW hcnd hsz0 _
  have hsz : (DataW.weightsEach Try.prog (Try.f12.params.toList ++ Rows.editGrowsSpec.plain.varTypes Try.prog) (ds ++ gs)).all (· ≤ reachBytes) = true := hsz0
  have hval : ∀ (j : Nat) t v, Try.f12.params[j]? = some t → args[j]? = some v → Value.okWide Try.prog W .any base t v := hval0
  have hW' := hW
  obtain ⟨p, q, hA0, hV, rfl, hfz, hnd⟩ := hW
  have hA : DataW.TrodAll enc Try.prog W 0 (fun _ => true) true Try.f12.params.toList args.toList ds p := hA0
  rw [Try.params12] at hA hval hsz
  obtain ⟨v0, vs0, d0, ds0, p0, q0, hargs, rfl, rfl, h0, r0⟩ := trodAll_cons hA
  obtain ⟨rfl, rfl, rfl⟩ := trodAll_nil r0
  obtain rfl : args = #[v0] := by cases args; simp_all
  obtain ⟨rfl, rfl⟩ := trodVars_none hV
  obtain ⟨a0, len0, cap0, rfl⟩ := okWide_slice Try.underlying71 (hval 0 71 v0 rfl rfl)
  have k0 := h0
  have y0 := sized_row hsz (j := 0) (t := 71) rfl rfl Try.underlying71 48 (by kernel_rfl) h0
  have lt0 : ∀ x ∈ p0, x.block < W.heap.size := by obtain ⟨m, hm⟩ := k0; exact DataW.trod_lt m _ _ _ hm
  obtain ⟨fuel0, hf0⟩ := h0
  obtain ⟨A0, c0, l0, hcs0, hl0, hm0, hC0, hw0⟩ := opens_row (by kernel_rfl) Try.underlying71 (show Opens Try.prog 54 k54 _ from Opens.iso (opens_struct4 (ta := 52) (tb := 35) (tc := 35) (td := 35) Try.underlying54 (by kernel_rfl) (by kernel_rfl) (by kernel_rfl) (by kernel_rfl) (by kernel_rfl) (by kernel_rfl) (by kernel_rfl) (by kernel_rfl) (by kernel_rfl) (opens_slice (by kernel_rfl) Try.underlying52 (show Opens Try.prog 62 k62 _ from Opens.iso (opens_struct4 (ta := 35) (tb := 35) (tc := 9) (td := 9) Try.underlying62 (by kernel_rfl) (by kernel_rfl) (by kernel_rfl) (by kernel_rfl) (by kernel_rfl) (by kernel_rfl) (by kernel_rfl) (by kernel_rfl) (by kernel_rfl) (opens_int Try.underlying35) (opens_int Try.underlying35) (opens_string Try.underlying9) (opens_string Try.underlying9)) (fun x : S62 => (x.f0, x.f1, x.f2, x.f3)) (fun q => ⟨q.1, q.2.1, q.2.2.1, q.2.2.2⟩) (fun _ => rfl))) (opens_int Try.underlying35) (opens_int Try.underlying35) (opens_int Try.underlying35)) (fun x : S54 => (x.f0, x.f1, x.f2, x.f3)) (fun q => ⟨q.1, q.2.1, q.2.2.1, q.2.2.2⟩) (fun _ => rfl)) hf0
  simp only [Value.cells, List.cons.injEq, Value.slice.injEq, and_true] at hcs0
  obtain ⟨rfl, rfl, rfl⟩ := hcs0
  obtain ⟨k, h⟩ := Pure.EditGrows l0 (Nat.le_trans hl0 hm0) y0 hw0
  clear hA0 hval0 hsz0 hsz
  refine (P.ratlinelaw09_EditGrows.calls k _ _ l0 true W hC0 hl0 h).mono fun e W' ⟨he, bel⟩ => ?_
  subst he
  exact ⟨_, rfl, _, _, _, [], _, [], hW', trodAll_mk1 (shut_bool Try.underlying4 _), (trodAll_cons_mk (Below.trod laidOut (by kernel_rfl) (of_decide_eq_true (by kernel_rfl)) k0 bel lt0) trodAll_mk0), rfl, bel.frame _, fun h => by cases h⟩
theorem over : Rows.editGrowsRow.holds Try.pinned (OpenSpec.ofChange Rows.editGrowsSpec) :=
  OpenClaim.holds_of_wide 12 Try.f12 rfl rfl rfl rfl rfl rfl rfl ⟨rfl, rfl, rfl, rfl, rfl⟩ rfl rfl rfl rfl rfl (by kernel_rfl) Try.func12 (by kernel_rfl)
    (of_decide_eq_true (by kernel_rfl)) (by unfold Func.isWrapper; first | (rw [if_pos (by decide +kernel)]; kernel_rfl) | (rw [if_neg (by decide +kernel)]; exact ⟨rfl, rfl⟩))
    (fun os started H enc _ => lifted os started H enc)
theorem proved : Rows.EditGrowsSaid := over
#print axioms proved
end Go.Proofs.Ytlaihdipagejfaa.editGrows
namespace Go.Proofs.Ytlaihdipagejfaa
/-- The row, under a short name, for the claim. -/
theorem editGrows_holds : Rows.EditGrowsSaid := editGrows.proved
end Go.Proofs.Ytlaihdipagejfaa

end
