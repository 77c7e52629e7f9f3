/- The pure statement of IkeyBack. Conditions: those of the statement. Written for this claim. -/
import Derived.Test.YtojemmipkpckbaaPx19
import Derived.Test.YtojemmipkpckbaaIkeyAwake
set_option linter.unusedVariables false
namespace Go.Proofs.Ytojemmipkpckbaa.Pure
open Go Go.RowKit Go.Proofs.Ytojemmipkpckbaa.P Go.Proofs.YtojemmipkpckbaaG Go.Proofs.YtojemmipkpckbaaL Go.Proofs.YtojemmipkpckbaaW.PrintWords Go.Proofs.YtojemmipkpckbaaW.PrintMore Go.Proofs.YtojemmipkpckbaaW.PrintLast

theorem back_succ {a : Nat} (h : a < 100000) : wrap64 ((a : Int) + 1) = ((a + 1 : Nat) : Int) := by unfold wrap64; omega
theorem ik_eta (x : Ik) : (⟨x.f0, x.f1, x.f2⟩ : Ik) = x := rfl
theorem back_end (k : Nat) (raw b : List Int) (hr : By raw) (hl : raw.length ≤ 200) (j : Int) : ratlinelaw03_IkeyBack.l0 (k + 5) raw b j j = some true := by
  simp only [ratlinelaw03_IkeyBack.l0]
  rw [if_neg (by omega)]
  have hawake : (ratlinelaw03_awake.f (k + 4)).bind (fun t => some t) = some true := by rw [awake03]; rfl
  rcases takeI_cases raw hr (by omega) with ⟨x, rest, hw, hx, he, hf⟩ | ⟨hf, _⟩
  · refine bind5 hf (fun t e1 e2 e3 e4 e5 => ?_)
    rw [if_pos e5, e1, e2, e3, e4]
    refine bind1 (right_f x) ?_
    rw [decide_eq_true hx, if_pos rfl]
    refine bind1 (put_yes hw hx (l := []) (by decide)) ?_
    rw [List.nil_append]
    have hfl := formI_len hw hx
    have hlen := congrArg List.length he
    rw [List.length_append] at hlen
    rw [if_pos (by omega)]
    refine bind1 (same_f ((formI_by x).append (By.right (he ▸ hr))) hr) ?_
    rw [decide_eq_true he.symm, if_pos rfl]
    exact hawake
  · refine bind5 hf (fun t e1 e2 e3 e4 e5 => ?_)
    rw [if_neg (by rw [e5]; decide), e1, e2, e3, e4, if_pos (by simp), if_pos (show (([] : List Int).length : Int) = 0 from rfl)]
    exact hawake
theorem back_loop (raw b : List Int) (hr : By raw) (hl : raw.length ≤ 200) (hb : b.length ≤ 100) (hno : ∀ i, i < b.length → ∃ u v w z, ikey_Take.f (b.take i) = some (u, v, w, z, false)) :
    ∀ (m j : Nat), j + m = b.length → ratlinelaw03_IkeyBack.l0 (m + 5) raw b (b.length : Int) (j : Int) = some true := by
  intro m
  induction m with
  | zero =>
    intro j hj
    obtain rfl : j = b.length := by omega
    exact back_end 0 raw b hr hl _
  | succ m ih =>
    intro j hj
    generalize hk : m + 5 = k
    rw [show m + 1 + 5 = k + 1 from by omega]
    have hj1 : j < 100000 := by omega
    simp only [ratlinelaw03_IkeyBack.l0, back_succ hj1]
    obtain ⟨u, v, w, z, hf⟩ := hno j (by omega)
    rw [if_pos (by omega), if_pos (by omega), if_pos (by omega), Int.toNat_natCast, ← hk]
    refine bind5 hf (fun t e1 e2 e3 e4 e5 => ?_)
    rw [if_neg (by rw [e5]; decide)]
    exact ih (j + 1) (by omega)
theorem back_up (raw b : List Int) (d : Nat) : ∀ k : Nat, ratlinelaw03_IkeyBack.l0 k raw b (b.length : Int) 0 = some true → ratlinelaw03_IkeyBack.l0 (k + d) raw b (b.length : Int) 0 = some true := by
  induction d with
  | zero => intro k h; exact h
  | succ d ih => intro k h; exact (ratlinelaw03_IkeyBack.mono_l (k + d)).2.2 _ _ _ _ _ (ih k h)
theorem back_j1 (raw b : List Int) (hr : By raw) (hl : raw.length ≤ 200) (hb : b.length ≤ 100) (hno : ∀ i, i < b.length → ∃ u v w z, ikey_Take.f (b.take i) = some (u, v, w, z, false)) : ratlinelaw03_IkeyBack.j1 201 raw b = some true := by
  simp only [ratlinelaw03_IkeyBack.j1]
  have := back_up raw b (195 - b.length) _ (back_loop raw b hr hl hb hno b.length 0 (by omega))
  rwa [show b.length + 5 + (195 - b.length) = 200 from by omega] at this
theorem IkeyBack (x : Ik) (hx : x.f0.size ≤ maxLen ∧ (Lit.int .u64 x.f1).wf = true ∧ (Lit.int .u8 x.f2).wf = true) (behind : List Int) (_ : behind.length ≤ maxLen) (_ : behind.length * 1 ≤ 140737488351232) (hb0 : ∀ c ∈ behind, (Lit.int .u8 c).wf = true) (raw : List Int) (_ : raw.length ≤ maxLen) (_ : raw.length * 1 ≤ 140737488351232) (hr0 : ∀ c ∈ raw, (Lit.int .u8 c).wf = true) :
    ∃ k, ratlinelaw03_IkeyBack.f k x.f0 x.f1 x.f2 behind raw = some true := by
  have hb := By.of_wf hb0
  have hr := By.of_wf hr0
  obtain ⟨_, hx1, hx2⟩ := hx
  have hw : Wf x := by
    simp [Lit.wf, IntKind.min, IntKind.max, IntKind.bits, IntKind.signed] at hx1 hx2
    exact ⟨by omega, by omega, by omega, by omega⟩
  refine ⟨202, ?_⟩
  have hj : ratlinelaw03_IkeyBack.j0 202 behind raw true x.f0 x.f1 x.f2 = some true := by
    simp only [ratlinelaw03_IkeyBack.j0]
    rw [if_pos trivial, show ratlinelaw03_awake.f 201 = some true from awake03 197]
    rfl
  unfold ratlinelaw03_IkeyBack.f
  by_cases c1 : (x.f0.size : Int) > 70
  · rw [if_pos c1]; exact hj
  · rw [if_neg c1]
    by_cases c2 : (behind.length : Int) > 100
    · rw [if_pos c2]; exact hj
    · rw [if_neg c2]
      by_cases c3 : (raw.length : Int) > 200
      · rw [decide_eq_true c3]; exact hj
      · rw [decide_eq_false c3]
        simp only [ratlinelaw03_IkeyBack.j0]
        rw [if_neg (by decide)]
        by_cases hR : RightI x
        · have hfl := formI_len hw hR
          refine bind1 (put_yes hw hR (l := []) (by decide)) ?_
          rw [List.nil_append]
          refine bind1 (right_f x) ?_
          rw [decide_eq_true hR, if_pos rfl]
          refine bind1 rfl ?_
          rw [List.nil_append, if_pos (by simp; omega)]
          refine bind1 rfl ?_
          rw [if_pos (by omega)]
          refine bind5 (takeI_form hw hR hb (by omega)) (fun t e1 e2 e3 e4 e5 => ?_)
          rw [if_pos e5, e1, e2, e3, e4, if_neg (by simp)]
          refine bind1 (same_f hb hb) ?_
          rw [decide_eq_true rfl, if_pos rfl]
          refine back_j1 raw (formI x) hr (by omega) (by omega) (fun i hi => ?_)
          rcases takeI_cases ((formI x).take i) ((formI_by x).take i) (by rw [List.length_take]; omega) with ⟨y, rest, wy, ry, he, _⟩ | ⟨hf, _⟩
          · exfalso
            have e2 : formI x ++ [] = formI y ++ (rest ++ (formI x).drop i) := by rw [← List.append_assoc, ← he, List.take_append_drop, List.append_nil]
            have e3 := congrArg List.length (formI_inj hw wy hR ry e2).2
            rw [List.length_append, List.length_drop, List.length_nil] at e3
            omega
          · exact ⟨_, _, _, _, hf⟩
        · refine bind1 (put_no hR (l := []) (by decide)) ?_
          refine bind1 (right_f x) ?_
          rw [decide_eq_false hR, if_neg (by decide), if_pos (by rfl)]
          refine bind1 (put_no hR (l := behind) (by omega)) ?_
          refine bind1 (same_f hb hb) ?_
          rw [decide_eq_true rfl, if_pos rfl]
          exact back_j1 raw [] hr (by omega) (by decide) (fun i hi => absurd hi (Nat.not_lt_zero _))
end Go.Proofs.Ytojemmipkpckbaa.Pure
