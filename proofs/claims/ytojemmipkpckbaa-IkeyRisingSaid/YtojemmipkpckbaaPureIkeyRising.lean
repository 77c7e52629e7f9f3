/- The pure statement of IkeyRising. Conditions: those of the statement. Written for this claim. -/
import Derived.Test.YtojemmipkpckbaaPx33
import Derived.Test.YtojemmipkpckbaaIkeyRise
set_option linter.unusedVariables false
namespace Go.Proofs.Ytojemmipkpckbaa.Pure
open Go Go.RowKit Go.Proofs.Ytojemmipkpckbaa.P Go.Proofs.YtojemmipkpckbaaG Go.Proofs.YtojemmipkpckbaaL Go.Proofs.YtojemmipkpckbaaW.PrintWords Go.Proofs.YtojemmipkpckbaaW.PrintMore Go.Proofs.YtojemmipkpckbaaW.PrintLast

theorem rising_l0 (l : List En) (hl : l.length ≤ 60) : ∀ (m j : Nat), j + m = l.length →
    ratlinelaw03_IkeyRising.l0 (m + 300) l (l.reverse.take j) (l.length : Int) (j : Int) = some true := by
  intro m
  induction m with
  | zero =>
    intro j hj
    obtain rfl : j = l.length := by omega
    rw [show 0 + 300 = 299 + 1 from rfl]
    generalize hz : 299 = z
    simp only [ratlinelaw03_IkeyRising.l0]
    subst hz
    have hawake : (ratlinelaw03_awake.f 299).bind (fun t => some t) = some true := by rw [show ratlinelaw03_awake.f 299 = some true from awake03 295]; rfl
    rw [if_neg (by omega), List.take_of_length_le (by rw [List.length_reverse]; omega)]
    by_cases h2 : (l.length : Int) < 2
    · rw [if_pos h2]; exact hawake
    · rw [if_neg h2]
      refine bind1 (rising_k (l := l) (by omega) 99) ?_
      by_cases hr : risesB l = true
      · rw [if_pos hr]
        refine bind1 (rising_k (l := l.reverse) (by rw [List.length_reverse]; omega) 99) ?_
        rw [rises_back l hr (by omega), if_neg (by decide)]
        exact hawake
      · rw [if_neg hr]; exact hawake
  | succ m ih =>
    intro j hj
    generalize hk : m + 300 = k
    rw [show m + 1 + 300 = k + 1 from by omega]
    have hj1 : j < 9223372036854775800 := by omega
    have hw1 : wrap64 ((l.length : Int) - 1) = ((l.length - 1 : Nat) : Int) := by unfold wrap64; omega
    have hw2 : wrap64 (((l.length - 1 : Nat) : Int) - (j : Int)) = ((l.length - 1 - j : Nat) : Int) := by unfold wrap64; omega
    simp only [ratlinelaw03_IkeyRising.l0, few_succ hj1, hw1, hw2]
    rw [if_pos (by omega), if_pos (by omega), if_pos (by omega)]
    refine bind1 rfl ?_
    have hlen : (l.reverse.take j).length = j := by rw [List.length_take, List.length_reverse]; omega
    rw [if_pos (by rw [hlen]; simp; omega), rd_en l (show l.length - 1 - j < l.length by omega)]
    subst hk
    have hnext : l.reverse.take j ++ [l[l.length - 1 - j]'(by omega)] = l.reverse.take (j + 1) := by
      rw [List.take_succ_eq_append_getElem (show j < l.reverse.length by rw [List.length_reverse]; omega), List.getElem_reverse]
    have := ih (j + 1) (by omega)
    rw [← hnext] at this
    exact this
theorem IkeyRising (l : List En) (_ : l.length ≤ maxLen) (h48 : l.length * 48 ≤ 140737488351232) (_ : ∀ e ∈ l, (e.f0.f0.size ≤ maxLen ∧ (Lit.int .u64 e.f0.f1).wf = true ∧ (Lit.int .u8 e.f0.f2).wf = true) ∧ e.f1.size ≤ maxLen) (at_ : Int) (ha : (Lit.int .u8 at_).wf = true) :
    ∃ k, ratlinelaw03_IkeyRising.f k l at_ = some true := by
  simp [Lit.wf, IntKind.min, IntKind.max, IntKind.bits, IntKind.signed] at ha
  refine ⟨l.length + 700, ?_⟩
  unfold ratlinelaw03_IkeyRising.f
  have hfew := few_f l 60 (by omega) 699
  rw [show l.length + 699 + 1 = l.length + 700 from by omega] at hfew
  refine bind1 hfew ?_
  by_cases hs : (decide (∀ e ∈ l, Short e) && decide ((l.length : Int) ≤ 60)) = true
  · rw [if_pos hs]
    rw [Bool.and_eq_true, decide_eq_true_eq, decide_eq_true_eq] at hs
    have hl : l.length ≤ 60 := by omega
    have hr0 := rising_k (l := []) (by decide) (l.length + 500)
    rw [show l.length + 500 + 200 = l.length + 700 from by omega] at hr0
    refine bind1 hr0 ?_
    rw [show risesB [] = true from rfl, if_pos rfl]
    have hm : mn (l.length : Int) 1 = ((min l.length 1 : Nat) : Int) := by unfold mn; split <;> omega
    rw [hm, if_pos (by omega), if_pos (by omega), Int.toNat_natCast]
    have hr1 := rising_k (l := l.take (min l.length 1)) (by rw [List.length_take]; omega) (l.length + 500)
    rw [show l.length + 500 + 200 = l.length + 700 from by omega] at hr1
    refine bind1 hr1 ?_
    have hone : risesB (l.take (min l.length 1)) = true := by
      cases l with
      | nil => rfl
      | cons a r => rw [List.length_cons, show min (r.length + 1) 1 = 1 from by omega]; rfl
    rw [hone]
    generalize hq : l.length + 699 = q
    rw [show l.length + 700 = q + 1 from by omega]
    simp only [ratlinelaw03_IkeyRising.j0]
    rw [if_neg (by decide)]
    have hawake : (ratlinelaw03_awake.f q).bind (fun t => some t) = some true := by rw [show q = (q - 4) + 4 from by omega, awake03]; rfl
    by_cases h0 : (l.length : Int) = 0
    · rw [if_pos h0]; exact hawake
    · rw [if_neg h0]
      refine bind1 rfl ?_
      have hw : wrap64 at_ = at_ := by unfold wrap64; omega
      obtain ⟨n, rfl⟩ := Int.eq_ofNat_of_zero_le ha.1
      have hmod : Int.tmod (n : Int) (l.length : Int) = ((n % l.length : Nat) : Int) := (Int.ofNat_tmod _ _).symm
      have hlt : n % l.length < l.length := Nat.mod_lt _ (by omega)
      simp only [hw, hmod]
      generalize n % l.length = p at *
      have hp1 : wrap64 ((p : Int) + 1) = ((p + 1 : Nat) : Int) := few_succ (by omega)
      simp only [hp1, Int.toNat_natCast]
      rw [if_pos (by omega), if_pos (by omega)]
      refine bind1 rfl ?_
      rw [if_pos (by rw [List.length_take]; simp; omega)]
      refine bind1 rfl ?_
      rw [if_pos (by omega), if_pos (by omega)]
      refine bind1 rfl ?_
      have hx : ([(⟨(⟨(rd_T41 l (p : Int)).f0.f0, (rd_T41 l (p : Int)).f0.f1, (rd_T41 l (p : Int)).f0.f2⟩ : Ik), (rd_T41 l (p : Int)).f1⟩ : En)] : List En) = [l[p]] := by rw [rd_en l hlt]
      rw [hx, List.nil_append, if_pos (by rw [List.length_take]; simp; omega)]
      refine bind1 rfl ?_
      refine bind1 rfl ?_
      rw [if_pos (by rw [List.length_append, List.length_take, List.length_drop]; simp; omega)]
      have hsplit : l = l.take p ++ l[p] :: l.drop (p + 1) := by rw [← List.drop_eq_getElem_cons hlt, List.take_append_drop]
      have htake : l.take (p + 1) = l.take p ++ [l[p]] := List.take_succ_eq_append_getElem hlt
      have hdrop : l.drop p = l[p] :: l.drop (p + 1) := List.drop_eq_getElem_cons hlt
      have hk : ∀ {z : List En}, z.length ≤ 150 → ikey_Rising.f q z = some (risesB z) := fun {z} h => by
        have := rising_k (l := z) h (q - 200)
        rwa [show q - 200 + 200 = q from by omega] at this
      refine bind1 (hk (by rw [List.length_append, List.length_append, List.length_take, List.length_drop]; simp; omega)) ?_
      have htw : risesB (l.take (p + 1) ++ [l[p]] ++ l.drop (p + 1)) = false := by
        rw [htake, List.append_assoc, List.append_assoc]
        exact rises_twice _ _ _
      rw [htw, if_neg (by decide)]
      refine bind1 (hk (by omega)) ?_
      refine bind1 (hk (by rw [List.length_take]; omega)) ?_
      have hsp : risesB l = (risesB (l.take (p + 1)) && risesB (l.drop p)) := by
        rw [htake, hdrop]
        conv => lhs; rw [hsplit]
        exact rises_split _ _ _
      have hj1 : ratlinelaw03_IkeyRising.j1 q l false = some true := by
        obtain ⟨q', rfl⟩ : ∃ q', q = q' + 1 := ⟨q - 1, by omega⟩
        simp only [ratlinelaw03_IkeyRising.j1]
        rw [if_neg (by decide)]
        have := rising_l0 l hl l.length 0 (by omega)
        have up : ∀ d k, ratlinelaw03_IkeyRising.l0 k l [] (l.length : Int) 0 = some true → ratlinelaw03_IkeyRising.l0 (k + d) l [] (l.length : Int) 0 = some true := by
          intro d
          induction d with
          | zero => intro k h; exact h
          | succ d ih => intro k h; exact (ratlinelaw03_IkeyRising.mono_l (k + d)).2.2 _ _ _ _ _ (ih k h)
        have h2 := up (q' - (l.length + 300)) _ this
        rwa [show l.length + 300 + (q' - (l.length + 300)) = q' from by omega] at h2
      by_cases ht : risesB (l.take (p + 1)) = true
      · rw [if_pos ht, if_pos (by omega)]
        refine bind1 (hk (by rw [List.length_drop]; omega)) ?_
        rw [hsp, ht, Bool.true_and, show (risesB (l.drop p) != risesB (l.drop p)) = false from by simp]
        exact hj1
      · have hf : risesB (l.take (p + 1)) = false := by simpa using ht
        rw [if_neg ht, hsp, hf, Bool.false_and, show (false != false) = false from rfl]
        exact hj1
  · rw [if_neg hs, show l.length + 700 = (l.length + 696) + 4 from by omega, awake03]
    rfl
end Go.Proofs.Ytojemmipkpckbaa.Pure
