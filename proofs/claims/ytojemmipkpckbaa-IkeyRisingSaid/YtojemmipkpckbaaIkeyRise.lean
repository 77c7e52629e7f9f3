/- Lists that rise (layer 3). Conditions: those of each theorem. Written for this claim. -/
import Derived.Test.YtojemmipkpckbaaPx20
import Derived.Test.YtojemmipkpckbaaIkeyFew
set_option linter.unusedVariables false
namespace Go.Proofs.YtojemmipkpckbaaL
open Go Go.RowKit Go.Proofs.YtojemmipkpckbaaG Go.Proofs.Ytojemmipkpckbaa.P Go.Proofs.YtojemmipkpckbaaW.PrintWords Go.Proofs.YtojemmipkpckbaaW.PrintMore

def risesB : List En → Bool
  | a :: b :: r => decide (cmpI a.f0 b.f0 < 0) && risesB (b :: r)
  | _ => true
theorem rises_two (a b : En) (r : List En) : risesB (a :: b :: r) = (decide (cmpI a.f0 b.f0 < 0) && risesB (b :: r)) := rfl
theorem rises_split (x : En) (B : List En) : ∀ A : List En, risesB (A ++ x :: B) = (risesB (A ++ [x]) && risesB (x :: B))
  | [] => by show risesB (x :: B) = (true && risesB (x :: B)); rw [Bool.true_and]
  | [a] => by
    show risesB (a :: x :: B) = (risesB [a, x] && risesB (x :: B))
    rw [rises_two, rises_two]
    show _ = ((decide _ && true) && _)
    rw [Bool.and_true]
  | a :: b :: A => by
    have ih := rises_split x B (b :: A)
    show risesB (a :: b :: (A ++ x :: B)) = (risesB (a :: b :: (A ++ [x])) && risesB (x :: B))
    rw [rises_two, rises_two, Bool.and_assoc]
    congr 1
theorem rises_twice (x : En) (A B : List En) : risesB (A ++ x :: x :: B) = false := by
  have h0 : cmpI x.f0 x.f0 = 0 := (cmpI_zero _ _).2 ⟨rfl, rfl, rfl⟩
  rw [rises_split x (x :: B) A, rises_two, h0, decide_eq_false (by omega), Bool.false_and, Bool.and_false]
theorem rises_back (l : List En) (h : risesB l = true) (h2 : 2 ≤ l.length) : risesB l.reverse = false := by
  match l, h2 with
  | a :: b :: r, _ =>
    rw [rises_two, Bool.and_eq_true, decide_eq_true_eq] at h
    have h1 := cmpI_neg a.f0 b.f0
    rw [List.reverse_cons, List.reverse_cons, List.append_assoc]
    show risesB (r.reverse ++ b :: [a]) = false
    rw [rises_split b [a] r.reverse, rises_two, decide_eq_false (by omega), Bool.false_and, Bool.and_false]
theorem rising_loop (l : List En) (hl : l.length < 9223372036854775800) (q : Nat) :
    ∀ (m j : Nat), j + m + 1 = l.length → ikey_Rising.l0 (m + q + 5) l ((l.length - 1 : Nat) : Int) (j : Int) = some (risesB (l.drop j)) := by
  intro m
  induction m with
  | zero =>
    intro j hj
    simp only [ikey_Rising.l0]
    rw [if_neg (by omega)]
    have : l.drop j = [l[j]'(by omega)] := by rw [List.drop_eq_getElem_cons (by omega), List.drop_of_length_le (by omega)]
    rw [this]
    rfl
  | succ m ih =>
    intro j hj
    have hlt : j < l.length := by omega
    have hlt2 : j + 1 < l.length := by omega
    generalize hk : m + 1 + q + 4 = k
    have hj1 : j < 9223372036854775800 := by omega
    rw [show m + 1 + q + 5 = k + 1 from by omega]
    simp only [ikey_Rising.l0, few_succ hj1]
    rw [if_pos (by omega), if_pos (by omega), if_pos (by omega), if_pos (by omega), if_pos (by omega), rd_en l hlt, rd_en l hlt2]
    have hc := compare_f (m + 1 + q) l[j].f0 l[j + 1].f0
    rw [hk] at hc
    refine bind1 hc ?_
    rw [List.drop_eq_getElem_cons hlt, List.drop_eq_getElem_cons hlt2, rises_two]
    by_cases h : cmpI l[j].f0 l[j + 1].f0 ≥ 0
    · rw [if_pos h, decide_eq_false (by omega), Bool.false_and]
    · rw [if_neg h, decide_eq_true (by omega), Bool.true_and, ← hk, show m + 1 + q + 4 = m + q + 5 from by omega, ih (j + 1) (by omega), List.drop_eq_getElem_cons hlt2]
theorem rising_f (l : List En) (hl : l.length < 9223372036854775800) (q : Nat) : ikey_Rising.f (l.length + q + 5) l = some (risesB l) := by
  unfold ikey_Rising.f
  by_cases h : l.length = 0
  · obtain rfl : l = [] := List.eq_nil_of_length_eq_zero h
    rw [if_pos (by decide), if_pos (by decide)]
    show ikey_Rising.l0 (0 + q + 4 + 1) [] _ _ = _
    simp only [ikey_Rising.l0]
    rw [if_neg (by decide)]
    rfl
  · have hm : mn (l.length : Int) 1 = ((1 : Nat) : Int) := by unfold mn; split <;> omega
    rw [hm, if_pos (by omega), if_pos (by omega), Int.toNat_natCast, List.length_drop]
    have := rising_loop l hl (q + 1) (l.length - 1) 0 (by omega)
    rwa [show l.length - 1 + (q + 1) + 5 = l.length + q + 5 from by omega, List.drop_zero] at this
theorem rising_k {l : List En} (h : l.length ≤ 150) (k : Nat) : ikey_Rising.f (k + 200) l = some (risesB l) := by
  have := rising_f l (by omega) (k + 195 - l.length)
  rwa [show l.length + (k + 195 - l.length) + 5 = k + 200 from by omega] at this
theorem few_k {l : List En} (h : l.length ≤ 150) (most : Int) (k : Nat) : ratlinelaw03_Few.f (k + 200) l most = some (decide (∀ e ∈ l, Short e) && decide ((l.length : Int) ≤ most)) := by
  have := few_f l most (by omega) (k + 199 - l.length)
  rwa [show l.length + (k + 199 - l.length) + 1 = k + 200 from by omega] at this
end Go.Proofs.YtojemmipkpckbaaL
