/- Entries that are few, and short (layer 3). Conditions: those of each theorem. Written for this claim. -/
import Derived.Test.YtojemmipkpckbaaPx16
import Derived.Test.YtojemmipkpckbaaIkeyAwake
set_option linter.unusedVariables false
namespace Go.Proofs.YtojemmipkpckbaaL
open Go Go.RowKit Go.Proofs.YtojemmipkpckbaaG Go.Proofs.Ytojemmipkpckbaa.P Go.Proofs.YtojemmipkpckbaaW.PrintWords Go.Proofs.YtojemmipkpckbaaW.PrintMore

def Short (e : En) : Prop := e.f0.f0.size ≤ 70 ∧ e.f1.size ≤ 300
instance (e : En) : Decidable (Short e) := inferInstanceAs (Decidable (_ ∧ _))
theorem rd_en (l : List En) {j : Nat} (h : j < l.length) : rd_T41 l (j : Int) = l[j] := by
  show l.getD ((j : Int)).toNat _ = _
  rw [Int.toNat_natCast, List.getD_eq_getElem?_getD, List.getElem?_eq_getElem h]
  rfl
theorem few_succ {a : Nat} (h : a < 9223372036854775800) : wrap64 ((a : Int) + 1) = ((a + 1 : Nat) : Int) := by unfold wrap64; omega
theorem few_loop (l : List En) (most : Int) (hl : l.length < 9223372036854775800) (k : Nat) :
    ∀ (m j : Nat), j + m = l.length → ratlinelaw03_Few.l0 (m + k + 1) l most l (l.length : Int) (j : Int) = some (decide (∀ e ∈ l.drop j, Short e) && decide ((l.length : Int) ≤ most)) := by
  intro m
  induction m with
  | zero =>
    intro j hj
    obtain rfl : j = l.length := by omega
    simp only [ratlinelaw03_Few.l0]
    rw [if_neg (by omega), List.drop_length]
    simp
  | succ m ih =>
    intro j hj
    have hlt : j < l.length := by omega
    generalize hk : m + 1 + k = q
    have hj1 : j < 9223372036854775800 := by omega
    simp only [ratlinelaw03_Few.l0, few_succ hj1]
    rw [if_pos (by omega), if_pos (by omega), if_pos (by omega), rd_en l hlt, ← hk, show m + 1 + k = m + k + 1 from by omega, ih (j + 1) (by omega), List.drop_eq_getElem_cons hlt]
    by_cases h1 : ((l[j].f0.f0.size : Nat) : Int) > 70
    · rw [if_pos h1, decide_eq_false (fun h => by have := (h l[j] (List.mem_cons_self ..)).1; omega)]
      rfl
    · rw [if_neg h1]
      by_cases h2 : ((l[j].f1.size : Nat) : Int) > 300
      · rw [if_pos h2, decide_eq_false (fun h => by have := (h l[j] (List.mem_cons_self ..)).2; omega)]
        rfl
      · rw [if_neg h2]
        congr 2
        refine decide_eq_decide.2 ⟨fun h e he => ?_, fun h e he => h e (List.mem_cons_of_mem _ he)⟩
        rcases List.mem_cons.1 he with rfl | he
        · exact ⟨by omega, by omega⟩
        · exact h e he
theorem few_f (l : List En) (most : Int) (hl : l.length < 9223372036854775800) (k : Nat) : ratlinelaw03_Few.f (l.length + k + 1) l most = some (decide (∀ e ∈ l, Short e) && decide ((l.length : Int) ≤ most)) := by
  have := few_loop l most hl k l.length 0 (by omega)
  rwa [List.drop_zero] at this
end Go.Proofs.YtojemmipkpckbaaL
