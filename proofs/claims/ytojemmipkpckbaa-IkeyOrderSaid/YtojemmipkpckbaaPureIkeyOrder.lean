/- The pure statement of IkeyOrder. Conditions: those of the statement. Written for this claim. -/
import Derived.Test.YtojemmipkpckbaaPx17
import Derived.Test.YtojemmipkpckbaaIkeyFew
set_option linter.unusedVariables false
namespace Go.Proofs.Ytojemmipkpckbaa.Pure
open Go Go.RowKit Go.Proofs.Ytojemmipkpckbaa.P Go.Proofs.YtojemmipkpckbaaG Go.Proofs.YtojemmipkpckbaaL Go.Proofs.YtojemmipkpckbaaW.PrintWords Go.Proofs.YtojemmipkpckbaaW.PrintLast

theorem IkeyOrder (x : Ik) (_ : x.f0.size ≤ maxLen ∧ (Lit.int .u64 x.f1).wf = true ∧ (Lit.int .u8 x.f2).wf = true) (y : Ik) (_ : y.f0.size ≤ maxLen ∧ (Lit.int .u64 y.f1).wf = true ∧ (Lit.int .u8 y.f2).wf = true) (z : Ik) (_ : z.f0.size ≤ maxLen ∧ (Lit.int .u64 z.f1).wf = true ∧ (Lit.int .u8 z.f2).wf = true) :
    ∃ k, ratlinelaw03_IkeyOrder.f k x.f0 x.f1 x.f2 y.f0 y.f1 y.f2 z.f0 z.f1 z.f2 = some true := by
  refine ⟨10, ?_⟩
  have hawake : (ratlinelaw03_awake.f 10).bind (fun t => some t) = some true := by rw [show ratlinelaw03_awake.f 10 = some true from awake03 6]; rfl
  have hc : ∀ a b : Ik, ikey_Compare.f 10 a.f0 a.f1 a.f2 b.f0 b.f1 b.f2 = some (cmpI a b) := fun a b => compare_f 6 a b
  unfold ratlinelaw03_IkeyOrder.f
  refine bind1 (few_f [⟨x, ⟨#[]⟩⟩, ⟨y, ⟨#[]⟩⟩, ⟨z, ⟨#[]⟩⟩] 3 (by show 3 < _; omega) 6) ?_
  split
  · refine bind1 (hc x y) ?_
    have hr := cmpI_range x y
    rw [if_neg (by omega), if_neg (by omega)]
    refine bind1 (hc y x) ?_
    have hneg : cmpI y x = wrap64 (-cmpI x y) := by rw [cmpI_neg]; unfold wrap64; omega
    rw [if_pos hneg]
    have hz : ((cmpI x y == 0) != (x.f0.toList == y.f0.toList && (x.f1 == y.f1 && (x.f2 == y.f2)))) = false := by
      have hiff := cmpI_zero x y
      by_cases h : cmpI x y = 0
      · obtain ⟨a, b, c⟩ := hiff.1 h
        rw [h, a, b, c]; simp
      · have h2 : ¬ (x.f0.toList = y.f0.toList ∧ x.f1 = y.f1 ∧ x.f2 = y.f2) := fun e => h (hiff.2 ⟨ba_eq_iff.1 e.1, e.2.1, e.2.2⟩)
        have h3 : (x.f0.toList == y.f0.toList && (x.f1 == y.f1 && (x.f2 == y.f2))) = false := by
          rw [Bool.eq_false_iff]
          intro e
          simp only [Bool.and_eq_true, beq_iff_eq] at e
          exact h2 e
        rw [h3, beq_false_of_ne h]; rfl
    rw [hz, if_neg (by decide)]
    have hkey : lt x.f0 y.f0 → cmpI x y = -1 := fun h => by unfold cmpI; rw [if_pos h]
    have hlast : (if ((Op.bytesLess x.f0.toList y.f0.toList) = true) then (if cmpI x y = (-1) then ((ratlinelaw03_awake.f 10).bind fun t => (some t)) else (none)) else ((ratlinelaw03_awake.f 10).bind fun t => (some t))) = some true := by
      by_cases h : Op.bytesLess x.f0.toList y.f0.toList = true
      · rw [if_pos h, if_pos (hkey h)]; exact hawake
      · rw [if_neg h]; exact hawake
    by_cases h1 : cmpI x y ≤ 0
    · rw [if_pos h1]
      refine bind1 (hc y z) ?_
      by_cases h2 : cmpI y z ≤ 0
      · rw [if_pos h2]
        refine bind1 (hc x z) ?_
        rw [if_neg (by have := cmpI_trans h1 h2; omega)]
        exact hlast
      · rw [if_neg h2]; exact hlast
    · rw [if_neg h1]; exact hlast
  · exact hawake
end Go.Proofs.Ytojemmipkpckbaa.Pure
