/- The pure statement of IkeySought. Conditions: those of the statement. Written for this claim. -/
import Derived.Test.YtojemmipkpckbaaPx18
import Derived.Test.YtojemmipkpckbaaIkeyFew
set_option linter.unusedVariables false
namespace Go.Proofs.Ytojemmipkpckbaa.Pure
open Go Go.RowKit Go.Proofs.Ytojemmipkpckbaa.P Go.Proofs.YtojemmipkpckbaaG Go.Proofs.YtojemmipkpckbaaL Go.Proofs.YtojemmipkpckbaaW.PrintWords Go.Proofs.YtojemmipkpckbaaW.PrintLast

theorem IkeySought (x : Ik) (hx : x.f0.size ≤ maxLen ∧ (Lit.int .u64 x.f1).wf = true ∧ (Lit.int .u8 x.f2).wf = true) (key : ByteArray) (_ : key.size ≤ maxLen) (q : Int) (_ : (Lit.int .u64 q).wf = true) :
    ∃ k, ratlinelaw03_IkeySought.f k x.f0 x.f1 x.f2 key q = some true := by
  refine ⟨10, ?_⟩
  have hawake : (ratlinelaw03_awake.f 9).bind (fun t => some t) = some true := by rw [show ratlinelaw03_awake.f 9 = some true from awake03 5]; rfl
  have hc : ∀ a b : Ik, ikey_Compare.f 9 a.f0 a.f1 a.f2 b.f0 b.f1 b.f2 = some (cmpI a b) := fun a b => compare_f 5 a b
  have hj : ratlinelaw03_IkeySought.j0 10 key q true x.f0 x.f1 x.f2 = some true := by
    simp only [ratlinelaw03_IkeySought.j0]
    rw [if_pos trivial]
    exact hawake
  unfold ratlinelaw03_IkeySought.f
  by_cases c1 : (key.size : Int) > 70
  · rw [if_pos c1]; exact hj
  · rw [if_neg c1]
    by_cases c2 : (x.f0.size : Int) > 70
    · rw [if_pos c2]; exact hj
    · rw [if_neg c2]
      by_cases c3 : x.f2 > 1
      · rw [decide_eq_true c3]; exact hj
      · rw [decide_eq_false c3]
        simp only [ratlinelaw03_IkeySought.j0]
        rw [if_neg (by decide)]
        have hso : ikey_Sought.f key q = some (key, q, 1) := rfl
        refine bind3 hso (fun t e1 e2 e3 => ?_)
        rw [e1, e2, e3]
        refine bind1 (hc x ⟨key, q, 1⟩) ?_
        have tail : (if key.toList = ([] : List UInt8) then ((ratlinelaw03_awake.f 9).bind fun t => (some t)) else (if (key.size : Int) > 64 then ((ratlinelaw03_awake.f 9).bind fun t => (some t)) else (if q > 72057594037927935 then ((ratlinelaw03_awake.f 9).bind fun t => (some t)) else ((ikey_Sought.f key q).bind fun bt => ((ikey_Right.f bt.1 bt.2.1 bt.2.2).bind fun t => (if t = true then ((ratlinelaw03_awake.f 9).bind fun u => (some u)) else (none))))))) = some true := by
          by_cases d1 : key.toList = []
          · rw [if_pos d1]; exact hawake
          · rw [if_neg d1]
            by_cases d2 : (key.size : Int) > 64
            · rw [if_pos d2]; exact hawake
            · rw [if_neg d2]
              by_cases d3 : q > 72057594037927935
              · rw [if_pos d3]; exact hawake
              · rw [if_neg d3]
                refine bind3 hso (fun t e1 e2 e3 => ?_)
                rw [e1, e2, e3]
                refine bind1 (right_f' _ _ _) ?_
                have hne : key.size ≠ 0 := fun h => d1 (ba_nil_iff.2 h)
                rw [decide_eq_true (show RightI ⟨key, q, 1⟩ from ⟨by show 1 ≤ key.size; omega, by show key.size ≤ 64; omega, by show q ≤ _; omega, by show (1 : Int) ≤ 1; omega⟩), if_pos rfl]
                exact hawake
        have hle := cmpI_le x ⟨key, q, 1⟩
        have hge := cmpI_le ⟨key, q, 1⟩ x
        rw [cmpI_neg x ⟨key, q, 1⟩] at hge
        simp only at hle hge
        generalize cmpI x ⟨key, q, 1⟩ = n at *
        by_cases g1 : Op.bytesLess key.toList x.f0.toList = true
        · rw [if_pos g1, if_pos (by rw [decide_eq_true (show n ≥ 0 from by have := hge.2 (.inl g1); omega)]; rfl)]
          exact tail
        · rw [if_neg g1]
          by_cases g2 : x.f0.toList = key.toList
          · have g3 : x.f0 = key := ba_ext g2
            rw [if_pos g2, if_pos ?_]
            · exact tail
            · have : n ≥ 0 ↔ x.f1 ≤ q := by
                constructor
                · intro h
                  rcases hge.1 (by omega) with a | ⟨_, b⟩
                  · exact absurd a (by rw [g3]; exact lt_irrefl key)
                  · omega
                · intro h
                  have := hge.2 (.inr ⟨g3.symm, by omega⟩)
                  omega
              rw [decide_eq_decide.2 this]
              exact beq_self_eq_true _
          · rw [if_neg g2, if_pos ?_]
            · exact tail
            · have : ¬ n ≥ 0 := fun h => by
                rcases hge.1 (by omega) with a | ⟨a, _⟩
                · exact g1 a
                · exact g2 (by rw [a])
              rw [decide_eq_false this]; rfl
end Go.Proofs.Ytojemmipkpckbaa.Pure
