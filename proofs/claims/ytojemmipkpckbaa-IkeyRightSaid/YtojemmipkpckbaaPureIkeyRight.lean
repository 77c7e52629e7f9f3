/- The pure statement of IkeyRight. Conditions: those of the statement. Written for this claim. -/
import Derived.Test.YtojemmipkpckbaaPx15
import Derived.Test.YtojemmipkpckbaaIkeyAwake
set_option linter.unusedVariables false
namespace Go.Proofs.Ytojemmipkpckbaa.Pure
open Go Go.RowKit Go.Proofs.Ytojemmipkpckbaa.P Go.Proofs.YtojemmipkpckbaaG Go.Proofs.YtojemmipkpckbaaL Go.Proofs.YtojemmipkpckbaaW.PrintWords Go.Proofs.YtojemmipkpckbaaW.PrintMore Go.Proofs.YtojemmipkpckbaaW.PrintLast

theorem right_e (x : Ik) (v : ByteArray) (a : ByteArray) (b c : Int) (h0 : x.f0 = a) (h1 : x.f1 = b) (h2 : x.f2 = c) : ikey_Entry.f a b c v = some (decide (RightI x) && decide ((v.size : Int) ≤ (if x.f2 = 0 then 0 else 256))) := by
  subst h0 h1 h2
  exact entry_f x v
theorem right_j1 (k : Nat) (v kk long : ByteArray) (q : Int) (h1 : 1 ≤ kk.size) (h2 : kk.size ≤ 64) (h3 : q ≤ 72057594037927935) (hv : v.size ≤ 256) (hl : long.size = 65) :
    ratlinelaw03_IkeyRight.j1 (k + 5) v false kk q 1 long q 1 = some true := by
  have r1 : RightI ⟨kk, q, 1⟩ := ⟨h1, h2, h3, by show (1 : Int) ≤ 1; omega⟩
  have r0 : RightI ⟨kk, q, 0⟩ := ⟨h1, h2, h3, by show (0 : Int) ≤ 1; omega⟩
  have rl : ¬ RightI ⟨long, q, 1⟩ := fun h => by have := h.2.1; simp only at this; omega
  simp only [ratlinelaw03_IkeyRight.j1]
  rw [if_neg (by decide)]
  refine bind1 (right_e ⟨kk, q, 1⟩ v _ _ _ rfl rfl rfl) ?_
  rw [if_pos (by rw [decide_eq_true r1, if_neg (show ¬ (1 : Int) = 0 by omega), decide_eq_true (by omega)]; rfl)]
  have hw : wrap64 (257 - (v.size : Int)) = ((257 - v.size : Nat) : Int) := by unfold wrap64; omega
  rw [hw, if_pos (by omega), Int.toNat_natCast, if_pos (by omega)]
  refine bind1 rfl ?_
  have hs : (strOfNums (List.replicate (257 - v.size) 0)).size = 257 - v.size := by rw [strOfNums_size, List.length_replicate]
  rw [if_pos (by rw [hs]; omega)]
  have hs2 : (v ++ strOfNums (List.replicate (257 - v.size) 0)).size = 257 := by rw [ByteArray.size_append, hs]; omega
  refine bind1 (right_e ⟨kk, q, 1⟩ _ _ _ _ rfl rfl rfl) ?_
  rw [if_neg (by rw [if_neg (show ¬ (1 : Int) = 0 by omega), hs2, decide_eq_false (show ¬ ((257 : Nat) : Int) ≤ 256 by omega), Bool.and_false]; decide)]
  refine bind1 (right_e ⟨kk, q, 0⟩ _ _ _ _ rfl rfl rfl) ?_
  rw [if_pos (by rw [decide_eq_true r0, if_pos rfl]; rfl)]
  refine bind1 (right_e ⟨kk, q, 0⟩ _ _ _ _ rfl rfl rfl) ?_
  have hz : (decide (RightI ⟨kk, q, 0⟩) && decide ((v.size : Int) ≤ (if (0 : Int) = 0 then 0 else 256))) = (v.toList == ([] : List UInt8)) := by
    rw [decide_eq_true r0, if_pos rfl, Bool.true_and]
    by_cases h : v.size = 0
    · rw [decide_eq_true (by omega), ba_nil_iff.2 h]; rfl
    · have : ¬ v.toList = [] := fun e => h (ba_nil_iff.1 e)
      rw [decide_eq_false (by omega), beq_false_of_ne this]
  rw [if_pos (by rw [hz]; exact beq_self_eq_true _)]
  refine bind1 (right_e ⟨long, q, 1⟩ _ _ _ _ rfl rfl rfl) ?_
  rw [if_neg (by rw [decide_eq_false rl, Bool.false_and]; decide), show ratlinelaw03_awake.f (k + 4) = some true from awake03 k]
  rfl
theorem IkeyRight : ratlinelaw03_IkeyRight.Pure := by
  intro x q v hx hq hv
  simp [Lit.wf, IntKind.min, IntKind.max, IntKind.bits, IntKind.signed] at hq
  refine ⟨10, ?_⟩
  have hj : ratlinelaw03_IkeyRight.j0 10 x q v true = some true := by
    simp only [ratlinelaw03_IkeyRight.j0]
    rw [if_pos trivial, show ratlinelaw03_awake.f 9 = some true from awake03 5]
    rfl
  unfold ratlinelaw03_IkeyRight.f
  by_cases c1 : (x.size : Int) > 300
  · rw [if_pos c1]; exact hj
  · rw [if_neg c1]
    by_cases c2 : (v.size : Int) > 600
    · rw [decide_eq_true c2]; exact hj
    · rw [decide_eq_false c2]
      simp only [ratlinelaw03_IkeyRight.j0]
      have e1 : (⟨#[120]⟩ : ByteArray).size = 1 := rfl
      have hs : (x ++ (⟨#[120]⟩ : ByteArray)).size = x.size + 1 := by rw [ByteArray.size_append, e1]
      obtain ⟨n, hn, hn1, hn2, hn3⟩ : ∃ n : Nat, mn (wrap64 ((x.size : Int) + 1)) 64 = (n : Int) ∧ 1 ≤ n ∧ n ≤ 64 ∧ n ≤ x.size + 1 := by
        have hw : wrap64 ((x.size : Int) + 1) = ((x.size + 1 : Nat) : Int) := by unfold wrap64; omega
        rw [hw]
        by_cases h : 64 < x.size + 1
        · exact ⟨64, by unfold mn; rw [if_pos (by omega)]; rfl, by omega, by omega, by omega⟩
        · exact ⟨x.size + 1, by unfold mn; rw [if_neg (by omega)], by omega, by omega, by omega⟩
      obtain ⟨m, hm, hm1, hm2⟩ : ∃ m : Nat, mn (v.size : Int) 256 = (m : Int) ∧ m ≤ 256 ∧ m ≤ v.size := by
        by_cases h : 256 < v.size
        · exact ⟨256, by unfold mn; rw [if_pos (by omega)]; rfl, by omega, by omega⟩
        · exact ⟨v.size, by unfold mn; rw [if_neg (by omega)], by omega, by omega⟩
      have hq1 : mn q 72057594037927935 ≤ 72057594037927935 := by unfold mn; split <;> omega
      have hq2 : 72057594037927936 ≤ mx q 72057594037927936 := by unfold mx; split <;> omega
      rw [hn, hm, hs, Int.toNat_natCast, Int.toNat_natCast]
      have hks : ((x ++ (⟨#[120]⟩ : ByteArray)).extract 0 n).size = n := by rw [ByteArray.size_extract, hs]; omega
      have hvs : (v.extract 0 m).size = m := by rw [ByteArray.size_extract]; omega
      generalize (x ++ (⟨#[120]⟩ : ByteArray)).extract 0 n = kk at *
      generalize v.extract 0 m = vv at *
      generalize mn q 72057594037927935 = qq at *
      generalize mx q 72057594037927936 = ql at *
      rw [if_neg (by decide), if_pos (by omega), if_pos (by omega), if_pos (by omega), if_pos (by omega), if_pos (by omega)]
      refine bind3 (one_f _ _ _) (fun t t1 t2 t3 => ?_)
      have hw : wrap64 (65 - (kk.size : Int)) = ((65 - n : Nat) : Int) := by unfold wrap64; omega
      rw [t1, t2, t3, hw, if_pos (by omega), Int.toNat_natCast, if_pos (by omega)]
      refine bind1 rfl ?_
      have hz : (strOfNums (List.replicate (65 - n) 0)).size = 65 - n := by rw [strOfNums_size, List.length_replicate]
      have hls : (kk ++ strOfNums (List.replicate (65 - n) 0)).size = 65 := by rw [ByteArray.size_append, hz]; omega
      rw [if_pos (by rw [hz]; omega)]
      generalize kk ++ strOfNums (List.replicate (65 - n) 0) = long at *
      refine bind1 (right_f' _ _ _) ?_
      rw [decide_eq_true (show RightI ⟨kk, qq, 1⟩ from ⟨by show 1 ≤ kk.size; omega, by show kk.size ≤ 64; omega, hq1, by show (1 : Int) ≤ 1; omega⟩), if_pos rfl]
      refine bind1 (right_f' _ _ _) ?_
      rw [decide_eq_false (show ¬ RightI ⟨long, qq, 1⟩ from fun h => by have := h.2.1; simp only at this; omega), if_neg (by decide)]
      refine bind1 (right_f' _ _ _) ?_
      rw [decide_eq_false (show ¬ RightI ⟨kk, ql, 1⟩ from fun h => by have := h.2.2.1; simp only at this; omega), if_neg (by decide)]
      refine bind1 (right_f' _ _ _) ?_
      rw [decide_eq_false (show ¬ RightI ⟨kk, qq, 2⟩ from fun h => by have := h.2.2.2; simp only at this; omega), if_neg (by decide)]
      refine bind3 (one_f _ _ _) (fun u u1 u2 u3 => ?_)
      rw [u1, u2, u3]
      refine bind1 (right_f' _ _ _) ?_
      rw [decide_eq_false (show ¬ RightI ⟨⟨#[]⟩, qq, 1⟩ from fun h => by have h1 : 1 ≤ (⟨#[]⟩ : ByteArray).size := h.1; exact absurd h1 (by decide))]
      exact right_j1 4 vv kk long qq (by omega) (by omega) hq1 (by omega) hls
end Go.Proofs.Ytojemmipkpckbaa.Pure
