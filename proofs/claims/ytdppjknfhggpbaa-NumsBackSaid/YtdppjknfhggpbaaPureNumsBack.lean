/- The pure statement of NumsBack: what is put is taken, what is taken is put as it stood. Conditions: those of the statement. Written for this claim. -/
import Derived.Test.YtdppjknfhggpbaaPx16
import Derived.Test.YtdppjknfhggpbaaNumsFour
import Derived.Test.YtdppjknfhggpbaaNumsAwake
set_option linter.unusedVariables false
namespace Go.Proofs.Ytdppjknfhggpbaa.Pure
open Go Go.RowKit Go.Proofs.Ytdppjknfhggpbaa.P Go.Proofs.YtdppjknfhggpbaaG Go.Proofs.YtdppjknfhggpbaaL Go.Proofs.YtdppjknfhggpbaaW.PrintWords Go.Proofs.YtdppjknfhggpbaaW.PrintLast

theorem u64_nat {a : Int} (h : (Lit.int .u64 a).wf = true) : ∃ x : Nat, a = (x : Int) ∧ x < 18446744073709551616 := by
  simp [Lit.wf, IntKind.min, IntKind.max, IntKind.bits, IntKind.signed] at h
  exact ⟨a.toNat, by omega, by omega⟩

theorem back_j3 (k : Nat) (l : List Int) (hb : By l) (hl : l.length ≤ 200) : ratlinelaw02_NumsBack.j3 (k + 1) l false = some true := by
  simp only [ratlinelaw02_NumsBack.j3]
  rw [if_neg (by decide)]
  rcases takeFour_cases l hb (by omega) with ⟨h, hf⟩ | ⟨h, x, rest, hx, he, hf⟩
  · refine bind3 hf (fun t e1 e2 e3 => ?_)
    rw [e3, if_pos (by rw [decide_eq_false (by omega)]; rfl), if_neg (by decide), awake02]
    rfl
  · have hlen : l.length = 4 + rest.length := by rw [he, List.length_append, four_len]
    refine bind3 hf (fun t e1 e2 e3 => ?_)
    rw [e3, if_pos (by rw [decide_eq_true (by omega)]; rfl), if_pos rfl, e1, e2]
    refine bind1 (putFour_f hx (by rw [List.length_nil]; omega)) ?_
    rw [List.nil_append, if_pos (by rw [four_len]; omega), ← he]
    refine bind1 (aw_s l) ?_
    rw [if_pos rfl, awake02]
    rfl
theorem back_j2 (k : Nat) (l : List Int) (hb : By l) (hl : l.length ≤ 200) : ratlinelaw02_NumsBack.j2 (k + 2) l false = some true := by
  simp only [ratlinelaw02_NumsBack.j2]
  rw [if_neg (by decide)]
  rcases takeText_cases l 300 (by omega) hb (by omega) with ⟨s, rest, hs, he, hf⟩ | ⟨hf, _⟩
  · have hlen : l.length = (vint s.size).length + (s.size + rest.length) := by rw [he, List.length_append, List.length_append, bytesOf_length]
    refine bind3 hf (fun t e1 e2 e3 => ?_)
    rw [if_pos e3, e1, e2]
    refine bind1 (putText_f (by rw [List.length_nil]; omega)) ?_
    rw [List.nil_append, if_pos (by rw [List.length_append, bytesOf_length]; omega), List.append_assoc, ← he]
    refine bind1 (aw_s l) ?_
    exact back_j3 k l hb hl
  · refine bind3 hf (fun t e1 e2 e3 => ?_)
    rw [if_neg (by rw [e3]; decide)]
    exact back_j3 k l hb hl
theorem back_j1 (k : Nat) (l : List Int) (hb : By l) (hl : l.length ≤ 200) : ratlinelaw02_NumsBack.j1 (k + 3) l false = some true := by
  simp only [ratlinelaw02_NumsBack.j1]
  rw [if_neg (by decide)]
  rcases take_cases l hb (by omega) with ⟨x, rest, hx, he, hf⟩ | ⟨hf, _⟩
  · have hlen : l.length = (vint x).length + rest.length := by rw [he, List.length_append]
    refine bind3 hf (fun t e1 e2 e3 => ?_)
    rw [if_pos e3, e1, e2]
    refine bind1 (put_f hx (by rw [List.length_nil]; omega)) ?_
    rw [List.nil_append, if_pos (by omega), ← he]
    refine bind1 (aw_s l) ?_
    exact back_j2 k l hb hl
  · refine bind3 hf (fun t e1 e2 e3 => ?_)
    rw [if_neg (by rw [e3]; decide)]
    exact back_j2 k l hb hl

theorem NumsBack : ratlinelaw02_NumsBack.Pure := by
  intro a0 a1 l2 l3 h0 _ _ _ h2 _ _ h3
  obtain ⟨x, rfl, hx⟩ := u64_nat h0
  have hb2 := By.of_wf h2
  have hb3 := By.of_wf h3
  refine ⟨4, ?_⟩
  unfold ratlinelaw02_NumsBack.f
  have out : ratlinelaw02_NumsBack.j0 4 (x : Int) a1 l2 l3 true = some true := by
    simp only [ratlinelaw02_NumsBack.j0]
    simp only [if_true]
    rw [awake02]
    rfl
  by_cases c1 : (a1.size : Int) > 300
  · rw [if_pos c1]; exact out
  · rw [if_neg c1]
    by_cases c2 : (l2.length : Int) > 100
    · rw [if_pos c2]; exact out
    · rw [if_neg c2]
      by_cases c3 : (l3.length : Int) > 200
      · rw [decide_eq_true c3]; exact out
      · rw [decide_eq_false c3]
        have hl := vint_len10 hx
        have hl1 := vint_len10 (x := a1.size) (by omega)
        simp only [ratlinelaw02_NumsBack.j0]
        rw [if_neg (by decide)]
        refine bind1 (put_f hx (by rw [List.length_nil]; omega)) ?_
        rw [List.nil_append, if_pos (by omega)]
        refine bind3 (take_vint x l2 hx hb2 (by omega)) (fun t e1 e2 e3 => ?_)
        refine bind1 (putText_f (by rw [List.length_nil]; omega)) ?_
        rw [List.nil_append, if_pos (by rw [List.length_append, bytesOf_length]; omega), List.append_assoc]
        refine bind3 (takeText_yes a1 l2 300 (by omega) hb2 (by omega) (by omega)) (fun u u1 u2 u3 => ?_)
        rw [show ((x : Int) % 4294967296) = ((x % 4294967296 : Nat) : Int) from by omega]
        refine bind1 (putFour_f (by omega) (by rw [List.length_nil]; omega)) ?_
        rw [List.nil_append, if_pos (by rw [four_len]; omega)]
        refine bind3 (takeFour_four _ l2 (by omega) hb2 (by omega)) (fun v v1 v2 v3 => ?_)
        rw [if_pos e3, if_pos e1, e2]
        refine bind1 (aw_s l2) ?_
        rw [if_pos rfl, if_pos u3, if_pos (by rw [u1]), u2]
        refine bind1 (aw_s l2) ?_
        rw [if_pos rfl, if_pos v3, if_pos v1, v2]
        refine bind1 (aw_s l2) ?_
        exact back_j1 0 l3 hb3 (by omega)
end Go.Proofs.Ytdppjknfhggpbaa.Pure
