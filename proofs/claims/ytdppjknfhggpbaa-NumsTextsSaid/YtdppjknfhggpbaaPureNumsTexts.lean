/- The pure statement of NumsTexts: a text that is too long, or cut short, is none. Conditions: those of the statement. Written for this claim. -/
import Derived.Test.YtdppjknfhggpbaaPx6
import Derived.Test.YtdppjknfhggpbaaNumsAwake
set_option linter.unusedVariables false
namespace Go.Proofs.Ytdppjknfhggpbaa.Pure
open Go Go.RowKit Go.Proofs.Ytdppjknfhggpbaa.P Go.Proofs.YtdppjknfhggpbaaG Go.Proofs.YtdppjknfhggpbaaL Go.Proofs.YtdppjknfhggpbaaW.PrintWords Go.Proofs.YtdppjknfhggpbaaW.PrintLast

theorem nil_list : (⟨#[]⟩ : ByteArray).toList = [] := by
  rw [toList_data]
theorem texts_j0 (k : Nat) (s : ByteArray) (hs : s.size ≤ 300) (a : Int) (h0 : 0 ≤ a) (h1 : a < 65536) :
    ratlinelaw02_NumsTexts.j0 (k + 1) s a (vint s.size ++ bytesOf s) false = some true := by
  have hv := vint_len10 (x := s.size) (by omega)
  have hp := vint_pos s.size
  have hl : (vint s.size ++ bytesOf s).length = (vint s.size).length + s.size := by rw [List.length_append, bytesOf_length]
  simp only [ratlinelaw02_NumsTexts.j0]
  rw [if_neg (by decide), wrap_u64_nat (by omega)]
  refine bind1 (put_f (by omega) (by rw [List.length_nil]; omega)) ?_
  rw [List.nil_append, if_pos (by rw [hl]; unfold wrap64; omega), if_neg (by omega)]
  have hw : wrap64 a = a := by unfold wrap64; omega
  rw [hw]
  obtain ⟨n, rfl⟩ := Int.eq_ofNat_of_zero_le h0
  have hm : Int.tmod (n : Int) ((vint s.size ++ bytesOf s).length : Int) = ((n % (vint s.size ++ bytesOf s).length : Nat) : Int) := by
    rw [Int.tmod_eq_emod_of_nonneg (by omega)]; omega
  rw [hm]
  have hlt : n % (vint s.size ++ bytesOf s).length < (vint s.size ++ bytesOf s).length := Nat.mod_lt _ (by omega)
  generalize n % (vint s.size ++ bytesOf s).length = m at *
  rw [if_pos (by omega), if_pos (by omega), Int.toNat_natCast]
  have hby : By (vint s.size ++ bytesOf s) := (vint_by _).append (bytesOf_by s)
  have hno : nums_TakeText.f ((vint s.size ++ bytesOf s).take m) 300 = some (⟨#[]⟩, [], false) := by
    rcases takeText_cases ((vint s.size ++ bytesOf s).take m) 300 (by omega) (hby.take m) (by rw [List.length_take]; omega) with ⟨u, rest, hu, he, _⟩ | ⟨hf, _⟩
    · exfalso
      have e2 : vint s.size ++ bytesOf s = vint u.size ++ (bytesOf u ++ rest ++ (vint s.size ++ bytesOf s).drop m) := by
        rw [← List.append_assoc, ← he, List.take_append_drop]
      obtain ⟨e3, e4⟩ := vint_append_inj (by omega) (by omega) e2
      have e5 := congrArg List.length e4
      rw [List.length_append, List.length_append, List.length_drop, bytesOf_length, bytesOf_length] at e5
      omega
    · exact hf
  refine bind3 hno (fun t e1 e2 e3 => ?_)
  rw [if_neg (by rw [e3]; decide), if_pos (by rw [e1]; exact nil_list), if_pos (by rw [e2]; rfl), awake02]
  rfl

theorem NumsTexts : ratlinelaw02_NumsTexts.Pure := by
  intro s most a _ hmost ha
  simp [Lit.wf, IntKind.min, IntKind.max, IntKind.bits, IntKind.signed] at hmost ha
  refine ⟨1, ?_⟩
  unfold ratlinelaw02_NumsTexts.f
  by_cases c1 : (s.size : Int) > 300
  · rw [if_pos c1, awake02]; rfl
  · rw [if_neg c1]
    have hv := vint_len10 (x := s.size) (by omega)
    refine bind1 (putText_f (by rw [List.length_nil]; omega)) ?_
    rw [List.nil_append]
    have hfin := texts_j0 0 s (by omega) a ha.1 (by omega)
    by_cases c2 : (s.size : Int) ≤ most
    · have hy := takeText_yes s [] most (by omega) By.nil (by rw [List.length_nil]; omega) c2
      rw [List.append_nil] at hy
      refine bind3 hy (fun t e1 e2 e3 => ?_)
      rw [e3, decide_eq_true (show most ≥ (s.size : Int) from c2), if_neg (by decide), if_pos rfl, if_pos (by rw [e1]), if_pos (by rw [e2]; rfl)]
      exact hfin
    · have hby : By (vint s.size ++ bytesOf s) := (vint_by _).append (bytesOf_by s)
      rcases takeText_cases (vint s.size ++ bytesOf s) most (by omega) hby (by rw [List.length_append, bytesOf_length]; omega) with ⟨u, rest, hu, he, _⟩ | ⟨hf, _⟩
      · exfalso
        have hlen := congrArg List.length he
        rw [List.length_append, List.length_append, List.length_append, bytesOf_length, bytesOf_length] at hlen
        obtain ⟨e3, _⟩ := vint_append_inj (by omega) (by omega) he
        omega
      · refine bind3 hf (fun t e1 e2 e3 => ?_)
        rw [e3, decide_eq_false (show ¬ most ≥ (s.size : Int) from c2), if_neg (by decide), if_neg (by decide), if_pos (by rw [e1]; exact nil_list), e2]
        exact hfin
end Go.Proofs.Ytdppjknfhggpbaa.Pure
