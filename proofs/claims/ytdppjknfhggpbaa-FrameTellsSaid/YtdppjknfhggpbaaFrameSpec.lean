/- What frame.Sum, Seal, Take come to, on bytes; the chapter's examples. Conditions: those of each theorem. Written for this claim. -/
import Derived.Test.YtdppjknfhggpbaaNumsFour
import Derived.Test.YtdppjknfhggpbaaFrame
import Derived.Test.YtdppjknfhggpbaaPx1
import Derived.Test.YtdppjknfhggpbaaPx3
set_option linter.unusedVariables false
namespace Go.Proofs.YtdppjknfhggpbaaL
open Go Go.RowKit Go.Proofs.YtdppjknfhggpbaaG Go.Proofs.Ytdppjknfhggpbaa.P Go.Proofs.YtdppjknfhggpbaaW.PrintWords

theorem sum_f {l : List Int} (h : By l) : frame_Sum.f l = some (crcOf l : Int) := by
  have h : ∀ c ∈ l, 0 ≤ c ∧ c < 256 := h
  unfold frame_Sum.f
  rw [if_pos h]
/-- A frame ahead of its sum; a frame. -/
def body (l : List Int) : List Int := four l.length ++ l
def fseal (l : List Int) : List Int := body l ++ four (crcOf (body l))
theorem body_by {l : List Int} (h : By l) : By (body l) := (four_by _).append h
theorem body_len (l : List Int) : (body l).length = 4 + l.length := by rw [body, List.length_append, four_len]
theorem seal_by {l : List Int} (h : By l) : By (fseal l) := (body_by h).append (four_by _)
theorem seal_len (l : List Int) : (fseal l).length = 8 + l.length := by rw [fseal, List.length_append, body_len, four_len]; omega
theorem seal_f {l : List Int} (h : By l) (hl : l.length ≤ 1048576) : frame_Seal.f l = some (fseal l) := by
  unfold frame_Seal.f
  rw [if_neg (by omega), show ((l.length : Int)) % 4294967296 = (l.length : Int) from by omega]
  refine bind1 (putFour_f (by omega) (by rw [List.length_nil]; omega)) ?_
  rw [List.nil_append, if_pos (by rw [four_len]; omega)]
  refine bind1 rfl ?_
  refine bind1 (sum_f (body_by h)) ?_
  refine bind1 (putFour_f (crcOf_lt (body_by h)) (by rw [List.length_append, four_len]; omega)) ?_
  rfl
theorem seal_long {l : List Int} (hl : 1048576 < l.length) : frame_Seal.f l = some [] := by
  unfold frame_Seal.f
  rw [if_pos (by omega)]

theorem four_inj {x y : Nat} (hx : x < 4294967296) (hy : y < 4294967296) {a b : List Int} (h : four x ++ a = four y ++ b) : x = y ∧ a = b := by
  unfold four at h
  simp only [List.cons_append, List.nil_append, List.cons.injEq] at h
  obtain ⟨h0, h1, h2, h3, h4⟩ := h
  exact ⟨by omega, h4⟩
/-- No frame begins with another one. -/
theorem seal_inj {a b x y : List Int} (ha : a.length ≤ 1048576) (hb : b.length ≤ 1048576) (h : fseal a ++ x = fseal b ++ y) : a = b ∧ x = y := by
  unfold fseal body at h
  simp only [List.append_assoc] at h
  obtain ⟨h1, h2⟩ := four_inj (by omega) (by omega) h
  obtain ⟨h3, h4⟩ := List.append_inj h2 h1
  subst h3
  exact ⟨rfl, (List.append_inj h4 rfl).2⟩
theorem frame_cases (k : Nat) (l : List Int) (hb : By l) (hl : l.length + 20 < 140737488355328) :
    (∃ b rest : List Int, b.length ≤ 1048576 ∧ l = fseal b ++ rest ∧ frame_Take.f (k + 1) l = some (b, rest, 0)) ∨
    (frame_Take.f (k + 1) l = some ([], [], 50) ∧ ∀ b rest : List Int, b.length ≤ 1048576 → l ≠ fseal b ++ rest) := by
  have hj : ∀ x y z, frame_Take.j0 (k + 1) x y z true = some ([], [], 50) := fun x y z => by
    simp only [frame_Take.j0]
    rw [if_pos trivial]
  unfold frame_Take.f
  rcases takeFour_cases l hb (by omega) with ⟨h4, hf⟩ | ⟨h4, n, rest, hn, he, hf⟩
  · right
    refine ⟨?_, fun b r hbl e => ?_⟩
    · refine bind3 hf (fun t e1 e2 e3 => ?_)
      rw [if_neg (by rw [e3]; decide)]
      exact hj _ _ _
    · rw [e, List.length_append, seal_len] at h4; omega
  · have hr : By rest := By.right (he ▸ hb)
    have hlen : l.length = 4 + rest.length := by rw [he, List.length_append, four_len]
    by_cases h1 : (n : Int) > 1048576
    · right
      refine ⟨?_, fun b r hbl e => ?_⟩
      · refine bind3 hf (fun t e1 e2 e3 => ?_)
        rw [if_pos e3, e1, if_pos h1]
        exact hj _ _ _
      · rw [he, fseal, body] at e
        simp only [List.append_assoc] at e
        have := (four_inj hn (by omega) e).1
        omega
    · have hw : wrap64 (wrap64 (n : Int) + 4) = ((n + 4 : Nat) : Int) := by unfold wrap64; omega
      by_cases h2 : rest.length < n + 4
      · right
        refine ⟨?_, fun b r hbl e => ?_⟩
        · refine bind3 hf (fun t e1 e2 e3 => ?_)
          rw [if_pos e3, e1, if_neg h1, e2, hw, decide_eq_true (by omega)]
          exact hj _ _ _
        · rw [he, fseal, body] at e
          simp only [List.append_assoc] at e
          obtain ⟨e4, e5⟩ := four_inj hn (by omega) e
          have e6 := congrArg List.length e5
          rw [List.length_append, List.length_append, four_len] at e6
          omega
      · -- enough bytes: the sum decides
        have hdr : By (rest.drop n) := hr.drop n
        have hdl : (rest.drop n).length = rest.length - n := List.length_drop
        rcases takeFour_cases (rest.drop n) hdr (by omega) with ⟨h5, _⟩ | ⟨h5, m, behind, hm, he2, hf2⟩
        · omega
        have htl : (rest.take n).length = n := by rw [List.length_take]; omega
        have hbody : l.take (4 + n) = body (rest.take n) := by
          rw [body, htl, he, ← four_len n, List.take_length_add_append]
        have hl2 : l = body (rest.take n) ++ (four m ++ behind) := by
          rw [body, htl, List.append_assoc, ← he2, List.take_append_drop]; exact he
        have hby2 : By (body (rest.take n)) := body_by (hr.take n)
        have hfold : frame_Take.f (k + 1) l = if (m : Int) = (crcOf (body (rest.take n)) : Int) then some (rest.take n, behind, 0) else some ([], [], 50) := by
          unfold frame_Take.f
          refine bind3 hf (fun t e1 e2 e3 => ?_)
          rw [if_pos e3, e1, if_neg h1, e2, hw, decide_eq_false (by omega)]
          simp only [frame_Take.j0]
          rw [if_neg (by decide), if_pos (by omega), if_pos (by omega), Int.toNat_natCast]
          refine bind3 hf2 (fun t e1 e2 e3 => ?_)
          rw [show (4 + (n : Int)) % 4294967296 = ((4 + n : Nat) : Int) from by omega, if_pos (by omega), if_pos (by omega), Int.toNat_natCast, hbody]
          refine bind1 (sum_f hby2) ?_
          rw [e1, e2]
          by_cases hs : (m : Int) = (crcOf (body (rest.take n)) : Int)
          · rw [if_pos hs, if_pos hs]
            exact bind1 (clone_f (by omega)) rfl
          · rw [if_neg hs, if_neg hs]
        have hfold2 := hfold
        unfold frame_Take.f at hfold2
        by_cases hs : (m : Int) = (crcOf (body (rest.take n)) : Int)
        · left
          refine ⟨rest.take n, behind, by omega, ?_, ?_⟩
          · rw [fseal, List.append_assoc, show crcOf (body (rest.take n)) = m from by omega]; exact hl2
          · rw [hfold2, if_pos hs]
        · right
          refine ⟨by rw [hfold2, if_neg hs], fun b r hbl e => hs ?_⟩
          have e' := e
          rw [he, fseal, body] at e
          simp only [List.append_assoc] at e
          obtain ⟨e4, e5⟩ := four_inj hn (by omega) e
          have hb2 : rest.take n = b := by rw [e5, e4, List.take_left]
          rw [hl2, hb2, fseal, List.append_assoc] at e'
          have e6 := (List.append_inj e' rfl).2
          have hbb : By b := hb2 ▸ hr.take n
          rw [hb2, (four_inj hm (crcOf_lt (body_by hbb)) e6).1]
end Go.Proofs.YtdppjknfhggpbaaL
