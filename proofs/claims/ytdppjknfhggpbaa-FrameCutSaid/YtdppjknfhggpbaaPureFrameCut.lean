/- The pure statement of FrameCut: a front of a frame is none; no frame begins with another one. Conditions: those of the statement. Written for this claim. -/
import Derived.Test.YtdppjknfhggpbaaPx12
import Derived.Test.YtdppjknfhggpbaaFrameAwake
set_option linter.unusedVariables false
namespace Go.Proofs.Ytdppjknfhggpbaa.Pure
open Go Go.RowKit Go.Proofs.Ytdppjknfhggpbaa.P Go.Proofs.YtdppjknfhggpbaaG Go.Proofs.YtdppjknfhggpbaaL Go.Proofs.YtdppjknfhggpbaaW.PrintWords Go.Proofs.YtdppjknfhggpbaaW.PrintLast

theorem cut_j2 (k : Nat) {x y : List Int} (hx : By x) (hy : By y) (lx : x.length ≤ 300) (ly : y.length ≤ 300) : ratlinelaw05_FrameCut.j2 (k + 2) x y (fseal x) (fseal y) false = some true := by
  have hsl := seal_len x
  have hff : By [255, 255, 255, 255] := .cons (by omega) (by omega) (.cons (by omega) (by omega) (.cons (by omega) (by omega) (.cons (by omega) (by omega) .nil)))
  have hno : frame_Take.f (k + 1) ([255, 255, 255, 255] ++ (fseal x).drop 4) = some ([], [], 50) := by
    rcases frame_cases k ([255, 255, 255, 255] ++ (fseal x).drop 4) (hff.append ((seal_by hx).drop 4)) (by rw [List.length_append, List.length_drop]; simp; omega) with ⟨b, r, hb, he, _⟩ | ⟨hf, _⟩
    · exfalso
      have he2 : four 4294967295 ++ (fseal x).drop 4 = four b.length ++ (b ++ (four (crcOf (four b.length ++ b)) ++ r)) :=
        (show four 4294967295 ++ (fseal x).drop 4 = [255, 255, 255, 255] ++ (fseal x).drop 4 from rfl).trans (he.trans (by unfold fseal body; simp only [List.append_assoc]))
      have := (four_inj (by omega) (by omega) he2).1
      omega
    · exact hf
  simp only [ratlinelaw05_FrameCut.j2]
  rw [if_neg (by decide)]
  refine bind1 rfl ?_
  rw [if_pos (by omega)]
  refine bind1 rfl ?_
  rw [if_pos (by rw [List.length_drop]; simp; omega)]
  refine bind3 hno (fun t e1 e2 e3 => ?_)
  rw [if_pos e3]
  refine bind1 (same_f (seal_by hx) (seal_by hy)) ?_
  refine bind1 (same_f hx hy) ?_
  have hiff : fseal x = fseal y ↔ x = y := ⟨fun h => (seal_inj (x := []) (y := []) (by omega) (by omega) (by rw [h])).1, fun h => by rw [h]⟩
  rw [show decide (fseal x = fseal y) = decide (x = y) from decide_eq_decide.2 hiff, if_pos (beq_self_eq_true _), awake05]
  rfl
theorem cut_j1 (k : Nat) {x y : List Int} (hx : By x) (hy : By y) (lx : x.length ≤ 300) (ly : y.length ≤ 300) : ratlinelaw05_FrameCut.j1 (k + 3) x y (fseal x) (fseal y) false = some true := by
  simp only [ratlinelaw05_FrameCut.j1]
  rw [if_neg (by decide)]
  by_cases h : ((fseal x).length : Int) ≤ ((fseal y).length : Int)
  · rw [if_pos h, if_pos (by omega), Int.toNat_natCast]
    refine bind1 (same_f ((seal_by hy).take _) (seal_by hx)) ?_
    refine bind1 (same_f hx hy) ?_
    have hiff : (fseal y).take (fseal x).length = fseal x ↔ x = y := by
      refine ⟨fun h' => ?_, fun h' => by rw [h', List.take_length]⟩
      refine (seal_inj (x := (fseal y).drop (fseal x).length) (y := []) (by omega) (by omega) ?_).1
      rw [List.append_nil]
      conv => lhs; lhs; rw [← h']
      exact List.take_append_drop _ _
    rw [show decide ((fseal y).take (fseal x).length = fseal x) = decide (x = y) from decide_eq_decide.2 hiff, show (decide (x = y) != decide (x = y)) = false from by simp]
    exact cut_j2 k hx hy lx ly
  · rw [if_neg h]
    exact cut_j2 k hx hy lx ly
theorem FrameCut : ratlinelaw05_FrameCut.Pure := by
  intro x y a _ _ hx _ _ hy ha
  have hx := By.of_wf hx
  have hy := By.of_wf hy
  simp [Lit.wf, IntKind.min, IntKind.max, IntKind.bits, IntKind.signed] at ha
  refine ⟨10, ?_⟩
  have hawake : ratlinelaw05_FrameCut.j0 10 x y a true = some true := by
    simp only [ratlinelaw05_FrameCut.j0]
    rw [if_pos trivial, awake05]
    rfl
  unfold ratlinelaw05_FrameCut.f
  by_cases c1 : (x.length : Int) > 300
  · rw [if_pos c1]; exact hawake
  · rw [if_neg c1]
    by_cases c2 : (y.length : Int) > 300
    · rw [decide_eq_true c2]; exact hawake
    · rw [decide_eq_false c2]
      have hsl := seal_len x
      simp only [ratlinelaw05_FrameCut.j0]
      rw [if_neg (by decide)]
      refine bind1 (seal_f hx (by omega)) ?_
      refine bind1 (seal_f hy (by omega)) ?_
      obtain ⟨n, rfl⟩ := Int.eq_ofNat_of_zero_le ha.1
      have hw : wrap64 (n : Int) = (n : Int) := by unfold wrap64; omega
      have hm : Int.tmod (n : Int) ((fseal x).length : Int) = ((n % (fseal x).length : Nat) : Int) := rfl
      have hlt : n % (fseal x).length < (fseal x).length := Nat.mod_lt _ (by omega)
      rw [hw, hm]
      generalize n % (fseal x).length = m at *
      rw [if_neg (by omega), if_pos (by omega), if_pos (by omega), Int.toNat_natCast]
      have hno : frame_Take.f 9 ((fseal x).take m) = some ([], [], 50) := by
        rcases frame_cases 8 ((fseal x).take m) ((seal_by hx).take m) (by rw [List.length_take]; omega) with ⟨b, r, hb, he, _⟩ | ⟨hf, _⟩
        · exfalso
          have e2 : fseal x ++ [] = fseal b ++ (r ++ (fseal x).drop m) := by rw [← List.append_assoc, ← he, List.take_append_drop, List.append_nil]
          have e3 := congrArg List.length (seal_inj (by omega) hb e2).2
          rw [List.length_append, List.length_drop, List.length_nil] at e3
          omega
        · exact hf
      refine bind3 hno (fun t e1 e2 e3 => ?_)
      rw [if_pos e3, e1, e2, show (wrap64 ((([] : List Int).length : Int) + (([] : List Int).length : Int)) != 0) = false from by simp [wrap64]]
      exact cut_j1 6 hx hy (by omega) (by omega)
end Go.Proofs.Ytdppjknfhggpbaa.Pure
