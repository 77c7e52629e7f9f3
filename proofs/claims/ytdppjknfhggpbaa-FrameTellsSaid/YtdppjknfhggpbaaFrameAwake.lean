/- The chapter's examples (layer 5) are true. No conditions. Written for this claim. -/
import Derived.Test.YtdppjknfhggpbaaPx4
import Derived.Test.YtdppjknfhggpbaaFrameSpec
set_option linter.unusedVariables false
namespace Go.Proofs.YtdppjknfhggpbaaL
open Go Go.RowKit Go.Proofs.YtdppjknfhggpbaaG Go.Proofs.Ytdppjknfhggpbaa.P Go.Proofs.YtdppjknfhggpbaaW.PrintWords

theorem take_fseal (k : Nat) {b rest : List Int} (hb : By b) (hr : By rest) (hl : b.length ≤ 1048576) (hl2 : rest.length + 2000000 < 140737488355328) : frame_Take.f (k + 1) (fseal b ++ rest) = some (b, rest, 0) := by
  rcases frame_cases k (fseal b ++ rest) ((seal_by hb).append hr) (by rw [List.length_append, seal_len]; omega) with ⟨c, r, hc, he, hf⟩ | ⟨_, hno⟩
  · obtain ⟨rfl, rfl⟩ := seal_inj hl hc he
    exact hf
  · exact absurd rfl (hno b rest hl)
theorem take_short (k : Nat) {l : List Int} (hb : By l) (h : l.length < 8) : frame_Take.f (k + 1) l = some ([], [], 50) := by
  rcases frame_cases k l hb (by omega) with ⟨c, r, hc, he, _⟩ | ⟨hf, _⟩
  · rw [he, List.length_append, seal_len] at h; omega
  · exact hf
theorem crc_nil : crcOf [] = 4294967295 := rfl
theorem crc_255 : crcOf [255] = 16777215 := by decide +kernel
theorem crc_0 : crcOf [0] = 3232617357 := by decide +kernel

theorem awake05 (k : Nat) : ratlinelaw05_awake.f (k + 1) = some true := by
  have b7 : By [7] := .cons (by omega) (by omega) .nil
  have b5 : By [5] := .cons (by omega) (by omega) .nil
  unfold ratlinelaw05_awake.f
  refine bind1 (seal_f .nil (by decide)) ?_
  refine bind1 rfl ?_
  rw [if_pos (by rw [seal_len]; decide)]
  refine bind1 rfl ?_
  rw [List.nil_append, if_pos (by rw [seal_len]; decide)]
  refine bind3 (take_fseal k .nil b5 (by decide) (by decide)) (fun t e1 e2 e3 => ?_)
  refine bind1 (seal_f b7 (by decide)) ?_
  refine bind3 (take_short k (l := [0, 0, 0, 0, 1, 2, 3]) (by intro c hc; simp at hc; omega) (by decide)) (fun u f1 f2 f3 => ?_)
  refine bind1 (sum_f .nil) ?_
  rw [crc_nil, if_pos (by decide)]
  refine bind1 (sum_f (.cons (by omega) (by omega) .nil)) ?_
  rw [crc_255, if_pos (by decide)]
  refine bind1 (sum_f (.cons (by omega) (by omega) .nil)) ?_
  rw [crc_0, if_pos (by decide), if_pos (by rw [seal_len]; rfl), if_pos (by rw [e1]; rfl), e2]
  refine bind1 (same_f b5 b5) ?_
  rw [decide_eq_true rfl, if_pos rfl, if_pos e3, if_pos (by rw [seal_len]; rfl), if_pos (by rw [seal_len]; decide)]
  refine bind1 (same_f ((seal_by b7).take 5) (.cons (by omega) (by omega) (.cons (by omega) (by omega) (.cons (by omega) (by omega) (.cons (by omega) (by omega) (.cons (by omega) (by omega) .nil)))))) ?_
  rw [decide_eq_true (show List.take 5 (fseal [7]) = [1, 0, 0, 0, 7] from rfl), if_pos rfl, f3]
  rfl
end Go.Proofs.YtdppjknfhggpbaaL
