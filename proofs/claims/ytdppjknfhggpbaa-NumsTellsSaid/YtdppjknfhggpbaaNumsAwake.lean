/- The chapter's examples (layer 2) are true. No conditions. Written for this claim. -/
import Derived.Test.YtdppjknfhggpbaaNumsSpec
set_option linter.unusedVariables false
namespace Go.Proofs.YtdppjknfhggpbaaL
open Go Go.RowKit Go.Proofs.YtdppjknfhggpbaaG Go.Proofs.Ytdppjknfhggpbaa.P Go.Proofs.YtdppjknfhggpbaaW.PrintWords

theorem aw_t1 : nums_Take.f [172, 2, 9] = some (300, [9], true) := by decide +kernel
theorem aw_t2 : nums_Take.f [128] = some (0, [], false) := by decide +kernel
theorem aw_t3 : nums_Take.f [128, 0] = some (0, [], false) := by decide +kernel
theorem aw_t4 : nums_Take.f [255, 255, 255, 255, 255, 255, 255, 255, 255, 255, 1] = some (0, [], false) := by decide +kernel
theorem aw_t5 : nums_TakeText.f [2, 97, 98, 7] 2 = some (⟨#[97, 98]⟩, [7], true) := by decide +kernel
theorem aw_t6 : nums_TakeText.f [2, 97, 98, 7] 1 = some (⟨#[]⟩, [], false) := by decide +kernel
theorem aw_p1 : nums_Put.f [] 0 = some [0] := by rw [show (0 : Int) = ((0 : Nat) : Int) from rfl, put_f (by omega) (by simp), vint_small (by omega)]; rfl
theorem aw_p2 : nums_Put.f [] 127 = some [127] := by rw [show (127 : Int) = ((127 : Nat) : Int) from rfl, put_f (by omega) (by simp), vint_small (by omega)]; rfl
theorem aw_p3 : nums_Put.f [] 128 = some [128, 1] := by rw [show (128 : Int) = ((128 : Nat) : Int) from rfl, put_f (by omega) (by simp), vint_big (by omega), vint_small (by omega)]; rfl
theorem aw_p4 : nums_Put.f [] 300 = some [172, 2] := by rw [show (300 : Int) = ((300 : Nat) : Int) from rfl, put_f (by omega) (by simp), vint_big (by omega), vint_small (by omega)]; rfl
theorem aw_p5 : nums_PutText.f [] (⟨#[97, 98]⟩ : ByteArray) = some [2, 97, 98] := by rw [putText_f (by decide)]; rw [show (⟨#[97, 98]⟩ : ByteArray).size = 2 from rfl, vint_small (by omega)]; rfl
theorem aw_p6 : nums_PutFour.f [] 258 = some [2, 1, 0, 0] := by decide +kernel
theorem aw_s (l : List Int) : ratlinelaw02_Same.f l l = some true := by unfold ratlinelaw02_Same.f; rw [beq_self_eq_true]

theorem awake02 : ratlinelaw02_awake.f = some true := by
  unfold ratlinelaw02_awake.f
  simp only [aw_t1, aw_t2, aw_t3, aw_t4, aw_t5, aw_t6, aw_p1, aw_p2, aw_p3, aw_p4, aw_p5, aw_p6, aw_s, Option.bind_some, if_true, if_false, Bool.false_eq_true]
  decide +kernel
end Go.Proofs.YtdppjknfhggpbaaL
