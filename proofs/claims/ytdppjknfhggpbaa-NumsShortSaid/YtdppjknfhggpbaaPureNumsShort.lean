/- The pure statement of NumsShort: how many bytes a number has; no form begins with another one; cut short it says nothing. Conditions: those of the statement. Written for this claim. -/
import Derived.Test.YtdppjknfhggpbaaPx5
import Derived.Test.YtdppjknfhggpbaaNumsAwake
set_option linter.unusedVariables false
namespace Go.Proofs.Ytdppjknfhggpbaa.Pure
open Go Go.RowKit Go.Proofs.Ytdppjknfhggpbaa.P Go.Proofs.YtdppjknfhggpbaaG Go.Proofs.YtdppjknfhggpbaaL Go.Proofs.YtdppjknfhggpbaaW.PrintWords Go.Proofs.YtdppjknfhggpbaaW.PrintLast

/-- How many bytes more. -/
def vmore (z : Nat) : Nat := if z = 0 then 0 else (vint z).length
theorem vmore_step {z : Nat} (h : 0 < z) : vmore z = 1 + vmore (z / 128) := by
  unfold vmore
  rw [if_neg (by omega)]
  by_cases hb : 127 < z
  · rw [vint_big hb, if_neg (by omega)]; simp; omega
  · rw [vint_small hb, if_pos (by omega)]; simp
theorem vint_more (x : Nat) : (vint x).length = 1 + vmore (x / 128) := by
  rcases Nat.eq_zero_or_pos x with rfl | h
  · rw [vint_small (by omega)]; simp [vmore]
  · have := vmore_step h
    unfold vmore at this
    rw [if_neg (by omega)] at this
    exact this
theorem vint_mono {x y : Nat} (h : x ≤ y) : (vint x).length ≤ (vint y).length := by
  induction y using Nat.strongRecOn generalizing x with
  | ind y ih =>
    by_cases hy : 127 < y
    · by_cases hx : 127 < x
      · rw [vint_big hx, vint_big hy]
        have := ih (y / 128) (by omega) (x := x / 128) (by omega)
        simpa using this
      · have := vint_pos y
        rw [vint_small hx, List.length_singleton]
        exact this
    · rw [vint_small hy, vint_small (by omega)]; simp
theorem vint_at : ∀ (x i : Nat), i < (vint x).length → (127 < (vint x).getD i 0 ↔ i + 1 < (vint x).length) := by
  intro x
  induction x using Nat.strongRecOn with
  | ind x ih =>
    intro i hi
    by_cases h : 127 < x
    · have hp := vint_pos (x / 128)
      rw [vint_big h] at hi ⊢
      cases i with
      | zero =>
        simp
        omega
      | succ i =>
        have := ih (x / 128) (by omega) i (by simpa using hi)
        simpa using this
    · rw [vint_small h] at hi ⊢
      simp at hi
      subst hi
      simp
      omega
theorem cut_none (x i : Nat) (hx : x < 18446744073709551616) (hi : i < (vint x).length) : nums_Take.f ((vint x).take i) = some (0, [], false) := by
  have hl := vint_len10 hx
  rcases take_cases ((vint x).take i) ((vint_by x).take i) (by rw [List.length_take]; omega) with ⟨y, rest, hy, he, _⟩ | ⟨hf, _⟩
  · exfalso
    have e2 : vint x ++ [] = vint y ++ (rest ++ (vint x).drop i) := by rw [← List.append_assoc, ← he, List.take_append_drop, List.append_nil]
    obtain ⟨_, e4⟩ := vint_append_inj hx hy e2
    have e5 := congrArg List.length e4
    rw [List.length_append, List.length_drop, List.length_nil] at e5
    omega
  · exact hf

theorem short_l1 (x : Nat) (hx : x < 18446744073709551616) : ∀ (d k i : Nat), i + d = (vint x).length → 2 * d < k → ratlinelaw02_NumsShort.l1 k (vint x) ((vint x).length : Int) (i : Int) = some true := by
  have hl := vint_len10 hx
  intro d
  induction d with
  | zero =>
    intro k i hd hk
    obtain ⟨k, rfl⟩ : ∃ m, k = m + 1 := ⟨k - 1, by omega⟩
    simp only [ratlinelaw02_NumsShort.l1]
    rw [if_neg (by omega), awake02]
    rfl
  | succ d ih =>
    intro k i hd hk
    obtain ⟨k, rfl⟩ : ∃ m, k = m + 2 := ⟨k - 2, by omega⟩
    have hi : i < (vint x).length := by omega
    simp only [ratlinelaw02_NumsShort.l1]
    rw [if_pos (by omega), if_pos (by omega), if_pos (by omega), Int.toNat_natCast]
    refine bind3 (cut_none x i hx hi) (fun t e1 e2 e3 => ?_)
    rw [if_neg (by rw [e3]; decide), if_pos e1, e2]
    show ratlinelaw02_NumsShort.j3 (k + 1) (vint x) (i : Int) ((vint x).length : Int) (i : Int) false = some true
    simp only [ratlinelaw02_NumsShort.j3]
    have hrd : rd (vint x) (i : Int) = (vint x).getD i 0 := by unfold rd; rw [Int.toNat_natCast]
    have hw : wrap64 (((vint x).length : Int) - 1) = ((vint x).length : Int) - 1 := by unfold wrap64; omega
    have hw2 : wrap64 ((i : Int) + 1) = ((i + 1 : Nat) : Int) := by unfold wrap64; omega
    have hat := vint_at x i hi
    have hsame : decide ((vint x).getD i 0 > 127) = decide ((i : Int) < ((vint x).length : Int) - 1) := by
      by_cases h : i + 1 < (vint x).length
      · rw [decide_eq_true (hat.2 h), decide_eq_true (by omega)]
      · rw [decide_eq_false (fun h' => h (hat.1 h')), decide_eq_false (by omega)]
    rw [if_neg (by decide), if_pos (by omega), if_pos (by omega), hrd, hw, hsame, if_neg (by simp), hw2]
    exact ih k (i + 1) (by omega) (by omega)

theorem short_end (x y : Nat) (hx : x < 18446744073709551616) (hy : y < 18446744073709551616) (k : Nat) (hk : 22 < k) :
    ratlinelaw02_NumsShort.l0 (k + 1) (x : Int) (y : Int) (vint x) (vint y) ((vint x).length : Int) 0 = some true := by
  have hl := vint_len10 hx
  have hly := vint_len10 hy
  obtain ⟨k, rfl⟩ : ∃ m, k = m + 1 := ⟨k - 1, by omega⟩
  have hj : ratlinelaw02_NumsShort.j1 (k + 1) (vint x) false = some true := by
    simp only [ratlinelaw02_NumsShort.j1]
    rw [if_neg (by decide)]
    exact short_l1 x hx (vint x).length k 0 (by omega) (by omega)
  have hsame : x ≠ y → ((vint x).length : Int) ≤ ((vint y).length : Int) → ratlinelaw02_Same.f ((vint y).take (((vint x).length : Int)).toNat) (vint x) = some false := by
    intro hne hle
    rw [Int.toNat_natCast, same_f ((vint_by y).take _) (vint_by x), decide_eq_false]
    intro e
    have e2 : vint x ++ (vint y).drop (vint x).length = vint y ++ [] := by
      rw [List.append_nil]
      conv => lhs; lhs; rw [← e]
      exact List.take_append_drop _ _
    exact hne (vint_append_inj hx hy e2).1
  simp only [ratlinelaw02_NumsShort.l0]
  rw [if_neg (by decide), if_pos trivial]
  by_cases h1 : (x : Int) ≤ (y : Int)
  · have hm := vint_mono (x := x) (y := y) (by omega)
    rw [if_pos h1, if_neg (by omega)]
    by_cases h2 : (x : Int) = (y : Int)
    · rw [if_pos h2]; exact hj
    · rw [if_neg h2, if_pos (by omega), if_pos (by omega)]
      refine bind1 (hsame (by omega) (by omega)) ?_
      exact hj
  · rw [if_neg h1, if_neg (by omega)]
    by_cases h3 : ((vint x).length : Int) ≤ ((vint y).length : Int)
    · rw [if_pos h3, if_pos (by omega)]
      refine bind1 (hsame (by omega) h3) ?_
      exact hj
    · rw [if_neg h3]; exact hj
theorem short_l0 (x y : Nat) (hx : x < 18446744073709551616) (hy : y < 18446744073709551616) : ∀ (d k n z : Nat), vmore z = d → n + d = (vint x).length → d + 24 < k →
    ratlinelaw02_NumsShort.l0 k (x : Int) (y : Int) (vint x) (vint y) (n : Int) (z : Int) = some true := by
  have hl := vint_len10 hx
  intro d
  induction d with
  | zero =>
    intro k n z hz hn hk
    have hz0 : z = 0 := by
      rcases Nat.eq_zero_or_pos z with h | h
      · exact h
      · have := vmore_step h; omega
    subst hz0
    obtain ⟨k, rfl⟩ : ∃ m, k = m + 1 := ⟨k - 1, by omega⟩
    obtain rfl : n = (vint x).length := by omega
    exact short_end x y hx hy k (by omega)
  | succ d ih =>
    intro k n z hz hn hk
    have hz0 : 0 < z := by
      rcases Nat.eq_zero_or_pos z with h | h
      · subst h; simp [vmore] at hz
      · exact h
    have := vmore_step hz0
    obtain ⟨k, rfl⟩ : ∃ m, k = m + 1 := ⟨k - 1, by omega⟩
    simp only [ratlinelaw02_NumsShort.l0]
    have hw : wrap64 ((n : Int) + 1) = ((n + 1 : Nat) : Int) := by unfold wrap64; omega
    rw [if_pos (by omega), hw, show ((z : Int) / 128) = ((z / 128 : Nat) : Int) from by omega]
    exact ih k (n + 1) (z / 128) (by omega) (by omega) (by omega)

theorem NumsShort : ratlinelaw02_NumsShort.Pure := by
  intro a0 a1 h0 h1
  simp [Lit.wf, IntKind.min, IntKind.max, IntKind.bits, IntKind.signed] at h0 h1
  obtain ⟨x, rfl⟩ := Int.eq_ofNat_of_zero_le h0.1
  obtain ⟨y, rfl⟩ := Int.eq_ofNat_of_zero_le h1.1
  have hx : x < 18446744073709551616 := by omega
  have hy : y < 18446744073709551616 := by omega
  have hl := vint_len10 hx
  have hm := vint_more x
  refine ⟨60, ?_⟩
  unfold ratlinelaw02_NumsShort.f
  refine bind1 (put_f hx (by rw [List.length_nil]; omega)) ?_
  refine bind1 (put_f hy (by rw [List.length_nil]; omega)) ?_
  rw [List.nil_append, List.nil_append, show ((x : Int) / 128) = ((x / 128 : Nat) : Int) from by omega]
  exact short_l0 x y hx hy _ 60 1 (x / 128) rfl (by omega) (by omega)
end Go.Proofs.Ytdppjknfhggpbaa.Pure
