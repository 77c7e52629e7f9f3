/- The pure statement of FrameSums: the sum of an odd number of rows; another last byte is another sum. Conditions: those of the statement. Written for this claim. -/
import Derived.Test.YtdppjknfhggpbaaPx13
import Derived.Test.YtdppjknfhggpbaaFrameAwake
import Derived.Test.YtdppjknfhggpbaaCrc
set_option linter.unusedVariables false
namespace Go.Proofs.Ytdppjknfhggpbaa.Pure
open Go Go.RowKit Go.Proofs.Ytdppjknfhggpbaa.P Go.Proofs.YtdppjknfhggpbaaG Go.Proofs.YtdppjknfhggpbaaL Go.Proofs.YtdppjknfhggpbaaW.PrintWords Go.Proofs.YtdppjknfhggpbaaW.PrintLast

theorem sums_succ {a : Nat} (h : a < 100000) : wrap64 ((a : Int) + 1) = ((a + 1 : Nat) : Int) := by unfold wrap64; omega
theorem getD_by {l : List Int} (h : By l) (i : Nat) : 0 ≤ l.getD i 0 ∧ l.getD i 0 < 256 := by
  by_cases hi : i < l.length
  · rw [List.getD_eq_getElem?_getD, List.getElem?_eq_getElem hi]
    exact h _ (List.getElem_mem hi)
  · rw [List.getD_eq_getElem?_getD, List.getElem?_eq_none (by omega)]
    exact ⟨by decide, by decide⟩
theorem getD_take {l : List Int} {i n : Nat} (h : i < n) : (l.take n).getD i 0 = l.getD i 0 := by
  rw [List.getD_eq_getElem?_getD, List.getD_eq_getElem?_getD, List.getElem?_take_of_lt h]
theorem getD_set {l : List Int} {i j : Nat} (hj : j < l.length) (v : Int) : (l.set j v).getD i 0 = if j = i then v else l.getD i 0 := by
  rw [List.getD_eq_getElem?_getD, List.getD_eq_getElem?_getD, List.getElem?_set]
  by_cases h : j = i
  · rw [if_pos h, if_pos h, if_pos hj]; rfl
  · rw [if_neg h, if_neg h]
theorem bits_u8 {a b : Int} (ha : 0 ≤ a ∧ a < 256) (hb : 0 ≤ b ∧ b < 256) : Go.bits .xor .u8 a b = ((a.toNat ^^^ b.toNat : Nat) : Int) := by
  have := bits_xor_u8 a.toNat b.toNat (by omega) (by omega)
  rwa [Int.toNat_of_nonneg ha.1, Int.toNat_of_nonneg hb.1] at this
theorem sums_end (a b c d : List Int) (x y : Int) (n : Nat) (hn : n ≤ 200) (ha : By a) (hb : By b) (hc : By c) (hx : 0 ≤ x ∧ x < 256) (hy : 0 ≤ y ∧ y < 256) (la : n ≤ a.length) (lb : n ≤ b.length) (lc : n ≤ c.length) (hd : By d) (ld : d.length = n)
    (hv : ∀ i, i < n → d.getD i 0 = (((a.getD i 0).toNat ^^^ (b.getD i 0).toNat ^^^ (c.getD i 0).toNat : Nat) : Int)) (k : Nat) :
    ratlinelaw05_FrameSums.l0 (k + 2) a b c x y (n : Int) d (n : Int) (n : Int) = some true := by
  simp only [ratlinelaw05_FrameSums.l0]
  have hb1 : ∀ z : Int, 0 ≤ z ∧ z < 256 → By (d ++ [z]) := fun z hz => hd.append (.cons hz.1 hz.2 .nil)
  rw [if_neg (by omega)]
  refine bind1 rfl ?_
  simp only [List.nil_append]
  rw [if_pos (by simp; omega)]
  refine bind1 rfl ?_
  rw [if_pos (by omega)]
  refine bind1 (sum_f (hb1 x hx)) ?_
  refine bind1 rfl ?_
  simp only [List.nil_append]
  rw [if_pos (by simp; omega)]
  refine bind1 rfl ?_
  rw [if_pos (by omega)]
  refine bind1 (sum_f (hb1 y hy)) ?_
  refine bind1 (sum_f hd) ?_
  rw [if_pos (by omega), if_pos (by omega), Int.toNat_natCast]
  refine bind1 (sum_f (ha.take n)) ?_
  rw [if_pos (by omega)]
  refine bind1 (sum_f (hb.take n)) ?_
  rw [if_pos (by omega)]
  refine bind1 (sum_f (hc.take n)) ?_
  have hc3 : crcOf d = crcOf (a.take n) ^^^ crcOf (b.take n) ^^^ crcOf (c.take n) := by
    refine crc_three (a.take n) (b.take n) (c.take n) d _ _ _ _ (by rw [List.length_take]; omega) (by rw [List.length_take]; omega) (by rw [List.length_take]; omega) (ha.take n) (hb.take n) (hc.take n) (fun i hi => ?_) (by decide)
    rw [getD_take (by omega), getD_take (by omega), getD_take (by omega)]
    exact hv i (by omega)
  have h1 := crcOf_lt (ha.take n)
  have h2 := crcOf_lt (hb.take n)
  have h3 := crcOf_lt (hc.take n)
  rw [bits_xor_u32 _ _ h1 h2, bits_xor_u32 _ _ (Nat.xor_lt_two_pow (n := 32) (by omega) (by omega)) h3, if_pos (by rw [hc3])]
  have hl : ((((crcOf (d ++ [x]) : Nat) : Int) == ((crcOf (d ++ [y]) : Nat) : Int)) == (x == y)) = true := by
    by_cases hxy : x = y
    · subst hxy; rw [beq_self_eq_true, beq_self_eq_true]; rfl
    · have : ¬ crcOf (d ++ [x]) = crcOf (d ++ [y]) := fun h => hxy ((crc_last hd hx hy).1 h)
      rw [beq_false_of_ne hxy, beq_false_of_ne (show ¬ ((crcOf (d ++ [x]) : Nat) : Int) = ((crcOf (d ++ [y]) : Nat) : Int) from fun h => this (Int.ofNat.inj h))]; rfl
  rw [if_pos hl, show ratlinelaw05_awake.f (k + 1) = some true from awake05 k]
  rfl
theorem sums_loop (a b c : List Int) (x y : Int) (n : Nat) (hn : n ≤ 200) (ha : By a) (hb : By b) (hc : By c) (hx : 0 ≤ x ∧ x < 256) (hy : 0 ≤ y ∧ y < 256) (la : n ≤ a.length) (lb : n ≤ b.length) (lc : n ≤ c.length) :
    ∀ (m j : Nat), j + m = n → ∀ d : List Int, By d → d.length = n → (∀ i, i < j → d.getD i 0 = (((a.getD i 0).toNat ^^^ (b.getD i 0).toNat ^^^ (c.getD i 0).toNat : Nat) : Int)) →
      ratlinelaw05_FrameSums.l0 (m + 2) a b c x y (n : Int) d (n : Int) (j : Int) = some true := by
  intro m
  induction m with
  | zero =>
    intro j hj d hd ld hv
    obtain rfl : j = n := by omega
    exact sums_end a b c d x y j hn ha hb hc hx hy la lb lc hd ld hv 0
  | succ m ih =>
    intro j hj d hd ld hv
    generalize hk : m + 2 = k
    rw [show m + 1 + 2 = k + 1 from by omega]
    have hj1 : j < 100000 := by omega
    simp only [ratlinelaw05_FrameSums.l0, sums_succ hj1]
    rw [if_pos (by omega), if_pos (by omega), if_pos (by omega), if_pos (by omega), if_pos (by omega), if_pos (by omega), Int.toNat_natCast, ← hk]
    have hrd : ∀ l : List Int, rd l (j : Int) = l.getD j 0 := fun l => by unfold rd; rw [Int.toNat_natCast]
    have b1 := getD_by ha j
    have b2 := getD_by hb j
    have b3 := getD_by hc j
    have hx1 : (a.getD j 0).toNat ^^^ (b.getD j 0).toNat < 256 := Nat.xor_lt_two_pow (n := 8) (by omega) (by omega)
    have hx2 : (a.getD j 0).toNat ^^^ (b.getD j 0).toNat ^^^ (c.getD j 0).toNat < 256 := Nat.xor_lt_two_pow (n := 8) (by omega) (by omega)
    rw [hrd, hrd, hrd, bits_u8 b1 b2, bits_u8 ⟨by omega, by omega⟩ b3, Int.toNat_natCast]
    refine ih (j + 1) (by omega) _ (set_by hd _ (by omega) (by omega)) (by rw [List.length_set]; exact ld) (fun i hi => ?_)
    rw [getD_set (by omega)]
    by_cases hij : j = i
    · rw [if_pos hij, hij]
    · rw [if_neg hij]; exact hv i (by omega)
theorem mn_le (a b : Int) : mn a b ≤ a ∧ mn a b ≤ b ∧ (mn a b = a ∨ mn a b = b) := by
  unfold mn
  split <;> omega

theorem FrameSums : ratlinelaw05_FrameSums.Pure := by
  intro a b c x y _ _ ha _ _ hb _ _ hc hx hy
  have ha := By.of_wf ha
  have hb := By.of_wf hb
  have hc := By.of_wf hc
  simp [Lit.wf, IntKind.min, IntKind.max, IntKind.bits, IntKind.signed] at hx hy
  unfold ratlinelaw05_FrameSums.f
  have m1 := mn_le (a.length : Int) (b.length : Int)
  have m2 := mn_le (mn (a.length : Int) (b.length : Int)) (c.length : Int)
  have m3 := mn_le (mn (mn (a.length : Int) (b.length : Int)) (c.length : Int)) 200
  generalize mn (mn (mn (a.length : Int) (b.length : Int)) (c.length : Int)) 200 = n at *
  obtain ⟨n, rfl⟩ := Int.eq_ofNat_of_zero_le (show 0 ≤ n by omega)
  refine ⟨n + 2, ?_⟩
  rw [if_pos (by omega), Int.toNat_natCast, if_pos (by omega)]
  refine bind1 rfl ?_
  rw [List.length_replicate]
  refine sums_loop a b c x y n (by omega) ha hb hc ⟨hx.1, by omega⟩ ⟨hy.1, by omega⟩ (by omega) (by omega) (by omega) n 0 (by omega) _ (fun z hz => ?_) List.length_replicate (fun i hi => absurd hi (Nat.not_lt_zero _))
  rw [List.eq_of_mem_replicate hz]
  exact ⟨by decide, by decide⟩
end Go.Proofs.Ytdppjknfhggpbaa.Pure
