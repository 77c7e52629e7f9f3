/- The document's four bytes of layer 2: the same as the program's. Conditions: those of each theorem. Written for this claim. -/
import Derived.Test.YtdppjknfhggpbaaNumsFour
import Derived.Test.YtdppjknfhggpbaaNumsRef
import Derived.Test.YtdppjknfhggpbaaPx8
import Derived.Test.YtdppjknfhggpbaaPx6
set_option linter.unusedVariables false
namespace Go.Proofs.YtdppjknfhggpbaaL
open Go Go.RowKit Go.Proofs.YtdppjknfhggpbaaG Go.Proofs.Ytdppjknfhggpbaa.P Go.Proofs.YtdppjknfhggpbaaW.PrintWords Go.Proofs.YtdppjknfhggpbaaW.PrintMore

theorem rputFour_f {l : List Int} {x k : Nat} (hx : x < 4294967296) (hk : 10 < k) (hl : l.length + 20 < 140737488355328) : ratlineref02_PutFour.f k l (x : Int) = some (l ++ four x) := by
  obtain ⟨k, rfl⟩ : ∃ m, k = m + 5 := ⟨k - 5, by omega⟩
  have hd : ∀ y : Nat, y < 4294967296 → (Int.tdiv (y : Int) 256) % 4294967296 = ((y / 256 : Nat) : Int) := fun y hy => by
    rw [show Int.tdiv (y : Int) 256 = ((y / 256 : Nat) : Int) from rfl]; omega
  have hr : ∀ y : Nat, (Int.tmod (y : Int) 256) % 256 = ((y % 256 : Nat) : Int) := fun y => by
    rw [show Int.tmod (y : Int) 256 = ((y % 256 : Nat) : Int) from rfl]; omega
  have hs : ∀ (m i y : Nat) (o : List Int), i < 4 → y < 4294967296 → o.length < 140737488355328 → ratlineref02_PutFour.l0 (m + 1) (y : Int) o (i : Int) = ratlineref02_PutFour.l0 m ((y / 256 : Nat) : Int) (o ++ [((y % 256 : Nat) : Int)]) ((i + 1 : Nat) : Int) := by
    intro m i y o hi hy ho
    simp only [ratlineref02_PutFour.l0]
    rw [if_pos (by omega), if_pos ho, hd y hy, hr y, show wrap64 ((i : Int) + 1) = ((i + 1 : Nat) : Int) from by unfold wrap64; omega]
  unfold ratlineref02_PutFour.f
  rw [List.nil_append, if_pos (by simp; omega)]
  have s0 := hs (k + 4) 0 x l (by omega) hx (by omega)
  have s1 := hs (k + 3) 1 (x / 256) (l ++ [((x % 256 : Nat) : Int)]) (by omega) (by omega) (by simp; omega)
  have s2 := hs (k + 2) 2 (x / 256 / 256) (l ++ [((x % 256 : Nat) : Int)] ++ [((x / 256 % 256 : Nat) : Int)]) (by omega) (by omega) (by simp; omega)
  have s3 := hs (k + 1) 3 (x / 256 / 256 / 256) (l ++ [((x % 256 : Nat) : Int)] ++ [((x / 256 % 256 : Nat) : Int)] ++ [((x / 256 / 256 % 256 : Nat) : Int)]) (by omega) (by omega) (by simp; omega)
  refine s0.trans (s1.trans (s2.trans (s3.trans ?_)))
  simp only [ratlineref02_PutFour.l0]
  rw [if_neg (by omega)]
  unfold four
  simp only [List.append_assoc, List.cons_append, List.nil_append, Nat.div_div_eq_div_mul, Nat.reduceMul]

theorem rtakeFour_f {l : List Int} {k : Nat} (hb : By l) (hl : l.length + 20 < 140737488355328) (hk : 10 < k) : ratlineref02_TakeFour.f k l = nums_TakeFour.f l := by
  by_cases h : l.length < 4
  · rw [takeFour_short h]
    unfold ratlineref02_TakeFour.f
    rw [if_pos (by omega)]
  · match l, h, hb, hl with
    | a :: b :: c :: d :: rest, _, hb, hl =>
      have ha := hb.head
      have hb2 := hb.tail.head
      have hc := hb.tail.tail.head
      have hd := hb.tail.tail.tail.head
      simp only [List.length_cons] at hl
      rw [takeFour_bytes a b c d rest hb (by omega)]
      obtain ⟨k, rfl⟩ : ∃ m, k = m + 5 := ⟨k - 5, by omega⟩
      have hs : ∀ (m i : Nat) (x : Int), i < 4 → ratlineref02_TakeFour.l0 (m + 1) (a :: b :: c :: d :: rest) x (i : Int) = ratlineref02_TakeFour.l0 m (a :: b :: c :: d :: rest) ((x * 256 + rd (a :: b :: c :: d :: rest) (i : Int)) % 4294967296) ((i : Int) - 1) := by
        intro m i x hi
        simp only [ratlineref02_TakeFour.l0, List.length_cons]
        rw [if_pos (by omega), if_pos (by omega), if_pos (by omega), show wrap64 ((i : Int) - 1) = (i : Int) - 1 from by unfold wrap64; omega]
      unfold ratlineref02_TakeFour.f
      rw [if_neg (by simp only [List.length_cons]; omega)]
      refine (hs (k + 4) 3 0 (by omega)).trans ((hs (k + 3) 2 _ (by omega)).trans ((hs (k + 2) 1 _ (by omega)).trans ((hs (k + 1) 0 _ (by omega)).trans ?_)))
      simp only [ratlineref02_TakeFour.l0]
      rw [if_neg (by omega)]
      refine bind1 (rrest_f (n := 4) (by simp) (by simp only [List.length_cons]; omega)) ?_
      rw [show rd (a :: b :: c :: d :: rest) ((0 : Nat) : Int) = a from rfl, show rd (a :: b :: c :: d :: rest) ((1 : Nat) : Int) = b from rfl, show rd (a :: b :: c :: d :: rest) ((2 : Nat) : Int) = c from rfl, show rd (a :: b :: c :: d :: rest) ((3 : Nat) : Int) = d from rfl]
      rw [show (((((0 * 256 + d) % 4294967296) * 256 + c) % 4294967296 * 256 + b) % 4294967296 * 256 + a) % 4294967296 = a + 256 * b + 65536 * c + 16777216 * d from by omega]
      rfl
    | [], h, _, _ => simp at h
    | [_], h, _, _ => simp at h
    | [_, _], h, _, _ => simp at h
    | [_, _, _], h, _, _ => simp at h
end Go.Proofs.YtdppjknfhggpbaaL
