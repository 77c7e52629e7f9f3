/- Four bytes, put and taken. Conditions: those of each theorem. Written for this claim. -/
import Derived.Test.YtdppjknfhggpbaaNumsSpec
import Derived.Test.YtdppjknfhggpbaaPx2
set_option linter.unusedVariables false
namespace Go.Proofs.YtdppjknfhggpbaaL
open Go Go.RowKit Go.Proofs.YtdppjknfhggpbaaG Go.Proofs.Ytdppjknfhggpbaa.P Go.Proofs.YtdppjknfhggpbaaW.PrintWords

/-- A number of 32 bits as four bytes. -/
def four (x : Nat) : List Int := [((x % 256 : Nat) : Int), ((x / 256 % 256 : Nat) : Int), ((x / 65536 % 256 : Nat) : Int), ((x / 16777216 % 256 : Nat) : Int)]
theorem four_len (x : Nat) : (four x).length = 4 := rfl
theorem four_by (x : Nat) : By (four x) := .cons (by omega) (by omega) (.cons (by omega) (by omega) (.cons (by omega) (by omega) (.cons (by omega) (by omega) .nil)))
theorem putFour_f {l : List Int} {x : Nat} (hx : x < 4294967296) (hl : l.length + 10 < 140737488355328) : nums_PutFour.f l (x : Int) = some (l ++ four x) := by
  unfold nums_PutFour.f
  rw [clone_f (by omega)]
  simp only [Option.bind_some]
  rw [if_pos (by simp; omega)]
  congr 2
theorem bits_or_u32 (a b : Nat) (ha : a < 4294967296) (hb : b < 4294967296) : bits .or .u32 (a : Int) (b : Int) = ((a ||| b : Nat) : Int) := by
  have hx : a ||| b < 2 ^ 32 := Nat.or_lt_two_pow (by omega) (by omega)
  have hw : ∀ n : Int, IntKind.u32.wrap n = n % 4294967296 := fun n => by simp [IntKind.wrap, IntKind.bits, IntKind.signed]
  show IntKind.u32.wrap ((BitVec.ofInt 32 (a : Int) ||| BitVec.ofInt 32 (b : Int)).toNat : Int) = _
  rw [BitVec.ofInt_natCast, BitVec.ofInt_natCast, BitVec.toNat_or, BitVec.toNat_ofNat, BitVec.toNat_ofNat, Nat.mod_eq_of_lt (by omega), Nat.mod_eq_of_lt (by omega), hw]
  omega
theorem or_four (a b c d : Nat) (ha : a < 256) (hb : b < 256) (hc : c < 256) (hd : d < 256) :
    Go.bits .or .u32 (Go.bits .or .u32 (Go.bits .or .u32 ((a : Int) % 4294967296) ((((b : Int) % 4294967296) * 256) % 4294967296)) ((((c : Int) % 4294967296) * 65536) % 4294967296)) ((((d : Int) % 4294967296) * 16777216) % 4294967296) = ((a + 256 * b + 65536 * c + 16777216 * d : Nat) : Int) := by
  rw [show ((a : Int) % 4294967296) = (a : Int) from by omega, show ((((b : Int) % 4294967296) * 256) % 4294967296) = ((b * 2 ^ 8 : Nat) : Int) from by omega,
    show ((((c : Int) % 4294967296) * 65536) % 4294967296) = ((c * 2 ^ 16 : Nat) : Int) from by omega, show ((((d : Int) % 4294967296) * 16777216) % 4294967296) = ((d * 2 ^ 24 : Nat) : Int) from by omega]
  rw [bits_or_u32 _ _ (by omega) (by omega), or_add _ _ _ (by omega), bits_or_u32 _ _ (by omega) (by omega), or_add _ _ _ (by omega), bits_or_u32 _ _ (by omega) (by omega), or_add _ _ _ (by omega)]
  omega
theorem takeFour_short {l : List Int} (h : l.length < 4) : nums_TakeFour.f l = some (0, [], false) := by
  unfold nums_TakeFour.f
  rw [if_pos (by omega)]
theorem takeFour_bytes (a b c d : Int) (rest : List Int) (h : By (a :: b :: c :: d :: rest)) (hl : rest.length + 10 < 140737488355328) :
    nums_TakeFour.f (a :: b :: c :: d :: rest) = some (a + 256 * b + 65536 * c + 16777216 * d, rest, true) := by
  have ha := h.head
  have hb := h.tail.head
  have hc := h.tail.tail.head
  have hd := h.tail.tail.tail.head
  unfold nums_TakeFour.f
  simp only [List.length_cons]
  rw [if_neg (by omega), if_pos (by omega), if_pos (by omega), if_pos (by omega), if_pos (by omega), if_pos (by omega)]
  rw [show (a :: b :: c :: d :: rest).drop 4 = rest from rfl, clone_f (by omega)]
  simp only [Option.bind_some]
  rw [show rd (a :: b :: c :: d :: rest) 0 = a from rfl, show rd (a :: b :: c :: d :: rest) 1 = b from rfl, show rd (a :: b :: c :: d :: rest) 2 = c from rfl, show rd (a :: b :: c :: d :: rest) 3 = d from rfl]
  obtain ⟨a', rfl⟩ := Int.eq_ofNat_of_zero_le ha.1
  obtain ⟨b', rfl⟩ := Int.eq_ofNat_of_zero_le hb.1
  obtain ⟨c', rfl⟩ := Int.eq_ofNat_of_zero_le hc.1
  obtain ⟨d', rfl⟩ := Int.eq_ofNat_of_zero_le hd.1
  rw [or_four a' b' c' d' (by omega) (by omega) (by omega) (by omega)]
  congr 2
theorem takeFour_four (x : Nat) (rest : List Int) (hx : x < 4294967296) (hr : By rest) (hl : rest.length + 10 < 140737488355328) :
    nums_TakeFour.f (four x ++ rest) = some ((x : Int), rest, true) := by
  unfold four
  simp only [List.cons_append, List.nil_append]
  rw [takeFour_bytes _ _ _ _ rest ((four_by x).append hr) hl]
  congr 2
  omega
/-- Four bytes or more say a number, and are put as they stood. -/
theorem takeFour_cases (l : List Int) (hb : By l) (hl : l.length + 10 < 140737488355328) :
    (l.length < 4 ∧ nums_TakeFour.f l = some (0, [], false)) ∨ (4 ≤ l.length ∧ ∃ (x : Nat) (rest : List Int), x < 4294967296 ∧ l = four x ++ rest ∧ nums_TakeFour.f l = some ((x : Int), rest, true)) := by
  by_cases h : l.length < 4
  · exact .inl ⟨h, takeFour_short h⟩
  · right
    match l, h, hb, hl with
    | a :: b :: c :: d :: rest, _, hb, hl =>
      have ha := hb.head
      have hb2 := hb.tail.head
      have hc := hb.tail.tail.head
      have hd := hb.tail.tail.tail.head
      simp only [List.length_cons] at hl
      refine ⟨by simp, (a + 256 * b + 65536 * c + 16777216 * d).toNat, rest, by omega, ?_, ?_⟩
      · unfold four
        simp only [List.cons_append, List.nil_append, List.cons.injEq, and_true]
        refine ⟨?_, ?_, ?_, ?_⟩ <;> omega
      · rw [takeFour_bytes a b c d rest hb (by omega)]
        congr 2
        omega
    | [], h, _, _ => simp at h
    | [_], h, _, _ => simp at h
    | [_, _], h, _, _ => simp at h
    | [_, _, _], h, _, _ => simp at h
end Go.Proofs.YtdppjknfhggpbaaL
