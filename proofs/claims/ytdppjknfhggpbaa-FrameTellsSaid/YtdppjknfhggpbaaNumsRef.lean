/- What the document's functions of layer 2 come to, on bytes: the same as the program's. Conditions: those of each theorem. Written for this claim. -/
import Derived.Test.YtdppjknfhggpbaaNumsSpec
import Derived.Test.YtdppjknfhggpbaaPx19
import Derived.Test.YtdppjknfhggpbaaPx20
import Derived.Test.YtdppjknfhggpbaaPx7
import Derived.Test.YtdppjknfhggpbaaPx21
import Derived.Test.YtdppjknfhggpbaaPx22
import Derived.Test.YtdppjknfhggpbaaPx23
set_option linter.unusedVariables false
namespace Go.Proofs.YtdppjknfhggpbaaL
open Go Go.RowKit Go.Proofs.YtdppjknfhggpbaaG Go.Proofs.Ytdppjknfhggpbaa.P Go.Proofs.YtdppjknfhggpbaaW.PrintWords Go.Proofs.YtdppjknfhggpbaaW.PrintMore

theorem rput_l0 : ∀ (n x k : Nat) (l : List Int), x < 18446744073709551616 → (vint x).length ≤ n → n < k → l.length + n < 140737488355328 → ratlineref02_Put.l0 k (x : Int) l = some (l ++ vint x) := by
  intro n
  induction n with
  | zero => intro x k l hx hn; have := vint_pos x; omega
  | succ n ih =>
    intro x k l hx hn hk hl
    obtain ⟨k, rfl⟩ : ∃ m, k = m + 1 := ⟨k - 1, by omega⟩
    simp only [ratlineref02_Put.l0]
    by_cases h : 127 < x
    · rw [vint_big h] at hn ⊢
      have e1 : IntKind.u64.wrap (Int.tdiv (x : Int) 128) = ((x / 128 : Nat) : Int) := by
        rw [show Int.tdiv (x : Int) 128 = ((x / 128 : Nat) : Int) from rfl]; exact wrap_u64_nat (by omega)
      have e2 : ((Int.tmod (x : Int) 128) + 128) % 256 = ((x % 128 + 128 : Nat) : Int) := by
        rw [show Int.tmod (x : Int) 128 = ((x % 128 : Nat) : Int) from rfl]; omega
      rw [if_pos (by omega), if_pos (by omega), e1, e2, ih (x / 128) k _ (by omega) (by simpa using hn) (by omega) (by rw [List.length_append]; simp; omega)]
      simp
    · rw [vint_small h, if_neg (by omega), if_pos (by omega), show (x : Int) % 256 = (x : Int) from by omega]
theorem rput_f {l : List Int} {x k : Nat} (hx : x < 18446744073709551616) (hk : 10 < k) (hl : l.length + 20 < 140737488355328) : ratlineref02_Put.f k l (x : Int) = some (l ++ vint x) := by
  have := vint_len10 hx
  unfold ratlineref02_Put.f
  rw [List.nil_append, if_pos (by simp; omega), rput_l0 10 x k l hx this hk (by omega)]
theorem rsame_f {a b : List Int} (ha : By a) (hb : By b) : ratlineref02_same.f a b = some (decide (b.length ≤ a.length ∧ a.take b.length = b)) := by
  unfold ratlineref02_same.f
  by_cases h : b.length ≤ a.length
  · rw [if_pos (by omega), if_pos (by omega), if_pos (by omega), Int.toNat_natCast]
    by_cases e : a.take b.length = b
    · rw [e, decide_eq_true ⟨h, rfl⟩]; simp
    · have : (strOfNums (a.take b.length)).toList ≠ (strOfNums b).toList := fun e' => e (str_inj (ha.take _) hb (ba_ext e'))
      rw [decide_eq_false (fun h' => e h'.2), beq_eq_false_iff_ne.2 this]
  · rw [if_neg (by omega), decide_eq_false (fun h' => h h'.1)]
theorem rrest_f {a : List Int} {n : Nat} (hn : n ≤ a.length) (hl : a.length < 140737488355328) : ratlineref02_rest.f a (n : Int) = some (a.drop n) := by
  unfold ratlineref02_rest.f
  rw [if_pos (by omega), if_pos (by omega), Int.toNat_natCast, if_pos (by simp; omega), List.nil_append]

theorem wrap_mod (n : Nat) : IntKind.u64.wrap (n : Int) = ((n % 18446744073709551616 : Nat) : Int) := by rw [IntKind.wrap_u64]; omega
theorem mod_steps (a c p N : Nat) : (a % N + c * (p % N) % N) % N = (a + c * p) % N := by
  rw [← Nat.add_mod, Nat.add_mod a (c * (p % N)), Nat.mul_mod c (p % N), Nat.mod_mod, ← Nat.mul_mod, ← Nat.add_mod]
/-- What is reckoned of the first bytes. -/
def acc (l : List Int) (i : Nat) : Nat := val7 (l.take i) % 18446744073709551616
theorem acc_step {l : List Int} (hb : By l) {i : Nat} (hi : i < l.length) : IntKind.u64.wrap ((acc l i : Int) + IntKind.u64.wrap (IntKind.u64.wrap (Int.tmod (rd l (i : Int)) 128) * ((128 ^ i % 18446744073709551616 : Nat) : Int))) = (acc l (i + 1) : Int) := by
  have hrd : rd l (i : Int) = l.getD i 0 := by unfold rd; rw [Int.toNat_natCast]
  have hm : l.getD i 0 ∈ l := by rw [List.getD_eq_getElem?_getD, List.getElem?_eq_getElem hi]; exact List.getElem_mem hi
  have hc := hb _ hm
  have e1 : l.take (i + 1) = l.take i ++ [l.getD i 0] := by rw [List.take_succ_eq_append_getElem hi, List.getD_eq_getElem?_getD, List.getElem?_eq_getElem hi]; rfl
  have hlen : (l.take i).length = i := by rw [List.length_take]; omega
  rw [hrd]
  unfold acc
  rw [e1, val7_snoc, hlen]
  obtain ⟨c, hc'⟩ := Int.eq_ofNat_of_zero_le hc.1
  rw [hc'] at hc ⊢
  rw [show Int.tmod (c : Int) 128 = ((c % 128 : Nat) : Int) from rfl, wrap_u64_nat (by omega), show ((c : Int) % 128).toNat = c % 128 from by omega]
  rw [← Int.natCast_mul, wrap_mod, ← Int.natCast_add, wrap_mod, mod_steps]

theorem rtake_none {l : List Int} (hb : By l) (hl : l.length < 140737488355328) (h : ∀ j, j < l.length → j < 10 → 128 ≤ l.getD j 0) : nums_Take.f l = some (0, [], false) := by
  rcases take_cases l hb hl with ⟨x, rest, hx, he, _⟩ | ⟨hf, _⟩
  · exfalso
    have hp := vint_pos x
    have hv := vint_len10 hx
    have h1 := findIdx_vint x rest
    rw [← he] at h1
    have hlt : l.findIdx (· < 128) < l.length := by rw [h1, he, List.length_append]; omega
    have h2 := List.findIdx_getElem (p := fun c : Int => decide (c < 128)) (w := hlt)
    have h3 := h _ hlt (by omega)
    rw [List.getD_eq_getElem?_getD, List.getElem?_eq_getElem hlt] at h3
    simp at h2 h3
    omega
  · exact hf
theorem rtake_l0 {l : List Int} (hb : By l) (hl : l.length + 20 < 140737488355328) : ∀ (d k i : Nat), i + d = 10 → i ≤ l.length → (∀ j, j < i → 128 ≤ l.getD j 0) → 2 * d + 20 < k →
    ratlineref02_Take.l0 k l (acc l i : Int) ((128 ^ i % 18446744073709551616 : Nat) : Int) (i : Int) = nums_Take.f l := by
  intro d
  induction d with
  | zero =>
    intro k i hd hi hj hk
    obtain ⟨k, rfl⟩ : ∃ m, k = m + 2 := ⟨k - 2, by omega⟩
    have hno := rtake_none hb (by omega) (fun j h1 h2 => hj j (by omega))
    simp only [ratlineref02_Take.l0]
    rw [decide_eq_false (show ¬ (i : Int) < 10 from by omega), ite_self]
    simp only [ratlineref02_Take.j1]
    rw [if_neg (by decide), hno]
  | succ d ih =>
    intro k i hd hi hj hk
    obtain ⟨k, rfl⟩ : ∃ m, k = m + 2 := ⟨k - 2, by omega⟩
    simp only [ratlineref02_Take.l0]
    by_cases h : i < l.length
    · have hrd : rd l (i : Int) = l.getD i 0 := by unfold rd; rw [Int.toNat_natCast]
      have hstep := acc_step hb h
      have hw : wrap64 ((i : Int) + 1) = ((i + 1 : Nat) : Int) := by unfold wrap64; omega
      rw [if_pos (by omega), decide_eq_true (show (i : Int) < 10 from by omega)]
      simp only [ratlineref02_Take.j1]
      rw [if_pos trivial, if_pos (by omega), if_pos (by omega), hstep, hw]
      by_cases hc : rd l (i : Int) < 128
      · rw [if_pos hc]
        have hx : acc l (i + 1) < 18446744073709551616 := Nat.mod_lt _ (by omega)
        have hidx : l.findIdx (· < 128) = i := by
          refine (List.findIdx_eq h).2 ⟨?_, fun j hj' => ?_⟩
          · rw [hrd, List.getD_eq_getElem?_getD, List.getElem?_eq_getElem h] at hc
            simpa using hc
          · have := hj j hj'
            rw [List.getD_eq_getElem?_getD, List.getElem?_eq_getElem (by omega)] at this
            simpa using this
        refine bind1 (rput_f hx (by omega) (by rw [List.length_nil]; omega)) ?_
        rw [List.nil_append]
        refine bind1 (rsame_f hb (vint_by _)) ?_
        rcases take_cases l hb (by omega) with ⟨x, rest, hx', he, hf⟩ | ⟨hf, hno⟩
        · have h1 := findIdx_vint x rest
          have hp := vint_pos x
          rw [← he, hidx] at h1
          have htk : l.take (i + 1) = vint x := by rw [he, show i + 1 = (vint x).length from by omega, List.take_left]
          have hax : acc l (i + 1) = x := by unfold acc; rw [htk, val7_vint]; omega
          have hdr : l.drop (i + 1) = rest := by rw [he, show i + 1 = (vint x).length from by omega, List.drop_left]
          have hlen : l.length = (vint x).length + rest.length := by rw [he, List.length_append]
          rw [hax, decide_eq_true (show (vint x).length ≤ l.length ∧ l.take (vint x).length = vint x from ⟨by omega, by rw [show (vint x).length = i + 1 from by omega]; exact htk⟩), if_pos rfl]
          refine bind1 (rput_f hx' (by omega) (by rw [List.length_nil]; omega)) ?_
          rw [List.nil_append, if_pos (by omega)]
          refine bind1 (rrest_f (by omega) (by omega)) ?_
          rw [hdr, hf]
        · have hfalse : decide ((vint (acc l (i + 1))).length ≤ l.length ∧ l.take (vint (acc l (i + 1))).length = vint (acc l (i + 1))) = false := by
            refine decide_eq_false (fun h' => hno _ (l.drop (vint (acc l (i + 1))).length) hx ?_)
            conv => rhs; lhs; rw [← h'.2]
            exact (List.take_append_drop _ _).symm
          rw [hfalse, if_neg (by decide), hf]
      · rw [if_neg hc]
        have hw2 : IntKind.u64.wrap (((128 ^ i % 18446744073709551616 : Nat) : Int) * 128) = ((128 ^ (i + 1) % 18446744073709551616 : Nat) : Int) := by
          rw [IntKind.wrap_u64, Nat.pow_succ]; omega
        rw [hw2]
        refine ih k (i + 1) (by omega) (by omega) (fun j hj' => ?_) (by omega)
        rcases Nat.lt_or_ge j i with h' | h'
        · exact hj j h'
        · obtain rfl : j = i := by omega
          rw [hrd] at hc; omega
    · have hno := rtake_none hb (by omega) (fun j h1 h2 => hj j (by omega))
      rw [if_neg (by omega)]
      simp only [ratlineref02_Take.j1]
      rw [if_neg (by decide), hno]
theorem rtake_f {l : List Int} {k : Nat} (hb : By l) (hl : l.length + 20 < 140737488355328) (hk : 50 < k) : ratlineref02_Take.f k l = nums_Take.f l :=
  rtake_l0 hb hl 10 k 0 (by omega) (by omega) (fun j h => absurd h (by omega)) (by omega)

theorem rtakeText_f {l : List Int} {k : Nat} {most : Int} (hm0 : -9223372036854775808 ≤ most) (hm : most ≤ 9223372036854775807) (hb : By l) (hl : l.length + 20 < 140737488355328) (hk : 50 < k) : ratlineref02_TakeText.f k l most = nums_TakeText.f l most := by
  unfold ratlineref02_TakeText.f nums_TakeText.f
  rw [rtake_f hb hl hk]
  rcases take_cases l hb (by omega) with ⟨x, rest, hx, he, hf⟩ | ⟨hf, hno⟩
  · have hlen : l.length = (vint x).length + rest.length := by rw [he, List.length_append]
    rw [hf]
    simp only [Option.bind_some, if_true]
    have e1 : IntKind.u64.wrap (mx most 0) = max most 0 := by rw [mx_eq, IntKind.wrap_u64]; omega
    rw [e1, wrap_u64_nat (show rest.length < 18446744073709551616 from by omega)]
    by_cases c1 : most < 0
    · rw [if_pos c1, if_pos c1, ite_self]
    · have e2 : IntKind.u64.wrap most = most := by rw [IntKind.wrap_u64]; omega
      have e3 : max most 0 = most := by omega
      rw [if_neg c1, if_neg c1, e2, e3]
      by_cases c2 : (x : Int) > most
      · rw [if_pos c2, if_pos c2]
      · rw [if_neg c2, if_neg c2]
        by_cases c3 : (x : Int) > (rest.length : Int)
        · rw [if_pos c3, if_pos c3]
        · rw [if_neg c3, if_neg c3, if_pos (by omega), if_pos (by omega), if_pos (by omega), if_pos (by omega), show wrap64 (x : Int) = (x : Int) from by unfold wrap64; omega, rrest_f (by omega) (by omega), Int.toNat_natCast, clone_f (by rw [List.length_drop]; omega)]
  · rw [hf]
    simp

theorem rputText_f {l : List Int} {s : ByteArray} {k : Nat} (hk : 10 < k) (hl : l.length + 20 + s.size < 140737488355328) : ratlineref02_PutText.f k l s = some (l ++ vint s.size ++ bytesOf s) := by
  have := vint_len10 (x := s.size) (by omega)
  unfold ratlineref02_PutText.f
  rw [wrap_u64_nat (by omega), rput_f (by omega) hk (by omega)]
  simp only [Option.bind_some]
  rw [if_pos (by rw [List.length_append]; omega)]
end Go.Proofs.YtdppjknfhggpbaaL
