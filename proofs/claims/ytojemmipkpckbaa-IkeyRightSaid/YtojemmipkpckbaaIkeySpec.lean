/- What the functions of layer 3 come to: orders, forms. Conditions: those of each theorem. Written for this claim. -/
import Derived.Test.YtojemmipkpckbaaNumsSpec
import Derived.Test.YtojemmipkpckbaaPx7
import Derived.Test.YtojemmipkpckbaaPx8
import Derived.Test.YtojemmipkpckbaaPx7
import Derived.Test.YtojemmipkpckbaaPx9
import Derived.Test.YtojemmipkpckbaaPx12
import Derived.Test.YtojemmipkpckbaaPx13
import Derived.Test.YtojemmipkpckbaaPx12
set_option linter.unusedVariables false
namespace Go.Proofs.YtojemmipkpckbaaL
open Go Go.RowKit Go.Proofs.YtojemmipkpckbaaG Go.Proofs.Ytojemmipkpckbaa.P Go.Proofs.YtojemmipkpckbaaW.PrintWords Go.Proofs.YtojemmipkpckbaaW.PrintMore

abbrev Ik := S39
abbrev En := S41
/-! ### texts in order -/
def lt (a b : ByteArray) : Prop := Op.bytesLess a.toList b.toList = true
instance (a b : ByteArray) : Decidable (lt a b) := inferInstanceAs (Decidable (_ = true))
theorem bl_trans : ∀ x y z : List UInt8, Op.bytesLess x y = true → Op.bytesLess y z = true → Op.bytesLess x z = true
  | _, [], _ => fun h => by simp [Op.bytesLess] at h
  | _, _ :: _, [] => fun _ h => by simp [Op.bytesLess] at h
  | [], b :: y, c :: z => fun _ _ => rfl
  | a :: x, b :: y, c :: z => fun h1 h2 => by
    have ih := bl_trans x y z
    simp only [Op.bytesLess, Bool.or_eq_true, decide_eq_true_eq, Bool.and_eq_true, beq_iff_eq] at *
    rcases h1 with h1 | ⟨rfl, h1⟩
    · rcases h2 with h2 | ⟨rfl, h2⟩
      · exact .inl (UInt8.lt_trans h1 h2)
      · exact .inl h1
    · rcases h2 with h2 | ⟨rfl, h2⟩
      · exact .inl h2
      · exact .inr ⟨rfl, ih h1 h2⟩
theorem lt_trans {a b c : ByteArray} (h : lt a b) (h2 : lt b c) : lt a c := bl_trans _ _ _ h h2
theorem lt_asymm {a b : ByteArray} (h : lt a b) : ¬ lt b a := by
  unfold lt at *
  rw [← bytesLess_gtr, h]
  simp
theorem lt_irrefl (a : ByteArray) : ¬ lt a a := fun h => lt_asymm h h
theorem lt_tri (a b : ByteArray) : lt a b ∨ a = b ∨ lt b a := by
  by_cases h : lt a b
  · exact .inl h
  · by_cases h2 : a = b
    · exact .inr (.inl h2)
    · refine .inr (.inr ?_)
      unfold lt at *
      rw [← bytesLess_gtr]
      have h3 : ¬ a.toList = b.toList := fun e => h2 (ba_ext e)
      simp [h, h3]
theorem ba_eq_iff {a b : ByteArray} : a.toList = b.toList ↔ a = b := ⟨ba_ext, fun h => by rw [h]⟩
theorem ba_nil_iff {a : ByteArray} : a.toList = [] ↔ a.size = 0 := by
  rw [toList_data]
  exact ⟨fun h => by show a.data.size = 0; rw [← Array.length_toList, h]; rfl, fun h => List.eq_nil_of_length_eq_zero (by rw [Array.length_toList]; exact h)⟩

/-! ### which is ahead -/
def cmpI (x y : Ik) : Int := if lt x.f0 y.f0 then -1 else if lt y.f0 x.f0 then 1 else if x.f1 > y.f1 then -1 else if x.f1 < y.f1 then 1 else if x.f2 > y.f2 then -1 else if x.f2 < y.f2 then 1 else 0
theorem or_f (k : Nat) (a b c : Int) : cmp_Or_int.f (k + 4) [a, b, c] = some (if a = 0 then (if b = 0 then (if c = 0 then 0 else c) else b) else a) := by
  unfold cmp_Or_int.f
  have e : ∀ n : Nat, n < 100 → wrap64 ((n : Int) + 1) = ((n + 1 : Nat) : Int) := fun n h => by unfold wrap64; omega
  have e0 : wrap64 (0 + 1) = 1 := e 0 (by omega)
  have e1 : wrap64 (1 + 1) = 2 := e 1 (by omega)
  have e2 : wrap64 (2 + 1) = 3 := e 2 (by omega)
  have l3 : (([a, b, c] : List Int).length : Int) = 3 := rfl
  simp only [cmp_Or_int.l0, l3, e0, e1, e2, rd]
  simp only [show (0 : Int) < 3 from by omega, show (1 : Int) < 3 from by omega, show (2 : Int) < 3 from by omega, show (0 : Int) ≤ 0 from by omega, show (0 : Int) ≤ 1 from by omega, show (0 : Int) ≤ 2 from by omega, show ¬ (3 : Int) < 3 from by omega, if_true, if_false]
  show (if a = 0 then (if b = 0 then (if c = 0 then some 0 else some c) else some b) else some a) = _
  split
  · split
    · split <;> rfl
    · rfl
  · rfl
theorem compare_f (k : Nat) (x y : Ik) : ikey_Compare.f (k + 4) x.f0 x.f1 x.f2 y.f0 y.f1 y.f2 = some (cmpI x y) := by
  have h1 : cmp_Compare_string.f x.f0 y.f0 = some (if lt x.f0 y.f0 then -1 else if lt y.f0 x.f0 then 1 else 0) := by
    unfold cmp_Compare_string.f cmp_isNaN_string.f lt
    simp only [bne_self_eq_false, Option.bind_some, Bool.false_eq_true, if_false]
    by_cases c1 : Op.bytesLess x.f0.toList y.f0.toList = true
    · simp [c1]
    · by_cases c2 : Op.bytesLess y.f0.toList x.f0.toList = true
      · simp [c1, c2]
      · simp [c1, c2]
  have h2 : ∀ a b : Int, cmp_Compare_uint64.f a b = some (if a < b then -1 else if b < a then 1 else 0) := fun a b => by
    unfold cmp_Compare_uint64.f cmp_isNaN_uint64.f
    simp only [bne_self_eq_false, Option.bind_some, Bool.false_eq_true, if_false]
    split
    · rfl
    · split <;> rfl
  have h3 : ∀ a b : Int, cmp_Compare_uint8.f a b = some (if a < b then -1 else if b < a then 1 else 0) := fun a b => by
    unfold cmp_Compare_uint8.f cmp_isNaN_uint8.f
    simp only [bne_self_eq_false, Option.bind_some, Bool.false_eq_true, if_false]
    split
    · rfl
    · split <;> rfl
  unfold ikey_Compare.f ikey_key_to.f
  rw [h1, h2, h3]
  simp only [Option.bind_some, or_f]
  congr 1
  unfold cmpI
  by_cases c1 : lt x.f0 y.f0
  · simp [c1]
  · by_cases c2 : lt y.f0 x.f0
    · simp [c1, c2]
    · simp only [if_neg c1, if_neg c2]
      by_cases c3 : x.f1 > y.f1
      · simp [c3]
      · by_cases c4 : x.f1 < y.f1
        · simp [c4, show ¬ y.f1 < x.f1 from by omega]
        · by_cases c5 : x.f2 > y.f2
          · simp [c4, c5, show ¬ y.f1 < x.f1 from by omega]
          · by_cases c6 : x.f2 < y.f2
            · simp [c4, c6, show ¬ y.f1 < x.f1 from by omega, show ¬ y.f2 < x.f2 from by omega]
            · simp [c4, c6, show ¬ y.f1 < x.f1 from by omega, show ¬ y.f2 < x.f2 from by omega]
theorem cmpI_range (x y : Ik) : cmpI x y = -1 ∨ cmpI x y = 0 ∨ cmpI x y = 1 := by
  unfold cmpI
  repeat' split
  all_goals simp
theorem cmpI_le (x y : Ik) : cmpI x y ≤ 0 ↔ lt x.f0 y.f0 ∨ (x.f0 = y.f0 ∧ (y.f1 < x.f1 ∨ (x.f1 = y.f1 ∧ y.f2 ≤ x.f2))) := by
  unfold cmpI
  rcases lt_tri x.f0 y.f0 with h | h | h
  · simp [h]
  · rw [h]
    simp only [lt_irrefl, if_false, false_or, true_and, eq_self]
    repeat' split
    all_goals omega
  · have h2 := lt_asymm h
    have h3 : ¬ x.f0 = y.f0 := fun e => lt_irrefl _ (e ▸ h)
    rw [if_neg h2, if_pos h]
    simp [h2, h3]
theorem cmpI_neg (x y : Ik) : cmpI y x = -cmpI x y := by
  unfold cmpI
  rcases lt_tri x.f0 y.f0 with h | h | h
  · rw [if_neg (lt_asymm h), if_pos h, if_pos h]; rfl
  · rw [h]
    simp only [lt_irrefl, if_false]
    repeat' split
    all_goals omega
  · rw [if_pos h, if_neg (lt_asymm h), if_pos h]
theorem cmpI_zero (x y : Ik) : cmpI x y = 0 ↔ x.f0 = y.f0 ∧ x.f1 = y.f1 ∧ x.f2 = y.f2 := by
  have h1 := cmpI_le x y
  have h2 := cmpI_le y x
  rw [cmpI_neg x y] at h2
  constructor
  · intro h
    rcases h1.1 (by omega) with a | ⟨a, b⟩
    · rcases h2.1 (by omega) with c | ⟨c, d⟩
      · exact absurd c (lt_asymm a)
      · rw [c] at a; exact absurd a (lt_irrefl _)
    · rcases h2.1 (by omega) with c | ⟨c, d⟩
      · rw [a] at c; exact absurd c (lt_irrefl _)
      · exact ⟨a, by omega, by omega⟩
  · rintro ⟨a, b, c⟩
    have := h1.2 (.inr ⟨a, .inr ⟨b, by omega⟩⟩)
    have := h2.2 (.inr ⟨a.symm, .inr ⟨b.symm, by omega⟩⟩)
    omega
theorem cmpI_trans {x y z : Ik} (h : cmpI x y ≤ 0) (h2 : cmpI y z ≤ 0) : cmpI x z ≤ 0 := by
  rw [cmpI_le] at *
  rcases h with a | ⟨a, b⟩
  · rcases h2 with c | ⟨c, d⟩
    · exact .inl (lt_trans a c)
    · exact .inl (c ▸ a)
  · rcases h2 with c | ⟨c, d⟩
    · exact .inl (a ▸ c)
    · exact .inr ⟨a.trans c, by omega⟩

/-! ### what is right -/
def RightI (x : Ik) : Prop := 1 ≤ x.f0.size ∧ x.f0.size ≤ 64 ∧ x.f1 ≤ 72057594037927935 ∧ x.f2 ≤ 1
instance (x : Ik) : Decidable (RightI x) := inferInstanceAs (Decidable (_ ∧ _))
theorem right_f (x : Ik) : ikey_Right.f x.f0 x.f1 x.f2 = some (decide (RightI x)) := by
  unfold ikey_Right.f
  by_cases h0 : x.f0.size = 0
  · rw [if_pos (ba_nil_iff.2 h0), decide_eq_false (show ¬ RightI x from fun h => by have := h.1; omega)]
  · rw [if_neg (fun h => h0 (ba_nil_iff.1 h))]
    by_cases h1 : (x.f0.size : Int) ≤ 64
    · rw [if_pos h1]
      by_cases h2 : x.f1 ≤ 72057594037927935
      · rw [if_pos h2]
        congr 1
        exact decide_eq_decide.2 ⟨fun h => ⟨by omega, by omega, h2, h⟩, fun h => h.2.2.2⟩
      · rw [if_neg h2, decide_eq_false (show ¬ RightI x from fun h => h2 h.2.2.1)]
    · rw [if_neg h1, decide_eq_false (show ¬ RightI x from fun h => h1 (by have := h.2.1; omega))]
theorem right_f' (a : ByteArray) (b c : Int) : ikey_Right.f a b c = some (decide (RightI ⟨a, b, c⟩)) := right_f ⟨a, b, c⟩
def EntryI (x : Ik) (v : ByteArray) : Prop := RightI x ∧ (v.size : Int) ≤ (if x.f2 = 0 then 0 else 256)
theorem entry_f (x : Ik) (v : ByteArray) : ikey_Entry.f x.f0 x.f1 x.f2 v = some (decide (RightI x) && decide ((v.size : Int) ≤ (if x.f2 = 0 then 0 else 256))) := by
  unfold ikey_Entry.f
  rw [right_f]
  by_cases h : RightI x
  · by_cases h2 : x.f2 = 0
    · simp [h, h2]
    · simp [h, h2]
  · by_cases h2 : x.f2 = 0
    · simp [h, h2]
    · simp [h, h2]

/-! ### forms -/
/-- In kind. -/
def Wf (x : Ik) : Prop := 0 ≤ x.f1 ∧ x.f1 < 18446744073709551616 ∧ 0 ≤ x.f2 ∧ x.f2 < 256
def formI (x : Ik) : List Int := vint x.f0.size ++ (bytesOf x.f0 ++ vint (x.f2.toNat + x.f1.toNat * 2))
theorem formI_by (x : Ik) : By (formI x) := (vint_by _).append ((bytesOf_by _).append (vint_by _))
theorem put_yes {x : Ik} (hw : Wf x) (hr : RightI x) {l : List Int} (hl : l.length + 200 < 140737488355328) : ikey_Put.f l x.f0 x.f1 x.f2 = some (l ++ formI x) := by
  obtain ⟨w1, w2, w3, w4⟩ := hw
  obtain ⟨r1, r2, r3, r4⟩ := hr
  unfold ikey_Put.f
  refine bind1 (right_f x) ?_
  rw [decide_eq_true (show RightI x from ⟨r1, r2, r3, r4⟩), if_pos rfl]
  refine bind1 (putText_f (by omega)) ?_
  have e1 : IntKind.u64.wrap (x.f1 * 2) = ((x.f1.toNat * 2 ^ 1 : Nat) : Int) := by rw [IntKind.wrap_u64]; omega
  have e2 : IntKind.u64.wrap x.f2 = ((x.f2.toNat : Nat) : Int) := by rw [IntKind.wrap_u64]; omega
  have e3 : bits .or .u64 ((x.f1.toNat * 2 ^ 1 : Nat) : Int) ((x.f2.toNat : Nat) : Int) = ((x.f2.toNat + x.f1.toNat * 2 ^ 1 : Nat) : Int) := by
    rw [bits_or_u64 _ _ (by omega) (by omega), Nat.or_comm, or_add _ _ _ (by omega)]
  have hv := vint_len10 (x := x.f0.size) (by omega)
  rw [e1, e2, e3]
  refine bind1 (put_f (by omega) (by rw [List.length_append, List.length_append, bytesOf_length]; omega)) ?_
  unfold formI
  simp only [List.append_assoc]
theorem put_no {x : Ik} (hr : ¬ RightI x) {l : List Int} (hl : l.length + 200 < 140737488355328) : ikey_Put.f l x.f0 x.f1 x.f2 = some l := by
  unfold ikey_Put.f
  refine bind1 (right_f x) ?_
  rw [decide_eq_false hr, if_neg (by decide)]
  exact bind1 (clone_f (by omega)) rfl
theorem formI_len {x : Ik} (hw : Wf x) (hr : RightI x) : (formI x).length ≤ 84 := by
  obtain ⟨w1, w2, w3, w4⟩ := hw
  obtain ⟨r1, r2, r3, r4⟩ := hr
  have h1 := vint_len10 (x := x.f0.size) (by omega)
  have h2 := vint_len10 (x := x.f2.toNat + x.f1.toNat * 2) (by omega)
  rw [formI, List.length_append, List.length_append, bytesOf_length]
  omega
theorem bytesOf_inj {a b : ByteArray} (h : bytesOf a = bytesOf b) : a = b := by rw [← str_bytes a, h, str_bytes]
/-- No form begins with another one. -/
theorem formI_inj {x y : Ik} {a b : List Int} (hx : Wf x) (hy : Wf y) (rx : RightI x) (ry : RightI y) (h : formI x ++ a = formI y ++ b) : x = y ∧ a = b := by
  obtain ⟨w1, w2, w3, w4⟩ := hx
  obtain ⟨r1, r2, r3, r4⟩ := rx
  obtain ⟨v1, v2, v3, v4⟩ := hy
  obtain ⟨s1, s2, s3, s4⟩ := ry
  unfold formI at h
  simp only [List.append_assoc] at h
  obtain ⟨h1, h2⟩ := vint_append_inj (by omega) (by omega) h
  obtain ⟨h3, h4⟩ := List.append_inj h2 (by rw [bytesOf_length, bytesOf_length, h1])
  obtain ⟨h5, h6⟩ := vint_append_inj (by omega) (by omega) h4
  refine ⟨?_, h6⟩
  have e0 := bytesOf_inj h3
  have e1 : x.f1 = y.f1 := by omega
  have e2 : x.f2 = y.f2 := by omega
  cases x; cases y
  simp_all
theorem and1_u64 (a : Nat) (ha : a < 18446744073709551616) : bits .and .u64 (a : Int) 1 = ((a % 2 : Nat) : Int) := by
  show IntKind.u64.wrap ((BitVec.ofInt 64 (a : Int) &&& BitVec.ofInt 64 1).toNat : Int) = _
  rw [BitVec.ofInt_natCast, BitVec.toNat_and, BitVec.toNat_ofNat, show (BitVec.ofInt 64 1).toNat = 1 from rfl, Nat.mod_eq_of_lt (by omega), Nat.and_one_is_mod, IntKind.wrap_u64]
  omega
theorem takeI_cases (l : List Int) (hb : By l) (hl : l.length + 20 < 140737488355328) :
    (∃ (x : Ik) (rest : List Int), Wf x ∧ RightI x ∧ l = formI x ++ rest ∧ ikey_Take.f l = some (x.f0, x.f1, x.f2, rest, true)) ∨
    (ikey_Take.f l = some (⟨#[]⟩, 0, 0, [], false) ∧ ∀ (x : Ik) (rest : List Int), Wf x → RightI x → l ≠ formI x ++ rest) := by
  rcases takeText_cases l 64 (by omega) hb hl with ⟨s, rest, hs, he, hf⟩ | ⟨hf, hno⟩
  · have hr : By rest := By.right (By.right (he ▸ hb))
    have hlr : l.length = (vint s.size).length + (s.size + rest.length) := by rw [he, List.length_append, List.length_append, bytesOf_length]
    rcases take_cases rest hr (by omega) with ⟨m, behind, hm, he2, hf2⟩ | ⟨hf2, hno2⟩
    · have hk : ikey_Take.f l = some (if RightI ⟨s, ((m / 2 : Nat) : Int), ((m % 2 : Nat) : Int)⟩ then (s, ((m / 2 : Nat) : Int), ((m % 2 : Nat) : Int), behind, true) else (⟨#[]⟩, 0, 0, [], false)) := by
        unfold ikey_Take.f
        refine bind3 hf (fun t e1 e2 e3 => ?_)
        rw [e2]
        refine bind3 hf2 (fun u f1 f2 f3 => ?_)
        have q1 : (m : Int) / 2 = ((m / 2 : Nat) : Int) := by omega
        have q2 : bits .and .u64 (m : Int) 1 % 256 = ((m % 2 : Nat) : Int) := by rw [and1_u64 m hm]; omega
        rw [if_pos e3, if_pos f3, e1, f1, f2, q1, q2]
        refine bind1 (right_f' _ _ _) ?_
        by_cases h : RightI ⟨s, ((m / 2 : Nat) : Int), ((m % 2 : Nat) : Int)⟩
        · rw [decide_eq_true h, if_pos rfl, if_pos h]
        · rw [decide_eq_false h, if_neg (by decide), if_neg h]
      have hform : l = formI ⟨s, ((m / 2 : Nat) : Int), ((m % 2 : Nat) : Int)⟩ ++ behind := by
        rw [formI, show ((m % 2 : Nat) : Int).toNat + ((m / 2 : Nat) : Int).toNat * 2 = m from by omega]
        rw [he, he2]
        simp only [List.append_assoc]
      have hwf : Wf ⟨s, ((m / 2 : Nat) : Int), ((m % 2 : Nat) : Int)⟩ := ⟨by show (0 : Int) ≤ ((m / 2 : Nat) : Int); omega, by show ((m / 2 : Nat) : Int) < _; omega, by show (0 : Int) ≤ ((m % 2 : Nat) : Int); omega, by show ((m % 2 : Nat) : Int) < _; omega⟩
      by_cases h : RightI ⟨s, ((m / 2 : Nat) : Int), ((m % 2 : Nat) : Int)⟩
      · left
        rw [if_pos h] at hk
        exact ⟨⟨s, ((m / 2 : Nat) : Int), ((m % 2 : Nat) : Int)⟩, behind, hwf, h, hform, hk⟩
      · right
        rw [if_neg h] at hk
        refine ⟨hk, fun y r wy ry e => h ?_⟩
        obtain ⟨w1, w2, w3, w4⟩ := wy
        obtain ⟨r1, r2, r3, r4⟩ := ry
        rw [he, formI] at e
        simp only [List.append_assoc] at e
        obtain ⟨h1, h2⟩ := vint_append_inj (by omega) (by omega) e
        obtain ⟨h3, h4⟩ := List.append_inj h2 (by rw [bytesOf_length, bytesOf_length, h1])
        rw [he2] at h4
        obtain ⟨h5, _⟩ := vint_append_inj hm (by omega) h4
        have := bytesOf_inj h3
        subst this
        unfold RightI
        exact ⟨r1, r2, by show ((m / 2 : Nat) : Int) ≤ _; omega, by show ((m % 2 : Nat) : Int) ≤ _; omega⟩
    · right
      refine ⟨?_, fun y r wy ry e => ?_⟩
      · unfold ikey_Take.f
        refine bind3 hf (fun t e1 e2 e3 => ?_)
        rw [e2]
        refine bind3 hf2 (fun u f1 f2 f3 => ?_)
        rw [if_pos e3, if_neg (by rw [f3]; decide)]
      · obtain ⟨w1, w2, w3, w4⟩ := wy
        obtain ⟨r1, r2, r3, r4⟩ := ry
        rw [he, formI] at e
        simp only [List.append_assoc] at e
        obtain ⟨h1, h2⟩ := vint_append_inj (by omega) (by omega) e
        obtain ⟨h3, h4⟩ := List.append_inj h2 (by rw [bytesOf_length, bytesOf_length, h1])
        exact hno2 _ _ (by omega) h4
  · right
    refine ⟨?_, fun y r wy ry e => ?_⟩
    · unfold ikey_Take.f
      refine bind3 hf (fun t e1 e2 e3 => ?_)
      rw [e2]
      have h0 : nums_Take.f [] = some (0, [], false) := by
        rcases take_cases [] .nil (by simp) with ⟨x, rest, _, he, _⟩ | ⟨h, _⟩
        · have := congrArg List.length he
          rw [List.length_append] at this
          have := vint_pos x
          simp at *
          omega
        · exact h
      refine bind3 h0 (fun u f1 f2 f3 => ?_)
      rw [if_neg (by rw [e3]; decide)]
    · obtain ⟨w1, w2, w3, w4⟩ := wy
      obtain ⟨r1, r2, r3, r4⟩ := ry
      rw [formI] at e
      simp only [List.append_assoc] at e
      exact hno y.f0 _ (by omega) e
theorem takeI_form {x : Ik} {rest : List Int} (hw : Wf x) (hr : RightI x) (hb : By rest) (hl : rest.length + 200 < 140737488355328) : ikey_Take.f (formI x ++ rest) = some (x.f0, x.f1, x.f2, rest, true) := by
  have hlen := formI_len hw hr
  rcases takeI_cases (formI x ++ rest) ((formI_by x).append hb) (by rw [List.length_append]; omega) with ⟨y, r, wy, ry, he, hf⟩ | ⟨_, hno⟩
  · obtain ⟨rfl, rfl⟩ := formI_inj hw wy hr ry he
    exact hf
  · exact absurd rfl (hno x rest hw hr)
end Go.Proofs.YtojemmipkpckbaaL
