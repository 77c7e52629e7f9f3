/- The sum as a linear thing over bits. No conditions. Written for this claim. -/
import Derived.Test.YtdppjknfhggpbaaFrameSpec
set_option linter.unusedVariables false
namespace Go.Proofs.YtdppjknfhggpbaaL
open Go Go.RowKit Go.Proofs.YtdppjknfhggpbaaG Go.Proofs.Ytdppjknfhggpbaa.P Go.Proofs.YtdppjknfhggpbaaW.PrintWords

theorem step_eq (x : Nat) : crcStep x = (x / 2) ^^^ (if x.testBit 0 then 3945912366 else 0) := by
  unfold crcStep
  have hb : x.testBit 0 = decide (x % 2 = 1) := Nat.testBit_zero x
  rw [hb]
  by_cases h : x % 2 = 1
  · rw [if_pos h, decide_eq_true h, if_pos rfl]
  · rw [if_neg h, decide_eq_false h, if_neg (by decide), Nat.xor_zero]
theorem xor4 (a b c d : Nat) : (a ^^^ b) ^^^ (c ^^^ d) = (a ^^^ c) ^^^ (b ^^^ d) := by
  rw [Nat.xor_assoc, Nat.xor_assoc, ← Nat.xor_assoc b c d, Nat.xor_comm b c, Nat.xor_assoc c b d]
theorem xor_cancel (a b : Nat) : (a ^^^ b) ^^^ b = a := by rw [Nat.xor_assoc, Nat.xor_self, Nat.xor_zero]
theorem xor_zero_iff {a b : Nat} : a ^^^ b = 0 ↔ a = b := ⟨fun h => by have := xor_cancel a b; rw [h, Nat.zero_xor] at this; exact this.symm, fun h => by rw [h, Nat.xor_self]⟩
theorem step_lin (x y : Nat) : crcStep (x ^^^ y) = crcStep x ^^^ crcStep y := by
  rw [step_eq, step_eq, step_eq, Nat.xor_div_two, Nat.testBit_xor, xor4]
  cases x.testBit 0 <;> cases y.testBit 0 <;> simp
theorem steps_lin (n x y : Nat) : crcSteps n (x ^^^ y) = crcSteps n x ^^^ crcSteps n y := by
  induction n with
  | zero => rfl
  | succ n ih => show crcStep _ = crcStep _ ^^^ crcStep _; rw [ih, step_lin]
theorem steps_zero (n : Nat) : crcSteps n 0 = 0 := by
  induction n with
  | zero => rfl
  | succ n ih => show crcStep _ = 0; rw [ih]; rfl
theorem steps_add (m n x : Nat) : crcSteps (m + n) x = crcSteps m (crcSteps n x) := by
  induction m with
  | zero => rw [Nat.zero_add]; rfl
  | succ m ih => rw [Nat.succ_add]; show crcStep _ = crcStep _; rw [ih]
theorem steps_down (n x : Nat) : crcSteps n (x * 2 ^ n) = x := by
  induction n with
  | zero => show x * 1 = x; omega
  | succ n ih =>
    rw [steps_add n 1]
    show crcSteps n (crcStep (x * 2 ^ (n + 1))) = x
    rw [show crcStep (x * 2 ^ (n + 1)) = x * 2 ^ n from by
      unfold crcStep
      rw [Nat.pow_succ, ← Nat.mul_assoc]
      rw [if_neg (by omega)]; omega]
    exact ih
theorem step_inj0 {x : Nat} (h : x < 4294967296) (h0 : crcStep x = 0) : x = 0 := by
  unfold crcStep at h0
  by_cases hx : x % 2 = 1
  · rw [if_pos hx] at h0
    have := xor_zero_iff.1 h0
    omega
  · rw [if_neg hx] at h0; omega
theorem steps_inj0 (n : Nat) {x : Nat} (h : x < 4294967296) (h0 : crcSteps n x = 0) : x = 0 := by
  induction n with
  | zero => exact h0
  | succ n ih => exact ih (step_inj0 (crcSteps_lt n h) h0)

/-- Bytes as one number, the first the least. -/
def le : List Int → Nat
  | [] => 0
  | c :: cs => c.toNat + 256 * le cs
theorem split8 {c : Nat} (h : c < 256) (v : Nat) : c + 256 * v = (v * 2 ^ 8) ^^^ c := by
  apply Nat.eq_of_testBit_eq
  intro i
  rw [Nat.add_comm, Nat.testBit_two_pow_mul_add (i := 8) v h i, Nat.testBit_xor, Nat.testBit_mul_two_pow]
  by_cases hi : i < 8
  · rw [if_pos hi, decide_eq_false (by omega)]; simp
  · rw [if_neg hi, decide_eq_true (by omega), Nat.testBit_lt_two_pow (x := c) (i := i) (Nat.lt_of_lt_of_le h (show 2 ^ 8 ≤ 2 ^ i from Nat.pow_le_pow_right (by omega) (by omega)))]; simp
theorem split8' (x : Nat) : x = ((x / 256) * 2 ^ 8) ^^^ (x % 256) := by
  rw [← split8 (Nat.mod_lt _ (by omega))]; omega
theorem upd_eq (r : Nat) (c : Int) (h0 : 0 ≤ c) (h1 : c < 256) : crcUpd r c = crcSteps 8 (r ^^^ c.toNat) := by
  unfold crcUpd crcTab
  conv => rhs; rw [split8' r, Nat.xor_assoc, steps_lin, steps_down]
/-- The whole of it as one row of bits. -/
theorem fold_eq : ∀ (l : List Int) (r : Nat), By l → l.foldl crcUpd r = crcSteps (8 * l.length) (r ^^^ le l) := by
  intro l
  induction l with
  | nil => intro r _; show r = r ^^^ 0; rw [Nat.xor_zero]
  | cons c cs ih =>
    intro r hb
    have h1 := hb c (List.mem_cons_self ..)
    have hcs : By cs := fun d hd => hb d (List.mem_cons_of_mem _ hd)
    show cs.foldl crcUpd (crcUpd r c) = _
    rw [ih _ hcs, upd_eq r c h1.1 h1.2, List.length_cons, show 8 * (cs.length + 1) = 8 * cs.length + 8 from by omega, steps_add]
    show _ = crcSteps _ (crcSteps 8 (r ^^^ (c.toNat + 256 * le cs)))
    rw [split8 (by omega) (le cs), Nat.xor_comm (le cs * 2 ^ 8), ← Nat.xor_assoc, steps_lin 8 _ (le cs * 2 ^ 8), steps_down]
theorem le_four (n : Nat) (h : n < 4294967296) : le (four n) = n := by
  unfold four
  simp only [le]
  omega
theorem fold_four (r n : Nat) (hn : n < 4294967296) : (four n).foldl crcUpd r = crcSteps 32 (r ^^^ n) := by
  rw [fold_eq _ _ (four_by n), le_four n hn, four_len]
/-- Behind a row of bytes, four that are its sum, and no others, end in nothing. -/
theorem fold_four_zero {r n : Nat} (hr : r < 4294967296) (hn : n < 4294967296) : (four n).foldl crcUpd r = 0 ↔ n = r := by
  rw [fold_four r n hn]
  constructor
  · intro h
    have := steps_inj0 32 (x := r ^^^ n) (Nat.xor_lt_two_pow (n := 32) (by omega) (by omega)) h
    exact (xor_zero_iff.1 this).symm
  · intro h; rw [h, Nat.xor_self, steps_zero]
theorem xor_mul (a b n : Nat) : (a ^^^ b) * 2 ^ n = (a * 2 ^ n) ^^^ (b * 2 ^ n) := by
  rw [← Nat.shiftLeft_eq, ← Nat.shiftLeft_eq, ← Nat.shiftLeft_eq, Nat.shiftLeft_xor_distrib]
/-- A byte that is bent. -/
theorem le_set (m : Nat) (hm : m < 256) : ∀ (l : List Int) (j : Nat), By l → j < l.length → le (l.set j (((l.getD j 0).toNat ^^^ m : Nat) : Int)) = le l ^^^ (m * 2 ^ (8 * j)) := by
  intro l
  induction l with
  | nil => intro j _ h; exact absurd h (Nat.not_lt_zero _)
  | cons c cs ih =>
    intro j hb h
    have hc := hb.head
    have hx : c.toNat ^^^ m < 256 := Nat.xor_lt_two_pow (n := 8) (by omega) (by omega)
    cases j with
    | zero =>
      show ((c.toNat ^^^ m : Nat) : Int).toNat + 256 * le cs = (c.toNat + 256 * le cs) ^^^ (m * 1)
      rw [Int.toNat_natCast, split8 hx, split8 (by omega), Nat.xor_assoc, Nat.mul_one]
    | succ j =>
      show c.toNat + 256 * le (cs.set j (((cs.getD j 0).toNat ^^^ m : Nat) : Int)) = (c.toNat + 256 * le cs) ^^^ (m * 2 ^ (8 * (j + 1)))
      rw [ih j hb.tail (by simp at h; omega), split8 (by omega), split8 (by omega), xor_mul, Nat.mul_assoc, ← Nat.pow_add, show 8 * j + 8 = 8 * (j + 1) from by omega, Nat.xor_assoc, Nat.xor_assoc, Nat.xor_comm c.toNat]
theorem set_by {l : List Int} (h : By l) (j : Nat) {v : Int} (h0 : 0 ≤ v) (h1 : v < 256) : By (l.set j v) := fun c hc => by
  rcases List.mem_or_eq_of_mem_set hc with h' | rfl
  · exact h c h'
  · exact ⟨h0, h1⟩
theorem four_inv {l : List Int} (hb : By l) (h : l.length = 4) : ∃ n, n < 4294967296 ∧ l = four n := by
  rcases takeFour_cases l hb (by omega) with ⟨h4, _⟩ | ⟨_, n, rest, hn, he, _⟩
  · omega
  · have := congrArg List.length he
    rw [List.length_append, four_len] at this
    obtain rfl : rest = [] := List.eq_nil_of_length_eq_zero (by omega)
    exact ⟨n, hn, by rw [he, List.append_nil]⟩
/-- What is behind a frame's length ends in nothing just if it is a frame. -/
theorem frame_zero {n : Nat} {t : List Int} (ht : By t) (hl : t.length = n + 4) : t.foldl crcUpd (crcOf (four n)) = 0 ↔ ∃ b : List Int, b.length = n ∧ four n ++ t = fseal b := by
  have hsum : ∀ b : List Int, b.foldl crcUpd (crcOf (four n)) = crcOf (four n ++ b) := fun b => by rw [crcOf, crcOf, List.foldl_append]
  constructor
  · intro h
    obtain ⟨m, hm, he⟩ := four_inv (ht.drop n) (by rw [List.length_drop]; omega)
    have hsplit : t = t.take n ++ four m := by rw [← he, List.take_append_drop]
    have htl : (t.take n).length = n := by rw [List.length_take]; omega
    rw [hsplit, List.foldl_append, hsum] at h
    have hm2 := (fold_four_zero (crcOf_lt ((four_by n).append (ht.take n))) hm).1 h
    refine ⟨t.take n, htl, ?_⟩
    rw [fseal, body, htl, List.append_assoc, ← hm2, ← hsplit]
  · rintro ⟨b, hbl, he⟩
    rw [fseal, body, hbl, List.append_assoc] at he
    have ht2 := List.append_cancel_left he
    have hb : By b := By.left (b := four (crcOf (four n ++ b))) (ht2 ▸ ht)
    rw [ht2, List.foldl_append, hsum]
    exact (fold_four_zero (crcOf_lt ((four_by n).append hb)) (crcOf_lt ((four_by n).append hb))).2 rfl
theorem take_zero (k : Nat) {n : Nat} (hn : n ≤ 1048576) {t : List Int} (ht : By t) (hl : t.length = n + 4) :
    (t.foldl crcUpd (crcOf (four n)) = 0 → ∃ b, frame_Take.f (k + 1) (four n ++ t) = some (b, [], 0)) ∧ (t.foldl crcUpd (crcOf (four n)) ≠ 0 → frame_Take.f (k + 1) (four n ++ t) = some ([], [], 50)) := by
  rw [Ne, frame_zero ht hl]
  rcases frame_cases k (four n ++ t) ((four_by n).append ht) (by rw [List.length_append, four_len]; omega) with ⟨b, r, hb, he, hf⟩ | ⟨hf, hno⟩
  · have he' := he
    rw [fseal, body] at he'
    simp only [List.append_assoc] at he'
    obtain ⟨h1, h2⟩ := four_inj (by omega) (by omega) he'
    have h3 := congrArg List.length h2
    rw [List.length_append, List.length_append, four_len] at h3
    obtain rfl : r = [] := List.eq_nil_of_length_eq_zero (by omega)
    exact ⟨fun _ => ⟨b, hf⟩, fun h => absurd ⟨b, h1.symm, by rw [he, List.append_nil]⟩ h⟩
  · exact ⟨fun ⟨b, hbl, he⟩ => absurd (by rw [List.append_nil]; exact he) (hno b [] (by omega)), fun _ => hf⟩
/-- A burst of at most 32 bits does not end in nothing. -/
theorem bent {t s : List Int} (ht : By t) (hs : By s) (hl : s.length = t.length) {r p at_ : Nat} (h0 : t.foldl crcUpd r = 0) (hp : p < 4294967296) (ha : at_ ≤ 8 * t.length) (hx : le s = le t ^^^ (p * 2 ^ at_)) :
    s.foldl crcUpd r = 0 ↔ p = 0 := by
  rw [fold_eq t r ht] at h0
  rw [fold_eq s r hs, hx, ← Nat.xor_assoc, hl, steps_lin, h0, Nat.zero_xor, show 8 * t.length = (8 * t.length - at_) + at_ from by omega, steps_add, steps_down]
  exact ⟨steps_inj0 _ hp, fun h => by rw [h, steps_zero]⟩
/-- Bit by bit, what an odd number of three has. -/
theorem crc_three : ∀ (a b c d : List Int) (r s u v : Nat), a.length = d.length → b.length = d.length → c.length = d.length → By a → By b → By c → (∀ i, i < d.length → d.getD i 0 = (((a.getD i 0).toNat ^^^ (b.getD i 0).toNat ^^^ (c.getD i 0).toNat : Nat) : Int)) → v = r ^^^ s ^^^ u → d.foldl crcUpd v = a.foldl crcUpd r ^^^ b.foldl crcUpd s ^^^ c.foldl crcUpd u := by
  intro a b c d
  induction d generalizing a b c with
  | nil =>
    intro r s u v ha hb hc _ _ _ _ hv
    obtain rfl := List.eq_nil_of_length_eq_zero ha
    obtain rfl := List.eq_nil_of_length_eq_zero hb
    obtain rfl := List.eq_nil_of_length_eq_zero hc
    exact hv
  | cons d ds ih =>
    intro r s u v ha hb hc ba bb bc hd hv
    obtain ⟨a0, a1, rfl⟩ := List.exists_cons_of_length_eq_add_one ha
    obtain ⟨b0, bs, rfl⟩ := List.exists_cons_of_length_eq_add_one hb
    obtain ⟨c0, cs, rfl⟩ := List.exists_cons_of_length_eq_add_one hc
    simp only [List.length_cons, Nat.add_right_cancel_iff] at ha hb hc
    have h0 : d = ((a0.toNat ^^^ b0.toNat ^^^ c0.toNat : Nat) : Int) := hd 0 (by simp)
    have ha0 := ba.head
    have hb0 := bb.head
    have hc0 := bc.head
    have hx1 : a0.toNat ^^^ b0.toNat < 256 := Nat.xor_lt_two_pow (n := 8) (by omega) (by omega)
    have hx2 : a0.toNat ^^^ b0.toNat ^^^ c0.toNat < 256 := Nat.xor_lt_two_pow (n := 8) (by omega) (by omega)
    show ds.foldl crcUpd (crcUpd v d) = a1.foldl crcUpd (crcUpd r a0) ^^^ bs.foldl crcUpd (crcUpd s b0) ^^^ cs.foldl crcUpd (crcUpd u c0)
    refine ih a1 bs cs _ _ _ _ ha hb hc ba.tail bb.tail bc.tail (fun i hi => hd (i + 1) (by simpa using hi)) ?_
    rw [upd_eq v d (by omega) (by omega), upd_eq r a0 ha0.1 ha0.2, upd_eq s b0 hb0.1 hb0.2, upd_eq u c0 hc0.1 hc0.2, ← steps_lin, ← steps_lin, h0, Int.toNat_natCast, hv, xor4 r, xor4 (r ^^^ s)]
/-- With another last byte it is another sum. -/
theorem crc_last {l : List Int} (h : By l) {x y : Int} (hx : 0 ≤ x ∧ x < 256) (hy : 0 ≤ y ∧ y < 256) : crcOf (l ++ [x]) = crcOf (l ++ [y]) ↔ x = y := by
  constructor
  · intro he
    rw [crcOf, crcOf, List.foldl_append, List.foldl_append] at he
    change crcUpd (crcOf l) x = crcUpd (crcOf l) y at he
    rw [upd_eq _ x hx.1 hx.2, upd_eq _ y hy.1 hy.2] at he
    have h2 := xor_zero_iff.2 he
    rw [← steps_lin, xor4, Nat.xor_self, Nat.zero_xor] at h2
    have := xor_zero_iff.1 (steps_inj0 8 (x := x.toNat ^^^ y.toNat) (Nat.xor_lt_two_pow (n := 32) (by omega) (by omega)) h2)
    omega
  · intro h; rw [h]
end Go.Proofs.YtdppjknfhggpbaaL
