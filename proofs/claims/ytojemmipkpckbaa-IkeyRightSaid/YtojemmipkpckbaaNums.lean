/- Contracts of nums.Put (through its iterator), slices.Clone at []byte, slices.IndexFunc at []byte with the closure of nums.Take. Conditions: those of each theorem (bytes fewer than 2^47). Written for this claim. -/
import Derived.Test.YtojemmipkpckbaaRng
import Derived.Test.YtojemmipkpckbaaKd
import Derived.Test.YtojemmipkpckbaaProg
import Derived.Test.YtojemmipkpckbaaWWords
import Derived.Test.YtojemmipkpckbaaWMore
import Derived.Lib.SliceRun
import Derived.Shelf.Abstract
import Derived.Shelf.RegionOpen
import Derived.WalkKit
import Derived.OwnWalkIn
import Derived.TacticsInMore
import Derived.LoopNIn
import Derived.LoopIn
import Derived.Outline
set_option linter.unusedVariables false
set_option linter.unusedSimpArgs false
namespace Go.Proofs.YtojemmipkpckbaaG
open Go Go.RowKit Go.Proofs.YtojemmipkpckbaaR Go.Proofs.YtojemmipkpckbaaW.PrintWords
attribute [local go_sem] Oper.semAt_some

theorem info5 : (Try.prog.info? 5).map (fun i => (i.zero, i.size, i.bytes)) = some (some (.int .u8 0), 1, 1) := by kernel_rfl

/-! ### slices.Clone at []byte -/
def slices_Clone_byte_byte.f (l0 : List Int) : Option (List Int) := if l0.length < 140737488355328 then some l0 else none

set_option maxHeartbeats 1000000 in
theorem slices_Clone_byte_byte.calls (A0 : Option Addr) (c0 : Nat) (l0 : List Int) (r : List Int) (w : World) (hr0 : Kd.C (Kd.int .u8) w A0 l0.length l0) (hc0 : l0.length ≤ c0) (h : slices_Clone_byte_byte.f l0 = some r) :
    Calls Try.prog 46 #[.slice A0 l0.length c0] w fun e w' => ∃ v0_ : Value, e = .returned (v0_) ∧ Kd.R (Kd.int .u8) 5 w' w.heap.size (fun _ => True) v0_ r ∧ Below w.heap.size w w' := by
  have HR0 := Aside0.mk hr0
  have HC0 := Aside0.mk hc0
  clear hr0 hc0
  unfold slices_Clone_byte_byte.f at h
  by_cases hl : l0.length < 140737488355328
  · rw [if_pos hl] at h
    obtain rfl := Option.some.inj h
    clear h
    have HL := Aside0.mk hl
    clear hl
    have hnil := fun W => Lib.run_eql_slice_nil (P := Try.prog) W 44 5 A0 l0.length c0 0 0 Try.underlying44
    cases A0 with
    | none =>
      have hz : l0 = [] := by
        cases l0 with
        | nil => rfl
        | cons x xs =>
          obtain ⟨ad, e, _⟩ := HR0.out.2.2 (by simp)
          cases e
      subst hz
      have hnil0 := fun W => Lib.run_eql_slice_nil (P := Try.prog) W 44 5 none 0 c0 0 0 Try.underlying44
      clear hnil
      go_enter Try.func46, Try.ntmps46
      go_wp2
      go_ret
      exact ⟨_, rfl, Kd.R_nil _ _ _ _ _, Below.refl _ _⟩
    | some ad =>
      have HE : Aside0 ((w.alloc (.cells #[] 5)).ownsRow w.heap.size 5 1 (.slice (some ⟨w.heap.size, 0, none⟩) 0 0) 0 (nums .u8 [])) := ⟨own_lit w w.heap.size 5 .u8 [] (Nat.le_refl _) (by simp)⟩
      go_enter Try.func46, Try.ntmps46
      go_wp2_with (first | ((with_reducible refine gate_builtin (b := .append) (xs := #[.tmp 5, .tmp 6]) rfl ?_); at_builtin; refine Kd.R_append_rows (Kd.int .u8) (w0 := w) w.heap.size rfl (.tmp 5) (.tmp 6) 44 5 (.int .u8 0) 1 rfl Try.underlying44 info5 rfl (by decide) (by omega) (.slice (some ⟨w.heap.size, 0, none⟩) 0 0) ([] : List Int) l0 _ _ _ (fun _ => True) (fun _ => False) rfl rfl ?aO ?aR (fun _ _ h => h) (fun _ h => h.elim) ?aF ?aB ?aS ?aL ?_; (case aR => exact Kd.C_alloc HR0.out _); (case aB => exact (Below.refl _ _).alloc (Nat.le_refl _) _); (case aF => exact (fun _ _ => trivial)); (case aO => exact Kd.R_of_own (xs := ([] : List Int)) HE.out (fun _ _ => trivial)); (case aS => exact by simp); (case aL => have := HL.out; simp; omega); intro v1 w1 ho hb hg hat; have HO := Aside0.mk ho; have HB := Aside0.mk hb; clear ho hb hg hat))
      go_ret
      exact ⟨_, rfl, HO.out, HB.out⟩
  · rw [if_neg hl] at h
    cases h

/-! ### slices.IndexFunc at []byte, with 'c < 128' -/
def slices_IndexFunc_byte_byte.f (l0 : List Int) : Option Int := some (if l0.findIdx (· < 128) < l0.length then (l0.findIdx (· < 128) : Int) else -1)

set_option maxHeartbeats 1000000 in
theorem slices_IndexFunc_byte_byte.calls (A0 : Option Addr) (c0 : Nat) (l0 : List Int) (r : Int) (w : World) (hr0 : Kd.C (Kd.int .u8) w A0 l0.length l0) (hc0 : l0.length ≤ c0) (h : slices_IndexFunc_byte_byte.f l0 = some r) :
    Calls Try.prog 63 #[.slice A0 l0.length c0, .func (.func 64) #[] #[]] w fun e w' => e = .returned (.int .i64 r) ∧ Drawn0 w w' := by
  have hR := Aside0.mk (Kd.reads_of_C (d := (0 : Int)) hr0)
  have hm := hr0.2.1
  have HC0 := Aside0.mk hc0
  have H := Aside0.mk (Option.some.inj h)
  clear hr0 hc0 h
  go_enter Try.func63, Try.ntmps63
  go_wp2
  go_loop [5, 8] (fun v5 v8 => ∃ k : Nat, k ≤ l0.length ∧ v8 = .int .i64 k ∧ Aside0 (∀ j, j < k → ¬ (l0.getD j 0 < 128))) (fun _ v8 => l0.length - (intOf v8).toNat)
  case atStart => exact ⟨0, Nat.zero_le _, rfl, ⟨fun j hj => absurd hj (Nat.not_lt_zero _)⟩⟩
  case round =>
    obtain ⟨k, hk, rfl, hall⟩ := hrel
    by_cases hlt : k < l0.length
    · obtain ⟨ad, e, hc⟩ := hR.out.2.2 (by omega)
      subst e
      have hck := hc k hlt
      clear hc
      go_wp2
      case roundEnd =>
        rename_i h
        refine ⟨⟨k + 1, by omega, by go_num, ⟨fun j hj => ?_⟩⟩, by simp [intOf]; omega⟩
        rcases Nat.lt_or_ge j k with h1 | h1
        · exact hall.out j h1
        · obtain rfl : j = k := by omega
          simpa [hlt] using h
      have h : l0[k] < 128 := by assumption
      go_ret
      have e1 : l0.findIdx (· < 128) = k := by
        refine (List.findIdx_eq hlt).2 ⟨by simpa using h, fun j hj => ?_⟩
        have := hall.out j hj
        rw [List.getD_eq_getElem?_getD, List.getElem?_eq_getElem (by omega)] at this
        simpa using this
      have e2 := H.out
      rw [e1, if_pos hlt] at e2
      exact ⟨ret_int e2, Drawn0.refl _⟩
    · go_wp2
      go_ret
      have e1 : l0.findIdx (· < 128) = l0.length := by
        refine List.findIdx_eq_length.2 (fun x hx => ?_)
        obtain ⟨j, hj, rfl⟩ := List.getElem_of_mem hx
        have := hall.out j (by omega)
        rw [List.getD_eq_getElem?_getD, List.getElem?_eq_getElem hj] at this
        simpa using this
      have e2 := H.out
      rw [e1, if_neg (Nat.lt_irrefl _)] at e2
      exact ⟨ret_int e2, Drawn0.refl _⟩

theorem or128_fin : ∀ b : Fin 256, (b.val ||| 128) = b.val % 128 + 128 := by decide +kernel
theorem or128 (y : Nat) : bits .or .u8 ((y : Int) % 256) 128 = ((y % 128 + 128 : Nat) : Int) := by
  have h := or128_fin ⟨y % 256, by omega⟩
  show IntKind.u8.wrap ((BitVec.ofInt 8 ((y : Int) % 256) ||| BitVec.ofInt 8 128).toNat : Int) = _
  have e1 : BitVec.ofInt 8 ((y : Int) % 256) = BitVec.ofNat 8 (y % 256) := by
    rw [show ((y : Int) % 256) = ((y % 256 : Nat) : Int) from by omega, BitVec.ofInt_natCast]
  rw [e1, BitVec.toNat_or, BitVec.toNat_ofNat]
  simp only [Nat.reducePow, Nat.mod_mod]
  rw [show (BitVec.ofInt 8 128).toNat = 128 from rfl, h, IntKind.wrap_u8]
  simp only
  omega

/-! ### nums.Take -/
/-- The number that bytes say, seven bits each, the lowest first. -/
def val7 : List Int → Nat
  | [] => 0
  | c :: cs => (c % 128).toNat + 128 * val7 cs
/-- Does a number stand ahead, in its shortest form, and is it no greater than a word? -/
def takeOk (l : List Int) : Bool := decide (l.findIdx (· < 128) < l.length) && decide (l.findIdx (· < 128) < 10) && !(decide (0 < l.findIdx (· < 128)) && decide (l.getD (l.findIdx (· < 128)) 0 = 0)) && !(decide (l.findIdx (· < 128) = 9) && decide (1 < l.getD 9 0))
def nums_Take.f (l0 : List Int) : Option (Int × List Int × Bool) :=
  if (∀ c ∈ l0, 0 ≤ c ∧ c < 256) ∧ l0.length < 140737488355328 then
    some (if takeOk l0 = true then ((val7 (l0.take (l0.findIdx (· < 128) + 1)) : Int), l0.drop (l0.findIdx (· < 128) + 1), true) else (0, [], false))
  else none

set_option maxRecDepth 100000 in
set_option maxHeartbeats 2000000 in
theorem take_no (A0 : Option Addr) (c0 : Nat) (l0 : List Int) (w : World) (hr0 : Kd.C (Kd.int .u8) w A0 l0.length l0) (hc0 : l0.length ≤ c0) (h : takeOk l0 = false) :
    Calls Try.prog 50 #[.slice A0 l0.length c0] w fun e w' => ∃ v1_ : Value, e = .returned (.tuple #[.int .u64 0, v1_, .bool false]) ∧ Kd.R (Kd.int .u8) 5 w' w.heap.size (fun _ => True) v1_ [] ∧ Below w.heap.size w w' := by
  have hm := hr0.2.1
  have HR := Aside0.mk hr0
  have hcl : ∀ W (hb : Below w.heap.size w W) (i : Int), i = (if l0.findIdx (· < 128) < l0.length then (l0.findIdx (· < 128) : Int) else -1) → Calls Try.prog 63 #[.slice A0 l0.length c0, .func (.func 64) #[] #[]] W fun e w' => e = .returned (.int .i64 i) ∧ Drawn0 W w' :=
    fun W hb i hi => slices_IndexFunc_byte_byte.calls A0 c0 l0 i W (Kd.C_below hr0 hb) hc0 (by rw [hi]; rfl)
  have HCL := Aside0.mk hcl
  clear hcl hr0 hc0
  by_cases h1 : l0.findIdx (· < 128) < l0.length
  · generalize hi : l0.findIdx (· < 128) = i at *
    rw [if_pos h1] at HCL
    obtain ⟨ad, e, hc⟩ := (Kd.reads_of_C (d := (0 : Int)) HR.out).2.2 (by omega)
    subst e
    have hcw : ∀ W (hd : Drawn0 w W) j, j < l0.length → W.cell? (ad.add j) = some (.int .u8 (l0.getD j 0)) := fun W hd j hj => pw_cell_below hd.below (hc j hj)
    have HCW := Aside0.mk hcw
    clear hcw hc
    have hnz : (((i : Int) + 1) == 0) = false := beq_eq_false_iff_ne.2 (by omega)
    by_cases h10 : 10 ≤ i
    · clear h
      go_enter Try.func50, Try.ntmps50
      go_wp2_with (go_at_call 63; refine (HCL.out _ (Below.refl _ _) (i : Int) rfl).mono ?_; rintro e w1 ⟨rfl, hd⟩; have HD := Aside0.mk hd; clear hd)
      go_ret3
      exact ⟨_, rfl, Kd.R_nil _ _ _ _ _, HD.out.below⟩
    · by_cases h0 : 0 < i ∧ l0.getD i 0 = 0
      · obtain ⟨h01, h02⟩ := h0
        clear h
        have H02 := Aside0.mk h02
        clear h02
        go_enter Try.func50, Try.ntmps50
        go_wp2_with (go_at_call 63; refine (HCL.out _ (Below.refl _ _) (i : Int) rfl).mono ?_; rintro e w1 ⟨rfl, hd⟩; have HD := Aside0.mk hd; have hck := HCW.out _ hd i h1; rw [H02.out] at hck; clear hd)
        go_ret3
        exact ⟨_, rfl, Kd.R_nil _ _ _ _ _, HD.out.below⟩
      · have h9 : i = 9 ∧ 1 < l0.getD i 0 := by
          simp only [takeOk, hi] at h
          have e9 : i < 10 := by omega
          by_cases e : i = 9
          · subst e
            simp [h1, e9] at h
            have h0' : ¬ l0[9] = 0 := fun e => h0 ⟨by omega, by rw [List.getD_eq_getElem?_getD, List.getElem?_eq_getElem h1]; exact e⟩
            refine ⟨rfl, ?_⟩
            rw [List.getD_eq_getElem?_getD, List.getElem?_eq_getElem h1]
            exact h h0'
          · simp [h1, e9, e] at h
            exact absurd ⟨h.1, by rw [List.getD_eq_getElem?_getD, List.getElem?_eq_getElem h1]; exact h.2⟩ h0
        obtain ⟨h9, h92⟩ := h9
        have h91 : ¬ l0.getD i 0 = 0 := fun e => h0 ⟨by omega, e⟩
        have hle : i ≤ 9 := by omega
        have hge : 9 ≤ i := by omega
        clear h h0 h9
        generalize hg : l0.getD i 0 = c at *
        have hb1 : (c == 0) = false := by simpa using h91
        have hb2 : (((i : Int) + 1) == 10) = true := beq_iff_eq.2 (by omega)
        have Hg := Aside0.mk hg
        clear hg h91
        go_enter Try.func50, Try.ntmps50
        go_wp2_with (go_at_call 63; refine (HCL.out _ (Below.refl _ _) (i : Int) rfl).mono ?_; rintro e w1 ⟨rfl, hd⟩; have HD := Aside0.mk hd; have hck := HCW.out _ hd i h1; rw [Hg.out] at hck; clear hd)
        go_ret3
        exact ⟨_, rfl, Kd.R_nil _ _ _ _ _, HD.out.below⟩
  · rw [if_neg h1] at HCL
    clear h
    go_enter Try.func50, Try.ntmps50
    go_wp2_with (go_at_call 63; refine (HCL.out _ (Below.refl _ _) (-1) rfl).mono ?_; rintro e w1 ⟨rfl, hd⟩; have HD := Aside0.mk hd; clear hd)
    go_ret3
    exact ⟨_, rfl, Kd.R_nil _ _ _ _ _, HD.out.below⟩

theorem and127_fin : ∀ b : Fin 256, (b.val &&& 127) = b.val % 128 := by decide +kernel
theorem and127 {d : Int} (h0 : 0 ≤ d) (h1 : d < 256) : bits .and .u8 d 127 = d % 128 := by
  obtain ⟨n, rfl⟩ := Int.eq_ofNat_of_zero_le h0
  have h := and127_fin ⟨n, by omega⟩
  show IntKind.u8.wrap ((BitVec.ofInt 8 (n : Int) &&& BitVec.ofInt 8 127).toNat : Int) = _
  rw [BitVec.ofInt_natCast, BitVec.toNat_and, BitVec.toNat_ofNat, show (BitVec.ofInt 8 127).toNat = 127 from rfl, Nat.mod_eq_of_lt (by omega)]
  simp only at h
  rw [h, IntKind.wrap_u8]
  omega
theorem bits_or_u64 (a b : Nat) (ha : a < 18446744073709551616) (hb : b < 18446744073709551616) : bits .or .u64 (a : Int) (b : Int) = ((a ||| b : Nat) : Int) := by
  have hx : a ||| b < 2 ^ 64 := Nat.or_lt_two_pow (by omega) (by omega)
  show IntKind.u64.wrap ((BitVec.ofInt 64 (a : Int) ||| BitVec.ofInt 64 (b : Int)).toNat : Int) = _
  rw [BitVec.ofInt_natCast, BitVec.ofInt_natCast, BitVec.toNat_or, BitVec.toNat_ofNat, BitVec.toNat_ofNat, Nat.mod_eq_of_lt (by omega), Nat.mod_eq_of_lt (by omega), IntKind.wrap_u64]
  omega
theorem or_add (a c k : Nat) (h : a < 2 ^ k) : a ||| c * 2 ^ k = a + c * 2 ^ k := by
  rw [Nat.or_comm, ← Nat.shiftLeft_eq, ← Nat.shiftLeft_add_eq_or_of_lt h, Nat.add_comm]
theorem val7_lt : ∀ l : List Int, val7 l < 128 ^ l.length
  | [] => by simp [val7]
  | c :: cs => by
    have := val7_lt cs
    have h2 : (c % 128).toNat < 128 := by omega
    rw [val7, List.length_cons, Nat.pow_succ]
    omega
theorem val7_snoc : ∀ (l : List Int) (c : Int), val7 (l ++ [c]) = val7 l + (c % 128).toNat * 128 ^ l.length
  | [], c => by simp [val7]
  | d :: ds, c => by
    rw [List.cons_append, val7, val7_snoc ds c, val7, List.length_cons, Nat.pow_succ, Nat.mul_add, Nat.add_assoc, Nat.mul_comm (128 ^ ds.length) 128, Nat.mul_left_comm]
theorem take_step (l : List Int) (k : Nat) (hk : k < l.length) (hk9 : k ≤ 9) (h0 : 0 ≤ l.getD k 0) (h1 : l.getD k 0 < 256) (h9 : k = 9 → l.getD k 0 ≤ 1) :
    bits .or .u64 ((val7 (l.take k) : Nat) : Int) (IntKind.u64.wrap (IntKind.u64.wrap (bits .and .u8 (l.getD k 0) 127) * 2 ^ (7 * k))) = ((val7 (l.take (k + 1)) : Nat) : Int) := by
  have e1 : l.take (k + 1) = l.take k ++ [l.getD k 0] := by
    rw [List.take_succ_eq_append_getElem hk, List.getD_eq_getElem?_getD, List.getElem?_eq_getElem hk]; rfl
  have hlen : (l.take k).length = k := by rw [List.length_take]; omega
  have hlt := val7_lt (l.take k)
  rw [hlen] at hlt
  rw [e1, val7_snoc, hlen, and127 h0 h1]
  generalize l.getD k 0 = d at *
  obtain ⟨n, rfl⟩ := Int.eq_ofNat_of_zero_le h0
  generalize val7 (l.take k) = X at *
  have e128 : (128 : Nat) ^ k = 2 ^ (7 * k) := by rw [show (128 : Nat) = 2 ^ 7 from rfl, ← Nat.pow_mul]
  have hm : ((n : Int) % 128).toNat = n % 128 := by omega
  have hb : n % 128 * 2 ^ (7 * k) < 18446744073709551616 := by
    rcases Nat.lt_or_ge k 9 with h | h
    · have : (2 : Nat) ^ (7 * k) ≤ 2 ^ 56 := Nat.pow_le_pow_right (by omega) (by omega)
      have h3 : n % 128 ≤ 127 := by omega
      calc n % 128 * 2 ^ (7 * k) ≤ 127 * 2 ^ 56 := Nat.mul_le_mul h3 this
        _ < 18446744073709551616 := by decide
    · obtain rfl : k = 9 := by omega
      have := h9 rfl
      have h3 : n % 128 ≤ 1 := by omega
      calc n % 128 * 2 ^ (7 * 9) ≤ 1 * 2 ^ (7 * 9) := Nat.mul_le_mul h3 (Nat.le_refl _)
        _ < 18446744073709551616 := by decide
  have hX : X < 18446744073709551616 := by
    have : (2 : Nat) ^ (7 * k) ≤ 2 ^ 63 := Nat.pow_le_pow_right (by omega) (by omega)
    rw [e128] at hlt
    have e63 : (2 : Nat) ^ 63 = 9223372036854775808 := rfl
    omega
  have ew : IntKind.u64.wrap (IntKind.u64.wrap ((n : Int) % 128) * 2 ^ (7 * k)) = ((n % 128 * 2 ^ (7 * k) : Nat) : Int) := by
    have e2 : IntKind.u64.wrap ((n : Int) % 128) = ((n % 128 : Nat) : Int) := by rw [IntKind.wrap_u64]; omega
    have e3 : (((n % 128 : Nat) : Int) * 2 ^ (7 * k)) = ((n % 128 * 2 ^ (7 * k) : Nat) : Int) := by push_cast; rfl
    rw [e2, e3, IntKind.wrap_u64]
    omega
  rw [ew, bits_or_u64 _ _ hX hb, hm, e128]
  rw [e128] at hlt
  rw [or_add _ _ _ hlt]

theorem clone_n (A0 : Option Addr) (n c0 : Nat) (l0 : List Int) (w : World) (hn : l0.length = n) (hr0 : Kd.C (Kd.int .u8) w A0 l0.length l0) (hc0 : l0.length ≤ c0) (h : l0.length < 140737488355328) :
    Calls Try.prog 46 #[.slice A0 n c0] w fun e w' => ∃ v0_ : Value, e = .returned (v0_) ∧ Kd.R (Kd.int .u8) 5 w' w.heap.size (fun _ => True) v0_ l0 ∧ Below w.heap.size w w' := by
  subst hn
  exact slices_Clone_byte_byte.calls A0 c0 l0 l0 w hr0 hc0 (by unfold slices_Clone_byte_byte.f; rw [if_pos h])

set_option maxRecDepth 100000 in
set_option maxHeartbeats 4000000 in
theorem take_yes (A0 : Option Addr) (c0 : Nat) (l0 : List Int) (w : World) (hr0 : Kd.C (Kd.int .u8) w A0 l0.length l0) (hc0 : l0.length ≤ c0) (h : takeOk l0 = true) (hby : ∀ c ∈ l0, 0 ≤ c ∧ c < 256) (hbig : l0.length < 140737488355328) :
    Calls Try.prog 50 #[.slice A0 l0.length c0] w fun e w' => ∃ v1_ : Value, e = .returned (.tuple #[.int .u64 (val7 (l0.take (l0.findIdx (· < 128) + 1)) : Int), v1_, .bool true]) ∧ Kd.R (Kd.int .u8) 5 w' w.heap.size (fun _ => True) v1_ (l0.drop (l0.findIdx (· < 128) + 1)) ∧ Below w.heap.size w w' := by
  have hm := hr0.2.1
  have HR := Aside0.mk hr0
  have HC0 := Aside0.mk hc0
  have hcl : ∀ W (hb : Below w.heap.size w W) (i : Int), i = (if l0.findIdx (· < 128) < l0.length then (l0.findIdx (· < 128) : Int) else -1) → Calls Try.prog 63 #[.slice A0 l0.length c0, .func (.func 64) #[] #[]] W fun e w' => e = .returned (.int .i64 i) ∧ Drawn0 W w' :=
    fun W hb i hi => slices_IndexFunc_byte_byte.calls A0 c0 l0 i W (Kd.C_below hr0 hb) hc0 (by rw [hi]; rfl)
  have HCL := Aside0.mk hcl
  clear hcl hr0 
  simp only [takeOk, Bool.and_eq_true, decide_eq_true_eq, Bool.not_eq_true', Bool.and_eq_false_iff, decide_eq_false_iff_not] at h
  generalize hi : l0.findIdx (· < 128) = i at *
  obtain ⟨⟨⟨h1, h2⟩, h3⟩, h4⟩ := h
  rw [if_pos h1] at HCL
  obtain ⟨ad, e, hc⟩ := (Kd.reads_of_C (d := (0 : Int)) HR.out).2.2 (by omega)
  subst e
  have hcw : ∀ W (hd : Drawn0 w W) j, j < l0.length → W.cell? (ad.add j) = some (.int .u8 (l0.getD j 0)) := fun W hd j hj => pw_cell_below hd.below (hc j hj)
  have HCW := Aside0.mk hcw
  clear hcw hc
  have hnz : (((i : Int) + 1) == 0) = false := beq_eq_false_iff_ne.2 (by omega)
  have hgd : l0.getD i 0 = l0[i] := by rw [List.getD_eq_getElem?_getD, List.getElem?_eq_getElem h1]; rfl
  have H3 := Aside0.mk h3
  have H4 := Aside0.mk h4
  clear h3 h4
  have HI := Aside0.mk hi
  have HBY := Aside0.mk hby
  clear hi hby
  generalize hg : l0.getD i 0 = c at *
  have Hg := Aside0.mk hg
  clear hg hgd
  have hw1 : IntKind.i64.wrap ((i : Int) + 1) = (i : Int) + 1 := IntWalk.i64_in _ (by omega)
  -- the two tests ahead
  have hcase : (0 < i ∧ (c == 0) = false ∧ 9 ≤ i ∧ c ≤ 1 ∧ (((i : Int) + 1) == 10) = true) ∨ (0 < i ∧ (c == 0) = false ∧ i < 9 ∧ (((i : Int) + 1) == 10) = false) ∨ (i ≤ 0 ∧ (((i : Int) + 1) == 10) = false) := by
    rcases Nat.eq_zero_or_pos i with h | h
    · exact .inr (.inr ⟨by omega, beq_eq_false_iff_ne.2 (by omega)⟩)
    · have hb1 : (c == 0) = false := by
        rcases H3.out with h' | h'
        · omega
        · simpa using h'
      by_cases h9 : i = 9
      · refine .inl ⟨h, hb1, by omega, ?_, beq_iff_eq.2 (by omega)⟩
        rcases H4.out with h' | h'
        · exact absurd h9 h'
        · rw [← Hg.out, h9]; omega
      · exact .inr (.inl ⟨h, hb1, by omega, beq_eq_false_iff_ne.2 (by omega)⟩)
  clear hw1
  have hcut : ∀ W, Drawn0 w W → Kd.C (Kd.int .u8) W (if c0 = i + 1 then some ad else some ⟨ad.block, ad.off + (i + 1), none⟩) (l0.drop (i + 1)).length (l0.drop (i + 1)) := fun W hd => by
    have := Kd.C_drop (Kd.C_below HR.out hd.below) (m := i + 1) (by omega) HC0.out
    have e : (i + 1) * (Kd.int .u8).sz = i + 1 := Nat.mul_one _
    rw [e] at this
    have e2 : (Option.map (fun x => Addr.add x (i + 1)) (some ad)) = some ⟨ad.block, ad.off + (i + 1), none⟩ := by simp [Addr.add]
    rwa [e2] at this
  have HCUT := Aside0.mk hcut
  have HBIG : Aside0 ((l0.drop (i + 1)).length < 140737488355328) := ⟨by rw [List.length_drop]; omega⟩
  have HLD : Aside0 ((l0.drop (i + 1)).length = l0.length - (i + 1)) := ⟨List.length_drop⟩
  have hstep : ∀ k, k < i + 1 → bits .or .u64 ((val7 (l0.take k) : Nat) : Int) (IntKind.u64.wrap (IntKind.u64.wrap (bits .and .u8 (l0.getD k 0) 127) * 2 ^ (7 * k))) = ((val7 (l0.take (k + 1)) : Nat) : Int) := fun k hk => by
    have hkl : k < l0.length := by omega
    have hmem : l0.getD k 0 ∈ l0 := by rw [List.getD_eq_getElem?_getD, List.getElem?_eq_getElem hkl]; exact List.getElem_mem hkl
    refine take_step l0 k hkl (by omega) (HBY.out _ hmem).1 (HBY.out _ hmem).2 (fun e => ?_)
    rcases H4.out with h' | h'
    · omega
    · rw [e]; omega
  have HSTEP := Aside0.mk hstep
  have hcn1 : c0 ≤ i + 1 → ∀ W, Drawn0 w W → Calls Try.prog 46 #[.slice (some ad) (l0.length - (i + 1)) 0] W fun e w' => ∃ v0_ : Value, e = .returned (v0_) ∧ Kd.R (Kd.int .u8) 5 w' W.heap.size (fun _ => True) v0_ (l0.drop (i + 1)) ∧ Below W.heap.size W w' := fun hc W hd => by
    have he : c0 = i + 1 := by have := HC0.out; omega
    have := HCUT.out W hd
    rw [if_pos he] at this
    exact clone_n _ _ _ _ W HLD.out this (by have := HLD.out; have := HC0.out; omega) HBIG.out
  have hcn2 : ¬ c0 ≤ i + 1 → ∀ W, Drawn0 w W → Calls Try.prog 46 #[.slice (some ⟨ad.block, ad.off + (i + 1), none⟩) (l0.length - (i + 1)) (c0 - (i + 1))] W fun e w' => ∃ v0_ : Value, e = .returned (v0_) ∧ Kd.R (Kd.int .u8) 5 w' W.heap.size (fun _ => True) v0_ (l0.drop (i + 1)) ∧ Below W.heap.size W w' := fun hc W hd => by
    have := HCUT.out W hd
    rw [if_neg (by omega)] at this
    exact clone_n _ _ _ _ W HLD.out this (by have := HLD.out; have := HC0.out; omega) HBIG.out
  have HCLN1 := Aside0.mk hcn1
  have HCLN2 := Aside0.mk hcn2
  clear hstep hcut hbig hc0 hcn1 hcn2
  obtain ⟨X, hX⟩ : ∃ X : Nat → Nat, X = fun k => val7 (l0.take k) := ⟨_, rfl⟩
  have HX := Aside0.mk hX
  have HX0 : Aside0 (X 0 = 0) := ⟨by rw [hX]; rfl⟩
  clear hX
  have hle : i + 1 ≤ c0 := by have := HC0.out; omega
  by_cases hcap : c0 ≤ i + 1
  all_goals
    rcases hcase with ⟨hp1, hp2, hp3, hp4, hp5⟩ | ⟨hp1, hp2, hp3, hp5⟩ | ⟨hp1, hp5⟩
    all_goals
      go_enter Try.func50, Try.ntmps50
      go_wp2_with (go_at_call 63; refine (HCL.out _ (Below.refl _ _) (i : Int) rfl).mono ?_; rintro e w1 ⟨rfl, hd⟩; have HD := Aside0.mk hd; have hck := HCW.out _ hd i h1; rw [Hg.out] at hck; clear hd)
      go_loop [6, 7, 8, 44] (fun v6 v7 v8 v44 => ∃ k : Nat, k ≤ i + 1 ∧ v44 = .int .i64 k ∧ v6 = .int .u64 (X k)) (fun _ _ _ v44 => i + 1 - (intOf v44).toNat)
      case atStart => exact ⟨0, Nat.zero_le _, rfl, by rw [HX0.out]; rfl⟩
      case round =>
        obtain ⟨k, hk, rfl, rfl⟩ := hrel
        by_cases hlt : k < i + 1
        · have hckk := HCW.out _ HD.out k (by omega)
          have HS := Aside0.mk (HSTEP.out k hlt)
          generalize hg2 : l0.getD k 0 = d at *
          have Hg2 := Aside0.mk hg2
          clear hg2 hck
          go_wp2
          case roundEnd =>
            refine ⟨⟨k + 1, by omega, by go_num, ?_⟩, by simp [intOf]; omega⟩
            rw [HX.out]
            exact congrArg (Value.int .u64) HS.out
        · have hki : k = i + 1 := by omega
          subst hki
          go_wp2_with fail
          first
            | (refine (HCLN1.out hcap _ HD.out).mono ?_; rintro e w2 ⟨v, rfl, hv, hb⟩; have HV := Aside0.mk hv; have HB2 := Aside0.mk hb; clear hv hb; go_wp2; go_ret3; exact ⟨_, by rw [HX.out]; rfl, Kd.R_lower HV.out HD.out.below.size, HD.out.below.trans (HB2.out.mono HD.out.below.size)⟩)
            | (refine (HCLN2.out hcap _ HD.out).mono ?_; rintro e w2 ⟨v, rfl, hv, hb⟩; have HV := Aside0.mk hv; have HB2 := Aside0.mk hb; clear hv hb; go_wp2; go_ret3; exact ⟨_, by rw [HX.out]; rfl, Kd.R_lower HV.out HD.out.below.size, HD.out.below.trans (HB2.out.mono HD.out.below.size)⟩)

theorem nums_Take.calls (A0 : Option Addr) (c0 : Nat) (l0 : List Int) (r1 : Int) (r2 : List Int) (r3 : Bool) (w : World) (hr0 : Kd.C (Kd.int .u8) w A0 l0.length l0) (hc0 : l0.length ≤ c0) (h : nums_Take.f l0 = some (r1, r2, r3)) :
    Calls Try.prog 50 #[.slice A0 l0.length c0] w fun e w' => ∃ v1_ : Value, e = .returned (.tuple #[.int .u64 r1, v1_, .bool r3]) ∧ Kd.R (Kd.int .u8) 5 w' w.heap.size (fun _ => True) v1_ r2 ∧ Below w.heap.size w w' := by
  unfold nums_Take.f at h
  by_cases hc : (∀ c ∈ l0, 0 ≤ c ∧ c < 256) ∧ l0.length < 140737488355328
  · rw [if_pos hc] at h
    have h := Option.some.inj h
    by_cases ho : takeOk l0 = true
    · rw [if_pos ho] at h
      simp only [Prod.mk.injEq] at h
      obtain ⟨rfl, rfl, rfl⟩ := h
      exact take_yes A0 c0 l0 w hr0 hc0 ho hc.1 hc.2
    · rw [if_neg ho] at h
      simp only [Prod.mk.injEq] at h
      obtain ⟨rfl, rfl, rfl⟩ := h
      exact take_no A0 c0 l0 w hr0 hc0 (by simpa using ho)
  · rw [if_neg hc] at h
    cases h

/-! ### nums.form: the iterator -/
/-- The bytes of a number. -/
def vint (x : Nat) : List Int := if h : 127 < x then ((x % 128 + 128 : Nat) : Int) :: vint (x / 128) else [(x : Int)]
termination_by x
decreasing_by omega

theorem form_new (x : Nat) (w : World) : Calls Try.prog 62 #[.int .u64 x] w fun e w' => e = .returned (.func (.func 70) #[] #[.pointer (some ⟨w.heap.size, 0, none⟩)]) ∧ w.alloc (.cells #[.int .u64 x] 23) = w' := by
  go_enter Try.func62, Try.ntmps62
  go_wp2
  go_ret
  exact ⟨rfl, rfl⟩

set_option maxRecDepth 100000 in
set_option maxHeartbeats 1000000 in
theorem form_iter (bx n₀ x : Nat) (w : World) (hx : x < 18446744073709551616) (hn : n₀ ≤ bx) (hbx : w.heap[bx]? = some (.cells #[.int .u64 x] 23)) :
    Iter Try.prog 70 #[.pointer (some ⟨bx, 0, none⟩)] (fun c : Int => #[.int .u8 c]) (fun xs => xs = vint x) (fun _ => True) (vint x).length n₀ (· = bx) w := by
  intro l J Jx W hJ hJx hsz hH hB hlt hY h0
  refine (callsIn_wide (n := 1)).1 ?_
  refine callsIn_of_wp Try.func70 rfl trivial ?_ rfl
  simp only [Try.ntmps70, List.size_toArray, List.length_cons, List.length_nil, Nat.reduceAdd, Nat.reduceSub, Array.replicate_succ, Array.replicate_zero, List.push_toArray, List.append_toArray, List.nil_append, List.cons_append]
  gi_wp2
  gi_loopw [3] (fun v3 wr => ∃ (pre : List Int) (y : Nat), Aside0 (vint x = pre ++ vint y) ∧ y < 18446744073709551616 ∧ wr.heap[bx]? = some (.cells #[.int .u64 y] 23) ∧ Aside0 (bx < wr.heap.size) ∧ Aside0 (J (· = bx) pre wr))
    (fun v3 wr => boxN bx wr)
  case atStart => exact ⟨[], x, ⟨by simp⟩, hx, (hH bx rfl).trans hbx, ⟨hlt bx rfl⟩, ⟨h0⟩⟩
  case round =>
    obtain ⟨pre, y, hv, hy, hcell, hbl, hj⟩ := hrel
    have hc1 := box_cell hcell
    have hf1 := box_frozen hcell
    have hcellw := Aside0.mk hcell
    clear hcell
    have hlts : ∀ k, k = bx → k < wr.heap.size := fun k hk => hk ▸ hbl.out
    by_cases hb : 127 < y
    · obtain ⟨c, hc⟩ : ∃ c : Int, c = ((y % 128 + 128 : Nat) : Int) := ⟨_, rfl⟩
      have hbits : bits .or .u8 ((y : Int) % 256) 128 = c := (or128 y).trans hc.symm
      have hvy : vint y = c :: vint (y / 128) := by rw [vint, dif_pos hb, hc]
      have Hvy := Aside0.mk hvy
      clear hvy hc
      obtain ⟨fn, tmps, assign, body, hyy, hR⟩ := hY (· = bx) pre c wr hlts hj.out (by rw [hv.out, Hvy.out]; simp)
      gi_wp2
      refine hR.mono ?_
      rintro e W3 (⟨rfl, hJ3, hH3, hB3⟩ | ⟨rfl, hJx3⟩)
      · have hcell3 : W3.heap[bx]? = some (.cells #[.int .u64 y] 23) := (hH3 bx rfl).trans hcellw.out
        have hc3 := box_cell hcell3
        have hf3 := box_frozen hcell3
        have HJ3 := Aside0.mk hJ3
        have Hcell3 := Aside0.mk hcell3
        have Hbl : Aside0 (bx < W3.heap.size) := ⟨blk_lt hcell3⟩
        clear hJ3 hcell3 hH3 hB3 hR hyy hY h0 hB hH
        gi_wp2
        case roundEnd =>
          refine ⟨⟨pre ++ [c], y / 128, ⟨by rw [hv.out, Hvy.out]; simp⟩, by omega, by rw [box_set Hcell3.out]; simp, ⟨by simpa [World.setCell] using Hbl.out⟩, ⟨hJ.stay HJ3.out (Stays.setCell (C := (· = bx)) (p := ⟨bx, 0, none⟩) rfl _)⟩⟩, ?_⟩
          rw [boxN_eq hc1, boxN_eq (box_cell (box_set Hcell3.out _))]
          omega
      · gi_wp2
        refine bodyPost_ret (results_none rfl _ _ _) rfl ?_
        exact ⟨⟨_, rfl⟩, .inr ⟨_, _, trivial, hJx3⟩⟩
    · have hvy : vint y = [(y : Int)] := by rw [vint, dif_neg hb]
      have Hvy := Aside0.mk hvy
      clear hvy
      obtain ⟨fn, tmps, assign, body, hyy, hR⟩ := hY (· = bx) pre (y : Int) wr hlts hj.out (by rw [hv.out, Hvy.out]; simp)
      gi_wp2
      refine hR.mono ?_
      rintro e W3 (⟨rfl, hJ3, hH3, hB3⟩ | ⟨rfl, hJx3⟩)
      · gi_wp2
        go_end0
        exact ⟨⟨_, rfl⟩, .inl ⟨_, _, by rw [hv.out, Hvy.out], hJ3⟩⟩
      · gi_wp2
        go_end0
        exact ⟨⟨_, rfl⟩, .inr ⟨_, _, trivial, hJx3⟩⟩

/-! ### nums.Put -/
theorem vint_len : ∀ (n x : Nat), x < 128 ^ (n + 1) → (vint x).length ≤ n + 1 := by
  intro n
  induction n with
  | zero => intro x hx; rw [vint, dif_neg (by omega)]; simp
  | succ n ih =>
    intro x hx
    rw [vint]
    split
    · have := ih (x / 128) (by rw [Nat.pow_succ] at hx; omega)
      simp; omega
    · simp
theorem vint_len10 {x : Nat} (hx : x < 18446744073709551616) : (vint x).length ≤ 10 := vint_len 9 x (by omega)

/-- Behind the bytes pre: the box bo holds a row of the call's own, l0 ++ pre. -/
def putI (w : World) (bo : Nat) (l0 : List Int) (C : Nat → Prop) (pre : List Int) (W : World) : Prop :=
  ∃ v, (¬ C bo ∧ W.heap[bo]? = some (.cells #[v] 44)) ∧ Kd.R (Kd.int .u8) 5 W w.heap.size (fun k => ¬ C k ∧ k ≠ bo) v (l0 ++ pre) ∧ ((∀ k, C k → w.heap.size ≤ k) ∧ Below w.heap.size w W)
theorem putI_fits (w : World) (bo : Nat) (l0 : List Int) : Fits (putI w bo l0) :=
  Fits.ex fun v => (Fits.block (fun _ => bo) (fun _ => .cells #[v] 44)).and ((fits_R (Kd.int .u8) 5 w.heap.size (· ≠ bo) (fun _ => v) (fun pre => l0 ++ pre)).and (Fits.below _ w (Nat.le_refl _)))

def nums_Put.f (l0 : List Int) (a1 : Int) : Option (List Int) := if 0 ≤ a1 ∧ a1 < 18446744073709551616 ∧ l0.length + 10 < 140737488355328 then some (l0 ++ vint a1.toNat) else none

set_option maxRecDepth 100000 in
set_option maxHeartbeats 2000000 in
theorem nums_Put.calls (A0 : Option Addr) (c0 : Nat) (l0 : List Int) (a1 : Int) (r : List Int) (w : World) (hr0 : Kd.C (Kd.int .u8) w A0 l0.length l0) (hc0 : l0.length ≤ c0) (h : nums_Put.f l0 a1 = some r) :
    Calls Try.prog 47 #[.slice A0 l0.length c0, .int .u64 a1] w fun e w' => ∃ v0_ : Value, e = .returned (v0_) ∧ Kd.R (Kd.int .u8) 5 w' w.heap.size (fun _ => True) v0_ r ∧ Below w.heap.size w w' := by
  unfold nums_Put.f at h
  by_cases hc : 0 ≤ a1 ∧ a1 < 18446744073709551616 ∧ l0.length + 10 < 140737488355328
  · rw [if_pos hc] at h
    obtain rfl := Option.some.inj h
    clear h
    obtain ⟨h1, h2, h3⟩ := hc
    obtain ⟨x, rfl⟩ := Int.eq_ofNat_of_zero_le h1
    rw [Int.toNat_natCast]
    have hx : x < 18446744073709551616 := by omega
    clear h1 h2
    have HL := Aside0.mk h3
    have HX := Aside0.mk hx
    clear h3 hx
    have hcl := fun W (hb : Below w.heap.size w W) => slices_Clone_byte_byte.calls A0 c0 l0 l0 W (Kd.C_below hr0 hb) hc0 (by unfold slices_Clone_byte_byte.f; rw [if_pos (by have := HL.out; omega)])
    have HCL := Aside0.mk hcl
    clear hcl hr0 hc0
    refine (callsIn_wide (n := 3)).1 ?_
    refine callsIn_of_wp_marks Try.func47 rfl trivial ?_ rfl
    simp only [Try.ntmps47, List.size_toArray, List.length_cons, List.length_nil, Nat.reduceAdd, Nat.reduceSub, Array.replicate_succ, Array.replicate_zero, List.push_toArray, List.append_toArray, List.nil_append, List.cons_append]
    gi_wp2_with (first | (refine ⟨trivial, ?_⟩; gi_at_call 46; refine (callsIn_wide.2 (HCL.out _ (Below.refl _ _))).mono ?_; rintro e w1 ⟨v, rfl, hv, hb⟩; have HV := Aside0.mk hv; have HB := Aside0.mk hb; obtain ⟨A1, c1, hv1, hl1, _⟩ := Kd.R_reads hv; subst hv1; clear hv hb hl1) | (refine ⟨trivial, ?_⟩; gi_at_call 62; refine (callsIn_wide.2 (form_new _ _)).mono ?_; rintro e w2 ⟨rfl, rfl⟩))
    have hsz1 := HB.out.size
    have hbo : ((w1.alloc (.cells #[.slice A1 l0.length c1] 44)).alloc (.cells #[.int .u64 x] 23)).heap[w1.heap.size]? = some (.cells #[.slice A1 l0.length c1] 44) :=
      (Below.heap_alloc _ _ _ (by simp)).trans (box_new w1 _ _)
    have hbx : ((w1.alloc (.cells #[.slice A1 l0.length c1] 44)).alloc (.cells #[.int .u64 x] 23)).heap[w1.heap.size + 1]? = some (.cells #[.int .u64 x] 23) := by
      have := box_new (w1.alloc (.cells #[.slice A1 l0.length c1] 44)) (.int .u64 x) 23
      rwa [World.size_alloc] at this
    have hB0 : Below w.heap.size w ((w1.alloc (.cells #[.slice A1 l0.length c1] 44)).alloc (.cells #[.int .u64 x] 23)) := (HB.out.alloc hsz1 _).alloc (by simp; omega) _
    have hR0 : Kd.R (Kd.int .u8) 5 ((w1.alloc (.cells #[.slice A1 l0.length c1] 44)).alloc (.cells #[.int .u64 x] 23)) w.heap.size (fun k => ¬ k = w1.heap.size + 1 ∧ k ≠ w1.heap.size) (.slice A1 l0.length c1) (l0 ++ []) := by
      rw [List.append_nil]
      exact Kd.R_mono (Kd.R_alloc (Kd.R_alloc (Kd.R_bound HV.out) _) _) (fun k hk => ⟨by have := hk.2.2.1; omega, by have := hk.2.2.1; omega⟩)
    refine range_law (gf := 70) (lb := #[.pointer (some ⟨w1.heap.size + 1, 0, none⟩)]) rfl (enters_of Try.func70 (by kernel_rfl) rfl)
      (form_iter (w1.heap.size + 1) w.heap.size x _ HX.out (by omega) hbx) (fun k hk => by subst hk; simp) (by simp; omega) (fun _ => rfl)
      (putI w w1.heap.size l0) (fun _ _ _ _ => False) (putI_fits w w1.heap.size l0) (fun _ => Fits.false)
      ⟨_, ⟨by omega, hbo⟩, hR0, fun k hk => by omega, hB0⟩ ?round ?done ?stop
    case round =>
      intro l C pre c W hlt hle hi hlen
      have HLen : Aside0 ((l0 ++ pre).length + 1 ≤ 140737488355328) := ⟨by have := HL.out; have := vint_len10 HX.out; rw [List.length_append]; omega⟩
      clear hbo hbx hB0 hR0 hlen HCL HV
      gi_wp2
      refine ⟨Hold.refl _ _, Below.refl _ _, fun W'' hst hlt2 hb2 hsz2 => ?_⟩
      obtain ⟨v, ⟨hnb, hbb⟩, hr, hcn, hB⟩ := (putI_fits w w1.heap.size l0).stay hi hst
      have hc1 := box_cell hbb
      have Hbb := Aside0.mk hbb
      have HR := Aside0.mk hr
      have HBW := Aside0.mk hB
      have Hcn := Aside0.mk hcn
      have Hlt2 := Aside0.mk hlt2
      have hbs : w.heap.size ≤ W''.heap.size := hB.size
      clear hbb hr hB hcn hi hst hlt2 hb2 hlt hsz2 hle
      gi_wp2_with (gi_at_builtin; refine appendIn (Kd.int .u8) w.heap.size rfl (.tmp 12) (.tmp 14) 44 5 (.int .u8 0) 1 rfl Try.underlying44 info5 rfl (by decide) (by decide) v (l0 ++ pre) c [.int .u8 c] _ (fun _ => False) rfl rfl ?aP (fun _ h => h.elim) ?aF HR.out hbs ?aL ?_; (case aP => exact rfl); (case aF => exact fun k hk => ⟨fun h => by have := Hlt2.out k h; omega, by have := blk_lt Hbb.out; omega⟩); (case aL => have := HLen.out; omega); intro v4 w4 hr4 hg4 hf4; obtain ⟨g, cap, hv4⟩ := hf4; subst hv4; have hb4 : w4.heap[w1.heap.size]? = some (.cells #[v] 44) := (hg4.block _ (blk_lt Hbb.out) (fun e => (HR.out.1 _ e.symm).2 rfl)).trans Hbb.out; have hc4 := box_cell hb4; have hf4 := box_frozen hb4; have HR4 := Aside0.mk hr4; have HG4 := Aside0.mk hg4; have Hb4 := Aside0.mk hb4; clear hr4 hg4 hb4)
      refine ⟨(Hold.of_grownBy HG4.out Hlt2.out (fun k hk => (HR.out.1 k hk).1)).trans (Hold.setCell hnb _), ((Below.refl _ _).grown HG4.out hbs (fun k hk => Kd.R_base HR.out k hk)).setCell (p := ⟨w1.heap.size, 0, none⟩) hsz1 _, _, ⟨hnb, box_set Hb4.out _⟩, ?_, Hcn.out, (HBW.out.grown HG4.out hbs (fun k hk => Kd.R_base HR.out k hk)).setCell (p := ⟨w1.heap.size, 0, none⟩) hsz1 _⟩
      have := R_setCell (p := ⟨w1.heap.size, 0, none⟩) HR4.out (fun h => h.2 rfl) (.slice (some ⟨g, 0, none⟩) ((l0 ++ pre).length + 1) cap)
      simpa using this
    case done =>
      rintro D C xs W hCD hD rfl ⟨v, ⟨hnb, hbb⟩, hr, hcn, hB⟩ hK
      have hc1 := box_cell hbb
      have Hr := Aside0.mk hr
      have HBW := Aside0.mk hB
      have HK := Aside0.mk hK
      clear hr hB hK hbo hbx hB0 hR0 hbb hcn
      gi_wp2
      refine ⟨by simp, .inl ⟨_, _, rfl, run_takeDeferred HK.out, ?_⟩⟩
      exact ⟨_, results_tmp rfl _ _ _, v, rfl, R_putObj Hr.out (fun h => h.1 hCD) _, HBW.out.trans (below_putObj (by simp at hD; omega) _)⟩
    case stop =>
      intro D C c pre W _ _ _ h _
      exact h.elim
  · rw [if_neg hc] at h
    cases h
end Go.Proofs.YtojemmipkpckbaaG
