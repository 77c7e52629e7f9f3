/- Contracts of frame.adds (an array by value) and frame.Sum. Conditions: those of each theorem. Written for this claim. -/
import Derived.Test.YtdppjknfhggpbaaKd
import Derived.Test.YtdppjknfhggpbaaProg
import Derived.Test.YtdppjknfhggpbaaWWords
import Derived.Test.YtdppjknfhggpbaaWMore
import Derived.Lib.SliceRun
import Derived.Shelf.Abstract
import Derived.WalkKit
import Derived.TacticsInMore
import Derived.LoopTactic
import Derived.Deep.WholeRow
import Derived.Outline
set_option linter.unusedVariables false
set_option linter.unusedSimpArgs false
namespace Go.Proofs.YtdppjknfhggpbaaG
open Go Go.RowKit Go.Proofs.YtdppjknfhggpbaaR Go.Proofs.YtdppjknfhggpbaaW.PrintWords
attribute [local go_sem] Oper.semAt_some

/-- One bit. -/
def crcStep (x : Nat) : Nat := if x % 2 = 1 then (x / 2) ^^^ 3945912366 else x / 2
def crcSteps : Nat → Nat → Nat
  | 0, x => x
  | n + 1, x => crcStep (crcSteps n x)
/-- What a byte adds. -/
def crcTab (i : Nat) : Nat := crcSteps 8 i
def crcRow (k : Nat) : Array Value := ((List.range 256).map fun j => Value.int .u32 ((if j < k then crcTab j else 0 : Nat) : Int)).toArray
theorem crcRow_size (k : Nat) : (crcRow k).size = 256 := by simp [crcRow]
theorem crcRow_get {k j : Nat} (hj : j < 256) : (crcRow k)[j]? = some (Value.int .u32 ((if j < k then crcTab j else 0 : Nat) : Int)) := by
  simp [crcRow, hj]
theorem crcRow_set {k : Nat} (hk : k < 256) : (crcRow k).setIfInBounds k (Value.int .u32 (crcTab k : Int)) = crcRow (k + 1) := by
  apply Array.ext_getElem?
  intro j
  by_cases hj : j < 256
  · rw [Array.getElem?_setIfInBounds, crcRow_get hj, crcRow_get hj, crcRow_size]
    by_cases h : k = j
    · subst h; simp [hj]
    · rw [if_neg h]
      by_cases h2 : j < k
      · rw [if_pos h2, if_pos (by omega)]
      · rw [if_neg h2, if_neg (by omega)]
  · rw [Array.getElem?_eq_none (by simp [crcRow_size]; omega), Array.getElem?_eq_none (by rw [crcRow_size]; omega)]
theorem crcRow_one (k : Nat) : (crcRow k).all (·.oneCell') = true := by
  rw [Array.all_eq_true_iff_forall_mem]
  intro v hv
  simp [crcRow] at hv
  obtain ⟨j, _, rfl⟩ := hv
  rfl
theorem crcStep_lt {x : Nat} (h : x < 4294967296) : crcStep x < 4294967296 := by
  unfold crcStep
  split
  · exact Nat.xor_lt_two_pow (n := 32) (by omega) (by omega)
  · omega
theorem crcSteps_lt (n : Nat) {x : Nat} (h : x < 4294967296) : crcSteps n x < 4294967296 := by
  induction n with
  | zero => exact h
  | succ n ih => exact crcStep_lt ih
theorem wrap_u32 (n : Int) : IntKind.u32.wrap n = n % 4294967296 := by simp [IntKind.wrap, IntKind.bits, IntKind.signed]
theorem bits_xor_u32 (a b : Nat) (ha : a < 4294967296) (hb : b < 4294967296) : bits .xor .u32 (a : Int) (b : Int) = ((a ^^^ b : Nat) : Int) := by
  have hx : a ^^^ b < 2 ^ 32 := Nat.xor_lt_two_pow (by omega) (by omega)
  show IntKind.u32.wrap ((BitVec.ofInt 32 (a : Int) ^^^ BitVec.ofInt 32 (b : Int)).toNat : Int) = _
  rw [BitVec.ofInt_natCast, BitVec.ofInt_natCast, BitVec.toNat_xor, BitVec.toNat_ofNat, BitVec.toNat_ofNat, Nat.mod_eq_of_lt (by omega), Nat.mod_eq_of_lt (by omega), wrap_u32]
  omega
theorem bits_xor_u8 (a b : Nat) (ha : a < 256) (hb : b < 256) : bits .xor .u8 (a : Int) (b : Int) = ((a ^^^ b : Nat) : Int) := by
  have hx : a ^^^ b < 2 ^ 8 := Nat.xor_lt_two_pow (by omega) (by omega)
  show IntKind.u8.wrap ((BitVec.ofInt 8 (a : Int) ^^^ BitVec.ofInt 8 (b : Int)).toNat : Int) = _
  rw [BitVec.ofInt_natCast, BitVec.ofInt_natCast, BitVec.toNat_xor, BitVec.toNat_ofNat, BitVec.toNat_ofNat, Nat.mod_eq_of_lt (by omega), Nat.mod_eq_of_lt (by omega), IntKind.wrap_u8]
  omega
theorem bits_and1_u32 (a : Nat) (ha : a < 4294967296) : bits .and .u32 (a : Int) 1 = ((a % 2 : Nat) : Int) := by
  show IntKind.u32.wrap ((BitVec.ofInt 32 (a : Int) &&& BitVec.ofInt 32 1).toNat : Int) = _
  rw [BitVec.ofInt_natCast, BitVec.toNat_and, BitVec.toNat_ofNat, show (BitVec.ofInt 32 1).toNat = 1 from rfl, Nat.mod_eq_of_lt (by omega), Nat.and_one_is_mod, wrap_u32]
  omega

theorem infoT53 : (Try.prog.info? 53).map (fun i => (i.zero, i.size)) = some (some (.agg (crcRow 0)), 256) := by kernel_rfl

set_option maxRecDepth 100000 in
set_option maxHeartbeats 1000000 in
theorem frame_adds.calls (w : World) : Calls Try.prog 35 #[] w fun e w' => e = .returned (.agg (crcRow 256)) ∧ w.alloc (.cells (crcRow 256) 53) = w' := by
  obtain ⟨hz, hsz⟩ := zero_of_info infoT53
  go_enter Try.func35, Try.ntmps35
  have HL := Aside0.mk (run_loadAt_new (P := Try.prog) w 53 (crcRow 256) 256 25 Try.underlying53 hsz)
  have HS := Aside0.mk (run_storeAt_new (P := Try.prog) w 53 (crcRow 256) (crcRow 256) hsz rfl (crcRow_one 256))
  have HSZ := Aside0.mk hsz
  go_wp2
  clear hz hsz
  go_loopw [3] (fun v3 wr => ∃ k : Nat, k ≤ 256 ∧ v3 = .int .i64 k ∧ wr = w.alloc (.cells (crcRow k) 53)) (fun v3 _ => 256 - (intOf v3).toNat)
  case atStart => exact ⟨0, Nat.zero_le _, rfl, rfl⟩
  case round =>
    obtain ⟨k, hk, rfl, rfl⟩ := hrel
    by_cases hlt : k < 256
    · have hheap := heap_alloc_last w (.cells (crcRow k) 53)
      have hc : (w.alloc (.cells (crcRow k) 53)).cell? ⟨w.heap.size, k, none⟩ = some (.int .u32 ((if k < k then crcTab k else 0 : Nat) : Int)) := (cell_of_row _ _ k _ _ _ hheap).trans (crcRow_get hlt)
      have hf := frozen_of_row _ w.heap.size k _ _ hheap
      have HH := Aside0.mk hheap
      clear hheap
      go_wp2
      go_loop [2, 8] (fun v2 v8 => ∃ j : Nat, j ≤ 8 ∧ v8 = .int .i64 j ∧ v2 = .int .u32 (crcSteps j k)) (fun _ v8 => 8 - (intOf v8).toNat)
      case atStart => exact ⟨0, Nat.zero_le _, rfl, by simp [crcSteps]⟩
      case round =>
        obtain ⟨j, hj, rfl, rfl⟩ := hrel
        by_cases hjl : j < 8
        · have hx := crcSteps_lt j (x := k) (by omega)
          have HE := Aside0.mk (show crcSteps (j + 1) k = crcStep (crcSteps j k) from rfl)
          generalize crcSteps j k = x at *
          have hand := bits_and1_u32 x hx
          have hxor := bits_xor_u32 (x / 2) 3945912366 (by omega) (by omega)
          by_cases hodd : x % 2 = 1
          · rw [hodd] at hand
            go_wp2
            refine ⟨⟨j + 1, by omega, by go_num, ?_⟩, by simp [intOf]; omega⟩
            rw [HE.out]
            unfold crcStep
            rw [if_pos hodd]
            exact congrArg (Value.int .u32) hxor
          · have h0 : x % 2 = 0 := by omega
            rw [h0] at hand
            go_wp2
            refine ⟨⟨j + 1, by omega, by go_num, ?_⟩, by simp [intOf]; omega⟩
            rw [HE.out]
            unfold crcStep
            rw [if_neg hodd]
            exact congrArg (Value.int .u32) (by omega)
        · obtain rfl : j = 8 := by omega
          go_wp2
          refine ⟨⟨k + 1, by omega, by go_num, ?_⟩, by simp [intOf]; omega⟩
          rw [← crcRow_set hlt]
          rfl
    · obtain rfl : k = 256 := by omega
      go_wp2
      refine wp_load_row 53 (.tmp 0) rfl w.heap.size rfl _ (crcRow 256) (0, 0) _ (heap_alloc_last _ _) Try.underlying53 rfl HSZ.out ?_
      apply_assumption
      dsimp only [Act.put]
      refine wpList_store_row rfl 53 (.tmp 0) (.tmp 23) rfl w.heap.size (crcRow 256) rfl rfl _ (crcRow 256) (heap_alloc_last _ _) HSZ.out rfl (crcRow_one 256) ?_
      rw [World.setRow_alloc_new]
      go_wp2
      refine bodyPost_ret (v := .agg (crcRow 256)) (results_cell_row rfl _ _ w.heap.size _ (crcRow 256) (0, 0) _ rfl (heap_alloc_last _ _) Try.underlying53 rfl HSZ.out) rfl ⟨rfl, rfl⟩

/-! ### frame.Sum -/
def crcUpd (r : Nat) (c : Int) : Nat := (r / 256) ^^^ crcTab ((r % 256) ^^^ c.toNat)
def crcOf (l : List Int) : Nat := l.foldl crcUpd 4294967295
theorem crcTab_lt {i : Nat} (h : i < 256) : crcTab i < 4294967296 := crcSteps_lt 8 (by omega)
theorem crcUpd_lt {r : Nat} {c : Int} (hr : r < 4294967296) (h0 : 0 ≤ c) (h1 : c < 256) : crcUpd r c < 4294967296 := by
  have hx : (r % 256) ^^^ c.toNat < 2 ^ 8 := Nat.xor_lt_two_pow (by omega) (by omega)
  exact Nat.xor_lt_two_pow (n := 32) (by omega) (crcTab_lt hx)
theorem crcFold_lt : ∀ (l : List Int) (r : Nat), r < 4294967296 → (∀ c ∈ l, 0 ≤ c ∧ c < 256) → l.foldl crcUpd r < 4294967296 := by
  intro l
  induction l with
  | nil => intro r hr _; exact hr
  | cons c cs ih =>
    intro r hr h
    have := h c (List.mem_cons_self ..)
    exact ih _ (crcUpd_lt hr this.1 this.2) (fun d hd => h d (List.mem_cons_of_mem _ hd))
theorem crcOf_lt {l : List Int} (h : ∀ c ∈ l, 0 ≤ c ∧ c < 256) : crcOf l < 4294967296 := crcFold_lt l _ (by omega) h
def frame_Sum.f (l0 : List Int) : Option Int := if (∀ c ∈ l0, 0 ≤ c ∧ c < 256) then some (crcOf l0 : Int) else none

set_option maxRecDepth 100000 in
set_option maxHeartbeats 2000000 in
theorem frame_Sum.calls (A0 : Option Addr) (c0 : Nat) (l0 : List Int) (r : Int) (w : World) (hr0 : Kd.C (Kd.int .u8) w A0 l0.length l0) (hc0 : l0.length ≤ c0) (h : frame_Sum.f l0 = some r) :
    Calls Try.prog 16 #[.slice A0 l0.length c0] w fun e w' => e = .returned (.int .u32 r) ∧ Below w.heap.size w w' := by
  unfold frame_Sum.f at h
  by_cases hb : ∀ c ∈ l0, 0 ≤ c ∧ c < 256
  · rw [if_pos hb] at h
    obtain rfl := Option.some.inj h
    clear h
    have HBY := Aside0.mk hb
    obtain ⟨hz, hsz⟩ := zero_of_info infoT53
    have HSZ := Aside0.mk hsz
    have hr := Kd.reads_of_C (d := (0 : Int)) hr0
    have hm := hr0.2.1
    have HR := Aside0.mk hr
    have HC0 := Aside0.mk hc0
    clear hr0 hc0 hsz hb hr
    go_enter Try.func16, Try.ntmps16
    go_wp2_with (first | (go_at_call 35; refine (frame_adds.calls _).mono ?_; rintro e w1 ⟨rfl, rfl⟩) | (refine wpList_store_row rfl 53 (.tmp 3) (.tmp 7) rfl (w.heap.size + 1) (crcRow 256) rfl rfl _ (crcRow 0) (by have := heap_alloc_last (w.alloc (.cells (crcRow 256) 53)) (.cells (crcRow 0) 53); rwa [World.size_alloc] at this) HSZ.out rfl (crcRow_one 256) ?_))
    rw [show ((w.alloc (.cells (crcRow 256) 53)).alloc (.cells (crcRow 0) 53)).setRow (w.heap.size + 1) (crcRow 256) = (w.alloc (.cells (crcRow 256) 53)).alloc (.cells (crcRow 256) 53) from by
      have := World.setRow_alloc_new (w.alloc (.cells (crcRow 256) 53)) (crcRow 0) (crcRow 256) 53
      rwa [World.size_alloc] at this]
    have hB : Below w.heap.size w ((w.alloc (.cells (crcRow 256) 53)).alloc (.cells (crcRow 256) 53)) := ((Below.refl _ _).alloc (Nat.le_refl _) _).alloc (by simp) _
    have hheap : ((w.alloc (.cells (crcRow 256) 53)).alloc (.cells (crcRow 256) 53)).heap[w.heap.size + 1]? = some (.cells (crcRow 256) 53) := by
      have := heap_alloc_last (w.alloc (.cells (crcRow 256) 53)) (.cells (crcRow 256) 53)
      rwa [World.size_alloc] at this
    generalize (w.alloc (.cells (crcRow 256) 53)).alloc (.cells (crcRow 256) 53) = W at *
    have HB := Aside0.mk hB
    have HH := Aside0.mk hheap
    clear hB hheap hz
    obtain ⟨X, hX⟩ : ∃ X : Nat → Nat, X = fun k => (l0.take k).foldl crcUpd 4294967295 := ⟨_, rfl⟩
    have HX0 : Aside0 (X 0 = 4294967295) := ⟨by rw [hX]; rfl⟩
    have HXN : Aside0 (X l0.length = crcOf l0) := ⟨by rw [hX]; show (l0.take l0.length).foldl _ _ = _; rw [List.take_length]; rfl⟩
    have HXL : Aside0 (∀ k, X k < 4294967296) := ⟨fun k => by rw [hX]; exact crcFold_lt _ _ (by omega) (fun c hc => HBY.out c (List.mem_of_mem_take hc))⟩
    have HXS : Aside0 (∀ k, k < l0.length → X (k + 1) = crcUpd (X k) (l0.getD k 0)) := ⟨fun k hk => by
      rw [hX]
      show (l0.take (k + 1)).foldl _ _ = _
      rw [List.take_succ_eq_append_getElem hk, List.foldl_append, List.getD_eq_getElem?_getD, List.getElem?_eq_getElem hk]
      rfl⟩
    have HBG : Aside0 (∀ k, k < l0.length → 0 ≤ l0.getD k 0 ∧ l0.getD k 0 < 256) := ⟨fun k hk => by
      rw [List.getD_eq_getElem?_getD, List.getElem?_eq_getElem hk]
      exact HBY.out _ (List.getElem_mem hk)⟩
    clear hX HBY
    go_loop [4, 10] (fun v4 v10 => ∃ k : Nat, k ≤ l0.length ∧ v10 = .int .i64 k ∧ v4 = .int .u32 (X k)) (fun _ v10 => l0.length - (intOf v10).toNat)
    case atStart => exact ⟨0, Nat.zero_le _, rfl, by rw [HX0.out]; rfl⟩
    case round =>
      obtain ⟨k, hk, rfl, rfl⟩ := hrel
      by_cases hlt : k < l0.length
      · obtain ⟨ad, e, hc⟩ := HR.out.2.2 (by omega)
        subst e
        have hck := pw_cell_below HB.out (hc k hlt)
        clear hc
        have HS := Aside0.mk (HXS.out k hlt)
        have hx := HXL.out k
        obtain ⟨hd0, hd1⟩ := HBG.out k hlt
        generalize l0.getD k 0 = d at *
        obtain ⟨c, rfl⟩ := Int.eq_ofNat_of_zero_le hd0
        generalize X k = x at *
        have hxc : (x % 256) ^^^ c < 256 := Nat.xor_lt_two_pow (n := 8) (by omega) (by omega)
        have hxor1 : bits .xor .u8 ((x : Int) % 256) (c : Int) = (((x % 256) ^^^ c : Nat) : Int) := bits_xor_u8 (x % 256) c (by omega) (by omega)
        have hxor2 : bits .xor .u32 ((x : Int) / 256) ((crcTab ((x % 256) ^^^ c) : Nat) : Int) = (((x / 256) ^^^ crcTab ((x % 256) ^^^ c) : Nat) : Int) := bits_xor_u32 (x / 256) (crcTab ((x % 256) ^^^ c)) (by omega) (crcTab_lt hxc)
        have HS2 : Aside0 (X (k + 1) = (x / 256) ^^^ crcTab ((x % 256) ^^^ c)) := ⟨by rw [HS.out]; unfold crcUpd; rw [Int.toNat_natCast]⟩
        have hct : W.cell? ⟨w.heap.size + 1, (x % 256) ^^^ c, none⟩ = some (.int .u32 (crcTab ((x % 256) ^^^ c))) := by
          rw [cell_of_row _ _ _ _ _ _ HH.out, crcRow_get hxc, if_pos hxc]
        generalize (x % 256) ^^^ c = y at *
        clear HS
        go_wp2
        refine ⟨⟨k + 1, by omega, by go_num, ?_⟩, by simp [intOf]; omega⟩
        rw [HS2.out]
      · obtain rfl : k = l0.length := by omega
        go_wp2
        go_ret
        exact ⟨by rw [HXN.out]; rfl, HB.out⟩
  · rw [if_neg hb] at h
    cases h
end Go.Proofs.YtdppjknfhggpbaaG
