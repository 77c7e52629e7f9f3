/- The pure statement of FrameBent: what is sealed is taken; bent, it is none. Conditions: those of the statement. Written for this claim. -/
import Derived.Test.YtdppjknfhggpbaaPx11
import Derived.Test.YtdppjknfhggpbaaFrameAwake
import Derived.Test.YtdppjknfhggpbaaCrc
set_option linter.unusedVariables false
namespace Go.Proofs.Ytdppjknfhggpbaa.Pure
open Go Go.RowKit Go.Proofs.Ytdppjknfhggpbaa.P Go.Proofs.YtdppjknfhggpbaaG Go.Proofs.YtdppjknfhggpbaaL Go.Proofs.YtdppjknfhggpbaaW.PrintWords Go.Proofs.YtdppjknfhggpbaaW.PrintLast

theorem shl_one : ∀ e : Nat, e < 8 → shl .u8 1 (e : Int) = ((2 ^ e : Nat) : Int) := by decide

theorem wr {n : Nat} (h : n < 9223372036854775808) : wrap64 (n : Int) = (n : Int) := by unfold wrap64; omega
theorem wr_add {a b : Nat} (h : a + b < 9223372036854775808) : wrap64 ((a : Int) + (b : Int)) = ((a + b : Nat) : Int) := by unfold wrap64; omega

theorem wr_succ {a : Nat} (h : a < 100000) : wrap64 ((a : Int) + 1) = ((a + 1 : Nat) : Int) := by unfold wrap64; omega
theorem wr_four {a : Nat} (h : a < 100000) : wrap64 (4 + (a : Int)) = ((4 + a : Nat) : Int) := by unfold wrap64; omega
theorem wr_id {x : Int} (h : 0 ≤ x) (h2 : x < 65536) : wrap64 x = x := by unfold wrap64; omega
theorem tmod_n {x : Int} (h : 0 ≤ x) {n st : Nat} (hs : x.toNat % n = st) : Int.tmod x (n : Int) = (st : Int) := by
  rw [← hs, Int.ofNat_tmod, Int.toNat_of_nonneg h]
theorem tdiv8 (a : Nat) : Int.tdiv (a : Int) 8 = ((a / 8 : Nat) : Int) := by rw [Int.ofNat_tdiv]; rfl
theorem tmod8 (a : Nat) : Int.tmod (a : Int) 8 = ((a % 8 : Nat) : Int) := by rw [Int.ofNat_tmod]; rfl

theorem bent_loop (x2 x3 : Int) (n : Nat) (hn : n ≤ 300) (h2 : 0 ≤ x2) (h2' : x2 < 65536) (t0 : List Int) (ht0 : By t0) (hl0 : t0.length = n + 4) (hz : t0.foldl crcUpd (crcOf (four n)) = 0) :
    ∀ (m i : Nat), i + m = 32 → ∀ (t : List Int) (q : Nat) (any : Bool), By t → t.length = n + 4 → q < 2 ^ i → le t = le t0 ^^^ (q * 2 ^ (x2.toNat % (8 * (n + 4)))) → any = decide (q ≠ 0) →
      ratlinelaw05_FrameBent.l0 (m + 3 + 1) x2 x3 (four n ++ t) ((8 * (n + 4) : Nat) : Int) any (i : Int) = some true := by
  intro m
  induction m with
  | zero =>
    intro i hi t q any ht hl hq hle hany
    obtain rfl : i = 32 := by omega
    simp only [ratlinelaw05_FrameBent.l0]
    rw [if_neg (by omega)]
    have hlt : x2.toNat % (8 * (n + 4)) < 8 * (n + 4) := Nat.mod_lt _ (by omega)
    have hb := bent ht0 ht (by omega) (r := crcOf (four n)) hz (p := q) (by omega) (by omega) hle
    obtain ⟨ha, hc⟩ := take_zero (0 + 2) (n := n) (by omega) ht hl
    by_cases hq0 : q = 0
    · obtain ⟨b, hf⟩ := ha (hb.2 hq0)
      rw [hany, decide_eq_false (by simp [hq0])]
      refine bind3 hf (fun u e1 e2 e3 => ?_)
      rw [e3, if_pos (by decide), if_neg (by decide)]
      rw [show ratlinelaw05_awake.f 3 = some true from awake05 2]
      rfl
    · have hf := hc (fun h => hq0 (hb.1 h))
      rw [hany, decide_eq_true hq0]
      refine bind3 hf (fun u e1 e2 e3 => ?_)
      rw [e3, if_pos (by decide), if_pos rfl, e1, e2, if_pos (by simp [wrap64])]
      rw [show ratlinelaw05_awake.f 3 = some true from awake05 2]
      rfl
  | succ m ih =>
    intro i hi t q any ht hl hq hle hany
    have hlt : x2.toNat % (8 * (n + 4)) < 8 * (n + 4) := Nat.mod_lt _ (by omega)
    generalize hst : x2.toNat % (8 * (n + 4)) = st at *
    have b1 : st + i < 9223372036854775808 := by omega
    have b2 : i < 100000 := by omega
    have b3 : (st + i) / 8 < 9223372036854775808 := by omega
    have b4 : (st + i) / 8 < 100000 := by omega
    generalize hk : m + 1 + 3 = k
    simp only [ratlinelaw05_FrameBent.l0, wr_id h2 h2', tmod_n h2 hst, wr_add b1, wr_succ b2, tdiv8, tmod8, wr b3, wr_four b4]
    rw [if_pos (by omega), if_neg (by omega), if_pos (by omega)]
    have skip : ratlinelaw05_FrameBent.l0 k x2 x3 (four n ++ t) ((8 * (n + 4) : Nat) : Int) any ((i + 1 : Nat) : Int) = some true :=
      hk ▸ ih (i + 1) (by omega) t q any ht hl (Nat.lt_trans hq (Nat.pow_lt_pow_right (by omega) (by omega))) hle hany
    by_cases hbit : Go.bits .and .u32 (shr .u32 x3 (i : Int)) 1 = 1
    · rw [if_pos hbit]
      by_cases hin : (((st + i : Nat) : Int)) < ((8 * (n + 4) : Nat) : Int)
      · have hfl : ((four n ++ t).length : Int) = ((4 + (n + 4) : Nat) : Int) := by rw [List.length_append, four_len, hl]
        rw [if_pos hin, if_pos (by omega), hfl, if_pos (by omega), if_pos (by omega), Int.toNat_natCast]
        have hj : (st + i) / 8 < t.length := by omega
        have hrd : rd (four n ++ t) ((4 + (st + i) / 8 : Nat) : Int) = t.getD ((st + i) / 8) 0 := by
          unfold rd
          rw [Int.toNat_natCast, Nat.add_comm 4]
          rfl
        have hset : ∀ v : Int, (four n ++ t).set (4 + (st + i) / 8) v = four n ++ t.set ((st + i) / 8) v := fun v => by
          rw [Nat.add_comm 4]; rfl
        have hd : 0 ≤ t.getD ((st + i) / 8) 0 ∧ t.getD ((st + i) / 8) 0 < 256 := by
          rw [List.getD_eq_getElem?_getD, List.getElem?_eq_getElem hj]
          exact ht _ (List.getElem_mem hj)
        have hp2 : 2 ^ ((st + i) % 8) < 256 := Nat.lt_of_lt_of_le (Nat.pow_lt_pow_right (by omega) (show (st + i) % 8 < 8 by omega)) (by decide)
        have hx8 : (t.getD ((st + i) / 8) 0).toNat ^^^ 2 ^ ((st + i) % 8) < 256 := Nat.xor_lt_two_pow (n := 8) (by omega) (by omega)
        have hxor : Go.bits .xor .u8 (t.getD ((st + i) / 8) 0) ((2 ^ ((st + i) % 8) : Nat) : Int) = (((t.getD ((st + i) / 8) 0).toNat ^^^ 2 ^ ((st + i) % 8) : Nat) : Int) := by
          conv => lhs; rw [show t.getD ((st + i) / 8) 0 = ((t.getD ((st + i) / 8) 0).toNat : Int) from by omega]
          exact bits_xor_u8 _ _ (by omega) hp2
        rw [hrd, hset, shl_one _ (by omega), hxor]
        have hq1 : q ^^^ 2 ^ i < 2 ^ (i + 1) := Nat.xor_lt_two_pow (Nat.lt_trans hq (Nat.pow_lt_pow_right (by omega) (by omega))) (Nat.pow_lt_pow_right (by omega) (by omega))
        rw [← hk]
        refine ih (i + 1) (by omega) _ (q ^^^ 2 ^ i) true (set_by ht _ (by omega) (by omega)) (by rw [List.length_set]; exact hl) hq1 ?_ ?_
        · rw [le_set _ hp2 t _ ht hj, hle, Nat.xor_assoc, xor_mul, ← Nat.pow_add, ← Nat.pow_add, show (st + i) % 8 + 8 * ((st + i) / 8) = i + st from by omega]
        · rw [eq_comm, decide_eq_true_iff]
          intro h
          have := xor_zero_iff.1 h
          omega
      · rw [if_neg hin]; exact skip
    · rw [if_neg hbit]; exact skip

theorem FrameBent : ratlinelaw05_FrameBent.Pure := by
  intro x y a p _ _ hx _ _ hy ha hp
  have hx := By.of_wf hx
  have hy := By.of_wf hy
  simp [Lit.wf, IntKind.min, IntKind.max, IntKind.bits, IntKind.signed] at ha
  refine ⟨32 + 3 + 1 + 2, ?_⟩
  have hawake : ratlinelaw05_FrameBent.j0 (32 + 3 + 1 + 2) x y a p true = some true := by
    simp only [ratlinelaw05_FrameBent.j0]
    rw [if_pos trivial, awake05]
    rfl
  unfold ratlinelaw05_FrameBent.f
  by_cases c1 : (x.length : Int) > 300
  · rw [if_pos c1]; exact hawake
  · rw [if_neg c1]
    by_cases c2 : (y.length : Int) > 60
    · rw [decide_eq_true c2]; exact hawake
    · rw [decide_eq_false c2]
      have hsl := seal_len x
      simp only [ratlinelaw05_FrameBent.j0]
      rw [if_neg (by decide)]
      refine bind1 (seal_f hx (by omega)) ?_
      refine bind1 rfl ?_
      rw [List.nil_append, if_pos (by simp; omega)]
      refine bind1 rfl ?_
      rw [if_pos (by omega)]
      refine bind3 (take_fseal _ hx hy (by omega) (by omega)) (fun t e1 e2 e3 => ?_)
      rw [if_pos e3, if_pos (by unfold wrap64; omega), e1, e2]
      refine bind1 (same_f hx hx) ?_
      rw [decide_eq_true rfl, if_pos rfl]
      refine bind1 (same_f hy hy) ?_
      rw [decide_eq_true rfl]
      simp only [ratlinelaw05_FrameBent.j1]
      rw [if_neg (by decide)]
      refine bind1 rfl ?_
      rw [List.nil_append, if_pos (by simp; omega)]
      have he : fseal x = four x.length ++ (x ++ four (crcOf (four x.length ++ x))) := by rw [fseal, body, List.append_assoc]
      have htb : By (x ++ four (crcOf (four x.length ++ x))) := hx.append (four_by _)
      have htl : (x ++ four (crcOf (four x.length ++ x))).length = x.length + 4 := by rw [List.length_append, four_len]
      have hz := (frame_zero htb htl).2 ⟨x, rfl, he.symm⟩
      have hbits : wrap64 (8 * wrap64 (((fseal x).length : Int) - 4)) = ((8 * (x.length + 4) : Nat) : Int) := by unfold wrap64; omega
      rw [hbits, he]
      exact bent_loop a p x.length (by omega) ha.1 (by omega) _ htb htl hz 32 0 rfl _ 0 false htb htl (by decide) (by rw [Nat.zero_mul, Nat.xor_zero]) (by decide)
end Go.Proofs.Ytdppjknfhggpbaa.Pure
