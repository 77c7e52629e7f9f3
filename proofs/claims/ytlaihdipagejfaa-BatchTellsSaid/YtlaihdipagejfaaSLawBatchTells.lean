/- Proved here: the row of BatchTells, and what it needs. Conditions: those of each theorem. Written for this claim by programs; what the claim does not use is left out. -/
import Derived.ChangeArms
import Derived.DataReads
import Derived.DataElems
import Derived.OpenShut
import Derived.SizedLaws
import Derived.Test.YtlaihdipagejfaaRows
import Derived.WalkKit
import Derived.ProofKit
import Derived.ShutString
import Derived.ChangeOld
import Derived.Below
import Derived.Test.YtlaihdipagejfaaSBatchTells3
section
set_option linter.unusedVariables false
namespace Go.Proofs.YtlaihdipagejfaaL
open Go Go.RowKit Go.Proofs.YtlaihdipagejfaaG Go.Proofs.Ytlaihdipagejfaa.P Go.Proofs.YtlaihdipagejfaaW.PrintWords Go.Proofs.YtlaihdipagejfaaW.PrintMore

def aw1 : OpS := ⟨1, ⟨#[97]⟩, ⟨#[120]⟩⟩
def aw2 : OpS := ⟨0, ⟨#[98]⟩, ⟨#[]⟩⟩
theorem aw_few : FewI [aw1, aw2] 128 := ⟨by decide, by decide, fun o ho => by
  simp only [List.mem_cons, List.not_mem_nil, or_false] at ho
  rcases ho with rfl | rfl
  · exact ⟨⟨by decide, by decide, by decide, by decide⟩, by decide⟩
  · exact ⟨⟨by decide, by decide, by decide, by decide⟩, by decide⟩⟩
theorem aw_wf : ∀ o ∈ [aw1, aw2], WfO o := fun o ho => by
  simp only [List.mem_cons, List.not_mem_nil, or_false] at ho
  rcases ho with rfl | rfl
  · exact ⟨by decide, by decide⟩
  · exact ⟨by decide, by decide⟩
theorem aw_form : formG [aw1, aw2] = [2, 1, 1, 97, 1, 120, 0, 1, 98] := by
  show vint 2 ++ ((1 :: (vint 1 ++ (bytesOf _ ++ (vint 1 ++ bytesOf _)))) ++ ((0 :: (vint 1 ++ (bytesOf _ ++ []))) ++ [])) = _
  rw [vint_small (x := 1) (by omega), vint_small (x := 2) (by omega)]
  rfl
theorem aw_none {l : List Int} (hb : By l) (hl : l.length ≤ 100) (h : ∀ ops, FewI ops 128 → (∀ o ∈ ops, WfO o) → l ≠ formG ops) : batch_Parse.f l = some ([], 40) := by
  rcases parse_cases l hb (by omega) with ⟨ops, h1, h2, he, _⟩ | ⟨hf, _⟩
  · exact absurd he (h ops h1 h2)
  · exact hf
theorem aw_loop (r : Bool) (x1 : List OpS) (x2 x3 : List Int) (x4 : Int) (x5 : List OpS) (x6 x8 x10 x12 x14 : Int) (h1 : 0 < x1.length)
    (hend : ∀ x15 : List OpS, x15.length = 129 → Ev (fun k => ratlinelaw04_awake.l0 k x1 x2 x3 x4 x5 x6 x8 x10 x12 x14 x15 129 129) r) :
    ∀ (m j : Nat) (x15 : List OpS), j + m = 129 → x15.length = 129 → Ev (fun k => ratlinelaw04_awake.l0 k x1 x2 x3 x4 x5 x6 x8 x10 x12 x14 x15 129 (j : Int)) r := by
  intro m
  induction m with
  | zero =>
    intro j x15 hj hl
    obtain rfl : j = 129 := by omega
    exact hend x15 hl
  | succ m ih =>
    intro j x15 hj hl
    refine ev_step (fun k => by rw [ratlinelaw04_awake.l0, if_pos (by omega), if_pos (by omega), if_pos (by omega), if_pos (by omega), up1 (by omega)]) ?_
    exact ih (j + 1) _ (by omega) (by rw [List.length_set]; exact hl)
theorem awake04 : Ev (fun k => ratlinelaw04_awake.f k) true := by
  have b4 : ∀ a b c d : Int, 0 ≤ a → a < 256 → 0 ≤ b → b < 256 → 0 ≤ c → c < 256 → 0 ≤ d → d < 256 → By [a, b, c, d] := fun a b c d h1 h2 h3 h4 h5 h6 h7 h8 => .cons h1 h2 (.cons h3 h4 (.cons h5 h6 (.cons h7 h8 .nil)))
  have p1 : batch_Parse.f [2, 1, 1, 97, 1, 120, 0, 1, 98] = some ([aw1, aw2], 0) := by rw [← aw_form]; exact parse_form aw_few aw_wf
  have p2 : batch_Parse.f (([] ++ [2, 1, 1, 97, 1, 120, 0, 1, 98]) ++ [0]) = some ([], 40) := by
    rw [← aw_form, List.nil_append]
    refine aw_none ((formG_by aw_wf).append (.cons (by decide) (by decide) .nil)) (by rw [aw_form]; decide) (fun ops h1 h2 e => ?_)
    have := (formG_inj (a := [0]) (b := []) aw_few h1 aw_wf h2 (by rw [List.append_nil]; exact e)).2
    simp at this
  have p3 : batch_Parse.f [0] = some ([], 40) := by
    refine aw_none (.cons (by decide) (by decide) .nil) (by decide) (fun ops h1 h2 e => ?_)
    have h3 := h1.2.1
    have h4 := h1.1
    rw [formG, show ([0] : List Int) = vint 0 ++ [] from by rw [vint_small (by omega)]; rfl] at e
    have := (vint_append_inj (by omega) (by omega) e).1
    omega
  have p4 : batch_Parse.f [1, 2, 1, 97] = some ([], 40) := by
    refine aw_none (b4 _ _ _ _ (by decide) (by decide) (by decide) (by decide) (by decide) (by decide) (by decide) (by decide)) (by decide) (fun ops h1 h2 e => ?_)
    have h3 := h1.2.1
    have h4 := h1.1
    rw [formG, show ([1, 2, 1, 97] : List Int) = vint 1 ++ [2, 1, 97] from by rw [vint_small (by omega)]; rfl] at e
    obtain ⟨e1, e2⟩ := vint_append_inj (by omega) (by omega) e
    match ops, e1, e2, h1 with
    | [o], _, e2, h1 =>
      have h5 := (op_sizes (h1.2.2 o (by simp))).2.2.1
      rw [formL_cons, formO] at e2
      simp only [List.cons_append, List.cons.injEq] at e2
      omega
  have q1 : Ev (fun k => batch_Bytes.f k [aw1, aw2]) (formG [aw1, aw2], 0) := by
    have := bytes_f [aw1, aw2]
    rwa [if_pos aw_few] at this
  have q2 : ∀ l : List OpS, ¬ FewI l 128 → Ev (fun k => batch_Bytes.f k l) ([], 40) := fun l h => by
    have := bytes_f l
    rwa [if_neg h] at this
  unfold ratlinelaw04_awake.f
  refine ev_bind rfl ?_
  refine ev_bind rfl ?_
  refine ev_call2 q1 (fun t t1 t2 => ?_)
  refine ev_bind2 p1 (fun u u1 u2 => ?_)
  refine ev_bind rfl (ev_pos (by decide) ?_)
  refine ev_bind rfl (ev_pos (by decide) ?_)
  refine ev_bind2 p2 (fun v v1 v2 => ?_)
  refine ev_bind2 p3 (fun w w1 w2 => ?_)
  refine ev_bind2 p4 (fun x x1 x2 => ?_)
  refine ev_call2 (q2 [] (fun h => absurd h.1 (by decide))) (fun y y1 y2 => ?_)
  refine ev_pos (by decide) (ev_bind rfl ?_)
  rw [t1, t2, u1, u2, v2, w2, x2, y2, List.length_replicate]
  refine aw_loop true _ _ _ _ _ _ _ _ _ _ (by decide) (fun x15 hl => ?_) 129 0 _ rfl (List.length_replicate ..)
  refine ev_step (fun k => by rw [ratlinelaw04_awake.l0, if_neg (Int.lt_irrefl _)]) ?_
  refine ev_call2 (q2 x15 (fun h => by have := h.2.1; omega)) (fun y y1 y2 => ?_)
  refine ev_call (entries_f [aw1, aw2] 7 (by decide)) ?_
  refine ev_pos (by unfold wrap64; omega) ?_
  refine ev_bind (same_f (formG_by aw_wf) (by rw [← aw_form]; exact formG_by aw_wf)) (ev_pos (decide_eq_true aw_form) ?_)
  refine ev_call (osame_f _ _ (by decide)) (ev_pos (decide_eq_true rfl) ?_)
  refine ev_pos rfl (ev_pos rfl (ev_pos rfl (ev_pos rfl (ev_pos y2 ?_))))
  refine ev_call (a := true) ?_ (ev_some _)
  have := esame_f (entL 7 [aw1, aw2]) [⟨⟨⟨#[97]⟩, 7, 1⟩, ⟨#[120]⟩⟩, ⟨⟨⟨#[98]⟩, 8, 0⟩, ⟨#[]⟩⟩] (by decide)
  rwa [decide_eq_true (by rfl)] at this
end Go.Proofs.YtlaihdipagejfaaL

end

section
set_option linter.unusedVariables false
namespace Go.Proofs.YtlaihdipagejfaaL
open Go Go.RowKit Go.Proofs.YtlaihdipagejfaaG Go.Proofs.Ytlaihdipagejfaa.P Go.Proofs.YtlaihdipagejfaaW.PrintWords Go.Proofs.YtlaihdipagejfaaW.PrintMore

theorem wfO_of {o : OpS} (h : (Lit.int .u8 o.f0).wf = true) : WfO o := by
  simp [Lit.wf, IntKind.min, IntKind.max, IntKind.bits, IntKind.signed] at h
  exact ⟨by omega, by omega⟩
theorem wfL_of {l : List OpS} (h : ∀ o ∈ l, (Lit.int .u8 o.f0).wf = true ∧ o.f1.size ≤ maxLen ∧ o.f2.size ≤ maxLen) : ∀ o ∈ l, WfO o := fun o ho => wfO_of (h o ho).1
theorem awake04' : Ev (fun k => (ratlinelaw04_awake.f k).bind fun t => some t) true := ev_call awake04 (ev_some _)
end Go.Proofs.YtlaihdipagejfaaL

end

section
set_option linter.unusedVariables false
namespace Go.Proofs.YtlaihdipagejfaaL
open Go Go.RowKit Go.Proofs.YtlaihdipagejfaaG Go.Proofs.Ytlaihdipagejfaa.P Go.Proofs.YtlaihdipagejfaaW.PrintWords Go.Proofs.YtlaihdipagejfaaW.PrintMore

theorem rput_l0 : ∀ (n x k : Nat) (l : List Int), x < 18446744073709551616 → (vint x).length ≤ n → n < k → l.length + n < 140737488355328 → ratlineref02_Put.l0 k (x : Int) l = some (l ++ vint x) := by
  intro n
  induction n with
  | zero => intro x k l hx hn; have := vint_pos x; omega
  | succ n ih =>
    intro x k l hx hn hk hl
    obtain ⟨k, rfl⟩ : ∃ m, k = m + 1 := ⟨k - 1, by omega⟩
    simp only [ratlineref02_Put.l0]
    by_cases h : 127 < x
    · rw [vint_big h] at hn ⊢
      have e1 : IntKind.u64.wrap (Int.tdiv (x : Int) 128) = ((x / 128 : Nat) : Int) := by
        rw [show Int.tdiv (x : Int) 128 = ((x / 128 : Nat) : Int) from rfl]; exact wrap_u64_nat (by omega)
      have e2 : ((Int.tmod (x : Int) 128) + 128) % 256 = ((x % 128 + 128 : Nat) : Int) := by
        rw [show Int.tmod (x : Int) 128 = ((x % 128 : Nat) : Int) from rfl]; omega
      rw [if_pos (by omega), if_pos (by omega), e1, e2, ih (x / 128) k _ (by omega) (by simpa using hn) (by omega) (by rw [List.length_append]; simp; omega)]
      simp
    · rw [vint_small h, if_neg (by omega), if_pos (by omega), show (x : Int) % 256 = (x : Int) from by omega]
theorem rput_f {l : List Int} {x k : Nat} (hx : x < 18446744073709551616) (hk : 10 < k) (hl : l.length + 20 < 140737488355328) : ratlineref02_Put.f k l (x : Int) = some (l ++ vint x) := by
  have := vint_len10 hx
  unfold ratlineref02_Put.f
  rw [List.nil_append, if_pos (by simp; omega), rput_l0 10 x k l hx this hk (by omega)]
theorem rsame_f {a b : List Int} (ha : By a) (hb : By b) : ratlineref02_same.f a b = some (decide (b.length ≤ a.length ∧ a.take b.length = b)) := by
  unfold ratlineref02_same.f
  by_cases h : b.length ≤ a.length
  · rw [if_pos (by omega), if_pos (by omega), if_pos (by omega), Int.toNat_natCast]
    by_cases e : a.take b.length = b
    · rw [e, decide_eq_true ⟨h, rfl⟩]; simp
    · have : (strOfNums (a.take b.length)).toList ≠ (strOfNums b).toList := fun e' => e (str_inj (ha.take _) hb (ba_ext e'))
      rw [decide_eq_false (fun h' => e h'.2), beq_eq_false_iff_ne.2 this]
  · rw [if_neg (by omega), decide_eq_false (fun h' => h h'.1)]
theorem rrest_f {a : List Int} {n : Nat} (hn : n ≤ a.length) (hl : a.length < 140737488355328) : ratlineref02_rest.f a (n : Int) = some (a.drop n) := by
  unfold ratlineref02_rest.f
  rw [if_pos (by omega), if_pos (by omega), Int.toNat_natCast, if_pos (by simp; omega), List.nil_append]

theorem wrap_mod (n : Nat) : IntKind.u64.wrap (n : Int) = ((n % 18446744073709551616 : Nat) : Int) := by rw [IntKind.wrap_u64]; omega
theorem mod_steps (a c p N : Nat) : (a % N + c * (p % N) % N) % N = (a + c * p) % N := by
  rw [← Nat.add_mod, Nat.add_mod a (c * (p % N)), Nat.mul_mod c (p % N), Nat.mod_mod, ← Nat.mul_mod, ← Nat.add_mod]
/-- What is reckoned of the first bytes. -/
def acc (l : List Int) (i : Nat) : Nat := val7 (l.take i) % 18446744073709551616
theorem acc_step {l : List Int} (hb : By l) {i : Nat} (hi : i < l.length) : IntKind.u64.wrap ((acc l i : Int) + IntKind.u64.wrap (IntKind.u64.wrap (Int.tmod (rd l (i : Int)) 128) * ((128 ^ i % 18446744073709551616 : Nat) : Int))) = (acc l (i + 1) : Int) := by
  have hrd : rd l (i : Int) = l.getD i 0 := by unfold rd; rw [Int.toNat_natCast]
  have hm : l.getD i 0 ∈ l := by rw [List.getD_eq_getElem?_getD, List.getElem?_eq_getElem hi]; exact List.getElem_mem hi
  have hc := hb _ hm
  have e1 : l.take (i + 1) = l.take i ++ [l.getD i 0] := by rw [List.take_succ_eq_append_getElem hi, List.getD_eq_getElem?_getD, List.getElem?_eq_getElem hi]; rfl
  have hlen : (l.take i).length = i := by rw [List.length_take]; omega
  rw [hrd]
  unfold acc
  rw [e1, val7_snoc, hlen]
  obtain ⟨c, hc'⟩ := Int.eq_ofNat_of_zero_le hc.1
  rw [hc'] at hc ⊢
  rw [show Int.tmod (c : Int) 128 = ((c % 128 : Nat) : Int) from rfl, wrap_u64_nat (by omega), show ((c : Int) % 128).toNat = c % 128 from by omega]
  rw [← Int.natCast_mul, wrap_mod, ← Int.natCast_add, wrap_mod, mod_steps]

theorem rtake_none {l : List Int} (hb : By l) (hl : l.length < 140737488355328) (h : ∀ j, j < l.length → j < 10 → 128 ≤ l.getD j 0) : nums_Take.f l = some (0, [], false) := by
  rcases take_cases l hb hl with ⟨x, rest, hx, he, _⟩ | ⟨hf, _⟩
  · exfalso
    have hp := vint_pos x
    have hv := vint_len10 hx
    have h1 := findIdx_vint x rest
    rw [← he] at h1
    have hlt : l.findIdx (· < 128) < l.length := by rw [h1, he, List.length_append]; omega
    have h2 := List.findIdx_getElem (p := fun c : Int => decide (c < 128)) (w := hlt)
    have h3 := h _ hlt (by omega)
    rw [List.getD_eq_getElem?_getD, List.getElem?_eq_getElem hlt] at h3
    simp at h2 h3
    omega
  · exact hf
theorem rtake_l0 {l : List Int} (hb : By l) (hl : l.length + 20 < 140737488355328) : ∀ (d k i : Nat), i + d = 10 → i ≤ l.length → (∀ j, j < i → 128 ≤ l.getD j 0) → 2 * d + 20 < k →
    ratlineref02_Take.l0 k l (acc l i : Int) ((128 ^ i % 18446744073709551616 : Nat) : Int) (i : Int) = nums_Take.f l := by
  intro d
  induction d with
  | zero =>
    intro k i hd hi hj hk
    obtain ⟨k, rfl⟩ : ∃ m, k = m + 2 := ⟨k - 2, by omega⟩
    have hno := rtake_none hb (by omega) (fun j h1 h2 => hj j (by omega))
    simp only [ratlineref02_Take.l0]
    rw [decide_eq_false (show ¬ (i : Int) < 10 from by omega), ite_self]
    simp only [ratlineref02_Take.j1]
    rw [if_neg (by decide), hno]
  | succ d ih =>
    intro k i hd hi hj hk
    obtain ⟨k, rfl⟩ : ∃ m, k = m + 2 := ⟨k - 2, by omega⟩
    simp only [ratlineref02_Take.l0]
    by_cases h : i < l.length
    · have hrd : rd l (i : Int) = l.getD i 0 := by unfold rd; rw [Int.toNat_natCast]
      have hstep := acc_step hb h
      have hw : wrap64 ((i : Int) + 1) = ((i + 1 : Nat) : Int) := by unfold wrap64; omega
      rw [if_pos (by omega), decide_eq_true (show (i : Int) < 10 from by omega)]
      simp only [ratlineref02_Take.j1]
      rw [if_pos trivial, if_pos (by omega), if_pos (by omega), hstep, hw]
      by_cases hc : rd l (i : Int) < 128
      · rw [if_pos hc]
        have hx : acc l (i + 1) < 18446744073709551616 := Nat.mod_lt _ (by omega)
        have hidx : l.findIdx (· < 128) = i := by
          refine (List.findIdx_eq h).2 ⟨?_, fun j hj' => ?_⟩
          · rw [hrd, List.getD_eq_getElem?_getD, List.getElem?_eq_getElem h] at hc
            simpa using hc
          · have := hj j hj'
            rw [List.getD_eq_getElem?_getD, List.getElem?_eq_getElem (by omega)] at this
            simpa using this
        refine bind1 (rput_f hx (by omega) (by rw [List.length_nil]; omega)) ?_
        rw [List.nil_append]
        refine bind1 (rsame_f hb (vint_by _)) ?_
        rcases take_cases l hb (by omega) with ⟨x, rest, hx', he, hf⟩ | ⟨hf, hno⟩
        · have h1 := findIdx_vint x rest
          have hp := vint_pos x
          rw [← he, hidx] at h1
          have htk : l.take (i + 1) = vint x := by rw [he, show i + 1 = (vint x).length from by omega, List.take_left]
          have hax : acc l (i + 1) = x := by unfold acc; rw [htk, val7_vint]; omega
          have hdr : l.drop (i + 1) = rest := by rw [he, show i + 1 = (vint x).length from by omega, List.drop_left]
          have hlen : l.length = (vint x).length + rest.length := by rw [he, List.length_append]
          rw [hax, decide_eq_true (show (vint x).length ≤ l.length ∧ l.take (vint x).length = vint x from ⟨by omega, by rw [show (vint x).length = i + 1 from by omega]; exact htk⟩), if_pos rfl]
          refine bind1 (rput_f hx' (by omega) (by rw [List.length_nil]; omega)) ?_
          rw [List.nil_append, if_pos (by omega)]
          refine bind1 (rrest_f (by omega) (by omega)) ?_
          rw [hdr, hf]
        · have hfalse : decide ((vint (acc l (i + 1))).length ≤ l.length ∧ l.take (vint (acc l (i + 1))).length = vint (acc l (i + 1))) = false := by
            refine decide_eq_false (fun h' => hno _ (l.drop (vint (acc l (i + 1))).length) hx ?_)
            conv => rhs; lhs; rw [← h'.2]
            exact (List.take_append_drop _ _).symm
          rw [hfalse, if_neg (by decide), hf]
      · rw [if_neg hc]
        have hw2 : IntKind.u64.wrap (((128 ^ i % 18446744073709551616 : Nat) : Int) * 128) = ((128 ^ (i + 1) % 18446744073709551616 : Nat) : Int) := by
          rw [IntKind.wrap_u64, Nat.pow_succ]; omega
        rw [hw2]
        refine ih k (i + 1) (by omega) (by omega) (fun j hj' => ?_) (by omega)
        rcases Nat.lt_or_ge j i with h' | h'
        · exact hj j h'
        · obtain rfl : j = i := by omega
          rw [hrd] at hc; omega
    · have hno := rtake_none hb (by omega) (fun j h1 h2 => hj j (by omega))
      rw [if_neg (by omega)]
      simp only [ratlineref02_Take.j1]
      rw [if_neg (by decide), hno]
theorem rtake_f {l : List Int} {k : Nat} (hb : By l) (hl : l.length + 20 < 140737488355328) (hk : 50 < k) : ratlineref02_Take.f k l = nums_Take.f l :=
  rtake_l0 hb hl 10 k 0 (by omega) (by omega) (fun j h => absurd h (by omega)) (by omega)

theorem rtakeText_f {l : List Int} {k : Nat} {most : Int} (hm0 : -9223372036854775808 ≤ most) (hm : most ≤ 9223372036854775807) (hb : By l) (hl : l.length + 20 < 140737488355328) (hk : 50 < k) : ratlineref02_TakeText.f k l most = nums_TakeText.f l most := by
  unfold ratlineref02_TakeText.f nums_TakeText.f
  rw [rtake_f hb hl hk]
  rcases take_cases l hb (by omega) with ⟨x, rest, hx, he, hf⟩ | ⟨hf, hno⟩
  · have hlen : l.length = (vint x).length + rest.length := by rw [he, List.length_append]
    rw [hf]
    simp only [Option.bind_some, if_true]
    have e1 : IntKind.u64.wrap (mx most 0) = max most 0 := by rw [mx_eq, IntKind.wrap_u64]; omega
    rw [e1, wrap_u64_nat (show rest.length < 18446744073709551616 from by omega)]
    by_cases c1 : most < 0
    · rw [if_pos c1, if_pos c1, ite_self]
    · have e2 : IntKind.u64.wrap most = most := by rw [IntKind.wrap_u64]; omega
      have e3 : max most 0 = most := by omega
      rw [if_neg c1, if_neg c1, e2, e3]
      by_cases c2 : (x : Int) > most
      · rw [if_pos c2, if_pos c2]
      · rw [if_neg c2, if_neg c2]
        by_cases c3 : (x : Int) > (rest.length : Int)
        · rw [if_pos c3, if_pos c3]
        · rw [if_neg c3, if_neg c3, if_pos (by omega), if_pos (by omega), if_pos (by omega), if_pos (by omega), show wrap64 (x : Int) = (x : Int) from by unfold wrap64; omega, rrest_f (by omega) (by omega), Int.toNat_natCast, clone_f (by rw [List.length_drop]; omega)]
  · rw [hf]
    simp

theorem rputText_f {l : List Int} {s : ByteArray} {k : Nat} (hk : 10 < k) (hl : l.length + 20 + s.size < 140737488355328) : ratlineref02_PutText.f k l s = some (l ++ vint s.size ++ bytesOf s) := by
  have := vint_len10 (x := s.size) (by omega)
  unfold ratlineref02_PutText.f
  rw [wrap_u64_nat (by omega), rput_f (by omega) hk (by omega)]
  simp only [Option.bind_some]
  rw [if_pos (by rw [List.length_append]; omega)]
end Go.Proofs.YtlaihdipagejfaaL

end

section
set_option linter.unusedVariables false
namespace Go.Proofs.YtlaihdipagejfaaL
open Go Go.RowKit Go.Proofs.YtlaihdipagejfaaG Go.Proofs.Ytlaihdipagejfaa.P Go.Proofs.YtlaihdipagejfaaW.PrintWords Go.Proofs.YtlaihdipagejfaaW.PrintMore

theorem rop_f (o : OpS) (hw : WfO o) : ratlineref04_Op.f o.f0 o.f1 o.f2 = some (decide (OpI o)) := by
  have he : OpI o ↔ 1 ≤ o.f1.size ∧ o.f1.size ≤ 64 ∧ o.f0 ≤ 1 ∧ (o.f2.size : Int) ≤ (if o.f0 = 0 then 0 else 256) :=
    ⟨fun h => ⟨h.1.1, h.1.2.1, h.1.2.2.2, h.2⟩, fun h => ⟨⟨h.1, h.2.1, by show (0 : Int) ≤ _; omega, h.2.2.1⟩, h.2.2.2⟩⟩
  have h0 := hw.1
  rw [decide_eq_decide.2 he]
  have hz : (o.f2.toList == ([] : List UInt8)) = decide ((o.f2.size : Int) ≤ 0) := by
    rw [Bool.eq_iff_iff, beq_iff_eq, decide_eq_true_eq, ba_nil_iff]
    omega
  unfold ratlineref04_Op.f
  by_cases h1 : (o.f1.size : Int) < 1
  · rw [if_pos h1, decide_eq_false (by omega)]
  · rw [if_neg h1]
    by_cases h2 : (o.f1.size : Int) > 64
    · rw [if_pos h2, decide_eq_false (by omega)]
    · rw [if_neg h2]
      by_cases h3 : o.f0 = 1
      · rw [if_pos h3, if_neg (show ¬ o.f0 = 0 by omega), if_neg (show ¬ o.f0 = 0 by omega)]
        by_cases h4 : (o.f2.size : Int) ≤ 256
        · rw [if_pos h4, decide_eq_true ⟨by omega, by omega, by omega, h4⟩]
        · rw [if_neg h4, decide_eq_false (fun h => h4 h.2.2.2)]
      · rw [if_neg h3]
        by_cases h4 : o.f0 = 0
        · rw [if_pos h4, if_pos h4, hz]
          congr 1
          exact decide_eq_decide.2 ⟨fun h => ⟨by omega, by omega, by omega, h⟩, fun h => h.2.2.2⟩
        · rw [if_neg h4, decide_eq_false (by omega)]
theorem rfew_loop (l : List OpS) (a : Int) (hw : ∀ o ∈ l, WfO o) (hl : l.length < 9223372036854775800) :
    ∀ (m j : Nat), j + m = l.length → Ev (fun k => ratlineref04_few.l0 k l a (j : Int)) (decide (∀ o ∈ l.drop j, OpI o) && (decide (0 < l.length) && decide ((l.length : Int) ≤ a))) := by
  intro m
  induction m with
  | zero =>
    intro j hj
    obtain rfl : j = l.length := by omega
    refine ev_step (fun k => by rw [ratlineref04_few.l0, if_neg (Int.lt_irrefl _)]) ?_
    rw [List.drop_length]
    by_cases h : (l.length : Int) ≥ 1
    · refine ev_pos h ?_
      rw [decide_eq_true (show 0 < l.length by omega)]
      simpa using ev_some _
    · refine ev_neg h ?_
      rw [decide_eq_false (show ¬ 0 < l.length by omega)]
      simpa using ev_some _
  | succ m ih =>
    intro j hj
    have hlt : j < l.length := by omega
    refine ev_step (fun k => by rw [ratlineref04_few.l0, if_pos (by omega), if_pos (by omega), rd_op l hlt, up1 (by omega)]) ?_
    refine ev_bind (rop_f l[j] (hw _ (List.getElem_mem hlt))) ?_
    rw [List.drop_eq_getElem_cons hlt]
    by_cases h : OpI l[j]
    · refine ev_pos (decide_eq_true h) ?_
      have e0 : (∀ e ∈ l[j] :: l.drop (j + 1), OpI e) ↔ ∀ e ∈ l.drop (j + 1), OpI e := ⟨fun h e he => h e (List.mem_cons_of_mem _ he), fun h2 e he => by
        rcases List.mem_cons.1 he with rfl | he
        · exact h
        · exact h2 e he⟩
      rw [decide_eq_decide.2 e0]
      exact ih (j + 1) (by omega)
    · refine ev_neg (by rw [decide_eq_false h]; decide) ?_
      rw [decide_eq_false (fun h2 => h (h2 _ (List.mem_cons_self ..))), Bool.false_and]
      exact ev_some _
theorem rfew_f (l : List OpS) (a : Int) (hw : ∀ o ∈ l, WfO o) (hl : l.length < 9223372036854775800) : Ev (fun k => ratlineref04_few.f k l a) (decide (FewI l a)) := by
  have := rfew_loop l a hw hl l.length 0 (by omega)
  rw [List.drop_zero] at this
  have e : (decide (∀ o ∈ l, OpI o) && (decide (0 < l.length) && decide ((l.length : Int) ≤ a))) = decide (FewI l a) := by
    rw [Bool.eq_iff_iff, Bool.and_eq_true, Bool.and_eq_true, decide_eq_true_eq, decide_eq_true_eq, decide_eq_true_eq, decide_eq_true_eq]
    exact ⟨fun h => ⟨h.2.1, h.2.2, h.1⟩, fun h => ⟨h.2.2, h.1, h.2.1⟩⟩
  rw [e] at this
  exact this
theorem rputO {l : List Int} {s : ByteArray} (hl : l.length + 20 + s.size < 140737488355328) : Ev (fun k => ratlineref02_PutText.f k l s) (l ++ vint s.size ++ bytesOf s) := ev_of 11 (fun k => rputText_f (by omega) hl)
theorem rbytes_loop (l : List OpS) (h : ∀ o ∈ l, OpI o) (hl : l.length ≤ 200) :
    ∀ (m j : Nat) (acc : List Int), j + m = l.length → acc.length + 341 * m ≤ 1000000 → Ev (fun k => ratlineref04_Bytes.l0 k l acc (j : Int)) (acc ++ formL (l.drop j), 0) := by
  intro m
  induction m with
  | zero =>
    intro j acc hj ha
    obtain rfl : j = l.length := by omega
    refine ev_step (fun k => by rw [ratlineref04_Bytes.l0, if_neg (Int.lt_irrefl _)]) ?_
    rw [List.drop_length, formL_nil, List.append_nil]
    exact ev_some _
  | succ m ih =>
    intro j acc hj ha
    have hlt : j < l.length := by omega
    have ho := h l[j] (List.getElem_mem hlt)
    obtain ⟨h1, h2, _, h4, _⟩ := op_sizes ho
    have v1 := vint_len10 (x := l[j].f1.size) (by omega)
    refine ev_step (fun k => by rw [ratlineref04_Bytes.l0, if_pos (by omega), if_pos (by omega), if_pos (by omega), rd_op l hlt, up1 (by omega)]) ?_
    refine ev_call (rputO (by rw [List.length_append]; simp; omega)) ?_
    have hlen := formO_len ho
    have := ih (j + 1) (acc ++ formO l[j]) (by omega) (by rw [List.length_append]; omega)
    rw [List.drop_eq_getElem_cons hlt, formL_cons, ← List.append_assoc]
    by_cases hk : l[j].f0 = 1
    · refine ev_pos hk (ev_call (rputO (by simp only [List.length_append, List.length_singleton, bytesOf_length]; omega)) ?_)
      have e : acc ++ [l[j].f0] ++ vint l[j].f1.size ++ bytesOf l[j].f1 ++ vint l[j].f2.size ++ bytesOf l[j].f2 = acc ++ formO l[j] := by rw [formO, if_pos hk]; simp only [List.append_assoc, List.cons_append, List.nil_append]
      rw [e]
      exact this
    · refine ev_neg hk ?_
      have e : acc ++ [l[j].f0] ++ vint l[j].f1.size ++ bytesOf l[j].f1 = acc ++ formO l[j] := by rw [formO, if_neg hk]; simp only [List.append_assoc, List.cons_append, List.nil_append, List.append_nil]
      rw [e]
      exact this
theorem rbytes_f (l : List OpS) (hw : ∀ o ∈ l, WfO o) (hl : l.length ≤ 1000) : Ev (fun k => ratlineref04_Bytes.f k l) (if FewI l 128 then (formG l, 0) else ([], 40)) := by
  unfold ratlineref04_Bytes.f
  refine ev_call (rfew_f l 128 hw (by omega)) ?_
  by_cases h : FewI l 128
  · rw [decide_eq_true h, if_pos h]
    refine ev_pos rfl ?_
    have h2 := h.2.1
    have h3 := vint_len10 (x := l.length) (by omega)
    refine ev_call (a := vint l.length) (ev_of 11 (fun k => ?_)) ?_
    · rw [wrap_u64_nat (by omega), rput_f (by omega) (by omega) (by simp)]; rfl
    · have := rbytes_loop l h.2.2 (by omega) l.length 0 (vint l.length) (by omega) (by omega)
      rwa [List.drop_zero] at this
  · rw [decide_eq_false h, if_neg h]
    exact ev_neg (by decide) (ev_some _)
theorem rentries_loop (l : List OpS) (first : Int) (hl : l.length ≤ 1000) :
    ∀ (m j : Nat), j + m = l.length → Ev (fun k => ratlineref04_Entries.l0 k l first ((entL first l).take j) (j : Int)) (entL first l) := by
  intro m
  induction m with
  | zero =>
    intro j hj
    obtain rfl : j = l.length := by omega
    refine ev_step (fun k => by rw [ratlineref04_Entries.l0, if_neg (Int.lt_irrefl _)]) ?_
    rw [List.take_of_length_le (by rw [entL_length]; omega)]
    exact ev_some _
  | succ m ih =>
    intro j hj
    have hlt : j < l.length := by omega
    have hlt2 : j < (entL first l).length := by rw [entL_length]; exact hlt
    refine ev_step (fun k => by rw [ratlineref04_Entries.l0, if_pos (by omega), if_pos (by omega), if_pos (by rw [List.length_take]; omega), rd_op l hlt, up1 (by omega), wrap_u64_nat (by omega)]) ?_
    have := ih (j + 1) (by omega)
    rw [List.take_succ_eq_append_getElem hlt2, entL_at first l hlt] at this
    exact this
theorem rentries_f (l : List OpS) (first : Int) (hl : l.length ≤ 1000) : Ev (fun k => ratlineref04_Entries.f k l first) (entL first l) := by
  have := rentries_loop l first hl l.length 0 (by omega)
  rwa [List.take_zero] at this

theorem rtext_f {l : List Int} {most : Int} (hm0 : 0 ≤ most) (hm : most ≤ 9223372036854775807) (hb : By l) (hl : l.length + 20 < 140737488355328) {r : ByteArray × List Int × Bool} (h : nums_TakeText.f l most = some r) : Ev (fun k => ratlineref02_TakeText.f k l most) r :=
  ev_of 51 (fun k => by rw [rtakeText_f (by omega) hm hb hl (by omega), h])
/-- One op, by the document: what the program takes, if its kind is 0 or 1, and nothing was bad. -/
theorem rone_f (l : List Int) (hb : By l) (hl : l.length + 20 < 140737488355328) (o : OpS) (rest : List Int) (bad : Bool) (h : opF l false = some (o, rest, bad)) :
    ∃ (o' : OpS) (rest' : List Int) (ok : Bool), Ev (fun k => ratlineref04_one.f k l) (o'.f0, o'.f1, o'.f2, rest', ok) ∧ (ok = true → bad = false ∧ o' = o ∧ rest' = rest) ∧ (ok = false → bad = true ∨ 1 < o.f0) := by
  unfold ratlineref04_one.f
  cases l with
  | nil =>
    refine ⟨⟨0, ⟨#[]⟩, ⟨#[]⟩⟩, [], false, ?_, (fun h => by cases h), fun _ => ?_⟩
    · exact ev_pos rfl (ev_step (fun k => by rw [ratlineref04_one.j0]) (ev_pos rfl (ev_some _)))
    · left
      unfold opF at h
      obtain ⟨t, _, h⟩ := Option.bind_eq_some_iff.1 h
      simp only [kindF, show ¬ (0 : Int) = 1 from by omega, if_false, Option.some.injEq, Prod.mk.injEq] at h
      rw [← h.2.2]
      simp
  | cons c r =>
    have e1 : rd (c :: r) 0 = c := rfl
    have hr := hb.tail
    rw [List.length_cons] at hl
    have hc := hb.head
    unfold opF at h
    simp only [kindF, Bool.not_true, Bool.or_false, Bool.false_or] at h
    obtain ⟨⟨s, r1, ok1⟩, ht, h⟩ := Option.bind_eq_some_iff.1 h
    simp only at h
    have htx := rtext_f (l := r) (most := 64) (by omega) (by omega) hr (by omega) ht
    have hr1 : By r1 ∧ r1.length ≤ r.length := by
      rcases takeText_cases r 64 (by omega) hr (by omega) with ⟨s', rest', _, he, hf⟩ | ⟨hf, _⟩
      · rw [hf] at ht
        simp only [Option.some.injEq, Prod.mk.injEq] at ht
        obtain ⟨rfl, rfl, rfl⟩ := ht
        exact ⟨By.right (By.right (he ▸ hr)), by rw [he, List.length_append, List.length_append]; omega⟩
      · rw [hf] at ht
        simp only [Option.some.injEq, Prod.mk.injEq] at ht
        obtain ⟨rfl, rfl, rfl⟩ := ht
        exact ⟨.nil, by simp⟩
    have hpos : 0 < (((c :: r).length : Nat) : Int) := by rw [List.length_cons]; omega
    have hnz : ¬ (((c :: r).length : Nat) : Int) = 0 := by omega
    have hd : (c :: r).drop 1 = r := rfl
    by_cases h2 : c > 1
    · refine ⟨⟨0, ⟨#[]⟩, ⟨#[]⟩⟩, [], false, ?_, (fun h => by cases h), fun _ => ?_⟩
      · refine ev_neg hnz (ev_pos hpos ?_)
        rw [e1, decide_eq_true h2]
        exact ev_step (fun k => by rw [ratlineref04_one.j0]) (ev_pos rfl (ev_some _))
      · right
        rw [if_neg (show ¬ c = 1 by omega)] at h
        simp only [Option.some.injEq, Prod.mk.injEq] at h
        rw [← h.1]
        exact h2
    · have hstep : ∀ {x : Int × ByteArray × ByteArray × List Int × Bool}, Ev (fun k => (ratlineref02_TakeText.f k ((c :: r).drop 1) 64).bind fun bt287 => (if bt287.2.2 = true then (if (rd (c :: r) 0) = 1 then ((ratlineref02_TakeText.f k bt287.2.1 256).bind fun bt292 => (some (rd (c :: r) 0, bt287.1, bt292.1, bt292.2.1, bt292.2.2))) else (some (rd (c :: r) 0, bt287.1, (⟨#[]⟩ : ByteArray), bt287.2.1, bt287.2.2))) else (some (rd (c :: r) 0, bt287.1, (⟨#[]⟩ : ByteArray), bt287.2.1, bt287.2.2)))) x →
          Ev (fun k => if (((c :: r).length : Nat) : Int) = 0 then ratlineref04_one.j0 k (c :: r) true else if 0 < (((c :: r).length : Nat) : Int) then ratlineref04_one.j0 k (c :: r) (decide (rd (c :: r) 0 > 1)) else none) x := by
        intro x hx
        refine ev_neg hnz (ev_pos hpos ?_)
        rw [e1, decide_eq_false h2]
        exact ev_step (fun k => by rw [ratlineref04_one.j0]) (ev_neg (by decide) (ev_pos hpos (ev_pos (by rw [List.length_cons]; omega) hx)))
      cases ok1 with
      | false =>
        refine ⟨⟨c, s, ⟨#[]⟩⟩, r1, false, hstep (ev_call3 htx (fun t t1 t2 t3 => ?_)), fun h => (by cases h), fun _ => .inl ?_⟩
        · rw [t1, t2, t3, e1]
          exact ev_neg (by decide) (ev_some _)
        · by_cases hk : c = 1
          · rw [if_pos hk] at h
            obtain ⟨u, _, h⟩ := Option.bind_eq_some_iff.1 h
            simp only [Option.some.injEq, Prod.mk.injEq] at h
            rw [← h.2.2]; simp
          · rw [if_neg hk] at h
            simp only [Option.some.injEq, Prod.mk.injEq] at h
            rw [← h.2.2]; simp
      | true =>
        by_cases hk : c = 1
        · rw [if_pos hk] at h
          obtain ⟨⟨s2, r2, ok2⟩, ht2, h⟩ := Option.bind_eq_some_iff.1 h
          simp only [Option.some.injEq, Prod.mk.injEq] at h
          obtain ⟨rfl, rfl, rfl⟩ := h
          have htx2 := rtext_f (l := r1) (most := 256) (by omega) (by omega) hr1.1 (by omega) ht2
          refine ⟨⟨c, s, s2⟩, r2, ok2, hstep (ev_call3 htx (fun t t1 t2 t3 => ?_)), fun h => ⟨by rw [h]; rfl, rfl, rfl⟩, fun h => .inl (by rw [h]; rfl)⟩
          rw [t1, t2, t3, e1]
          refine ev_pos rfl (ev_pos hk (ev_call3 htx2 (fun u u1 u2 u3 => ?_)))
          rw [u1, u2, u3]
          exact ev_some _
        · rw [if_neg hk] at h
          simp only [Option.some.injEq, Prod.mk.injEq] at h
          obtain ⟨rfl, rfl, rfl⟩ := h
          refine ⟨⟨c, s, ⟨#[]⟩⟩, r1, true, hstep (ev_call3 htx (fun t t1 t2 t3 => ?_)), fun h => ⟨rfl, rfl, rfl⟩, fun h => by cases h⟩
          rw [t1, t2, t3, e1]
          exact ev_pos rfl (ev_neg hk (ev_some _))
/-- From op i on: the document's loop comes to what the program's loop, and its test, come to. -/
theorem rparse_loop (n : Nat) (hn : n ≤ 128) : ∀ (m i : Nat) (out : List OpS) (b : List Int), i + m = n → out.length = i → (∀ o ∈ out, WfO o) → By b → b.length + 20 < 140737488355328 →
    ∃ (out' : List OpS) (b' : List Int) (bad' : Bool), parseL (129 - i) (m : Int) out b false = some (out', b', bad') ∧ Ev (fun k => ratlineref04_Parse.l0 k (n : Int) b out (i : Int)) (if bad' = true then ([], 40) else if 0 < b'.length then ([], 40) else if FewI out' 128 then (out', 0) else ([], 40)) := by
  intro m
  induction m with
  | zero =>
    intro i out b hi ho hw hb hl
    obtain rfl : i = n := by omega
    refine ⟨out, b, false, ?_, ?_⟩
    · generalize 129 - i = z
      cases z with
      | zero => rfl
      | succ z => rw [parseL, if_neg (by omega)]
    · refine ev_step (fun k => by rw [ratlineref04_Parse.l0, if_neg (by unfold wrap64; omega)]) ?_
      rw [if_neg (show ¬ false = true by decide)]
      by_cases h : 0 < b.length
      · rw [if_pos h]
        exact ev_pos (by omega) (ev_some _)
      · rw [if_neg h]
        refine ev_neg (by omega) (ev_call (rfew_f out 128 hw (by omega)) ?_)
        by_cases hf : FewI out 128
        · rw [if_pos hf, decide_eq_true hf]
          exact ev_pos rfl (ev_some _)
        · rw [if_neg hf, decide_eq_false hf]
          exact ev_neg (by decide) (ev_some _)
  | succ m ih =>
    intro i out b hi ho hw hb hl
    obtain ⟨o, rest, bad, hf, hr, hrl, hs⟩ := op_cases b false hb hl
    obtain ⟨o', rest', ok, hone, hyes, hno⟩ := rone_f b hb hl o rest bad hf
    have hp : parseL (129 - i) ((m + 1 : Nat) : Int) out b false = parseL (128 - i) (m : Int) (out ++ [o]) rest bad := by
      rw [show 129 - i = (128 - i) + 1 from by omega, parseL, if_pos (by omega), if_neg (by decide), hf, Option.bind_some, wrap_down (by omega)]
    have hstep : ∀ {x : List OpS × Int}, Ev (fun k => (ratlineref04_one.f k b).bind fun bt302 => (if bt302.2.2.2.2 = true then (if out.length < 3518437208883 then (ratlineref04_Parse.l0 k (n : Int) bt302.2.2.2.1 (out ++ [(⟨bt302.1, bt302.2.1, bt302.2.2.1⟩ : OpS)]) ((i + 1 : Nat) : Int)) else (none)) else (some (([] : List OpS), 40)))) x → Ev (fun k => ratlineref04_Parse.l0 k (n : Int) b out (i : Int)) x := by
      intro x hx
      exact ev_step (fun k => by rw [ratlineref04_Parse.l0, if_pos (by unfold wrap64; omega), up1 (by omega)]) hx
    cases ok with
    | true =>
      obtain ⟨rfl, rfl, rfl⟩ := hyes rfl
      obtain ⟨_, hwo, _⟩ := hs rfl
      obtain ⟨out', b', bad', h1, h2⟩ := ih (i + 1) (out ++ [o']) rest' (by omega) (by rw [List.length_append, ho]; rfl) (fun p hp => by
        rcases List.mem_append.1 hp with hp | hp
        · exact hw p hp
        · rw [List.mem_singleton.1 hp]; exact hwo) hr (by omega)
      refine ⟨out', b', bad', by rw [hp, ← h1, show 129 - (i + 1) = 128 - i from by omega], hstep (ev_call5 hone (fun t t1 t2 t3 t4 t5 => ?_))⟩
      rw [t1, t2, t3, t4, t5]
      exact ev_pos rfl (ev_pos (by omega) h2)
    | false =>
      obtain ⟨out', b', bad', h1, h2⟩ := parse_up (128 - i) m (out ++ [o]) rest bad hr (by omega) (by omega)
      refine ⟨out', b', bad', by rw [hp]; exact h1, hstep (ev_call5 hone (fun t t1 t2 t3 t4 t5 => ?_))⟩
      rw [t5]
      have e : (if bad' = true then (([] : List OpS), (40 : Int)) else if 0 < b'.length then ([], 40) else if FewI out' 128 then (out', 0) else ([], 40)) = ([], 40) := by
        cases bad' with
        | true => exact if_pos rfl
        | false =>
          rw [if_neg (by decide)]
          split
          · rfl
          · refine if_neg (fun hfew => ?_)
            obtain ⟨q1, ops, q2, _⟩ := h2 rfl
            rcases hno rfl with hx | hx
            · rw [q1] at hx; cases hx
            · have := (op_sizes (hfew.2.2 o (by rw [q2]; simp))).2.2.1
              omega
      rw [e]
      exact ev_neg (by decide) (ev_some _)
theorem rparse_f (l : List Int) (hb : By l) (hl : l.length + 100 < 140737488355328) : ∃ r : List OpS × Int, batch_Parse.f l = some r ∧ Ev (fun k => ratlineref04_Parse.f k l) r := by
  unfold ratlineref04_Parse.f
  rcases take_cases l hb (by omega) with ⟨x, rest, hx, he, hf⟩ | ⟨hf, _⟩
  · have hr : By rest := By.right (he ▸ hb)
    have hrl : rest.length ≤ l.length := by rw [he, List.length_append]; omega
    have hrt : Ev (fun k => ratlineref02_Take.f k l) ((x : Int), rest, true) := ev_of 51 (fun k => by rw [rtake_f hb (by omega) (by omega), hf])
    by_cases h128 : (x : Int) > 128
    · refine ⟨([], 40), ?_, ev_call3 hrt (fun t t1 t2 t3 => ?_)⟩
      · rcases parse_cases l hb (by omega) with ⟨ops, h1, h2, e, _⟩ | ⟨h, _⟩
        · exfalso
          rw [he, formG] at e
          have := h1.2.1
          have := (vint_append_inj hx (by omega) e).1
          omega
        · exact h
      · rw [t1, t2, t3, decide_eq_true h128]
        exact ev_pos rfl (ev_step (fun k => by rw [ratlineref04_Parse.j0]) (ev_pos rfl (ev_some _)))
    · obtain ⟨out', b', bad', h1, h2⟩ := rparse_loop x (by omega) x 0 [] rest (by omega) rfl (fun o ho => by cases ho) hr (by omega)
      refine ⟨if bad' = true then ([], 40) else if 0 < b'.length then ([], 40) else if FewI out' 128 then (out', 0) else ([], 40), ?_, ev_call3 hrt (fun t t1 t2 t3 => ?_)⟩
      rotate_left
      · rw [t1, t2, t3, decide_eq_false h128]
        refine ev_pos rfl ?_
        refine ev_step (fun k => by rw [ratlineref04_Parse.j0]) ?_
        exact ev_neg (show ¬ false = true by decide) h2
      · unfold batch_Parse.f
        rw [hf, Option.bind_some]
        show (parseL 129 (x : Int) [] rest false).bind _ = _
        rw [show (129 : Nat) = 129 - 0 from rfl, h1, Option.bind_some]
        cases bad' with
        | true => rfl
        | false =>
          rw [if_neg (show ¬ false = true by decide), if_neg (show ¬ false = true by decide)]
          by_cases hb' : 0 < b'.length
          · rw [if_pos hb', if_pos hb']
          · rw [if_neg hb', if_neg hb', bfew_f, Option.bind_some]
            by_cases hfew : FewI out' 128
            · rw [if_pos hfew, decide_eq_true hfew, if_pos rfl]
            · rw [if_neg hfew, decide_eq_false hfew, if_neg (by decide)]
  · have hrt : Ev (fun k => ratlineref02_Take.f k l) ((0 : Int), [], false) := ev_of 51 (fun k => by rw [rtake_f hb (by omega) (by omega), hf])
    refine ⟨([], 40), ?_, ev_call3 hrt (fun t t1 t2 t3 => ?_)⟩
    · unfold batch_Parse.f
      rw [hf, Option.bind_some]
      show (parseL 129 0 [] [] true).bind _ = _
      rw [show parseL 129 0 [] [] true = some ([], [], true) from rfl, Option.bind_some]
      exact if_pos rfl
    · rw [t1, t2, t3]
      exact ev_neg (by decide) (ev_step (fun k => by rw [ratlineref04_Parse.j0]) (ev_pos rfl (ev_some _)))
end Go.Proofs.YtlaihdipagejfaaL

end

section
set_option linter.unusedVariables false
namespace Go.Proofs.Ytlaihdipagejfaa.Pure
open Go Go.RowKit Go.Proofs.Ytlaihdipagejfaa.P Go.Proofs.YtlaihdipagejfaaG Go.Proofs.YtlaihdipagejfaaL Go.Proofs.YtlaihdipagejfaaW.PrintWords Go.Proofs.YtlaihdipagejfaaW.PrintMore Go.Proofs.YtlaihdipagejfaaW.PrintLast

theorem tells_l0 {l : List OpS} {raw : List Int} {q : Int} (hw : ∀ o ∈ l, WfO o) (hl : l.length ≤ 140) (hr : By raw) (hrl : raw.length ≤ 600) :
    ∀ (m j : Nat), j + m = l.length → Ev (fun k => ratlinelaw04_BatchTells.l0 k l raw q l (l.length : Int) (j : Int)) true := by
  intro m
  induction m with
  | zero =>
    intro j hj
    obtain rfl : j = l.length := by omega
    refine ev_step (fun k => by rw [ratlinelaw04_BatchTells.l0, if_neg (Int.lt_irrefl _)]) ?_
    obtain ⟨p, hp, hrp⟩ := rparse_f raw hr (by omega)
    have hby : ∀ r : List Int × Int, r = (if FewI l 128 then (formG l, 0) else ([], 40)) → By r.1 := fun r e => by
      subst e
      split
      · exact formG_by hw
      · exact .nil
    have hlen : p.1.length < 9223372036854775800 := by
      rcases parse_cases raw hr (by omega) with ⟨ops, h1, _, _, hf⟩ | ⟨hf, _⟩
      · rw [hp] at hf
        obtain rfl := Option.some.inj hf
        have := h1.2.1
        show ops.length < _
        omega
      · rw [hp] at hf
        obtain rfl := Option.some.inj hf
        decide
    generalize hb : (if FewI l 128 then (formG l, (0 : Int)) else ([], 40)) = b at *
    have h1 := bytes_f l
    have h2 := rbytes_f l hw (by omega)
    rw [hb] at h1 h2
    have hbb := hby b rfl
    obtain ⟨b1, b2⟩ := b
    obtain ⟨p1, p2⟩ := p
    refine ev_call2 h1 (fun t t1 t2 => ev_call2 h2 (fun u u1 u2 => ev_bind2 hp (fun v v1 v2 => ev_call2 hrp (fun w w1 w2 => ?_))))
    rw [t1, t2, u1, u2, v1, v2, w1, w2]
    refine ev_bind (a := decide (FewI l 32)) (by unfold batch_Right.f; rw [bfew_f]; rfl) (ev_call (a := decide (FewI l 32)) (by unfold ratlineref04_Right.f; exact ev_call (rfew_f l 32 hw (by omega)) (ev_some _)) ?_)
    refine ev_pos (beq_self_eq_true _) (ev_bind (same_f hbb hbb) (ev_pos (decide_eq_true rfl) (ev_pos rfl ?_)))
    refine ev_call (osame_f p1 p1 hlen) (ev_pos (decide_eq_true rfl) (ev_pos rfl ?_))
    refine ev_call (entries_f l q (by omega)) (ev_call (rentries_f l q (by omega)) ?_)
    exact ev_call (esame_f _ _ (by rw [entL_length]; omega)) (ev_pos (decide_eq_true rfl) awake04')
  | succ m ih =>
    intro j hj
    have hlt : j < l.length := by omega
    refine ev_step (fun k => by rw [ratlinelaw04_BatchTells.l0, if_pos (by omega), if_pos (by omega), if_pos (by omega), rd_op l hlt, up1 (by omega)]) ?_
    refine ev_bind (op_f l[j]) (ev_bind (rop_f l[j] (hw _ (List.getElem_mem hlt))) (ev_neg (by simp) ?_))
    exact ih (j + 1) (by omega)
theorem BatchTells (l : List OpS) (_ : l.length ≤ maxLen) (hl : l.length * 40 ≤ 140737488351232) (hw : ∀ o ∈ l, (Lit.int .u8 o.f0).wf = true ∧ o.f1.size ≤ maxLen ∧ o.f2.size ≤ maxLen)
    (raw : List Int) (_ : raw.length ≤ maxLen) (_ : raw.length * 1 ≤ 140737488351232) (hr : ∀ c ∈ raw, (Lit.int .u8 c).wf = true) (q : Int) (_ : (Lit.int .u64 q).wf = true) :
    ∃ k, ratlinelaw04_BatchTells.f k l raw q = some true := by
  refine Ev.rounds ?_
  have hj : Ev (fun k => ratlinelaw04_BatchTells.j0 k l raw q true) true := ev_step (fun k => by rw [ratlinelaw04_BatchTells.j0]) (ev_pos rfl awake04')
  unfold ratlinelaw04_BatchTells.f
  refine ev_call (ofew_f l 140 (by omega)) ?_
  by_cases h1 : (decide (∀ e ∈ l, ShortO e) && decide ((l.length : Int) ≤ 140)) = true
  · refine ev_pos h1 ?_
    by_cases h3 : (raw.length : Int) > 600
    · rw [decide_eq_true h3]; exact hj
    · rw [decide_eq_false h3]
      rw [Bool.and_eq_true, decide_eq_true_eq, decide_eq_true_eq] at h1
      refine ev_step (fun k => by rw [ratlinelaw04_BatchTells.j0]) (ev_neg (by decide) ?_)
      exact tells_l0 (wfL_of hw) (by omega) (By.of_wf hr) (by omega) l.length 0 (by omega)
  · exact ev_neg h1 hj
end Go.Proofs.Ytlaihdipagejfaa.Pure

end

section
set_option linter.unusedVariables false
namespace Go.Proofs.YtlaihdipagejfaaG
open Go Go.RowKit Go.Proofs.YtlaihdipagejfaaW.PrintWords

/-- What is trodden of this type is of this kind, and is right. -/
def Opens {α : Type} (P : Program) (t : TypeId) (d : Kd α) (wf : α → Prop) : Prop :=
  ∀ (H : Type) (enc : TypeId × Value → H) (w : World) (base : Nat) (sp : Nat → Bool) (held : Bool) (fuel : Nat) (cs : List Value) (x : DataW H × List MemPlace),
    DataW.trod enc P w base sp held fuel t cs = some x → ∃ a, d.K w a cs ∧ wf a
section
variable {P : Program} {t e : TypeId}
theorem opens_int {k : IntKind} (ht : P.underlying t = some (.int k)) : Opens P t (Kd.int k) (fun n => (Lit.int k n).wf = true) := by
  intro H enc w base sp held fuel cs x h
  obtain ⟨n, rfl, _, hw⟩ := DataW.trod_int ht h
  exact ⟨n, rfl, hw⟩
theorem opens_string (ht : P.underlying t = some .string) : Opens P t Kd.string (fun s => s.size ≤ maxLen) := by
  intro H enc w base sp held fuel cs x h
  obtain ⟨n, rfl, _, hm⟩ := DataW.trod_string ht h
  exact ⟨n, rfl, hm⟩
theorem build {α : Type} {Q : Nat → α → Prop} : ∀ n : Nat, (∀ i, i < n → ∃ a, Q i a) → ∃ l : List α, l.length = n ∧ ∀ i a, l[i]? = some a → Q i a := by
  intro n
  induction n with
  | zero => intro _; exact ⟨[], rfl, fun i a h => by simp at h⟩
  | succ n ih =>
    intro h
    obtain ⟨l, hl, hq⟩ := ih (fun i hi => h i (by omega))
    obtain ⟨a, ha⟩ := h n (by omega)
    refine ⟨l ++ [a], by simp [hl], fun i b hb => ?_⟩
    by_cases hi : i < n
    · rw [List.getElem?_append_left (by omega)] at hb
      exact hq i b hb
    · rw [List.getElem?_append_right (by omega)] at hb
      by_cases hin : i = n
      · subst hin
        rw [hl, Nat.sub_self] at hb
        simp at hb
        exact hb ▸ ha
      · rw [List.getElem?_eq_none (by simp; omega)] at hb
        cases hb
theorem opens_row {α : Type} {d : Kd α} {wf : α → Prop} (hc : P.cellsOf e = d.sz) (ht : P.underlying t = some (.slice e)) (he : Opens P e d wf)
    {H : Type} {enc : TypeId × Value → H} {w : World} {base : Nat} {sp : Nat → Bool} {held : Bool} {fuel : Nat} {cs : List Value} {x : DataW H × List MemPlace} (h : DataW.trod enc P w base sp held fuel t cs = some x) :
    ∃ (A : Option Addr) (c : Nat) (xs : List α), cs = [.slice A xs.length c] ∧ xs.length ≤ c ∧ c ≤ maxLen ∧ d.C w A xs.length xs ∧ ∀ a ∈ xs, wf a := by
  rcases DataW.trod_slice ht h with ⟨rfl, _⟩ | ⟨ad, len, cap, elems, rest, n, _, rfl, _, hb, hl, hm, hn, hel, _, _⟩
  · exact ⟨none, 0, [], rfl, Nat.le_refl _, by decide, Kd.C_nil d w, fun a ha => by cases ha⟩
  · obtain ⟨xs, hxl, hx⟩ := build (Q := fun i a => wf a ∧ ∃ c, c.length = d.sz ∧ d.K w a c ∧ ∀ j u, c[j]? = some u → w.cell? (ad.add (i * d.sz + j)) = some u) len (fun i hi => by
      have h1 := hel i hi
      rw [List.getElem?_eq_getElem (by omega)] at h1
      obtain ⟨cs', hcs, htr⟩ := Option.bind_eq_some_iff.1 h1
      obtain ⟨a, ha, hw⟩ := he H enc w base sp held n cs' _ htr
      have hlen := d.K_len ha
      obtain ⟨_, hlen2, hcell⟩ := World.cells?_some hcs
      refine ⟨a, hw, cs', hlen, ha, fun j u hj => ?_⟩
      have hjl : j < cs'.length := by
        by_cases hjl : j < cs'.length
        · exact hjl
        · rw [List.getElem?_eq_none (by omega)] at hj; cases hj
      have h2 := hcell j (by omega)
      rw [hc] at h2
      have hadd : (ad.add (i * d.sz)).add j = ad.add (i * d.sz + j) := Addr.add_add ad _ _
      rw [← hadd, h2, hj])
    have hmax : maxLen ≤ 9223372036854775807 := by decide
    refine ⟨some ad, cap, xs, by rw [hxl], by omega, hm, ⟨rfl, by omega, fun _ => ⟨ad, rfl, fun j p hp => (hx j p hp).2⟩⟩, fun a ha => ?_⟩
    obtain ⟨i, hi⟩ := List.mem_iff_getElem?.1 ha
    exact (hx i a hi).1
theorem Opens.iso {α β : Type} {d : Kd α} {wf : α → Prop} (h : Opens P t d wf) (f : β → α) (g : α → β) (hfg : ∀ a, f (g a) = a) : Opens P t (Kd.iso d f) (fun b => wf (f b)) := by
  intro H enc w base sp held fuel cs x htr
  obtain ⟨a, ha, hw⟩ := h H enc w base sp held fuel cs x htr
  exact ⟨g a, by show d.K w (f (g a)) cs; rw [hfg]; exact ha, by show wf (f (g a)); rw [hfg]; exact hw⟩
end

/-- A field of a struct. -/
theorem opens_field {α : Type} {P : Program} {t e : TypeId} {fs : Array Field} {d : Kd α} {wf : α → Prop} {off i : Nat} {f : Field} (ht : P.underlying t = some (.struct fs)) (hi : fs[i]? = some f) (hft : f.type = e) (hfo : f.offset = off) (hc : P.cellsOf e = d.sz) (he : Opens P e d wf)
    {H : Type} {enc : TypeId × Value → H} {w : World} {base : Nat} {sp : Nat → Bool} {held : Bool} {fuel : Nat} {cs : List Value} {x : DataW H × List MemPlace} (h : DataW.trod enc P w base sp held fuel t cs = some x) :
    ∃ a, d.K w a ((cs.drop off).take d.sz) ∧ wf a := by
  obtain ⟨xs, n, _, _, _, hn, hf⟩ := DataW.trod_struct ht h
  have h1 := hf i f hi
  have hil : i < xs.length := by
    rw [hn]
    exact (Array.getElem?_eq_some_iff.1 hi).1
  rw [List.getElem?_eq_getElem hil, hft, hfo, hc] at h1
  exact he H enc w base sp held n _ _ h1
theorem opens_cells {P : Program} {t : TypeId} {fs : Array Field} (ht : P.underlying t = some (.struct fs)) {H : Type} {enc : TypeId × Value → H} {w : World} {base : Nat} {sp : Nat → Bool} {held : Bool} {fuel : Nat} {cs : List Value} {x : DataW H × List MemPlace} (h : DataW.trod enc P w base sp held fuel t cs = some x) :
    cs.length = P.cellsOf t := by
  obtain ⟨xs, n, _, _, hl, _⟩ := DataW.trod_struct ht h
  exact hl
theorem opens_struct3 {α β γ : Type} {P : Program} {t ta tb tc : TypeId} {fs : Array Field} {a : Kd α} {b : Kd β} {c : Kd γ} {wa : α → Prop} {wb : β → Prop} {wc : γ → Prop} (ht : P.underlying t = some (.struct fs)) (hc : P.cellsOf t = a.sz + (b.sz + c.sz))
    (f0 : (fs[0]?).map (fun f => (f.type, f.offset)) = some (ta, 0)) (f1 : (fs[1]?).map (fun f => (f.type, f.offset)) = some (tb, a.sz)) (f2 : (fs[2]?).map (fun f => (f.type, f.offset)) = some (tc, a.sz + b.sz)) (ca : P.cellsOf ta = a.sz) (cb : P.cellsOf tb = b.sz) (cc : P.cellsOf tc = c.sz) (oa : Opens P ta a wa) (ob : Opens P tb b wb) (oc : Opens P tc c wc) :
    Opens P t (Kd.pair a (Kd.pair b c)) (fun x => wa x.1 ∧ wb x.2.1 ∧ wc x.2.2) := by
  intro H enc w base sp held fuel cs x h
  obtain ⟨g0, e0, q0⟩ := Option.map_eq_some_iff.1 f0
  obtain ⟨g1, e1, q1⟩ := Option.map_eq_some_iff.1 f1
  obtain ⟨g2, e2, q2⟩ := Option.map_eq_some_iff.1 f2
  simp only [Prod.mk.injEq] at q0 q1 q2
  obtain ⟨x0, k0, w0⟩ := opens_field ht e0 q0.1 q0.2 ca oa h
  obtain ⟨x1, k1, w1⟩ := opens_field ht e1 q1.1 q1.2 cb ob h
  obtain ⟨x2, k2, w2⟩ := opens_field ht e2 q2.1 q2.2 cc oc h
  have hl := opens_cells ht h
  have hsp : (cs.drop (a.sz + b.sz)).take c.sz = (cs.drop a.sz).drop b.sz := by rw [List.take_of_length_le (by rw [List.length_drop]; omega), List.drop_drop]
  rw [List.drop_zero] at k0
  rw [hsp] at k2
  exact ⟨(x0, x1, x2), ⟨cs.take a.sz, cs.drop a.sz, (List.take_append_drop _ _).symm, k0, _, _, (List.take_append_drop b.sz _).symm, k1, k2⟩, w0, w1, w2⟩
/-- A row's slice is no longer than its weight allows. -/
theorem sized_row {H : Type} {enc : TypeId × Value → H} {P : Program} {W : World} {base : Nat} {spare : Nat → Bool} {held : Bool} {t e : TypeId} {a : Option Addr} {len cap : Nat} {d : DataW H} {ps : List MemPlace} {ts : List TypeId} {ds : List (DataW H)} {j : Nat}
    (hsz : (DataW.weightsEach P ts ds).all (· ≤ reachBytes) = true) (ht : ts[j]? = some t) (hd : ds[j]? = some d) (hu : P.underlying t = some (.slice e)) (B : Nat) (hB : P.bytesOf e = B)
    (h : DataW.Trod enc P W base spare held t (.slice a len cap) d ps) : len * B ≤ 140737488351232 := by
  obtain ⟨fuel, hf⟩ := h
  rcases DataW.trod_slice hu hf with ⟨hcs, _⟩ | ⟨ad, l, c, elems, rest, n, _, hcs, hx, _, _, _, hn, _⟩
  · simp only [Value.cells, List.cons.injEq, Value.slice.injEq, and_true] at hcs
    obtain ⟨rfl, rfl, rfl⟩ := hcs
    rw [Nat.zero_mul]; omega
  · simp only [Value.cells, List.cons.injEq, Value.slice.injEq, and_true] at hcs
    obtain ⟨rfl, rfl, rfl⟩ := hcs
    obtain ⟨hx, _⟩ := Prod.mk.inj hx
    subst hx
    have z := sized_slice hsz ht hd hu
    rw [hB, List.length_map, List.length_map] at z
    exact Nat.le_trans (Nat.mul_le_mul_right _ (by omega)) z
end Go.Proofs.YtlaihdipagejfaaG

end

section
set_option linter.unusedVariables false
namespace Go.Proofs.Ytlaihdipagejfaa.batchTells
open Go Go.ChangeShapes Go.WideShapes Go.ChangeAt Go.RowKit Go.Proofs.YtlaihdipagejfaaG Go.Proofs.Ytlaihdipagejfaa.P Go.Proofs.YtlaihdipagejfaaW.PrintWords
open Go.ChangeMaps (open_string shut_string)
theorem own : ownKnob Try.prog.godebug = none := by kernel_rfl
theorem laidOut : laidOutB Try.prog = true := by kernel_rfl
set_option maxRecDepth 100000 in
theorem lifted (os : Os) (started : os.Started) (H : Type) (enc : TypeId × Value → H) :
    ReturnsInHanded {} Try.checked os 6 .any (Rows.batchTellsSpec.pre6 enc Try.prog Try.f6 Rows.batchTellsRow.domain false) (Rows.batchTellsSpec.post enc Try.prog Try.f6 false true false false) := by
  refine returnsInHanded_of_change_sized (C := Try.checked) own started (by kernel_rfl) Try.func6
    (ChangeSpec.witness6 (enc := enc) (C := Try.checked) false ⟨#[], #[.slice none 0 0, .slice none 0 0, .int .u64 0], []⟩ 8 (by kernel_rfl) (by kernel_rfl) (by kernel_rfl) (by kernel_rfl)) ?_
  intro W base args ds gs before hval0 hW hcnd hsz0 _
  have hsz : (DataW.weightsEach Try.prog (Try.f6.params.toList ++ Rows.batchTellsSpec.plain.varTypes Try.prog) (ds ++ gs)).all (· ≤ reachBytes) = true := hsz0
  have hval : ∀ (j : Nat) t v, Try.f6.params[j]? = some t → args[j]? = some v → Value.okWide Try.prog W .any base t v := hval0
  have hW' := hW
  obtain ⟨p, q, hA0, hV, rfl, hfz, hnd⟩ := hW
  have hA : DataW.TrodAll enc Try.prog W 0 (fun _ => true) true Try.f6.params.toList args.toList ds p := hA0
  rw [Try.params6] at hA hval hsz
  obtain ⟨v0, vs0, d0, ds0, p0, q0, hargs, rfl, rfl, h0, r0⟩ := trodAll_cons hA
  obtain ⟨v1, vs1, d1, ds1, p1, q1, rfl, rfl, rfl, h1, r1⟩ := trodAll_cons r0
  obtain ⟨v2, vs2, d2, ds2, p2, q2, rfl, rfl, rfl, h2, r2⟩ := trodAll_cons r1
  obtain ⟨rfl, rfl, rfl⟩ := trodAll_nil r2
  obtain rfl : args = #[v0, v1, v2] := by cases args; simp_all
  obtain ⟨rfl, rfl⟩ := trodVars_none hV
  obtain ⟨a0, len0, cap0, rfl⟩ := okWide_slice Try.underlying22 (hval 0 22 v0 rfl rfl)
  have k0 := h0
  have y0 := sized_row hsz (j := 0) (t := 22) rfl rfl Try.underlying22 40 (by kernel_rfl) h0
  have lt0 : ∀ x ∈ p0, x.block < W.heap.size := by obtain ⟨m, hm⟩ := k0; exact DataW.trod_lt m _ _ _ hm
  obtain ⟨fuel0, hf0⟩ := h0
  obtain ⟨A0, c0, l0, hcs0, hl0, hm0, hC0, hw0⟩ := opens_row (by kernel_rfl) Try.underlying22 (show Opens Try.prog 43 k43 _ from Opens.iso (opens_struct3 (ta := 5) (tb := 9) (tc := 9) Try.underlying43 (by kernel_rfl) (by kernel_rfl) (by kernel_rfl) (by kernel_rfl) (by kernel_rfl) (by kernel_rfl) (by kernel_rfl) (opens_int Try.underlying5) (opens_string Try.underlying9) (opens_string Try.underlying9)) (fun x : S43 => (x.f0, x.f1, x.f2)) (fun q => ⟨q.1, q.2.1, q.2.2⟩) (fun _ => rfl)) hf0
  simp only [Value.cells, List.cons.injEq, Value.slice.injEq, and_true] at hcs0
  obtain ⟨rfl, rfl, rfl⟩ := hcs0
  obtain ⟨a1, len1, cap1, rfl⟩ := okWide_slice Try.underlying23 (hval 1 23 v1 rfl rfl)
  have k1 := h1
  have y1 := sized_row hsz (j := 1) (t := 23) rfl rfl Try.underlying23 1 (by kernel_rfl) h1
  have lt1 : ∀ x ∈ p1, x.block < W.heap.size := by obtain ⟨m, hm⟩ := k1; exact DataW.trod_lt m _ _ _ hm
  obtain ⟨fuel1, hf1⟩ := h1
  obtain ⟨A1, c1, l1, hcs1, hl1, hm1, hC1, hw1⟩ := opens_row (by kernel_rfl) Try.underlying23 (opens_int Try.underlying5) hf1
  simp only [Value.cells, List.cons.injEq, Value.slice.injEq, and_true] at hcs1
  obtain ⟨rfl, rfl, rfl⟩ := hcs1
  obtain ⟨a2, rfl, rfl, rfl, w2⟩ := open_int Try.underlying35 (hval 2 35 v2 rfl rfl) h2
  obtain ⟨k, h⟩ := Pure.BatchTells l0 (Nat.le_trans hl0 hm0) y0 hw0 l1 (Nat.le_trans hl1 hm1) y1 hw1 a2 w2
  clear hA0 hval0 hsz0 hsz
  refine (P.ratlinelaw04_BatchTells.calls k _ _ l0 _ _ l1 a2 true W hC0 hl0 hC1 hl1 h).mono fun e W' ⟨he, bel⟩ => ?_
  subst he
  exact ⟨_, rfl, _, _, _, [], _, [], hW', trodAll_mk1 (shut_bool Try.underlying4 _), (trodAll_cons_mk (Below.trod laidOut (by kernel_rfl) (of_decide_eq_true (by kernel_rfl)) k0 bel lt0) (trodAll_cons_mk (Below.trod laidOut (by kernel_rfl) (of_decide_eq_true (by kernel_rfl)) k1 bel lt1) (trodAll_cons_mk (shut_int Try.underlying35 w2) trodAll_mk0))), rfl, bel.frame _, fun h => by cases h⟩
theorem over : Rows.batchTellsRow.holds Try.pinned (OpenSpec.ofChange Rows.batchTellsSpec) :=
  OpenClaim.holds_of_wide 6 Try.f6 rfl rfl rfl rfl rfl rfl rfl ⟨rfl, rfl, rfl, rfl, rfl⟩ rfl rfl rfl rfl rfl (by kernel_rfl) Try.func6 (by kernel_rfl)
    (of_decide_eq_true (by kernel_rfl)) (by unfold Func.isWrapper; first | (rw [if_pos (by decide +kernel)]; kernel_rfl) | (rw [if_neg (by decide +kernel)]; exact ⟨rfl, rfl⟩))
    (fun os started H enc _ => lifted os started H enc)
theorem proved : Rows.BatchTellsSaid := over
#print axioms proved
end Go.Proofs.Ytlaihdipagejfaa.batchTells
namespace Go.Proofs.Ytlaihdipagejfaa
/-- The row, under a short name, for the claim. -/
theorem batchTells_holds : Rows.BatchTellsSaid := batchTells.proved
end Go.Proofs.Ytlaihdipagejfaa

end
