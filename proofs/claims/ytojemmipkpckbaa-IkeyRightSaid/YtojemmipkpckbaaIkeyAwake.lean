/- The examples of layer 3 are true. No conditions. Written for this claim. -/
import Derived.Test.YtojemmipkpckbaaPx14
import Derived.Test.YtojemmipkpckbaaIkeySpec
set_option linter.unusedVariables false
namespace Go.Proofs.YtojemmipkpckbaaL
open Go Go.RowKit Go.Proofs.YtojemmipkpckbaaG Go.Proofs.Ytojemmipkpckbaa.P Go.Proofs.YtojemmipkpckbaaW.PrintWords Go.Proofs.YtojemmipkpckbaaW.PrintMore

theorem bindP {α β γ δ : Type} {o : Option (α × β × γ)} {x : α × β × γ} {f : α × β × γ → Option δ} {r : Option δ} (h : o = some x) (k : f x = r) : o.bind f = r := by
  rw [h]
  exact k
theorem bind5 {α β γ δ ε ζ : Type} {o : Option (α × β × γ × δ × ε)} {a : α} {b : β} {c : γ} {d : δ} {e : ε} {f : α × β × γ × δ × ε → Option ζ} {r : Option ζ} (h : o = some (a, b, c, d, e)) (k : ∀ t, t.1 = a → t.2.1 = b → t.2.2.1 = c → t.2.2.2.1 = d → t.2.2.2.2 = e → f t = r) : o.bind f = r := by
  rw [h]
  exact k _ rfl rfl rfl rfl rfl
theorem one_f (s : ByteArray) (q d : Int) : ratlinelaw03_one.f s q d = some (s, q, d) := rfl
def ka (q d : Int) : Ik := ⟨⟨#[97]⟩, q, d⟩
theorem ka_form (q : Nat) (hq : q < 50) (d : Nat) (hd : d ≤ 1) : formI (ka q d) = [1, 97, ((d + q * 2 : Nat) : Int)] := by
  show vint 1 ++ (bytesOf ⟨#[97]⟩ ++ vint ((d : Int).toNat + (q : Int).toNat * 2)) = _
  rw [Int.toNat_natCast, Int.toNat_natCast, vint_small (by omega), vint_small (by omega)]
  rfl
theorem ka_wf (q : Nat) (hq : q < 50) (d : Nat) (hd : d ≤ 1) : Wf (ka q d) := ⟨by show (0 : Int) ≤ (q : Int); omega, by show (q : Int) < _; omega, by show (0 : Int) ≤ (d : Int); omega, by show (d : Int) < _; omega⟩
theorem ka_right (q : Nat) (hq : q < 50) (d : Nat) (hd : d ≤ 1) : RightI (ka q d) := ⟨by show 1 ≤ 1; omega, by show 1 ≤ 64; omega, by show (q : Int) ≤ _; omega, by show (d : Int) ≤ _; omega⟩
theorem awake03 (k : Nat) : ratlinelaw03_awake.f (k + 4) = some true := by
  have h7 : By [7] := .cons (by omega) (by omega) .nil
  have b3 : ∀ z : Int, 0 ≤ z → z < 256 → By [1, 97, z] := fun z h h2 => .cons (by omega) (by omega) (.cons (by omega) (by omega) (.cons h h2 .nil))
  have t1 : ikey_Take.f [1, 97, 11, 7] = some (⟨#[97]⟩, 5, 1, [7], true) := by
    have := takeI_form (x := ka (5 : Nat) (1 : Nat)) (ka_wf 5 (by omega) 1 (by omega)) (ka_right 5 (by omega) 1 (by omega)) h7 (by decide)
    rw [ka_form 5 (by omega) 1 (by omega)] at this
    exact this
  have t2 : ∃ a b c d, ikey_Take.f [0, 11] = some (a, b, c, d, false) := by
    rcases takeI_cases [0, 11] (.cons (by omega) (by omega) (.cons (by omega) (by omega) .nil)) (by decide) with ⟨x, rest, hw, hr, he, _⟩ | ⟨hf, _⟩
    · exfalso
      obtain ⟨r1, r2, _, _⟩ := hr
      rw [formI, vint_small (by omega)] at he
      simp only [List.cons_append, List.cons.injEq] at he
      omega
    · exact ⟨_, _, _, _, hf⟩
  obtain ⟨a', b', c', d', t2⟩ := t2
  have p1 : ikey_Put.f [] ⟨#[97]⟩ 5 1 = some [1, 97, 11] := by
    have := put_yes (x := ka (5 : Nat) (1 : Nat)) (ka_wf 5 (by omega) 1 (by omega)) (ka_right 5 (by omega) 1 (by omega)) (l := []) (by decide)
    rw [ka_form 5 (by omega) 1 (by omega)] at this
    exact this
  have p0 : ikey_Put.f [] ⟨#[97]⟩ 5 0 = some [1, 97, 10] := by
    have := put_yes (x := ka (5 : Nat) (0 : Nat)) (ka_wf 5 (by omega) 0 (by omega)) (ka_right 5 (by omega) 0 (by omega)) (l := []) (by decide)
    rw [ka_form 5 (by omega) 0 (by omega)] at this
    exact this
  have c1 : ikey_Compare.f (k + 4) ⟨#[97]⟩ 5 1 ⟨#[97]⟩ 4 1 = some (-1) := (compare_f k (ka 5 1) (ka 4 1)).trans (by decide +kernel)
  have c2 : ikey_Compare.f (k + 4) ⟨#[97]⟩ 5 1 ⟨#[97]⟩ 5 0 = some (-1) := (compare_f k (ka 5 1) (ka 5 0)).trans (by decide +kernel)
  have c3 : ikey_Compare.f (k + 4) ⟨#[97]⟩ 5 1 ⟨#[97, 98]⟩ 9 1 = some (-1) := (compare_f k (ka 5 1) ⟨⟨#[97, 98]⟩, 9, 1⟩).trans (by decide +kernel)
  have c4 : ikey_Compare.f (k + 4) ⟨#[97]⟩ 5 1 ⟨#[97]⟩ 6 0 = some 1 := (compare_f k (ka 5 1) (ka 6 0)).trans (by decide +kernel)
  have e1 : ikey_Entry.f ⟨#[97]⟩ 5 0 ⟨#[120]⟩ = some false := (entry_f (ka 5 0) ⟨#[120]⟩).trans (by decide +kernel)
  unfold ratlinelaw03_awake.f
  refine bind3 (one_f _ _ _) (fun t x1 x2 x3 => ?_)
  refine bind5 t1 (fun u u1 u2 u3 u4 u5 => ?_)
  refine bind5 t2 (fun v v1 v2 v3 v4 v5 => ?_)
  refine bind3 (one_f _ _ _) (fun s y1 y2 y3 => ?_)
  rw [x1, x2, x3, y1, y2, y3]
  refine bind1 c1 ?_
  rw [if_pos rfl]
  refine bind3 (one_f _ _ _) (fun s y1 y2 y3 => ?_)
  rw [y1, y2, y3]
  refine bind1 c2 ?_
  rw [if_pos rfl]
  refine bind3 (one_f _ _ _) (fun s y1 y2 y3 => ?_)
  rw [y1, y2, y3]
  refine bind1 c3 ?_
  rw [if_pos rfl]
  refine bind3 (one_f _ _ _) (fun s y1 y2 y3 => ?_)
  rw [y1, y2, y3]
  refine bind1 c4 ?_
  rw [if_pos rfl]
  refine bind3 (show ikey_Sought.f ⟨#[97]⟩ 5 = some (⟨#[97]⟩, 5, 1) from rfl) (fun s y1 y2 y3 => ?_)
  rw [y1, y2, y3, if_pos (by simp)]
  refine bind1 p1 ?_
  refine bind1 (same_f (b3 11 (by omega) (by omega)) (b3 11 (by omega) (by omega))) ?_
  rw [decide_eq_true rfl, if_pos rfl]
  refine bind3 (one_f _ _ _) (fun s y1 y2 y3 => ?_)
  rw [y1, y2, y3]
  refine bind1 p0 ?_
  refine bind1 (same_f (b3 10 (by omega) (by omega)) (b3 10 (by omega) (by omega))) ?_
  rw [decide_eq_true rfl, if_pos rfl, u1, u2, u3, u4, u5, if_pos (by simp)]
  refine bind1 (same_f h7 h7) ?_
  rw [decide_eq_true rfl, if_pos rfl, if_pos rfl, v5, if_neg (by decide)]
  refine bind3 (one_f _ _ _) (fun s y1 y2 y3 => ?_)
  rw [y1, y2, y3]
  refine bind1 e1 ?_
  rfl
end Go.Proofs.YtojemmipkpckbaaL
