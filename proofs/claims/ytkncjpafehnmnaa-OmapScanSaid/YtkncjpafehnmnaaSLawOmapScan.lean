/- Proved here: the row of OmapScan, and what it needs. Conditions: those of each theorem. Written for this claim by programs; what the claim does not use is left out. -/
import Derived.ChangeArms
import Derived.DataReads
import Derived.DataElems
import Derived.OpenShut
import Derived.SizedLaws
import Derived.Test.YtkncjpafehnmnaaRows
import Derived.WalkKit
import Derived.ProofKit
import Derived.ShutString
import Derived.ChangeOld
import Derived.Below
import Derived.Test.YtkncjpafehnmnaaSOmapScan3
section
set_option linter.unusedVariables false
set_option linter.unusedSimpArgs false
namespace Go.Proofs.YtkncjpafehnmnaaL
open Go Go.RowKit Go.Proofs.YtkncjpafehnmnaaG Go.Proofs.Ytkncjpafehnmnaa.P Go.Proofs.YtkncjpafehnmnaaW.PrintWords Go.Proofs.YtkncjpafehnmnaaW.PrintMore
theorem rd_pr (l : List MPr) {j : Nat} (h : j < l.length) : rd_T39 l (j : Int) = l[j] := getD_at h
def ShortP (e : MPr) : Prop := e.f0.size ≤ 70 ∧ e.f1.size ≤ 300
instance (e : MPr) : Decidable (ShortP e) := inferInstanceAs (Decidable (_ ∧ _))
theorem pfew_loop (l : List MPr) (most : Int) (hl : l.length < 9223372036854775800) :
    ∀ (m j : Nat), j + m = l.length → Ev (fun k => ratlinelaw12_few.l0 k l most l (l.length : Int) (j : Int)) (decide (∀ e ∈ l.drop j, ShortP e) && decide ((l.length : Int) ≤ most)) := by
  intro m
  induction m with
  | zero =>
    intro j hj
    obtain rfl : j = l.length := by omega
    refine ev_step (fun k => by rw [ratlinelaw12_few.l0, if_neg (Int.lt_irrefl _)]) ?_
    rw [List.drop_length]
    simpa using ev_some _
  | succ m ih =>
    intro j hj
    have hlt : j < l.length := by omega
    refine ev_step (fun k => by rw [ratlinelaw12_few.l0, if_pos (by omega), if_pos (by omega), if_pos (by omega), rd_pr l hlt, up1 (by omega)]) ?_
    rw [List.drop_eq_getElem_cons hlt]
    by_cases h1 : ((l[j].f0.size : Nat) : Int) > 70
    · refine ev_pos h1 ?_
      rw [decide_eq_false (fun h => by have := (h l[j] (List.mem_cons_self ..)).1; omega)]
      exact ev_some _
    · refine ev_neg h1 ?_
      by_cases h2 : ((l[j].f1.size : Nat) : Int) > 300
      · refine ev_pos h2 ?_
        rw [decide_eq_false (fun h => by have := (h l[j] (List.mem_cons_self ..)).2; omega)]
        exact ev_some _
      · refine ev_neg h2 ?_
        have e0 : (∀ e ∈ l[j] :: l.drop (j + 1), ShortP e) ↔ ∀ e ∈ l.drop (j + 1), ShortP e := ⟨fun h e he => h e (List.mem_cons_of_mem _ he), fun h e he => by
          rcases List.mem_cons.1 he with rfl | he
          · exact ⟨by omega, by omega⟩
          · exact h e he⟩
        rw [decide_eq_decide.2 e0]
        exact ih (j + 1) (by omega)
theorem pfew_f (l : List MPr) (most : Int) (hl : l.length < 9223372036854775800) : Ev (fun k => ratlinelaw12_few.f k l most) (decide (∀ e ∈ l, ShortP e) && decide ((l.length : Int) ≤ most)) := by
  have := pfew_loop l most hl l.length 0 (by omega)
  rwa [List.drop_zero] at this
theorem pairs_loop (l : List MPr) (hl : l.length < 1000000000) : ∀ (m j : Nat), j + m = l.length → Ev (fun k => ratlinelaw11_Pairs.l0 k l l (l.length : Int) (j : Int)) true := by
  intro m
  induction m with
  | zero =>
    intro j hj
    obtain rfl : j = l.length := by omega
    exact ev_step (fun k => by rw [ratlinelaw11_Pairs.l0, if_neg (Int.lt_irrefl _)]) (ev_some _)
  | succ m ih =>
    intro j hj
    refine ev_step (fun k => by rw [ratlinelaw11_Pairs.l0, if_pos (by omega), if_pos (by omega), if_pos (by omega), if_pos (by omega), up1 (by omega)]) ?_
    exact ev_neg (by simp) (ih (j + 1) (by omega))
theorem pairs_same (l : List MPr) (hl : l.length < 1000000000) : Ev (fun k => ratlinelaw11_Pairs.f k l l) true := by
  unfold ratlinelaw11_Pairs.f
  exact ev_pos rfl (pairs_loop l hl l.length 0 (by omega))
def PairK (p : MPr) : Prop := 1 ≤ p.f0.size ∧ p.f0.size ≤ 64 ∧ p.f1.size ≤ 256
instance (p : MPr) : Decidable (PairK p) := inferInstanceAs (Decidable (_ ∧ _))
def behind (prev : Option ByteArray) (p : MPr) : Bool := match prev with | none => true | some q => Op.bytesLess q.toList p.f0.toList
def rightB : Option ByteArray → List MPr → Bool
  | _, [] => true
  | prev, p :: r => decide (PairK p) && behind prev p && rightB (some p.f0) r
def RightM (m : List MPr) : Prop := (∀ p ∈ m, PairK p) ∧ oRise m
instance (m : List MPr) : Decidable (RightM m) := inferInstanceAs (Decidable (_ ∧ _))
theorem rightB_iff : ∀ (m : List MPr) (prev : Option ByteArray), rightB prev m = true ↔ (∀ p ∈ m, PairK p) ∧ oRise m ∧ (∀ q, prev = some q → ∀ p ∈ m, lt q p.f0)
  | [], prev => ⟨fun _ => ⟨by simp, List.Pairwise.nil, by simp⟩, fun _ => rfl⟩
  | p :: r, prev => by
    rw [rightB, Bool.and_eq_true, Bool.and_eq_true, decide_eq_true_eq, rightB_iff r (some p.f0)]
    constructor
    · rintro ⟨⟨h1, h2⟩, h3, h4, h5⟩
      have h6 := h5 p.f0 rfl
      refine ⟨fun x hx => ?_, List.pairwise_cons.2 ⟨h6, h4⟩, fun q hq x hx => ?_⟩
      · rcases List.mem_cons.1 hx with rfl | hx
        · exact h1
        · exact h3 x hx
      · subst hq
        have h7 : lt q p.f0 := h2
        rcases List.mem_cons.1 hx with rfl | hx
        · exact h7
        · exact lt_trans h7 (h6 x hx)
    · rintro ⟨h1, h2, h3⟩
      obtain ⟨h4, h5⟩ := List.pairwise_cons.1 h2
      refine ⟨⟨h1 p (by simp), ?_⟩, fun x hx => h1 x (by simp [hx]), h5, fun q hq x hx => ?_⟩
      · cases prev with
        | none => rfl
        | some q => exact h3 q rfl p (by simp)
      · injection hq with hq
        subst hq
        exact h4 x hx
theorem rightB_right (m : List MPr) : rightB none m = decide (RightM m) := by
  rw [Bool.eq_iff_iff, rightB_iff, decide_eq_true_eq]
  exact ⟨fun h => ⟨h.1, h.2.1⟩, fun h => ⟨h.1, h.2, by simp⟩⟩
def prevAt (l : List MPr) (j : Nat) : Option ByteArray := if j = 0 then none else (l[j - 1]?).map (·.f0)
theorem prevAt_succ {l : List MPr} {j : Nat} (h : j < l.length) : prevAt l (j + 1) = some l[j].f0 := by
  unfold prevAt
  rw [if_neg (by omega), Nat.add_sub_cancel, List.getElem?_eq_getElem h]
  rfl
theorem putK_f (p : MPr) : batch_Op.f 1 p.f0 p.f1 = some (decide (PairK p)) := by
  rw [opK_f ⟨1, p.f0, p.f1⟩]
  congr 1
  refine decide_eq_decide.2 ?_
  show (1 ≤ p.f0.size ∧ p.f0.size ≤ 64 ∧ (1 : Int) ≤ 1 ∧ (p.f1.size : Int) ≤ (if (1 : Int) = 0 then 0 else 256)) ↔ (1 ≤ p.f0.size ∧ p.f0.size ≤ 64 ∧ p.f1.size ≤ 256)
  rw [if_neg (by decide)]
  constructor
  · rintro ⟨a, b, c, d⟩; exact ⟨a, b, by omega⟩
  · rintro ⟨a, b, c⟩; exact ⟨a, b, by decide, by omega⟩
theorem oright_loop (l : List MPr) (hl : l.length < 9223372036854775800) :
    ∀ (m j : Nat), j + m = l.length → Ev (fun k => omap_Right.l0 k l l (l.length : Int) (j : Int)) (rightB (prevAt l j) (l.drop j)) := by
  intro m
  induction m with
  | zero =>
    intro j hj
    obtain rfl : j = l.length := by omega
    refine ev_step (fun k => by rw [omap_Right.l0, if_neg (Int.lt_irrefl _)]) ?_
    rw [List.drop_length]
    exact ev_some _
  | succ m ih =>
    intro j hj
    have hlt : j < l.length := by omega
    refine ev_step (fun k => by rw [omap_Right.l0, if_pos (by omega), if_pos (by omega), if_pos (by omega), rd_pr l hlt, up1 (by omega)]) ?_
    rw [List.drop_eq_getElem_cons hlt, rightB, ← prevAt_succ hlt]
    refine ev_bind (putK_f _) ?_
    by_cases h1 : PairK l[j]
    · refine ev_pos (decide_eq_true h1) ?_
      rw [decide_eq_true h1, Bool.true_and]
      cases j with
      | zero =>
        refine ev_neg (by omega) ?_
        exact ih 1 (by omega)
      | succ j =>
        have hm : wrap64 (((j + 1 : Nat) : Int) - 1) = (j : Int) := by unfold wrap64; omega
        refine ev_pos (by omega) ?_
        rw [hm, rd_pr l (show j < l.length by omega)]
        refine ev_pos (by omega) (ev_pos (by omega) ?_)
        rw [prevAt_succ (show j < l.length by omega)]
        by_cases h2 : Op.bytesLess l[j].f0.toList l[j + 1].f0.toList = true
        · refine ev_pos h2 ?_
          rw [show behind (some l[j].f0) l[j + 1] = true from h2, Bool.true_and]
          exact ih (j + 1 + 1) (by omega)
        · refine ev_neg h2 ?_
          rw [show behind (some l[j].f0) l[j + 1] = false from by simpa [behind] using h2, Bool.false_and]
          exact ev_some _
    · refine ev_neg (by rw [decide_eq_false h1]; decide) ?_
      rw [decide_eq_false h1]
      exact ev_some _
theorem oright_f (l : List MPr) (hl : l.length < 9223372036854775800) : Ev (fun k => omap_Right.f k l) (decide (RightM l)) := by
  have := oright_loop l hl l.length 0 (by omega)
  rw [List.drop_zero, show prevAt l 0 = none from rfl, rightB_right] at this
  exact this
theorem oget_f {m : List MPr} (hm : m.length ≤ 1000000) (hr : oRise m) (key : ByteArray) : omap_Get.f m key = some ((oVal m key).getD ⟨#[]⟩, (oVal m key).isSome) := by
  unfold omap_Get.f
  have hf : omap_find.f m key = some ((oAt m key : Int), oIs m key) := by unfold omap_find.f; rw [if_pos ⟨hm, hr⟩]
  rw [hf]
  show (if oIs m key = true then _ else _) = _
  obtain ⟨A, mid, B, h⟩ := cut_of (key := key) hr
  rw [h.val, h.is, h.at]
  rcases h.mids with rfl | ⟨p, rfl, hp⟩
  · rfl
  · have hlt : A.length < m.length := by rw [h.eq]; simp
    show (if (!([p] : List MPr).isEmpty) = true then if (0 : Int) ≤ (A.length : Int) then if (A.length : Int) < (m.length : Int) then some ((rd_T39 m (A.length : Int)).f1, true) else none else none else some ((⟨#[]⟩ : ByteArray), false)) = _
    rw [if_pos (show (!([p] : List MPr).isEmpty) = true from rfl), if_pos (by omega), if_pos (by omega), rd_pr m hlt]
    have : m[A.length] = p := by
      have e := h.eq
      subst e
      simp
    rw [this]
    rfl
def oEnd (m : List MPr) (tk : ByteArray) : Nat := if tk.toList = [] then m.length else oAt m tk
/-- What is scanned. -/
def oScan (m : List MPr) (fr tk : ByteArray) (limit : Int) : List MPr := ((m.take (oEnd m tk)).drop (oAt m fr)).take limit.toNat
theorem oAt_le (m : List MPr) (key : ByteArray) : oAt m key ≤ m.length := (List.takeWhile_sublist _).length_le
theorem take_drop_take {α : Type} (m : List α) (a e : Nat) (lim : Int) (hl : m.length ≤ 1000000) (he : e ≤ m.length) (ha : a ≤ m.length) :
    (m.take ((mx (a : Int) (mn (e : Int) (wrap64 ((a : Int) + (mn (mx lim 0) (m.length : Int)))))) : Int).toNat).drop a = ((m.take e).drop a).take lim.toNat ∧ (a : Int) ≤ mx (a : Int) (mn (e : Int) (wrap64 ((a : Int) + (mn (mx lim 0) (m.length : Int))))) ∧ mx (a : Int) (mn (e : Int) (wrap64 ((a : Int) + (mn (mx lim 0) (m.length : Int))))) ≤ (m.length : Int) := by
  obtain ⟨q, hq⟩ : ∃ q : Nat, mn (mx lim 0) (m.length : Int) = (q : Int) ∧ q = min lim.toNat m.length := by
    refine ⟨min lim.toNat m.length, ?_, rfl⟩
    unfold mn mx
    split <;> split <;> omega
  rw [hq.1]
  have hw : wrap64 ((a : Int) + (q : Int)) = ((a + q : Nat) : Int) := by unfold wrap64; omega
  rw [hw]
  have hx : mx (a : Int) (mn (e : Int) ((a + q : Nat) : Int)) = ((max a (min e (a + q)) : Nat) : Int) := by
    unfold mn mx
    split <;> split <;> omega
  rw [hx, Int.toNat_natCast]
  refine ⟨?_, by omega, by omega⟩
  apply List.ext_getElem?
  intro i
  simp only [List.getElem?_drop, List.getElem?_take]
  by_cases h1 : a + i < e
  · rw [if_pos h1]
    by_cases h2 : i < lim.toNat
    · rw [if_pos h2]
      by_cases h3 : a + i < m.length
      · rw [if_pos (by omega)]
      · rw [List.getElem?_eq_none (by omega), ite_self]
    · rw [if_neg h2, if_neg (by omega)]
  · rw [if_neg h1, ite_self, if_neg (by omega)]
theorem oscan_f {m : List MPr} (hm : m.length ≤ 1000000) (hr : oRise m) (fr tk : ByteArray) (lim : Int) : omap_Scan.f m fr tk lim = some (oScan m fr tk lim) := by
  unfold omap_Scan.f
  have hf : ∀ key, omap_find.f m key = some ((oAt m key : Int), oIs m key) := fun key => by unfold omap_find.f; rw [if_pos ⟨hm, hr⟩]
  have hc : ∀ l : List MPr, l.length ≤ 1000000 → api_Pair.f l = some l := fun l hl => by unfold api_Pair.f; rw [if_pos (by omega)]
  rw [hf fr]
  unfold oScan oEnd
  by_cases ht : tk.toList = []
  · simp only [Option.bind_some]
    rw [if_pos ht, if_pos ht]
    obtain ⟨h1, h2, h3⟩ := take_drop_take m (oAt m fr) m.length lim hm (Nat.le_refl _) (oAt_le m fr)
    rw [if_pos (by omega), if_pos h2, if_pos h3, Int.toNat_natCast, h1, hc _ (by simp only [List.length_take, List.length_drop]; omega)]
    rfl
  · simp only [Option.bind_some]
    rw [if_neg ht, if_neg ht, hf tk]
    obtain ⟨h1, h2, h3⟩ := take_drop_take m (oAt m fr) (oAt m tk) lim hm (oAt_le m tk) (oAt_le m fr)
    simp only [Option.bind_some]
    rw [if_pos (by omega), if_pos h2, if_pos h3, Int.toNat_natCast, h1, hc _ (by simp only [List.length_take, List.length_drop]; omega)]
    rfl
theorem oScan_len (m : List MPr) (fr tk : ByteArray) (lim : Int) : (oScan m fr tk lim).length ≤ m.length := by
  unfold oScan
  simp only [List.length_take, List.length_drop]
  omega
end Go.Proofs.YtkncjpafehnmnaaL

end

section
namespace Go.Proofs.Ytkncjpafehnmnaa.P
open Go.RowKit Go.Proofs.YtkncjpafehnmnaaG Go.Proofs.YtkncjpafehnmnaaW.PrintWords Go.Proofs.YtkncjpafehnmnaaW.PrintLast Go.Proofs.YtkncjpafehnmnaaW.PrintMore
attribute [local go_sem] str_gtr str_geq str_leq max2_int min2_int max_two min_two max_three min_three max_four min_four   -- for this text's walks alone
set_option linter.unusedVariables false
set_option linter.unusedSimpArgs false

def ratlineref12_Right.l0 : Nat → List (S39) → Int → Option (Bool)
  | 0, _, _ => none
  | k + 1, x0, x3 => if x3 < (x0.length : Int) then (if 0 ≤ x3 then (if (((rd_T39 x0 x3).f0).size : Int) < 1 then (some false) else (if (((rd_T39 x0 x3).f0).size : Int) > 64 then (some false) else (if (((rd_T39 x0 x3).f1).size : Int) > 256 then (some false) else (if x3 > 0 then (if 0 ≤ (wrap64 (x3 - 1)) then (if (wrap64 (x3 - 1)) < (x0.length : Int) then (if ((Op.bytesLess (((rd_T39 x0 (wrap64 (x3 - 1))).f0).toList) (((rd_T39 x0 x3).f0).toList)) = true) then (ratlineref12_Right.l0 k x0 (wrap64 (x3 + 1))) else (some false)) else (none)) else (none)) else (ratlineref12_Right.l0 k x0 (wrap64 (x3 + 1))))))) else (none)) else (some true)
def ratlineref12_Right.f (k : Nat) (l0 : List (S39)) : Option (Bool) := ratlineref12_Right.l0 k l0 0
end Go.Proofs.Ytkncjpafehnmnaa.P

end

section
namespace Go.Proofs.Ytkncjpafehnmnaa.P
open Go.RowKit Go.Proofs.YtkncjpafehnmnaaG Go.Proofs.YtkncjpafehnmnaaW.PrintWords Go.Proofs.YtkncjpafehnmnaaW.PrintLast Go.Proofs.YtkncjpafehnmnaaW.PrintMore
attribute [local go_sem] str_gtr str_geq str_leq max2_int min2_int max_two min_two max_three min_three max_four min_four   -- for this text's walks alone
set_option linter.unusedVariables false
set_option linter.unusedSimpArgs false

def ratlineref12_Get.l0 : Nat → List (S39) → ByteArray → Int → Option (ByteArray × Bool)
  | 0, _, _, _ => none
  | k + 1, x0, x1, x6 => if x6 < (x0.length : Int) then (if 0 ≤ x6 then (if ((rd_T39 x0 x6).f0).toList = x1.toList then (some ((rd_T39 x0 x6).f1, true)) else (ratlineref12_Get.l0 k x0 x1 (wrap64 (x6 + 1)))) else (none)) else (some ((⟨#[]⟩ : ByteArray), false))
def ratlineref12_Get.f (k : Nat) (l0 : List (S39)) (a1 : ByteArray) : Option (ByteArray × Bool) := ratlineref12_Get.l0 k l0 a1 0
end Go.Proofs.Ytkncjpafehnmnaa.P

end

section
namespace Go.Proofs.Ytkncjpafehnmnaa.P
open Go.RowKit Go.Proofs.YtkncjpafehnmnaaG Go.Proofs.YtkncjpafehnmnaaW.PrintWords Go.Proofs.YtkncjpafehnmnaaW.PrintLast Go.Proofs.YtkncjpafehnmnaaW.PrintMore
attribute [local go_sem] str_gtr str_geq str_leq max2_int min2_int max_two min_two max_three min_three max_four min_four   -- for this text's walks alone
set_option linter.unusedVariables false
set_option linter.unusedSimpArgs false

def ratlineref04_Op.f (a0_0 : Int) (a0_1 : ByteArray) (a0_2 : ByteArray) : Option (Bool) := if (a0_1.size : Int) < 1 then (some false) else (if (a0_1.size : Int) > 64 then (some false) else (if a0_0 = 1 then (if (a0_2.size : Int) ≤ 256 then (some true) else (if a0_0 = 0 then (some (a0_2.toList == ([] : List UInt8))) else (some false))) else (if a0_0 = 0 then (some (a0_2.toList == ([] : List UInt8))) else (some false))))
end Go.Proofs.Ytkncjpafehnmnaa.P

end

section
namespace Go.Proofs.Ytkncjpafehnmnaa.P
open Go.RowKit Go.Proofs.YtkncjpafehnmnaaG Go.Proofs.YtkncjpafehnmnaaW.PrintWords Go.Proofs.YtkncjpafehnmnaaW.PrintLast Go.Proofs.YtkncjpafehnmnaaW.PrintMore
attribute [local go_sem] str_gtr str_geq str_leq max2_int min2_int max_two min_two max_three min_three max_four min_four   -- for this text's walks alone
set_option linter.unusedVariables false
set_option linter.unusedSimpArgs false

mutual
def ratlineref12_one.l0 : Nat → List (S39) → List (S39) → Bool → Int → Int → ByteArray → ByteArray → Option ((List (S39)))
  | 0, _, _, _, _, _, _, _ => none
  | k + 1, x0, x5, x6, x7, x183000, x183001, x183002 => if x7 < (x0.length : Int) then (if x6 = true then (ratlineref12_one.j1 k x0 x5 x6 x7 false x183000 x183001 x183002) else (if 0 ≤ x7 then (ratlineref12_one.j1 k x0 x5 x6 x7 (!(Op.bytesLess (((rd_T39 x0 x7).f0).toList) x183001.toList)) x183000 x183001 x183002) else (none))) else (if x6 = true then (some x5) else (if x5.length < 4398046511104 then (some (x5 ++ [(⟨x183001, x183002⟩ : S39)])) else (none)))
def ratlineref12_one.j1 : Nat → List (S39) → List (S39) → Bool → Int → Bool → Int → ByteArray → ByteArray → Option ((List (S39)))
  | 0, _, _, _, _, _, _, _, _ => none
  | k + 1, x0, x5, x6, x7, x28, x183000, x183001, x183002 => if x28 = true then (if x5.length < 4398046511104 then ((some (x5 ++ [(⟨x183001, x183002⟩ : S39)] : List (S39))).bind fun y187 => (if 0 ≤ x7 then (if x7 < (x0.length : Int) then (if ((rd_T39 x0 x7).f0).toList = x183001.toList then (ratlineref12_one.l0 k x0 y187 true (wrap64 (x7 + 1)) x183000 x183001 x183002) else (if y187.length < 4398046511104 then (ratlineref12_one.l0 k x0 (y187 ++ [(⟨(rd_T39 x0 x7).f0, (rd_T39 x0 x7).f1⟩ : S39)]) true (wrap64 (x7 + 1)) x183000 x183001 x183002) else (none))) else (none)) else (none))) else (none)) else (if 0 ≤ x7 then (if x7 < (x0.length : Int) then (if ((rd_T39 x0 x7).f0).toList = x183001.toList then (ratlineref12_one.l0 k x0 x5 x6 (wrap64 (x7 + 1)) x183000 x183001 x183002) else (if x5.length < 4398046511104 then (ratlineref12_one.l0 k x0 (x5 ++ [(⟨(rd_T39 x0 x7).f0, (rd_T39 x0 x7).f1⟩ : S39)]) x6 (wrap64 (x7 + 1)) x183000 x183001 x183002) else (none))) else (none)) else (none))
end
def ratlineref12_one.f (k : Nat) (l0 : List (S39)) (a1_0 : Int) (a1_1 : ByteArray) (a1_2 : ByteArray) : Option ((List (S39))) := ratlineref12_one.l0 k l0 ([] : List (S39)) (a1_0 == 0) 0 a1_0 a1_1 a1_2
end Go.Proofs.Ytkncjpafehnmnaa.P

end

section
namespace Go.Proofs.Ytkncjpafehnmnaa.P
open Go.RowKit Go.Proofs.YtkncjpafehnmnaaG Go.Proofs.YtkncjpafehnmnaaW.PrintWords Go.Proofs.YtkncjpafehnmnaaW.PrintLast Go.Proofs.YtkncjpafehnmnaaW.PrintMore
attribute [local go_sem] str_gtr str_geq str_leq max2_int min2_int max_two min_two max_three min_three max_four min_four   -- for this text's walks alone
set_option linter.unusedVariables false
set_option linter.unusedSimpArgs false

def ratlineref12_Apply.l0 : Nat → List (S36) → List (S39) → Int → Option ((List (S39)))
  | 0, _, _, _ => none
  | k + 1, x1, x5, x6 => if x6 < (x1.length : Int) then (if 0 ≤ x6 then ((ratlineref04_Op.f ((rd_T36 x1 x6).f0) ((rd_T36 x1 x6).f1) ((rd_T36 x1 x6).f2)).bind fun t204 => (if t204 = true then ((ratlineref12_one.f k x5 ((rd_T36 x1 x6).f0) ((rd_T36 x1 x6).f1) ((rd_T36 x1 x6).f2)).bind fun t206 => (ratlineref12_Apply.l0 k x1 t206 (wrap64 (x6 + 1)))) else (ratlineref12_Apply.l0 k x1 x5 (wrap64 (x6 + 1))))) else (none)) else (some x5)
def ratlineref12_Apply.f (k : Nat) (l0 : List (S39)) (l1 : List (S36)) : Option ((List (S39))) := if ([] : List (S39)).length + l0.length < 4398046511104 then (ratlineref12_Apply.l0 k l1 (([] : List (S39)) ++ l0) 0) else (none)
end Go.Proofs.Ytkncjpafehnmnaa.P

end

section
namespace Go.Proofs.Ytkncjpafehnmnaa.P
open Go.RowKit Go.Proofs.YtkncjpafehnmnaaG Go.Proofs.YtkncjpafehnmnaaW.PrintWords Go.Proofs.YtkncjpafehnmnaaW.PrintLast Go.Proofs.YtkncjpafehnmnaaW.PrintMore
attribute [local go_sem] str_gtr str_geq str_leq max2_int min2_int max_two min_two max_three min_three max_four min_four   -- for this text's walks alone
set_option linter.unusedVariables false
set_option linter.unusedSimpArgs false

def ratlineref12_Scan.l0 : Nat → List (S39) → ByteArray → ByteArray → Int → List (S39) → Int → Option ((List (S39)))
  | 0, _, _, _, _, _, _ => none
  | k + 1, x0, x1, x2, x3, x9, x10 => if x10 < (x0.length : Int) then (if (x9.length : Int) < x3 then (if 0 ≤ x10 then (if ((Op.bytesLess (((rd_T39 x0 x10).f0).toList) x1.toList) = true) then (ratlineref12_Scan.l0 k x0 x1 x2 x3 x9 (wrap64 (x10 + 1))) else (if x2.toList = ([] : List UInt8) then (if x9.length < 4398046511104 then (ratlineref12_Scan.l0 k x0 x1 x2 x3 (x9 ++ [(⟨(rd_T39 x0 x10).f0, (rd_T39 x0 x10).f1⟩ : S39)]) (wrap64 (x10 + 1))) else (none)) else (if (Op.bytesLess (((rd_T39 x0 x10).f0).toList) x2.toList) = true then (if x9.length < 4398046511104 then (ratlineref12_Scan.l0 k x0 x1 x2 x3 (x9 ++ [(⟨(rd_T39 x0 x10).f0, (rd_T39 x0 x10).f1⟩ : S39)]) (wrap64 (x10 + 1))) else (none)) else (ratlineref12_Scan.l0 k x0 x1 x2 x3 x9 (wrap64 (x10 + 1)))))) else (none)) else (ratlineref12_Scan.l0 k x0 x1 x2 x3 x9 (wrap64 (x10 + 1)))) else (some x9)
def ratlineref12_Scan.f (k : Nat) (l0 : List (S39)) (a1 : ByteArray) (a2 : ByteArray) (a3 : Int) : Option ((List (S39))) := ratlineref12_Scan.l0 k l0 a1 a2 a3 ([] : List (S39)) 0
end Go.Proofs.Ytkncjpafehnmnaa.P

end

section
set_option linter.unusedVariables false
set_option linter.unusedSimpArgs false
namespace Go.Proofs.YtkncjpafehnmnaaL
open Go Go.RowKit Go.Proofs.YtkncjpafehnmnaaG Go.Proofs.Ytkncjpafehnmnaa.P Go.Proofs.YtkncjpafehnmnaaW.PrintWords Go.Proofs.YtkncjpafehnmnaaW.PrintMore
def sel (fr tk : ByteArray) (p : MPr) : Bool := !(Op.bytesLess p.f0.toList fr.toList) && (decide (tk.toList = []) || Op.bytesLess p.f0.toList tk.toList)
theorem sel_cut {m : List MPr} (hr : oRise m) (fr tk : ByteArray) : m.filter (sel fr tk) = (m.take (oEnd m tk)).drop (oAt m fr) := by
  have hsplit : m.filter (sel fr tk) = (m.filter fun p => decide (tk.toList = []) || Op.bytesLess p.f0.toList tk.toList).filter fun p => !(Op.bytesLess p.f0.toList fr.toList) := by
    rw [List.filter_filter]
    rfl
  have hend : (m.filter fun p => decide (tk.toList = []) || Op.bytesLess p.f0.toList tk.toList) = m.take (oEnd m tk) := by
    unfold oEnd
    by_cases ht : tk.toList = []
    · rw [if_pos ht, List.take_length]
      exact List.filter_eq_self.2 (fun p _ => by rw [decide_eq_true ht]; rfl)
    · rw [if_neg ht]
      obtain ⟨A, mid, B, h⟩ := cut_of (key := tk) hr
      rw [h.at]
      conv => lhs; rw [h.eq]
      conv => rhs; rw [h.eq]
      rw [List.take_left, List.filter_append, List.filter_eq_self.2 (fun p hp => by rw [show Op.bytesLess p.f0.toList tk.toList = true from h.low p hp, Bool.or_true]), List.filter_eq_nil_iff.2 (fun p hp hb => ?_), List.append_nil]
      rw [decide_eq_false ht, Bool.false_or] at hb
      have hb' : lt p.f0 tk := hb
      rcases List.mem_append.1 hp with hx | hx
      · rcases h.mids with e | ⟨q, e, hq⟩
        · rw [e] at hx; simp at hx
        · rw [e] at hx
          rw [List.mem_singleton.1 hx, hq] at hb'
          exact lt_irrefl _ hb'
      · exact lt_asymm hb' (h.high p hx)
  rw [hsplit, hend]
  obtain ⟨A, mid, B, h⟩ := cut_of (key := fr) hr
  obtain ⟨e, he⟩ : ∃ e, e = oEnd m tk := ⟨_, rfl⟩
  rw [h.at, ← he]
  conv => lhs; rw [h.eq]
  conv => rhs; rw [h.eq]
  rw [List.take_append, List.filter_append, List.drop_append, List.filter_eq_nil_iff.2 (fun p hp hb => by
    have := h.low p (List.mem_of_mem_take hp)
    rw [show Op.bytesLess p.f0.toList fr.toList = true from this] at hb
    cases hb), List.filter_eq_self.2 (fun p hp => by
    have hx := List.mem_of_mem_take hp
    rw [nlt_iff.2]
    · rfl
    · intro hb
      rcases List.mem_append.1 hx with hx | hx
      · rcases h.mids with e | ⟨q, e, hq⟩
        · rw [e] at hx; simp at hx
        · rw [e] at hx
          rw [List.mem_singleton.1 hx, hq] at hb
          exact lt_irrefl _ hb
      · exact lt_asymm hb (h.high p hx)), List.nil_append, List.length_take]
  rw [show (A.take e).drop A.length = [] from List.drop_eq_nil_of_le (by rw [List.length_take]; omega), List.nil_append]
  by_cases hA : e ≤ A.length
  · rw [show e - A.length = 0 by omega]; simp
  · rw [show A.length - min e A.length = 0 by omega, List.drop_zero]
end Go.Proofs.YtkncjpafehnmnaaL

end

section
set_option linter.unusedVariables false
namespace Go.Proofs.YtkncjpafehnmnaaL
open Go Go.RowKit Go.Proofs.YtkncjpafehnmnaaG Go.Proofs.Ytkncjpafehnmnaa.P Go.Proofs.YtkncjpafehnmnaaW.PrintWords Go.Proofs.YtkncjpafehnmnaaW.PrintMore
theorem awake_ten : ratlinelaw12_awake.f 10 = some true := by kernel_rfl
theorem awake12 : Ev (fun k => ratlinelaw12_awake.f k) true := Ev.of ratlinelaw12_awake.mono awake_ten
end Go.Proofs.YtkncjpafehnmnaaL

end

section
set_option linter.unusedVariables false
set_option linter.unusedSectionVars false
namespace Go.Proofs.Ytkncjpafehnmnaa.Pure
open Go Go.RowKit Go.Proofs.Ytkncjpafehnmnaa.P Go.Proofs.YtkncjpafehnmnaaG Go.Proofs.YtkncjpafehnmnaaL Go.Proofs.YtkncjpafehnmnaaW.PrintWords Go.Proofs.YtkncjpafehnmnaaW.PrintMore Go.Proofs.YtkncjpafehnmnaaW.PrintLast
theorem not_lt_nil {k e : ByteArray} (he : e.toList = []) : ¬ lt k e := by
  unfold lt
  rw [he]
  cases k.toList <;> simp [Op.bytesLess]
theorem nil_list : (⟨#[]⟩ : ByteArray).toList = [] := by rw [ByteArray.toList_eq]
theorem oAt_nil (m : List MPr) {e : ByteArray} (he : e.toList = []) : oAt m e = 0 := by
  cases m with
  | nil => rfl
  | cons p m => exact oAt_cons_ge (not_lt_nil he)
section
variable {m : List MPr} (hm : m.length ≤ 60) (hr : RightM m) (a1 a2 : ByteArray)
include hm hr
theorem part_eq : oScan m a1 a2 100 = m.filter (sel a1 a2) := by
  unfold oScan
  rw [← sel_cut hr.2]
  refine List.take_of_length_le ?_
  have := List.length_filter_le (sel a1 a2) m
  show _ ≤ 100
  omega
theorem part_mem {p : MPr} (hp : p ∈ oScan m a1 a2 100) : p ∈ m ∧ ¬ lt p.f0 a1 ∧ (a2.toList = [] ∨ lt p.f0 a2) := by
  rw [part_eq hm hr] at hp
  obtain ⟨h1, h2⟩ := List.mem_filter.1 hp
  unfold sel at h2
  rw [Bool.and_eq_true, Bool.or_eq_true, decide_eq_true_eq] at h2
  refine ⟨h1, fun h => ?_, h2.2⟩
  have h3 := h2.1
  rw [show Op.bytesLess p.f0.toList a1.toList = true from h] at h3
  cases h3
theorem part_right : RightM (oScan m a1 a2 100) := by
  rw [part_eq hm hr]
  exact ⟨fun p hp => hr.1 p ((List.mem_filter.1 hp).1), hr.2.sublist List.filter_sublist⟩
theorem part_get {p : MPr} (hp : p ∈ oScan m a1 a2 100) : omap_Get.f m p.f0 = some (p.f1, true) := by
  rw [oget_f (by omega) hr.2, (val_iff hr.2 p).1 (part_mem hm hr a1 a2 hp).1]
  rfl
theorem part_front (a3 : Int) : oScan m a1 a2 a3 = (oScan m a1 a2 100).take (mn (mx a3 0) ((oScan m a1 a2 100).length : Int)).toNat := by
  have e : (oScan m a1 a2 100).take (mn (mx a3 0) ((oScan m a1 a2 100).length : Int)).toNat = (oScan m a1 a2 100).take a3.toNat := by
    have h : (mn (mx a3 0) ((oScan m a1 a2 100).length : Int)).toNat = min a3.toNat (oScan m a1 a2 100).length := by unfold mn mx; split <;> split <;> omega
    rw [h, ← List.take_eq_take_min]
  rw [e, part_eq hm hr]
  unfold oScan
  rw [← sel_cut hr.2]
theorem scan_all {e : ByteArray} (he : e.toList = []) : oScan m e e 100 = m := by
  unfold oScan oEnd
  rw [if_pos he, oAt_nil m he, List.drop_zero, List.take_length]
  exact List.take_of_length_le (by show _ ≤ 100; omega)
theorem scan_both {e : ByteArray} (he : e.toList = []) (h1 : ¬ a1.toList = []) : oScan m e a1 100 ++ oScan m a1 e 100 = m := by
  unfold oScan oEnd
  rw [if_neg h1, if_pos he, oAt_nil m he, List.drop_zero, List.take_length]
  rw [List.take_of_length_le (l := m.take (oAt m a1)) (by rw [List.length_take]; show _ ≤ 100; omega), List.take_of_length_le (l := m.drop (oAt m a1)) (by rw [List.length_drop]; show _ ≤ 100; omega)]
  exact List.take_append_drop _ _
theorem scan_none (h1 : ¬ a2.toList = []) (h2 : ¬ lt a1 a2) : oScan m a1 a2 100 = [] := by
  rw [List.eq_nil_iff_forall_not_mem]
  intro p hp
  obtain ⟨_, h3, h4⟩ := part_mem hm hr a1 a2 hp
  have h5 := h4.resolve_left h1
  rcases lt_tri a1 a2 with h | h | h
  · exact h2 h
  · exact h3 (by rw [h]; exact h5)
  · exact h3 (lt_trans h5 h)
theorem scan_j2 : Ev (fun k => ratlinelaw12_OmapScan.j2 k m a1 false) true := by
  refine ev_step (fun k => by rw [ratlinelaw12_OmapScan.j2, if_neg (by decide)]) ?_
  by_cases h1 : a1.toList = []
  · exact ev_pos h1 (ev_call awake12 (ev_some _))
  · refine ev_neg h1 (ev_bind (oscan_f (by omega) hr.2 _ _ _) (ev_bind (oscan_f (by omega) hr.2 _ _ _) ?_))
    have h3 := oScan_len m (⟨#[]⟩ : ByteArray) a1 100
    have h4 := oScan_len m a1 (⟨#[]⟩ : ByteArray) 100
    refine ev_pos (by omega) ?_
    rw [scan_both hm hr a1 nil_list h1]
    exact ev_call (pairs_same m (by omega)) (ev_pos rfl (ev_call awake12 (ev_some _)))
theorem scan_loop (a3 : Int) : ∀ (n j : Nat), j + n = (oScan m a1 a2 100).length → Ev (fun k => ratlinelaw12_OmapScan.l0 k m a1 a2 a3 (oScan m a1 a2 100) (oScan m a1 a2 100) ((oScan m a1 a2 100).length : Int) (j : Int)) true := by
  have hpl := oScan_len m a1 a2 100
  intro n
  induction n with
  | zero =>
    intro j hj
    obtain rfl : j = (oScan m a1 a2 100).length := by omega
    refine ev_step (fun k => by rw [ratlinelaw12_OmapScan.l0, if_neg (Int.lt_irrefl _)]) ?_
    refine ev_call (oright_f _ (by omega)) (ev_pos (decide_eq_true (part_right hm hr a1 a2)) (ev_bind (oscan_f (by omega) hr.2 a1 a2 a3) ?_))
    have hq : 0 ≤ mn (mx a3 0) ((oScan m a1 a2 100).length : Int) ∧ mn (mx a3 0) ((oScan m a1 a2 100).length : Int) ≤ ((oScan m a1 a2 100).length : Int) := by unfold mn mx; split <;> split <;> omega
    refine ev_pos hq.1 (ev_pos hq.2 ?_)
    rw [← part_front hm hr]
    refine ev_call (pairs_same _ (by have := oScan_len m a1 a2 a3; omega)) (ev_pos rfl (ev_bind (oscan_f (by omega) hr.2 _ _ _) ?_))
    rw [scan_all hm hr nil_list]
    refine ev_call (pairs_same m (by omega)) (ev_pos rfl ?_)
    by_cases h1 : a2.toList = []
    · exact ev_pos h1 (scan_j2 hm hr a1)
    · refine ev_neg h1 ?_
      by_cases h2 : Op.bytesLess a1.toList a2.toList = true
      · exact ev_pos h2 (scan_j2 hm hr a1)
      · refine ev_neg h2 ?_
        rw [scan_none hm hr a1 a2 h1 h2]
        exact scan_j2 hm hr a1
  | succ n ih =>
    intro j hj
    have hlt : j < (oScan m a1 a2 100).length := by omega
    refine ev_step (fun k => by rw [ratlinelaw12_OmapScan.l0, if_pos (by omega), if_pos (by omega), if_pos (by omega), rd_pr _ hlt, up1 (by omega)]) ?_
    have hmem := List.getElem_mem hlt
    obtain ⟨_, h3, h4⟩ := part_mem hm hr a1 a2 hmem
    refine ev_bind (part_get hm hr a1 a2 hmem) (ev_pos rfl (ev_pos rfl (ev_neg h3 ?_)))
    by_cases h1 : a2.toList = []
    · exact ev_pos h1 (ih (j + 1) (by omega))
    · exact ev_neg h1 (ev_pos (h4.resolve_left h1) (ih (j + 1) (by omega)))
end
theorem scan_j0 (m : List MPr) (a1 a2 : ByteArray) (a3 : Int) (b : Bool) (h : b = false → m.length ≤ 60 ∧ RightM m) : Ev (fun k => ratlinelaw12_OmapScan.j0 k m a1 a2 a3 b) true := by
  cases b with
  | true =>
    refine ev_step (fun k => by rw [ratlinelaw12_OmapScan.j0, if_pos rfl]) ?_
    exact ev_call awake12 (ev_some _)
  | false =>
    obtain ⟨hm, hr⟩ := h rfl
    refine ev_step (fun k => by rw [ratlinelaw12_OmapScan.j0, if_neg (by decide)]) ?_
    exact ev_bind (oscan_f (by omega) hr.2 a1 a2 100) (scan_loop hm hr a1 a2 a3 (oScan m a1 a2 100).length 0 (by omega))
theorem OmapScan (m : List MPr) (_ : m.length ≤ maxLen) (hm : m.length * 32 ≤ 140737488351232) (_ : ∀ p ∈ m, p.f0.size ≤ maxLen ∧ p.f1.size ≤ maxLen)
    (a1 : ByteArray) (_ : a1.size ≤ maxLen) (a2 : ByteArray) (_ : a2.size ≤ maxLen) (a3 : Int) (_ : (Lit.int .i64 a3).wf = true) :
    ∃ k, ratlinelaw12_OmapScan.f k m a1 a2 a3 = some true := by
  refine Ev.rounds (g := fun k => ratlinelaw12_OmapScan.f k m a1 a2 a3) ?_
  unfold ratlinelaw12_OmapScan.f
  have ht : Ev (fun k => ratlinelaw12_OmapScan.j0 k m a1 a2 a3 true) true := scan_j0 m a1 a2 a3 true (fun h => by cases h)
  refine ev_call (pfew_f m 60 (by omega)) ?_
  by_cases h1 : (∀ e ∈ m, ShortP e) ∧ ((m.length : Int) ≤ 60)
  · refine ev_pos (by simpa using h1) ?_
    by_cases h2 : ((a1.size : Nat) : Int) > 70
    · exact ev_pos h2 ht
    refine ev_neg h2 ?_
    by_cases h3 : ((a2.size : Nat) : Int) > 70
    · exact ev_pos h3 ht
    refine ev_neg h3 ?_
    refine ev_call (oright_f m (by omega)) ?_
    exact scan_j0 m a1 a2 a3 _ (fun h => ⟨by omega, by simpa using h⟩)
  · exact ev_neg (by simpa using h1) ht
end Go.Proofs.Ytkncjpafehnmnaa.Pure

end

section
set_option linter.unusedVariables false
namespace Go.Proofs.YtkncjpafehnmnaaG
open Go Go.RowKit Go.Proofs.YtkncjpafehnmnaaW.PrintWords

/-- What is trodden of this type is of this kind, and is right. -/
def Opens {α : Type} (P : Program) (t : TypeId) (d : Kd α) (wf : α → Prop) : Prop :=
  ∀ (H : Type) (enc : TypeId × Value → H) (w : World) (base : Nat) (sp : Nat → Bool) (held : Bool) (fuel : Nat) (cs : List Value) (x : DataW H × List MemPlace),
    DataW.trod enc P w base sp held fuel t cs = some x → ∃ a, d.K w a cs ∧ wf a
section
variable {P : Program} {t e : TypeId}
theorem opens_string (ht : P.underlying t = some .string) : Opens P t Kd.string (fun s => s.size ≤ maxLen) := by
  intro H enc w base sp held fuel cs x h
  obtain ⟨n, rfl, _, hm⟩ := DataW.trod_string ht h
  exact ⟨n, rfl, hm⟩
theorem build {α : Type} {Q : Nat → α → Prop} : ∀ n : Nat, (∀ i, i < n → ∃ a, Q i a) → ∃ l : List α, l.length = n ∧ ∀ i a, l[i]? = some a → Q i a := by
  intro n
  induction n with
  | zero => intro _; exact ⟨[], rfl, fun i a h => by simp at h⟩
  | succ n ih =>
    intro h
    obtain ⟨l, hl, hq⟩ := ih (fun i hi => h i (by omega))
    obtain ⟨a, ha⟩ := h n (by omega)
    refine ⟨l ++ [a], by simp [hl], fun i b hb => ?_⟩
    by_cases hi : i < n
    · rw [List.getElem?_append_left (by omega)] at hb
      exact hq i b hb
    · rw [List.getElem?_append_right (by omega)] at hb
      by_cases hin : i = n
      · subst hin
        rw [hl, Nat.sub_self] at hb
        simp at hb
        exact hb ▸ ha
      · rw [List.getElem?_eq_none (by simp; omega)] at hb
        cases hb
theorem opens_row {α : Type} {d : Kd α} {wf : α → Prop} (hc : P.cellsOf e = d.sz) (ht : P.underlying t = some (.slice e)) (he : Opens P e d wf)
    {H : Type} {enc : TypeId × Value → H} {w : World} {base : Nat} {sp : Nat → Bool} {held : Bool} {fuel : Nat} {cs : List Value} {x : DataW H × List MemPlace} (h : DataW.trod enc P w base sp held fuel t cs = some x) :
    ∃ (A : Option Addr) (c : Nat) (xs : List α), cs = [.slice A xs.length c] ∧ xs.length ≤ c ∧ c ≤ maxLen ∧ d.C w A xs.length xs ∧ ∀ a ∈ xs, wf a := by
  rcases DataW.trod_slice ht h with ⟨rfl, _⟩ | ⟨ad, len, cap, elems, rest, n, _, rfl, _, hb, hl, hm, hn, hel, _, _⟩
  · exact ⟨none, 0, [], rfl, Nat.le_refl _, by decide, Kd.C_nil d w, fun a ha => by cases ha⟩
  · obtain ⟨xs, hxl, hx⟩ := build (Q := fun i a => wf a ∧ ∃ c, c.length = d.sz ∧ d.K w a c ∧ ∀ j u, c[j]? = some u → w.cell? (ad.add (i * d.sz + j)) = some u) len (fun i hi => by
      have h1 := hel i hi
      rw [List.getElem?_eq_getElem (by omega)] at h1
      obtain ⟨cs', hcs, htr⟩ := Option.bind_eq_some_iff.1 h1
      obtain ⟨a, ha, hw⟩ := he H enc w base sp held n cs' _ htr
      have hlen := d.K_len ha
      obtain ⟨_, hlen2, hcell⟩ := World.cells?_some hcs
      refine ⟨a, hw, cs', hlen, ha, fun j u hj => ?_⟩
      have hjl : j < cs'.length := by
        by_cases hjl : j < cs'.length
        · exact hjl
        · rw [List.getElem?_eq_none (by omega)] at hj; cases hj
      have h2 := hcell j (by omega)
      rw [hc] at h2
      have hadd : (ad.add (i * d.sz)).add j = ad.add (i * d.sz + j) := Addr.add_add ad _ _
      rw [← hadd, h2, hj])
    have hmax : maxLen ≤ 9223372036854775807 := by decide
    refine ⟨some ad, cap, xs, by rw [hxl], by omega, hm, ⟨rfl, by omega, fun _ => ⟨ad, rfl, fun j p hp => (hx j p hp).2⟩⟩, fun a ha => ?_⟩
    obtain ⟨i, hi⟩ := List.mem_iff_getElem?.1 ha
    exact (hx i a hi).1
theorem Opens.iso {α β : Type} {d : Kd α} {wf : α → Prop} (h : Opens P t d wf) (f : β → α) (g : α → β) (hfg : ∀ a, f (g a) = a) : Opens P t (Kd.iso d f) (fun b => wf (f b)) := by
  intro H enc w base sp held fuel cs x htr
  obtain ⟨a, ha, hw⟩ := h H enc w base sp held fuel cs x htr
  exact ⟨g a, by show d.K w (f (g a)) cs; rw [hfg]; exact ha, by show wf (f (g a)); rw [hfg]; exact hw⟩
end

/-- A field of a struct. -/
theorem opens_field {α : Type} {P : Program} {t e : TypeId} {fs : Array Field} {d : Kd α} {wf : α → Prop} {off i : Nat} {f : Field} (ht : P.underlying t = some (.struct fs)) (hi : fs[i]? = some f) (hft : f.type = e) (hfo : f.offset = off) (hc : P.cellsOf e = d.sz) (he : Opens P e d wf)
    {H : Type} {enc : TypeId × Value → H} {w : World} {base : Nat} {sp : Nat → Bool} {held : Bool} {fuel : Nat} {cs : List Value} {x : DataW H × List MemPlace} (h : DataW.trod enc P w base sp held fuel t cs = some x) :
    ∃ a, d.K w a ((cs.drop off).take d.sz) ∧ wf a := by
  obtain ⟨xs, n, _, _, _, hn, hf⟩ := DataW.trod_struct ht h
  have h1 := hf i f hi
  have hil : i < xs.length := by
    rw [hn]
    exact (Array.getElem?_eq_some_iff.1 hi).1
  rw [List.getElem?_eq_getElem hil, hft, hfo, hc] at h1
  exact he H enc w base sp held n _ _ h1
theorem opens_cells {P : Program} {t : TypeId} {fs : Array Field} (ht : P.underlying t = some (.struct fs)) {H : Type} {enc : TypeId × Value → H} {w : World} {base : Nat} {sp : Nat → Bool} {held : Bool} {fuel : Nat} {cs : List Value} {x : DataW H × List MemPlace} (h : DataW.trod enc P w base sp held fuel t cs = some x) :
    cs.length = P.cellsOf t := by
  obtain ⟨xs, n, _, _, hl, _⟩ := DataW.trod_struct ht h
  exact hl
theorem opens_struct2 {α β : Type} {P : Program} {t ta tb : TypeId} {fs : Array Field} {a : Kd α} {b : Kd β} {wa : α → Prop} {wb : β → Prop} (ht : P.underlying t = some (.struct fs)) (hc : P.cellsOf t = a.sz + b.sz)
    (f0 : (fs[0]?).map (fun f => (f.type, f.offset)) = some (ta, 0)) (f1 : (fs[1]?).map (fun f => (f.type, f.offset)) = some (tb, a.sz)) (ca : P.cellsOf ta = a.sz) (cb : P.cellsOf tb = b.sz) (oa : Opens P ta a wa) (ob : Opens P tb b wb) :
    Opens P t (Kd.pair a b) (fun x => wa x.1 ∧ wb x.2) := by
  intro H enc w base sp held fuel cs x h
  obtain ⟨g0, e0, q0⟩ := Option.map_eq_some_iff.1 f0
  obtain ⟨g1, e1, q1⟩ := Option.map_eq_some_iff.1 f1
  simp only [Prod.mk.injEq] at q0 q1
  obtain ⟨x0, k0, w0⟩ := opens_field ht e0 q0.1 q0.2 ca oa h
  obtain ⟨x1, k1, w1⟩ := opens_field ht e1 q1.1 q1.2 cb ob h
  have hl := opens_cells ht h
  have hsp : (cs.drop a.sz).take b.sz = cs.drop a.sz := List.take_of_length_le (by rw [List.length_drop]; omega)
  rw [List.drop_zero] at k0
  rw [hsp] at k1
  exact ⟨(x0, x1), ⟨cs.take a.sz, cs.drop a.sz, (List.take_append_drop _ _).symm, k0, k1⟩, w0, w1⟩
/-- A row's slice is no longer than its weight allows. -/
theorem sized_row {H : Type} {enc : TypeId × Value → H} {P : Program} {W : World} {base : Nat} {spare : Nat → Bool} {held : Bool} {t e : TypeId} {a : Option Addr} {len cap : Nat} {d : DataW H} {ps : List MemPlace} {ts : List TypeId} {ds : List (DataW H)} {j : Nat}
    (hsz : (DataW.weightsEach P ts ds).all (· ≤ reachBytes) = true) (ht : ts[j]? = some t) (hd : ds[j]? = some d) (hu : P.underlying t = some (.slice e)) (B : Nat) (hB : P.bytesOf e = B)
    (h : DataW.Trod enc P W base spare held t (.slice a len cap) d ps) : len * B ≤ 140737488351232 := by
  obtain ⟨fuel, hf⟩ := h
  rcases DataW.trod_slice hu hf with ⟨hcs, _⟩ | ⟨ad, l, c, elems, rest, n, _, hcs, hx, _, _, _, hn, _⟩
  · simp only [Value.cells, List.cons.injEq, Value.slice.injEq, and_true] at hcs
    obtain ⟨rfl, rfl, rfl⟩ := hcs
    rw [Nat.zero_mul]; omega
  · simp only [Value.cells, List.cons.injEq, Value.slice.injEq, and_true] at hcs
    obtain ⟨rfl, rfl, rfl⟩ := hcs
    obtain ⟨hx, _⟩ := Prod.mk.inj hx
    subst hx
    have z := sized_slice hsz ht hd hu
    rw [hB, List.length_map, List.length_map] at z
    exact Nat.le_trans (Nat.mul_le_mul_right _ (by omega)) z
end Go.Proofs.YtkncjpafehnmnaaG

end

section
set_option linter.unusedVariables false
namespace Go.Proofs.Ytkncjpafehnmnaa.omapScan
open Go Go.ChangeShapes Go.WideShapes Go.ChangeAt Go.RowKit Go.Proofs.YtkncjpafehnmnaaG Go.Proofs.Ytkncjpafehnmnaa.P Go.Proofs.YtkncjpafehnmnaaW.PrintWords
open Go.ChangeMaps (open_string shut_string)
theorem own : ownKnob Try.prog.godebug = none := by kernel_rfl
theorem laidOut : laidOutB Try.prog = true := by kernel_rfl
set_option maxRecDepth 100000 in
theorem lifted (os : Os) (started : os.Started) (H : Type) (enc : TypeId × Value → H) :
    ReturnsInHanded {} Try.checked os 5 .any (Rows.omapScanSpec.pre6 enc Try.prog Try.f5 Rows.omapScanRow.domain false) (Rows.omapScanSpec.post enc Try.prog Try.f5 false true false false) := by
  refine returnsInHanded_of_change_sized (C := Try.checked) own started (by kernel_rfl) Try.func5
    (ChangeSpec.witness6 (enc := enc) (C := Try.checked) false ⟨#[], #[.slice none 0 0, .string ⟨#[]⟩, .string ⟨#[]⟩, .int .i64 0], []⟩ 8 (by kernel_rfl) (by kernel_rfl) (by kernel_rfl) (by kernel_rfl)) ?_
  intro W base args ds gs before hval0 hW hcnd hsz0 _
  have hsz : (DataW.weightsEach Try.prog (Try.f5.params.toList ++ Rows.omapScanSpec.plain.varTypes Try.prog) (ds ++ gs)).all (· ≤ reachBytes) = true := hsz0
  have hval : ∀ (j : Nat) t v, Try.f5.params[j]? = some t → args[j]? = some v → Value.okWide Try.prog W .any base t v := hval0
  have hW' := hW
  obtain ⟨p, q, hA0, hV, rfl, hfz, hnd⟩ := hW
  have hA : DataW.TrodAll enc Try.prog W 0 (fun _ => true) true Try.f5.params.toList args.toList ds p := hA0
  rw [Try.params5] at hA hval hsz
  obtain ⟨v0, vs0, d0, ds0, p0, q0, hargs, rfl, rfl, h0, r0⟩ := trodAll_cons hA
  obtain ⟨v1, vs1, d1, ds1, p1, q1, rfl, rfl, rfl, h1, r1⟩ := trodAll_cons r0
  obtain ⟨v2, vs2, d2, ds2, p2, q2, rfl, rfl, rfl, h2, r2⟩ := trodAll_cons r1
  obtain ⟨v3, vs3, d3, ds3, p3, q3, rfl, rfl, rfl, h3, r3⟩ := trodAll_cons r2
  obtain ⟨rfl, rfl, rfl⟩ := trodAll_nil r3
  obtain rfl : args = #[v0, v1, v2, v3] := by cases args; simp_all
  obtain ⟨rfl, rfl⟩ := trodVars_none hV
  obtain ⟨a0, len0, cap0, rfl⟩ := okWide_slice Try.underlying22 (hval 0 22 v0 rfl rfl)
  have k0 := h0
  have y0 := sized_row hsz (j := 0) (t := 22) rfl rfl Try.underlying22 32 (by kernel_rfl) h0
  have lt0 : ∀ x ∈ p0, x.block < W.heap.size := by obtain ⟨m, hm⟩ := k0; exact DataW.trod_lt m _ _ _ hm
  obtain ⟨fuel0, hf0⟩ := h0
  obtain ⟨A0, c0, l0, hcs0, hl0, hm0, hC0, hw0⟩ := opens_row (by kernel_rfl) Try.underlying22 (show Opens Try.prog 39 k39 _ from Opens.iso (opens_struct2 (ta := 9) (tb := 9) Try.underlying39 (by kernel_rfl) (by kernel_rfl) (by kernel_rfl) (by kernel_rfl) (by kernel_rfl) (opens_string Try.underlying9) (opens_string Try.underlying9)) (fun x : S39 => (x.f0, x.f1)) (fun q => ⟨q.1, q.2⟩) (fun _ => rfl)) hf0
  simp only [Value.cells, List.cons.injEq, Value.slice.injEq, and_true] at hcs0
  obtain ⟨rfl, rfl, rfl⟩ := hcs0
  obtain ⟨a1, rfl, rfl, rfl, w1⟩ := open_string Try.underlying9 (hval 1 9 v1 rfl rfl) h1
  obtain ⟨a2, rfl, rfl, rfl, w2⟩ := open_string Try.underlying9 (hval 2 9 v2 rfl rfl) h2
  obtain ⟨a3, rfl, rfl, rfl, w3⟩ := open_int Try.underlying3 (hval 3 3 v3 rfl rfl) h3
  obtain ⟨k, h⟩ := Pure.OmapScan l0 (Nat.le_trans hl0 hm0) y0 hw0 a1 w1 a2 w2 a3 w3
  clear hA0 hval0 hsz0 hsz
  refine (P.ratlinelaw12_OmapScan.calls k _ _ l0 a1 a2 a3 true W hC0 hl0 h).mono fun e W' ⟨he, bel⟩ => ?_
  subst he
  exact ⟨_, rfl, _, _, _, [], _, [], hW', trodAll_mk1 (shut_bool Try.underlying4 _), (trodAll_cons_mk (Below.trod laidOut (by kernel_rfl) (of_decide_eq_true (by kernel_rfl)) k0 bel lt0) (trodAll_cons_mk (shut_string Try.underlying9 w1) (trodAll_cons_mk (shut_string Try.underlying9 w2) (trodAll_cons_mk (shut_int Try.underlying3 w3) trodAll_mk0)))), rfl, bel.frame _, fun h => by cases h⟩
theorem over : Rows.omapScanRow.holds Try.pinned (OpenSpec.ofChange Rows.omapScanSpec) :=
  OpenClaim.holds_of_wide 5 Try.f5 rfl rfl rfl rfl rfl rfl rfl ⟨rfl, rfl, rfl, rfl, rfl⟩ rfl rfl rfl rfl rfl (by kernel_rfl) Try.func5 (by kernel_rfl)
    (of_decide_eq_true (by kernel_rfl)) (by unfold Func.isWrapper; first | (rw [if_pos (by decide +kernel)]; kernel_rfl) | (rw [if_neg (by decide +kernel)]; exact ⟨rfl, rfl⟩))
    (fun os started H enc _ => lifted os started H enc)
theorem proved : Rows.OmapScanSaid := over
#print axioms proved
end Go.Proofs.Ytkncjpafehnmnaa.omapScan
namespace Go.Proofs.Ytkncjpafehnmnaa
/-- The row, under a short name, for the claim. -/
theorem omapScan_holds : Rows.OmapScanSaid := omapScan.proved
end Go.Proofs.Ytkncjpafehnmnaa

end
