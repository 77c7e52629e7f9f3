/- Proved here: the row of MergeSees, and what it needs. Conditions: those of each theorem. Written for this claim by programs; what the claim does not use is left out. -/
import Derived.Deep.RegionLaw
import Derived.Maps.OwnOps
import Derived.Maps.Views
import Derived.ChangeArms
import Derived.DataReads
import Derived.DataElems
import Derived.OpenShut
import Derived.SizedLaws
import Derived.Test.YtojemmipkpckbaaRows
import Derived.WalkKit
import Derived.ProofKit
import Derived.ShutString
import Derived.ChangeOld
import Derived.Below
import Derived.Test.YtojemmipkpckbaaSMergeSees3
section
set_option linter.unusedVariables false
namespace Go.Proofs.YtojemmipkpckbaaL
open Go Go.RowKit Go.Proofs.YtojemmipkpckbaaG Go.Proofs.Ytojemmipkpckbaa.P Go.Proofs.YtojemmipkpckbaaW.PrintWords Go.Proofs.YtojemmipkpckbaaW.PrintMore

def wa : ByteArray := ⟨#[97]⟩
def wb : ByteArray := ⟨#[98]⟩
def wc : ByteArray := ⟨#[99]⟩
def wx : ByteArray := ⟨#[120]⟩
def wy : ByteArray := ⟨#[121]⟩
def wz : ByteArray := ⟨#[122]⟩
def e0 : MEn := ⟨⟨wa, 9, 0⟩, ⟨#[]⟩⟩
def e1 : MEn := ⟨⟨wb, 4, 1⟩, wy⟩
def e2 : MEn := ⟨⟨wa, 5, 1⟩, wx⟩
def e3 : MEn := ⟨⟨wb, 4, 1⟩, wz⟩
def exL : List (List MEn) := [[e0, e1], [e2, e3]]
theorem ex_fits : mFits exL := ⟨by decide, by decide⟩
theorem ex_all : mAll (mSize exL) exL = [e0, e2, e1] := by kernel_rfl
theorem all_ex : merge_All.f exL = some [e0, e2, e1] := by unfold merge_All.f; rw [if_pos ex_fits, ex_all]
theorem get_ex (k : ByteArray) (q : Int) : merge_Get.f exL k q = some (mGet k (mSeen k q none [e0, e2, e1])) := by unfold merge_Get.f; rw [if_pos ex_fits, ex_all]
theorem scan_ex (a b : ByteArray) (q l : Int) : merge_Scan.f exL a b q l = some (mScan b l [] (mSeen a q none [e0, e2, e1])) := by unfold merge_Scan.f; rw [if_pos ex_fits, ex_all]
theorem g1 : mGet wa (mSeen wa 9 none [e0, e2, e1]) = (⟨#[]⟩, false) := by kernel_rfl
theorem g2 : mGet wa (mSeen wa 8 none [e0, e2, e1]) = (wx, true) := by kernel_rfl
theorem g3 : mGet wa (mSeen wa 4 none [e0, e2, e1]) = (⟨#[]⟩, false) := by kernel_rfl
theorem g4 : mGet wb (mSeen wb 4 none [e0, e2, e1]) = (wy, true) := by kernel_rfl
theorem s1 : mScan wc 9 [] (mSeen wa 5 none [e0, e2, e1]) = [⟨wa, wx⟩, ⟨wb, wy⟩] := by kernel_rfl
theorem s2 : mScan wc 9 [] (mSeen wa 9 none [e0, e2, e1]) = [⟨wb, wy⟩] := by kernel_rfl
theorem s3 : mScan wc 1 [] (mSeen wa 5 none [e0, e2, e1]) = [⟨wa, wx⟩] := by kernel_rfl
theorem s4 : mScan wb 9 [] (mSeen wb 9 none [e0, e2, e1]) = [] := by kernel_rfl
theorem awake11 : Ev (fun k => ratlinelaw11_awake.f k) true := by
  unfold ratlinelaw11_awake.f
  refine ev_bind (a := (wa, 9, 0, ⟨#[]⟩)) rfl (ev_bind (a := (wb, 4, 1, wy)) rfl (ev_bind (a := (wa, 5, 1, wx)) rfl (ev_bind (a := (wb, 4, 1, wz)) rfl (ev_bind (a := exL) rfl ?_))))
  refine ev_bind ((get_ex wa 9).trans (by rw [g1])) (ev_bind ((get_ex wa 8).trans (by rw [g2])) (ev_bind ((get_ex wa 4).trans (by rw [g3])) (ev_bind ((get_ex wb 4).trans (by rw [g4])) (ev_bind all_ex ?_))))
  refine ev_pos (by decide) (ev_pos (by decide) (ev_pos (by decide) (ev_pos (by decide) (ev_pos (by decide) ?_))))
  refine ev_call (entries_same [e0, e2, e1] (by decide)) (ev_pos rfl (ev_neg (by decide) (ev_pos rfl (ev_pos (by kernel_rfl) (ev_neg (by decide) (ev_pos rfl (ev_pos (by kernel_rfl) ?_)))))))
  refine ev_bind ((scan_ex wa wc 5 9).trans (by rw [s1])) (ev_call (pairs_same [⟨wa, wx⟩, ⟨wb, wy⟩] (by decide)) (ev_pos rfl ?_))
  refine ev_bind ((scan_ex wa wc 9 9).trans (by rw [s2])) (ev_call (pairs_same [⟨wb, wy⟩] (by decide)) (ev_pos rfl ?_))
  refine ev_bind ((scan_ex wa wc 5 1).trans (by rw [s3])) (ev_call (pairs_same [⟨wa, wx⟩] (by decide)) (ev_pos rfl ?_))
  refine ev_bind ((scan_ex wb wb 9 9).trans (by rw [s4])) ?_
  exact ev_some _
end Go.Proofs.YtojemmipkpckbaaL

end

section
set_option linter.unusedVariables false
namespace Go.Proofs.YtojemmipkpckbaaL
open Go Go.RowKit Go.Proofs.YtojemmipkpckbaaG Go.Proofs.Ytojemmipkpckbaa.P Go.Proofs.YtojemmipkpckbaaW.PrintWords Go.Proofs.YtojemmipkpckbaaW.PrintMore

theorem cmpI_refl (x : Ik) : cmpI x x = 0 := (cmpI_zero x x).2 ⟨rfl, rfl, rfl⟩
theorem cmpI_eq {x y : Ik} (h : cmpI x y = 0) : x = y := by
  have := (cmpI_zero x y).1 h
  exact mSame_iff.1 (by unfold mSame; rw [this.1, this.2.1, this.2.2]; simp)
theorem cmpI_le_lt {x y z : Ik} (h : cmpI x y ≤ 0) (h2 : cmpI y z < 0) : cmpI x z < 0 := by
  have h3 := cmpI_trans h (Int.le_of_lt h2)
  refine Int.lt_iff_le_and_ne.2 ⟨h3, fun e => ?_⟩
  have hxz := cmpI_eq e
  subst hxz
  have := cmpI_neg y x
  omega
/-- A list that rises: pairwise. -/
theorem rises_up : ∀ l : List MEn, risesB l = true → Up l
  | [], _ => List.Pairwise.nil
  | [a], _ => List.Pairwise.cons (fun b hb => by simp at hb) List.Pairwise.nil
  | a :: b :: r, h => by
    rw [rises_two, Bool.and_eq_true] at h
    have hab := of_decide_eq_true h.1
    have ih := rises_up (b :: r) h.2
    refine List.Pairwise.cons (fun x hx => ?_) ih
    rcases List.mem_cons.1 hx with rfl | hx
    · exact hab
    · exact cmpI_lt_trans hab (Int.le_of_lt ((List.pairwise_cons.1 ih).1 x hx))
theorem head_le {e x : MEn} {r : List MEn} (h : risesB (e :: r) = true) (hx : x ∈ e :: r) : cmpI e.f0 x.f0 ≤ 0 := by
  rcases List.mem_cons.1 hx with rfl | hx
  · rw [cmpI_refl]; exact Int.le_refl _
  · exact Int.le_of_lt ((List.pairwise_cons.1 (rises_up _ h)).1 x hx)
/-- Of its internal key the one of the first list that has it. -/
def First (cur : List (List MEn)) (x : MEn) : Prop := ∃ i l, cur[i]? = some l ∧ x ∈ l ∧ ∀ (j : Nat) (l' : List MEn), j < i → cur[j]? = some l' → ∀ y ∈ l', y.f0 ≠ x.f0
theorem first_cons {l : List MEn} {cur : List (List MEn)} {x : MEn} : First (l :: cur) x ↔ x ∈ l ∨ ((∀ y ∈ l, y.f0 ≠ x.f0) ∧ First cur x) := by
  constructor
  · rintro ⟨i, q, hi, hx, hj⟩
    cases i with
    | zero =>
      obtain rfl : l = q := by simpa using hi
      exact .inl hx
    | succ i => exact .inr ⟨hj 0 l (by omega) rfl, i, q, by simpa using hi, hx, fun j l' hji hl' => hj (j + 1) l' (by omega) (by simpa using hl')⟩
  · rintro (hx | ⟨h0, i, q, hi, hx, hj⟩)
    · exact ⟨0, l, rfl, hx, fun j l' hj => absurd hj (by omega)⟩
    · refine ⟨i + 1, q, by simpa using hi, hx, fun j l' hji hl' => ?_⟩
      cases j with
      | zero =>
        obtain rfl : l = l' := by simpa using hl'
        exact h0
      | succ j => exact hj j l' (by omega) (by simpa using hl')
theorem first_filter (p : Ik → Bool) : ∀ {cur : List (List MEn)} {x : MEn}, First (cur.map fun l => l.filter fun y => p y.f0) x ↔ First cur x ∧ p x.f0 = true
  | [], x => ⟨fun ⟨i, l, h, _⟩ => by simp at h, fun ⟨⟨i, l, h, _⟩, _⟩ => by simp at h⟩
  | l :: cur, x => by
    rw [List.map_cons, first_cons, first_cons, first_filter p (cur := cur)]
    constructor
    · rintro (h | ⟨h1, h2, h3⟩)
      · obtain ⟨h1, h2⟩ := List.mem_filter.1 h
        exact ⟨.inl h1, h2⟩
      · refine ⟨.inr ⟨fun y hy e => ?_, h2⟩, h3⟩
        exact h1 y (List.mem_filter.2 ⟨hy, by rw [e]; exact h3⟩) e
    · rintro ⟨h | ⟨h1, h2⟩, h3⟩
      · exact .inl (List.mem_filter.2 ⟨h, h3⟩)
      · exact .inr ⟨fun y hy => h1 y (List.mem_filter.1 hy).1, h2, h3⟩
/-- Dropped is what has this internal key. -/
theorem dropOne_filter {e : Ik} {l : List MEn} (hr : risesB l = true) (hh : ∀ x q, l = x :: q → cmpI e x.f0 ≤ 0) : dropOne e l = l.filter fun y => !(mSame y.f0 e) := by
  cases l with
  | nil => rfl
  | cons x q =>
    have hq : q.filter (fun y => !(mSame y.f0 e)) = q := by
      refine List.filter_eq_self.2 (fun y hy => ?_)
      have h1 := (List.pairwise_cons.1 (rises_up _ hr)).1 y hy
      have h2 := cmpI_le_lt (hh x q rfl) h1
      by_cases hs : mSame y.f0 e = true
      · rw [mSame_iff.1 hs, cmpI_refl] at h2
        omega
      · rw [Bool.eq_false_iff.2 hs]; rfl
    rw [dropOne, List.filter_cons, hq]
    by_cases hs : mSame x.f0 e = true
    · rw [if_pos hs, if_neg (by rw [hs]; decide)]
    · rw [if_neg hs, if_pos (by rw [Bool.eq_false_iff.2 hs]; rfl)]
theorem mDrop_filter {e : Ik} {cur : List (List MEn)} (hr : Rises cur) (hh : ∀ x q, (x :: q) ∈ cur → cmpI e x.f0 ≤ 0) : mDrop e cur = cur.map fun l => l.filter fun y => !(mSame y.f0 e) := by
  rw [mDrop_eq]
  exact List.map_congr_left (fun l hl => dropOne_filter (hr l hl) (fun x q h => hh x q (by rw [← h]; exact hl)))
/-- The least one stands in the first list that has its key. -/
theorem mLeast_ahead : ∀ (rest : List (List MEn)) (i : Nat) (best : Option (Nat × MEn)) (j : Nat) (b : MEn), mLeast rest i best = some (j, b) → best = some (j, b) ∨ (i ≤ j ∧ (∃ q, rest[j - i]? = some (b :: q)) ∧ (∀ k y q, k < j - i → rest[k]? = some (y :: q) → cmpI b.f0 y.f0 < 0) ∧ ∀ i0 b0, best = some (i0, b0) → cmpI b.f0 b0.f0 < 0)
  | [], i, best, j, b, h => by rw [mLeast] at h; exact .inl h
  | [] :: r, i, best, j, b, h => by
    rcases mLeast_ahead r (i + 1) best j b h with h1 | ⟨h1, ⟨q, hq⟩, h2, h3⟩
    · exact .inl h1
    · refine .inr ⟨by omega, ⟨q, by rw [show j - i = (j - (i + 1)) + 1 from by omega, List.getElem?_cons_succ]; exact hq⟩, fun k y z hk hy => ?_, h3⟩
      cases k with
      | zero => simp at hy
      | succ k => exact h2 k y z (by omega) (by simpa using hy)
  | (x :: l) :: r, i, best, j, b, h => by
    rcases mLeast_ahead r (i + 1) _ j b h with h1 | ⟨h1, ⟨q, hq⟩, h2, h3⟩
    · cases best with
      | none =>
        obtain ⟨rfl, rfl⟩ := Prod.mk.inj (Option.some.inj h1)
        exact .inr ⟨Nat.le_refl _, ⟨l, by rw [Nat.sub_self]; rfl⟩, fun k y z hk => absurd hk (by omega), fun i0 b0 hb => by cases hb⟩
      | some p =>
        obtain ⟨i1, b1⟩ := p
        simp only at h1
        split at h1
        · rename_i hl
          obtain ⟨rfl, rfl⟩ := Prod.mk.inj (Option.some.inj h1)
          refine .inr ⟨Nat.le_refl _, ⟨l, by rw [Nat.sub_self]; rfl⟩, fun k y z hk => absurd hk (by omega), fun i0 b0 hb => ?_⟩
          obtain ⟨_, rfl⟩ := Prod.mk.inj (Option.some.inj hb)
          exact (mLess_iff _ _).1 hl
        · exact .inl h1
    · refine .inr ⟨by omega, ⟨q, by rw [show j - i = (j - (i + 1)) + 1 from by omega, List.getElem?_cons_succ]; exact hq⟩, fun k y z hk hy => ?_, fun i0 b0 hb => ?_⟩
      · cases k with
        | zero =>
          obtain ⟨rfl, _⟩ : x = y ∧ l = z := by simpa using hy
          cases best with
          | none => exact h3 i x rfl
          | some p =>
            obtain ⟨i1, b1⟩ := p
            by_cases hl : mLess x.f0 b1.f0 = true
            · exact h3 i x (if_pos hl)
            · exact cmpI_lt_trans (h3 i1 b1 (if_neg hl)) (mLess_no hl)
        | succ k => exact h2 k y z (by omega) (by simpa using hy)
      · subst hb
        by_cases hl : mLess x.f0 b0.f0 = true
        · exact cmpI_lt_trans (h3 i x (if_pos hl)) (Int.le_of_lt ((mLess_iff _ _).1 hl))
        · exact h3 i0 b0 (if_neg hl)
theorem least_first {cur : List (List MEn)} {i : Nat} {e : MEn} (hr : Rises cur) (hl : mLeast cur 0 none = some (i, e)) : First cur e := by
  rcases mLeast_ahead cur 0 none i e hl with h | ⟨_, ⟨q, hq⟩, h2, _⟩
  · cases h
  · refine ⟨i, e :: q, by simpa using hq, List.mem_cons_self .., fun j l' hj hl' y hy => ?_⟩
    cases l' with
    | nil => simp at hy
    | cons z w =>
      have h3 := h2 j z w (by omega) hl'
      have h4 := head_le (hr _ (List.mem_of_getElem? hl')) hy
      intro hye
      have := cmpI_lt_trans h3 h4
      rw [hye, cmpI_refl] at this
      omega
theorem first_one {cur : List (List MEn)} (hr : Rises cur) {x y : MEn} (hx : First cur x) (hy : First cur y) (h : x.f0 = y.f0) : x = y := by
  obtain ⟨i, l, hi, hxl, hj⟩ := hx
  obtain ⟨k, q, hk, hyq, hm⟩ := hy
  have hik : i = k := by
    rcases Nat.lt_trichotomy i k with h1 | h1 | h1
    · exact absurd h (hm i l h1 hi x hxl)
    · exact h1
    · exact absurd h.symm (hj k q h1 hk y hyq)
  subst hik
  rw [hi] at hk
  obtain rfl := Option.some.inj hk
  have hu := rises_up l (hr l (List.mem_of_getElem? hi))
  obtain ⟨a, ha⟩ := List.mem_iff_getElem?.1 hxl
  obtain ⟨b, hb⟩ := List.mem_iff_getElem?.1 hyq
  obtain ⟨ha1, ha2⟩ := List.getElem?_eq_some_iff.1 ha
  obtain ⟨hb1, hb2⟩ := List.getElem?_eq_some_iff.1 hb
  have hp := List.pairwise_iff_getElem.1 hu
  rcases Nat.lt_trichotomy a b with h1 | h1 | h1
  · have := hp a b ha1 hb1 h1
    rw [ha2, hb2, h, cmpI_refl] at this
    omega
  · subst h1
    rw [← ha2, ← hb2]
  · have := hp b a hb1 ha1 h1
    rw [ha2, hb2, h, cmpI_refl] at this
    omega
theorem first_nil {cur : List (List MEn)} (h : ∀ l ∈ cur, l = []) (x : MEn) : ¬ First cur x := by
  rintro ⟨i, l, hi, hx, _⟩
  rw [h l (List.mem_of_getElem? hi)] at hx
  simp at hx
theorem mem_mAll : ∀ (n : Nat) (cur : List (List MEn)), Rises cur → mSize cur ≤ n → ∀ x, x ∈ mAll n cur ↔ First cur x
  | 0, cur, hr, hs, x => by
    refine ⟨fun h => by simp [mAll] at h, fun h => ?_⟩
    obtain ⟨i, l, hi, hx, _⟩ := h
    cases l with
    | nil => simp at hx
    | cons e r => have := mSize_pos hi; omega
  | n + 1, cur, hr, hs, x => by
    cases hl : mLeast cur 0 none with
    | none =>
      rw [mAll_none hl]
      exact ⟨fun h => by simp at h, fun h => absurd h (first_nil (mLeast_none _ _ _ hl).2 x)⟩
    | some p =>
      obtain ⟨i, e⟩ := p
      obtain ⟨r, hi⟩ := mLeast_some hl
      have hmin := (mLeast_min _ _ _ _ _ hl).1
      have hlt := mDrop_less hi
      have hf := least_first hr hl
      rw [mAll_cons n hl, List.mem_cons, mem_mAll n (mDrop e.f0 cur) (drop_rises hr _) (by omega) x, mDrop_filter hr hmin, first_filter (fun k => !(mSame k e.f0))]
      constructor
      · rintro (rfl | ⟨h, _⟩)
        · exact hf
        · exact h
      · intro h
        by_cases hs : mSame x.f0 e.f0 = true
        · exact .inl (first_one hr h hf (mSame_iff.1 hs))
        · exact .inr ⟨h, by rw [Bool.eq_false_iff.2 hs]; rfl⟩
end Go.Proofs.YtojemmipkpckbaaL

end

section
set_option linter.unusedVariables false
namespace Go.Proofs.YtojemmipkpckbaaL
open Go Go.RowKit Go.Proofs.YtojemmipkpckbaaG Go.Proofs.Ytojemmipkpckbaa.P Go.Proofs.YtojemmipkpckbaaW.PrintWords Go.Proofs.YtojemmipkpckbaaW.PrintMore

theorem skip_iff (lo : ByteArray) (seq : Int) (last : Option ByteArray) (e : MEn) : skipB lo seq last e = true ↔ lt e.f0.f0 lo ∨ seq < e.f0.f1 ∨ last = some e.f0.f0 := by
  unfold skipB lt
  cases last with
  | none => simp
  | some k =>
    simp only [Bool.or_eq_true, decide_eq_true_eq, beq_iff_eq, Option.some.injEq, or_assoc]
    rw [ba_eq_iff]
    constructor
    · rintro (h | h | h)
      · exact .inl h
      · exact .inr (.inl h)
      · exact .inr (.inr h.symm)
    · rintro (h | h | h)
      · exact .inl h
      · exact .inr (.inl h)
      · exact .inr (.inr h.symm)
theorem not_lt_empty (k : ByteArray) : ¬ lt k ⟨#[]⟩ := by
  unfold lt
  show ¬ (Op.bytesLess k.toList (ByteArray.mk #[]).toList = true)
  rw [show (ByteArray.mk #[]).toList = [] from by rw [ByteArray.toList_eq]]
  cases k.toList <;> simp [Op.bytesLess]
theorem seen_up (lo : ByteArray) (seq : Int) : ∀ (l : List MEn) (last : Option ByteArray), KeysUp l → (∀ k, last = some k → ∀ e ∈ l, ¬ lt e.f0.f0 k) →
    (mSeen lo seq last l).Pairwise (fun a b => lt a.f0.f0 b.f0.f0) ∧ ∀ x ∈ mSeen lo seq last l, (∀ k, last = some k → lt k x.f0.f0) ∧ x ∈ l ∧ x.f0.f1 ≤ seq ∧ ¬ lt x.f0.f0 lo
  | [], _, _, _ => ⟨List.Pairwise.nil, fun x hx => by simp [mSeen] at hx⟩
  | e :: r, last, h, hl => by
    obtain ⟨h1, h2⟩ := List.pairwise_cons.1 h
    rw [mSeen_cons]
    by_cases hs : skipB lo seq last e = true
    · rw [if_pos hs, List.nil_append, stepL, if_pos hs]
      have ih := seen_up lo seq r last h2 (fun k hk x hx => hl k hk x (List.mem_cons_of_mem _ hx))
      exact ⟨ih.1, fun x hx => ⟨(ih.2 x hx).1, List.mem_cons_of_mem _ (ih.2 x hx).2.1, (ih.2 x hx).2.2⟩⟩
    · rw [if_neg hs, stepL, if_neg hs]
      have hs' := fun z => hs ((skip_iff _ _ _ _).2 z)
      have ih := seen_up lo seq r (some e.f0.f0) h2 (fun k hk x hx => by cases hk; exact h1 x hx)
      have hke : ∀ k, last = some k → lt k e.f0.f0 := fun k hk => by
        rcases lt_tri k e.f0.f0 with q | q | q
        · exact q
        · exact absurd (.inr (.inr (by rw [hk, q]))) hs'
        · exact absurd q (hl k hk e (List.mem_cons_self ..))
      refine ⟨List.pairwise_cons.2 ⟨fun x hx => (ih.2 x hx).1 _ rfl, ih.1⟩, fun x hx => ?_⟩
      rcases List.mem_cons.1 hx with hx | hx
      · rw [hx]
        exact ⟨hke, List.mem_cons_self .., Int.not_lt.1 (fun z => hs' (.inr (.inl z))), fun z => hs' (.inl z)⟩
      · exact ⟨fun k hk => lt_trans (hke k hk) ((ih.2 x hx).1 _ rfl), List.mem_cons_of_mem _ (ih.2 x hx).2.1, (ih.2 x hx).2.2⟩
theorem seen_get (lo : ByteArray) (seq : Int) : ∀ (l : List MEn) (last : Option ByteArray), KeysUp l → (∀ k, last = some k → ∀ e ∈ l, ¬ lt e.f0.f0 k) → ∀ x ∈ mSeen lo seq last l,
    rGet x.f0.f0 seq l = if x.f0.f2 = 1 then (x.f1, true) else (⟨#[]⟩, false)
  | [], _, _, _, x, hx => by simp [mSeen] at hx
  | e :: r, last, h, hl, x, hx => by
    obtain ⟨h1, h2⟩ := List.pairwise_cons.1 h
    rw [mSeen_cons] at hx
    by_cases hs : skipB lo seq last e = true
    · rw [if_pos hs, List.nil_append, stepL, if_pos hs] at hx
      have hl' := fun k hk x hx => hl k hk x (List.mem_cons_of_mem _ hx)
      have hu := (seen_up lo seq r last h2 hl').2 x hx
      rw [rGet, if_neg]
      · exact seen_get lo seq r last h2 hl' x hx
      · rintro ⟨z1, z2⟩
        rcases (skip_iff _ _ _ _).1 hs with q | q | q
        · rw [z1] at q; exact hu.2.2.2 q
        · omega
        · have := hu.1 _ q
          rw [z1] at this
          exact lt_irrefl _ this
    · rw [if_neg hs, stepL, if_neg hs] at hx
      have hs' := fun z => hs ((skip_iff _ _ _ _).2 z)
      have hl' : ∀ k, some e.f0.f0 = some k → ∀ x ∈ r, ¬ lt x.f0.f0 k := fun k hk x hx => by cases hk; exact h1 x hx
      rcases List.mem_cons.1 hx with hx | hx
      · rw [hx, rGet, if_pos ⟨rfl, Int.not_lt.1 (fun z => hs' (.inr (.inl z)))⟩]
      · have hu := (seen_up lo seq r _ h2 hl').2 x hx
        have hlt := hu.1 _ rfl
        rw [rGet, if_neg (fun z => by rw [z.1] at hlt; exact lt_irrefl _ hlt)]
        exact seen_get lo seq r _ h2 hl' x hx
theorem seen_has (seq : Int) : ∀ (l : List MEn) (last : Option ByteArray), ∀ e ∈ l, e.f0.f1 ≤ seq → last ≠ some e.f0.f0 → ∃ x ∈ mSeen ⟨#[]⟩ seq last l, x.f0.f0 = e.f0.f0
  | [], _, e, he, _, _ => by simp at he
  | a :: r, last, e, he, hq, hn => by
    rw [mSeen_cons]
    by_cases hs : skipB ⟨#[]⟩ seq last a = true
    · rw [if_pos hs, List.nil_append, stepL, if_pos hs]
      rcases List.mem_cons.1 he with he | he
      · exfalso
        rw [he] at hq hn
        rcases (skip_iff _ _ _ _).1 hs with q | q | q
        · exact not_lt_empty _ q
        · omega
        · exact hn q
      · exact seen_has seq r last e he hq hn
    · rw [if_neg hs, stepL, if_neg hs]
      by_cases hk : a.f0.f0 = e.f0.f0
      · exact ⟨a, List.mem_cons_self .., hk⟩
      · rcases List.mem_cons.1 he with he | he
        · exact absurd (by rw [he]) hk
        · obtain ⟨x, hx, hxe⟩ := seen_has seq r (some a.f0.f0) e he hq (fun z => hk (by injection z))
          exact ⟨x, List.mem_cons_of_mem _ hx, hxe⟩
theorem rGet_some {key : ByteArray} {seq : Int} : ∀ {l : List MEn}, (rGet key seq l).2 = true → ∃ y ∈ l, y.f0.f0 = key ∧ y.f0.f1 ≤ seq
  | [], h => by simp [rGet] at h
  | e :: r, h => by
    by_cases hc : e.f0.f0 = key ∧ e.f0.f1 ≤ seq
    · exact ⟨e, List.mem_cons_self .., hc⟩
    · rw [rGet, if_neg hc] at h
      obtain ⟨y, hy, hq⟩ := rGet_some h
      exact ⟨y, List.mem_cons_of_mem _ hy, hq⟩
def sPuts (l : List MEn) : List MPr := l.filterMap fun e => if e.f0.f2 = 1 then some ⟨e.f0.f0, e.f1⟩ else none
theorem mem_puts {l : List MEn} {p : MPr} : p ∈ sPuts l ↔ ∃ x ∈ l, x.f0.f2 = 1 ∧ p = ⟨x.f0.f0, x.f1⟩ := by
  unfold sPuts
  rw [List.mem_filterMap]
  constructor
  · rintro ⟨x, hx, h⟩
    split at h
    · rename_i h1
      exact ⟨x, hx, h1, (Option.some.inj h).symm⟩
    · cases h
  · rintro ⟨x, hx, h1, rfl⟩
    exact ⟨x, hx, if_pos h1⟩
theorem puts_cons (e : MEn) (r : List MEn) : sPuts (e :: r) = (if e.f0.f2 = 1 then [⟨e.f0.f0, e.f1⟩] else []) ++ sPuts r := by
  unfold sPuts
  rw [List.filterMap_cons]
  by_cases h : e.f0.f2 = 1
  · rw [if_pos h, if_pos h]; rfl
  · rw [if_neg h, if_neg h]; rfl
theorem puts_app (a b : List MEn) : sPuts (a ++ b) = sPuts a ++ sPuts b := List.filterMap_append ..
theorem puts_len : ∀ l : List MEn, (sPuts l).length ≤ l.length := fun l => List.length_filterMap_le ..
theorem puts_up {l : List MEn} (h : l.Pairwise (fun a b => lt a.f0.f0 b.f0.f0)) : (sPuts l).Pairwise (fun a b => lt a.f0 b.f0) := by
  unfold sPuts
  rw [List.pairwise_filterMap]
  refine h.imp ?_
  intro a b hab x hx y hy
  split at hx
  · split at hy
    · obtain rfl := Option.some.inj hx
      obtain rfl := Option.some.inj hy
      exact hab
    · cases hy
  · cases hx
theorem step_puts (out : List MPr) (e : MEn) : mStep out e = out ++ (if e.f0.f2 = 1 then [⟨e.f0.f0, e.f1⟩] else []) := by
  unfold mStep
  split <;> simp
theorem scan_take (n : Nat) : ∀ (l : List MEn) (out : List MPr), mScan ⟨#[]⟩ (n : Int) out l = out ++ (sPuts l).take (n - out.length)
  | [], out => by simp [mScan, sPuts]
  | e :: r, out => by
    have hm : mOver ⟨#[]⟩ (n : Int) out e = decide ((n : Int) ≤ (out.length : Int)) := by
      unfold mOver
      rw [show (ByteArray.mk #[]).toList = [] from by rw [ByteArray.toList_eq]]
      simp
    rw [mScan, hm]
    by_cases h : (n : Int) ≤ (out.length : Int)
    · rw [if_pos (by simpa using h), show n - out.length = 0 by omega]
      simp
    · rw [if_neg (by simpa using h), scan_take n r, step_puts, puts_cons]
      by_cases hk : e.f0.f2 = 1
      · rw [if_pos hk, List.length_append, List.length_singleton, List.singleton_append, show n - out.length = (n - (out.length + 1)) + 1 by omega, List.take_succ_cons, List.append_assoc, List.singleton_append]
      · rw [if_neg hk, List.append_nil, List.nil_append]
theorem scan_to (hi : ByteArray) (hh : ¬ hi.toList = []) (n : Nat) : ∀ (l : List MEn) (out : List MPr), out.length + l.length < n → mScan hi (n : Int) out l = out ++ sPuts (l.takeWhile fun e => Op.bytesLess e.f0.f0.toList hi.toList)
  | [], out, _ => by simp [mScan, sPuts]
  | e :: r, out, h => by
    rw [List.length_cons] at h
    have hm : mOver hi (n : Int) out e = !(Op.bytesLess e.f0.f0.toList hi.toList) := by
      unfold mOver
      rw [show decide ((n : Int) ≤ (out.length : Int)) = false from decide_eq_false (by omega)]
      simp [hh]
    rw [mScan, hm, List.takeWhile_cons]
    cases hb : Op.bytesLess e.f0.f0.toList hi.toList with
    | false => simp [sPuts]
    | true =>
      simp only [Bool.not_true, Bool.false_eq_true, if_false, if_true]
      rw [step_puts, scan_to hi hh n r, puts_cons, List.append_assoc]
      rw [List.length_append]
      have : (if e.f0.f2 = 1 then [(⟨e.f0.f0, e.f1⟩ : MPr)] else []).length ≤ 1 := by split <;> simp
      omega
theorem seen_app (lo : ByteArray) (seq : Int) : ∀ (p r : List MEn) (last : Option ByteArray), (∀ e ∈ p, ∀ x ∈ r, e.f0.f0 ≠ x.f0.f0) → (∀ k, last = some k → ∀ x ∈ r, x.f0.f0 ≠ k) → mSeen lo seq last (p ++ r) = mSeen lo seq last p ++ mSeen lo seq none r
  | [], r, last, _, h => by
    cases last with
    | none => rfl
    | some k =>
      rw [List.nil_append, seen_prev (h k rfl)]
      rfl
  | e :: p, r, last, h, hk => by
    have hp := fun x hx => h x (List.mem_cons_of_mem _ hx)
    rw [List.cons_append, mSeen_cons, mSeen_cons]
    by_cases hs : skipB lo seq last e = true
    · rw [if_pos hs, stepL, if_pos hs, List.nil_append, List.nil_append]
      exact seen_app lo seq p r last hp hk
    · rw [if_neg hs, stepL, if_neg hs, seen_app lo seq p r _ hp (fun k z x hx => by cases z; exact fun q => h e (List.mem_cons_self ..) x hx q.symm), List.append_assoc]
theorem seen_low (lo : ByteArray) (seq : Int) (last : Option ByteArray) : ∀ p : List MEn, (∀ e ∈ p, lt e.f0.f0 lo) → mSeen lo seq last p = []
  | [], _ => rfl
  | e :: p, h => by
    have hs := (skip_iff lo seq last e).2 (.inl (h e (List.mem_cons_self ..)))
    rw [mSeen_cons, if_pos hs, stepL, if_pos hs, List.nil_append]
    exact seen_low lo seq last p (fun x hx => h x (List.mem_cons_of_mem _ hx))
theorem seen_high (lo : ByteArray) (seq : Int) : ∀ (p : List MEn) (last : Option ByteArray), (∀ e ∈ p, ¬ lt e.f0.f0 lo) → mSeen lo seq last p = mSeen ⟨#[]⟩ seq last p
  | [], _, _ => rfl
  | e :: p, last, h => by
    have hp := fun x hx => h x (List.mem_cons_of_mem _ hx)
    have hse : skipB lo seq last e = skipB ⟨#[]⟩ seq last e := by
      rw [Bool.eq_iff_iff, skip_iff, skip_iff]
      constructor
      · rintro (q | q)
        · exact absurd q (h e (List.mem_cons_self ..))
        · exact .inr q
      · rintro (q | q)
        · exact absurd q (not_lt_empty _)
        · exact .inr q
    rw [mSeen_cons, mSeen_cons, hse, stepL, stepL, hse]
    split
    · rw [seen_high lo seq p _ hp]
    · rw [seen_high lo seq p _ hp]
theorem split_cut (cut : ByteArray) : ∀ l : List MEn, KeysUp l → ∃ T D, l = T ++ D ∧ (∀ e ∈ T, lt e.f0.f0 cut) ∧ (∀ e ∈ D, ¬ lt e.f0.f0 cut)
  | [], _ => ⟨[], [], rfl, fun e he => by simp at he, fun e he => by simp at he⟩
  | e :: r, h => by
    obtain ⟨h1, h2⟩ := List.pairwise_cons.1 h
    by_cases hc : lt e.f0.f0 cut
    · obtain ⟨T, D, rfl, hT, hD⟩ := split_cut cut r h2
      refine ⟨e :: T, D, rfl, fun x hx => ?_, hD⟩
      rcases List.mem_cons.1 hx with rfl | hx
      · exact hc
      · exact hT x hx
    · refine ⟨[], e :: r, rfl, fun x hx => by simp at hx, fun x hx => ?_⟩
      rcases List.mem_cons.1 hx with rfl | hx
      · exact hc
      · intro q
        rcases lt_tri x.f0.f0 e.f0.f0 with z | z | z
        · exact h1 x hx z
        · rw [z] at q; exact hc q
        · exact hc (lt_trans z q)
/-- What is seen, in two parts. -/
theorem seen_parts (cut : ByteArray) (seq : Int) {A : List MEn} (hK : KeysUp A) : mSeen ⟨#[]⟩ seq none A = ((mSeen ⟨#[]⟩ seq none A).takeWhile fun e => Op.bytesLess e.f0.f0.toList cut.toList) ++ mSeen cut seq none A := by
  obtain ⟨T, D, rfl, hT, hD⟩ := split_cut cut A hK
  have hne : ∀ e ∈ T, ∀ x ∈ D, e.f0.f0 ≠ x.f0.f0 := fun e he x hx z => hD x hx (by rw [← z]; exact hT e he)
  have hKT : KeysUp T := (List.pairwise_append.1 hK).1
  have hKD : KeysUp D := (List.pairwise_append.1 hK).2.1
  rw [seen_app ⟨#[]⟩ seq T D none hne (fun k z => by cases z), seen_app cut seq T D none hne (fun k z => by cases z), seen_low cut seq none T hT, List.nil_append, seen_high cut seq D none hD]
  congr 1
  have h1 := (seen_up ⟨#[]⟩ seq T none hKT (fun k z => by cases z)).2
  have h2 := (seen_up ⟨#[]⟩ seq D none hKD (fun k z => by cases z)).2
  rw [List.takeWhile_append_of_pos (fun x hx => hT x (h1 x hx).2.1)]
  cases hv : mSeen ⟨#[]⟩ seq none D with
  | nil => simp
  | cons x q =>
    have hx := hD x (h2 x (by rw [hv]; exact List.mem_cons_self ..)).2.1
    rw [List.takeWhile_cons, if_neg (show ¬ (Op.bytesLess x.f0.f0.toList cut.toList = true) from hx), List.append_nil]
def sWhole (L : List (List MEn)) (seq : Int) : List MPr := sPuts (mSeen ⟨#[]⟩ seq none (mAll (mSize L) L))
section
variable {L : List (List MEn)} (h : fineB L = true) (seq : Int)
include h
theorem sees_up : KeysUp (mAll (mSize L) L) := keys_up (mAll_up _ L (fine_fits h).1).1
theorem sees_len : (mAll (mSize L) L).length ≤ 120 := by have := mAll_len (mSize L) L; have := (fine_fits h).2.2.1; omega
theorem sees_seen (lo : ByteArray) : (mSeen lo seq none (mAll (mSize L) L)).length ≤ 120 := by have := mSeen_len lo seq (mAll (mSize L) L) none; have := sees_len h; omega
theorem sees_whole_len : (sWhole L seq).length ≤ 120 := by have := puts_len (mSeen ⟨#[]⟩ seq none (mAll (mSize L) L)); have := sees_seen h seq ⟨#[]⟩; unfold sWhole; omega
theorem sees_scan (n : Nat) : merge_Scan.f L ⟨#[]⟩ ⟨#[]⟩ seq (n : Int) = some ((sWhole L seq).take n) := by
  unfold merge_Scan.f
  rw [if_pos (fine_fits h).2.2.2, scan_take]
  simp [sWhole]
theorem sees_all : merge_Scan.f L ⟨#[]⟩ ⟨#[]⟩ seq 1000 = some (sWhole L seq) := by
  have h1 := sees_scan h seq 1000
  have h2 := sees_whole_len h seq
  rw [List.take_of_length_le (by omega)] at h1
  exact h1
theorem sees_get (key : ByteArray) : merge_Get.f L key seq = some (rGet key seq (mAll (mSize L) L)) := by
  unfold merge_Get.f
  rw [if_pos (fine_fits h).2.2.2, get_seen _ _ _ (sees_up h)]
theorem sees_has {p : MPr} (hp : p ∈ sWhole L seq) : merge_Get.f L p.f0 seq = some (p.f1, true) := by
  obtain ⟨x, hx, hk, rfl⟩ := mem_puts.1 hp
  rw [sees_get h, seen_get ⟨#[]⟩ seq _ none (sees_up h) (fun k z => by cases z) x hx, if_pos hk]
theorem sees_rise : (sWhole L seq).Pairwise (fun a b => lt a.f0 b.f0) := puts_up (seen_up ⟨#[]⟩ seq _ none (sees_up h) (fun k z => by cases z)).1
theorem sees_iff {e : MEn} (he : e ∈ mAll (mSize L) L) : ∃ v b, merge_Get.f L e.f0.f0 seq = some (v, b) ∧ (b = true ↔ ∃ p ∈ sWhole L seq, p.f0 = e.f0.f0) := by
  refine ⟨_, _, sees_get h seq e.f0.f0, ?_⟩
  constructor
  · intro hb
    obtain ⟨y, hy, hk, hq⟩ := rGet_some hb
    obtain ⟨x, hx, hxk⟩ := seen_has seq _ none y hy hq (fun z => by cases z)
    have hg := seen_get ⟨#[]⟩ seq _ none (sees_up h) (fun k z => by cases z) x hx
    rw [hxk, hk] at hg
    rw [hg] at hb
    by_cases h1 : x.f0.f2 = 1
    · exact ⟨_, mem_puts.2 ⟨x, hx, h1, rfl⟩, by rw [hxk, hk]⟩
    · rw [if_neg h1] at hb
      cases hb
  · rintro ⟨p, hp, hpe⟩
    have hg := sees_has h seq hp
    rw [sees_get h, hpe] at hg
    rw [Option.some.inj hg]
theorem sees_parts (cut : ByteArray) (hc : ¬ cut.toList = []) : ∃ a b, merge_Scan.f L ⟨#[]⟩ cut seq 1000 = some a ∧ merge_Scan.f L cut ⟨#[]⟩ seq 1000 = some b ∧ a ++ b = sWhole L seq := by
  have h1 := sees_seen h seq ⟨#[]⟩
  have h2 := sees_seen h seq cut
  refine ⟨sPuts ((mSeen ⟨#[]⟩ seq none (mAll (mSize L) L)).takeWhile fun e => Op.bytesLess e.f0.f0.toList cut.toList), sPuts (mSeen cut seq none (mAll (mSize L) L)), ?_, ?_, ?_⟩
  · unfold merge_Scan.f
    rw [if_pos (fine_fits h).2.2.2]
    have := scan_to cut hc 1000 (mSeen ⟨#[]⟩ seq none (mAll (mSize L) L)) [] (by simp; omega)
    rw [List.nil_append] at this
    exact congrArg some this
  · unfold merge_Scan.f
    rw [if_pos (fine_fits h).2.2.2]
    have := scan_take 1000 (mSeen cut seq none (mAll (mSize L) L)) []
    have h3 := puts_len (mSeen cut seq none (mAll (mSize L) L))
    rw [List.nil_append, List.take_of_length_le (by simp; omega)] at this
    exact congrArg some this
  · rw [← puts_app, ← seen_parts cut seq (sees_up h)]
    rfl
theorem sees_short {p : MPr} (hp : p ∈ sWhole L seq) : ∃ e ∈ mAll (mSize L) L, p.f0 = e.f0.f0 := by
  obtain ⟨x, hx, _, rfl⟩ := mem_puts.1 hp
  exact ⟨x, ((seen_up ⟨#[]⟩ seq _ none (sees_up h) (fun k z => by cases z)).2 x hx).2.1, rfl⟩
theorem all_short {e : MEn} (he : e ∈ mAll (mSize L) L) : Short e := by
  obtain ⟨i, l, hi, hx, _⟩ := (mem_mAll _ L (fine_fits h).1 (Nat.le_refl _) e).1 he
  unfold fineB at h
  rw [Bool.and_eq_true, List.all_eq_true] at h
  have h1 := h.1 l (List.mem_of_getElem? hi)
  unfold okL at h1
  rw [Bool.and_eq_true, Bool.and_eq_true] at h1
  exact of_decide_eq_true h1.1.1 e hx
end
end Go.Proofs.YtojemmipkpckbaaL

end

section
set_option linter.unusedVariables false
set_option linter.unusedSimpArgs false
namespace Go.Proofs.YtojemmipkpckbaaL
open Go Go.RowKit Go.Maps Go.Proofs.YtojemmipkpckbaaR Go.Proofs.YtojemmipkpckbaaG Go.Proofs.Ytojemmipkpckbaa.P Go.Proofs.YtojemmipkpckbaaW.PrintWords
attribute [local go_sem] str_geq str_gtr str_leq

/-- The map that a scan's keys come to. -/
def sHas (l : List MPr) : DataW Nat := l.foldl (fun m p => m.put (.string p.f0.data.toList) (.lit (.int .i64 1))) (.map [])
theorem sHas_snoc (l : List MPr) (p : MPr) : sHas (l ++ [p]) = (sHas l).put (.string p.f0.data.toList) (.lit (.int .i64 1)) := by
  unfold sHas
  rw [List.foldl_append]
  rfl
theorem sHas_at (s : ByteArray) : ∀ l : List MPr, (sHas l).atKey (.string s.data.toList) (.lit (.int .i64 0)) = .lit (.int .i64 (if ∃ p ∈ l, p.f0 = s then 1 else 0)) := by
  have gen : ∀ (l : List MPr) (m : DataW Nat) (b : Prop) [Decidable b], IsMap m → m.atKey (.string s.data.toList) (.lit (.int .i64 0)) = .lit (.int .i64 (if b then 1 else 0)) →
      (l.foldl (fun m p => m.put (.string p.f0.data.toList) (.lit (.int .i64 1))) m).atKey (.string s.data.toList) (.lit (.int .i64 0)) = .lit (.int .i64 (if b ∨ ∃ p ∈ l, p.f0 = s then 1 else 0)) := by
    intro l
    induction l with
    | nil => intro m b _ hm h; simpa using h
    | cons p r ih =>
      intro m b _ hm h
      rw [List.foldl_cons]
      by_cases hp : p.f0 = s
      · rw [ih _ True (hm.put _ _) (by rw [hp, atKey_put_same hm (by trivial)]; simp)]
        simp [hp]
      · have hne : (Lit.string s.data.toList) ≠ .string p.f0.data.toList := fun z => hp (by
          have h1 : s.data.toList = p.f0.data.toList := by injection z
          exact (by cases s; cases p; simp_all [Array.toList_inj]))
        rw [ih _ b (hm.put _ _) (by rw [atKey_put_other hne]; exact h)]
        simp [hp]
  intro l
  have := gen l (.map []) False isMap_empty (by simp; rfl)
  simpa [sHas] using this
theorem sees_law : Keyed Try.prog 9 := string_keyed Try.underlying9
theorem sees_zero (w : World) : (zeroValue 3).run Try.prog w = .ok (.int .i64 0) w := by kernel_rfl
set_option maxRecDepth 100000 in
set_option maxHeartbeats 4000000 in
theorem sees_calls (A0 : Option Addr) (c0 : Nat) (l0 : List (List MEn)) (cut : ByteArray) (seq : Int) (limit : Int) (w : World)
    (hr0 : Kd.C (Kd.slice 41 k41) w A0 l0.length l0) (hc0 : l0.length ≤ c0) (hsz : l0.length ≤ 10000000000000) (hin : ∀ l ∈ l0, l.length ≤ 9223372036854775807) (hm : 0 ≤ limit ∧ limit < 256) :
    Calls Try.prog 4 #[.slice A0 l0.length c0, .string cut, .int .u64 seq, .int .u8 limit] w fun e w' => e = .returned (.bool true) ∧ Below w.heap.size w w' := by
  obtain ⟨kf, hkf⟩ := Ev.rounds (fine_ev l0 hsz hin)
  obtain ⟨ka, hka⟩ := Ev.rounds awake11
  have HR0 := Aside0.mk hr0
  have HC0 := Aside0.mk hc0
  have HKF := Aside0.mk hkf
  have HAW := Aside0.mk hka
  have HMN := Aside0.mk hm
  clear hr0 hc0 hsz hin hkf hka hm
  have hmm := @run_makeMap Try.prog
  by_cases hg : fineB l0 = true ∧ ¬ (70 < (cut.size : Int))
  · have HFB := Aside0.mk hg.1
    rw [hg.1] at HKF
    have hkb : decide (70 < (cut.size : Int)) = false := decide_eq_false hg.2
    clear hg
    obtain ⟨wh, hwh⟩ : ∃ wh, wh = sWhole l0 seq := ⟨_, rfl⟩
    have H1 : Aside0 (merge_Scan.f l0 ⟨#[]⟩ ⟨#[]⟩ seq 1000 = some wh) := ⟨by rw [hwh]; exact sees_all HFB.out seq⟩
    have hw1 : wh.length ≤ 120 := by rw [hwh]; exact sees_whole_len HFB.out seq
    have hw2 : ∀ (j : Nat) (p : MPr), wh[j]? = some p → merge_Get.f l0 p.f0 seq = some (p.f1, true) := fun j p hp => sees_has HFB.out seq (by rw [← hwh]; exact List.mem_of_getElem? hp)
    have hw3 : ∀ (j : Nat) (p q : MPr), wh[j]? = some q → wh[j + 1]? = some p → Op.bytesLess q.f0.toList p.f0.toList = true := fun j p q hq hp => by
      have := sees_rise HFB.out seq
      rw [← hwh] at this
      obtain ⟨h1, rfl⟩ := List.getElem?_eq_some_iff.1 hq
      obtain ⟨h2, rfl⟩ := List.getElem?_eq_some_iff.1 hp
      exact List.pairwise_iff_getElem.1 this j (j + 1) h1 h2 (by omega)
    have hw4 : ∀ (j : Nat) (p : MPr), wh[j]? = some p → p.f0.size ≤ maxLen := fun j p hp => by
      obtain ⟨e, he, hpe⟩ := sees_short HFB.out seq (by rw [← hwh]; exact List.mem_of_getElem? hp : p ∈ sWhole l0 seq)
      have := all_short HFB.out he
      rw [hpe]
      unfold Short at this
      unfold maxLen
      omega
    have HW1 := Aside0.mk hw1
    have HW2 := Aside0.mk hw2
    have HW3 := Aside0.mk hw3
    have HW4 := Aside0.mk hw4
    have HWH := Aside0.mk hwh
    clear hwh hw1 hw2 hw3 hw4
    go_enter Try.func4, Try.ntmps4
    go_wp2_with (first | (go_at_call 14; refine (ratlinelaw11_Fine.calls kf _ _ l0 true _ HR0.out HC0.out HKF.out).mono ?_; rintro e w2 ⟨rfl, hb2⟩; have HB2 := Aside0.mk hb2; clear hb2 HKF) | (go_at_call 22; refine (merge_Scan.calls _ _ l0 ⟨#[]⟩ ⟨#[]⟩ seq 1000 wh _ (Kd.C_below HR0.out HB2.out) HC0.out H1.out).mono ?_; rintro e w3 ⟨v3, rfl, hr3, hb3⟩; obtain ⟨A3, c3, rfl, hc3, hC3⟩ := Kd.R_reads hr3; have HC3 := Aside0.mk hC3; have HC4 := Aside0.mk hc3; have HB3 := Aside0.mk (below_step HB2.out hb3); clear hr3 hc3 hC3 hb3))
    go_loopg [36] wh.length (fun kq v36 wr => ∃ j : Nat, v36 = .int .i64 (j : Int) ∧ Aside0 (j + kq = wh.length) ∧ Aside0 (Below w3.heap.size w3 wr) ∧ Aside0 (wr.ownsMap Try.prog 9 (plainElem Try.prog 3) w3.heap.size j (sHas (wh.take j))))
    case atStart => exact ⟨0, rfl, ⟨by omega⟩, ⟨below_alloc (Below.refl _ _) _⟩, ⟨World.ownsMap_made _ _ _ _⟩⟩
    case round =>
      obtain ⟨j, rfl, HJ, HB, HO⟩ := hrel
      by_cases hj : j < wh.length
      · cases gk with
        | zero => exact absurd HJ.out (by omega)
        | succ k1 =>
          have hjb : decide ((j : Int) < (wh.length : Int)) = true := decide_eq_true (by omega)
          have hjb2 : decide (j < wh.length) = true := decide_eq_true hj
          obtain ⟨ad, he, hx0, hx1⟩ := at_T37 (Kd.C_below HC3.out HB.out) (j : Int) (by omega) (by omega)
          subst he
          have hrd : rd_T37 wh (j : Int) = wh[j] := by
            show wh.getD ((j : Int)).toNat _ = _
            rw [Int.toNat_natCast, List.getD_eq_getElem?_getD, List.getElem?_eq_getElem hj]
            rfl
          rw [hrd] at hx0 hx1
          simp only [Int.toNat_natCast] at hx0 hx1
          obtain ⟨p, hp⟩ : ∃ p, p = wh[j] := ⟨_, rfl⟩
          rw [← hp] at hx0 hx1
          have hp2 : wh[j]? = some p := by rw [hp, List.getElem?_eq_getElem hj]
          have HP := Aside0.mk hp2
          clear hrd hp hp2
          have hj1 : wrap64 ((j : Int) + 1) = ((j + 1 : Nat) : Int) := by have := HW1.out; unfold wrap64; omega
          have HGET := Aside0.mk (HW2.out j p HP.out)
          have hkey := Go.WideMaps.keyOf_string_mk Try.underlying9 (HW4.out j p HP.out)
          have HKEY := Aside0.mk hkey
          clear hkey
          have HBW : Aside0 (Below w3.heap.size w3 (wr.alloc (.cells #[.string p.f0, .string p.f1] 37))) := ⟨below_alloc HB.out _⟩
          have HBX : Aside0 ((wr.alloc (.cells #[.string p.f0, .string p.f1] 37)).heap[wr.heap.size]? = some (.cells #[.string p.f0, .string p.f1] 37)) := ⟨blk_alloc_new wr _⟩
          have HO1 : Aside0 ((wr.alloc (.cells #[.string p.f0, .string p.f1] 37)).ownsMap Try.prog 9 (plainElem Try.prog 3) w3.heap.size j (sHas (wh.take j))) := ⟨HO.out.alloc _⟩
          have HJL := Aside0.mk hj
          by_cases hz : j = 0
          · have hgb : decide ((0 : Int) < (j : Int)) = false := decide_eq_false (by omega)
            have hgb2 : decide (0 < j) = false := decide_eq_false (by omega)
            clear hz
            go_wp2_with (first | (go_at_call 16; refine (merge_Get.calls _ _ l0 p.f0 seq p.f1 true _ (Kd.C_below HR0.out (below_step HB3.out HBW.out)) HC0.out HGET.out).mono ?_; rintro e w5 ⟨rfl, hb5⟩; have hbx5 := (hb5.block _ (blk_lt HBX.out)).trans HBX.out; have hq0 : w5.cell? ⟨wr.heap.size, 0, none⟩ = some (.string p.f0) := blk_cell hbx5 0; have hq1 : w5.cell? ⟨wr.heap.size, 1, none⟩ = some (.string p.f1) := blk_cell hbx5 1; have HO5 := Aside0.mk (HO1.out.kept (grown_of_below hb5 none) (by simp)); have HB5 := Aside0.mk (below_step HBW.out hb5); clear hb5 hbx5))
            go_quiet (fail)
            go_wp2_with (at_mapUpdate; refine wpList_mapUpdate_own _ ?hgd (.tmp 72) (.tmp 74) (.const (.int .i64 1)) 35 ?hop 9 3 sees_law Try.underlying35 (plainElem Try.prog 3) w3.heap.size j (sHas (wh.take j)) ?hm ?hown (by have := HW1.out; have := HJL.out; unfold maxLen; omega) (.string p.f0) (.int .i64 1) (.string p.f0.data.toList) ?hx ?hv HKEY.out (.lit (.int .i64 1)) [] (plainElem_int Try.underlying3 (by decide)) ?_; (case hgd => rfl); (case hop => rfl); (case hm => rfl); (case hown => exact HO5.out); (case hx => rfl); (case hv => rfl); intro w6 ho6 hg6; have HO6 := Aside0.mk ho6; have HG6 := Aside0.mk hg6; clear ho6 hg6)
            go_roundg k1
            case measure => exact Nat.lt_succ_self _
            case rel =>
              refine ⟨j + 1, by rw [hj1], ⟨by have := HJ.out; omega⟩, ⟨(pw_below_drewN HB5.out _).grown HG6.out HB5.out.size (fun k hk => by cases hk; exact Nat.le_refl _)⟩, ⟨?_⟩⟩
              rw [List.take_add_one, HP.out]
              show World.ownsMap _ _ _ _ _ _ (sHas (wh.take j ++ [p]))
              rw [sHas_snoc]
              exact HO6.out
          · have hgb : decide ((0 : Int) < (j : Int)) = true := decide_eq_true (by omega)
            have hgb2 : decide (0 < j) = true := decide_eq_true (by omega)
            have hjm : wrap64 ((j : Int) - 1) = ((j - 1 : Nat) : Int) := by have := HW1.out; unfold wrap64; omega
            have hjn : IntKind.i64.wrap ((j : Int) - 1) = ((j - 1 : Nat) : Int) := by have := HW1.out; rw [IntKind.wrap_i64]; omega
            have hj0 : 0 < j := by omega
            have hq2 : j - 1 < wh.length := by omega
            have hle := HW3.out (j - 1) p wh[j - 1] (List.getElem?_eq_getElem hq2) (by rw [show j - 1 + 1 = j by omega]; exact HP.out)
            obtain ⟨q, hq⟩ : ∃ q, q = wh[j - 1] := ⟨_, rfl⟩
            rw [← hq] at hle
            have HRQ : Aside0 (rd_T37 wh ((j - 1 : Nat) : Int) = q) := ⟨by
              show wh.getD (((j - 1 : Nat) : Int)).toNat _ = _
              rw [Int.toNat_natCast, List.getD_eq_getElem?_getD, List.getElem?_eq_getElem hq2, hq]
              rfl⟩
            clear hz hq
            go_wp2_with (first | (go_at_call 16; refine (merge_Get.calls _ _ l0 p.f0 seq p.f1 true _ (Kd.C_below HR0.out (below_step HB3.out HBW.out)) HC0.out HGET.out).mono ?_; rintro e w5 ⟨rfl, hb5⟩; have hbx5 := (hb5.block _ (blk_lt HBX.out)).trans HBX.out; have hq0 : w5.cell? ⟨wr.heap.size, 0, none⟩ = some (.string p.f0) := blk_cell hbx5 0; have hq1 : w5.cell? ⟨wr.heap.size, 1, none⟩ = some (.string p.f1) := blk_cell hbx5 1; have HO5 := Aside0.mk (HO1.out.kept (grown_of_below hb5 none) (by simp)); have HB5 := Aside0.mk (below_step HBW.out hb5); clear hb5 hbx5))
            obtain ⟨ad2, he2, hy0, hy1⟩ := at_T37 (Kd.C_below HC3.out HB5.out) ((j - 1 : Nat) : Int) (by omega) (by omega)
            cases he2
            rw [HRQ.out] at hy0 hy1
            simp only [Int.toNat_natCast] at hy0 hy1
            go_quiet (fail)
            go_wp2_with (at_mapUpdate; refine wpList_mapUpdate_own _ ?hgd (.tmp 72) (.tmp 74) (.const (.int .i64 1)) 35 ?hop 9 3 sees_law Try.underlying35 (plainElem Try.prog 3) w3.heap.size j (sHas (wh.take j)) ?hm ?hown (by have := HW1.out; have := HJL.out; unfold maxLen; omega) (.string p.f0) (.int .i64 1) (.string p.f0.data.toList) ?hx ?hv HKEY.out (.lit (.int .i64 1)) [] (plainElem_int Try.underlying3 (by decide)) ?_; (case hgd => rfl); (case hop => rfl); (case hm => rfl); (case hown => exact HO5.out); (case hx => rfl); (case hv => rfl); intro w6 ho6 hg6; have HO6 := Aside0.mk ho6; have HG6 := Aside0.mk hg6; clear ho6 hg6)
            go_roundg k1
            case measure => exact Nat.lt_succ_self _
            case rel =>
              refine ⟨j + 1, by rw [hj1], ⟨by have := HJ.out; omega⟩, ⟨(pw_below_drewN HB5.out _).grown HG6.out HB5.out.size (fun k hk => by cases hk; exact Nat.le_refl _)⟩, ⟨?_⟩⟩
              rw [List.take_add_one, HP.out]
              show World.ownsMap _ _ _ _ _ _ (sHas (wh.take j ++ [p]))
              rw [sHas_snoc]
              exact HO6.out
      · have hjb : decide ((j : Int) < (wh.length : Int)) = false := decide_eq_false (by omega)
        have hjb2 : decide (j < wh.length) = false := decide_eq_false hj
        have hjl : j = wh.length := by have := HJ.out; omega
        have ho := HO.out
        rw [hjl, List.take_length] at ho
        have HO := Aside0.mk ho
        clear ho hj
        obtain ⟨al, hal⟩ : ∃ al, al = mAll (mSize l0) l0 := ⟨_, rfl⟩
        have H2 : Aside0 (merge_All.f l0 = some al) := ⟨by unfold merge_All.f; rw [if_pos (fine_fits HFB.out).2.2.2, hal]⟩
        have HA1 : Aside0 (al.length ≤ 120) := ⟨by rw [hal]; exact sees_len HFB.out⟩
        have HA2 : Aside0 (∀ (j : Nat) (e : MEn), al[j]? = some e → ∃ v b, merge_Get.f l0 e.f0.f0 seq = some (v, b) ∧ (b = true ↔ ∃ p ∈ wh, p.f0 = e.f0.f0)) := ⟨fun j e he => by rw [HWH.out]; exact sees_iff HFB.out seq (by rw [← hal]; exact List.mem_of_getElem? he)⟩
        have HA3 : Aside0 (∀ (j : Nat) (e : MEn), al[j]? = some e → e.f0.f0.size ≤ maxLen) := ⟨fun j e he => by
          have := all_short HFB.out (by rw [← hal]; exact List.mem_of_getElem? he : e ∈ mAll (mSize l0) l0)
          unfold Short at this
          unfold maxLen
          omega⟩
        clear hal HW2 HW3 HW4
        go_wp2_with (go_at_call 19; refine (merge_All.calls _ _ l0 al _ (Kd.C_below HR0.out (below_step HB3.out HB.out)) HC0.out H2.out).mono ?_; rintro e w7 ⟨v7, rfl, hr7, hb7⟩; obtain ⟨A7, c7, rfl, hc7, hC7⟩ := Kd.R_reads hr7; have HC7 := Aside0.mk hC7; have HC8 := Aside0.mk hc7; have HB7 := Aside0.mk (below_step HB.out hb7); have HO7 := Aside0.mk (HO.out.kept (grown_of_below hb7 none) (by simp)); clear hr7 hc7 hC7 hb7)
        go_loopg [79] al.length (fun kq v79 wr => ∃ j : Nat, v79 = .int .i64 (j : Int) ∧ Aside0 (j + kq = al.length) ∧ Aside0 (Below w7.heap.size w7 wr))
        case atStart => exact ⟨0, rfl, ⟨by omega⟩, ⟨Below.refl _ _⟩⟩
        case round =>
          obtain ⟨j2, rfl, HJ2, HBL⟩ := hrel
          by_cases hj : j2 < al.length
          · cases gk with
            | zero => exact absurd HJ2.out (by omega)
            | succ k1 =>
              have hib : decide ((j2 : Int) < (al.length : Int)) = true := decide_eq_true (by omega)
              have hib2 : decide (j2 < al.length) = true := decide_eq_true hj
              obtain ⟨ad, he, hx0, hx1, hx2, hx3⟩ := at_T41 (Kd.C_below HC7.out HBL.out) (j2 : Int) (by omega) (by omega)
              subst he
              have hrd : rd_T41 al (j2 : Int) = al[j2] := by
                show al.getD ((j2 : Int)).toNat _ = _
                rw [Int.toNat_natCast, List.getD_eq_getElem?_getD, List.getElem?_eq_getElem hj]
                rfl
              rw [hrd] at hx0 hx1 hx2 hx3
              simp only [Int.toNat_natCast] at hx0 hx1 hx2 hx3
              obtain ⟨p, hp⟩ : ∃ p, p = al[j2] := ⟨_, rfl⟩
              rw [← hp] at hx0 hx1 hx2 hx3
              have hp2 : al[j2]? = some p := by rw [hp, List.getElem?_eq_getElem hj]
              obtain ⟨gv, gb, hgg, hiff⟩ := HA2.out j2 p hp2
              have hcc : ∀ c : Int, (sHas wh).atKey (.string p.f0.f0.data.toList) (.lit (.int .i64 0)) = .lit (.int .i64 c) → c = if gb = true then 1 else 0 := fun c hc => by
                rw [sHas_at] at hc
                injection hc with hc
                injection hc with _ hc
                rw [← hc]
                by_cases hb : gb = true
                · rw [if_pos hb, if_pos (hiff.1 hb)]
                · rw [if_neg hb, if_neg (fun z => hb (hiff.2 z))]
              have hkey := Go.WideMaps.keyOf_string_mk Try.underlying9 (HA3.out j2 p hp2)
              have HKEY := Aside0.mk hkey
              have HCC := Aside0.mk hcc
              have HGG := Aside0.mk hgg
              clear hrd hp hp2 hiff hcc hkey hgg
              have hj1 : wrap64 ((j2 : Int) + 1) = ((j2 + 1 : Nat) : Int) := by have := HA1.out; unfold wrap64; omega
              have HBW : Aside0 (Below w7.heap.size w7 (wr.alloc (.cells #[.string p.f0.f0, .int .u64 p.f0.f1, .int .u8 p.f0.f2, .string p.f1] 41))) := ⟨below_alloc HBL.out _⟩
              have HBX : Aside0 ((wr.alloc (.cells #[.string p.f0.f0, .int .u64 p.f0.f1, .int .u8 p.f0.f2, .string p.f1] 41)).heap[wr.heap.size]? = some (.cells #[.string p.f0.f0, .int .u64 p.f0.f1, .int .u8 p.f0.f2, .string p.f1] 41)) := ⟨blk_alloc_new wr _⟩
              cases gb
              all_goals
                go_wp2_with (first | (go_at_call 16; refine (merge_Get.calls _ _ l0 p.f0.f0 seq gv _ _ (Kd.C_below HR0.out (below_step HB3.out (below_step HB7.out HBW.out))) HC0.out HGG.out).mono ?_; rintro e w5 ⟨rfl, hb5⟩; have hbx5 := (hb5.block _ (blk_lt HBX.out)).trans HBX.out; have hq0 : w5.cell? ⟨wr.heap.size, 0, none⟩ = some (.string p.f0.f0) := blk_cell hbx5 0; have HB5 := Aside0.mk (below_step HBW.out hb5); have HO5 := Aside0.mk (HO7.out.kept (grown_of_below HB5.out none) (by simp)); clear hb5 hbx5) | (at_lookup; refine wpList_lookup_own_int _ ?hgd (.tmp 93) (.tmp 96) 35 ?hop 9 3 .i64 sees_law Try.underlying35 Try.underlying3 (sees_zero _) w3.heap.size wh.length (sHas wh) ?hm HO5.out (.string p.f0.f0) (.string p.f0.f0.data.toList) ?hx HKEY.out ?_; (case hgd => rfl); (case hop => rfl); (case hm => rfl); (case hx => rfl); intro c hat hwc; have hc := HCC.out c hat; subst hc; clear hat hwc; simp only [Bool.false_eq_true, if_false, if_true]))
                go_roundg k1
                case measure => exact Nat.lt_succ_self _
                case rel => exact ⟨j2 + 1, by rw [hj1], ⟨by have := HJ2.out; omega⟩, ⟨HB5.out⟩⟩
          · have hib : decide ((j2 : Int) < (al.length : Int)) = false := decide_eq_false (by omega)
            have hib2 : decide (j2 < al.length) = false := decide_eq_false hj
            have HBZ := Aside0.mk (below_step HB7.out HBL.out)
            obtain ⟨m, hm, hml⟩ : ∃ m : Nat, Int.tmod (wrap64 limit) (wrap64 ((wh.length : Int) + 2)) = (m : Int) ∧ m < wh.length + 2 := by
              have h1 := HMN.out
              have h2 := HW1.out
              refine ⟨limit.toNat % (wh.length + 2), ?_, Nat.mod_lt _ (by omega)⟩
              rw [show wrap64 limit = limit by unfold wrap64; omega, show wrap64 ((wh.length : Int) + 2) = ((wh.length + 2 : Nat) : Int) by unfold wrap64; omega, Int.tmod_eq_emod_of_nonneg h1.1, Int.natCast_emod, Int.toNat_of_nonneg h1.1]
            have hmz : ¬ (wrap64 ((wh.length : Int) + 2) = 0) := by have := HW1.out; unfold wrap64; omega
            have hsm := sees_scan HFB.out seq m
            rw [← HWH.out] at hsm
            obtain ⟨tk, htk⟩ : ∃ tk, tk = wh.take m := ⟨_, rfl⟩
            rw [← htk] at hsm
            have H5 := Aside0.mk hsm
            have HTK := Aside0.mk htk
            clear htk
            have HML := Aside0.mk hml
            clear hsm hml hj HA2 HA3 HO7 HO HA1
            go_wp2_with (first | (go_at_call 22; (refine (merge_Scan.calls _ _ l0 ⟨#[]⟩ ⟨#[]⟩ seq (m : Int) (wh.take m) _ (Kd.C_below HR0.out (below_step HB3.out HBZ.out)) HC0.out H5.out).mono ?_); rintro e w9 ⟨v9, rfl, hr9, hb9⟩; obtain ⟨A9, c9, rfl, hc9, hC9⟩ := Kd.R_reads hr9; have HC9 := Aside0.mk hC9; have HC10 := Aside0.mk hc9; have HBZ := Aside0.mk (below_step HBZ.out hb9); clear hr9 hc9 hC9 hb9))
            have HBY := Aside0.mk (below_drew1 HBZ.out)
            obtain ⟨kp, hkp⟩ := Ev.rounds (pairs_same tk (by rw [HTK.out, List.length_take]; have := HW1.out; omega))
            obtain ⟨kq, hkq⟩ := Ev.rounds (pairs_same wh (by have := HW1.out; omega))
            have HKP := Aside0.mk hkp
            have HKQ := Aside0.mk hkq
            clear hkp hkq
            have HPT : Aside0 (¬ cut.toList = [] → ∃ a b, merge_Scan.f l0 ⟨#[]⟩ cut seq 1000 = some a ∧ merge_Scan.f l0 cut ⟨#[]⟩ seq 1000 = some b ∧ a ++ b = wh) := ⟨fun z => by rw [HWH.out]; exact sees_parts HFB.out seq cut z⟩
            have hc4 : wh.length ≤ c3 := HC4.out
            by_cases hmn : wh.length < m
            · have htk : tk = wh := by rw [HTK.out]; exact List.take_of_length_le (by omega)
              have HPC : Aside0 (∀ (W : World) (A9 : Option Addr) (c9 : Nat), Below w3.heap.size w3 W → Kd.C k37 W A9 tk.length tk → tk.length ≤ c9 → Calls Try.prog 21 #[.slice A9 tk.length c9, .slice A3 wh.length c3] W fun e w' => e = .returned (.bool true) ∧ Drawn0 W w') := ⟨fun W A9 c9 hb h1 h2 => ratlinelaw11_Pairs.calls kp A9 c9 tk A3 c3 wh true W h1 h2 (Kd.C_below HC3.out hb) HC4.out (by have := HKP.out; rw [htk] at this ⊢; exact this)⟩
              clear htk
              go_region_law (first | (go_simp; go_at_call 22; (with_reducible refine (merge_Scan.calls _ _ l0 ⟨#[]⟩ ⟨#[]⟩ seq (m : Int) tk _ (Kd.C_below HR0.out (below_step HB3.out HBY.out)) HC0.out H5.out).mono ?_); rintro e w9 ⟨v9, rfl, hr9, hb9⟩; obtain ⟨A9, c9, rfl, hc9, hC9⟩ := Kd.R_reads hr9; have HC9 := Aside0.mk hC9; have HC10 := Aside0.mk hc9; have HBW := Aside0.mk (below_step HBY.out hb9); clear hr9 hc9 hC9 hb9) | (go_simp; go_at_call 21; (with_reducible refine (HPC.out _ _ _ HBW.out HC9.out HC10.out).mono ?_); rintro e w10 ⟨rfl, hd⟩; have HBV := Aside0.mk (below_step HBW.out hd.below); clear hd))
              all_goals
                by_cases hcut : cut.toList = []
                · have hcb : (cut.toList == ([] : List UInt8)) = true := by rw [hcut]; rfl
                  go_wp2_with (go_at_call 15; refine (ratlinelaw11_awake.calls ka true _ HAW.out).mono ?_; rintro e w11 ⟨rfl, hb11⟩)
                  go_ret
                  exact ⟨rfl, below_step HB3.out (below_step HBV.out hb11)⟩
                · have hcb : (cut.toList == ([] : List UInt8)) = false := by simpa using hcut
                  obtain ⟨pa, pb, hpa, hpb, hab⟩ := HPT.out hcut
                  have HPA := Aside0.mk hpa
                  have HPB := Aside0.mk hpb
                  have HAB := Aside0.mk hab
                  clear hpa hpb hab hcut
                  go_wp2_with (first | (go_at_call 22; (with_reducible refine (merge_Scan.calls _ _ l0 ⟨#[]⟩ cut seq 1000 pa _ (Kd.C_below HR0.out (below_step HB3.out HBV.out)) HC0.out HPA.out).mono ?_); rintro e w11 ⟨v11, rfl, hr11, hb11⟩; have HR11 := Aside0.mk (Kd.R_lower hr11 HBV.out.size); have HBV := Aside0.mk (below_step HBV.out hb11); clear hr11 hb11) | (go_at_call 22; (with_reducible refine (merge_Scan.calls _ _ l0 cut ⟨#[]⟩ seq 1000 pb _ (Kd.C_below HR0.out (below_step HB3.out HBV.out)) HC0.out HPB.out).mono ?_); rintro e w12 ⟨v12, rfl, hr12, hb12⟩; obtain ⟨A12, c12, rfl, hc12, hC12⟩ := Kd.R_reads hr12; have HC12 := Aside0.mk hC12; have HR11 := Aside0.mk (Kd.R_below HR11.out hb12); have HBV := Aside0.mk (below_step HBV.out hb12); clear hr12 hc12 hC12 hb12) | ((with_reducible refine gate_builtin (b := .append) (xs := #[.tmp 125, .tmp 129]) rfl ?_); at_builtin; refine Kd.R_append_rows k37 (w0 := w3) w3.heap.size rfl (.tmp 125) (.tmp 129) 32 37 (.agg #[.string ⟨#[]⟩, .string ⟨#[]⟩]) 32 rfl Try.underlying32 info37 rfl (by decide) (by decide) v11 pa pb _ _ _ (fun _ => True) (fun _ => False) rfl rfl ?aO ?aR (fun _ _ h => h) (fun _ h => h.elim) ?aF ?aB ?aS ?aL ?_; (case aO => exact HR11.out); (case aR => exact HC12.out); (case aF => exact (fun _ _ => trivial)); (case aB => exact HBV.out); (case aS => exact HBV.out.size); (case aL => have h1 := congrArg List.length HAB.out; have h2 := HW1.out; rw [List.length_append] at h1; omega); intro v13 w13 ho13 hb13 hg13 hat13; rw [HAB.out] at ho13; obtain ⟨A13, c13, rfl, hc13, hC13⟩ := Kd.R_reads ho13; have HC13 := Aside0.mk hC13; have HC14 := Aside0.mk hc13; have HBV := Aside0.mk hb13; clear ho13 hb13 hg13 hat13 hc13 hC13) | (go_at_call 21; (with_reducible refine (ratlinelaw11_Pairs.calls kq _ _ wh _ _ wh true _ HC13.out HC14.out (Kd.C_below HC3.out HBV.out) HC4.out HKQ.out).mono ?_); rintro e w14 ⟨rfl, hd14⟩; have HBV := Aside0.mk (below_step HBV.out hd14.below); clear hd14) | (go_at_call 15; refine (ratlinelaw11_awake.calls ka true _ HAW.out).mono ?_; rintro e w15 ⟨rfl, hb15⟩))
                  go_ret
                  exact ⟨rfl, below_step HB3.out (below_step HBV.out hb15)⟩
            · have htl : tk.length = m := by rw [HTK.out, List.length_take]; omega
              have hmc : m ≤ c3 := by omega
              have HPC : Aside0 (∀ (W : World) (A9 : Option Addr) (c9 : Nat), Below w3.heap.size w3 W → Kd.C k37 W A9 tk.length tk → tk.length ≤ c9 → Calls Try.prog 21 #[.slice A9 tk.length c9, .slice A3 m c3] W fun e w' => e = .returned (.bool true) ∧ Drawn0 W w') := ⟨fun W A9 c9 hb h1 h2 => by
                have h3 := Kd.C_take (m := m) (Kd.C_below HC3.out hb) (by omega)
                rw [← HTK.out] at h3
                have := ratlinelaw11_Pairs.calls kp A9 c9 tk A3 c3 tk true W h1 h2 h3 (by omega) HKP.out
                rwa [show (Value.slice A3 tk.length c3) = .slice A3 m c3 by rw [htl]] at this⟩
              clear htl
              go_region_law (first | (go_simp; go_at_call 22; (with_reducible refine (merge_Scan.calls _ _ l0 ⟨#[]⟩ ⟨#[]⟩ seq (m : Int) tk _ (Kd.C_below HR0.out (below_step HB3.out HBY.out)) HC0.out H5.out).mono ?_); rintro e w9 ⟨v9, rfl, hr9, hb9⟩; obtain ⟨A9, c9, rfl, hc9, hC9⟩ := Kd.R_reads hr9; have HC9 := Aside0.mk hC9; have HC10 := Aside0.mk hc9; have HBW := Aside0.mk (below_step HBY.out hb9); clear hr9 hc9 hC9 hb9) | (go_simp; go_at_call 21; (with_reducible refine (HPC.out _ _ _ HBW.out HC9.out HC10.out).mono ?_); rintro e w10 ⟨rfl, hd⟩; have HBV := Aside0.mk (below_step HBW.out hd.below); clear hd))
              all_goals
                by_cases hcut : cut.toList = []
                · have hcb : (cut.toList == ([] : List UInt8)) = true := by rw [hcut]; rfl
                  go_wp2_with (go_at_call 15; refine (ratlinelaw11_awake.calls ka true _ HAW.out).mono ?_; rintro e w11 ⟨rfl, hb11⟩)
                  go_ret
                  exact ⟨rfl, below_step HB3.out (below_step HBV.out hb11)⟩
                · have hcb : (cut.toList == ([] : List UInt8)) = false := by simpa using hcut
                  obtain ⟨pa, pb, hpa, hpb, hab⟩ := HPT.out hcut
                  have HPA := Aside0.mk hpa
                  have HPB := Aside0.mk hpb
                  have HAB := Aside0.mk hab
                  clear hpa hpb hab hcut
                  go_wp2_with (first | (go_at_call 22; (with_reducible refine (merge_Scan.calls _ _ l0 ⟨#[]⟩ cut seq 1000 pa _ (Kd.C_below HR0.out (below_step HB3.out HBV.out)) HC0.out HPA.out).mono ?_); rintro e w11 ⟨v11, rfl, hr11, hb11⟩; have HR11 := Aside0.mk (Kd.R_lower hr11 HBV.out.size); have HBV := Aside0.mk (below_step HBV.out hb11); clear hr11 hb11) | (go_at_call 22; (with_reducible refine (merge_Scan.calls _ _ l0 cut ⟨#[]⟩ seq 1000 pb _ (Kd.C_below HR0.out (below_step HB3.out HBV.out)) HC0.out HPB.out).mono ?_); rintro e w12 ⟨v12, rfl, hr12, hb12⟩; obtain ⟨A12, c12, rfl, hc12, hC12⟩ := Kd.R_reads hr12; have HC12 := Aside0.mk hC12; have HR11 := Aside0.mk (Kd.R_below HR11.out hb12); have HBV := Aside0.mk (below_step HBV.out hb12); clear hr12 hc12 hC12 hb12) | ((with_reducible refine gate_builtin (b := .append) (xs := #[.tmp 125, .tmp 129]) rfl ?_); at_builtin; refine Kd.R_append_rows k37 (w0 := w3) w3.heap.size rfl (.tmp 125) (.tmp 129) 32 37 (.agg #[.string ⟨#[]⟩, .string ⟨#[]⟩]) 32 rfl Try.underlying32 info37 rfl (by decide) (by decide) v11 pa pb _ _ _ (fun _ => True) (fun _ => False) rfl rfl ?aO ?aR (fun _ _ h => h) (fun _ h => h.elim) ?aF ?aB ?aS ?aL ?_; (case aO => exact HR11.out); (case aR => exact HC12.out); (case aF => exact (fun _ _ => trivial)); (case aB => exact HBV.out); (case aS => exact HBV.out.size); (case aL => have h1 := congrArg List.length HAB.out; have h2 := HW1.out; rw [List.length_append] at h1; omega); intro v13 w13 ho13 hb13 hg13 hat13; rw [HAB.out] at ho13; obtain ⟨A13, c13, rfl, hc13, hC13⟩ := Kd.R_reads ho13; have HC13 := Aside0.mk hC13; have HC14 := Aside0.mk hc13; have HBV := Aside0.mk hb13; clear ho13 hb13 hg13 hat13 hc13 hC13) | (go_at_call 21; (with_reducible refine (ratlinelaw11_Pairs.calls kq _ _ wh _ _ wh true _ HC13.out HC14.out (Kd.C_below HC3.out HBV.out) HC4.out HKQ.out).mono ?_); rintro e w14 ⟨rfl, hd14⟩; have HBV := Aside0.mk (below_step HBV.out hd14.below); clear hd14) | (go_at_call 15; refine (ratlinelaw11_awake.calls ka true _ HAW.out).mono ?_; rintro e w15 ⟨rfl, hb15⟩))
                  go_ret
                  exact ⟨rfl, below_step HB3.out (below_step HBV.out hb15)⟩
  · have HG := Aside0.mk hg
    clear hg
    go_enter Try.func4, Try.ntmps4
    go_wp2_with (first | (go_at_call 14; refine (ratlinelaw11_Fine.calls kf _ _ l0 (fineB l0) _ HR0.out HC0.out HKF.out).mono ?_; rintro e w2 ⟨rfl, hb2⟩; have HB2 := Aside0.mk hb2; clear hb2 HKF) | (go_at_call 15; refine (ratlinelaw11_awake.calls ka true _ HAW.out).mono ?_; rintro e w3 ⟨rfl, hb3⟩) | (go_at_call 22; exfalso; refine HG.out ⟨?_, ?_⟩ <;> first | assumption | (simp_all; done)))
    all_goals first
      | (go_ret; exact ⟨rfl, below_step HB2.out hb3⟩)
      | (exfalso; refine HG.out ⟨?_, ?_⟩ <;> first | assumption | (simp_all; done))
end Go.Proofs.YtojemmipkpckbaaL

end

section
set_option linter.unusedVariables false
namespace Go.Proofs.Ytojemmipkpckbaa.P
open Go Go.RowKit Go.Proofs.YtojemmipkpckbaaG Go.Proofs.YtojemmipkpckbaaL Go.Proofs.YtojemmipkpckbaaW.PrintWords
def ratlinelaw11_MergeSees.f (_ : Nat) (l0 : List (List MEn)) (_ : ByteArray) (_ : Int) (a3 : Int) : Option Bool :=
  if l0.length ≤ 10000000000000 ∧ (∀ l ∈ l0, l.length ≤ 9223372036854775807) ∧ (0 ≤ a3 ∧ a3 < 256) then some true else none
theorem ratlinelaw11_MergeSees.calls (k : Nat) (A0 : Option Addr) (c0 : Nat) (l0 : List (List MEn)) (a1 : ByteArray) (a2 : Int) (a3 : Int) (r : Bool) (w : World)
    (hr0 : Kd.C (Kd.slice 41 k41) w A0 l0.length l0) (hc0 : l0.length ≤ c0) (h : ratlinelaw11_MergeSees.f k l0 a1 a2 a3 = some r) :
    Calls Try.prog 4 #[.slice A0 l0.length c0, .string a1, .int .u64 a2, .int .u8 a3] w fun e w' => e = .returned (.bool r) ∧ Below w.heap.size w w' := by
  unfold ratlinelaw11_MergeSees.f at h
  by_cases hc : l0.length ≤ 10000000000000 ∧ (∀ l ∈ l0, l.length ≤ 9223372036854775807) ∧ (0 ≤ a3 ∧ a3 < 256)
  · rw [if_pos hc] at h
    obtain rfl := Option.some.inj h
    exact sees_calls A0 c0 l0 a1 a2 a3 w hr0 hc0 hc.1 hc.2.1 hc.2.2
  · rw [if_neg hc] at h
    cases h
end Go.Proofs.Ytojemmipkpckbaa.P

end

section
set_option linter.unusedVariables false
namespace Go.Proofs.Ytojemmipkpckbaa.Pure
open Go Go.RowKit Go.Proofs.Ytojemmipkpckbaa.P Go.Proofs.YtojemmipkpckbaaG Go.Proofs.YtojemmipkpckbaaL
theorem MergeSees (L : List (List MEn)) (_ : L.length ≤ maxLen) (hl : L.length * 24 ≤ 140737488351232) (hw : ∀ l ∈ L, l.length ≤ maxLen ∧ ∀ e ∈ l, (e.f0.f0.size ≤ maxLen ∧ (Lit.int .u64 e.f0.f1).wf = true ∧ (Lit.int .u8 e.f0.f2).wf = true) ∧ e.f1.size ≤ maxLen)
    (a1 : ByteArray) (_ : a1.size ≤ maxLen) (a2 : Int) (_ : (Lit.int .u64 a2).wf = true) (a3 : Int) (h3 : (Lit.int .u8 a3).wf = true) :
    ∃ k, ratlinelaw11_MergeSees.f k L a1 a2 a3 = some true := by
  refine ⟨0, ?_⟩
  unfold ratlinelaw11_MergeSees.f
  simp [Lit.wf, IntKind.min, IntKind.max, IntKind.bits, IntKind.signed] at h3
  rw [if_pos ⟨by omega, fun l hl => by have := (hw l hl).1; simp only [maxLen] at this; omega, by omega, by omega⟩]
end Go.Proofs.Ytojemmipkpckbaa.Pure

end

section
set_option linter.unusedVariables false
namespace Go.Proofs.YtojemmipkpckbaaG
open Go Go.RowKit Go.Proofs.YtojemmipkpckbaaW.PrintWords

/-- What is trodden of this type is of this kind, and is right. -/
def Opens {α : Type} (P : Program) (t : TypeId) (d : Kd α) (wf : α → Prop) : Prop :=
  ∀ (H : Type) (enc : TypeId × Value → H) (w : World) (base : Nat) (sp : Nat → Bool) (held : Bool) (fuel : Nat) (cs : List Value) (x : DataW H × List MemPlace),
    DataW.trod enc P w base sp held fuel t cs = some x → ∃ a, d.K w a cs ∧ wf a
section
variable {P : Program} {t e : TypeId}
theorem opens_int {k : IntKind} (ht : P.underlying t = some (.int k)) : Opens P t (Kd.int k) (fun n => (Lit.int k n).wf = true) := by
  intro H enc w base sp held fuel cs x h
  obtain ⟨n, rfl, _, hw⟩ := DataW.trod_int ht h
  exact ⟨n, rfl, hw⟩
theorem opens_string (ht : P.underlying t = some .string) : Opens P t Kd.string (fun s => s.size ≤ maxLen) := by
  intro H enc w base sp held fuel cs x h
  obtain ⟨n, rfl, _, hm⟩ := DataW.trod_string ht h
  exact ⟨n, rfl, hm⟩
theorem build {α : Type} {Q : Nat → α → Prop} : ∀ n : Nat, (∀ i, i < n → ∃ a, Q i a) → ∃ l : List α, l.length = n ∧ ∀ i a, l[i]? = some a → Q i a := by
  intro n
  induction n with
  | zero => intro _; exact ⟨[], rfl, fun i a h => by simp at h⟩
  | succ n ih =>
    intro h
    obtain ⟨l, hl, hq⟩ := ih (fun i hi => h i (by omega))
    obtain ⟨a, ha⟩ := h n (by omega)
    refine ⟨l ++ [a], by simp [hl], fun i b hb => ?_⟩
    by_cases hi : i < n
    · rw [List.getElem?_append_left (by omega)] at hb
      exact hq i b hb
    · rw [List.getElem?_append_right (by omega)] at hb
      by_cases hin : i = n
      · subst hin
        rw [hl, Nat.sub_self] at hb
        simp at hb
        exact hb ▸ ha
      · rw [List.getElem?_eq_none (by simp; omega)] at hb
        cases hb
theorem opens_row {α : Type} {d : Kd α} {wf : α → Prop} (hc : P.cellsOf e = d.sz) (ht : P.underlying t = some (.slice e)) (he : Opens P e d wf)
    {H : Type} {enc : TypeId × Value → H} {w : World} {base : Nat} {sp : Nat → Bool} {held : Bool} {fuel : Nat} {cs : List Value} {x : DataW H × List MemPlace} (h : DataW.trod enc P w base sp held fuel t cs = some x) :
    ∃ (A : Option Addr) (c : Nat) (xs : List α), cs = [.slice A xs.length c] ∧ xs.length ≤ c ∧ c ≤ maxLen ∧ d.C w A xs.length xs ∧ ∀ a ∈ xs, wf a := by
  rcases DataW.trod_slice ht h with ⟨rfl, _⟩ | ⟨ad, len, cap, elems, rest, n, _, rfl, _, hb, hl, hm, hn, hel, _, _⟩
  · exact ⟨none, 0, [], rfl, Nat.le_refl _, by decide, Kd.C_nil d w, fun a ha => by cases ha⟩
  · obtain ⟨xs, hxl, hx⟩ := build (Q := fun i a => wf a ∧ ∃ c, c.length = d.sz ∧ d.K w a c ∧ ∀ j u, c[j]? = some u → w.cell? (ad.add (i * d.sz + j)) = some u) len (fun i hi => by
      have h1 := hel i hi
      rw [List.getElem?_eq_getElem (by omega)] at h1
      obtain ⟨cs', hcs, htr⟩ := Option.bind_eq_some_iff.1 h1
      obtain ⟨a, ha, hw⟩ := he H enc w base sp held n cs' _ htr
      have hlen := d.K_len ha
      obtain ⟨_, hlen2, hcell⟩ := World.cells?_some hcs
      refine ⟨a, hw, cs', hlen, ha, fun j u hj => ?_⟩
      have hjl : j < cs'.length := by
        by_cases hjl : j < cs'.length
        · exact hjl
        · rw [List.getElem?_eq_none (by omega)] at hj; cases hj
      have h2 := hcell j (by omega)
      rw [hc] at h2
      have hadd : (ad.add (i * d.sz)).add j = ad.add (i * d.sz + j) := Addr.add_add ad _ _
      rw [← hadd, h2, hj])
    have hmax : maxLen ≤ 9223372036854775807 := by decide
    refine ⟨some ad, cap, xs, by rw [hxl], by omega, hm, ⟨rfl, by omega, fun _ => ⟨ad, rfl, fun j p hp => (hx j p hp).2⟩⟩, fun a ha => ?_⟩
    obtain ⟨i, hi⟩ := List.mem_iff_getElem?.1 ha
    exact (hx i a hi).1
theorem opens_slice {α : Type} {d : Kd α} {wf : α → Prop} (hc : P.cellsOf e = d.sz) (ht : P.underlying t = some (.slice e)) (he : Opens P e d wf) :
    Opens P t (Kd.slice e d) (fun l => l.length ≤ maxLen ∧ ∀ a ∈ l, wf a) := by
  intro H enc w base sp held fuel cs x h
  obtain ⟨A, c, xs, rfl, hl, hm, hC, hw⟩ := opens_row hc ht he h
  exact ⟨xs, ⟨A, c, rfl, hl, hC⟩, by omega, hw⟩
theorem Opens.iso {α β : Type} {d : Kd α} {wf : α → Prop} (h : Opens P t d wf) (f : β → α) (g : α → β) (hfg : ∀ a, f (g a) = a) : Opens P t (Kd.iso d f) (fun b => wf (f b)) := by
  intro H enc w base sp held fuel cs x htr
  obtain ⟨a, ha, hw⟩ := h H enc w base sp held fuel cs x htr
  exact ⟨g a, by show d.K w (f (g a)) cs; rw [hfg]; exact ha, by show wf (f (g a)); rw [hfg]; exact hw⟩
end

/-- A field of a struct. -/
theorem opens_field {α : Type} {P : Program} {t e : TypeId} {fs : Array Field} {d : Kd α} {wf : α → Prop} {off i : Nat} {f : Field} (ht : P.underlying t = some (.struct fs)) (hi : fs[i]? = some f) (hft : f.type = e) (hfo : f.offset = off) (hc : P.cellsOf e = d.sz) (he : Opens P e d wf)
    {H : Type} {enc : TypeId × Value → H} {w : World} {base : Nat} {sp : Nat → Bool} {held : Bool} {fuel : Nat} {cs : List Value} {x : DataW H × List MemPlace} (h : DataW.trod enc P w base sp held fuel t cs = some x) :
    ∃ a, d.K w a ((cs.drop off).take d.sz) ∧ wf a := by
  obtain ⟨xs, n, _, _, _, hn, hf⟩ := DataW.trod_struct ht h
  have h1 := hf i f hi
  have hil : i < xs.length := by
    rw [hn]
    exact (Array.getElem?_eq_some_iff.1 hi).1
  rw [List.getElem?_eq_getElem hil, hft, hfo, hc] at h1
  exact he H enc w base sp held n _ _ h1
theorem opens_cells {P : Program} {t : TypeId} {fs : Array Field} (ht : P.underlying t = some (.struct fs)) {H : Type} {enc : TypeId × Value → H} {w : World} {base : Nat} {sp : Nat → Bool} {held : Bool} {fuel : Nat} {cs : List Value} {x : DataW H × List MemPlace} (h : DataW.trod enc P w base sp held fuel t cs = some x) :
    cs.length = P.cellsOf t := by
  obtain ⟨xs, n, _, _, hl, _⟩ := DataW.trod_struct ht h
  exact hl
theorem opens_struct2 {α β : Type} {P : Program} {t ta tb : TypeId} {fs : Array Field} {a : Kd α} {b : Kd β} {wa : α → Prop} {wb : β → Prop} (ht : P.underlying t = some (.struct fs)) (hc : P.cellsOf t = a.sz + b.sz)
    (f0 : (fs[0]?).map (fun f => (f.type, f.offset)) = some (ta, 0)) (f1 : (fs[1]?).map (fun f => (f.type, f.offset)) = some (tb, a.sz)) (ca : P.cellsOf ta = a.sz) (cb : P.cellsOf tb = b.sz) (oa : Opens P ta a wa) (ob : Opens P tb b wb) :
    Opens P t (Kd.pair a b) (fun x => wa x.1 ∧ wb x.2) := by
  intro H enc w base sp held fuel cs x h
  obtain ⟨g0, e0, q0⟩ := Option.map_eq_some_iff.1 f0
  obtain ⟨g1, e1, q1⟩ := Option.map_eq_some_iff.1 f1
  simp only [Prod.mk.injEq] at q0 q1
  obtain ⟨x0, k0, w0⟩ := opens_field ht e0 q0.1 q0.2 ca oa h
  obtain ⟨x1, k1, w1⟩ := opens_field ht e1 q1.1 q1.2 cb ob h
  have hl := opens_cells ht h
  have hsp : (cs.drop a.sz).take b.sz = cs.drop a.sz := List.take_of_length_le (by rw [List.length_drop]; omega)
  rw [List.drop_zero] at k0
  rw [hsp] at k1
  exact ⟨(x0, x1), ⟨cs.take a.sz, cs.drop a.sz, (List.take_append_drop _ _).symm, k0, k1⟩, w0, w1⟩
theorem opens_struct3 {α β γ : Type} {P : Program} {t ta tb tc : TypeId} {fs : Array Field} {a : Kd α} {b : Kd β} {c : Kd γ} {wa : α → Prop} {wb : β → Prop} {wc : γ → Prop} (ht : P.underlying t = some (.struct fs)) (hc : P.cellsOf t = a.sz + (b.sz + c.sz))
    (f0 : (fs[0]?).map (fun f => (f.type, f.offset)) = some (ta, 0)) (f1 : (fs[1]?).map (fun f => (f.type, f.offset)) = some (tb, a.sz)) (f2 : (fs[2]?).map (fun f => (f.type, f.offset)) = some (tc, a.sz + b.sz)) (ca : P.cellsOf ta = a.sz) (cb : P.cellsOf tb = b.sz) (cc : P.cellsOf tc = c.sz) (oa : Opens P ta a wa) (ob : Opens P tb b wb) (oc : Opens P tc c wc) :
    Opens P t (Kd.pair a (Kd.pair b c)) (fun x => wa x.1 ∧ wb x.2.1 ∧ wc x.2.2) := by
  intro H enc w base sp held fuel cs x h
  obtain ⟨g0, e0, q0⟩ := Option.map_eq_some_iff.1 f0
  obtain ⟨g1, e1, q1⟩ := Option.map_eq_some_iff.1 f1
  obtain ⟨g2, e2, q2⟩ := Option.map_eq_some_iff.1 f2
  simp only [Prod.mk.injEq] at q0 q1 q2
  obtain ⟨x0, k0, w0⟩ := opens_field ht e0 q0.1 q0.2 ca oa h
  obtain ⟨x1, k1, w1⟩ := opens_field ht e1 q1.1 q1.2 cb ob h
  obtain ⟨x2, k2, w2⟩ := opens_field ht e2 q2.1 q2.2 cc oc h
  have hl := opens_cells ht h
  have hsp : (cs.drop (a.sz + b.sz)).take c.sz = (cs.drop a.sz).drop b.sz := by rw [List.take_of_length_le (by rw [List.length_drop]; omega), List.drop_drop]
  rw [List.drop_zero] at k0
  rw [hsp] at k2
  exact ⟨(x0, x1, x2), ⟨cs.take a.sz, cs.drop a.sz, (List.take_append_drop _ _).symm, k0, _, _, (List.take_append_drop b.sz _).symm, k1, k2⟩, w0, w1, w2⟩
/-- A row's slice is no longer than its weight allows. -/
theorem sized_row {H : Type} {enc : TypeId × Value → H} {P : Program} {W : World} {base : Nat} {spare : Nat → Bool} {held : Bool} {t e : TypeId} {a : Option Addr} {len cap : Nat} {d : DataW H} {ps : List MemPlace} {ts : List TypeId} {ds : List (DataW H)} {j : Nat}
    (hsz : (DataW.weightsEach P ts ds).all (· ≤ reachBytes) = true) (ht : ts[j]? = some t) (hd : ds[j]? = some d) (hu : P.underlying t = some (.slice e)) (B : Nat) (hB : P.bytesOf e = B)
    (h : DataW.Trod enc P W base spare held t (.slice a len cap) d ps) : len * B ≤ 140737488351232 := by
  obtain ⟨fuel, hf⟩ := h
  rcases DataW.trod_slice hu hf with ⟨hcs, _⟩ | ⟨ad, l, c, elems, rest, n, _, hcs, hx, _, _, _, hn, _⟩
  · simp only [Value.cells, List.cons.injEq, Value.slice.injEq, and_true] at hcs
    obtain ⟨rfl, rfl, rfl⟩ := hcs
    rw [Nat.zero_mul]; omega
  · simp only [Value.cells, List.cons.injEq, Value.slice.injEq, and_true] at hcs
    obtain ⟨rfl, rfl, rfl⟩ := hcs
    obtain ⟨hx, _⟩ := Prod.mk.inj hx
    subst hx
    have z := sized_slice hsz ht hd hu
    rw [hB, List.length_map, List.length_map] at z
    exact Nat.le_trans (Nat.mul_le_mul_right _ (by omega)) z
end Go.Proofs.YtojemmipkpckbaaG

end

section
set_option linter.unusedVariables false
namespace Go.Proofs.Ytojemmipkpckbaa.mergeSees
open Go Go.ChangeShapes Go.WideShapes Go.ChangeAt Go.RowKit Go.Proofs.YtojemmipkpckbaaG Go.Proofs.Ytojemmipkpckbaa.P Go.Proofs.YtojemmipkpckbaaW.PrintWords
open Go.ChangeMaps (open_string shut_string)
theorem own : ownKnob Try.prog.godebug = none := by kernel_rfl
theorem laidOut : laidOutB Try.prog = true := by kernel_rfl
set_option maxRecDepth 100000 in
theorem lifted (os : Os) (started : os.Started) (H : Type) (enc : TypeId × Value → H) :
    ReturnsInHanded {} Try.checked os 4 .any (Rows.mergeSeesSpec.pre6 enc Try.prog Try.f4 Rows.mergeSeesRow.domain false) (Rows.mergeSeesSpec.post enc Try.prog Try.f4 false true false false) := by
  refine returnsInHanded_of_change_sized (C := Try.checked) own started (by kernel_rfl) Try.func4
    (ChangeSpec.witness6 (enc := enc) (C := Try.checked) false ⟨#[], #[.slice none 0 0, .string ⟨#[]⟩, .int .u64 0, .int .u8 0], []⟩ 8 (by kernel_rfl) (by kernel_rfl) (by kernel_rfl) (by kernel_rfl)) ?_
  intro W base args ds gs before hval0 hW hcnd hsz0 _
  have hsz : (DataW.weightsEach Try.prog (Try.f4.params.toList ++ Rows.mergeSeesSpec.plain.varTypes Try.prog) (ds ++ gs)).all (· ≤ reachBytes) = true := hsz0
  have hval : ∀ (j : Nat) t v, Try.f4.params[j]? = some t → args[j]? = some v → Value.okWide Try.prog W .any base t v := hval0
  have hW' := hW
  obtain ⟨p, q, hA0, hV, rfl, hfz, hnd⟩ := hW
  have hA : DataW.TrodAll enc Try.prog W 0 (fun _ => true) true Try.f4.params.toList args.toList ds p := hA0
  rw [Try.params4] at hA hval hsz
  obtain ⟨v0, vs0, d0, ds0, p0, q0, hargs, rfl, rfl, h0, r0⟩ := trodAll_cons hA
  obtain ⟨v1, vs1, d1, ds1, p1, q1, rfl, rfl, rfl, h1, r1⟩ := trodAll_cons r0
  obtain ⟨v2, vs2, d2, ds2, p2, q2, rfl, rfl, rfl, h2, r2⟩ := trodAll_cons r1
  obtain ⟨v3, vs3, d3, ds3, p3, q3, rfl, rfl, rfl, h3, r3⟩ := trodAll_cons r2
  obtain ⟨rfl, rfl, rfl⟩ := trodAll_nil r3
  obtain rfl : args = #[v0, v1, v2, v3] := by cases args; simp_all
  obtain ⟨rfl, rfl⟩ := trodVars_none hV
  obtain ⟨a0, len0, cap0, rfl⟩ := okWide_slice Try.underlying22 (hval 0 22 v0 rfl rfl)
  have k0 := h0
  have y0 := sized_row hsz (j := 0) (t := 22) rfl rfl Try.underlying22 24 (by kernel_rfl) h0
  have lt0 : ∀ x ∈ p0, x.block < W.heap.size := by obtain ⟨m, hm⟩ := k0; exact DataW.trod_lt m _ _ _ hm
  obtain ⟨fuel0, hf0⟩ := h0
  obtain ⟨A0, c0, l0, hcs0, hl0, hm0, hC0, hw0⟩ := opens_row (by kernel_rfl) Try.underlying22 (opens_slice (by kernel_rfl) Try.underlying29 (show Opens Try.prog 41 k41 _ from Opens.iso (opens_struct2 (ta := 39) (tb := 9) Try.underlying41 (by kernel_rfl) (by kernel_rfl) (by kernel_rfl) (by kernel_rfl) (by kernel_rfl) (show Opens Try.prog 39 k39 _ from Opens.iso (opens_struct3 (ta := 9) (tb := 23) (tc := 5) Try.underlying39 (by kernel_rfl) (by kernel_rfl) (by kernel_rfl) (by kernel_rfl) (by kernel_rfl) (by kernel_rfl) (by kernel_rfl) (opens_string Try.underlying9) (opens_int Try.underlying23) (opens_int Try.underlying5)) (fun x : S39 => (x.f0, x.f1, x.f2)) (fun q => ⟨q.1, q.2.1, q.2.2⟩) (fun _ => rfl)) (opens_string Try.underlying9)) (fun x : S41 => (x.f0, x.f1)) (fun q => ⟨q.1, q.2⟩) (fun _ => rfl))) hf0
  simp only [Value.cells, List.cons.injEq, Value.slice.injEq, and_true] at hcs0
  obtain ⟨rfl, rfl, rfl⟩ := hcs0
  obtain ⟨a1, rfl, rfl, rfl, w1⟩ := open_string Try.underlying9 (hval 1 9 v1 rfl rfl) h1
  obtain ⟨a2, rfl, rfl, rfl, w2⟩ := open_int Try.underlying23 (hval 2 23 v2 rfl rfl) h2
  obtain ⟨a3, rfl, rfl, rfl, w3⟩ := open_int Try.underlying5 (hval 3 5 v3 rfl rfl) h3
  obtain ⟨k, h⟩ := Pure.MergeSees l0 (Nat.le_trans hl0 hm0) y0 hw0 a1 w1 a2 w2 a3 w3
  clear hA0 hval0 hsz0 hsz
  refine (P.ratlinelaw11_MergeSees.calls k _ _ l0 a1 a2 a3 true W hC0 hl0 h).mono fun e W' ⟨he, bel⟩ => ?_
  subst he
  exact ⟨_, rfl, _, _, _, [], _, [], hW', trodAll_mk1 (shut_bool Try.underlying4 _), (trodAll_cons_mk (Below.trod laidOut (by kernel_rfl) (of_decide_eq_true (by kernel_rfl)) k0 bel lt0) (trodAll_cons_mk (shut_string Try.underlying9 w1) (trodAll_cons_mk (shut_int Try.underlying23 w2) (trodAll_cons_mk (shut_int Try.underlying5 w3) trodAll_mk0)))), rfl, bel.frame _, fun h => by cases h⟩
theorem over : Rows.mergeSeesRow.holds Try.pinned (OpenSpec.ofChange Rows.mergeSeesSpec) :=
  OpenClaim.holds_of_wide 4 Try.f4 rfl rfl rfl rfl rfl rfl rfl ⟨rfl, rfl, rfl, rfl, rfl⟩ rfl rfl rfl rfl rfl (by kernel_rfl) Try.func4 (by kernel_rfl)
    (of_decide_eq_true (by kernel_rfl)) (by unfold Func.isWrapper; first | (rw [if_pos (by decide +kernel)]; kernel_rfl) | (rw [if_neg (by decide +kernel)]; exact ⟨rfl, rfl⟩))
    (fun os started H enc _ => lifted os started H enc)
theorem proved : Rows.MergeSeesSaid := over
#print axioms proved
end Go.Proofs.Ytojemmipkpckbaa.mergeSees
namespace Go.Proofs.Ytojemmipkpckbaa
/-- The row, under a short name, for the claim. -/
theorem mergeSees_holds : Rows.MergeSeesSaid := mergeSees.proved
end Go.Proofs.Ytojemmipkpckbaa

end
