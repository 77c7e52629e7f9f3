/- Proved here: the row of MergeAll, and what it needs. Conditions: those of each theorem. Written for this claim by programs; what the claim does not use is left out. -/
import Derived.Maps.OwnSet
import Derived.Maps.Views
import Derived.DeepKeys4
import Derived.Deep.RegionLaw
import Derived.Maps.OwnOps
import Derived.ChangeArms
import Derived.DataReads
import Derived.DataElems
import Derived.OpenShut
import Derived.SizedLaws
import Derived.Test.YtojemmipkpckbaaRows
import Derived.WalkKit
import Derived.ProofKit
import Derived.ShutString
import Derived.ChangeOld
import Derived.Below
import Derived.Test.YtojemmipkpckbaaSMergeAll3
section
set_option linter.unusedVariables false
namespace Go.Proofs.YtojemmipkpckbaaL
open Go Go.RowKit Go.Proofs.YtojemmipkpckbaaG Go.Proofs.Ytojemmipkpckbaa.P Go.Proofs.YtojemmipkpckbaaW.PrintWords Go.Proofs.YtojemmipkpckbaaW.PrintMore

def wa : ByteArray := ⟨#[97]⟩
def wb : ByteArray := ⟨#[98]⟩
def wc : ByteArray := ⟨#[99]⟩
def wx : ByteArray := ⟨#[120]⟩
def wy : ByteArray := ⟨#[121]⟩
def wz : ByteArray := ⟨#[122]⟩
def e0 : MEn := ⟨⟨wa, 9, 0⟩, ⟨#[]⟩⟩
def e1 : MEn := ⟨⟨wb, 4, 1⟩, wy⟩
def e2 : MEn := ⟨⟨wa, 5, 1⟩, wx⟩
def e3 : MEn := ⟨⟨wb, 4, 1⟩, wz⟩
def exL : List (List MEn) := [[e0, e1], [e2, e3]]
theorem ex_fits : mFits exL := ⟨by decide, by decide⟩
theorem ex_all : mAll (mSize exL) exL = [e0, e2, e1] := by kernel_rfl
theorem all_ex : merge_All.f exL = some [e0, e2, e1] := by unfold merge_All.f; rw [if_pos ex_fits, ex_all]
theorem get_ex (k : ByteArray) (q : Int) : merge_Get.f exL k q = some (mGet k (mSeen k q none [e0, e2, e1])) := by unfold merge_Get.f; rw [if_pos ex_fits, ex_all]
theorem scan_ex (a b : ByteArray) (q l : Int) : merge_Scan.f exL a b q l = some (mScan b l [] (mSeen a q none [e0, e2, e1])) := by unfold merge_Scan.f; rw [if_pos ex_fits, ex_all]
theorem g1 : mGet wa (mSeen wa 9 none [e0, e2, e1]) = (⟨#[]⟩, false) := by kernel_rfl
theorem g2 : mGet wa (mSeen wa 8 none [e0, e2, e1]) = (wx, true) := by kernel_rfl
theorem g3 : mGet wa (mSeen wa 4 none [e0, e2, e1]) = (⟨#[]⟩, false) := by kernel_rfl
theorem g4 : mGet wb (mSeen wb 4 none [e0, e2, e1]) = (wy, true) := by kernel_rfl
theorem s1 : mScan wc 9 [] (mSeen wa 5 none [e0, e2, e1]) = [⟨wa, wx⟩, ⟨wb, wy⟩] := by kernel_rfl
theorem s2 : mScan wc 9 [] (mSeen wa 9 none [e0, e2, e1]) = [⟨wb, wy⟩] := by kernel_rfl
theorem s3 : mScan wc 1 [] (mSeen wa 5 none [e0, e2, e1]) = [⟨wa, wx⟩] := by kernel_rfl
theorem s4 : mScan wb 9 [] (mSeen wb 9 none [e0, e2, e1]) = [] := by kernel_rfl
theorem awake11 : Ev (fun k => ratlinelaw11_awake.f k) true := by
  unfold ratlinelaw11_awake.f
  refine ev_bind (a := (wa, 9, 0, ⟨#[]⟩)) rfl (ev_bind (a := (wb, 4, 1, wy)) rfl (ev_bind (a := (wa, 5, 1, wx)) rfl (ev_bind (a := (wb, 4, 1, wz)) rfl (ev_bind (a := exL) rfl ?_))))
  refine ev_bind ((get_ex wa 9).trans (by rw [g1])) (ev_bind ((get_ex wa 8).trans (by rw [g2])) (ev_bind ((get_ex wa 4).trans (by rw [g3])) (ev_bind ((get_ex wb 4).trans (by rw [g4])) (ev_bind all_ex ?_))))
  refine ev_pos (by decide) (ev_pos (by decide) (ev_pos (by decide) (ev_pos (by decide) (ev_pos (by decide) ?_))))
  refine ev_call (entries_same [e0, e2, e1] (by decide)) (ev_pos rfl (ev_neg (by decide) (ev_pos rfl (ev_pos (by kernel_rfl) (ev_neg (by decide) (ev_pos rfl (ev_pos (by kernel_rfl) ?_)))))))
  refine ev_bind ((scan_ex wa wc 5 9).trans (by rw [s1])) (ev_call (pairs_same [⟨wa, wx⟩, ⟨wb, wy⟩] (by decide)) (ev_pos rfl ?_))
  refine ev_bind ((scan_ex wa wc 9 9).trans (by rw [s2])) (ev_call (pairs_same [⟨wb, wy⟩] (by decide)) (ev_pos rfl ?_))
  refine ev_bind ((scan_ex wa wc 5 1).trans (by rw [s3])) (ev_call (pairs_same [⟨wa, wx⟩] (by decide)) (ev_pos rfl ?_))
  refine ev_bind ((scan_ex wb wb 9 9).trans (by rw [s4])) ?_
  exact ev_some _
end Go.Proofs.YtojemmipkpckbaaL

end

section
set_option linter.unusedVariables false
namespace Go.Proofs.YtojemmipkpckbaaL
open Go Go.RowKit Go.Proofs.YtojemmipkpckbaaG Go.Proofs.Ytojemmipkpckbaa.P Go.Proofs.YtojemmipkpckbaaW.PrintWords Go.Proofs.YtojemmipkpckbaaW.PrintMore

theorem cmpI_refl (x : Ik) : cmpI x x = 0 := (cmpI_zero x x).2 ⟨rfl, rfl, rfl⟩
theorem cmpI_eq {x y : Ik} (h : cmpI x y = 0) : x = y := by
  have := (cmpI_zero x y).1 h
  exact mSame_iff.1 (by unfold mSame; rw [this.1, this.2.1, this.2.2]; simp)
theorem cmpI_le_lt {x y z : Ik} (h : cmpI x y ≤ 0) (h2 : cmpI y z < 0) : cmpI x z < 0 := by
  have h3 := cmpI_trans h (Int.le_of_lt h2)
  refine Int.lt_iff_le_and_ne.2 ⟨h3, fun e => ?_⟩
  have hxz := cmpI_eq e
  subst hxz
  have := cmpI_neg y x
  omega
/-- A list that rises: pairwise. -/
theorem rises_up : ∀ l : List MEn, risesB l = true → Up l
  | [], _ => List.Pairwise.nil
  | [a], _ => List.Pairwise.cons (fun b hb => by simp at hb) List.Pairwise.nil
  | a :: b :: r, h => by
    rw [rises_two, Bool.and_eq_true] at h
    have hab := of_decide_eq_true h.1
    have ih := rises_up (b :: r) h.2
    refine List.Pairwise.cons (fun x hx => ?_) ih
    rcases List.mem_cons.1 hx with rfl | hx
    · exact hab
    · exact cmpI_lt_trans hab (Int.le_of_lt ((List.pairwise_cons.1 ih).1 x hx))
theorem head_le {e x : MEn} {r : List MEn} (h : risesB (e :: r) = true) (hx : x ∈ e :: r) : cmpI e.f0 x.f0 ≤ 0 := by
  rcases List.mem_cons.1 hx with rfl | hx
  · rw [cmpI_refl]; exact Int.le_refl _
  · exact Int.le_of_lt ((List.pairwise_cons.1 (rises_up _ h)).1 x hx)
/-- Of its internal key the one of the first list that has it. -/
def First (cur : List (List MEn)) (x : MEn) : Prop := ∃ i l, cur[i]? = some l ∧ x ∈ l ∧ ∀ (j : Nat) (l' : List MEn), j < i → cur[j]? = some l' → ∀ y ∈ l', y.f0 ≠ x.f0
theorem first_cons {l : List MEn} {cur : List (List MEn)} {x : MEn} : First (l :: cur) x ↔ x ∈ l ∨ ((∀ y ∈ l, y.f0 ≠ x.f0) ∧ First cur x) := by
  constructor
  · rintro ⟨i, q, hi, hx, hj⟩
    cases i with
    | zero =>
      obtain rfl : l = q := by simpa using hi
      exact .inl hx
    | succ i => exact .inr ⟨hj 0 l (by omega) rfl, i, q, by simpa using hi, hx, fun j l' hji hl' => hj (j + 1) l' (by omega) (by simpa using hl')⟩
  · rintro (hx | ⟨h0, i, q, hi, hx, hj⟩)
    · exact ⟨0, l, rfl, hx, fun j l' hj => absurd hj (by omega)⟩
    · refine ⟨i + 1, q, by simpa using hi, hx, fun j l' hji hl' => ?_⟩
      cases j with
      | zero =>
        obtain rfl : l = l' := by simpa using hl'
        exact h0
      | succ j => exact hj j l' (by omega) (by simpa using hl')
theorem first_filter (p : Ik → Bool) : ∀ {cur : List (List MEn)} {x : MEn}, First (cur.map fun l => l.filter fun y => p y.f0) x ↔ First cur x ∧ p x.f0 = true
  | [], x => ⟨fun ⟨i, l, h, _⟩ => by simp at h, fun ⟨⟨i, l, h, _⟩, _⟩ => by simp at h⟩
  | l :: cur, x => by
    rw [List.map_cons, first_cons, first_cons, first_filter p (cur := cur)]
    constructor
    · rintro (h | ⟨h1, h2, h3⟩)
      · obtain ⟨h1, h2⟩ := List.mem_filter.1 h
        exact ⟨.inl h1, h2⟩
      · refine ⟨.inr ⟨fun y hy e => ?_, h2⟩, h3⟩
        exact h1 y (List.mem_filter.2 ⟨hy, by rw [e]; exact h3⟩) e
    · rintro ⟨h | ⟨h1, h2⟩, h3⟩
      · exact .inl (List.mem_filter.2 ⟨h, h3⟩)
      · exact .inr ⟨fun y hy => h1 y (List.mem_filter.1 hy).1, h2, h3⟩
/-- Dropped is what has this internal key. -/
theorem dropOne_filter {e : Ik} {l : List MEn} (hr : risesB l = true) (hh : ∀ x q, l = x :: q → cmpI e x.f0 ≤ 0) : dropOne e l = l.filter fun y => !(mSame y.f0 e) := by
  cases l with
  | nil => rfl
  | cons x q =>
    have hq : q.filter (fun y => !(mSame y.f0 e)) = q := by
      refine List.filter_eq_self.2 (fun y hy => ?_)
      have h1 := (List.pairwise_cons.1 (rises_up _ hr)).1 y hy
      have h2 := cmpI_le_lt (hh x q rfl) h1
      by_cases hs : mSame y.f0 e = true
      · rw [mSame_iff.1 hs, cmpI_refl] at h2
        omega
      · rw [Bool.eq_false_iff.2 hs]; rfl
    rw [dropOne, List.filter_cons, hq]
    by_cases hs : mSame x.f0 e = true
    · rw [if_pos hs, if_neg (by rw [hs]; decide)]
    · rw [if_neg hs, if_pos (by rw [Bool.eq_false_iff.2 hs]; rfl)]
theorem mDrop_filter {e : Ik} {cur : List (List MEn)} (hr : Rises cur) (hh : ∀ x q, (x :: q) ∈ cur → cmpI e x.f0 ≤ 0) : mDrop e cur = cur.map fun l => l.filter fun y => !(mSame y.f0 e) := by
  rw [mDrop_eq]
  exact List.map_congr_left (fun l hl => dropOne_filter (hr l hl) (fun x q h => hh x q (by rw [← h]; exact hl)))
/-- The least one stands in the first list that has its key. -/
theorem mLeast_ahead : ∀ (rest : List (List MEn)) (i : Nat) (best : Option (Nat × MEn)) (j : Nat) (b : MEn), mLeast rest i best = some (j, b) → best = some (j, b) ∨ (i ≤ j ∧ (∃ q, rest[j - i]? = some (b :: q)) ∧ (∀ k y q, k < j - i → rest[k]? = some (y :: q) → cmpI b.f0 y.f0 < 0) ∧ ∀ i0 b0, best = some (i0, b0) → cmpI b.f0 b0.f0 < 0)
  | [], i, best, j, b, h => by rw [mLeast] at h; exact .inl h
  | [] :: r, i, best, j, b, h => by
    rcases mLeast_ahead r (i + 1) best j b h with h1 | ⟨h1, ⟨q, hq⟩, h2, h3⟩
    · exact .inl h1
    · refine .inr ⟨by omega, ⟨q, by rw [show j - i = (j - (i + 1)) + 1 from by omega, List.getElem?_cons_succ]; exact hq⟩, fun k y z hk hy => ?_, h3⟩
      cases k with
      | zero => simp at hy
      | succ k => exact h2 k y z (by omega) (by simpa using hy)
  | (x :: l) :: r, i, best, j, b, h => by
    rcases mLeast_ahead r (i + 1) _ j b h with h1 | ⟨h1, ⟨q, hq⟩, h2, h3⟩
    · cases best with
      | none =>
        obtain ⟨rfl, rfl⟩ := Prod.mk.inj (Option.some.inj h1)
        exact .inr ⟨Nat.le_refl _, ⟨l, by rw [Nat.sub_self]; rfl⟩, fun k y z hk => absurd hk (by omega), fun i0 b0 hb => by cases hb⟩
      | some p =>
        obtain ⟨i1, b1⟩ := p
        simp only at h1
        split at h1
        · rename_i hl
          obtain ⟨rfl, rfl⟩ := Prod.mk.inj (Option.some.inj h1)
          refine .inr ⟨Nat.le_refl _, ⟨l, by rw [Nat.sub_self]; rfl⟩, fun k y z hk => absurd hk (by omega), fun i0 b0 hb => ?_⟩
          obtain ⟨_, rfl⟩ := Prod.mk.inj (Option.some.inj hb)
          exact (mLess_iff _ _).1 hl
        · exact .inl h1
    · refine .inr ⟨by omega, ⟨q, by rw [show j - i = (j - (i + 1)) + 1 from by omega, List.getElem?_cons_succ]; exact hq⟩, fun k y z hk hy => ?_, fun i0 b0 hb => ?_⟩
      · cases k with
        | zero =>
          obtain ⟨rfl, _⟩ : x = y ∧ l = z := by simpa using hy
          cases best with
          | none => exact h3 i x rfl
          | some p =>
            obtain ⟨i1, b1⟩ := p
            by_cases hl : mLess x.f0 b1.f0 = true
            · exact h3 i x (if_pos hl)
            · exact cmpI_lt_trans (h3 i1 b1 (if_neg hl)) (mLess_no hl)
        | succ k => exact h2 k y z (by omega) (by simpa using hy)
      · subst hb
        by_cases hl : mLess x.f0 b0.f0 = true
        · exact cmpI_lt_trans (h3 i x (if_pos hl)) (Int.le_of_lt ((mLess_iff _ _).1 hl))
        · exact h3 i0 b0 (if_neg hl)
theorem least_first {cur : List (List MEn)} {i : Nat} {e : MEn} (hr : Rises cur) (hl : mLeast cur 0 none = some (i, e)) : First cur e := by
  rcases mLeast_ahead cur 0 none i e hl with h | ⟨_, ⟨q, hq⟩, h2, _⟩
  · cases h
  · refine ⟨i, e :: q, by simpa using hq, List.mem_cons_self .., fun j l' hj hl' y hy => ?_⟩
    cases l' with
    | nil => simp at hy
    | cons z w =>
      have h3 := h2 j z w (by omega) hl'
      have h4 := head_le (hr _ (List.mem_of_getElem? hl')) hy
      intro hye
      have := cmpI_lt_trans h3 h4
      rw [hye, cmpI_refl] at this
      omega
theorem first_one {cur : List (List MEn)} (hr : Rises cur) {x y : MEn} (hx : First cur x) (hy : First cur y) (h : x.f0 = y.f0) : x = y := by
  obtain ⟨i, l, hi, hxl, hj⟩ := hx
  obtain ⟨k, q, hk, hyq, hm⟩ := hy
  have hik : i = k := by
    rcases Nat.lt_trichotomy i k with h1 | h1 | h1
    · exact absurd h (hm i l h1 hi x hxl)
    · exact h1
    · exact absurd h.symm (hj k q h1 hk y hyq)
  subst hik
  rw [hi] at hk
  obtain rfl := Option.some.inj hk
  have hu := rises_up l (hr l (List.mem_of_getElem? hi))
  obtain ⟨a, ha⟩ := List.mem_iff_getElem?.1 hxl
  obtain ⟨b, hb⟩ := List.mem_iff_getElem?.1 hyq
  obtain ⟨ha1, ha2⟩ := List.getElem?_eq_some_iff.1 ha
  obtain ⟨hb1, hb2⟩ := List.getElem?_eq_some_iff.1 hb
  have hp := List.pairwise_iff_getElem.1 hu
  rcases Nat.lt_trichotomy a b with h1 | h1 | h1
  · have := hp a b ha1 hb1 h1
    rw [ha2, hb2, h, cmpI_refl] at this
    omega
  · subst h1
    rw [← ha2, ← hb2]
  · have := hp b a hb1 ha1 h1
    rw [ha2, hb2, h, cmpI_refl] at this
    omega
theorem first_nil {cur : List (List MEn)} (h : ∀ l ∈ cur, l = []) (x : MEn) : ¬ First cur x := by
  rintro ⟨i, l, hi, hx, _⟩
  rw [h l (List.mem_of_getElem? hi)] at hx
  simp at hx
theorem mem_mAll : ∀ (n : Nat) (cur : List (List MEn)), Rises cur → mSize cur ≤ n → ∀ x, x ∈ mAll n cur ↔ First cur x
  | 0, cur, hr, hs, x => by
    refine ⟨fun h => by simp [mAll] at h, fun h => ?_⟩
    obtain ⟨i, l, hi, hx, _⟩ := h
    cases l with
    | nil => simp at hx
    | cons e r => have := mSize_pos hi; omega
  | n + 1, cur, hr, hs, x => by
    cases hl : mLeast cur 0 none with
    | none =>
      rw [mAll_none hl]
      exact ⟨fun h => by simp at h, fun h => absurd h (first_nil (mLeast_none _ _ _ hl).2 x)⟩
    | some p =>
      obtain ⟨i, e⟩ := p
      obtain ⟨r, hi⟩ := mLeast_some hl
      have hmin := (mLeast_min _ _ _ _ _ hl).1
      have hlt := mDrop_less hi
      have hf := least_first hr hl
      rw [mAll_cons n hl, List.mem_cons, mem_mAll n (mDrop e.f0 cur) (drop_rises hr _) (by omega) x, mDrop_filter hr hmin, first_filter (fun k => !(mSame k e.f0))]
      constructor
      · rintro (rfl | ⟨h, _⟩)
        · exact hf
        · exact h
      · intro h
        by_cases hs : mSame x.f0 e.f0 = true
        · exact .inl (first_one hr h hf (mSame_iff.1 hs))
        · exact .inr ⟨h, by rw [Bool.eq_false_iff.2 hs]; rfl⟩
/-- Two rising lists of the same entries are the same. -/
theorem up_ext : ∀ {a b : List MEn}, Up a → Up b → (∀ x, x ∈ a ↔ x ∈ b) → a = b
  | [], [], _, _, _ => rfl
  | [], y :: b, _, _, h => by have := (h y).2 (List.mem_cons_self ..); simp at this
  | x :: a, [], _, _, h => by have := (h x).1 (List.mem_cons_self ..); simp at this
  | x :: a, y :: b, ha, hb, h => by
    obtain ⟨ha1, ha2⟩ := List.pairwise_cons.1 ha
    obtain ⟨hb1, hb2⟩ := List.pairwise_cons.1 hb
    have irr : ∀ z : MEn, ¬ cmpI z.f0 z.f0 < 0 := fun z hz => by rw [cmpI_refl] at hz; omega
    have hxy : x = y := by
      rcases List.mem_cons.1 ((h x).1 (List.mem_cons_self ..)) with h1 | h1
      · exact h1
      · rcases List.mem_cons.1 ((h y).2 (List.mem_cons_self ..)) with h2 | h2
        · exact h2.symm
        · exact absurd (cmpI_lt_trans (ha1 y h2) (Int.le_of_lt (hb1 x h1))) (irr x)
    subst hxy
    rw [up_ext ha2 hb2 (fun z => ?_)]
    constructor
    · intro hz
      rcases List.mem_cons.1 ((h z).1 (List.mem_cons_of_mem _ hz)) with h1 | h1
      · subst h1; exact absurd (ha1 z hz) (irr z)
      · exact h1
    · intro hz
      rcases List.mem_cons.1 ((h z).2 (List.mem_cons_of_mem _ hz)) with h1 | h1
      · subst h1; exact absurd (hb1 z hz) (irr z)
      · exact h1
end Go.Proofs.YtojemmipkpckbaaL

end

section
set_option linter.unusedVariables false
namespace Go.Proofs.YtojemmipkpckbaaL
open Go Go.RowKit Go.Proofs.YtojemmipkpckbaaG Go.Proofs.Ytojemmipkpckbaa.P Go.Proofs.YtojemmipkpckbaaW.PrintWords Go.Proofs.YtojemmipkpckbaaW.PrintMore

def sPut (L : List (List MEn)) (k : Nat) (e : MEn) : List (List MEn) := L.set k (L.getD k [] ++ [e])
theorem sPut_len (L : List (List MEn)) (k : Nat) (e : MEn) : (sPut L k e).length = L.length := List.length_set
theorem size_put : ∀ (L : List (List MEn)) (k : Nat) (e : MEn), k < L.length → mSize (sPut L k e) = mSize L + 1
  | [], k, e, h => absurd h (by simp)
  | a :: L, 0, e, _ => by
    show (a ++ [e]).length + mSize L = (a.length + mSize L) + 1
    rw [List.length_append, List.length_singleton]
    omega
  | a :: L, k + 1, e, h => by
    have ih := size_put L k e (by simpa using h)
    show a.length + mSize (sPut L k e) = (a.length + mSize L) + 1
    omega
/-- What was dealt so far. -/
structure Dealt (n : Nat) (pre : List MEn) (L : List (List MEn)) : Prop where
  len : L.length = n
  size : mSize L = pre.length
  sub : ∀ q ∈ L, q.Sublist pre
  mem : ∀ x ∈ pre, ∃ q ∈ L, x ∈ q
theorem Dealt.put {n : Nat} {pre : List MEn} {L : List (List MEn)} (h : Dealt n pre L) {k : Nat} (hk : k < n) (e : MEn) : Dealt n (pre ++ [e]) (sPut L k e) := by
  have hkl : k < L.length := by rw [h.len]; exact hk
  have hg : L.getD k [] = L[k] := by rw [List.getD_eq_getElem?_getD, List.getElem?_eq_getElem hkl]; rfl
  refine ⟨by rw [sPut_len, h.len], by rw [size_put _ _ _ hkl, h.size, List.length_append, List.length_singleton], fun q hq => ?_, fun x hx => ?_⟩
  · rcases List.mem_or_eq_of_mem_set hq with hq | rfl
    · exact (h.sub q hq).trans (List.sublist_append_left _ _)
    · rw [hg]
      exact (h.sub _ (List.getElem_mem hkl)).append (List.Sublist.refl _)
  · have hnew : (L.getD k [] ++ [e]) ∈ sPut L k e := List.mem_set hkl _
    rcases List.mem_append.1 hx with hx | hx
    · obtain ⟨q, hq, hxq⟩ := h.mem x hx
      obtain ⟨j, hj, rfl⟩ := List.mem_iff_getElem.1 hq
      by_cases hjk : j = k
      · subst hjk
        exact ⟨_, hnew, List.mem_append_left _ (by rw [hg]; exact hxq)⟩
      · refine ⟨L[j], List.mem_iff_getElem?.2 ⟨j, ?_⟩, hxq⟩
        unfold sPut
        rw [List.getElem?_set_ne (Ne.symm hjk), List.getElem?_eq_getElem hj]
    · exact ⟨_, hnew, List.mem_append_right _ hx⟩
theorem up_rises : ∀ l : List MEn, Up l → risesB l = true
  | [], _ => rfl
  | [a], _ => rfl
  | a :: b :: r, h => by
    rw [rises_two, Bool.and_eq_true]
    exact ⟨decide_eq_true ((List.pairwise_cons.1 h).1 b (List.mem_cons_self ..)), up_rises (b :: r) (List.pairwise_cons.1 h).2⟩
theorem up_one : ∀ {l : List MEn}, Up l → ∀ x ∈ l, ∀ y ∈ l, y.f0 = x.f0 → y = x
  | [], _, x, hx, _, _, _ => by simp at hx
  | a :: l, h, x, hx, y, hy, he => by
    have hlt := (List.pairwise_cons.1 h).1
    rcases List.mem_cons.1 hx with hxa | hx1
    · rcases List.mem_cons.1 hy with hya | hy1
      · rw [hya, hxa]
      · have := hlt y hy1
        rw [he, hxa, cmpI_refl] at this
        omega
    · rcases List.mem_cons.1 hy with hya | hy1
      · have := hlt x hx1
        rw [← he, hya, cmpI_refl] at this
        omega
      · exact up_one (List.pairwise_cons.1 h).2 x hx1 y hy1 he
theorem first_of : ∀ {L : List (List MEn)} {x : MEn}, (∃ q ∈ L, x ∈ q) → (∀ q ∈ L, ∀ y ∈ q, y.f0 = x.f0 → y = x) → First L x
  | [], x, ⟨q, hq, _⟩, _ => by simp at hq
  | a :: L, x, ⟨q, hq, hx⟩, h => by
    by_cases hxa : x ∈ a
    · exact first_cons.2 (.inl hxa)
    · refine first_cons.2 (.inr ⟨fun y hy he => hxa ?_, first_of (L := L) ?_ (fun q hq => h q (List.mem_cons_of_mem _ hq))⟩)
      · rw [← h a (List.mem_cons_self ..) y hy he]
        exact hy
      · rcases List.mem_cons.1 hq with rfl | hq
        · exact absurd hx hxa
        · exact ⟨q, hq, hx⟩
/-- All entries of lists over which a list that rises was dealt out are this one. -/
theorem all_dealt {n : Nat} {l : List MEn} {L : List (List MEn)} (h : Dealt n l L) (hr : risesB l = true) : Rises L ∧ mAll (mSize L) L = l := by
  have hu := rises_up l hr
  have hR : Rises L := fun q hq => up_rises q (List.Pairwise.sublist (h.sub q hq) hu)
  refine ⟨hR, up_ext (mAll_up _ L hR).1 hu (fun x => ?_)⟩
  rw [mem_mAll _ L hR (Nat.le_refl _) x]
  constructor
  · rintro ⟨i, q, hi, hx, _⟩
    exact (h.sub q (List.mem_of_getElem? hi)).subset hx
  · intro hx
    exact first_of (h.mem x hx) (fun q hq y hy he => up_one hu x hx y ((h.sub q hq).subset hy) he)
theorem dealt_one (l : List MEn) : Dealt 1 l [l] := ⟨rfl, by show l.length + 0 = l.length; omega, fun q hq => by rw [List.mem_singleton.1 hq]; exact List.Sublist.refl _, fun x hx => ⟨l, List.mem_singleton.2 rfl, hx⟩⟩
end Go.Proofs.YtojemmipkpckbaaL

end

section
set_option linter.unusedVariables false
namespace Go.Proofs.YtojemmipkpckbaaL
open Go Go.RowKit Go.Maps Go.Proofs.YtojemmipkpckbaaG Go.Proofs.Ytojemmipkpckbaa.P Go.Proofs.YtojemmipkpckbaaW.PrintWords Go.Proofs.YtojemmipkpckbaaW.PrintMore

def addF (fs : List MEn) (e : MEn) : List MEn := if fs.any (fun y => mSame y.f0 e.f0) = true then fs else fs ++ [e]
def firsts (l : List MEn) : List MEn := l.foldl addF []
theorem firsts_snoc (l : List MEn) (e : MEn) : firsts (l ++ [e]) = addF (firsts l) e := by unfold firsts; rw [List.foldl_append]; rfl
def FirstL : List MEn → MEn → Prop
  | [], _ => False
  | a :: r, x => x = a ∨ (a.f0 ≠ x.f0 ∧ FirstL r x)
theorem any_iff {fs : List MEn} {k : Ik} : fs.any (fun y => mSame y.f0 k) = true ↔ ∃ y ∈ fs, y.f0 = k := by
  rw [List.any_eq_true]
  constructor
  · rintro ⟨y, hy, h⟩; exact ⟨y, hy, mSame_iff.1 h⟩
  · rintro ⟨y, hy, h⟩; exact ⟨y, hy, mSame_iff.2 h⟩
theorem mem_fold : ∀ (l acc : List MEn) (x : MEn), x ∈ l.foldl addF acc ↔ x ∈ acc ∨ ((∀ y ∈ acc, y.f0 ≠ x.f0) ∧ FirstL l x)
  | [], acc, x => ⟨.inl, fun h => h.elim id (fun h => h.2.elim)⟩
  | a :: r, acc, x => by
    rw [List.foldl_cons, mem_fold r]
    unfold addF
    by_cases ha : acc.any (fun y => mSame y.f0 a.f0) = true
    · rw [if_pos ha]
      obtain ⟨y, hy, hya⟩ := any_iff.1 ha
      constructor
      · rintro (h | ⟨h1, h2⟩)
        · exact .inl h
        · exact .inr ⟨h1, .inr ⟨fun e => h1 y hy (hya.trans e), h2⟩⟩
      · rintro (h | ⟨h1, h2 | ⟨h2, h3⟩⟩)
        · exact .inl h
        · exact absurd (by rw [hya, h2]) (h1 y hy)
        · exact .inr ⟨h1, h3⟩
    · rw [if_neg ha]
      have hn : ∀ y ∈ acc, y.f0 ≠ a.f0 := fun y hy e => ha (any_iff.2 ⟨y, hy, e⟩)
      constructor
      · rintro (h | ⟨h1, h2⟩)
        · rcases List.mem_append.1 h with h | h
          · exact .inl h
          · rw [List.mem_singleton.1 h]
            exact .inr ⟨hn, .inl rfl⟩
        · exact .inr ⟨fun y hy => h1 y (List.mem_append_left _ hy), .inr ⟨h1 a (List.mem_append_right _ (List.mem_singleton.2 rfl)), h2⟩⟩
      · rintro (h | ⟨h1, h2 | ⟨h2, h3⟩⟩)
        · exact .inl (List.mem_append_left _ h)
        · exact .inl (List.mem_append_right _ (List.mem_singleton.2 h2))
        · refine .inr ⟨fun y hy => ?_, h3⟩
          rcases List.mem_append.1 hy with hy | hy
          · exact h1 y hy
          · rw [List.mem_singleton.1 hy]; exact h2
theorem mem_firsts {l : List MEn} {x : MEn} : x ∈ firsts l ↔ FirstL l x := by
  unfold firsts
  rw [mem_fold]
  simp
theorem firstL_mem : ∀ {l : List MEn} {x : MEn}, FirstL l x → x ∈ l
  | a :: r, x, h => by
    rcases h with h | ⟨_, h⟩
    · rw [h]; exact List.mem_cons_self ..
    · exact List.mem_cons_of_mem _ (firstL_mem h)
theorem firstL_app : ∀ {p q : List MEn} {x : MEn}, FirstL (p ++ q) x ↔ FirstL p x ∨ ((∀ y ∈ p, y.f0 ≠ x.f0) ∧ FirstL q x)
  | [], q, x => by simp [FirstL]
  | a :: p, q, x => by
    show (x = a ∨ (a.f0 ≠ x.f0 ∧ FirstL (p ++ q) x)) ↔ (x = a ∨ (a.f0 ≠ x.f0 ∧ FirstL p x)) ∨ _
    rw [firstL_app]
    constructor
    · rintro (h | ⟨h1, h2 | ⟨h2, h3⟩⟩)
      · exact .inl (.inl h)
      · exact .inl (.inr ⟨h1, h2⟩)
      · refine .inr ⟨fun y hy => ?_, h3⟩
        rcases List.mem_cons.1 hy with rfl | hy
        · exact h1
        · exact h2 y hy
    · rintro ((h | ⟨h1, h2⟩) | ⟨h1, h2⟩)
      · exact .inl h
      · exact .inr ⟨h1, .inl h2⟩
      · exact .inr ⟨h1 a (List.mem_cons_self ..), .inr ⟨fun y hy => h1 y (List.mem_cons_of_mem _ hy), h2⟩⟩
theorem firstL_up : ∀ {l : List MEn} {x : MEn}, Up l → x ∈ l → FirstL l x
  | a :: r, x, h, hx => by
    obtain ⟨h1, h2⟩ := List.pairwise_cons.1 h
    rcases List.mem_cons.1 hx with hx | hx
    · exact .inl hx
    · refine .inr ⟨fun e => ?_, firstL_up h2 hx⟩
      have := h1 x hx
      rw [e, cmpI_refl] at this
      omega
theorem firstL_flat : ∀ {L : List (List MEn)} {x : MEn}, Rises L → (FirstL L.flatten x ↔ First L x)
  | [], x, _ => ⟨fun h => h.elim, fun ⟨i, l, h, _⟩ => by simp at h⟩
  | l :: L, x, hr => by
    have ih := firstL_flat (L := L) (x := x) (fun q hq => hr q (List.mem_cons_of_mem _ hq))
    have hu := rises_up l (hr l (List.mem_cons_self ..))
    rw [List.flatten_cons, firstL_app, first_cons, ih]
    exact ⟨fun h => h.imp firstL_mem id, fun h => h.imp (firstL_up hu) id⟩
def Keys (l : List MEn) : Prop := l.Pairwise fun a b => a.f0 ≠ b.f0
theorem keys_fold : ∀ (l acc : List MEn), Keys acc → Keys (l.foldl addF acc)
  | [], _, h => h
  | a :: r, acc, h => by
    rw [List.foldl_cons]
    refine keys_fold r _ ?_
    unfold addF
    by_cases ha : acc.any (fun y => mSame y.f0 a.f0) = true
    · rw [if_pos ha]; exact h
    · rw [if_neg ha]
      refine List.pairwise_append.2 ⟨h, List.pairwise_singleton .., fun y hy z hz e => ha (any_iff.2 ⟨y, hy, ?_⟩)⟩
      rw [e, List.mem_singleton.1 hz]
theorem keys_firsts (l : List MEn) : Keys (firsts l) := keys_fold l [] List.Pairwise.nil
theorem keys_of_up {l : List MEn} (h : Up l) : Keys l := h.imp fun {a b} hab e => by rw [e, cmpI_refl] at hab; omega
open Classical in
theorem keys_le : ∀ {a b : List MEn}, Keys a → (∀ x ∈ a, x ∈ b) → a.length ≤ b.length
  | [], b, _, _ => Nat.zero_le _
  | x :: a, b, h, hs => by
    obtain ⟨h1, h2⟩ := List.pairwise_cons.1 h
    have hx := hs x (List.mem_cons_self ..)
    have ih := keys_le (a := a) (b := b.erase x) h2 (fun y hy => (List.mem_erase_of_ne (fun e => h1 y hy (by rw [e]))).2 (hs y (List.mem_cons_of_mem _ hy)))
    rw [List.length_erase_of_mem hx] at ih
    have := List.length_pos_of_mem hx
    rw [List.length_cons]
    omega
theorem firsts_all {L : List (List MEn)} (hr : Rises L) : (∀ x, x ∈ firsts L.flatten ↔ x ∈ mAll (mSize L) L) ∧ (firsts L.flatten).length = (mAll (mSize L) L).length := by
  have hm : ∀ x, x ∈ firsts L.flatten ↔ x ∈ mAll (mSize L) L := fun x => by rw [mem_firsts, firstL_flat hr, mem_mAll _ L hr (Nat.le_refl _)]
  have hk := keys_of_up (mAll_up (mSize L) L hr).1
  exact ⟨hm, Nat.le_antisymm (keys_le (keys_firsts _) (fun x hx => (hm x).1 hx)) (keys_le hk (fun x hx => (hm x).2 hx))⟩
def wfK (x : Ik) : Prop := x.f0.size ≤ maxLen ∧ (Lit.int .u64 x.f1).wf = true ∧ (Lit.int .u8 x.f2).wf = true
def ikV (x : Ik) : Value := .agg #[.string x.f0, .int .u64 x.f1, .int .u8 x.f2]
def enW (e : MEn) : Value := .agg #[.string e.f0.f0, .int .u64 e.f0.f1, .int .u8 e.f0.f2, .string e.f1]
def kLit (x : Ik) : Lit := .string (keyBytes [.string x.f0.data.toList, .int .u64 x.f1, .int .u8 x.f2])
theorem all_law : Keyed Try.prog 39 := Keyed.of_law (deep_law_laid (by kernel_rfl) (m := 2) (by omega) (of_decide_eq_true (by kernel_rfl)) (by kernel_rfl) (by rw [Try.underlying39]))
theorem ik_key {x : Ik} (h : wfK x) : keyOf Try.prog 39 (ikV x) = some (kLit x) := by
  obtain ⟨h1, h2, h3⟩ := h
  have hf : (ikV x).formed Try.prog 39 = true := by
    unfold ikV
    simp [Value.formed, Try.underlying39, show Try.prog.cellsOf 39 = 3 from by kernel_rfl]
  have hk : Try.prog.keyType 39 = true := by kernel_rfl
  unfold keyOf
  rw [Try.underlying39]
  simp only [hf, hk, Bool.and_self, if_true]
  obtain ⟨d, hd⟩ : ∃ d, Try.prog.types.size + 1 = d + 2 := ⟨Try.prog.types.size - 1, by have : 1 ≤ Try.prog.types.size := of_decide_eq_true (by kernel_rfl); omega⟩
  rw [hd]
  have c9 : Try.prog.cellsOf 9 = 1 := by kernel_rfl
  have c23 : Try.prog.cellsOf 23 = 1 := by kernel_rfl
  have c5 : Try.prog.cellsOf 5 = 1 := by kernel_rfl
  have c39 : Try.prog.cellsOf 39 = 3 := by kernel_rfl
  have hcs : (ikV x).cells.toList = [.string x.f0, .int .u64 x.f1, .int .u8 x.f2] := rfl
  rw [hcs]
  simp only [Program.keyLits, Try.underlying39, c39]
  simp [List.mapM_cons, Try.underlying9, Try.underlying23, Try.underlying5, c9, c23, c5, h1, h2, h3, kLit]
theorem kLit_inj {x y : Ik} (hx : wfK x) (hy : wfK y) (h : kLit x = kLit y) : x = y := by
  have h2 := ik_key hy
  rw [← h] at h2
  have h3 := all_law.inj (ik_key hx) h2
  unfold ikV at h3
  cases x
  cases y
  simp_all
def enD (e : MEn) : DataW Nat := .agg [.lit (.string e.f0.f0.data.toList), .lit (.int .u64 e.f0.f1), .lit (.int .u8 e.f0.f2), .lit (.string e.f1.data.toList)]
def enList : List Value → Option (DataW Nat × List MemPlace)
  | [.string a, .int .u64 b, .int .u8 c, .string d] => some (.agg [.lit (.string a.data.toList), .lit (.int .u64 b), .lit (.int .u8 c), .lit (.string d.data.toList)], [])
  | _ => none
def enElem : Value → Option (DataW Nat × List MemPlace)
  | .agg cs => enList cs.toList
  | _ => none
theorem enElem_mk (e : MEn) : enElem (enW e) = some (enD e, []) := rfl
theorem ba_data {a b : ByteArray} (h : a.data.toList = b.data.toList) : a = b := by
  cases a
  cases b
  simp_all [Array.toList_inj]
theorem enElem_inv {v : Value} {e : MEn} {ps : List MemPlace} (h : enElem v = some (enD e, ps)) : v = enW e := by
  cases v with
  | agg cs =>
    have h0 : enList cs.toList = some (enD e, ps) := h
    generalize hl : cs.toList = l at h0
    unfold enList at h0
    split at h0
    · rename_i a b c d
      injection h0 with h
      injection h with h _
      unfold enD at h
      injection h with h
      injection h with h1 h
      injection h with h2 h
      injection h with h3 h
      injection h with h4 _
      injection h1 with h1
      injection h1 with h1
      injection h2 with h2
      injection h2 with _ h2
      injection h3 with h3
      injection h3 with _ h3
      injection h4 with h4
      injection h4 with h4
      have hc : cs = #[.string a, .int .u64 b, .int .u8 c, .string d] := Array.toList_inj.1 (by rw [hl])
      unfold enW
      rw [hc, ba_data h1, h2, h3, ba_data h4]
    · cases h0
  | _ => simp [enElem] at h
theorem enElem_some {v : Value} {z : DataW Nat × List MemPlace} (h : enElem v = some z) : ∃ e : MEn, v = enW e := by
  cases v with
  | agg cs =>
    have h0 : enList cs.toList = some z := h
    generalize hl : cs.toList = l at h0
    unfold enList at h0
    split at h0
    · rename_i a b c d
      have hc : cs = #[.string a, .int .u64 b, .int .u8 c, .string d] := Array.toList_inj.1 (by rw [hl])
      exact ⟨⟨⟨a, b, c⟩, d⟩, by rw [hc]; rfl⟩
    · cases h0
  | _ => simp [enElem] at h
/-- The map of a list of entries. -/
def mOf (m : DataW Nat) (fs : List MEn) : DataW Nat := fs.foldl (fun m e => m.put (kLit e.f0) (enD e)) m
theorem mOf_snoc (m : DataW Nat) (fs : List MEn) (e : MEn) : mOf m (fs ++ [e]) = (mOf m fs).put (kLit e.f0) (enD e) := by unfold mOf; rw [List.foldl_append]; rfl
theorem has_mOf {x : Ik} (hx : wfK x) : ∀ (fs : List MEn) (m : DataW Nat), IsMap m → (∀ e ∈ fs, wfK e.f0) → Maps.has (mOf m fs) (kLit x) = (Maps.has m (kLit x) || fs.any fun y => mSame y.f0 x)
  | [], m, _, _ => by simp [mOf]
  | e :: r, m, hm, hw => by
    show Maps.has (mOf (m.put (kLit e.f0) (enD e)) r) (kLit x) = _
    rw [has_mOf hx r _ (hm.put _ _) (fun y hy => hw y (List.mem_cons_of_mem _ hy)), List.any_cons]
    by_cases h : e.f0 = x
    · rw [← h, has_put_same hm (all_law.key (ik_key (hw e (List.mem_cons_self ..)))), mSame_iff.2 rfl]
      simp
    · rw [has_put_other (fun z => h (kLit_inj (hw e (List.mem_cons_self ..)) hx z.symm))]
      have : mSame e.f0 x = false := Bool.eq_false_iff.2 (fun z => h (mSame_iff.1 z))
      rw [this, Bool.false_or]
theorem at_other {k : Lit} : ∀ (fs : List MEn) (m : DataW Nat) (z : DataW Nat), (∀ y ∈ fs, k ≠ kLit y.f0) → (mOf m fs).atKey k z = m.atKey k z
  | [], _, _, _ => rfl
  | e :: r, m, z, h => by
    show (mOf (m.put (kLit e.f0) (enD e)) r).atKey k z = _
    rw [at_other r _ z (fun y hy => h y (List.mem_cons_of_mem _ hy)), atKey_put_other (h e (List.mem_cons_self ..))]
theorem at_mOf : ∀ (fs : List MEn) (m : DataW Nat) (z : DataW Nat) (e : MEn), IsMap m → Keys fs → (∀ e ∈ fs, wfK e.f0) → e ∈ fs → (mOf m fs).atKey (kLit e.f0) z = enD e
  | a :: r, m, z, e, hm, hk, hw, he => by
    obtain ⟨h1, h2⟩ := List.pairwise_cons.1 hk
    have hwr := fun y hy => hw y (List.mem_cons_of_mem _ hy)
    show (mOf (m.put (kLit a.f0) (enD a)) r).atKey (kLit e.f0) z = _
    rcases List.mem_cons.1 he with he | he
    · rw [he, at_other r _ z (fun y hy q => h1 y hy (kLit_inj (hw a (List.mem_cons_self ..)) (hwr y hy) q)), atKey_put_same hm (all_law.key (ik_key (hw a (List.mem_cons_self ..))))]
    · exact at_mOf r _ z e (hm.put _ _) h2 hwr he
theorem size_mOf : ∀ (fs : List MEn) (m : DataW Nat), Tidy m → Keys fs → (∀ e ∈ fs, wfK e.f0) → (∀ e ∈ fs, Maps.has m (kLit e.f0) = false) → Maps.size (mOf m fs) = Maps.size m + fs.length
  | [], m, _, _, _, _ => rfl
  | e :: r, m, hm, hk, hw, hn => by
    obtain ⟨h1, h2⟩ := List.pairwise_cons.1 hk
    have he := hw e (List.mem_cons_self ..)
    have hwr := fun y hy => hw y (List.mem_cons_of_mem _ hy)
    show Maps.size (mOf (m.put (kLit e.f0) (enD e)) r) = _
    rw [size_mOf r _ (hm.put (all_law.key (ik_key he)) _) h2 hwr (fun y hy => by
      rw [has_put_other (fun q => h1 y hy (kLit_inj he (hwr y hy) q.symm))]
      exact hn y (List.mem_cons_of_mem _ hy)), Maps.size_put hm, hn e (List.mem_cons_self ..)]
    simp only [Bool.false_eq_true, if_false, List.length_cons]
    omega
/-- What is told of the map behind some entries. -/
theorem has_first {l : List MEn} (hw : ∀ e ∈ l, wfK e.f0) {x : Ik} (hx : wfK x) : Maps.has (mOf (.map []) (firsts l)) (kLit x) = (firsts l).any fun y => mSame y.f0 x := by
  rw [has_mOf hx _ _ isMap_empty (fun e he => hw e (firstL_mem (mem_firsts.1 he)))]
  rfl
end Go.Proofs.YtojemmipkpckbaaL

end

section
set_option linter.unusedVariables false
namespace Go.Proofs.YtojemmipkpckbaaL
open Go Go.RowKit Go.Proofs.YtojemmipkpckbaaG Go.Proofs.Ytojemmipkpckbaa.P Go.Proofs.YtojemmipkpckbaaW.PrintWords Go.Proofs.YtojemmipkpckbaaW.PrintMore

theorem rising_loop (l : List En) (hl : l.length < 9223372036854775800) (q : Nat) :
    ∀ (m j : Nat), j + m + 1 = l.length → ikey_Rising.l0 (m + q + 5) l ((l.length - 1 : Nat) : Int) (j : Int) = some (risesB (l.drop j)) := by
  intro m
  induction m with
  | zero =>
    intro j hj
    simp only [ikey_Rising.l0]
    rw [if_neg (by omega)]
    have : l.drop j = [l[j]'(by omega)] := by rw [List.drop_eq_getElem_cons (by omega), List.drop_of_length_le (by omega)]
    rw [this]
    rfl
  | succ m ih =>
    intro j hj
    have hlt : j < l.length := by omega
    have hlt2 : j + 1 < l.length := by omega
    generalize hk : m + 1 + q + 4 = k
    have hj1 : j < 9223372036854775800 := by omega
    rw [show m + 1 + q + 5 = k + 1 from by omega]
    simp only [ikey_Rising.l0, few_succ hj1]
    rw [if_pos (by omega), if_pos (by omega), if_pos (by omega), if_pos (by omega), if_pos (by omega), rd_en l hlt, rd_en l hlt2]
    have hc := compare_f (m + 1 + q) l[j].f0 l[j + 1].f0
    rw [hk] at hc
    refine bind1 hc ?_
    rw [List.drop_eq_getElem_cons hlt, List.drop_eq_getElem_cons hlt2, rises_two]
    by_cases h : cmpI l[j].f0 l[j + 1].f0 ≥ 0
    · rw [if_pos h, decide_eq_false (by omega), Bool.false_and]
    · rw [if_neg h, decide_eq_true (by omega), Bool.true_and, ← hk, show m + 1 + q + 4 = m + q + 5 from by omega, ih (j + 1) (by omega), List.drop_eq_getElem_cons hlt2]
theorem rising_f (l : List En) (hl : l.length < 9223372036854775800) (q : Nat) : ikey_Rising.f (l.length + q + 5) l = some (risesB l) := by
  unfold ikey_Rising.f
  by_cases h : l.length = 0
  · obtain rfl : l = [] := List.eq_nil_of_length_eq_zero h
    rw [if_pos (by decide), if_pos (by decide)]
    show ikey_Rising.l0 (0 + q + 4 + 1) [] _ _ = _
    simp only [ikey_Rising.l0]
    rw [if_neg (by decide)]
    rfl
  · have hm : mn (l.length : Int) 1 = ((1 : Nat) : Int) := by unfold mn; split <;> omega
    rw [hm, if_pos (by omega), if_pos (by omega), Int.toNat_natCast, List.length_drop]
    have := rising_loop l hl (q + 1) (l.length - 1) 0 (by omega)
    rwa [show l.length - 1 + (q + 1) + 5 = l.length + q + 5 from by omega, List.drop_zero] at this
theorem rising_k {l : List En} (h : l.length ≤ 150) (k : Nat) : ikey_Rising.f (k + 200) l = some (risesB l) := by
  have := rising_f l (by omega) (k + 195 - l.length)
  rwa [show l.length + (k + 195 - l.length) + 5 = k + 200 from by omega] at this
end Go.Proofs.YtojemmipkpckbaaL

end

section
set_option linter.unusedVariables false
set_option linter.unusedSimpArgs false
namespace Go.Proofs.YtojemmipkpckbaaL
open Go Go.RowKit Go.Maps Go.Proofs.YtojemmipkpckbaaR Go.Proofs.YtojemmipkpckbaaG Go.Proofs.Ytojemmipkpckbaa.P Go.Proofs.YtojemmipkpckbaaW.PrintWords
attribute [local go_sem] str_geq str_gtr str_leq

theorem C_one' {W : World} {g : Nat} {A : Option Addr} {c : Nat} {l : List MEn} (h : Kd.C k41 W A l.length l) (hc : l.length ≤ c) (hb : W.heap[g]? = some (.cells #[.slice A l.length c] 29)) : Kd.C (Kd.slice 41 k41) W (some ⟨g, 0, none⟩) ([l] : List (List MEn)).length [l] :=
  ⟨rfl, by simp, fun _ => ⟨_, rfl, fun j p hj => by
    cases j with
    | succ j => simp at hj
    | zero =>
      obtain rfl : l = p := by simpa using hj
      refine ⟨[.slice A l.length c], rfl, ⟨A, c, rfl, hc, h⟩, fun i u hu => ?_⟩
      cases i with
      | succ i => simp at hu
      | zero =>
        obtain rfl : Value.slice A l.length c = u := by simpa using hu
        rw [add_plain]
        exact blk_cell hb 0⟩⟩
/-- The entries of the first lists. -/
def fl (L : List (List MEn)) (i : Nat) : List MEn := (L.take i).flatten
theorem fl_succ {L : List (List MEn)} {i : Nat} {l : List MEn} (h : L[i]? = some l) : fl L (i + 1) = fl L i ++ l := by
  unfold fl
  rw [List.take_add_one, h]
  show ((L.take i) ++ [l]).flatten = _
  rw [List.flatten_append]
  simp
theorem fl_mem {L : List (List MEn)} {i : Nat} {e : MEn} (h : e ∈ fl L i) : ∃ l ∈ L, e ∈ l := by
  obtain ⟨l, hl, he⟩ := List.mem_flatten.1 h
  exact ⟨l, List.mem_of_mem_take hl, he⟩
theorem fl_len : ∀ (L : List (List MEn)) (i : Nat), (fl L i).length ≤ mSize L
  | [], i => by simp [fl]
  | a :: L, 0 => by simp [fl]
  | a :: L, i + 1 => by
    have ih := fl_len L i
    show (a ++ (L.take i).flatten).length ≤ a.length + mSize L
    rw [List.length_append]
    unfold fl at ih
    omega
theorem size_mem : ∀ {L : List (List MEn)} {l : List MEn}, l ∈ L → l.length ≤ mSize L
  | a :: L, l, h => by
    show l.length ≤ a.length + mSize L
    rcases List.mem_cons.1 h with rfl | h
    · omega
    · have := size_mem h; omega
theorem all_zero (w : World) : (zeroValue 41).run Try.prog w = .ok (.agg #[.string ⟨#[]⟩, .int .u64 0, .int .u8 0, .string ⟨#[]⟩]) w := by kernel_rfl
def enZ : MEn := ⟨⟨⟨#[]⟩, 0, 0⟩, ⟨#[]⟩⟩
section
variable {P : Program} (w : World) {ops : Array Oper} {rest : List Oper} {o : Oper} {a : Act} {Q : Exit → Act → World → Prop}
/-- A look-up that asks whether there is one. -/
theorem lookup_en_ok (hg : o.guard = none) (m x : Operand) (t : TypeId) (hop : o.op = Op.lookup t m x true)
    (k e : TypeId) (K : Keyed P k) (ht : P.underlying t = some (.map k e)) (hz : (zeroValue e).run P w = .ok (enW enZ) w) (b n : Nat) (D : DataW Nat)
    (hm : a.eval m = .map (some b)) (hown : w.ownsMap P k enElem b n D) (key : Value) (kl : Lit) (hx : a.eval x = key) (hkey : keyOf P k key = some kl) (bo : Bool) (hb : Maps.has D kl = bo)
    (hK : ∀ en : MEn, wpList P ops Q rest (a.put o.dst (.tuple #[.agg #[.string en.f0.f0, .int .u64 en.f0.f1, .int .u8 en.f0.f2, .string en.f1], .bool bo])) w) : wpList P ops Q (o :: rest) a w :=
  wpList_lookup_own_ok w hg m x t hop k e K ht enElem hz (enD enZ) [] (enElem_mk enZ) b n D hm hown key kl hx hkey (fun v ps hv => by
    obtain ⟨en, rfl⟩ := enElem_some hv
    rw [hb]
    exact hK en)
end
set_option maxRecDepth 100000 in
set_option maxHeartbeats 4000000 in
theorem all_calls (A0 : Option Addr) (c0 : Nat) (l0 : List (List MEn)) (w : World)
    (hr0 : Kd.C (Kd.slice 41 k41) w A0 l0.length l0) (hc0 : l0.length ≤ c0) (hsz : l0.length ≤ 10000000000000) (hin : ∀ l ∈ l0, l.length ≤ 9223372036854775807) (hwf : ∀ l ∈ l0, ∀ e ∈ l, wfK e.f0) :
    Calls Try.prog 7 #[.slice A0 l0.length c0] w fun e w' => e = .returned (.bool true) ∧ Below w.heap.size w w' := by
  obtain ⟨kf, hkf⟩ := Ev.rounds (fine_ev l0 hsz hin)
  obtain ⟨ka, hka⟩ := Ev.rounds awake11
  have HR0 := Aside0.mk hr0
  have HC0 := Aside0.mk hc0
  have HKF := Aside0.mk hkf
  have HAW := Aside0.mk hka
  have HWF := Aside0.mk hwf
  clear hr0 hc0 hsz hin hkf hka hwf
  have hmm := @run_makeMap Try.prog
  by_cases hg : fineB l0 = true
  · have HFB := Aside0.mk hg
    rw [hg] at HKF
    clear hg
    obtain ⟨hrise, hl12, hl120, hfit⟩ := fine_fits HFB.out
    obtain ⟨al, hal⟩ : ∃ al, al = mAll (mSize l0) l0 := ⟨_, rfl⟩
    have hup := (mAll_up (mSize l0) l0 hrise).1
    rw [← hal] at hup
    have hra := up_rises al hup
    have hlen : al.length ≤ 120 := by have := mAll_len (mSize l0) l0; rw [hal]; omega
    obtain ⟨_, hOa⟩ := all_dealt (dealt_one al) hra
    have hfit1 : mFits [al] := ⟨by simp, by show al.length + 0 ≤ 1000000; omega⟩
    have H1 : Aside0 (merge_All.f l0 = some al) := ⟨by unfold merge_All.f; rw [if_pos hfit, hal]⟩
    have H2 : Aside0 (merge_All.f [al] = some al) := ⟨by unfold merge_All.f; rw [if_pos hfit1, hOa]⟩
    have H3 : Aside0 (ikey_Rising.f 200 al = some true) := ⟨by have := rising_k (l := al) (by omega) 0; rw [hra] at this; exact this⟩
    obtain ⟨ke, hke⟩ := Ev.rounds (entries_same al (by omega))
    have HKE := Aside0.mk hke
    have HRI := Aside0.mk hrise
    have HL12 := Aside0.mk hl12
    have HLEN := Aside0.mk hlen
    have HAL := Aside0.mk hal
    have HSZ := Aside0.mk hl120
    have HUP := Aside0.mk hup
    clear hrise hl12 hl120 hfit hal hup hra hlen hOa hfit1 hke
    go_enter Try.func7, Try.ntmps7
    go_wp2_with (first | (go_at_call 14; (with_reducible refine (ratlinelaw11_Fine.calls kf _ _ l0 true _ HR0.out HC0.out HKF.out).mono ?_); rintro e w2 ⟨rfl, hb2⟩; have HB2 := Aside0.mk hb2; clear hb2 HKF) | (go_at_call 19; (with_reducible refine (merge_All.calls _ _ l0 al _ (Kd.C_below HR0.out HB2.out) HC0.out H1.out).mono ?_); rintro e w3 ⟨v3, rfl, hr3, hb3⟩; obtain ⟨A3, c3, rfl, hc3, hC3⟩ := Kd.R_reads hr3; have HC3 := Aside0.mk hC3; have HC4 := Aside0.mk hc3; have HB3 := Aside0.mk (below_step HB2.out hb3); have HBW := Aside0.mk (Below.refl w3.heap.size w3); clear hr3 hc3 hC3 hb3) | (go_at_call 24; (with_reducible refine (ikey_Rising.calls 200 _ _ al true _ (Kd.C_below HC3.out HBW.out) HC4.out H3.out).mono ?_); rintro e w4 ⟨rfl, hb4⟩; have HBW := Aside0.mk (below_step HBW.out hb4); clear hb4) | (go_at_call 19; refine (merge_All.calls _ 1 [al] al _ (C_one' (g := w4.heap.size) (Kd.C_alloc (Kd.C_below HC3.out HBW.out) _) HC4.out (box_new w4 _ _)) (by simp) H2.out).mono ?_; rintro e w6 ⟨v6, rfl, hr6, hb6⟩; obtain ⟨A6, c6, rfl, hc6, hC6⟩ := Kd.R_reads hr6; have HC6 := Aside0.mk hC6; have HC7 := Aside0.mk hc6; have HBW := Aside0.mk (below_step (below_alloc HBW.out _) hb6); clear hr6 hc6 hC6 hb6) | (go_at_call 18; refine (ratlinelaw04_Entries.calls ke _ _ al _ _ al true _ HC6.out HC7.out (Kd.C_below HC3.out HBW.out) HC4.out HKE.out).mono ?_; rintro e w5 ⟨rfl, hd5⟩; have HBW := Aside0.mk (below_step HBW.out hd5.below); clear hd5))
    have HL5 : Aside0 (Kd.C (Kd.slice 41 k41) w5 A0 l0.length l0) := ⟨Kd.C_below HR0.out (below_step HB3.out HBW.out)⟩
    go_loopg [33] l0.length (fun kq v33 wr => ∃ i : Nat, v33 = .int .i64 (i : Int) ∧ Aside0 (i + kq = l0.length) ∧ Aside0 (Below w5.heap.size w5 wr) ∧ Aside0 (wr.ownsMap Try.prog 39 enElem w5.heap.size (fl l0 i).length (mOf (.map []) (firsts (fl l0 i)))))
    case atStart => exact ⟨0, rfl, ⟨by omega⟩, ⟨below_alloc (Below.refl _ _) _⟩, ⟨World.ownsMap_made _ _ _ _⟩⟩
    case round =>
      obtain ⟨i, rfl, HI, HB, HO⟩ := hrel
      by_cases hi : i < l0.length
      · cases gk with
        | zero => exact absurd HI.out (by omega)
        | succ k1 =>
          have hib : decide ((i : Int) < (l0.length : Int)) = true := decide_eq_true (by omega)
          have hib2 : decide (i < l0.length) = true := decide_eq_true hi
          have hi1 : wrap64 ((i : Int) + 1) = ((i + 1 : Nat) : Int) := by have := HL12.out; unfold wrap64; omega
          obtain ⟨ad, cs, hA, hcl, hK, hcell⟩ := Kd.C_get HL5.out ([] : List MEn) (i : Int) (by omega) (by omega)
          subst hA
          obtain ⟨Al, cl, hcs, hlcl, hCl⟩ := hK
          subst hcs
          rw [Int.toNat_natCast] at hlcl hCl hcell
          have hcell := hcell 0 _ rfl
          obtain ⟨l, hl⟩ : ∃ l, l = l0.getD i [] := ⟨_, rfl⟩
          rw [← hl] at hlcl hCl hcell
          rw [show (Kd.slice 41 k41).sz = 1 from rfl, Nat.mul_one, Nat.add_zero] at hcell
          have hcell := pw_cell_below HB.out hcell
          have hl2 : l0[i]? = some l := by rw [hl, List.getD_eq_getElem?_getD, List.getElem?_eq_getElem hi]; rfl
          have hlm : l ∈ l0 := List.mem_of_getElem? hl2
          have hl60 : l.length ≤ 120 := by have := size_mem hlm; have := HSZ.out; omega
          have HLM := Aside0.mk hlm
          have HL60 := Aside0.mk hl60
          have HL2 := Aside0.mk hl2
          have HCL := Aside0.mk hCl
          clear hl hl2 hlm hl60 hCl
          go_wp2
          go_loopg [39] l.length (fun kq v39 wr => ∃ j : Nat, v39 = .int .i64 (j : Int) ∧ Aside0 (j + kq = l.length) ∧ Aside0 (Below w5.heap.size w5 wr) ∧ Aside0 (wr.ownsMap Try.prog 39 enElem w5.heap.size ((fl l0 i).length + j) (mOf (.map []) (firsts (fl l0 i ++ l.take j)))))
          case atStart => exact ⟨0, rfl, ⟨by omega⟩, HB, ⟨by rw [List.take_zero, List.append_nil]; exact HO.out⟩⟩
          case round =>
            obtain ⟨j, rfl, HJ, HB2, HO2⟩ := hrel
            clear hcell HO HB
            by_cases hj : j < l.length
            · cases gk with
              | zero => exact absurd HJ.out (by omega)
              | succ k2 =>
                have hjb : decide ((j : Int) < (l.length : Int)) = true := decide_eq_true (by omega)
                have hjb2 : decide (j < l.length) = true := decide_eq_true hj
                have hj1 : wrap64 ((j : Int) + 1) = ((j + 1 : Nat) : Int) := by have := HL60.out; unfold wrap64; omega
                obtain ⟨adl, he, hx0, hx1, hx2, hx3⟩ := at_T41 (Kd.C_below HCL.out HB2.out) (j : Int) (by omega) (by omega)
                subst he
                have hrd : rd_T41 l (j : Int) = l[j] := by
                  show l.getD ((j : Int)).toNat _ = _
                  rw [Int.toNat_natCast, List.getD_eq_getElem?_getD, List.getElem?_eq_getElem hj]
                  rfl
                rw [hrd] at hx0 hx1 hx2 hx3
                simp only [Int.toNat_natCast] at hx0 hx1 hx2 hx3
                obtain ⟨p, hp⟩ : ∃ p, p = l[j] := ⟨_, rfl⟩
                rw [← hp] at hx0 hx1 hx2 hx3
                have hp2 : l[j]? = some p := by rw [hp, List.getElem?_eq_getElem hj]
                have hwp := HWF.out l HLM.out p (List.mem_of_getElem? hp2)
                have HKEY := Aside0.mk (ik_key hwp)
                have hroom : (fl l0 i).length + j < maxLen := by
                  have h1 := fl_len l0 i
                  have h2 := HSZ.out
                  have h3 := HL60.out
                  unfold maxLen
                  omega
                have HROOM := Aside0.mk hroom
                have hwf : ∀ e ∈ fl l0 i ++ l.take j, wfK e.f0 := fun e he => by
                  rcases List.mem_append.1 he with he | he
                  · obtain ⟨q, hq, heq⟩ := fl_mem he
                    exact HWF.out q hq e heq
                  · exact HWF.out l HLM.out e (List.mem_of_mem_take he)
                have hhas := has_first hwf hwp
                have HPE := Aside0.mk hp2
                clear hrd hp hp2 hroom hwf hwp
                by_cases hany : (firsts (fl l0 i ++ l.take j)).any (fun y => mSame y.f0 p.f0) = true
                · rw [hany] at hhas
                  have HHAS := Aside0.mk hhas
                  have hnext : firsts (fl l0 i ++ l.take (j + 1)) = firsts (fl l0 i ++ l.take j) := by
                    rw [List.take_add_one, HPE.out]
                    show firsts (fl l0 i ++ (l.take j ++ [p])) = _
                    rw [← List.append_assoc, firsts_snoc, addF, if_pos hany]
                  have HNX := Aside0.mk hnext
                  clear hhas hany hnext
                  go_wp2_with (at_lookup; refine lookup_en_ok _ ?hgd (.tmp 44) (.tmp 46) 47 ?hop 39 41 all_law Try.underlying47 (all_zero _) w5.heap.size ((fl l0 i).length + j) (mOf (.map []) (firsts (fl l0 i ++ l.take j))) ?hm ?hown (ikV p.f0) (kLit p.f0) ?hx HKEY.out true HHAS.out ?_; (case hgd => rfl); (case hop => rfl); (case hm => rfl); (case hown => exact HO2.out.alloc _); (case hx => rfl); intro en)
                  go_roundg k2
                  case measure => exact Nat.lt_succ_self _
                  case rel =>
                    refine ⟨j + 1, by first | rfl | rw [hj1], ⟨by have := HJ.out; omega⟩, ⟨below_alloc (below_alloc HB2.out _) _⟩, ⟨?_⟩⟩
                    rw [HNX.out]
                    exact World.ownsMap.mono ((HO2.out.alloc _).alloc _) (by omega)
                · have hany := Bool.eq_false_iff.2 hany
                  rw [hany] at hhas
                  have HHAS := Aside0.mk hhas
                  have hnext : firsts (fl l0 i ++ l.take (j + 1)) = firsts (fl l0 i ++ l.take j) ++ [p] := by
                    rw [List.take_add_one, HPE.out]
                    show firsts (fl l0 i ++ (l.take j ++ [p])) = _
                    rw [← List.append_assoc, firsts_snoc, addF, hany]
                    rfl
                  have HNX := Aside0.mk hnext
                  clear hhas hany hnext
                  go_wp2_with (first | (at_lookup; refine lookup_en_ok _ ?hgd (.tmp 44) (.tmp 46) 47 ?hop 39 41 all_law Try.underlying47 (all_zero _) w5.heap.size ((fl l0 i).length + j) (mOf (.map []) (firsts (fl l0 i ++ l.take j))) ?hm ?hown (ikV p.f0) (kLit p.f0) ?hx HKEY.out false HHAS.out ?_; (case hgd => rfl); (case hop => rfl); (case hm => rfl); (case hown => exact HO2.out.alloc _); (case hx => rfl); intro en) | (at_mapUpdate; refine wpList_mapUpdate_own _ ?hgd (.tmp 52) (.tmp 54) (.tmp 55) 47 ?hop 39 41 all_law Try.underlying47 enElem w5.heap.size ((fl l0 i).length + j) (mOf (.map []) (firsts (fl l0 i ++ l.take j))) ?hm ?hown ?hroom (ikV p.f0) (enW p) (kLit p.f0) ?hx ?hv HKEY.out (enD p) [] (enElem_mk p) ?_; (case hgd => rfl); (case hop => rfl); (case hm => rfl); (case hown => exact (HO2.out.alloc _).alloc _); (case hroom => exact HROOM.out); (case hx => rfl); (case hv => rfl); intro w7 ho7 hg7; have HO7 := Aside0.mk ho7; have HG7 := Aside0.mk hg7; clear ho7 hg7))
                  go_roundg k2
                  case measure => exact Nat.lt_succ_self _
                  case rel =>
                    refine ⟨j + 1, by first | rfl | rw [hj1], ⟨by have := HJ.out; omega⟩, ⟨(below_alloc (below_alloc HB2.out _) _).grown HG7.out (Below.size (below_alloc (below_alloc HB2.out _) _)) (fun k hk => by cases hk; exact Nat.le_refl _)⟩, ⟨?_⟩⟩
                    rw [HNX.out, mOf_snoc]
                    exact HO7.out
            · have hjb : decide ((j : Int) < (l.length : Int)) = false := decide_eq_false (by omega)
              have hjb2 : decide (j < l.length) = false := decide_eq_false hj
              have hjl : j = l.length := by have := HJ.out; omega
              have ho2 := HO2.out
              rw [hjl, List.take_length, ← fl_succ HL2.out] at ho2
              have hfl : (fl l0 i).length + l.length = (fl l0 (i + 1)).length := by rw [fl_succ HL2.out, List.length_append]
              rw [hfl] at ho2
              have HO3 := Aside0.mk ho2
              clear ho2 hfl hj
              go_wp2
              go_roundg k1
              case measure => exact Nat.lt_succ_self _
              case rel => exact ⟨i + 1, by first | rfl | rw [hi1], ⟨by have := HI.out; omega⟩, HB2, HO3⟩
      · have hib : decide ((i : Int) < (l0.length : Int)) = false := decide_eq_false (by omega)
        have hib2 : decide (i < l0.length) = false := decide_eq_false hi
        have hil : i = l0.length := by have := HI.out; omega
        have ho := HO.out
        rw [hil, show fl l0 l0.length = l0.flatten from by unfold fl; rw [List.take_length]] at ho
        have hwf : ∀ e ∈ l0.flatten, wfK e.f0 := fun e he => by
          obtain ⟨q, hq, heq⟩ := List.mem_flatten.1 he
          exact HWF.out q hq e heq
        obtain ⟨hmem, hfl⟩ := firsts_all HRI.out
        rw [← HAL.out] at hmem hfl
        have hwff : ∀ e ∈ firsts l0.flatten, wfK e.f0 := fun e he => hwf e (firstL_mem (mem_firsts.1 he))
        have hsize : Maps.size (mOf (.map []) (firsts l0.flatten)) = al.length := by
          rw [size_mOf _ _ tidy_empty (keys_firsts _) hwff (fun e he => rfl), hfl]
          show 0 + al.length = al.length
          omega
        have hat : ∀ (j : Nat) (e : MEn), al[j]? = some e → wfK e.f0 ∧ (mOf (.map []) (firsts l0.flatten)).atKey (kLit e.f0) (enD enZ) = enD e := fun j e he => by
          have hf := (hmem e).2 (List.mem_of_getElem? he)
          exact ⟨hwff e hf, at_mOf _ _ _ e isMap_empty (keys_firsts _) hwff hf⟩
        have HO8 := Aside0.mk ho
        have HSIZE := Aside0.mk hsize
        have HAT := Aside0.mk hat
        clear ho hwf hmem hfl hwff hsize hat hi hib hib2 HO
        go_wp2_with (at_len; refine wpList_len_own _ ?hgd (.tmp 58) 47 ?hop 39 41 Try.underlying47 enElem w5.heap.size l0.flatten.length (mOf (.map []) (firsts l0.flatten)) ?hm HO8.out ?_; (case hgd => rfl); (case hop => rfl); (case hm => rfl); rw [HSIZE.out])
        have HC5 : Aside0 (Kd.C k41 w5 A3 al.length al) := ⟨Kd.C_below HC3.out HBW.out⟩
        have hu39 := Try.underlying39
        have hu41 := Try.underlying41
        go_loopg [65] al.length (fun kq v65 wr => ∃ j : Nat, v65 = .int .i64 (j : Int) ∧ Aside0 (j + kq = al.length) ∧ Aside0 (Below w5.heap.size w5 wr) ∧ Aside0 (wr.ownsMap Try.prog 39 enElem w5.heap.size l0.flatten.length (mOf (.map []) (firsts l0.flatten))))
        case atStart => exact ⟨0, rfl, ⟨by omega⟩, HB, HO8⟩
        case round =>
          obtain ⟨j, rfl, HJ, HB9, HO9⟩ := hrel
          clear HO8 HB
          by_cases hj : j < al.length
          · cases gk with
            | zero => exact absurd HJ.out (by omega)
            | succ k3 =>
              have hjb : decide ((j : Int) < (al.length : Int)) = true := decide_eq_true (by omega)
              have hjb2 : decide (j < al.length) = true := decide_eq_true hj
              have hj1 : wrap64 ((j : Int) + 1) = ((j + 1 : Nat) : Int) := by have := HLEN.out; unfold wrap64; omega
              obtain ⟨adl, he, hx0, hx1, hx2, hx3⟩ := at_T41 (Kd.C_below HC5.out HB9.out) (j : Int) (by omega) (by omega)
              subst he
              have hrd : rd_T41 al (j : Int) = al[j] := by
                show al.getD ((j : Int)).toNat _ = _
                rw [Int.toNat_natCast, List.getD_eq_getElem?_getD, List.getElem?_eq_getElem hj]
                rfl
              rw [hrd] at hx0 hx1 hx2 hx3
              simp only [Int.toNat_natCast] at hx0 hx1 hx2 hx3
              obtain ⟨p, hp⟩ : ∃ p, p = al[j] := ⟨_, rfl⟩
              rw [← hp] at hx0 hx1 hx2 hx3
              have hp2 : al[j]? = some p := by rw [hp, List.getElem?_eq_getElem hj]
              obtain ⟨hwp, hat⟩ := HAT.out j p hp2
              have hkey : keyOf Try.prog 39 (.agg #[.string p.f0.f0, .int .u64 p.f0.f1, .int .u8 p.f0.f2]) = some (kLit p.f0) := ik_key hwp
              have hlk : ∀ n, (Instr.lookup 47 (.map (some w5.heap.size)) (.agg #[.string p.f0.f0, .int .u64 p.f0.f1, .int .u8 p.f0.f2]) false).run Try.prog ((wr.alloc (.cells #[.string p.f0.f0, .int .u64 p.f0.f1, .int .u8 p.f0.f2, .string p.f1] 41)).drewN n) = .ok (.agg #[.string p.f0.f0, .int .u64 p.f0.f1, .int .u8 p.f0.f2, .string p.f1]) ((wr.alloc (.cells #[.string p.f0.f0, .int .u64 p.f0.f1, .int .u8 p.f0.f2, .string p.f1] 41)).drewN n) := fun n => by
                have ho : ((wr.alloc (.cells #[.string p.f0.f0, .int .u64 p.f0.f1, .int .u8 p.f0.f2, .string p.f1] 41)).drewN n).ownsMap Try.prog 39 enElem w5.heap.size l0.flatten.length (mOf (.map []) (firsts l0.flatten)) := HO9.out.alloc _
                obtain ⟨v, ps, hrun, hv⟩ := ho.lookup all_law Try.underlying47 (all_zero _) (enElem_mk enZ) hkey
                rw [hat] at hv
                obtain rfl := enElem_inv hv
                exact hrun
              have hlk0 : (Instr.lookup 47 (.map (some w5.heap.size)) (.agg #[.string p.f0.f0, .int .u64 p.f0.f1, .int .u8 p.f0.f2]) false).run Try.prog (wr.alloc (.cells #[.string p.f0.f0, .int .u64 p.f0.f1, .int .u8 p.f0.f2, .string p.f1] 41)) = .ok (.agg #[.string p.f0.f0, .int .u64 p.f0.f1, .int .u8 p.f0.f2, .string p.f1]) (wr.alloc (.cells #[.string p.f0.f0, .int .u64 p.f0.f1, .int .u8 p.f0.f2, .string p.f1] 41)) := hlk 0
              clear hrd hp hp2 hwp hat hkey
              go_wp2
              go_quiet (fail)
              go_wp2
              go_roundg k3
              case measure => exact Nat.lt_succ_self _
              case rel => exact ⟨j + 1, by first | rfl | rw [hj1], ⟨by have := HJ.out; omega⟩, ⟨pw_below_drewN (below_alloc HB9.out _) _⟩, ⟨HO9.out.alloc _⟩⟩
          · have hjb : decide ((j : Int) < (al.length : Int)) = false := decide_eq_false (by omega)
            have hjb2 : decide (j < al.length) = false := decide_eq_false hj
            clear hj
            go_wp2_with (go_at_call 15; refine (ratlinelaw11_awake.calls ka true _ HAW.out).mono ?_; rintro e w10 ⟨rfl, hb10⟩)
            go_ret
            exact ⟨rfl, below_step HB3.out (below_step HBW.out (below_step HB9.out hb10))⟩
  · have hgf : fineB l0 = false := Bool.eq_false_iff.2 hg
    rw [hgf] at HKF
    clear hg
    go_enter Try.func7, Try.ntmps7
    go_wp2_with (first | (go_at_call 14; refine (ratlinelaw11_Fine.calls kf _ _ l0 false _ HR0.out HC0.out HKF.out).mono ?_; rintro e w2 ⟨rfl, hb2⟩; have HB2 := Aside0.mk hb2; clear hb2 HKF) | (go_at_call 15; refine (ratlinelaw11_awake.calls ka true _ HAW.out).mono ?_; rintro e w3 ⟨rfl, hb3⟩))
    go_ret
    exact ⟨rfl, below_step HB2.out hb3⟩
end Go.Proofs.YtojemmipkpckbaaL

end

section
set_option linter.unusedVariables false
namespace Go.Proofs.Ytojemmipkpckbaa.P
open Go Go.RowKit Go.Proofs.YtojemmipkpckbaaG Go.Proofs.YtojemmipkpckbaaL Go.Proofs.YtojemmipkpckbaaW.PrintWords
noncomputable def ratlinelaw11_MergeAll.f (_ : Nat) (l0 : List (List MEn)) : Option Bool :=
  open Classical in if l0.length ≤ 10000000000000 ∧ (∀ l ∈ l0, l.length ≤ 9223372036854775807) ∧ (∀ l ∈ l0, ∀ e ∈ l, wfK e.f0) then some true else none
theorem ratlinelaw11_MergeAll.calls (k : Nat) (A0 : Option Addr) (c0 : Nat) (l0 : List (List MEn)) (r : Bool) (w : World)
    (hr0 : Kd.C (Kd.slice 41 k41) w A0 l0.length l0) (hc0 : l0.length ≤ c0) (h : ratlinelaw11_MergeAll.f k l0 = some r) :
    Calls Try.prog 7 #[.slice A0 l0.length c0] w fun e w' => e = .returned (.bool r) ∧ Below w.heap.size w w' := by
  unfold ratlinelaw11_MergeAll.f at h
  by_cases hc : l0.length ≤ 10000000000000 ∧ (∀ l ∈ l0, l.length ≤ 9223372036854775807) ∧ (∀ l ∈ l0, ∀ e ∈ l, wfK e.f0)
  · rw [if_pos hc] at h
    obtain rfl := Option.some.inj h
    exact all_calls A0 c0 l0 w hr0 hc0 hc.1 hc.2.1 hc.2.2
  · rw [if_neg hc] at h
    cases h
end Go.Proofs.Ytojemmipkpckbaa.P

end

section
set_option linter.unusedVariables false
namespace Go.Proofs.Ytojemmipkpckbaa.Pure
open Go Go.RowKit Go.Proofs.Ytojemmipkpckbaa.P Go.Proofs.YtojemmipkpckbaaG Go.Proofs.YtojemmipkpckbaaL
theorem MergeAll (L : List (List MEn)) (_ : L.length ≤ maxLen) (hl : L.length * 24 ≤ 140737488351232) (hw : ∀ l ∈ L, l.length ≤ maxLen ∧ ∀ e ∈ l, (e.f0.f0.size ≤ maxLen ∧ (Lit.int .u64 e.f0.f1).wf = true ∧ (Lit.int .u8 e.f0.f2).wf = true) ∧ e.f1.size ≤ maxLen) :
    ∃ k, ratlinelaw11_MergeAll.f k L = some true := by
  refine ⟨0, ?_⟩
  unfold ratlinelaw11_MergeAll.f
  exact if_pos ⟨by omega, fun l hl => by have := (hw l hl).1; simp only [maxLen] at this; omega, fun l hl e he => ((hw l hl).2 e he).1⟩
end Go.Proofs.Ytojemmipkpckbaa.Pure

end

section
set_option linter.unusedVariables false
namespace Go.Proofs.YtojemmipkpckbaaG
open Go Go.RowKit Go.Proofs.YtojemmipkpckbaaW.PrintWords

/-- What is trodden of this type is of this kind, and is right. -/
def Opens {α : Type} (P : Program) (t : TypeId) (d : Kd α) (wf : α → Prop) : Prop :=
  ∀ (H : Type) (enc : TypeId × Value → H) (w : World) (base : Nat) (sp : Nat → Bool) (held : Bool) (fuel : Nat) (cs : List Value) (x : DataW H × List MemPlace),
    DataW.trod enc P w base sp held fuel t cs = some x → ∃ a, d.K w a cs ∧ wf a
section
variable {P : Program} {t e : TypeId}
theorem opens_int {k : IntKind} (ht : P.underlying t = some (.int k)) : Opens P t (Kd.int k) (fun n => (Lit.int k n).wf = true) := by
  intro H enc w base sp held fuel cs x h
  obtain ⟨n, rfl, _, hw⟩ := DataW.trod_int ht h
  exact ⟨n, rfl, hw⟩
theorem opens_string (ht : P.underlying t = some .string) : Opens P t Kd.string (fun s => s.size ≤ maxLen) := by
  intro H enc w base sp held fuel cs x h
  obtain ⟨n, rfl, _, hm⟩ := DataW.trod_string ht h
  exact ⟨n, rfl, hm⟩
theorem build {α : Type} {Q : Nat → α → Prop} : ∀ n : Nat, (∀ i, i < n → ∃ a, Q i a) → ∃ l : List α, l.length = n ∧ ∀ i a, l[i]? = some a → Q i a := by
  intro n
  induction n with
  | zero => intro _; exact ⟨[], rfl, fun i a h => by simp at h⟩
  | succ n ih =>
    intro h
    obtain ⟨l, hl, hq⟩ := ih (fun i hi => h i (by omega))
    obtain ⟨a, ha⟩ := h n (by omega)
    refine ⟨l ++ [a], by simp [hl], fun i b hb => ?_⟩
    by_cases hi : i < n
    · rw [List.getElem?_append_left (by omega)] at hb
      exact hq i b hb
    · rw [List.getElem?_append_right (by omega)] at hb
      by_cases hin : i = n
      · subst hin
        rw [hl, Nat.sub_self] at hb
        simp at hb
        exact hb ▸ ha
      · rw [List.getElem?_eq_none (by simp; omega)] at hb
        cases hb
theorem opens_row {α : Type} {d : Kd α} {wf : α → Prop} (hc : P.cellsOf e = d.sz) (ht : P.underlying t = some (.slice e)) (he : Opens P e d wf)
    {H : Type} {enc : TypeId × Value → H} {w : World} {base : Nat} {sp : Nat → Bool} {held : Bool} {fuel : Nat} {cs : List Value} {x : DataW H × List MemPlace} (h : DataW.trod enc P w base sp held fuel t cs = some x) :
    ∃ (A : Option Addr) (c : Nat) (xs : List α), cs = [.slice A xs.length c] ∧ xs.length ≤ c ∧ c ≤ maxLen ∧ d.C w A xs.length xs ∧ ∀ a ∈ xs, wf a := by
  rcases DataW.trod_slice ht h with ⟨rfl, _⟩ | ⟨ad, len, cap, elems, rest, n, _, rfl, _, hb, hl, hm, hn, hel, _, _⟩
  · exact ⟨none, 0, [], rfl, Nat.le_refl _, by decide, Kd.C_nil d w, fun a ha => by cases ha⟩
  · obtain ⟨xs, hxl, hx⟩ := build (Q := fun i a => wf a ∧ ∃ c, c.length = d.sz ∧ d.K w a c ∧ ∀ j u, c[j]? = some u → w.cell? (ad.add (i * d.sz + j)) = some u) len (fun i hi => by
      have h1 := hel i hi
      rw [List.getElem?_eq_getElem (by omega)] at h1
      obtain ⟨cs', hcs, htr⟩ := Option.bind_eq_some_iff.1 h1
      obtain ⟨a, ha, hw⟩ := he H enc w base sp held n cs' _ htr
      have hlen := d.K_len ha
      obtain ⟨_, hlen2, hcell⟩ := World.cells?_some hcs
      refine ⟨a, hw, cs', hlen, ha, fun j u hj => ?_⟩
      have hjl : j < cs'.length := by
        by_cases hjl : j < cs'.length
        · exact hjl
        · rw [List.getElem?_eq_none (by omega)] at hj; cases hj
      have h2 := hcell j (by omega)
      rw [hc] at h2
      have hadd : (ad.add (i * d.sz)).add j = ad.add (i * d.sz + j) := Addr.add_add ad _ _
      rw [← hadd, h2, hj])
    have hmax : maxLen ≤ 9223372036854775807 := by decide
    refine ⟨some ad, cap, xs, by rw [hxl], by omega, hm, ⟨rfl, by omega, fun _ => ⟨ad, rfl, fun j p hp => (hx j p hp).2⟩⟩, fun a ha => ?_⟩
    obtain ⟨i, hi⟩ := List.mem_iff_getElem?.1 ha
    exact (hx i a hi).1
theorem opens_slice {α : Type} {d : Kd α} {wf : α → Prop} (hc : P.cellsOf e = d.sz) (ht : P.underlying t = some (.slice e)) (he : Opens P e d wf) :
    Opens P t (Kd.slice e d) (fun l => l.length ≤ maxLen ∧ ∀ a ∈ l, wf a) := by
  intro H enc w base sp held fuel cs x h
  obtain ⟨A, c, xs, rfl, hl, hm, hC, hw⟩ := opens_row hc ht he h
  exact ⟨xs, ⟨A, c, rfl, hl, hC⟩, by omega, hw⟩
theorem Opens.iso {α β : Type} {d : Kd α} {wf : α → Prop} (h : Opens P t d wf) (f : β → α) (g : α → β) (hfg : ∀ a, f (g a) = a) : Opens P t (Kd.iso d f) (fun b => wf (f b)) := by
  intro H enc w base sp held fuel cs x htr
  obtain ⟨a, ha, hw⟩ := h H enc w base sp held fuel cs x htr
  exact ⟨g a, by show d.K w (f (g a)) cs; rw [hfg]; exact ha, by show wf (f (g a)); rw [hfg]; exact hw⟩
end

/-- A field of a struct. -/
theorem opens_field {α : Type} {P : Program} {t e : TypeId} {fs : Array Field} {d : Kd α} {wf : α → Prop} {off i : Nat} {f : Field} (ht : P.underlying t = some (.struct fs)) (hi : fs[i]? = some f) (hft : f.type = e) (hfo : f.offset = off) (hc : P.cellsOf e = d.sz) (he : Opens P e d wf)
    {H : Type} {enc : TypeId × Value → H} {w : World} {base : Nat} {sp : Nat → Bool} {held : Bool} {fuel : Nat} {cs : List Value} {x : DataW H × List MemPlace} (h : DataW.trod enc P w base sp held fuel t cs = some x) :
    ∃ a, d.K w a ((cs.drop off).take d.sz) ∧ wf a := by
  obtain ⟨xs, n, _, _, _, hn, hf⟩ := DataW.trod_struct ht h
  have h1 := hf i f hi
  have hil : i < xs.length := by
    rw [hn]
    exact (Array.getElem?_eq_some_iff.1 hi).1
  rw [List.getElem?_eq_getElem hil, hft, hfo, hc] at h1
  exact he H enc w base sp held n _ _ h1
theorem opens_cells {P : Program} {t : TypeId} {fs : Array Field} (ht : P.underlying t = some (.struct fs)) {H : Type} {enc : TypeId × Value → H} {w : World} {base : Nat} {sp : Nat → Bool} {held : Bool} {fuel : Nat} {cs : List Value} {x : DataW H × List MemPlace} (h : DataW.trod enc P w base sp held fuel t cs = some x) :
    cs.length = P.cellsOf t := by
  obtain ⟨xs, n, _, _, hl, _⟩ := DataW.trod_struct ht h
  exact hl
theorem opens_struct2 {α β : Type} {P : Program} {t ta tb : TypeId} {fs : Array Field} {a : Kd α} {b : Kd β} {wa : α → Prop} {wb : β → Prop} (ht : P.underlying t = some (.struct fs)) (hc : P.cellsOf t = a.sz + b.sz)
    (f0 : (fs[0]?).map (fun f => (f.type, f.offset)) = some (ta, 0)) (f1 : (fs[1]?).map (fun f => (f.type, f.offset)) = some (tb, a.sz)) (ca : P.cellsOf ta = a.sz) (cb : P.cellsOf tb = b.sz) (oa : Opens P ta a wa) (ob : Opens P tb b wb) :
    Opens P t (Kd.pair a b) (fun x => wa x.1 ∧ wb x.2) := by
  intro H enc w base sp held fuel cs x h
  obtain ⟨g0, e0, q0⟩ := Option.map_eq_some_iff.1 f0
  obtain ⟨g1, e1, q1⟩ := Option.map_eq_some_iff.1 f1
  simp only [Prod.mk.injEq] at q0 q1
  obtain ⟨x0, k0, w0⟩ := opens_field ht e0 q0.1 q0.2 ca oa h
  obtain ⟨x1, k1, w1⟩ := opens_field ht e1 q1.1 q1.2 cb ob h
  have hl := opens_cells ht h
  have hsp : (cs.drop a.sz).take b.sz = cs.drop a.sz := List.take_of_length_le (by rw [List.length_drop]; omega)
  rw [List.drop_zero] at k0
  rw [hsp] at k1
  exact ⟨(x0, x1), ⟨cs.take a.sz, cs.drop a.sz, (List.take_append_drop _ _).symm, k0, k1⟩, w0, w1⟩
theorem opens_struct3 {α β γ : Type} {P : Program} {t ta tb tc : TypeId} {fs : Array Field} {a : Kd α} {b : Kd β} {c : Kd γ} {wa : α → Prop} {wb : β → Prop} {wc : γ → Prop} (ht : P.underlying t = some (.struct fs)) (hc : P.cellsOf t = a.sz + (b.sz + c.sz))
    (f0 : (fs[0]?).map (fun f => (f.type, f.offset)) = some (ta, 0)) (f1 : (fs[1]?).map (fun f => (f.type, f.offset)) = some (tb, a.sz)) (f2 : (fs[2]?).map (fun f => (f.type, f.offset)) = some (tc, a.sz + b.sz)) (ca : P.cellsOf ta = a.sz) (cb : P.cellsOf tb = b.sz) (cc : P.cellsOf tc = c.sz) (oa : Opens P ta a wa) (ob : Opens P tb b wb) (oc : Opens P tc c wc) :
    Opens P t (Kd.pair a (Kd.pair b c)) (fun x => wa x.1 ∧ wb x.2.1 ∧ wc x.2.2) := by
  intro H enc w base sp held fuel cs x h
  obtain ⟨g0, e0, q0⟩ := Option.map_eq_some_iff.1 f0
  obtain ⟨g1, e1, q1⟩ := Option.map_eq_some_iff.1 f1
  obtain ⟨g2, e2, q2⟩ := Option.map_eq_some_iff.1 f2
  simp only [Prod.mk.injEq] at q0 q1 q2
  obtain ⟨x0, k0, w0⟩ := opens_field ht e0 q0.1 q0.2 ca oa h
  obtain ⟨x1, k1, w1⟩ := opens_field ht e1 q1.1 q1.2 cb ob h
  obtain ⟨x2, k2, w2⟩ := opens_field ht e2 q2.1 q2.2 cc oc h
  have hl := opens_cells ht h
  have hsp : (cs.drop (a.sz + b.sz)).take c.sz = (cs.drop a.sz).drop b.sz := by rw [List.take_of_length_le (by rw [List.length_drop]; omega), List.drop_drop]
  rw [List.drop_zero] at k0
  rw [hsp] at k2
  exact ⟨(x0, x1, x2), ⟨cs.take a.sz, cs.drop a.sz, (List.take_append_drop _ _).symm, k0, _, _, (List.take_append_drop b.sz _).symm, k1, k2⟩, w0, w1, w2⟩
/-- A row's slice is no longer than its weight allows. -/
theorem sized_row {H : Type} {enc : TypeId × Value → H} {P : Program} {W : World} {base : Nat} {spare : Nat → Bool} {held : Bool} {t e : TypeId} {a : Option Addr} {len cap : Nat} {d : DataW H} {ps : List MemPlace} {ts : List TypeId} {ds : List (DataW H)} {j : Nat}
    (hsz : (DataW.weightsEach P ts ds).all (· ≤ reachBytes) = true) (ht : ts[j]? = some t) (hd : ds[j]? = some d) (hu : P.underlying t = some (.slice e)) (B : Nat) (hB : P.bytesOf e = B)
    (h : DataW.Trod enc P W base spare held t (.slice a len cap) d ps) : len * B ≤ 140737488351232 := by
  obtain ⟨fuel, hf⟩ := h
  rcases DataW.trod_slice hu hf with ⟨hcs, _⟩ | ⟨ad, l, c, elems, rest, n, _, hcs, hx, _, _, _, hn, _⟩
  · simp only [Value.cells, List.cons.injEq, Value.slice.injEq, and_true] at hcs
    obtain ⟨rfl, rfl, rfl⟩ := hcs
    rw [Nat.zero_mul]; omega
  · simp only [Value.cells, List.cons.injEq, Value.slice.injEq, and_true] at hcs
    obtain ⟨rfl, rfl, rfl⟩ := hcs
    obtain ⟨hx, _⟩ := Prod.mk.inj hx
    subst hx
    have z := sized_slice hsz ht hd hu
    rw [hB, List.length_map, List.length_map] at z
    exact Nat.le_trans (Nat.mul_le_mul_right _ (by omega)) z
end Go.Proofs.YtojemmipkpckbaaG

end

section
set_option linter.unusedVariables false
namespace Go.Proofs.Ytojemmipkpckbaa.mergeAll
open Go Go.ChangeShapes Go.WideShapes Go.ChangeAt Go.RowKit Go.Proofs.YtojemmipkpckbaaG Go.Proofs.Ytojemmipkpckbaa.P Go.Proofs.YtojemmipkpckbaaW.PrintWords
open Go.ChangeMaps (open_string shut_string)
theorem own : ownKnob Try.prog.godebug = none := by kernel_rfl
theorem laidOut : laidOutB Try.prog = true := by kernel_rfl
set_option maxRecDepth 100000 in
theorem lifted (os : Os) (started : os.Started) (H : Type) (enc : TypeId × Value → H) :
    ReturnsInHanded {} Try.checked os 7 .any (Rows.mergeAllSpec.pre6 enc Try.prog Try.f7 Rows.mergeAllRow.domain false) (Rows.mergeAllSpec.post enc Try.prog Try.f7 false true false false) := by
  refine returnsInHanded_of_change_sized (C := Try.checked) own started (by kernel_rfl) Try.func7
    (ChangeSpec.witness6 (enc := enc) (C := Try.checked) false ⟨#[], #[.slice none 0 0], []⟩ 8 (by kernel_rfl) (by kernel_rfl) (by kernel_rfl) (by kernel_rfl)) ?_
  intro W base args ds gs before hval0 hW hcnd hsz0 _
  have hsz : (DataW.weightsEach Try.prog (Try.f7.params.toList ++ Rows.mergeAllSpec.plain.varTypes Try.prog) (ds ++ gs)).all (· ≤ reachBytes) = true := hsz0
  have hval : ∀ (j : Nat) t v, Try.f7.params[j]? = some t → args[j]? = some v → Value.okWide Try.prog W .any base t v := hval0
  have hW' := hW
  obtain ⟨p, q, hA0, hV, rfl, hfz, hnd⟩ := hW
  have hA : DataW.TrodAll enc Try.prog W 0 (fun _ => true) true Try.f7.params.toList args.toList ds p := hA0
  rw [Try.params7] at hA hval hsz
  obtain ⟨v0, vs0, d0, ds0, p0, q0, hargs, rfl, rfl, h0, r0⟩ := trodAll_cons hA
  obtain ⟨rfl, rfl, rfl⟩ := trodAll_nil r0
  obtain rfl : args = #[v0] := by cases args; simp_all
  obtain ⟨rfl, rfl⟩ := trodVars_none hV
  obtain ⟨a0, len0, cap0, rfl⟩ := okWide_slice Try.underlying22 (hval 0 22 v0 rfl rfl)
  have k0 := h0
  have y0 := sized_row hsz (j := 0) (t := 22) rfl rfl Try.underlying22 24 (by kernel_rfl) h0
  have lt0 : ∀ x ∈ p0, x.block < W.heap.size := by obtain ⟨m, hm⟩ := k0; exact DataW.trod_lt m _ _ _ hm
  obtain ⟨fuel0, hf0⟩ := h0
  obtain ⟨A0, c0, l0, hcs0, hl0, hm0, hC0, hw0⟩ := opens_row (by kernel_rfl) Try.underlying22 (opens_slice (by kernel_rfl) Try.underlying29 (show Opens Try.prog 41 k41 _ from Opens.iso (opens_struct2 (ta := 39) (tb := 9) Try.underlying41 (by kernel_rfl) (by kernel_rfl) (by kernel_rfl) (by kernel_rfl) (by kernel_rfl) (show Opens Try.prog 39 k39 _ from Opens.iso (opens_struct3 (ta := 9) (tb := 23) (tc := 5) Try.underlying39 (by kernel_rfl) (by kernel_rfl) (by kernel_rfl) (by kernel_rfl) (by kernel_rfl) (by kernel_rfl) (by kernel_rfl) (opens_string Try.underlying9) (opens_int Try.underlying23) (opens_int Try.underlying5)) (fun x : S39 => (x.f0, x.f1, x.f2)) (fun q => ⟨q.1, q.2.1, q.2.2⟩) (fun _ => rfl)) (opens_string Try.underlying9)) (fun x : S41 => (x.f0, x.f1)) (fun q => ⟨q.1, q.2⟩) (fun _ => rfl))) hf0
  simp only [Value.cells, List.cons.injEq, Value.slice.injEq, and_true] at hcs0
  obtain ⟨rfl, rfl, rfl⟩ := hcs0
  obtain ⟨k, h⟩ := Pure.MergeAll l0 (Nat.le_trans hl0 hm0) y0 hw0
  clear hA0 hval0 hsz0 hsz
  refine (P.ratlinelaw11_MergeAll.calls k _ _ l0 true W hC0 hl0 h).mono fun e W' ⟨he, bel⟩ => ?_
  subst he
  exact ⟨_, rfl, _, _, _, [], _, [], hW', trodAll_mk1 (shut_bool Try.underlying4 _), (trodAll_cons_mk (Below.trod laidOut (by kernel_rfl) (of_decide_eq_true (by kernel_rfl)) k0 bel lt0) trodAll_mk0), rfl, bel.frame _, fun h => by cases h⟩
theorem over : Rows.mergeAllRow.holds Try.pinned (OpenSpec.ofChange Rows.mergeAllSpec) :=
  OpenClaim.holds_of_wide 7 Try.f7 rfl rfl rfl rfl rfl rfl rfl ⟨rfl, rfl, rfl, rfl, rfl⟩ rfl rfl rfl rfl rfl (by kernel_rfl) Try.func7 (by kernel_rfl)
    (of_decide_eq_true (by kernel_rfl)) (by unfold Func.isWrapper; first | (rw [if_pos (by decide +kernel)]; kernel_rfl) | (rw [if_neg (by decide +kernel)]; exact ⟨rfl, rfl⟩))
    (fun os started H enc _ => lifted os started H enc)
theorem proved : Rows.MergeAllSaid := over
#print axioms proved
end Go.Proofs.Ytojemmipkpckbaa.mergeAll
namespace Go.Proofs.Ytojemmipkpckbaa
/-- The row, under a short name, for the claim. -/
theorem mergeAll_holds : Rows.MergeAllSaid := mergeAll.proved
end Go.Proofs.Ytojemmipkpckbaa

end
