/- Proved here: the row of MergeSpread, and what it needs. Conditions: those of each theorem. Written for this claim by programs; what the claim does not use is left out. -/
import Derived.Deep.RegionLaw
import Derived.ChangeArms
import Derived.DataReads
import Derived.DataElems
import Derived.OpenShut
import Derived.SizedLaws
import Derived.Test.YtojemmipkpckbaaRows
import Derived.WalkKit
import Derived.ProofKit
import Derived.ShutString
import Derived.ChangeOld
import Derived.Below
import Derived.Test.YtojemmipkpckbaaSMergeSpread3
section
set_option linter.unusedVariables false
namespace Go.Proofs.YtojemmipkpckbaaL
open Go Go.RowKit Go.Proofs.YtojemmipkpckbaaG Go.Proofs.Ytojemmipkpckbaa.P Go.Proofs.YtojemmipkpckbaaW.PrintWords Go.Proofs.YtojemmipkpckbaaW.PrintMore

def wa : ByteArray := ⟨#[97]⟩
def wb : ByteArray := ⟨#[98]⟩
def wc : ByteArray := ⟨#[99]⟩
def wx : ByteArray := ⟨#[120]⟩
def wy : ByteArray := ⟨#[121]⟩
def wz : ByteArray := ⟨#[122]⟩
def e0 : MEn := ⟨⟨wa, 9, 0⟩, ⟨#[]⟩⟩
def e1 : MEn := ⟨⟨wb, 4, 1⟩, wy⟩
def e2 : MEn := ⟨⟨wa, 5, 1⟩, wx⟩
def e3 : MEn := ⟨⟨wb, 4, 1⟩, wz⟩
def exL : List (List MEn) := [[e0, e1], [e2, e3]]
theorem ex_fits : mFits exL := ⟨by decide, by decide⟩
theorem ex_all : mAll (mSize exL) exL = [e0, e2, e1] := by kernel_rfl
theorem all_ex : merge_All.f exL = some [e0, e2, e1] := by unfold merge_All.f; rw [if_pos ex_fits, ex_all]
theorem get_ex (k : ByteArray) (q : Int) : merge_Get.f exL k q = some (mGet k (mSeen k q none [e0, e2, e1])) := by unfold merge_Get.f; rw [if_pos ex_fits, ex_all]
theorem scan_ex (a b : ByteArray) (q l : Int) : merge_Scan.f exL a b q l = some (mScan b l [] (mSeen a q none [e0, e2, e1])) := by unfold merge_Scan.f; rw [if_pos ex_fits, ex_all]
theorem g1 : mGet wa (mSeen wa 9 none [e0, e2, e1]) = (⟨#[]⟩, false) := by kernel_rfl
theorem g2 : mGet wa (mSeen wa 8 none [e0, e2, e1]) = (wx, true) := by kernel_rfl
theorem g3 : mGet wa (mSeen wa 4 none [e0, e2, e1]) = (⟨#[]⟩, false) := by kernel_rfl
theorem g4 : mGet wb (mSeen wb 4 none [e0, e2, e1]) = (wy, true) := by kernel_rfl
theorem s1 : mScan wc 9 [] (mSeen wa 5 none [e0, e2, e1]) = [⟨wa, wx⟩, ⟨wb, wy⟩] := by kernel_rfl
theorem s2 : mScan wc 9 [] (mSeen wa 9 none [e0, e2, e1]) = [⟨wb, wy⟩] := by kernel_rfl
theorem s3 : mScan wc 1 [] (mSeen wa 5 none [e0, e2, e1]) = [⟨wa, wx⟩] := by kernel_rfl
theorem s4 : mScan wb 9 [] (mSeen wb 9 none [e0, e2, e1]) = [] := by kernel_rfl
theorem awake11 : Ev (fun k => ratlinelaw11_awake.f k) true := by
  unfold ratlinelaw11_awake.f
  refine ev_bind (a := (wa, 9, 0, ⟨#[]⟩)) rfl (ev_bind (a := (wb, 4, 1, wy)) rfl (ev_bind (a := (wa, 5, 1, wx)) rfl (ev_bind (a := (wb, 4, 1, wz)) rfl (ev_bind (a := exL) rfl ?_))))
  refine ev_bind ((get_ex wa 9).trans (by rw [g1])) (ev_bind ((get_ex wa 8).trans (by rw [g2])) (ev_bind ((get_ex wa 4).trans (by rw [g3])) (ev_bind ((get_ex wb 4).trans (by rw [g4])) (ev_bind all_ex ?_))))
  refine ev_pos (by decide) (ev_pos (by decide) (ev_pos (by decide) (ev_pos (by decide) (ev_pos (by decide) ?_))))
  refine ev_call (entries_same [e0, e2, e1] (by decide)) (ev_pos rfl (ev_neg (by decide) (ev_pos rfl (ev_pos (by kernel_rfl) (ev_neg (by decide) (ev_pos rfl (ev_pos (by kernel_rfl) ?_)))))))
  refine ev_bind ((scan_ex wa wc 5 9).trans (by rw [s1])) (ev_call (pairs_same [⟨wa, wx⟩, ⟨wb, wy⟩] (by decide)) (ev_pos rfl ?_))
  refine ev_bind ((scan_ex wa wc 9 9).trans (by rw [s2])) (ev_call (pairs_same [⟨wb, wy⟩] (by decide)) (ev_pos rfl ?_))
  refine ev_bind ((scan_ex wa wc 5 1).trans (by rw [s3])) (ev_call (pairs_same [⟨wa, wx⟩] (by decide)) (ev_pos rfl ?_))
  refine ev_bind ((scan_ex wb wb 9 9).trans (by rw [s4])) ?_
  exact ev_some _
end Go.Proofs.YtojemmipkpckbaaL

end

section
set_option linter.unusedVariables false
namespace Go.Proofs.YtojemmipkpckbaaL
open Go Go.RowKit Go.Proofs.YtojemmipkpckbaaG Go.Proofs.Ytojemmipkpckbaa.P Go.Proofs.YtojemmipkpckbaaW.PrintWords Go.Proofs.YtojemmipkpckbaaW.PrintMore

theorem cmpI_refl (x : Ik) : cmpI x x = 0 := (cmpI_zero x x).2 ⟨rfl, rfl, rfl⟩
theorem cmpI_eq {x y : Ik} (h : cmpI x y = 0) : x = y := by
  have := (cmpI_zero x y).1 h
  exact mSame_iff.1 (by unfold mSame; rw [this.1, this.2.1, this.2.2]; simp)
theorem cmpI_le_lt {x y z : Ik} (h : cmpI x y ≤ 0) (h2 : cmpI y z < 0) : cmpI x z < 0 := by
  have h3 := cmpI_trans h (Int.le_of_lt h2)
  refine Int.lt_iff_le_and_ne.2 ⟨h3, fun e => ?_⟩
  have hxz := cmpI_eq e
  subst hxz
  have := cmpI_neg y x
  omega
/-- A list that rises: pairwise. -/
theorem rises_up : ∀ l : List MEn, risesB l = true → Up l
  | [], _ => List.Pairwise.nil
  | [a], _ => List.Pairwise.cons (fun b hb => by simp at hb) List.Pairwise.nil
  | a :: b :: r, h => by
    rw [rises_two, Bool.and_eq_true] at h
    have hab := of_decide_eq_true h.1
    have ih := rises_up (b :: r) h.2
    refine List.Pairwise.cons (fun x hx => ?_) ih
    rcases List.mem_cons.1 hx with rfl | hx
    · exact hab
    · exact cmpI_lt_trans hab (Int.le_of_lt ((List.pairwise_cons.1 ih).1 x hx))
theorem head_le {e x : MEn} {r : List MEn} (h : risesB (e :: r) = true) (hx : x ∈ e :: r) : cmpI e.f0 x.f0 ≤ 0 := by
  rcases List.mem_cons.1 hx with rfl | hx
  · rw [cmpI_refl]; exact Int.le_refl _
  · exact Int.le_of_lt ((List.pairwise_cons.1 (rises_up _ h)).1 x hx)
/-- Of its internal key the one of the first list that has it. -/
def First (cur : List (List MEn)) (x : MEn) : Prop := ∃ i l, cur[i]? = some l ∧ x ∈ l ∧ ∀ (j : Nat) (l' : List MEn), j < i → cur[j]? = some l' → ∀ y ∈ l', y.f0 ≠ x.f0
theorem first_cons {l : List MEn} {cur : List (List MEn)} {x : MEn} : First (l :: cur) x ↔ x ∈ l ∨ ((∀ y ∈ l, y.f0 ≠ x.f0) ∧ First cur x) := by
  constructor
  · rintro ⟨i, q, hi, hx, hj⟩
    cases i with
    | zero =>
      obtain rfl : l = q := by simpa using hi
      exact .inl hx
    | succ i => exact .inr ⟨hj 0 l (by omega) rfl, i, q, by simpa using hi, hx, fun j l' hji hl' => hj (j + 1) l' (by omega) (by simpa using hl')⟩
  · rintro (hx | ⟨h0, i, q, hi, hx, hj⟩)
    · exact ⟨0, l, rfl, hx, fun j l' hj => absurd hj (by omega)⟩
    · refine ⟨i + 1, q, by simpa using hi, hx, fun j l' hji hl' => ?_⟩
      cases j with
      | zero =>
        obtain rfl : l = l' := by simpa using hl'
        exact h0
      | succ j => exact hj j l' (by omega) (by simpa using hl')
theorem first_filter (p : Ik → Bool) : ∀ {cur : List (List MEn)} {x : MEn}, First (cur.map fun l => l.filter fun y => p y.f0) x ↔ First cur x ∧ p x.f0 = true
  | [], x => ⟨fun ⟨i, l, h, _⟩ => by simp at h, fun ⟨⟨i, l, h, _⟩, _⟩ => by simp at h⟩
  | l :: cur, x => by
    rw [List.map_cons, first_cons, first_cons, first_filter p (cur := cur)]
    constructor
    · rintro (h | ⟨h1, h2, h3⟩)
      · obtain ⟨h1, h2⟩ := List.mem_filter.1 h
        exact ⟨.inl h1, h2⟩
      · refine ⟨.inr ⟨fun y hy e => ?_, h2⟩, h3⟩
        exact h1 y (List.mem_filter.2 ⟨hy, by rw [e]; exact h3⟩) e
    · rintro ⟨h | ⟨h1, h2⟩, h3⟩
      · exact .inl (List.mem_filter.2 ⟨h, h3⟩)
      · exact .inr ⟨fun y hy => h1 y (List.mem_filter.1 hy).1, h2, h3⟩
/-- Dropped is what has this internal key. -/
theorem dropOne_filter {e : Ik} {l : List MEn} (hr : risesB l = true) (hh : ∀ x q, l = x :: q → cmpI e x.f0 ≤ 0) : dropOne e l = l.filter fun y => !(mSame y.f0 e) := by
  cases l with
  | nil => rfl
  | cons x q =>
    have hq : q.filter (fun y => !(mSame y.f0 e)) = q := by
      refine List.filter_eq_self.2 (fun y hy => ?_)
      have h1 := (List.pairwise_cons.1 (rises_up _ hr)).1 y hy
      have h2 := cmpI_le_lt (hh x q rfl) h1
      by_cases hs : mSame y.f0 e = true
      · rw [mSame_iff.1 hs, cmpI_refl] at h2
        omega
      · rw [Bool.eq_false_iff.2 hs]; rfl
    rw [dropOne, List.filter_cons, hq]
    by_cases hs : mSame x.f0 e = true
    · rw [if_pos hs, if_neg (by rw [hs]; decide)]
    · rw [if_neg hs, if_pos (by rw [Bool.eq_false_iff.2 hs]; rfl)]
theorem mDrop_filter {e : Ik} {cur : List (List MEn)} (hr : Rises cur) (hh : ∀ x q, (x :: q) ∈ cur → cmpI e x.f0 ≤ 0) : mDrop e cur = cur.map fun l => l.filter fun y => !(mSame y.f0 e) := by
  rw [mDrop_eq]
  exact List.map_congr_left (fun l hl => dropOne_filter (hr l hl) (fun x q h => hh x q (by rw [← h]; exact hl)))
/-- The least one stands in the first list that has its key. -/
theorem mLeast_ahead : ∀ (rest : List (List MEn)) (i : Nat) (best : Option (Nat × MEn)) (j : Nat) (b : MEn), mLeast rest i best = some (j, b) → best = some (j, b) ∨ (i ≤ j ∧ (∃ q, rest[j - i]? = some (b :: q)) ∧ (∀ k y q, k < j - i → rest[k]? = some (y :: q) → cmpI b.f0 y.f0 < 0) ∧ ∀ i0 b0, best = some (i0, b0) → cmpI b.f0 b0.f0 < 0)
  | [], i, best, j, b, h => by rw [mLeast] at h; exact .inl h
  | [] :: r, i, best, j, b, h => by
    rcases mLeast_ahead r (i + 1) best j b h with h1 | ⟨h1, ⟨q, hq⟩, h2, h3⟩
    · exact .inl h1
    · refine .inr ⟨by omega, ⟨q, by rw [show j - i = (j - (i + 1)) + 1 from by omega, List.getElem?_cons_succ]; exact hq⟩, fun k y z hk hy => ?_, h3⟩
      cases k with
      | zero => simp at hy
      | succ k => exact h2 k y z (by omega) (by simpa using hy)
  | (x :: l) :: r, i, best, j, b, h => by
    rcases mLeast_ahead r (i + 1) _ j b h with h1 | ⟨h1, ⟨q, hq⟩, h2, h3⟩
    · cases best with
      | none =>
        obtain ⟨rfl, rfl⟩ := Prod.mk.inj (Option.some.inj h1)
        exact .inr ⟨Nat.le_refl _, ⟨l, by rw [Nat.sub_self]; rfl⟩, fun k y z hk => absurd hk (by omega), fun i0 b0 hb => by cases hb⟩
      | some p =>
        obtain ⟨i1, b1⟩ := p
        simp only at h1
        split at h1
        · rename_i hl
          obtain ⟨rfl, rfl⟩ := Prod.mk.inj (Option.some.inj h1)
          refine .inr ⟨Nat.le_refl _, ⟨l, by rw [Nat.sub_self]; rfl⟩, fun k y z hk => absurd hk (by omega), fun i0 b0 hb => ?_⟩
          obtain ⟨_, rfl⟩ := Prod.mk.inj (Option.some.inj hb)
          exact (mLess_iff _ _).1 hl
        · exact .inl h1
    · refine .inr ⟨by omega, ⟨q, by rw [show j - i = (j - (i + 1)) + 1 from by omega, List.getElem?_cons_succ]; exact hq⟩, fun k y z hk hy => ?_, fun i0 b0 hb => ?_⟩
      · cases k with
        | zero =>
          obtain ⟨rfl, _⟩ : x = y ∧ l = z := by simpa using hy
          cases best with
          | none => exact h3 i x rfl
          | some p =>
            obtain ⟨i1, b1⟩ := p
            by_cases hl : mLess x.f0 b1.f0 = true
            · exact h3 i x (if_pos hl)
            · exact cmpI_lt_trans (h3 i1 b1 (if_neg hl)) (mLess_no hl)
        | succ k => exact h2 k y z (by omega) (by simpa using hy)
      · subst hb
        by_cases hl : mLess x.f0 b0.f0 = true
        · exact cmpI_lt_trans (h3 i x (if_pos hl)) (Int.le_of_lt ((mLess_iff _ _).1 hl))
        · exact h3 i0 b0 (if_neg hl)
theorem least_first {cur : List (List MEn)} {i : Nat} {e : MEn} (hr : Rises cur) (hl : mLeast cur 0 none = some (i, e)) : First cur e := by
  rcases mLeast_ahead cur 0 none i e hl with h | ⟨_, ⟨q, hq⟩, h2, _⟩
  · cases h
  · refine ⟨i, e :: q, by simpa using hq, List.mem_cons_self .., fun j l' hj hl' y hy => ?_⟩
    cases l' with
    | nil => simp at hy
    | cons z w =>
      have h3 := h2 j z w (by omega) hl'
      have h4 := head_le (hr _ (List.mem_of_getElem? hl')) hy
      intro hye
      have := cmpI_lt_trans h3 h4
      rw [hye, cmpI_refl] at this
      omega
theorem first_one {cur : List (List MEn)} (hr : Rises cur) {x y : MEn} (hx : First cur x) (hy : First cur y) (h : x.f0 = y.f0) : x = y := by
  obtain ⟨i, l, hi, hxl, hj⟩ := hx
  obtain ⟨k, q, hk, hyq, hm⟩ := hy
  have hik : i = k := by
    rcases Nat.lt_trichotomy i k with h1 | h1 | h1
    · exact absurd h (hm i l h1 hi x hxl)
    · exact h1
    · exact absurd h.symm (hj k q h1 hk y hyq)
  subst hik
  rw [hi] at hk
  obtain rfl := Option.some.inj hk
  have hu := rises_up l (hr l (List.mem_of_getElem? hi))
  obtain ⟨a, ha⟩ := List.mem_iff_getElem?.1 hxl
  obtain ⟨b, hb⟩ := List.mem_iff_getElem?.1 hyq
  obtain ⟨ha1, ha2⟩ := List.getElem?_eq_some_iff.1 ha
  obtain ⟨hb1, hb2⟩ := List.getElem?_eq_some_iff.1 hb
  have hp := List.pairwise_iff_getElem.1 hu
  rcases Nat.lt_trichotomy a b with h1 | h1 | h1
  · have := hp a b ha1 hb1 h1
    rw [ha2, hb2, h, cmpI_refl] at this
    omega
  · subst h1
    rw [← ha2, ← hb2]
  · have := hp b a hb1 ha1 h1
    rw [ha2, hb2, h, cmpI_refl] at this
    omega
theorem first_nil {cur : List (List MEn)} (h : ∀ l ∈ cur, l = []) (x : MEn) : ¬ First cur x := by
  rintro ⟨i, l, hi, hx, _⟩
  rw [h l (List.mem_of_getElem? hi)] at hx
  simp at hx
theorem mem_mAll : ∀ (n : Nat) (cur : List (List MEn)), Rises cur → mSize cur ≤ n → ∀ x, x ∈ mAll n cur ↔ First cur x
  | 0, cur, hr, hs, x => by
    refine ⟨fun h => by simp [mAll] at h, fun h => ?_⟩
    obtain ⟨i, l, hi, hx, _⟩ := h
    cases l with
    | nil => simp at hx
    | cons e r => have := mSize_pos hi; omega
  | n + 1, cur, hr, hs, x => by
    cases hl : mLeast cur 0 none with
    | none =>
      rw [mAll_none hl]
      exact ⟨fun h => by simp at h, fun h => absurd h (first_nil (mLeast_none _ _ _ hl).2 x)⟩
    | some p =>
      obtain ⟨i, e⟩ := p
      obtain ⟨r, hi⟩ := mLeast_some hl
      have hmin := (mLeast_min _ _ _ _ _ hl).1
      have hlt := mDrop_less hi
      have hf := least_first hr hl
      rw [mAll_cons n hl, List.mem_cons, mem_mAll n (mDrop e.f0 cur) (drop_rises hr _) (by omega) x, mDrop_filter hr hmin, first_filter (fun k => !(mSame k e.f0))]
      constructor
      · rintro (rfl | ⟨h, _⟩)
        · exact hf
        · exact h
      · intro h
        by_cases hs : mSame x.f0 e.f0 = true
        · exact .inl (first_one hr h hf (mSame_iff.1 hs))
        · exact .inr ⟨h, by rw [Bool.eq_false_iff.2 hs]; rfl⟩
/-- Two rising lists of the same entries are the same. -/
theorem up_ext : ∀ {a b : List MEn}, Up a → Up b → (∀ x, x ∈ a ↔ x ∈ b) → a = b
  | [], [], _, _, _ => rfl
  | [], y :: b, _, _, h => by have := (h y).2 (List.mem_cons_self ..); simp at this
  | x :: a, [], _, _, h => by have := (h x).1 (List.mem_cons_self ..); simp at this
  | x :: a, y :: b, ha, hb, h => by
    obtain ⟨ha1, ha2⟩ := List.pairwise_cons.1 ha
    obtain ⟨hb1, hb2⟩ := List.pairwise_cons.1 hb
    have irr : ∀ z : MEn, ¬ cmpI z.f0 z.f0 < 0 := fun z hz => by rw [cmpI_refl] at hz; omega
    have hxy : x = y := by
      rcases List.mem_cons.1 ((h x).1 (List.mem_cons_self ..)) with h1 | h1
      · exact h1
      · rcases List.mem_cons.1 ((h y).2 (List.mem_cons_self ..)) with h2 | h2
        · exact h2.symm
        · exact absurd (cmpI_lt_trans (ha1 y h2) (Int.le_of_lt (hb1 x h1))) (irr x)
    subst hxy
    rw [up_ext ha2 hb2 (fun z => ?_)]
    constructor
    · intro hz
      rcases List.mem_cons.1 ((h z).1 (List.mem_cons_of_mem _ hz)) with h1 | h1
      · subst h1; exact absurd (ha1 z hz) (irr z)
      · exact h1
    · intro hz
      rcases List.mem_cons.1 ((h z).2 (List.mem_cons_of_mem _ hz)) with h1 | h1
      · subst h1; exact absurd (hb1 z hz) (irr z)
      · exact h1
end Go.Proofs.YtojemmipkpckbaaL

end

section
set_option linter.unusedVariables false
namespace Go.Proofs.YtojemmipkpckbaaL
open Go Go.RowKit Go.Proofs.YtojemmipkpckbaaG Go.Proofs.Ytojemmipkpckbaa.P Go.Proofs.YtojemmipkpckbaaW.PrintWords Go.Proofs.YtojemmipkpckbaaW.PrintMore

def sK (deal : List Int) (n i : Nat) : Nat := match deal[i]? with | none => 0 | some x => x.toNat % n
def sPut (L : List (List MEn)) (k : Nat) (e : MEn) : List (List MEn) := L.set k (L.getD k [] ++ [e])
/-- The lists behind the entries from i on. -/
def sDealt (deal : List Int) (n : Nat) : Nat → List MEn → List (List MEn) → List (List MEn)
  | _, [], L => L
  | i, e :: r, L => sDealt deal n (i + 1) r (sPut L (sK deal n i) e)
def sLists (deal : List Int) (n : Nat) (l : List MEn) : List (List MEn) := sDealt deal n 0 l (List.replicate n [])
theorem sK_lt (deal : List Int) {n : Nat} (hn : 0 < n) (i : Nat) : sK deal n i < n := by
  unfold sK
  cases deal[i]? with
  | none => exact hn
  | some x => exact Nat.mod_lt _ hn
theorem sPut_len (L : List (List MEn)) (k : Nat) (e : MEn) : (sPut L k e).length = L.length := List.length_set
theorem size_put : ∀ (L : List (List MEn)) (k : Nat) (e : MEn), k < L.length → mSize (sPut L k e) = mSize L + 1
  | [], k, e, h => absurd h (by simp)
  | a :: L, 0, e, _ => by
    show (a ++ [e]).length + mSize L = (a.length + mSize L) + 1
    rw [List.length_append, List.length_singleton]
    omega
  | a :: L, k + 1, e, h => by
    have ih := size_put L k e (by simpa using h)
    show a.length + mSize (sPut L k e) = (a.length + mSize L) + 1
    omega
/-- What was dealt so far. -/
structure Dealt (n : Nat) (pre : List MEn) (L : List (List MEn)) : Prop where
  len : L.length = n
  size : mSize L = pre.length
  sub : ∀ q ∈ L, q.Sublist pre
  mem : ∀ x ∈ pre, ∃ q ∈ L, x ∈ q
theorem Dealt.put {n : Nat} {pre : List MEn} {L : List (List MEn)} (h : Dealt n pre L) {k : Nat} (hk : k < n) (e : MEn) : Dealt n (pre ++ [e]) (sPut L k e) := by
  have hkl : k < L.length := by rw [h.len]; exact hk
  have hg : L.getD k [] = L[k] := by rw [List.getD_eq_getElem?_getD, List.getElem?_eq_getElem hkl]; rfl
  refine ⟨by rw [sPut_len, h.len], by rw [size_put _ _ _ hkl, h.size, List.length_append, List.length_singleton], fun q hq => ?_, fun x hx => ?_⟩
  · rcases List.mem_or_eq_of_mem_set hq with hq | rfl
    · exact (h.sub q hq).trans (List.sublist_append_left _ _)
    · rw [hg]
      exact (h.sub _ (List.getElem_mem hkl)).append (List.Sublist.refl _)
  · have hnew : (L.getD k [] ++ [e]) ∈ sPut L k e := List.mem_set hkl _
    rcases List.mem_append.1 hx with hx | hx
    · obtain ⟨q, hq, hxq⟩ := h.mem x hx
      obtain ⟨j, hj, rfl⟩ := List.mem_iff_getElem.1 hq
      by_cases hjk : j = k
      · subst hjk
        exact ⟨_, hnew, List.mem_append_left _ (by rw [hg]; exact hxq)⟩
      · refine ⟨L[j], List.mem_iff_getElem?.2 ⟨j, ?_⟩, hxq⟩
        unfold sPut
        rw [List.getElem?_set_ne (Ne.symm hjk), List.getElem?_eq_getElem hj]
    · exact ⟨_, hnew, List.mem_append_right _ hx⟩
theorem dealt_all (deal : List Int) {n : Nat} (hn : 0 < n) : ∀ (r : List MEn) (i : Nat) (pre : List MEn) (L : List (List MEn)), Dealt n pre L → Dealt n (pre ++ r) (sDealt deal n i r L)
  | [], i, pre, L, h => by rw [List.append_nil]; exact h
  | e :: r, i, pre, L, h => by
    have := dealt_all deal hn r (i + 1) (pre ++ [e]) _ (h.put (sK_lt deal hn i) e)
    rw [List.append_assoc, List.singleton_append] at this
    exact this
theorem size_empty : ∀ n : Nat, mSize (List.replicate n ([] : List MEn)) = 0
  | 0 => rfl
  | n + 1 => by
    show ([] : List MEn).length + mSize (List.replicate n ([] : List MEn)) = 0
    rw [size_empty n]
    rfl
theorem dealt_none (n : Nat) : Dealt n [] (List.replicate n []) :=
  ⟨List.length_replicate .., size_empty n, fun q hq => by rw [(List.mem_replicate.1 hq).2]; exact List.Sublist.refl _, fun x hx => by simp at hx⟩
theorem lists_dealt (deal : List Int) {n : Nat} (hn : 0 < n) (l : List MEn) : Dealt n l (sLists deal n l) := dealt_all deal hn l 0 [] _ (dealt_none n)
theorem up_rises : ∀ l : List MEn, Up l → risesB l = true
  | [], _ => rfl
  | [a], _ => rfl
  | a :: b :: r, h => by
    rw [rises_two, Bool.and_eq_true]
    exact ⟨decide_eq_true ((List.pairwise_cons.1 h).1 b (List.mem_cons_self ..)), up_rises (b :: r) (List.pairwise_cons.1 h).2⟩
theorem up_one : ∀ {l : List MEn}, Up l → ∀ x ∈ l, ∀ y ∈ l, y.f0 = x.f0 → y = x
  | [], _, x, hx, _, _, _ => by simp at hx
  | a :: l, h, x, hx, y, hy, he => by
    have hlt := (List.pairwise_cons.1 h).1
    rcases List.mem_cons.1 hx with hxa | hx1
    · rcases List.mem_cons.1 hy with hya | hy1
      · rw [hya, hxa]
      · have := hlt y hy1
        rw [he, hxa, cmpI_refl] at this
        omega
    · rcases List.mem_cons.1 hy with hya | hy1
      · have := hlt x hx1
        rw [← he, hya, cmpI_refl] at this
        omega
      · exact up_one (List.pairwise_cons.1 h).2 x hx1 y hy1 he
theorem first_of : ∀ {L : List (List MEn)} {x : MEn}, (∃ q ∈ L, x ∈ q) → (∀ q ∈ L, ∀ y ∈ q, y.f0 = x.f0 → y = x) → First L x
  | [], x, ⟨q, hq, _⟩, _ => by simp at hq
  | a :: L, x, ⟨q, hq, hx⟩, h => by
    by_cases hxa : x ∈ a
    · exact first_cons.2 (.inl hxa)
    · refine first_cons.2 (.inr ⟨fun y hy he => hxa ?_, first_of (L := L) ?_ (fun q hq => h q (List.mem_cons_of_mem _ hq))⟩)
      · rw [← h a (List.mem_cons_self ..) y hy he]
        exact hy
      · rcases List.mem_cons.1 hq with rfl | hq
        · exact absurd hx hxa
        · exact ⟨q, hq, hx⟩
/-- All entries of lists over which a list that rises was dealt out are this one. -/
theorem all_dealt {n : Nat} {l : List MEn} {L : List (List MEn)} (h : Dealt n l L) (hr : risesB l = true) : Rises L ∧ mAll (mSize L) L = l := by
  have hu := rises_up l hr
  have hR : Rises L := fun q hq => up_rises q (List.Pairwise.sublist (h.sub q hq) hu)
  refine ⟨hR, up_ext (mAll_up _ L hR).1 hu (fun x => ?_)⟩
  rw [mem_mAll _ L hR (Nat.le_refl _) x]
  constructor
  · rintro ⟨i, q, hi, hx, _⟩
    exact (h.sub q (List.mem_of_getElem? hi)).subset hx
  · intro hx
    exact first_of (h.mem x hx) (fun q hq y hy he => up_one hu x hx y ((h.sub q hq).subset hy) he)
theorem dealt_one (l : List MEn) : Dealt 1 l [l] := ⟨rfl, by show l.length + 0 = l.length; omega, fun q hq => by rw [List.mem_singleton.1 hq]; exact List.Sublist.refl _, fun x hx => ⟨l, List.mem_singleton.2 rfl, hx⟩⟩
end Go.Proofs.YtojemmipkpckbaaL

end

section
set_option linter.unusedVariables false
set_option linter.unusedSimpArgs false
namespace Go.Proofs.YtojemmipkpckbaaL
open Go Go.RowKit Go.Proofs.YtojemmipkpckbaaR Go.Proofs.YtojemmipkpckbaaG Go.Proofs.Ytojemmipkpckbaa.P Go.Proofs.YtojemmipkpckbaaW.PrintWords
attribute [local go_sem] str_geq str_gtr str_leq

theorem C_one {W : World} {g : Nat} {A : Option Addr} {c : Nat} {l : List MEn} (h : Kd.C k41 W A l.length l) (hc : l.length ≤ c) (hb : W.heap[g]? = some (.cells #[.slice A l.length c] 29)) : Kd.C (Kd.slice 41 k41) W (some ⟨g, 0, none⟩) ([l] : List (List MEn)).length [l] :=
  ⟨rfl, by simp, fun _ => ⟨_, rfl, fun j p hj => by
    cases j with
    | succ j => simp at hj
    | zero =>
      obtain rfl : l = p := by simpa using hj
      refine ⟨[.slice A l.length c], rfl, ⟨A, c, rfl, hc, h⟩, fun i u hu => ?_⟩
      cases i with
      | succ i => simp at hu
      | zero =>
        obtain rfl : Value.slice A l.length c = u := by simpa using hu
        rw [add_plain]
        exact blk_cell hb 0⟩⟩
theorem below_set' {w W : World} {g : Nat} (h : Below w.heap.size w W) (hg : w.heap.size ≤ g) (j : Nat) (v : Value) : Below w.heap.size w (W.setCell ⟨g, j, none⟩ v) := h.setCell hg _
set_option maxRecDepth 100000 in
set_option maxHeartbeats 4000000 in
theorem spread_calls (A0 : Option Addr) (c0 : Nat) (l0 : List MEn) (A1 : Option Addr) (c1 : Nat) (l1 : List Int) (many : Int) (key : ByteArray) (seq : Int) (w : World)
    (hr0 : Kd.C k41 w A0 l0.length l0) (hc0 : l0.length ≤ c0) (hr1 : Kd.C (Kd.int .u8) w A1 l1.length l1) (hc1 : l1.length ≤ c1) (hsz : l0.length * 48 ≤ 140737488351232) (hm : 0 ≤ many ∧ many < 256) (hd : ∀ x ∈ l1, 0 ≤ x ∧ x < 256) :
    Calls Try.prog 6 #[.slice A0 l0.length c0, .slice A1 l1.length c1, .int .u8 many, .string key, .int .u64 seq] w fun e w' => e = .returned (.bool true) ∧ Below w.heap.size w w' := by
  have hl9 : l0.length ≤ 9223372036854775807 := hr0.2.1
  obtain ⟨kf, hkf⟩ := Ev.rounds (fine_ev [l0] (by simp) (fun l hl => by rw [List.mem_singleton.1 hl]; exact hl9))
  obtain ⟨ka, hka⟩ := Ev.rounds awake11
  have HR0 := Aside0.mk hr0
  have HC0 := Aside0.mk hc0
  have HR1 := Aside0.mk hr1
  have HC1 := Aside0.mk hc1
  have HSZ := Aside0.mk hsz
  have HD := Aside0.mk hd
  have HKF := Aside0.mk hkf
  have HAW := Aside0.mk hka
  have HMN := Aside0.mk hm
  clear hr0 hc0 hr1 hc1 hsz hd hkf hka hl9 hm
  by_cases hg : fineB [l0] = true ∧ ¬ (70 < (key.size : Int))
  · have HFB := Aside0.mk hg.1
    rw [hg.1] at HKF
    have hkb : decide (70 < (key.size : Int)) = false := decide_eq_false hg.2
    clear hg
    obtain ⟨n, hn, hn0⟩ : ∃ n : Nat, wrap64 (1 + wrap64 (many.tmod 6)) = (n : Int) ∧ 0 < n := by
      have hm := HMN.out
      have h1 : many.tmod 6 = many % 6 := Int.tmod_eq_emod_of_nonneg hm.1
      refine ⟨1 + (many % 6).toNat, ?_, by omega⟩
      rw [h1]
      unfold wrap64
      omega
    have hn6 : n ≤ 6 := by
      have hm := HMN.out
      have h1 : many.tmod 6 = many % 6 := Int.tmod_eq_emod_of_nonneg hm.1
      rw [h1] at hn
      unfold wrap64 at hn
      omega
    have HN := Aside0.mk hn0
    have HN6 := Aside0.mk hn6
    obtain ⟨hrise, _, hsz1, hfit1⟩ := fine_fits HFB.out
    have hl120 : l0.length ≤ 120 := by have : mSize [l0] = l0.length + 0 := rfl; omega
    have hr1 := hrise l0 (List.mem_singleton.2 rfl)
    have hdl := lists_dealt l1 hn0 l0
    obtain ⟨hLr, hLa⟩ := all_dealt hdl hr1
    obtain ⟨_, hOa⟩ := all_dealt (dealt_one l0) hr1
    have hLf : mFits (sLists l1 n l0) := ⟨by have := hdl.len; omega, by have := hdl.size; omega⟩
    have h1 : merge_All.f (sLists l1 n l0) = some l0 := by unfold merge_All.f; rw [if_pos hLf, hLa]
    obtain ⟨gv, gb, h2, h3⟩ : ∃ gv gb, merge_Get.f (sLists l1 n l0) key seq = some (gv, gb) ∧ merge_Get.f [l0] key seq = some (gv, gb) := by
      unfold merge_Get.f
      rw [if_pos hLf, hLa, if_pos hfit1, hOa]
      exact ⟨_, _, rfl, rfl⟩
    obtain ⟨sc, h4, h5, hsc⟩ : ∃ sc, merge_Scan.f (sLists l1 n l0) key ⟨#[]⟩ seq 100 = some sc ∧ merge_Scan.f [l0] key ⟨#[]⟩ seq 100 = some sc ∧ sc.length < 1000000000 := by
      unfold merge_Scan.f
      rw [if_pos hLf, hLa, if_pos hfit1, hOa]
      refine ⟨_, rfl, rfl, ?_⟩
      have h6 := mScan_len ⟨#[]⟩ 100 (mSeen key seq none l0) []
      have h7 := mSeen_len key seq l0 none
      simp at h6
      omega
    obtain ⟨ke, hke⟩ := Ev.rounds (entries_same l0 (by omega))
    obtain ⟨kp, hkp⟩ := Ev.rounds (pairs_same sc hsc)
    have HL120 := Aside0.mk hl120
    have HDL := Aside0.mk hdl
    have H1 := Aside0.mk h1
    have H2 := Aside0.mk h2
    have H3 := Aside0.mk h3
    have H4 := Aside0.mk h4
    have H5 := Aside0.mk h5
    have HKE := Aside0.mk hke
    have HKP := Aside0.mk hkp
    clear hn0 hn6 hrise hsz1 hfit1 hl120 hr1 hdl hLr hLa hOa hLf h1 h2 h3 h4 h5 hsc hke hkp
    go_enter Try.func6, Try.ntmps6
    go_wp2_with (first | (go_at_call 14; refine (ratlinelaw11_Fine.calls kf _ _ [l0] true _ (C_one (g := w.heap.size) (Kd.C_alloc HR0.out _) HC0.out (box_new w _ _)) (by simp) HKF.out).mono ?_; rintro e w2 ⟨rfl, hb2⟩; have HB2 : Aside0 (Below w.heap.size w w2) := ⟨below_step (below_alloc (Below.refl _ _) _) hb2⟩; clear hb2 HKF) | ((with_reducible refine gate_dst (N := 34) rfl ?_); refine Kd.S_make (Kd.slice 41 k41) (w0 := w) w.heap.size 29 rfl (N := 34) rfl 22 _ _ rfl (n : Int) (by first | rfl | (rw [← hn]; rfl)) (by first | rfl | (rw [← hn]; rfl)) Try.underlying22 (.slice none 0 0) 24 info29 rfl (by decide) (by omega) ([] : List MEn) (ok := fun _ => True) (okp := fun _ => True) ⟨_, rfl, Kd.R_nil _ _ _ _ _⟩ (fun _ hk => hk) trivial (by omega) (by have := HN6.out; omega) HB2.out HB2.out.size ?_; intro v3 w3 hs3 hb3 hg3 hat3; clear hg3 hat3))
    have hl3 : (List.replicate (n : Int).toNat ([] : List MEn)).length = n := by simp
    obtain ⟨g, cap, he, hgb, _, _⟩ := Kd.S_form hs3 (by rw [hl3]; exact HN.out)
    rw [hl3] at he
    subst he
    rw [Int.toNat_natCast] at hs3
    have HS3 := Aside0.mk hs3
    have HB3 := Aside0.mk hb3
    have HGB := Aside0.mk hgb
    clear hs3 hb3 hgb hl3
    go_loopg [37] l0.length (fun kq v37 wr => ∃ (j : Nat) (Lj : List (List MEn)), v37 = .int .i64 (j : Int) ∧ Aside0 (j + kq = l0.length) ∧ Aside0 (Below w.heap.size w wr) ∧ Aside0 (Kd.S (Kd.slice 41 k41) 29 wr w.heap.size (fun _ => True) (.slice (some ⟨g, 0, none⟩) n cap) Lj) ∧ Aside0 (Dealt n (l0.take j) Lj) ∧ Aside0 (sDealt l1 n j (l0.drop j) Lj = sLists l1 n l0))
    case atStart => exact ⟨0, List.replicate n [], rfl, ⟨by omega⟩, ⟨HB3.out⟩, ⟨HS3.out⟩, ⟨dealt_none n⟩, ⟨by rw [List.drop_zero]; rfl⟩⟩
    case round =>
      obtain ⟨j, Lj, rfl, HJ, HB, HS, HDJ, HDD⟩ := hrel
      clear HS3 HB3
      by_cases hj : j < l0.length
      · cases gk with
        | zero => exact absurd HJ.out (by omega)
        | succ k1 =>
          have hjb : decide ((j : Int) < (l0.length : Int)) = true := decide_eq_true (by omega)
          have hjb2 : decide (j < l0.length) = true := decide_eq_true (by omega)
          obtain ⟨ad, he, hx0, hx1, hx2, hx3⟩ := at_T41 (Kd.C_below HR0.out HB.out) (j : Int) (by omega) (by omega)
          subst he
          have hrd : rd_T41 l0 (j : Int) = l0[j] := by
            show l0.getD ((j : Int)).toNat _ = _
            rw [Int.toNat_natCast, List.getD_eq_getElem?_getD, List.getElem?_eq_getElem hj]
            rfl
          rw [hrd] at hx0 hx1 hx2 hx3
          simp only [Int.toNat_natCast] at hx0 hx1 hx2 hx3
          obtain ⟨p, hp⟩ : ∃ p, p = l0[j] := ⟨_, rfl⟩
          rw [← hp] at hx0 hx1 hx2 hx3
          have hp2 : l0[j]? = some p := by rw [hp, List.getElem?_eq_getElem hj]
          have HP := Aside0.mk hp2
          have HJL := Aside0.mk hj
          clear hrd hp hp2
          have hj1 : wrap64 ((j : Int) + 1) = ((j + 1 : Nat) : Int) := by have := HL120.out; unfold wrap64; omega
          obtain ⟨kk, hkk⟩ : ∃ kk, kk = sK l1 n j := ⟨_, rfl⟩
          have hkn : kk < n := by rw [hkk]; exact sK_lt l1 HN.out j
          by_cases hd : j < l1.length
          · have hdb : decide ((j : Int) < (l1.length : Int)) = true := decide_eq_true (by omega)
            have hdb2 : decide (j < l1.length) = true := decide_eq_true (by omega)
            obtain ⟨ad1, he1, hy0⟩ := ReadsInt.at_ (Kd.reads_of_C (d := (0 : Int)) (Kd.C_below HR1.out HB.out)) (j : Int) (by omega) (by omega)
            subst he1
            simp only [Int.toNat_natCast] at hy0
            have hy0 := pw_cell_below (below_alloc (Below.refl _ _) (.cells #[.string p.f0.f0, .int .u64 p.f0.f1, .int .u8 p.f0.f2, .string p.f1] 41)) hy0
            obtain ⟨x, hx⟩ : ∃ x, x = rd l1 (j : Int) := ⟨_, rfl⟩
            have hxe : l1[j]? = some x := by
              rw [hx]
              show _ = some (l1.getD ((j : Int)).toNat 0)
              rw [Int.toNat_natCast, List.getD_eq_getElem?_getD, List.getElem?_eq_getElem hd]
              rfl
            have hx0' := HD.out x (List.mem_of_getElem? hxe)
            rw [← hx] at hy0
            have hnz : ¬ ((n : Int) = 0) := by omega
            have hmod : Int.tmod (wrap64 x) (n : Int) = (kk : Int) := by
              rw [hkk]
              unfold sK
              rw [hxe]
              simp only
              rw [show wrap64 x = x by unfold wrap64; omega, Int.tmod_eq_emod_of_nonneg hx0'.1, Int.natCast_emod, Int.toNat_of_nonneg hx0'.1]
            have HKK := Aside0.mk hkk
            clear hx hxe hx0' hkk
            go_wp2
            clear hx0 hx1 hx2 hx3
            obtain ⟨W, hW⟩ : ∃ W, W = wr.alloc (.cells #[.string p.f0.f0, .int .u64 p.f0.f1, .int .u8 p.f0.f2, .string p.f1] 41) := ⟨_, rfl⟩
            rw [← hW]
            have hbx : W.heap[wr.heap.size]? = some (.cells #[.string p.f0.f0, .int .u64 p.f0.f1, .int .u8 p.f0.f2, .string p.f1] 41) := by rw [hW]; exact blk_alloc_new wr _
            have hB1 : Below w.heap.size w W := by rw [hW]; exact below_alloc HB.out _
            have hS1 : Kd.S (Kd.slice 41 k41) 29 W w.heap.size (fun _ => True) (.slice (some ⟨g, 0, none⟩) n cap) Lj := by rw [hW]; exact Kd.S_alloc HS.out _
            clear hW
            have hq0 : W.cell? ⟨wr.heap.size, 0, none⟩ = some (.string p.f0.f0) := blk_cell hbx 0
            have hq1 : W.cell? ⟨wr.heap.size, 1, none⟩ = some (.int .u64 p.f0.f1) := blk_cell hbx 1
            have hq2 : W.cell? ⟨wr.heap.size, 2, none⟩ = some (.int .u8 p.f0.f2) := blk_cell hbx 2
            have hq3 : W.cell? ⟨wr.heap.size, 3, none⟩ = some (.string p.f1) := blk_cell hbx 3
            obtain ⟨oki, ce, hcl, hM, hcc, hfr, hoki, hH⟩ := Kd.S_elem hS1 ([] : List MEn) (kk : Int) (by omega) (by omega)
            obtain ⟨ve, rfl, hge⟩ := hM
            obtain ⟨Ae, cE, hve⟩ := Kd.R_slice hge
            subst hve
            have hcell := hcc 0 _ rfl
            have hfz := hfr 0
            rw [show (Kd.slice 41 k41).sz = 1 from rfl] at hcell hfz
            simp only [Int.toNat_natCast, Nat.mul_one, Nat.add_zero] at hcell hfz
            obtain ⟨q, hq⟩ : ∃ q, q = Lj.getD kk [] := ⟨_, rfl⟩
            have hql : q.length ≤ 120 := by
              have hk3 : kk < Lj.length := by rw [HDJ.out.len]; omega
              have h9 : Lj.getD kk [] = Lj[kk] := by rw [List.getD_eq_getElem?_getD, List.getElem?_eq_getElem hk3]; rfl
              have h8 := (HDJ.out.sub _ (List.getElem_mem hk3)).length_le
              rw [hq, h9]
              have h7 := List.length_take_le j l0
              have := HL120.out
              omega
            simp only [Int.toNat_natCast] at hge hcell
            rw [← hq] at hge hcell
            have hcell2 := pw_cell_below (below_alloc (Below.refl _ _) (.cells #[.string p.f0.f0, .int .u64 p.f0.f1, .int .u8 p.f0.f2, .string p.f1] 41)) hcell
            have HQ := Aside0.mk hq
            have HQL := Aside0.mk hql
            have HB1 := Aside0.mk hB1
            have HH := Aside0.mk hH
            have HGE := Aside0.mk hge
            clear hq hql hB1 hH hge hS1 hcc hfr hoki hcl hbx HS
            go_region_law ((try rw [show (W.alloc (.cells #[.string p.f0.f0, .int .u64 p.f0.f1, .int .u8 p.f0.f2, .string p.f1] 41)).drew = W.drew.alloc (.cells #[.string p.f0.f0, .int .u64 p.f0.f1, .int .u8 p.f0.f2, .string p.f1] 41) from rfl]); refine Kd.R_append_step k41 (w0 := w) w.heap.size ?hw (.tmp 59) (.tmp 61) 29 41 (.agg #[.string ⟨#[]⟩, .int .u64 0, .int .u8 0, .string ⟨#[]⟩]) 48 ?ho Try.underlying29 info41 rfl (by decide) (by decide) (.slice Ae q.length cE) q p [.string p.f0.f0, .int .u64 p.f0.f1, .int .u8 p.f0.f2, .string p.f1] (fun k_ => oki k_ ∨ True ∧ W.heap.size ≤ k_) (fun _ => False) ?hs ?hx (k41_mkM _ _ _ p) (fun _ hk => hk.elim) (fun _ hk => .inr ⟨trivial, hk⟩) ?rO ?rB ?rS (by have := HQL.out; omega) ?_; (case hw => rfl); (case ho => rfl); (case hs => rfl); (case hx => rfl); (case rO => exact Kd.R_mono (Kd.R_drew HGE.out) (fun _ hk => .inl hk)); (case rB => exact below_drew1 HB1.out); (case rS => exact HB1.out.size); intro v1 w1 ho hb hg hat; obtain ⟨A9, c9, e9⟩ := Kd.R_slice ho; subst e9; have hH1 := Kd.H_grown (Kd.H_widen (Kd.H_drew HH.out)) hg (fun k_ e_ => .inl (HGE.out.1 k_ e_)); obtain ⟨hc1, hf1⟩ := Kd.H_at hH1 (by omega) (by omega); have hc2 := hc1 0 _ rfl; have hf2 := hf1 0; rw [show (Kd.slice 41 k41).sz = 1 from rfl] at hc2 hf2; simp only [Int.toNat_natCast, Nat.mul_one, Nat.add_zero] at hc2 hf2; have HH1 := Aside0.mk hH1; have HO1 := Aside0.mk ho; have HBB := Aside0.mk hb; clear hH1 ho hb hg hat hc1 hf1)
            all_goals
              have HSN := (Kd.S_seg0 HH1.out (by omega) (by omega) (seg := [.slice A9 (q.length + 1) c9]) (j := 0) (show 0 + 1 ≤ 1 from Nat.le_refl _) (x' := q ++ [p]) (Kd.M_row (by simpa using HO1.out)) (fun _ hk => hk)).1
              rw [show (Kd.slice 41 k41).sz = 1 from rfl] at HSN
              simp only [Int.toNat_natCast, Nat.mul_one, Nat.add_zero] at HSN
              have HSN := Aside0.mk HSN
              clear HH1 HO1
              go_wp2
              go_roundg k1
              case measure => exact Nat.lt_succ_self _
              case rel =>
                refine ⟨j + 1, sPut Lj kk p, by rw [hj1], ⟨by have := HJ.out; omega⟩, ⟨below_set' HBB.out HGB.out _ _⟩, ⟨?_⟩, ⟨?_⟩, ⟨?_⟩⟩
                · unfold sPut
                  rw [← HQ.out]
                  exact HSN.out
                · rw [List.take_add_one, HP.out]
                  exact HDJ.out.put hkn p
                · have h9 := HDD.out
                  rw [List.drop_eq_getElem_cons HJL.out, (Option.some.inj ((List.getElem?_eq_getElem HJL.out).symm.trans HP.out) : l0[j] = p), sDealt, ← HKK.out] at h9
                  exact h9
          · have hdb : decide ((j : Int) < (l1.length : Int)) = false := decide_eq_false (by omega)
            have hdb2 : decide (j < l1.length) = false := decide_eq_false (by omega)
            have hk0 : kk = 0 := by rw [hkk]; unfold sK; rw [List.getElem?_eq_none (by omega)]
            subst hk0
            have HKK := Aside0.mk hkk
            clear hkk
            go_wp2
            clear hx0 hx1 hx2 hx3
            obtain ⟨W, hW⟩ : ∃ W, W = wr.alloc (.cells #[.string p.f0.f0, .int .u64 p.f0.f1, .int .u8 p.f0.f2, .string p.f1] 41) := ⟨_, rfl⟩
            rw [← hW]
            have hbx : W.heap[wr.heap.size]? = some (.cells #[.string p.f0.f0, .int .u64 p.f0.f1, .int .u8 p.f0.f2, .string p.f1] 41) := by rw [hW]; exact blk_alloc_new wr _
            have hB1 : Below w.heap.size w W := by rw [hW]; exact below_alloc HB.out _
            have hS1 : Kd.S (Kd.slice 41 k41) 29 W w.heap.size (fun _ => True) (.slice (some ⟨g, 0, none⟩) n cap) Lj := by rw [hW]; exact Kd.S_alloc HS.out _
            clear hW
            have hq0 : W.cell? ⟨wr.heap.size, 0, none⟩ = some (.string p.f0.f0) := blk_cell hbx 0
            have hq1 : W.cell? ⟨wr.heap.size, 1, none⟩ = some (.int .u64 p.f0.f1) := blk_cell hbx 1
            have hq2 : W.cell? ⟨wr.heap.size, 2, none⟩ = some (.int .u8 p.f0.f2) := blk_cell hbx 2
            have hq3 : W.cell? ⟨wr.heap.size, 3, none⟩ = some (.string p.f1) := blk_cell hbx 3
            obtain ⟨oki, ce, hcl, hM, hcc, hfr, hoki, hH⟩ := Kd.S_elem hS1 ([] : List MEn) ((0 : Nat) : Int) (by omega) (by omega)
            obtain ⟨ve, rfl, hge⟩ := hM
            obtain ⟨Ae, cE, hve⟩ := Kd.R_slice hge
            subst hve
            have hcell := hcc 0 _ rfl
            have hfz := hfr 0
            rw [show (Kd.slice 41 k41).sz = 1 from rfl] at hcell hfz
            simp only [Int.toNat_natCast, Nat.mul_one, Nat.add_zero] at hcell hfz
            obtain ⟨q, hq⟩ : ∃ q, q = Lj.getD 0 [] := ⟨_, rfl⟩
            have hql : q.length ≤ 120 := by
              have hk3 : 0 < Lj.length := by rw [HDJ.out.len]; omega
              have h9 : Lj.getD 0 [] = Lj[0] := by rw [List.getD_eq_getElem?_getD, List.getElem?_eq_getElem hk3]; rfl
              have h8 := (HDJ.out.sub _ (List.getElem_mem hk3)).length_le
              rw [hq, h9]
              have h7 := List.length_take_le j l0
              have := HL120.out
              omega
            simp only [Int.toNat_natCast] at hge hcell
            rw [← hq] at hge hcell
            have hcell2 := pw_cell_below (below_alloc (Below.refl _ _) (.cells #[.string p.f0.f0, .int .u64 p.f0.f1, .int .u8 p.f0.f2, .string p.f1] 41)) hcell
            have HQ := Aside0.mk hq
            have HQL := Aside0.mk hql
            have HB1 := Aside0.mk hB1
            have HH := Aside0.mk hH
            have HGE := Aside0.mk hge
            clear hq hql hB1 hH hge hS1 hcc hfr hoki hcl hbx HS
            go_region_law ((try rw [show (W.alloc (.cells #[.string p.f0.f0, .int .u64 p.f0.f1, .int .u8 p.f0.f2, .string p.f1] 41)).drew = W.drew.alloc (.cells #[.string p.f0.f0, .int .u64 p.f0.f1, .int .u8 p.f0.f2, .string p.f1] 41) from rfl]); refine Kd.R_append_step k41 (w0 := w) w.heap.size ?hw (.tmp 59) (.tmp 61) 29 41 (.agg #[.string ⟨#[]⟩, .int .u64 0, .int .u8 0, .string ⟨#[]⟩]) 48 ?ho Try.underlying29 info41 rfl (by decide) (by decide) (.slice Ae q.length cE) q p [.string p.f0.f0, .int .u64 p.f0.f1, .int .u8 p.f0.f2, .string p.f1] (fun k_ => oki k_ ∨ True ∧ W.heap.size ≤ k_) (fun _ => False) ?hs ?hx (k41_mkM _ _ _ p) (fun _ hk => hk.elim) (fun _ hk => .inr ⟨trivial, hk⟩) ?rO ?rB ?rS (by have := HQL.out; omega) ?_; (case hw => rfl); (case ho => rfl); (case hs => rfl); (case hx => rfl); (case rO => exact Kd.R_mono (Kd.R_drew HGE.out) (fun _ hk => .inl hk)); (case rB => exact below_drew1 HB1.out); (case rS => exact HB1.out.size); intro v1 w1 ho hb hg hat; obtain ⟨A9, c9, e9⟩ := Kd.R_slice ho; subst e9; have hH1 := Kd.H_grown (Kd.H_widen (Kd.H_drew HH.out)) hg (fun k_ e_ => .inl (HGE.out.1 k_ e_)); obtain ⟨hc1, hf1⟩ := Kd.H_at hH1 (by omega) (by omega); have hc2 := hc1 0 _ rfl; have hf2 := hf1 0; rw [show (Kd.slice 41 k41).sz = 1 from rfl] at hc2 hf2; simp only [Int.toNat_natCast, Nat.mul_one, Nat.add_zero] at hc2 hf2; have HH1 := Aside0.mk hH1; have HO1 := Aside0.mk ho; have HBB := Aside0.mk hb; clear hH1 ho hb hg hat hc1 hf1)
            all_goals
              have HSN := (Kd.S_seg0 HH1.out (by omega) (by omega) (seg := [.slice A9 (q.length + 1) c9]) (j := 0) (show 0 + 1 ≤ 1 from Nat.le_refl _) (x' := q ++ [p]) (Kd.M_row (by simpa using HO1.out)) (fun _ hk => hk)).1
              rw [show (Kd.slice 41 k41).sz = 1 from rfl] at HSN
              simp only [Int.toNat_natCast, Nat.mul_one, Nat.add_zero] at HSN
              have HSN := Aside0.mk HSN
              clear HH1 HO1
              go_wp2
              go_roundg k1
              case measure => exact Nat.lt_succ_self _
              case rel =>
                refine ⟨j + 1, sPut Lj 0 p, by rw [hj1], ⟨by have := HJ.out; omega⟩, ⟨below_set' HBB.out HGB.out _ _⟩, ⟨?_⟩, ⟨?_⟩, ⟨?_⟩⟩
                · unfold sPut
                  rw [← HQ.out]
                  exact HSN.out
                · rw [List.take_add_one, HP.out]
                  exact HDJ.out.put hkn p
                · have h9 := HDD.out
                  rw [List.drop_eq_getElem_cons HJL.out, (Option.some.inj ((List.getElem?_eq_getElem HJL.out).symm.trans HP.out) : l0[j] = p), sDealt, ← HKK.out] at h9
                  exact h9
      · have hjb : decide ((j : Int) < (l0.length : Int)) = false := decide_eq_false (by omega)
        have hjb2 : decide (j < l0.length) = false := decide_eq_false (by omega)
        have hjl : j = l0.length := by have := HJ.out; omega
        have hLs : Lj = sLists l1 n l0 := by
          have h9 := HDD.out
          rw [hjl, List.drop_length] at h9
          exact h9
        subst hLs
        obtain ⟨W1, hW1⟩ : ∃ W1, W1 = wr.alloc (.cells #[.slice A0 l0.length c0] 29) := ⟨_, rfl⟩
        have hBW1 : Below wr.heap.size wr W1 := by rw [hW1]; exact below_alloc (Below.refl _ _) _
        have hB1 : Below w.heap.size w W1 := by rw [hW1]; exact below_alloc HB.out _
        have hbx : W1.heap[wr.heap.size]? = some (.cells #[.slice A0 l0.length c0] 29) := by rw [hW1]; exact blk_alloc_new wr _
        have hlt : wr.heap.size < W1.heap.size := by rw [hW1]; simp
        have L1 : ∀ W, Below W1.heap.size W1 W → n = (sLists l1 n l0).length ∧ n ≤ cap ∧ Kd.C (Kd.slice 41 k41) W (some ⟨g, 0, none⟩) (sLists l1 n l0).length (sLists l1 n l0) := fun W hb => Kd.S_reads' (Kd.S_below HS.out (below_step hBW1 hb))
        have L2 : ∀ W, Below W1.heap.size W1 W → Kd.C (Kd.slice 41 k41) W (some ⟨wr.heap.size, 0, none⟩) ([l0] : List (List MEn)).length [l0] := fun W hb => C_one (Kd.C_below HR0.out (below_step hB1 hb)) HC0.out ((hb.block _ hlt).trans hbx)
        have G1 : ∀ W, Below W1.heap.size W1 W → Calls Try.prog 16 #[.slice (some ⟨g, 0, none⟩) n cap, .string key, .int .u64 seq] W fun e w' => e = .returned (.tuple #[.string gv, .bool gb]) ∧ Below W.heap.size W w' := fun W hb => by
          obtain ⟨h1, h2, h3⟩ := L1 W hb
          have := merge_Get.calls _ cap _ key seq gv gb W h3 (by rw [← h1]; exact h2) H2.out
          rwa [← h1] at this
        have G2 : ∀ W, Below W1.heap.size W1 W → Calls Try.prog 16 #[.slice (some ⟨wr.heap.size, 0, none⟩) 1 1, .string key, .int .u64 seq] W fun e w' => e = .returned (.tuple #[.string gv, .bool gb]) ∧ Below W.heap.size W w' := fun W hb => merge_Get.calls _ 1 [l0] key seq gv gb W (L2 W hb) (by simp) H3.out
        have A1 : ∀ W, Below W1.heap.size W1 W → Calls Try.prog 19 #[.slice (some ⟨g, 0, none⟩) n cap] W fun e w' => ∃ v0_ : Value, e = .returned (v0_) ∧ Kd.R k41 41 w' W.heap.size (fun _ => True) v0_ l0 ∧ Below W.heap.size W w' := fun W hb => by
          obtain ⟨h1, h2, h3⟩ := L1 W hb
          have := merge_All.calls _ cap _ l0 W h3 (by rw [← h1]; exact h2) H1.out
          rwa [← h1] at this
        have S1 : ∀ W, Below W1.heap.size W1 W → Calls Try.prog 22 #[.slice (some ⟨g, 0, none⟩) n cap, .string key, .string ⟨#[]⟩, .int .u64 seq, .int .i64 100] W fun e w' => ∃ v0_ : Value, e = .returned (v0_) ∧ Kd.R k37 37 w' W.heap.size (fun _ => True) v0_ sc ∧ Below W.heap.size W w' := fun W hb => by
          obtain ⟨h1, h2, h3⟩ := L1 W hb
          have := merge_Scan.calls _ cap _ key ⟨#[]⟩ seq 100 sc W h3 (by rw [← h1]; exact h2) H4.out
          rwa [← h1] at this
        have S2 : ∀ W, Below W1.heap.size W1 W → Calls Try.prog 22 #[.slice (some ⟨wr.heap.size, 0, none⟩) 1 1, .string key, .string ⟨#[]⟩, .int .u64 seq, .int .i64 100] W fun e w' => ∃ v0_ : Value, e = .returned (v0_) ∧ Kd.R k37 37 w' W.heap.size (fun _ => True) v0_ sc ∧ Below W.heap.size W w' := fun W hb => merge_Scan.calls _ 1 [l0] key ⟨#[]⟩ seq 100 sc W (L2 W hb) (by simp) H5.out
        have C0 : ∀ W, Below W1.heap.size W1 W → Kd.C k41 W A0 l0.length l0 := fun W hb => Kd.C_below HR0.out (below_step hB1 hb)
        have HG1 := Aside0.mk G1
        have HG2 := Aside0.mk G2
        have HA1 := Aside0.mk A1
        have HS1 := Aside0.mk S1
        have HS2 := Aside0.mk S2
        have HCC := Aside0.mk C0
        have HBW : Aside0 (Below W1.heap.size W1 (wr.alloc (.cells #[.slice A0 l0.length c0] 29))) := ⟨by rw [← hW1]; exact Below.refl _ _⟩
        have HBB := Aside0.mk hB1
        clear hBW1 hB1 hbx hlt L1 L2 G1 G2 A1 S1 S2 C0 hW1 HS HDJ HDD HJ HR0 H1 H2 H3 H4 H5 HB
        go_wp2_with (first | (go_at_call 16; (with_reducible refine (HG1.out _ HBW.out).mono ?_); rintro e w5 ⟨rfl, hb5⟩; have HBW := Aside0.mk (below_step HBW.out hb5); clear hb5) | (go_at_call 16; (with_reducible refine (HG2.out _ HBW.out).mono ?_); rintro e w5 ⟨rfl, hb5⟩; have HBW := Aside0.mk (below_step HBW.out hb5); clear hb5) | (go_at_call 19; (with_reducible refine (HA1.out _ HBW.out).mono ?_); rintro e w5 ⟨v5, rfl, hr5, hb5⟩; obtain ⟨A5, c5, rfl, hc5, hC5⟩ := Kd.R_reads hr5; have HC5 := Aside0.mk hC5; have HC6 := Aside0.mk hc5; have HBW := Aside0.mk (below_step HBW.out hb5); clear hb5 hr5 hc5 hC5) | (go_at_call 18; refine (ratlinelaw04_Entries.calls ke _ _ l0 _ _ l0 true _ HC5.out HC6.out (HCC.out _ HBW.out) HC0.out HKE.out).mono ?_; rintro e w5 ⟨rfl, hd5⟩; have HBW := Aside0.mk (below_step HBW.out hd5.below); clear hd5) | (go_at_call 22; (with_reducible refine (HS1.out _ HBW.out).mono ?_); rintro e w5 ⟨v5, rfl, hr5, hb5⟩; obtain ⟨A7, c7, rfl, hc7, hC7⟩ := Kd.R_reads hr5; have HC7 := Aside0.mk hC7; have HC8 := Aside0.mk hc7; have HBW := Aside0.mk (below_step HBW.out hb5); clear hb5 hr5 hc7 hC7) | (go_at_call 22; (with_reducible refine (HS2.out _ HBW.out).mono ?_); rintro e w5 ⟨v5, rfl, hr5, hb5⟩; obtain ⟨A9, c9, rfl, hc9, hC9⟩ := Kd.R_reads hr5; have HC9 := Aside0.mk hC9; have HC10 := Aside0.mk hc9; have HC7 := Aside0.mk (Kd.C_below HC7.out hb5); have HBW := Aside0.mk (below_step HBW.out hb5); clear hb5 hr5 hc9 hC9) | (go_at_call 21; refine (ratlinelaw11_Pairs.calls kp _ _ sc _ _ sc true _ HC7.out HC8.out HC9.out HC10.out HKP.out).mono ?_; rintro e w5 ⟨rfl, hd5⟩; have HBW := Aside0.mk (below_step HBW.out hd5.below); clear hd5) | (go_at_call 15; refine (ratlinelaw11_awake.calls ka true _ HAW.out).mono ?_; rintro e w5 ⟨rfl, hb5⟩; have HBW := Aside0.mk (below_step HBW.out hb5); clear hb5))
        go_ret
        exact ⟨rfl, below_step HBB.out HBW.out⟩
  · have HG := Aside0.mk hg
    clear hg
    go_enter Try.func6, Try.ntmps6
    go_wp2_with (first | (go_at_call 14; refine (ratlinelaw11_Fine.calls kf _ _ [l0] (fineB [l0]) _ (C_one (g := w.heap.size) (Kd.C_alloc HR0.out _) HC0.out (box_new w _ _)) (by simp) HKF.out).mono ?_; rintro e w2 ⟨rfl, hb2⟩; have HB2 : Aside0 (Below w.heap.size w w2) := ⟨below_step (below_alloc (Below.refl _ _) _) hb2⟩; clear hb2 HKF) | (go_at_call 15; refine (ratlinelaw11_awake.calls ka true _ HAW.out).mono ?_; rintro e w3 ⟨rfl, hb3⟩))
    all_goals first
      | (go_ret; exact ⟨rfl, below_step HB2.out hb3⟩)
      | (exfalso; refine HG.out ⟨?_, ?_⟩ <;> first | assumption | (simp_all; done))
end Go.Proofs.YtojemmipkpckbaaL

end

section
set_option linter.unusedVariables false
namespace Go.Proofs.Ytojemmipkpckbaa.P
open Go Go.RowKit Go.Proofs.YtojemmipkpckbaaG Go.Proofs.YtojemmipkpckbaaL Go.Proofs.YtojemmipkpckbaaW.PrintWords
def ratlinelaw11_MergeSpread.f (_ : Nat) (l0 : List MEn) (l1 : List Int) (a2 : Int) (_ : ByteArray) (_ : Int) : Option Bool :=
  if l0.length * 48 ≤ 140737488351232 ∧ (0 ≤ a2 ∧ a2 < 256) ∧ (∀ x ∈ l1, 0 ≤ x ∧ x < 256) then some true else none
theorem ratlinelaw11_MergeSpread.calls (k : Nat) (A0 : Option Addr) (c0 : Nat) (l0 : List MEn) (A1 : Option Addr) (c1 : Nat) (l1 : List Int) (a2 : Int) (a3 : ByteArray) (a4 : Int) (r : Bool) (w : World)
    (hr0 : Kd.C k41 w A0 l0.length l0) (hc0 : l0.length ≤ c0) (hr1 : Kd.C (Kd.int .u8) w A1 l1.length l1) (hc1 : l1.length ≤ c1) (h : ratlinelaw11_MergeSpread.f k l0 l1 a2 a3 a4 = some r) :
    Calls Try.prog 6 #[.slice A0 l0.length c0, .slice A1 l1.length c1, .int .u8 a2, .string a3, .int .u64 a4] w fun e w' => e = .returned (.bool r) ∧ Below w.heap.size w w' := by
  unfold ratlinelaw11_MergeSpread.f at h
  by_cases hc : l0.length * 48 ≤ 140737488351232 ∧ (0 ≤ a2 ∧ a2 < 256) ∧ (∀ x ∈ l1, 0 ≤ x ∧ x < 256)
  · rw [if_pos hc] at h
    obtain rfl := Option.some.inj h
    exact spread_calls A0 c0 l0 A1 c1 l1 a2 a3 a4 w hr0 hc0 hr1 hc1 hc.1 hc.2.1 hc.2.2
  · rw [if_neg hc] at h
    cases h
end Go.Proofs.Ytojemmipkpckbaa.P

end

section
set_option linter.unusedVariables false
namespace Go.Proofs.Ytojemmipkpckbaa.Pure
open Go Go.RowKit Go.Proofs.Ytojemmipkpckbaa.P Go.Proofs.YtojemmipkpckbaaG Go.Proofs.YtojemmipkpckbaaL
theorem MergeSpread (l0 : List MEn) (_ : l0.length ≤ maxLen) (hl : l0.length * 48 ≤ 140737488351232) (_ : ∀ e ∈ l0, (e.f0.f0.size ≤ maxLen ∧ (Lit.int .u64 e.f0.f1).wf = true ∧ (Lit.int .u8 e.f0.f2).wf = true) ∧ e.f1.size ≤ maxLen)
    (l1 : List Int) (_ : l1.length ≤ maxLen) (_ : l1.length * 1 ≤ 140737488351232) (hd : ∀ x ∈ l1, (Lit.int .u8 x).wf = true) (a2 : Int) (h2 : (Lit.int .u8 a2).wf = true) (a3 : ByteArray) (_ : a3.size ≤ maxLen) (a4 : Int) (_ : (Lit.int .u64 a4).wf = true) :
    ∃ k, ratlinelaw11_MergeSpread.f k l0 l1 a2 a3 a4 = some true := by
  have hw : ∀ x : Int, (Lit.int .u8 x).wf = true → 0 ≤ x ∧ x < 256 := fun x h => by
    simp [Lit.wf, IntKind.min, IntKind.max, IntKind.bits, IntKind.signed] at h
    omega
  refine ⟨0, ?_⟩
  unfold ratlinelaw11_MergeSpread.f
  rw [if_pos ⟨hl, hw a2 h2, fun x hx => hw x (hd x hx)⟩]
end Go.Proofs.Ytojemmipkpckbaa.Pure

end

section
set_option linter.unusedVariables false
namespace Go.Proofs.YtojemmipkpckbaaG
open Go Go.RowKit Go.Proofs.YtojemmipkpckbaaW.PrintWords

/-- What is trodden of this type is of this kind, and is right. -/
def Opens {α : Type} (P : Program) (t : TypeId) (d : Kd α) (wf : α → Prop) : Prop :=
  ∀ (H : Type) (enc : TypeId × Value → H) (w : World) (base : Nat) (sp : Nat → Bool) (held : Bool) (fuel : Nat) (cs : List Value) (x : DataW H × List MemPlace),
    DataW.trod enc P w base sp held fuel t cs = some x → ∃ a, d.K w a cs ∧ wf a
section
variable {P : Program} {t e : TypeId}
theorem opens_int {k : IntKind} (ht : P.underlying t = some (.int k)) : Opens P t (Kd.int k) (fun n => (Lit.int k n).wf = true) := by
  intro H enc w base sp held fuel cs x h
  obtain ⟨n, rfl, _, hw⟩ := DataW.trod_int ht h
  exact ⟨n, rfl, hw⟩
theorem opens_string (ht : P.underlying t = some .string) : Opens P t Kd.string (fun s => s.size ≤ maxLen) := by
  intro H enc w base sp held fuel cs x h
  obtain ⟨n, rfl, _, hm⟩ := DataW.trod_string ht h
  exact ⟨n, rfl, hm⟩
theorem build {α : Type} {Q : Nat → α → Prop} : ∀ n : Nat, (∀ i, i < n → ∃ a, Q i a) → ∃ l : List α, l.length = n ∧ ∀ i a, l[i]? = some a → Q i a := by
  intro n
  induction n with
  | zero => intro _; exact ⟨[], rfl, fun i a h => by simp at h⟩
  | succ n ih =>
    intro h
    obtain ⟨l, hl, hq⟩ := ih (fun i hi => h i (by omega))
    obtain ⟨a, ha⟩ := h n (by omega)
    refine ⟨l ++ [a], by simp [hl], fun i b hb => ?_⟩
    by_cases hi : i < n
    · rw [List.getElem?_append_left (by omega)] at hb
      exact hq i b hb
    · rw [List.getElem?_append_right (by omega)] at hb
      by_cases hin : i = n
      · subst hin
        rw [hl, Nat.sub_self] at hb
        simp at hb
        exact hb ▸ ha
      · rw [List.getElem?_eq_none (by simp; omega)] at hb
        cases hb
theorem opens_row {α : Type} {d : Kd α} {wf : α → Prop} (hc : P.cellsOf e = d.sz) (ht : P.underlying t = some (.slice e)) (he : Opens P e d wf)
    {H : Type} {enc : TypeId × Value → H} {w : World} {base : Nat} {sp : Nat → Bool} {held : Bool} {fuel : Nat} {cs : List Value} {x : DataW H × List MemPlace} (h : DataW.trod enc P w base sp held fuel t cs = some x) :
    ∃ (A : Option Addr) (c : Nat) (xs : List α), cs = [.slice A xs.length c] ∧ xs.length ≤ c ∧ c ≤ maxLen ∧ d.C w A xs.length xs ∧ ∀ a ∈ xs, wf a := by
  rcases DataW.trod_slice ht h with ⟨rfl, _⟩ | ⟨ad, len, cap, elems, rest, n, _, rfl, _, hb, hl, hm, hn, hel, _, _⟩
  · exact ⟨none, 0, [], rfl, Nat.le_refl _, by decide, Kd.C_nil d w, fun a ha => by cases ha⟩
  · obtain ⟨xs, hxl, hx⟩ := build (Q := fun i a => wf a ∧ ∃ c, c.length = d.sz ∧ d.K w a c ∧ ∀ j u, c[j]? = some u → w.cell? (ad.add (i * d.sz + j)) = some u) len (fun i hi => by
      have h1 := hel i hi
      rw [List.getElem?_eq_getElem (by omega)] at h1
      obtain ⟨cs', hcs, htr⟩ := Option.bind_eq_some_iff.1 h1
      obtain ⟨a, ha, hw⟩ := he H enc w base sp held n cs' _ htr
      have hlen := d.K_len ha
      obtain ⟨_, hlen2, hcell⟩ := World.cells?_some hcs
      refine ⟨a, hw, cs', hlen, ha, fun j u hj => ?_⟩
      have hjl : j < cs'.length := by
        by_cases hjl : j < cs'.length
        · exact hjl
        · rw [List.getElem?_eq_none (by omega)] at hj; cases hj
      have h2 := hcell j (by omega)
      rw [hc] at h2
      have hadd : (ad.add (i * d.sz)).add j = ad.add (i * d.sz + j) := Addr.add_add ad _ _
      rw [← hadd, h2, hj])
    have hmax : maxLen ≤ 9223372036854775807 := by decide
    refine ⟨some ad, cap, xs, by rw [hxl], by omega, hm, ⟨rfl, by omega, fun _ => ⟨ad, rfl, fun j p hp => (hx j p hp).2⟩⟩, fun a ha => ?_⟩
    obtain ⟨i, hi⟩ := List.mem_iff_getElem?.1 ha
    exact (hx i a hi).1
theorem Opens.iso {α β : Type} {d : Kd α} {wf : α → Prop} (h : Opens P t d wf) (f : β → α) (g : α → β) (hfg : ∀ a, f (g a) = a) : Opens P t (Kd.iso d f) (fun b => wf (f b)) := by
  intro H enc w base sp held fuel cs x htr
  obtain ⟨a, ha, hw⟩ := h H enc w base sp held fuel cs x htr
  exact ⟨g a, by show d.K w (f (g a)) cs; rw [hfg]; exact ha, by show wf (f (g a)); rw [hfg]; exact hw⟩
end

/-- A field of a struct. -/
theorem opens_field {α : Type} {P : Program} {t e : TypeId} {fs : Array Field} {d : Kd α} {wf : α → Prop} {off i : Nat} {f : Field} (ht : P.underlying t = some (.struct fs)) (hi : fs[i]? = some f) (hft : f.type = e) (hfo : f.offset = off) (hc : P.cellsOf e = d.sz) (he : Opens P e d wf)
    {H : Type} {enc : TypeId × Value → H} {w : World} {base : Nat} {sp : Nat → Bool} {held : Bool} {fuel : Nat} {cs : List Value} {x : DataW H × List MemPlace} (h : DataW.trod enc P w base sp held fuel t cs = some x) :
    ∃ a, d.K w a ((cs.drop off).take d.sz) ∧ wf a := by
  obtain ⟨xs, n, _, _, _, hn, hf⟩ := DataW.trod_struct ht h
  have h1 := hf i f hi
  have hil : i < xs.length := by
    rw [hn]
    exact (Array.getElem?_eq_some_iff.1 hi).1
  rw [List.getElem?_eq_getElem hil, hft, hfo, hc] at h1
  exact he H enc w base sp held n _ _ h1
theorem opens_cells {P : Program} {t : TypeId} {fs : Array Field} (ht : P.underlying t = some (.struct fs)) {H : Type} {enc : TypeId × Value → H} {w : World} {base : Nat} {sp : Nat → Bool} {held : Bool} {fuel : Nat} {cs : List Value} {x : DataW H × List MemPlace} (h : DataW.trod enc P w base sp held fuel t cs = some x) :
    cs.length = P.cellsOf t := by
  obtain ⟨xs, n, _, _, hl, _⟩ := DataW.trod_struct ht h
  exact hl
theorem opens_struct2 {α β : Type} {P : Program} {t ta tb : TypeId} {fs : Array Field} {a : Kd α} {b : Kd β} {wa : α → Prop} {wb : β → Prop} (ht : P.underlying t = some (.struct fs)) (hc : P.cellsOf t = a.sz + b.sz)
    (f0 : (fs[0]?).map (fun f => (f.type, f.offset)) = some (ta, 0)) (f1 : (fs[1]?).map (fun f => (f.type, f.offset)) = some (tb, a.sz)) (ca : P.cellsOf ta = a.sz) (cb : P.cellsOf tb = b.sz) (oa : Opens P ta a wa) (ob : Opens P tb b wb) :
    Opens P t (Kd.pair a b) (fun x => wa x.1 ∧ wb x.2) := by
  intro H enc w base sp held fuel cs x h
  obtain ⟨g0, e0, q0⟩ := Option.map_eq_some_iff.1 f0
  obtain ⟨g1, e1, q1⟩ := Option.map_eq_some_iff.1 f1
  simp only [Prod.mk.injEq] at q0 q1
  obtain ⟨x0, k0, w0⟩ := opens_field ht e0 q0.1 q0.2 ca oa h
  obtain ⟨x1, k1, w1⟩ := opens_field ht e1 q1.1 q1.2 cb ob h
  have hl := opens_cells ht h
  have hsp : (cs.drop a.sz).take b.sz = cs.drop a.sz := List.take_of_length_le (by rw [List.length_drop]; omega)
  rw [List.drop_zero] at k0
  rw [hsp] at k1
  exact ⟨(x0, x1), ⟨cs.take a.sz, cs.drop a.sz, (List.take_append_drop _ _).symm, k0, k1⟩, w0, w1⟩
theorem opens_struct3 {α β γ : Type} {P : Program} {t ta tb tc : TypeId} {fs : Array Field} {a : Kd α} {b : Kd β} {c : Kd γ} {wa : α → Prop} {wb : β → Prop} {wc : γ → Prop} (ht : P.underlying t = some (.struct fs)) (hc : P.cellsOf t = a.sz + (b.sz + c.sz))
    (f0 : (fs[0]?).map (fun f => (f.type, f.offset)) = some (ta, 0)) (f1 : (fs[1]?).map (fun f => (f.type, f.offset)) = some (tb, a.sz)) (f2 : (fs[2]?).map (fun f => (f.type, f.offset)) = some (tc, a.sz + b.sz)) (ca : P.cellsOf ta = a.sz) (cb : P.cellsOf tb = b.sz) (cc : P.cellsOf tc = c.sz) (oa : Opens P ta a wa) (ob : Opens P tb b wb) (oc : Opens P tc c wc) :
    Opens P t (Kd.pair a (Kd.pair b c)) (fun x => wa x.1 ∧ wb x.2.1 ∧ wc x.2.2) := by
  intro H enc w base sp held fuel cs x h
  obtain ⟨g0, e0, q0⟩ := Option.map_eq_some_iff.1 f0
  obtain ⟨g1, e1, q1⟩ := Option.map_eq_some_iff.1 f1
  obtain ⟨g2, e2, q2⟩ := Option.map_eq_some_iff.1 f2
  simp only [Prod.mk.injEq] at q0 q1 q2
  obtain ⟨x0, k0, w0⟩ := opens_field ht e0 q0.1 q0.2 ca oa h
  obtain ⟨x1, k1, w1⟩ := opens_field ht e1 q1.1 q1.2 cb ob h
  obtain ⟨x2, k2, w2⟩ := opens_field ht e2 q2.1 q2.2 cc oc h
  have hl := opens_cells ht h
  have hsp : (cs.drop (a.sz + b.sz)).take c.sz = (cs.drop a.sz).drop b.sz := by rw [List.take_of_length_le (by rw [List.length_drop]; omega), List.drop_drop]
  rw [List.drop_zero] at k0
  rw [hsp] at k2
  exact ⟨(x0, x1, x2), ⟨cs.take a.sz, cs.drop a.sz, (List.take_append_drop _ _).symm, k0, _, _, (List.take_append_drop b.sz _).symm, k1, k2⟩, w0, w1, w2⟩
/-- A row's slice is no longer than its weight allows. -/
theorem sized_row {H : Type} {enc : TypeId × Value → H} {P : Program} {W : World} {base : Nat} {spare : Nat → Bool} {held : Bool} {t e : TypeId} {a : Option Addr} {len cap : Nat} {d : DataW H} {ps : List MemPlace} {ts : List TypeId} {ds : List (DataW H)} {j : Nat}
    (hsz : (DataW.weightsEach P ts ds).all (· ≤ reachBytes) = true) (ht : ts[j]? = some t) (hd : ds[j]? = some d) (hu : P.underlying t = some (.slice e)) (B : Nat) (hB : P.bytesOf e = B)
    (h : DataW.Trod enc P W base spare held t (.slice a len cap) d ps) : len * B ≤ 140737488351232 := by
  obtain ⟨fuel, hf⟩ := h
  rcases DataW.trod_slice hu hf with ⟨hcs, _⟩ | ⟨ad, l, c, elems, rest, n, _, hcs, hx, _, _, _, hn, _⟩
  · simp only [Value.cells, List.cons.injEq, Value.slice.injEq, and_true] at hcs
    obtain ⟨rfl, rfl, rfl⟩ := hcs
    rw [Nat.zero_mul]; omega
  · simp only [Value.cells, List.cons.injEq, Value.slice.injEq, and_true] at hcs
    obtain ⟨rfl, rfl, rfl⟩ := hcs
    obtain ⟨hx, _⟩ := Prod.mk.inj hx
    subst hx
    have z := sized_slice hsz ht hd hu
    rw [hB, List.length_map, List.length_map] at z
    exact Nat.le_trans (Nat.mul_le_mul_right _ (by omega)) z
end Go.Proofs.YtojemmipkpckbaaG

end

section
set_option linter.unusedVariables false
namespace Go.Proofs.Ytojemmipkpckbaa.mergeSpread
open Go Go.ChangeShapes Go.WideShapes Go.ChangeAt Go.RowKit Go.Proofs.YtojemmipkpckbaaG Go.Proofs.Ytojemmipkpckbaa.P Go.Proofs.YtojemmipkpckbaaW.PrintWords
open Go.ChangeMaps (open_string shut_string)
theorem own : ownKnob Try.prog.godebug = none := by kernel_rfl
theorem laidOut : laidOutB Try.prog = true := by kernel_rfl
set_option maxRecDepth 100000 in
theorem lifted (os : Os) (started : os.Started) (H : Type) (enc : TypeId × Value → H) :
    ReturnsInHanded {} Try.checked os 6 .any (Rows.mergeSpreadSpec.pre6 enc Try.prog Try.f6 Rows.mergeSpreadRow.domain false) (Rows.mergeSpreadSpec.post enc Try.prog Try.f6 false true false false) := by
  refine returnsInHanded_of_change_sized (C := Try.checked) own started (by kernel_rfl) Try.func6
    (ChangeSpec.witness6 (enc := enc) (C := Try.checked) false ⟨#[], #[.slice none 0 0, .slice none 0 0, .int .u8 0, .string ⟨#[]⟩, .int .u64 0], []⟩ 8 (by kernel_rfl) (by kernel_rfl) (by kernel_rfl) (by kernel_rfl)) ?_
  intro W base args ds gs before hval0 hW hcnd hsz0 _
  have hsz : (DataW.weightsEach Try.prog (Try.f6.params.toList ++ Rows.mergeSpreadSpec.plain.varTypes Try.prog) (ds ++ gs)).all (· ≤ reachBytes) = true := hsz0
  have hval : ∀ (j : Nat) t v, Try.f6.params[j]? = some t → args[j]? = some v → Value.okWide Try.prog W .any base t v := hval0
  have hW' := hW
  obtain ⟨p, q, hA0, hV, rfl, hfz, hnd⟩ := hW
  have hA : DataW.TrodAll enc Try.prog W 0 (fun _ => true) true Try.f6.params.toList args.toList ds p := hA0
  rw [Try.params6] at hA hval hsz
  obtain ⟨v0, vs0, d0, ds0, p0, q0, hargs, rfl, rfl, h0, r0⟩ := trodAll_cons hA
  obtain ⟨v1, vs1, d1, ds1, p1, q1, rfl, rfl, rfl, h1, r1⟩ := trodAll_cons r0
  obtain ⟨v2, vs2, d2, ds2, p2, q2, rfl, rfl, rfl, h2, r2⟩ := trodAll_cons r1
  obtain ⟨v3, vs3, d3, ds3, p3, q3, rfl, rfl, rfl, h3, r3⟩ := trodAll_cons r2
  obtain ⟨v4, vs4, d4, ds4, p4, q4, rfl, rfl, rfl, h4, r4⟩ := trodAll_cons r3
  obtain ⟨rfl, rfl, rfl⟩ := trodAll_nil r4
  obtain rfl : args = #[v0, v1, v2, v3, v4] := by cases args; simp_all
  obtain ⟨rfl, rfl⟩ := trodVars_none hV
  obtain ⟨a0, len0, cap0, rfl⟩ := okWide_slice Try.underlying29 (hval 0 29 v0 rfl rfl)
  have k0 := h0
  have y0 := sized_row hsz (j := 0) (t := 29) rfl rfl Try.underlying29 48 (by kernel_rfl) h0
  have lt0 : ∀ x ∈ p0, x.block < W.heap.size := by obtain ⟨m, hm⟩ := k0; exact DataW.trod_lt m _ _ _ hm
  obtain ⟨fuel0, hf0⟩ := h0
  obtain ⟨A0, c0, l0, hcs0, hl0, hm0, hC0, hw0⟩ := opens_row (by kernel_rfl) Try.underlying29 (show Opens Try.prog 41 k41 _ from Opens.iso (opens_struct2 (ta := 39) (tb := 9) Try.underlying41 (by kernel_rfl) (by kernel_rfl) (by kernel_rfl) (by kernel_rfl) (by kernel_rfl) (show Opens Try.prog 39 k39 _ from Opens.iso (opens_struct3 (ta := 9) (tb := 23) (tc := 5) Try.underlying39 (by kernel_rfl) (by kernel_rfl) (by kernel_rfl) (by kernel_rfl) (by kernel_rfl) (by kernel_rfl) (by kernel_rfl) (opens_string Try.underlying9) (opens_int Try.underlying23) (opens_int Try.underlying5)) (fun x : S39 => (x.f0, x.f1, x.f2)) (fun q => ⟨q.1, q.2.1, q.2.2⟩) (fun _ => rfl)) (opens_string Try.underlying9)) (fun x : S41 => (x.f0, x.f1)) (fun q => ⟨q.1, q.2⟩) (fun _ => rfl)) hf0
  simp only [Value.cells, List.cons.injEq, Value.slice.injEq, and_true] at hcs0
  obtain ⟨rfl, rfl, rfl⟩ := hcs0
  obtain ⟨a1, len1, cap1, rfl⟩ := okWide_slice Try.underlying44 (hval 1 44 v1 rfl rfl)
  have k1 := h1
  have y1 := sized_row hsz (j := 1) (t := 44) rfl rfl Try.underlying44 1 (by kernel_rfl) h1
  have lt1 : ∀ x ∈ p1, x.block < W.heap.size := by obtain ⟨m, hm⟩ := k1; exact DataW.trod_lt m _ _ _ hm
  obtain ⟨fuel1, hf1⟩ := h1
  obtain ⟨A1, c1, l1, hcs1, hl1, hm1, hC1, hw1⟩ := opens_row (by kernel_rfl) Try.underlying44 (opens_int Try.underlying5) hf1
  simp only [Value.cells, List.cons.injEq, Value.slice.injEq, and_true] at hcs1
  obtain ⟨rfl, rfl, rfl⟩ := hcs1
  obtain ⟨a2, rfl, rfl, rfl, w2⟩ := open_int Try.underlying5 (hval 2 5 v2 rfl rfl) h2
  obtain ⟨a3, rfl, rfl, rfl, w3⟩ := open_string Try.underlying9 (hval 3 9 v3 rfl rfl) h3
  obtain ⟨a4, rfl, rfl, rfl, w4⟩ := open_int Try.underlying23 (hval 4 23 v4 rfl rfl) h4
  obtain ⟨k, h⟩ := Pure.MergeSpread l0 (Nat.le_trans hl0 hm0) y0 hw0 l1 (Nat.le_trans hl1 hm1) y1 hw1 a2 w2 a3 w3 a4 w4
  clear hA0 hval0 hsz0 hsz
  refine (P.ratlinelaw11_MergeSpread.calls k _ _ l0 _ _ l1 a2 a3 a4 true W hC0 hl0 hC1 hl1 h).mono fun e W' ⟨he, bel⟩ => ?_
  subst he
  exact ⟨_, rfl, _, _, _, [], _, [], hW', trodAll_mk1 (shut_bool Try.underlying4 _), (trodAll_cons_mk (Below.trod laidOut (by kernel_rfl) (of_decide_eq_true (by kernel_rfl)) k0 bel lt0) (trodAll_cons_mk (Below.trod laidOut (by kernel_rfl) (of_decide_eq_true (by kernel_rfl)) k1 bel lt1) (trodAll_cons_mk (shut_int Try.underlying5 w2) (trodAll_cons_mk (shut_string Try.underlying9 w3) (trodAll_cons_mk (shut_int Try.underlying23 w4) trodAll_mk0))))), rfl, bel.frame _, fun h => by cases h⟩
theorem over : Rows.mergeSpreadRow.holds Try.pinned (OpenSpec.ofChange Rows.mergeSpreadSpec) :=
  OpenClaim.holds_of_wide 6 Try.f6 rfl rfl rfl rfl rfl rfl rfl ⟨rfl, rfl, rfl, rfl, rfl⟩ rfl rfl rfl rfl rfl (by kernel_rfl) Try.func6 (by kernel_rfl)
    (of_decide_eq_true (by kernel_rfl)) (by unfold Func.isWrapper; first | (rw [if_pos (by decide +kernel)]; kernel_rfl) | (rw [if_neg (by decide +kernel)]; exact ⟨rfl, rfl⟩))
    (fun os started H enc _ => lifted os started H enc)
theorem proved : Rows.MergeSpreadSaid := over
#print axioms proved
end Go.Proofs.Ytojemmipkpckbaa.mergeSpread
namespace Go.Proofs.Ytojemmipkpckbaa
/-- The row, under a short name, for the claim. -/
theorem mergeSpread_holds : Rows.MergeSpreadSaid := mergeSpread.proved
end Go.Proofs.Ytojemmipkpckbaa

end
