/- Proved here: what the row of BlockCut needs, part 3. Conditions: those of each theorem. Written for this claim by programs; what the claim does not use is left out. -/
import Derived.OwnWalkIn
import Derived.TacticsInMore
import Derived.Shelf.Abstract
import Derived.Shelf.RegionOpen
import Derived.Lib.SliceRun
import Derived.WalkKit
import Derived.Deep.AppendSrc
import Derived.Test.YtjcjfghcahbbmaaSBlockCut2
section
set_option linter.unusedVariables false
set_option linter.unusedSimpArgs false
namespace Go.Proofs.YtjcjfghcahbbmaaG
open Go Go.RowKit Go.Proofs.YtjcjfghcahbbmaaR Go.Proofs.Ytjcjfghcahbbmaa.P Go.Proofs.YtjcjfghcahbbmaaW.PrintWords
attribute [local go_sem] str_geq
set_option maxRecDepth 100000 in
set_option maxHeartbeats 2000000 in
/-- sort.Search, where the function given tells p. -/
theorem search_calls (n r : Nat) (g : Nat) (lb : Array Value) (p : Nat → Bool) (w : World) (hn : n ≤ 1000000000) (hr : r ≤ n) (h0 : ∀ i, i < r → p i = false) (h1 : ∀ i, r ≤ i → i < n → p i = true)
    (eg : ∀ args w, (callFunc g args).run Try.prog w = .ok (.enter g args) w)
    (hc : ∀ (i : Nat) (W : World), i < n → Below w.heap.size w W → Calls Try.prog g (#[.int .i64 i] ++ lb) W fun e W' => e = .returned (.bool (p i)) ∧ Below W.heap.size W W') :
    Calls Try.prog 61 #[.int .i64 n, .func (.func g) #[] lb] w fun e w' => e = .returned (.int .i64 r) ∧ Below w.heap.size w w' := by
  have HC := Aside0.mk hc
  clear hc
  go_enter Try.func61, Try.ntmps61
  go_wp2
  go_loopg [5, 6] n (fun kq v5 v6 wr => ∃ i j : Nat, v5 = .int .i64 (i : Int) ∧ v6 = .int .i64 (j : Int) ∧ Aside0 (i ≤ r ∧ r ≤ j ∧ j ≤ n ∧ j ≤ i + kq) ∧ Aside0 (Below w.heap.size w wr))
  case atStart => exact ⟨0, n, rfl, rfl, ⟨Nat.zero_le _, hr, Nat.le_refl _, by omega⟩, ⟨Below.refl _ _⟩⟩
  case round =>
    obtain ⟨i, j, rfl, rfl, HI, HB⟩ := hrel
    by_cases hij : i < j
    · have hb : decide ((i : Int) < (j : Int)) = true := decide_eq_true (by omega)
      cases gk with
      | zero => exact absurd HI.out.2.2.2 (by omega)
      | succ k1 =>
        have hw1 : wrap64 ((i : Int) + (j : Int)) = ((i + j : Nat) : Int) := by have := HI.out; unfold wrap64; omega
        obtain ⟨m, hm⟩ : ∃ m, m = (i + j) / 2 := ⟨_, rfl⟩
        have hmw : wrap64 (IntKind.u64.wrap ((i : Int) + (j : Int)) / 2) = (m : Int) := by
          have := HI.out
          rw [IntKind.wrap_u64]
          unfold wrap64
          omega
        have hm1 : wrap64 ((m : Int) + 1) = ((m + 1 : Nat) : Int) := by have := HI.out; unfold wrap64; omega
        have hmij : i ≤ m ∧ m < j := by omega
        have hcm := HC.out m wr (by have := HI.out; omega) HB.out
        have HCM := Aside0.mk hcm
        have HM := Aside0.mk hmij
        clear hcm hmij hm
        go_wp2_with fail
        refine HCM.out.mono ?_
        rintro e W2 ⟨rfl, hb2⟩
        have HB2 := Aside0.mk hb2
        clear hb2
        obtain ⟨pm, hpm⟩ : ∃ b, p m = b := ⟨_, rfl⟩
        have HPM := Aside0.mk hpm
        rw [hpm]
        clear hpm
        cases pm with
        | true =>
          have hrm : r ≤ m := by
            by_cases h : r ≤ m
            · exact h
            · have := h0 m (by omega); rw [HPM.out] at this; cases this
          go_wp2
          go_roundg k1
          case measure => exact Nat.lt_succ_self _
          case rel => exact ⟨i, m, rfl, rfl, ⟨HI.out.1, hrm, by have := HI.out; have := HM.out; omega, by have := HI.out; have := HM.out; omega⟩, ⟨below_step HB.out HB2.out⟩⟩
        | false =>
          have hrm : m + 1 ≤ r := by
            by_cases h : m + 1 ≤ r
            · exact h
            · have := h1 m (by omega) (by have := HI.out; have := HM.out; omega); rw [HPM.out] at this; cases this
          go_wp2
          go_roundg k1
          case measure => exact Nat.lt_succ_self _
          case rel => exact ⟨m + 1, j, rfl, rfl, ⟨hrm, HI.out.2.1, HI.out.2.2.1, by have := HI.out; have := HM.out; omega⟩, ⟨below_step HB.out HB2.out⟩⟩
    · have hb : decide ((i : Int) < (j : Int)) = false := decide_eq_false (by omega)
      have hir : i = r := by have := HI.out; omega
      subst hir
      go_wp2
      go_ret
      exact ⟨rfl, HB.out⟩
end Go.Proofs.YtjcjfghcahbbmaaG

end

section
set_option linter.unusedVariables false
set_option linter.unusedSimpArgs false
namespace Go.Proofs.YtjcjfghcahbbmaaG
open Go Go.RowKit Go.Proofs.YtjcjfghcahbbmaaR Go.Proofs.YtjcjfghcahbbmaaL Go.Proofs.Ytjcjfghcahbbmaa.P Go.Proofs.YtjcjfghcahbbmaaW.PrintWords Go.Proofs.YtjcjfghcahbbmaaW.PrintMore
attribute [local go_sem] Oper.semAt_some

theorem tw_lt {α : Type} (f : α → Bool) : ∀ (l : List α) (i : Nat), i < (l.takeWhile f).length → ∃ x, l[i]? = some x ∧ f x = true
  | [], i, h => by simp at h
  | a :: l, i, h => by
    rw [List.takeWhile_cons] at h
    by_cases ha : f a = true
    · rw [if_pos ha] at h
      cases i with
      | zero => exact ⟨a, rfl, ha⟩
      | succ i =>
        obtain ⟨x, h1, h2⟩ := tw_lt f l i (by simpa using h)
        exact ⟨x, by simpa using h1, h2⟩
    · rw [if_neg ha] at h
      simp at h
theorem tw_le {α : Type} (f : α → Bool) (l : List α) : (l.takeWhile f).length ≤ l.length := (List.takeWhile_sublist f).length_le
theorem tw_at {α : Type} (f : α → Bool) : ∀ (l : List α) (h : (l.takeWhile f).length < l.length), f l[(l.takeWhile f).length] = false
  | [], h => by simp at h
  | a :: l, h => by
    by_cases ha : f a = true
    · have e : (a :: l).takeWhile f = a :: l.takeWhile f := by rw [List.takeWhile_cons, if_pos ha]
      have h2 : (l.takeWhile f).length < l.length := by rw [e] at h; simpa using h
      have := tw_at f l h2
      simp only [e, List.length_cons, List.getElem_cons_succ]
      exact this
    · have e : (a :: l).takeWhile f = [] := by rw [List.takeWhile_cons, if_neg ha]
      simp only [e, List.length_nil, List.getElem_cons_zero]
      exact Bool.eq_false_iff.2 ha
def aheadB (x : Ik) (e : En) : Bool := decide (cmpI e.f0 x < 0)
def seekN (l : List En) (x : Ik) : Nat := (l.takeWhile (aheadB x)).length
theorem rises_tail {a : En} {l : List En} (h : risesB (a :: l) = true) : risesB l = true := by
  cases l with
  | nil => rfl
  | cons b r => rw [rises_two, Bool.and_eq_true] at h; exact h.2
theorem rises_first : ∀ (l : List En) (a : En), risesB (a :: l) = true → ∀ e ∈ l, cmpI a.f0 e.f0 < 0
  | [], a, _, e, he => by cases he
  | b :: r, a, h, e, he => by
    rw [rises_two, Bool.and_eq_true, decide_eq_true_eq] at h
    rcases List.mem_cons.1 he with rfl | he
    · exact h.1
    · have h1 := rises_first r b h.2 e he
      have h2 := cmpI_trans (x := a.f0) (y := b.f0) (z := e.f0) (by omega) (by omega)
      by_cases h3 : cmpI a.f0 e.f0 = 0
      · obtain ⟨q1, q2, q3⟩ := (cmpI_zero _ _).1 h3
        have h4 : a.f0 = e.f0 := by
          generalize a.f0 = u at *
          generalize e.f0 = v at *
          cases u; cases v; simp_all
        have h5 := cmpI_neg b.f0 a.f0
        rw [h4] at h5 h
        omega
      · omega
theorem rises_at : ∀ (l : List En), risesB l = true → ∀ (i j : Nat) (hi : i < j) (hj : j < l.length), cmpI (l[i]).f0 (l[j]).f0 < 0
  | [], _, i, j, hi, hj => by simp at hj
  | a :: l, h, 0, j + 1, hi, hj => by
    have hj' : j < l.length := by simpa using hj
    simp only [List.getElem_cons_zero, List.getElem_cons_succ]
    exact rises_first l a h _ (List.getElem_mem hj')
  | a :: l, h, i + 1, j + 1, hi, hj => by
    have hj' : j < l.length := by simpa using hj
    simp only [List.getElem_cons_succ]
    exact rises_at l (rises_tail h) i j (by omega) hj'
theorem cmpI_down {x y k : Ik} (h : cmpI x y < 0) (h2 : ¬ cmpI x k < 0) : ¬ cmpI y k < 0 := by
  intro h3
  have h4 := cmpI_trans (x := x) (y := y) (z := k) (by omega) (by omega)
  have h5 : cmpI x k = 0 := by omega
  obtain ⟨q1, q2, q3⟩ := (cmpI_zero _ _).1 h5
  have h6 : x = k := by cases x; cases k; simp_all
  subst h6
  have := cmpI_neg x y
  omega
theorem seek_at {l : List En} {x : Ik} (h : risesB l = true) {i : Nat} (hi : seekN l x ≤ i) (hl : i < l.length) : aheadB x l[i] = false := by
  have h0 : seekN l x < l.length := by omega
  have h1 := tw_at (aheadB x) l h0
  by_cases he : seekN l x = i
  · subst he; exact h1
  · have h2 := rises_at l h (seekN l x) i (by omega) hl
    unfold aheadB at h1 ⊢
    exact decide_eq_false (cmpI_down h2 (of_decide_eq_false h1))
theorem seek_lt {l : List En} {x : Ik} {i : Nat} (hi : i < seekN l x) (hl : i < l.length) : aheadB x l[i] = true := by
  obtain ⟨y, h1, h2⟩ := tw_lt (aheadB x) l i hi
  rw [List.getElem?_eq_getElem hl] at h1
  rw [Option.some.inj h1]
  exact h2

abbrev ikBx (x : Ik) : Obj := .cells #[.string x.f0, .int .u64 x.f1, .int .u8 x.f2] 50
set_option maxRecDepth 100000 in
set_option maxHeartbeats 2000000 in
theorem seek1_calls (b b' : Nat) (A0 : Option Addr) (c0 : Nat) (l : List En) (x : Ik) (W : World) (h0 : W.heap[b]? = some (.cells #[.slice A0 l.length c0] 48)) (h1 : W.heap[b']? = some (ikBx x)) (hC : Kd.C k59 W A0 l.length l) (i : Nat) (hi : i < l.length) :
    Calls Try.prog 62 #[.int .i64 i, .pointer (some ⟨b, 0, none⟩), .pointer (some ⟨b', 0, none⟩)] W fun e W' => e = .returned (.bool (!(aheadB x l[i]))) ∧ Below W.heap.size W W' := by
  have hu := Try.underlying59
  have hu2 := Try.underlying50
  have hc0 := box_cell h0
  have hk0 : W.cell? ⟨b', 0, none⟩ = some (.string x.f0) := (blk_cell h1 0).trans rfl
  have hk1 : W.cell? ⟨b', 1, none⟩ = some (.int .u64 x.f1) := (blk_cell h1 1).trans rfl
  have hk2 : W.cell? ⟨b', 2, none⟩ = some (.int .u8 x.f2) := (blk_cell h1 2).trans rfl
  obtain ⟨ad, he, hx0, hx1, hx2, hx3⟩ := at_T59 hC (i : Int) (by omega) (by omega)
  subst he
  have hrd : rd_T59 l (i : Int) = l[i] := by
    show l.getD ((i : Int)).toNat _ = _
    rw [Int.toNat_natCast, List.getD_eq_getElem?_getD, List.getElem?_eq_getElem hi]
    rfl
  rw [hrd] at hx0 hx1 hx2 hx3
  have hm := hC.2.1
  simp only [Int.toNat_natCast] at hx0 hx1 hx2 hx3
  obtain ⟨y, hy⟩ : ∃ y, y = l[i] := ⟨_, rfl⟩
  rw [← hy] at hx0 hx1 hx2 hx3 ⊢
  have hr : (!(aheadB x y)) = decide (cmpI y.f0 x ≥ 0) := by
    unfold aheadB
    by_cases h : cmpI y.f0 x < 0
    · rw [decide_eq_true h, decide_eq_false (by omega)]; rfl
    · rw [decide_eq_false h, decide_eq_true (by omega)]; rfl
  rw [hr]
  have HCM : Aside0 (ikey_Compare.f 4 y.f0.f0 y.f0.f1 y.f0.f2 x.f0 x.f1 x.f2 = some (cmpI y.f0 x)) := ⟨compare_f 0 y.f0 x⟩
  obtain ⟨cm, hcm⟩ : ∃ cm, cm = cmpI y.f0 x := ⟨_, rfl⟩
  rw [← hcm] at HCM ⊢
  clear h0 h1 hC hrd hy hr hcm
  go_enter Try.func62, Try.ntmps62
  go_wp2
  go_region_law (go_simp; go_at_call 32; (with_reducible refine (ikey_Compare.calls 4 y.f0.f0 y.f0.f1 y.f0.f2 x.f0 x.f1 x.f2 cm _ HCM.out).mono ?_); rintro e w1 ⟨rfl, hd⟩; have HD := Aside0.mk hd; clear hd hk0 hk1 hk2 hx0 hx1 hx2 hx3 hc0)
  all_goals
    go_wp2
    go_ret
    exact ⟨rfl, below_then (below_drew (Below.refl _ _)) (Nat.le_refl _) HD.out⟩

open Classical in
/-- What bytes say, told once. -/
noncomputable def parseG (raw : List Int) : List En × Int := if h : ∃ l : List En, okEs l = true ∧ (∀ e ∈ l, WfN e) ∧ raw = formB l then (h.choose, 0) else ([], 70)
theorem parseG_form {l : List En} (hk : okEs l = true) (hw : ∀ e ∈ l, WfN e) : parseG (formB l) = (l, 0) := by
  have h : ∃ l' : List En, okEs l' = true ∧ (∀ e ∈ l', WfN e) ∧ formB l = formB l' := ⟨l, hk, hw, rfl⟩
  unfold parseG
  rw [dif_pos h]
  obtain ⟨q1, q2, q3⟩ := h.choose_spec
  rw [← formB_inj hk hw q1 q2 q3]
theorem parseG_any (raw : List Int) (hb : By raw) (hl : raw.length ≤ 1000000) : Ev (fun k => block_Parse.f k raw) (parseG raw) ∧ ((okEs (parseG raw).1 = true ∧ (∀ e ∈ (parseG raw).1, WfN e) ∧ raw = formB (parseG raw).1 ∧ (parseG raw).2 = 0) ∨ parseG raw = ([], 70)) := by
  rcases bparse_any raw hb hl with ⟨l, h1, h2, rfl, h3⟩ | h3
  · rw [parseG_form h1 h2]
    exact ⟨h3, .inl ⟨h1, h2, rfl, rfl⟩⟩
  · have hno : ¬ ∃ l : List En, okEs l = true ∧ (∀ e ∈ l, WfN e) ∧ raw = formB l := by
      rintro ⟨l, h1, h2, rfl⟩
      have := Ev.uniq h3 (bparse_form h1 h2)
      exact absurd (Prod.mk.inj this).2 (by decide)
    have : parseG raw = ([], 70) := by unfold parseG; rw [dif_neg hno]
    rw [this]
    exact ⟨h3, .inr rfl⟩
def zeroE : En := ⟨⟨⟨#[]⟩, 0, 0⟩, ⟨#[]⟩⟩
def seekR (t : List En × Int) (x : Ik) : En × Bool × Int := if t.2 = 0 then (if seekN t.1 x < t.1.length then (t.1.getD (seekN t.1 x) zeroE, true, 0) else (zeroE, false, 0)) else (zeroE, false, t.2)
open Classical in
noncomputable def block_Seek.f (raw : List Int) (a : ByteArray) (b c : Int) : Option (ByteArray × Int × Int × ByteArray × Bool × Int) :=
  if By raw ∧ raw.length ≤ 1000000 then some ((seekR (parseG raw) ⟨a, b, c⟩).1.f0.f0, (seekR (parseG raw) ⟨a, b, c⟩).1.f0.f1, (seekR (parseG raw) ⟨a, b, c⟩).1.f0.f2, (seekR (parseG raw) ⟨a, b, c⟩).1.f1, (seekR (parseG raw) ⟨a, b, c⟩).2.1, (seekR (parseG raw) ⟨a, b, c⟩).2.2) else none
def seekP (l : List En) (x : Ik) (i : Nat) : Bool := match l[i]? with | none => true | some e => !(aheadB x e)
/-- sort.Search in Seek. -/
theorem seek_search (b b' : Nat) (A0 : Option Addr) (c0 : Nat) (l : List En) (x : Ik) (W : World) (h0 : W.heap[b]? = some (.cells #[.slice A0 l.length c0] 48)) (h1 : W.heap[b']? = some (ikBx x)) (hC : Kd.C k59 W A0 l.length l) (hr : risesB l = true) (hl : l.length ≤ 1000000) :
    Calls Try.prog 61 #[.int .i64 l.length, .func (.func 62) #[] #[.pointer (some ⟨b, 0, none⟩), .pointer (some ⟨b', 0, none⟩)]] W fun e w' => e = .returned (.int .i64 (seekN l x)) ∧ Below W.heap.size W w' := by
  refine search_calls l.length (seekN l x) 62 _ (seekP l x) W (by omega) (tw_le _ l) (fun i hi => ?_) (fun i hi hl => ?_) (enters_of Try.func62 (by kernel_rfl) rfl) (fun i W2 hi hB2 => ?_)
  · have hle := tw_le (aheadB x) l
    have hlt : i < l.length := by unfold seekN at hi; omega
    unfold seekP
    rw [List.getElem?_eq_getElem hlt]
    simp only
    rw [seek_lt hi hlt]
    rfl
  · unfold seekP
    rw [List.getElem?_eq_getElem hl]
    simp only
    rw [seek_at hr hi hl]
    rfl
  · have := seek1_calls b b' A0 c0 l x W2 ((hB2.block _ (blk_lt h0)).trans h0) ((hB2.block _ (blk_lt h1)).trans h1) (Kd.C_below hC hB2) i hi
    unfold seekP
    rw [List.getElem?_eq_getElem hi]
    exact this
set_option maxRecDepth 100000 in
set_option maxHeartbeats 4000000 in
theorem seek_calls (A0 : Option Addr) (c0 : Nat) (raw : List Int) (x : Ik) (w : World) (hr0 : Kd.C (Kd.int .u8) w A0 raw.length raw) (hc0 : raw.length ≤ c0) (l : List En) (er : Int) (kp : Nat) (hp : block_Parse.f kp raw = some (l, er)) (he : er = 0 ∨ er = 70 ∧ l = []) (hr : risesB l = true) (hl : l.length ≤ 1000) :
    Calls Try.prog 28 #[.slice A0 raw.length c0, .agg #[.string x.f0, .int .u64 x.f1, .int .u8 x.f2]] w fun e w' => e = .returned (.tuple #[.agg #[.string (seekR (l, er) x).1.f0.f0, .int .u64 (seekR (l, er) x).1.f0.f1, .int .u8 (seekR (l, er) x).1.f0.f2, .string (seekR (l, er) x).1.f1], .bool (seekR (l, er) x).2.1, .int .i64 (seekR (l, er) x).2.2]) ∧ Below w.heap.size w w' := by
  have hu := Try.underlying59
  have hu2 := Try.underlying50
  have hkb := World.alloc_heap_new w (ikBx x)
  have hrb := World.alloc_heap_new (w.alloc (ikBx x)) (enBx zeroE)
  rw [World.size_alloc] at hrb
  have hkb2 : ((w.alloc (ikBx x)).alloc (enBx zeroE)).heap[w.heap.size]? = some (ikBx x) := (Below.heap_alloc _ _ _ (by simp)).trans hkb
  have hB0 : Below w.heap.size w ((w.alloc (ikBx x)).alloc (enBx zeroE)) := below_alloc (below_alloc (Below.refl _ _) _) _
  have HKB := Aside0.mk hkb2
  have HRB := Aside0.mk hrb
  have HB0 := Aside0.mk hB0
  have HPC := Aside0.mk (block_Parse.calls kp A0 c0 raw l er _ (Kd.C_below hr0 hB0) hc0 hp)
  have HRS := Aside0.mk hr
  have HLL := Aside0.mk hl
  clear hkb hrb hkb2 hB0 hr0 hc0 hp hr hl
  go_enter Try.func28, Try.ntmps28
  go_upto_region 2 with (go_at_call 24; refine HPC.out.mono ?_; rintro e w1 ⟨v1, rfl, hv, hd⟩; obtain ⟨A1, c1, e1⟩ := Kd.R_slice hv; subst e1; have HV1 := Aside0.mk hv; have HD1 := Aside0.mk hd; clear hv hd)
  obtain ⟨W2, hW2⟩ : ∃ W2, W2 = w1.alloc (.cells #[.slice A1 l.length c1] 48) := ⟨_, rfl⟩
  rw [show w1.alloc (.cells #[.slice A1 l.length c1] 48) = W2 from hW2.symm]
  have hlb : W2.heap[w1.heap.size]? = some (.cells #[.slice A1 l.length c1] 48) := by rw [hW2]; exact World.alloc_heap_new w1 _
  have hd2 : Below w1.heap.size w1 W2 := by rw [hW2]; exact below_alloc (Below.refl _ _) _
  have hd02 : Below ((w.alloc (ikBx x)).alloc (enBx zeroE)).heap.size ((w.alloc (ikBx x)).alloc (enBx zeroE)) W2 := below_then HD1.out HD1.out.size hd2
  have hkb2 := (hd02.block _ (blk_lt HKB.out)).trans HKB.out
  have HC2 := Aside0.mk (Kd.C_below (Kd.R_reads' HV1.out).2.2 hd2)
  have hz := box_cell hlb
  have HSC := Aside0.mk (seek_search w1.heap.size w.heap.size A1 c1 l x W2 hlb hkb2 HC2.out HRS.out (by have := HLL.out; omega))
  have HLB := Aside0.mk hlb
  have HRB2 := Aside0.mk ((hd02.block _ (blk_lt HRB.out)).trans HRB.out)
  have HD2 := Aside0.mk (below_then HB0.out HB0.out.size hd02)
  clear hW2 hlb hd2 hd02 hkb2
  go_upto_region 3 with (go_at_call 61; refine HSC.out.mono ?_; rintro e w3 ⟨rfl, hd⟩; have HD3 := Aside0.mk (below_then HD2.out HD2.out.size hd); have hz3 := box_cell ((hd.block _ (blk_lt HLB.out)).trans HLB.out); have HC3 := Aside0.mk (Kd.C_below HC2.out hd); have HR3 := Aside0.mk ((hd.block _ (blk_lt HRB2.out)).trans HRB2.out); clear hd hz)
  obtain ⟨sn, hsn⟩ : ∃ sn, sn = seekN l x := ⟨_, rfl⟩
  rw [← hsn]
  have hle := tw_le (aheadB x) l
  have hsl : sn ≤ l.length := by rw [hsn]; exact hle
  have HSN := Aside0.mk hsn
  clear hsn hle
  have hf0 := blk_frozen HR3.out 0
  have hf1 := blk_frozen HR3.out 1
  have hf2 := blk_frozen HR3.out 2
  have hf3 := blk_frozen HR3.out 3
  have hy0 : w3.cell? ⟨w.heap.size + 1, 0, none⟩ = some (.string ⟨#[]⟩) := (blk_cell HR3.out 0).trans rfl
  have hy1 : w3.cell? ⟨w.heap.size + 1, 1, none⟩ = some (.int .u64 0) := (blk_cell HR3.out 1).trans rfl
  have hy2 : w3.cell? ⟨w.heap.size + 1, 2, none⟩ = some (.int .u8 0) := (blk_cell HR3.out 2).trans rfl
  have hy3 : w3.cell? ⟨w.heap.size + 1, 3, none⟩ = some (.string ⟨#[]⟩) := (blk_cell HR3.out 3).trans rfl
  rcases he with rfl | ⟨rfl, rfl⟩
  · by_cases hat : sn = l.length
    · have e1 : ((sn : Int) == (l.length : Int)) = true := beq_iff_eq.2 (by omega)
      have HR : Aside0 (seekR (l, 0) x = (zeroE, false, 0)) := ⟨by
        unfold seekR
        rw [if_pos rfl, if_neg (by have := HSN.out; show ¬ seekN l x < l.length; omega)]⟩
      clear hat
      go_wp2
      refine bodyPost_ret (results_ctt rfl _ _ (w.heap.size + 1) 59 #[.string ⟨#[]⟩, .int .u64 0, .int .u8 0, .string ⟨#[]⟩] (0, 0) _ rfl (blk_put (cs' := #[.string ⟨#[]⟩, .int .u64 0, .int .u8 0, .string ⟨#[]⟩]) (blk_put (cs' := #[.string ⟨#[]⟩, .int .u64 0, .int .u8 0, .string ⟨#[]⟩]) (blk_put (cs' := #[.string ⟨#[]⟩, .int .u64 0, .int .u8 0, .string ⟨#[]⟩]) (blk_put (cs' := #[.string ⟨#[]⟩, .int .u64 0, .int .u8 0, .string ⟨#[]⟩]) HR3.out 0 _ rfl) 1 _ rfl) 2 _ rfl) 3 _ rfl) hu rfl (by kernel_rfl)) rfl ?_
      exact ⟨by rw [HR.out]; rfl, ((((HD3.out.setCell (p := ⟨w.heap.size + 1, 0, none⟩) (by show w.heap.size ≤ w.heap.size + 1; omega) _).setCell (p := ⟨w.heap.size + 1, 1, none⟩) (by show w.heap.size ≤ w.heap.size + 1; omega) _).setCell (p := ⟨w.heap.size + 1, 2, none⟩) (by show w.heap.size ≤ w.heap.size + 1; omega) _).setCell (p := ⟨w.heap.size + 1, 3, none⟩) (by show w.heap.size ≤ w.heap.size + 1; omega) _)⟩
    · have e1 : ((sn : Int) == (l.length : Int)) = false := beq_eq_false_iff_ne.2 (by omega)
      have hlt : sn < l.length := by omega
      obtain ⟨ad, he, hx0, hx1, hx2, hx3⟩ := at_T59 HC3.out (sn : Int) (by omega) (by omega)
      subst he
      have hrd : rd_T59 l (sn : Int) = l[sn] := by
        show l.getD ((sn : Int)).toNat _ = _
        rw [Int.toNat_natCast, List.getD_eq_getElem?_getD, List.getElem?_eq_getElem hlt]
        rfl
      obtain ⟨e, hee⟩ : ∃ e, e = l[sn] := ⟨_, rfl⟩
      rw [hrd, ← hee] at hx0 hx1 hx2 hx3
      simp only [Int.toNat_natCast] at hx0 hx1 hx2 hx3
      have HR : Aside0 (seekR (l, 0) x = (e, true, 0)) := ⟨by
        unfold seekR
        have hs := HSN.out
        rw [if_pos rfl, if_pos (by show seekN l x < l.length; omega)]
        show (l.getD (seekN l x) zeroE, true, (0 : Int)) = _
        rw [← hs, List.getD_eq_getElem?_getD, List.getElem?_eq_getElem hlt, hee]
        rfl⟩
      have hm := HC3.out.2.1
      clear hat hrd hee
      go_wp2
      refine bodyPost_ret (results_ctt rfl _ _ (w.heap.size + 1) 59 #[.string e.f0.f0, .int .u64 e.f0.f1, .int .u8 e.f0.f2, .string e.f1] (0, 0) _ rfl (blk_put (cs' := #[.string e.f0.f0, .int .u64 e.f0.f1, .int .u8 e.f0.f2, .string e.f1]) (blk_put (cs' := #[.string e.f0.f0, .int .u64 e.f0.f1, .int .u8 e.f0.f2, .string ⟨#[]⟩]) (blk_put (cs' := #[.string e.f0.f0, .int .u64 e.f0.f1, .int .u8 0, .string ⟨#[]⟩]) (blk_put (cs' := #[.string e.f0.f0, .int .u64 0, .int .u8 0, .string ⟨#[]⟩]) HR3.out 0 _ rfl) 1 _ rfl) 2 _ rfl) 3 _ rfl) hu rfl (by kernel_rfl)) rfl ?_
      exact ⟨by rw [HR.out]; rfl, ((((HD3.out.setCell (p := ⟨w.heap.size + 1, 0, none⟩) (by show w.heap.size ≤ w.heap.size + 1; omega) _).setCell (p := ⟨w.heap.size + 1, 1, none⟩) (by show w.heap.size ≤ w.heap.size + 1; omega) _).setCell (p := ⟨w.heap.size + 1, 2, none⟩) (by show w.heap.size ≤ w.heap.size + 1; omega) _).setCell (p := ⟨w.heap.size + 1, 3, none⟩) (by show w.heap.size ≤ w.heap.size + 1; omega) _)⟩
  · have HR : Aside0 (seekR (([] : List En), 70) x = (zeroE, false, 70)) := ⟨by
      unfold seekR
      rw [if_neg (by decide)]⟩
    go_wp2
    refine bodyPost_ret (results_ctt rfl _ _ (w.heap.size + 1) 59 #[.string ⟨#[]⟩, .int .u64 0, .int .u8 0, .string ⟨#[]⟩] (0, 0) _ rfl (blk_put (cs' := #[.string ⟨#[]⟩, .int .u64 0, .int .u8 0, .string ⟨#[]⟩]) (blk_put (cs' := #[.string ⟨#[]⟩, .int .u64 0, .int .u8 0, .string ⟨#[]⟩]) (blk_put (cs' := #[.string ⟨#[]⟩, .int .u64 0, .int .u8 0, .string ⟨#[]⟩]) (blk_put (cs' := #[.string ⟨#[]⟩, .int .u64 0, .int .u8 0, .string ⟨#[]⟩]) HR3.out 0 _ rfl) 1 _ rfl) 2 _ rfl) 3 _ rfl) hu rfl (by kernel_rfl)) rfl ?_
    exact ⟨by rw [HR.out]; rfl, ((((HD3.out.setCell (p := ⟨w.heap.size + 1, 0, none⟩) (by show w.heap.size ≤ w.heap.size + 1; omega) _).setCell (p := ⟨w.heap.size + 1, 1, none⟩) (by show w.heap.size ≤ w.heap.size + 1; omega) _).setCell (p := ⟨w.heap.size + 1, 2, none⟩) (by show w.heap.size ≤ w.heap.size + 1; omega) _).setCell (p := ⟨w.heap.size + 1, 3, none⟩) (by show w.heap.size ≤ w.heap.size + 1; omega) _)⟩
theorem block_Seek.calls (A0 : Option Addr) (c0 : Nat) (l0 : List Int) (a1_0 : ByteArray) (a1_1 a1_2 : Int) (r1 : ByteArray) (r2 r3 : Int) (r4 : ByteArray) (r5 : Bool) (r6 : Int) (w : World) (hr0 : Kd.C (Kd.int .u8) w A0 l0.length l0) (hc0 : l0.length ≤ c0) (h : block_Seek.f l0 a1_0 a1_1 a1_2 = some (r1, r2, r3, r4, r5, r6)) :
    Calls Try.prog 28 #[.slice A0 l0.length c0, .agg #[.string a1_0, .int .u64 a1_1, .int .u8 a1_2]] w fun e w' => e = .returned (.tuple #[.agg #[.string r1, .int .u64 r2, .int .u8 r3, .string r4], .bool r5, .int .i64 r6]) ∧ Below w.heap.size w w' := by
  unfold block_Seek.f at h
  by_cases hw : By l0 ∧ l0.length ≤ 1000000
  · rw [if_pos hw] at h
    simp only [Option.some.injEq, Prod.mk.injEq] at h
    obtain ⟨rfl, rfl, rfl, rfl, rfl, rfl⟩ := h
    obtain ⟨h1, h2⟩ := parseG_any l0 hw.1 hw.2
    obtain ⟨kp, hp⟩ := Ev.rounds h1
    refine seek_calls A0 c0 l0 ⟨a1_0, a1_1, a1_2⟩ w hr0 hc0 (parseG l0).1 (parseG l0).2 kp hp ?_ ?_ ?_
    · rcases h2 with ⟨_, _, _, h2⟩ | h2
      · exact .inl h2
      · rw [h2]; exact .inr ⟨rfl, rfl⟩
    · rcases h2 with ⟨h2, _⟩ | h2
      · exact (okEs_parts h2).2.2.2
      · rw [h2]; rfl
    · rcases h2 with ⟨h2, _⟩ | h2
      · have := (okEs_parts h2).2.1; omega
      · rw [h2]; simp
  · rw [if_neg hw] at h
    cases h
end Go.Proofs.YtjcjfghcahbbmaaG

end

section
namespace Go.Proofs.Ytjcjfghcahbbmaa.P
open Go.RowKit Go.Proofs.YtjcjfghcahbbmaaG Go.Proofs.YtjcjfghcahbbmaaW.PrintWords Go.Proofs.YtjcjfghcahbbmaaW.PrintLast Go.Proofs.YtjcjfghcahbbmaaW.PrintMore
attribute [local go_sem] str_gtr str_geq str_leq max2_int min2_int max_two min_two max_three min_three max_four min_four   -- for this text's walks alone
set_option linter.unusedVariables false
set_option linter.unusedSimpArgs false

attribute [local go_sem high] eqA59
noncomputable def ratlinelaw07_awake.f (k : Nat)  : Option (Bool):=(ratlinelaw07_key.f (⟨#[97]⟩ : ByteArray) 5 1).bind fun bt222=>((ratlinelaw07_key.f (⟨#[97,98]⟩ : ByteArray) 4 0).bind fun bt225=>((some (([(⟨(⟨bt222.1,bt222.2.1,bt222.2.2⟩ : S50),(⟨#[120]⟩ : ByteArray)⟩ : S59),(⟨(⟨bt225.1,bt225.2.1,bt225.2.2⟩ : S50),(⟨#[]⟩ : ByteArray)⟩ : S59)] : List (S59)) : List (S59))).bind fun y228=>((some (([0,1,97,11,1,120,1,1,98,8,0,0,0,0,1,0,0,0] : List Int) : List Int)).bind fun y231=>((block_Build.f y228).bind fun bt234=>((block_Parse.f k y231).bind fun bt238=>((ratlinelaw07_key.f (⟨#[97]⟩ : ByteArray) 6 1).bind fun bt242=>((block_Seek.f y231 bt242.1 bt242.2.1 bt242.2.2).bind fun bt245=>((ratlinelaw07_key.f (⟨#[97]⟩ : ByteArray) 4 1).bind fun bt252=>((block_Seek.f y231 bt252.1 bt252.2.1 bt252.2.2).bind fun bt255=>((ratlinelaw07_key.f (⟨#[97,98]⟩ : ByteArray) 3 1).bind fun bt262=>((block_Seek.f y231 bt262.1 bt262.2.1 bt262.2.2).bind fun bt265=>((block_Build.f ([] : List (S59))).bind fun bt272=>((block_Parse.f k (([0,1,97,11,1,120,0,2,97,98,8,0,0,0,0,1,0,0,0] : List Int))).bind fun bt279=>(if (wrap64 ((wrap64 ((wrap64 ((wrap64 (bt234.2 + bt238.2)) + bt245.2.2.2.2.2)) + bt255.2.2.2.2.2)) + bt265.2.2.2.2.2)) = 0 then ((ratlinelaw02_Same.f bt234.1 y231).bind fun t283=>(if t283 = true then ((ratlinelaw04_Entries.f k bt238.1 y228).bind fun t284=>(if t284 = true then (if bt245.2.2.2.2.1 = true then (if 0 < (y228.length : Int) then (if ((bt245.1.toList == (((rd_T59 y228 0).f0.f0).toList) && (bt245.2.1 == ((rd_T59 y228 0).f0.f1) && (bt245.2.2.1 == ((rd_T59 y228 0).f0.f2)))) && (bt245.2.2.2.1.toList == (((rd_T59 y228 0).f1).toList))) = true then (if bt255.2.2.2.2.1 = true then (if 1 < (y228.length : Int) then (if ((bt255.1.toList == (((rd_T59 y228 1).f0.f0).toList) && (bt255.2.1 == ((rd_T59 y228 1).f0.f1) && (bt255.2.2.1 == ((rd_T59 y228 1).f0.f2)))) && (bt255.2.2.2.1.toList == (((rd_T59 y228 1).f1).toList))) = true then (if bt265.2.2.2.2.1 = true then (none) else (if ((bt265.1.toList == ([] : List UInt8) && (bt265.2.1 == 0 && (bt265.2.2.1 == 0))) && (bt265.2.2.2.1.toList == ([] : List UInt8))) = true then (if bt272.2 = 70 then (some (bt279.2 == 70)) else (none)) else (none))) else (none)) else (none)) else (none)) else (none)) else (none)) else (none)) else (none))) else (none))) else (none)))))))))))))))
def ratlinelaw07_awake.T10 : Bool × List (List Nat × List Nat):=(true,[([],[]),([],[]),([0,1],[0,1]),([],[]),([2,3],[2,3]),([],[]),([4,5],[4,5]),([],[]),([6,7],[6,7]),([8],[8]),([9],[9]),([10],[10]),([10],[10]),([11,12,10,10],[10,11,12]),([10,13],[10,13]),([14,13],[14]),([15],[15]),([15],[15]),([16,17,15,15],[15,16,17]),([15,18],[15,18]),([19,18],[19]),([20],[20]),([20,21],[20,21]),([22,20],[22]),([23],[23]),([23],[23]),([25,23],[23,25]),([26,23],[23,26]),([24,27,23],[23,24,27]),([23,28],[23,28]),([29,23],[29]),([30],[30]),([30,31],[30,31]),([32,30],[32]),([33],[33]),([33],[33]),([35,33],[33,35]),([36,33],[33,36]),([34,37,33],[33,34,37]),([33,38],[33,38]),([39,33],[39]),([40],[40]),([41,40],[40,41]),([40,42],[40,42]),([43,40],[43]),([44],[44]),([44],[44]),([45,46,44],[44,45,46]),([44,47],[44,47]),([48,44],[48]),([49],[49]),([50,49],[49,50]),([49,51],[49,51]),([52,49],[52]),([53],[53]),([54,53],[53,54]),([53,55],[53,55]),([56,53,0,1,2,3,4,5,6,7,8,9,10,11,12,13,14,15,16,17,18,19,20,21,22,23,24,25,26,27,28,29,30,31,32,33,34,35,36,37,38,39,40,41,42,43,44,45,46,47,48,49,50,51,52,53,54,55,56],[56])])
def ratlinelaw07_awake.B10 : List Nat:=[0,0,3,0,15,0,63,0,255,511,1023,2047,2047,8191,16383,32767,65535,65535,262143,524287,1048575,2097151,4194303,8388607,16777215,16777215,50331647,117440511,268435455,536870911,1073741823,2147483647,4294967295,8589934591,17179869183,17179869183,51539607551,120259084287,274877906943,549755813887,1099511627775,2199023255551,4398046511103,8796093022207,17592186044415,35184372088831,35184372088831,140737488355327,281474976710655,562949953421311,1125899906842623,2251799813685247,4503599627370495,9007199254740991,18014398509481983,36028797018963967,72057594037927935,144115188075855871]
theorem ratlinelaw07_awake.tab10 : rtab .any (opsOf Try.f21 10) = ratlinelaw07_awake.T10:=by kernel_rfl
theorem ratlinelaw07_awake.bits10 : waitsOk ratlinelaw07_awake.T10.2 ratlinelaw07_awake.B10 = true:=by kernel_rfl
set_option maxHeartbeats 8000000 in
set_option maxRecDepth 100000 in
theorem ratlinelaw07_awake.calls (k : Nat)  (r : Bool) (w : World) (h : ratlinelaw07_awake.f k  = some r) :
  Calls Try.prog 21 #[] w fun e w'=>e = .returned (.bool r) ∧ Below w.heap.size w w':=by
 have hu59:=Try.underlying59
 have HB:=Aside0.mk (Below.refl w.heap.size w)
 have H : ((ratlinelaw07_key.f (⟨#[97]⟩ : ByteArray) 5 1).bind fun bt222=>((ratlinelaw07_key.f (⟨#[97,98]⟩ : ByteArray) 4 0).bind fun bt225=>((some (([(⟨(⟨bt222.1,bt222.2.1,bt222.2.2⟩ : S50),(⟨#[120]⟩ : ByteArray)⟩ : S59),(⟨(⟨bt225.1,bt225.2.1,bt225.2.2⟩ : S50),(⟨#[]⟩ : ByteArray)⟩ : S59)] : List (S59)) : List (S59))).bind fun y228=>((some (([0,1,97,11,1,120,1,1,98,8,0,0,0,0,1,0,0,0] : List Int) : List Int)).bind fun y231=>((block_Build.f y228).bind fun bt234=>((block_Parse.f k y231).bind fun bt238=>((ratlinelaw07_key.f (⟨#[97]⟩ : ByteArray) 6 1).bind fun bt242=>((block_Seek.f y231 bt242.1 bt242.2.1 bt242.2.2).bind fun bt245=>((ratlinelaw07_key.f (⟨#[97]⟩ : ByteArray) 4 1).bind fun bt252=>((block_Seek.f y231 bt252.1 bt252.2.1 bt252.2.2).bind fun bt255=>((ratlinelaw07_key.f (⟨#[97,98]⟩ : ByteArray) 3 1).bind fun bt262=>((block_Seek.f y231 bt262.1 bt262.2.1 bt262.2.2).bind fun bt265=>((block_Build.f ([] : List (S59))).bind fun bt272=>((block_Parse.f k (([0,1,97,11,1,120,0,2,97,98,8,0,0,0,0,1,0,0,0] : List Int))).bind fun bt279=>(if (wrap64 ((wrap64 ((wrap64 ((wrap64 (bt234.2 + bt238.2)) + bt245.2.2.2.2.2)) + bt255.2.2.2.2.2)) + bt265.2.2.2.2.2)) = 0 then ((ratlinelaw02_Same.f bt234.1 y231).bind fun t283=>(if t283 = true then ((ratlinelaw04_Entries.f k bt238.1 y228).bind fun t284=>(if t284 = true then (if bt245.2.2.2.2.1 = true then (if 0 < (y228.length : Int) then (if ((bt245.1.toList == (((rd_T59 y228 0).f0.f0).toList) && (bt245.2.1 == ((rd_T59 y228 0).f0.f1) && (bt245.2.2.1 == ((rd_T59 y228 0).f0.f2)))) && (bt245.2.2.2.1.toList == (((rd_T59 y228 0).f1).toList))) = true then (if bt255.2.2.2.2.1 = true then (if 1 < (y228.length : Int) then (if ((bt255.1.toList == (((rd_T59 y228 1).f0.f0).toList) && (bt255.2.1 == ((rd_T59 y228 1).f0.f1) && (bt255.2.2.1 == ((rd_T59 y228 1).f0.f2)))) && (bt255.2.2.2.1.toList == (((rd_T59 y228 1).f1).toList))) = true then (if bt265.2.2.2.2.1 = true then (none) else (if ((bt265.1.toList == ([] : List UInt8) && (bt265.2.1 == 0 && (bt265.2.2.1 == 0))) && (bt265.2.2.2.1.toList == ([] : List UInt8))) = true then (if bt272.2 = 70 then (some (bt279.2 == 70)) else (none)) else (none))) else (none)) else (none)) else (none)) else (none)) else (none)) else (none)) else (none))) else (none))) else (none)))))))))))))))) = some r:=h
 clear h
 replace H:=Option.bind_eq_some_iff.mp H
 obtain ⟨⟨t222,t223,t224⟩,A10,H⟩:=H
 replace H : ((ratlinelaw07_key.f (⟨#[97,98]⟩ : ByteArray) 4 0).bind fun bt225=>((some (([(⟨(⟨t222,t223,t224⟩ : S50),(⟨#[120]⟩ : ByteArray)⟩ : S59),(⟨(⟨bt225.1,bt225.2.1,bt225.2.2⟩ : S50),(⟨#[]⟩ : ByteArray)⟩ : S59)] : List (S59)) : List (S59))).bind fun y228=>((some (([0,1,97,11,1,120,1,1,98,8,0,0,0,0,1,0,0,0] : List Int) : List Int)).bind fun y231=>((block_Build.f y228).bind fun bt234=>((block_Parse.f k y231).bind fun bt238=>((ratlinelaw07_key.f (⟨#[97]⟩ : ByteArray) 6 1).bind fun bt242=>((block_Seek.f y231 bt242.1 bt242.2.1 bt242.2.2).bind fun bt245=>((ratlinelaw07_key.f (⟨#[97]⟩ : ByteArray) 4 1).bind fun bt252=>((block_Seek.f y231 bt252.1 bt252.2.1 bt252.2.2).bind fun bt255=>((ratlinelaw07_key.f (⟨#[97,98]⟩ : ByteArray) 3 1).bind fun bt262=>((block_Seek.f y231 bt262.1 bt262.2.1 bt262.2.2).bind fun bt265=>((block_Build.f ([] : List (S59))).bind fun bt272=>((block_Parse.f k (([0,1,97,11,1,120,0,2,97,98,8,0,0,0,0,1,0,0,0] : List Int))).bind fun bt279=>(if (wrap64 ((wrap64 ((wrap64 ((wrap64 (bt234.2 + bt238.2)) + bt245.2.2.2.2.2)) + bt255.2.2.2.2.2)) + bt265.2.2.2.2.2)) = 0 then ((ratlinelaw02_Same.f bt234.1 y231).bind fun t283=>(if t283 = true then ((ratlinelaw04_Entries.f k bt238.1 y228).bind fun t284=>(if t284 = true then (if bt245.2.2.2.2.1 = true then (if 0 < (y228.length : Int) then (if ((bt245.1.toList == (((rd_T59 y228 0).f0.f0).toList) && (bt245.2.1 == ((rd_T59 y228 0).f0.f1) && (bt245.2.2.1 == ((rd_T59 y228 0).f0.f2)))) && (bt245.2.2.2.1.toList == (((rd_T59 y228 0).f1).toList))) = true then (if bt255.2.2.2.2.1 = true then (if 1 < (y228.length : Int) then (if ((bt255.1.toList == (((rd_T59 y228 1).f0.f0).toList) && (bt255.2.1 == ((rd_T59 y228 1).f0.f1) && (bt255.2.2.1 == ((rd_T59 y228 1).f0.f2)))) && (bt255.2.2.2.1.toList == (((rd_T59 y228 1).f1).toList))) = true then (if bt265.2.2.2.2.1 = true then (none) else (if ((bt265.1.toList == ([] : List UInt8) && (bt265.2.1 == 0 && (bt265.2.2.1 == 0))) && (bt265.2.2.2.1.toList == ([] : List UInt8))) = true then (if bt272.2 = 70 then (some (bt279.2 == 70)) else (none)) else (none))) else (none)) else (none)) else (none)) else (none)) else (none)) else (none)) else (none))) else (none))) else (none))))))))))))))) = some r:=H
 have A1:=Aside0.mk A10
 clear A10
 replace H:=Option.bind_eq_some_iff.mp H
 obtain ⟨⟨t225,t226,t227⟩,A20,H⟩:=H
 replace H : ((some (([(⟨(⟨t222,t223,t224⟩ : S50),(⟨#[120]⟩ : ByteArray)⟩ : S59),(⟨(⟨t225,t226,t227⟩ : S50),(⟨#[]⟩ : ByteArray)⟩ : S59)] : List (S59)) : List (S59))).bind fun y228=>((some (([0,1,97,11,1,120,1,1,98,8,0,0,0,0,1,0,0,0] : List Int) : List Int)).bind fun y231=>((block_Build.f y228).bind fun bt234=>((block_Parse.f k y231).bind fun bt238=>((ratlinelaw07_key.f (⟨#[97]⟩ : ByteArray) 6 1).bind fun bt242=>((block_Seek.f y231 bt242.1 bt242.2.1 bt242.2.2).bind fun bt245=>((ratlinelaw07_key.f (⟨#[97]⟩ : ByteArray) 4 1).bind fun bt252=>((block_Seek.f y231 bt252.1 bt252.2.1 bt252.2.2).bind fun bt255=>((ratlinelaw07_key.f (⟨#[97,98]⟩ : ByteArray) 3 1).bind fun bt262=>((block_Seek.f y231 bt262.1 bt262.2.1 bt262.2.2).bind fun bt265=>((block_Build.f ([] : List (S59))).bind fun bt272=>((block_Parse.f k (([0,1,97,11,1,120,0,2,97,98,8,0,0,0,0,1,0,0,0] : List Int))).bind fun bt279=>(if (wrap64 ((wrap64 ((wrap64 ((wrap64 (bt234.2 + bt238.2)) + bt245.2.2.2.2.2)) + bt255.2.2.2.2.2)) + bt265.2.2.2.2.2)) = 0 then ((ratlinelaw02_Same.f bt234.1 y231).bind fun t283=>(if t283 = true then ((ratlinelaw04_Entries.f k bt238.1 y228).bind fun t284=>(if t284 = true then (if bt245.2.2.2.2.1 = true then (if 0 < (y228.length : Int) then (if ((bt245.1.toList == (((rd_T59 y228 0).f0.f0).toList) && (bt245.2.1 == ((rd_T59 y228 0).f0.f1) && (bt245.2.2.1 == ((rd_T59 y228 0).f0.f2)))) && (bt245.2.2.2.1.toList == (((rd_T59 y228 0).f1).toList))) = true then (if bt255.2.2.2.2.1 = true then (if 1 < (y228.length : Int) then (if ((bt255.1.toList == (((rd_T59 y228 1).f0.f0).toList) && (bt255.2.1 == ((rd_T59 y228 1).f0.f1) && (bt255.2.2.1 == ((rd_T59 y228 1).f0.f2)))) && (bt255.2.2.2.1.toList == (((rd_T59 y228 1).f1).toList))) = true then (if bt265.2.2.2.2.1 = true then (none) else (if ((bt265.1.toList == ([] : List UInt8) && (bt265.2.1 == 0 && (bt265.2.2.1 == 0))) && (bt265.2.2.2.1.toList == ([] : List UInt8))) = true then (if bt272.2 = 70 then (some (bt279.2 == 70)) else (none)) else (none))) else (none)) else (none)) else (none)) else (none)) else (none)) else (none)) else (none))) else (none))) else (none)))))))))))))) = some r:=H
 have A2:=Aside0.mk A20
 clear A20
 obtain ⟨y228,hy228⟩ : ∃ y_ : List (S59),y_ = (([(⟨(⟨t222,t223,t224⟩ : S50),(⟨#[120]⟩ : ByteArray)⟩ : S59),(⟨(⟨t225,t226,t227⟩ : S50),(⟨#[]⟩ : ByteArray)⟩ : S59)] : List (S59))):=⟨_,rfl⟩
 replace H : ((some (([0,1,97,11,1,120,1,1,98,8,0,0,0,0,1,0,0,0] : List Int) : List Int)).bind fun y231=>((block_Build.f y228).bind fun bt234=>((block_Parse.f k y231).bind fun bt238=>((ratlinelaw07_key.f (⟨#[97]⟩ : ByteArray) 6 1).bind fun bt242=>((block_Seek.f y231 bt242.1 bt242.2.1 bt242.2.2).bind fun bt245=>((ratlinelaw07_key.f (⟨#[97]⟩ : ByteArray) 4 1).bind fun bt252=>((block_Seek.f y231 bt252.1 bt252.2.1 bt252.2.2).bind fun bt255=>((ratlinelaw07_key.f (⟨#[97,98]⟩ : ByteArray) 3 1).bind fun bt262=>((block_Seek.f y231 bt262.1 bt262.2.1 bt262.2.2).bind fun bt265=>((block_Build.f ([] : List (S59))).bind fun bt272=>((block_Parse.f k (([0,1,97,11,1,120,0,2,97,98,8,0,0,0,0,1,0,0,0] : List Int))).bind fun bt279=>(if (wrap64 ((wrap64 ((wrap64 ((wrap64 (bt234.2 + bt238.2)) + bt245.2.2.2.2.2)) + bt255.2.2.2.2.2)) + bt265.2.2.2.2.2)) = 0 then ((ratlinelaw02_Same.f bt234.1 y231).bind fun t283=>(if t283 = true then ((ratlinelaw04_Entries.f k bt238.1 y228).bind fun t284=>(if t284 = true then (if bt245.2.2.2.2.1 = true then (if 0 < (y228.length : Int) then (if ((bt245.1.toList == (((rd_T59 y228 0).f0.f0).toList) && (bt245.2.1 == ((rd_T59 y228 0).f0.f1) && (bt245.2.2.1 == ((rd_T59 y228 0).f0.f2)))) && (bt245.2.2.2.1.toList == (((rd_T59 y228 0).f1).toList))) = true then (if bt255.2.2.2.2.1 = true then (if 1 < (y228.length : Int) then (if ((bt255.1.toList == (((rd_T59 y228 1).f0.f0).toList) && (bt255.2.1 == ((rd_T59 y228 1).f0.f1) && (bt255.2.2.1 == ((rd_T59 y228 1).f0.f2)))) && (bt255.2.2.2.1.toList == (((rd_T59 y228 1).f1).toList))) = true then (if bt265.2.2.2.2.1 = true then (none) else (if ((bt265.1.toList == ([] : List UInt8) && (bt265.2.1 == 0 && (bt265.2.2.1 == 0))) && (bt265.2.2.2.1.toList == ([] : List UInt8))) = true then (if bt272.2 = 70 then (some (bt279.2 == 70)) else (none)) else (none))) else (none)) else (none)) else (none)) else (none)) else (none)) else (none)) else (none))) else (none))) else (none))))))))))))) = some r:=by first|(rw [hy228];with_reducible exact H)|(have H2_:=(Option.bind_some _ _).symm.trans H;rw [hy228];with_reducible exact H2_)|(have H2_:=(Option.bind_some _ _).symm.trans H;with_reducible exact H2_)|with_reducible exact H|(rw [hy228];exact H)|exact H
 have Ny228:=Aside0.mk hy228
 clear hy228
 obtain ⟨y231,hy231⟩ : ∃ y_ : List Int,y_ = (([0,1,97,11,1,120,1,1,98,8,0,0,0,0,1,0,0,0] : List Int)):=⟨_,rfl⟩
 replace H : ((block_Build.f y228).bind fun bt234=>((block_Parse.f k y231).bind fun bt238=>((ratlinelaw07_key.f (⟨#[97]⟩ : ByteArray) 6 1).bind fun bt242=>((block_Seek.f y231 bt242.1 bt242.2.1 bt242.2.2).bind fun bt245=>((ratlinelaw07_key.f (⟨#[97]⟩ : ByteArray) 4 1).bind fun bt252=>((block_Seek.f y231 bt252.1 bt252.2.1 bt252.2.2).bind fun bt255=>((ratlinelaw07_key.f (⟨#[97,98]⟩ : ByteArray) 3 1).bind fun bt262=>((block_Seek.f y231 bt262.1 bt262.2.1 bt262.2.2).bind fun bt265=>((block_Build.f ([] : List (S59))).bind fun bt272=>((block_Parse.f k (([0,1,97,11,1,120,0,2,97,98,8,0,0,0,0,1,0,0,0] : List Int))).bind fun bt279=>(if (wrap64 ((wrap64 ((wrap64 ((wrap64 (bt234.2 + bt238.2)) + bt245.2.2.2.2.2)) + bt255.2.2.2.2.2)) + bt265.2.2.2.2.2)) = 0 then ((ratlinelaw02_Same.f bt234.1 y231).bind fun t283=>(if t283 = true then ((ratlinelaw04_Entries.f k bt238.1 y228).bind fun t284=>(if t284 = true then (if bt245.2.2.2.2.1 = true then (if 0 < (y228.length : Int) then (if ((bt245.1.toList == (((rd_T59 y228 0).f0.f0).toList) && (bt245.2.1 == ((rd_T59 y228 0).f0.f1) && (bt245.2.2.1 == ((rd_T59 y228 0).f0.f2)))) && (bt245.2.2.2.1.toList == (((rd_T59 y228 0).f1).toList))) = true then (if bt255.2.2.2.2.1 = true then (if 1 < (y228.length : Int) then (if ((bt255.1.toList == (((rd_T59 y228 1).f0.f0).toList) && (bt255.2.1 == ((rd_T59 y228 1).f0.f1) && (bt255.2.2.1 == ((rd_T59 y228 1).f0.f2)))) && (bt255.2.2.2.1.toList == (((rd_T59 y228 1).f1).toList))) = true then (if bt265.2.2.2.2.1 = true then (none) else (if ((bt265.1.toList == ([] : List UInt8) && (bt265.2.1 == 0 && (bt265.2.2.1 == 0))) && (bt265.2.2.2.1.toList == ([] : List UInt8))) = true then (if bt272.2 = 70 then (some (bt279.2 == 70)) else (none)) else (none))) else (none)) else (none)) else (none)) else (none)) else (none)) else (none)) else (none))) else (none))) else (none)))))))))))) = some r:=by first|(rw [hy231];with_reducible exact H)|(have H2_:=(Option.bind_some _ _).symm.trans H;rw [hy231];with_reducible exact H2_)|(have H2_:=(Option.bind_some _ _).symm.trans H;with_reducible exact H2_)|with_reducible exact H|(rw [hy231];exact H)|exact H
 have Ny231:=Aside0.mk hy231
 clear hy231
 replace H:=Option.bind_eq_some_iff.mp H
 obtain ⟨⟨t234,t235⟩,A30,H⟩:=H
 replace H : ((block_Parse.f k y231).bind fun bt238=>((ratlinelaw07_key.f (⟨#[97]⟩ : ByteArray) 6 1).bind fun bt242=>((block_Seek.f y231 bt242.1 bt242.2.1 bt242.2.2).bind fun bt245=>((ratlinelaw07_key.f (⟨#[97]⟩ : ByteArray) 4 1).bind fun bt252=>((block_Seek.f y231 bt252.1 bt252.2.1 bt252.2.2).bind fun bt255=>((ratlinelaw07_key.f (⟨#[97,98]⟩ : ByteArray) 3 1).bind fun bt262=>((block_Seek.f y231 bt262.1 bt262.2.1 bt262.2.2).bind fun bt265=>((block_Build.f ([] : List (S59))).bind fun bt272=>((block_Parse.f k (([0,1,97,11,1,120,0,2,97,98,8,0,0,0,0,1,0,0,0] : List Int))).bind fun bt279=>(if (wrap64 ((wrap64 ((wrap64 ((wrap64 (t235 + bt238.2)) + bt245.2.2.2.2.2)) + bt255.2.2.2.2.2)) + bt265.2.2.2.2.2)) = 0 then ((ratlinelaw02_Same.f t234 y231).bind fun t283=>(if t283 = true then ((ratlinelaw04_Entries.f k bt238.1 y228).bind fun t284=>(if t284 = true then (if bt245.2.2.2.2.1 = true then (if 0 < (y228.length : Int) then (if ((bt245.1.toList == (((rd_T59 y228 0).f0.f0).toList) && (bt245.2.1 == ((rd_T59 y228 0).f0.f1) && (bt245.2.2.1 == ((rd_T59 y228 0).f0.f2)))) && (bt245.2.2.2.1.toList == (((rd_T59 y228 0).f1).toList))) = true then (if bt255.2.2.2.2.1 = true then (if 1 < (y228.length : Int) then (if ((bt255.1.toList == (((rd_T59 y228 1).f0.f0).toList) && (bt255.2.1 == ((rd_T59 y228 1).f0.f1) && (bt255.2.2.1 == ((rd_T59 y228 1).f0.f2)))) && (bt255.2.2.2.1.toList == (((rd_T59 y228 1).f1).toList))) = true then (if bt265.2.2.2.2.1 = true then (none) else (if ((bt265.1.toList == ([] : List UInt8) && (bt265.2.1 == 0 && (bt265.2.2.1 == 0))) && (bt265.2.2.2.1.toList == ([] : List UInt8))) = true then (if bt272.2 = 70 then (some (bt279.2 == 70)) else (none)) else (none))) else (none)) else (none)) else (none)) else (none)) else (none)) else (none)) else (none))) else (none))) else (none))))))))))) = some r:=H
 have A3:=Aside0.mk A30
 clear A30
 replace H:=Option.bind_eq_some_iff.mp H
 obtain ⟨⟨t238,t239⟩,A40,H⟩:=H
 replace H : ((ratlinelaw07_key.f (⟨#[97]⟩ : ByteArray) 6 1).bind fun bt242=>((block_Seek.f y231 bt242.1 bt242.2.1 bt242.2.2).bind fun bt245=>((ratlinelaw07_key.f (⟨#[97]⟩ : ByteArray) 4 1).bind fun bt252=>((block_Seek.f y231 bt252.1 bt252.2.1 bt252.2.2).bind fun bt255=>((ratlinelaw07_key.f (⟨#[97,98]⟩ : ByteArray) 3 1).bind fun bt262=>((block_Seek.f y231 bt262.1 bt262.2.1 bt262.2.2).bind fun bt265=>((block_Build.f ([] : List (S59))).bind fun bt272=>((block_Parse.f k (([0,1,97,11,1,120,0,2,97,98,8,0,0,0,0,1,0,0,0] : List Int))).bind fun bt279=>(if (wrap64 ((wrap64 ((wrap64 ((wrap64 (t235 + t239)) + bt245.2.2.2.2.2)) + bt255.2.2.2.2.2)) + bt265.2.2.2.2.2)) = 0 then ((ratlinelaw02_Same.f t234 y231).bind fun t283=>(if t283 = true then ((ratlinelaw04_Entries.f k t238 y228).bind fun t284=>(if t284 = true then (if bt245.2.2.2.2.1 = true then (if 0 < (y228.length : Int) then (if ((bt245.1.toList == (((rd_T59 y228 0).f0.f0).toList) && (bt245.2.1 == ((rd_T59 y228 0).f0.f1) && (bt245.2.2.1 == ((rd_T59 y228 0).f0.f2)))) && (bt245.2.2.2.1.toList == (((rd_T59 y228 0).f1).toList))) = true then (if bt255.2.2.2.2.1 = true then (if 1 < (y228.length : Int) then (if ((bt255.1.toList == (((rd_T59 y228 1).f0.f0).toList) && (bt255.2.1 == ((rd_T59 y228 1).f0.f1) && (bt255.2.2.1 == ((rd_T59 y228 1).f0.f2)))) && (bt255.2.2.2.1.toList == (((rd_T59 y228 1).f1).toList))) = true then (if bt265.2.2.2.2.1 = true then (none) else (if ((bt265.1.toList == ([] : List UInt8) && (bt265.2.1 == 0 && (bt265.2.2.1 == 0))) && (bt265.2.2.2.1.toList == ([] : List UInt8))) = true then (if bt272.2 = 70 then (some (bt279.2 == 70)) else (none)) else (none))) else (none)) else (none)) else (none)) else (none)) else (none)) else (none)) else (none))) else (none))) else (none)))))))))) = some r:=H
 have A4:=Aside0.mk A40
 clear A40
 replace H:=Option.bind_eq_some_iff.mp H
 obtain ⟨⟨t242,t243,t244⟩,A50,H⟩:=H
 replace H : ((block_Seek.f y231 t242 t243 t244).bind fun bt245=>((ratlinelaw07_key.f (⟨#[97]⟩ : ByteArray) 4 1).bind fun bt252=>((block_Seek.f y231 bt252.1 bt252.2.1 bt252.2.2).bind fun bt255=>((ratlinelaw07_key.f (⟨#[97,98]⟩ : ByteArray) 3 1).bind fun bt262=>((block_Seek.f y231 bt262.1 bt262.2.1 bt262.2.2).bind fun bt265=>((block_Build.f ([] : List (S59))).bind fun bt272=>((block_Parse.f k (([0,1,97,11,1,120,0,2,97,98,8,0,0,0,0,1,0,0,0] : List Int))).bind fun bt279=>(if (wrap64 ((wrap64 ((wrap64 ((wrap64 (t235 + t239)) + bt245.2.2.2.2.2)) + bt255.2.2.2.2.2)) + bt265.2.2.2.2.2)) = 0 then ((ratlinelaw02_Same.f t234 y231).bind fun t283=>(if t283 = true then ((ratlinelaw04_Entries.f k t238 y228).bind fun t284=>(if t284 = true then (if bt245.2.2.2.2.1 = true then (if 0 < (y228.length : Int) then (if ((bt245.1.toList == (((rd_T59 y228 0).f0.f0).toList) && (bt245.2.1 == ((rd_T59 y228 0).f0.f1) && (bt245.2.2.1 == ((rd_T59 y228 0).f0.f2)))) && (bt245.2.2.2.1.toList == (((rd_T59 y228 0).f1).toList))) = true then (if bt255.2.2.2.2.1 = true then (if 1 < (y228.length : Int) then (if ((bt255.1.toList == (((rd_T59 y228 1).f0.f0).toList) && (bt255.2.1 == ((rd_T59 y228 1).f0.f1) && (bt255.2.2.1 == ((rd_T59 y228 1).f0.f2)))) && (bt255.2.2.2.1.toList == (((rd_T59 y228 1).f1).toList))) = true then (if bt265.2.2.2.2.1 = true then (none) else (if ((bt265.1.toList == ([] : List UInt8) && (bt265.2.1 == 0 && (bt265.2.2.1 == 0))) && (bt265.2.2.2.1.toList == ([] : List UInt8))) = true then (if bt272.2 = 70 then (some (bt279.2 == 70)) else (none)) else (none))) else (none)) else (none)) else (none)) else (none)) else (none)) else (none)) else (none))) else (none))) else (none))))))))) = some r:=H
 have A5:=Aside0.mk A50
 clear A50
 replace H:=Option.bind_eq_some_iff.mp H
 obtain ⟨⟨t245,t246,t247,t248,t249,t250⟩,A60,H⟩:=H
 replace H : ((ratlinelaw07_key.f (⟨#[97]⟩ : ByteArray) 4 1).bind fun bt252=>((block_Seek.f y231 bt252.1 bt252.2.1 bt252.2.2).bind fun bt255=>((ratlinelaw07_key.f (⟨#[97,98]⟩ : ByteArray) 3 1).bind fun bt262=>((block_Seek.f y231 bt262.1 bt262.2.1 bt262.2.2).bind fun bt265=>((block_Build.f ([] : List (S59))).bind fun bt272=>((block_Parse.f k (([0,1,97,11,1,120,0,2,97,98,8,0,0,0,0,1,0,0,0] : List Int))).bind fun bt279=>(if (wrap64 ((wrap64 ((wrap64 ((wrap64 (t235 + t239)) + t250)) + bt255.2.2.2.2.2)) + bt265.2.2.2.2.2)) = 0 then ((ratlinelaw02_Same.f t234 y231).bind fun t283=>(if t283 = true then ((ratlinelaw04_Entries.f k t238 y228).bind fun t284=>(if t284 = true then (if t249 = true then (if 0 < (y228.length : Int) then (if ((t245.toList == (((rd_T59 y228 0).f0.f0).toList) && (t246 == ((rd_T59 y228 0).f0.f1) && (t247 == ((rd_T59 y228 0).f0.f2)))) && (t248.toList == (((rd_T59 y228 0).f1).toList))) = true then (if bt255.2.2.2.2.1 = true then (if 1 < (y228.length : Int) then (if ((bt255.1.toList == (((rd_T59 y228 1).f0.f0).toList) && (bt255.2.1 == ((rd_T59 y228 1).f0.f1) && (bt255.2.2.1 == ((rd_T59 y228 1).f0.f2)))) && (bt255.2.2.2.1.toList == (((rd_T59 y228 1).f1).toList))) = true then (if bt265.2.2.2.2.1 = true then (none) else (if ((bt265.1.toList == ([] : List UInt8) && (bt265.2.1 == 0 && (bt265.2.2.1 == 0))) && (bt265.2.2.2.1.toList == ([] : List UInt8))) = true then (if bt272.2 = 70 then (some (bt279.2 == 70)) else (none)) else (none))) else (none)) else (none)) else (none)) else (none)) else (none)) else (none)) else (none))) else (none))) else (none)))))))) = some r:=H
 have A6:=Aside0.mk A60
 clear A60
 replace H:=Option.bind_eq_some_iff.mp H
 obtain ⟨⟨t252,t253,t254⟩,A70,H⟩:=H
 replace H : ((block_Seek.f y231 t252 t253 t254).bind fun bt255=>((ratlinelaw07_key.f (⟨#[97,98]⟩ : ByteArray) 3 1).bind fun bt262=>((block_Seek.f y231 bt262.1 bt262.2.1 bt262.2.2).bind fun bt265=>((block_Build.f ([] : List (S59))).bind fun bt272=>((block_Parse.f k (([0,1,97,11,1,120,0,2,97,98,8,0,0,0,0,1,0,0,0] : List Int))).bind fun bt279=>(if (wrap64 ((wrap64 ((wrap64 ((wrap64 (t235 + t239)) + t250)) + bt255.2.2.2.2.2)) + bt265.2.2.2.2.2)) = 0 then ((ratlinelaw02_Same.f t234 y231).bind fun t283=>(if t283 = true then ((ratlinelaw04_Entries.f k t238 y228).bind fun t284=>(if t284 = true then (if t249 = true then (if 0 < (y228.length : Int) then (if ((t245.toList == (((rd_T59 y228 0).f0.f0).toList) && (t246 == ((rd_T59 y228 0).f0.f1) && (t247 == ((rd_T59 y228 0).f0.f2)))) && (t248.toList == (((rd_T59 y228 0).f1).toList))) = true then (if bt255.2.2.2.2.1 = true then (if 1 < (y228.length : Int) then (if ((bt255.1.toList == (((rd_T59 y228 1).f0.f0).toList) && (bt255.2.1 == ((rd_T59 y228 1).f0.f1) && (bt255.2.2.1 == ((rd_T59 y228 1).f0.f2)))) && (bt255.2.2.2.1.toList == (((rd_T59 y228 1).f1).toList))) = true then (if bt265.2.2.2.2.1 = true then (none) else (if ((bt265.1.toList == ([] : List UInt8) && (bt265.2.1 == 0 && (bt265.2.2.1 == 0))) && (bt265.2.2.2.1.toList == ([] : List UInt8))) = true then (if bt272.2 = 70 then (some (bt279.2 == 70)) else (none)) else (none))) else (none)) else (none)) else (none)) else (none)) else (none)) else (none)) else (none))) else (none))) else (none))))))) = some r:=H
 have A7:=Aside0.mk A70
 clear A70
 replace H:=Option.bind_eq_some_iff.mp H
 obtain ⟨⟨t255,t256,t257,t258,t259,t260⟩,A80,H⟩:=H
 replace H : ((ratlinelaw07_key.f (⟨#[97,98]⟩ : ByteArray) 3 1).bind fun bt262=>((block_Seek.f y231 bt262.1 bt262.2.1 bt262.2.2).bind fun bt265=>((block_Build.f ([] : List (S59))).bind fun bt272=>((block_Parse.f k (([0,1,97,11,1,120,0,2,97,98,8,0,0,0,0,1,0,0,0] : List Int))).bind fun bt279=>(if (wrap64 ((wrap64 ((wrap64 ((wrap64 (t235 + t239)) + t250)) + t260)) + bt265.2.2.2.2.2)) = 0 then ((ratlinelaw02_Same.f t234 y231).bind fun t283=>(if t283 = true then ((ratlinelaw04_Entries.f k t238 y228).bind fun t284=>(if t284 = true then (if t249 = true then (if 0 < (y228.length : Int) then (if ((t245.toList == (((rd_T59 y228 0).f0.f0).toList) && (t246 == ((rd_T59 y228 0).f0.f1) && (t247 == ((rd_T59 y228 0).f0.f2)))) && (t248.toList == (((rd_T59 y228 0).f1).toList))) = true then (if t259 = true then (if 1 < (y228.length : Int) then (if ((t255.toList == (((rd_T59 y228 1).f0.f0).toList) && (t256 == ((rd_T59 y228 1).f0.f1) && (t257 == ((rd_T59 y228 1).f0.f2)))) && (t258.toList == (((rd_T59 y228 1).f1).toList))) = true then (if bt265.2.2.2.2.1 = true then (none) else (if ((bt265.1.toList == ([] : List UInt8) && (bt265.2.1 == 0 && (bt265.2.2.1 == 0))) && (bt265.2.2.2.1.toList == ([] : List UInt8))) = true then (if bt272.2 = 70 then (some (bt279.2 == 70)) else (none)) else (none))) else (none)) else (none)) else (none)) else (none)) else (none)) else (none)) else (none))) else (none))) else (none)))))) = some r:=H
 have A8:=Aside0.mk A80
 clear A80
 replace H:=Option.bind_eq_some_iff.mp H
 obtain ⟨⟨t262,t263,t264⟩,A90,H⟩:=H
 replace H : ((block_Seek.f y231 t262 t263 t264).bind fun bt265=>((block_Build.f ([] : List (S59))).bind fun bt272=>((block_Parse.f k (([0,1,97,11,1,120,0,2,97,98,8,0,0,0,0,1,0,0,0] : List Int))).bind fun bt279=>(if (wrap64 ((wrap64 ((wrap64 ((wrap64 (t235 + t239)) + t250)) + t260)) + bt265.2.2.2.2.2)) = 0 then ((ratlinelaw02_Same.f t234 y231).bind fun t283=>(if t283 = true then ((ratlinelaw04_Entries.f k t238 y228).bind fun t284=>(if t284 = true then (if t249 = true then (if 0 < (y228.length : Int) then (if ((t245.toList == (((rd_T59 y228 0).f0.f0).toList) && (t246 == ((rd_T59 y228 0).f0.f1) && (t247 == ((rd_T59 y228 0).f0.f2)))) && (t248.toList == (((rd_T59 y228 0).f1).toList))) = true then (if t259 = true then (if 1 < (y228.length : Int) then (if ((t255.toList == (((rd_T59 y228 1).f0.f0).toList) && (t256 == ((rd_T59 y228 1).f0.f1) && (t257 == ((rd_T59 y228 1).f0.f2)))) && (t258.toList == (((rd_T59 y228 1).f1).toList))) = true then (if bt265.2.2.2.2.1 = true then (none) else (if ((bt265.1.toList == ([] : List UInt8) && (bt265.2.1 == 0 && (bt265.2.2.1 == 0))) && (bt265.2.2.2.1.toList == ([] : List UInt8))) = true then (if bt272.2 = 70 then (some (bt279.2 == 70)) else (none)) else (none))) else (none)) else (none)) else (none)) else (none)) else (none)) else (none)) else (none))) else (none))) else (none))))) = some r:=H
 have A9:=Aside0.mk A90
 clear A90
 replace H:=Option.bind_eq_some_iff.mp H
 obtain ⟨⟨t265,t266,t267,t268,t269,t270⟩,A100,H⟩:=H
 replace H : ((block_Build.f ([] : List (S59))).bind fun bt272=>((block_Parse.f k (([0,1,97,11,1,120,0,2,97,98,8,0,0,0,0,1,0,0,0] : List Int))).bind fun bt279=>(if (wrap64 ((wrap64 ((wrap64 ((wrap64 (t235 + t239)) + t250)) + t260)) + t270)) = 0 then ((ratlinelaw02_Same.f t234 y231).bind fun t283=>(if t283 = true then ((ratlinelaw04_Entries.f k t238 y228).bind fun t284=>(if t284 = true then (if t249 = true then (if 0 < (y228.length : Int) then (if ((t245.toList == (((rd_T59 y228 0).f0.f0).toList) && (t246 == ((rd_T59 y228 0).f0.f1) && (t247 == ((rd_T59 y228 0).f0.f2)))) && (t248.toList == (((rd_T59 y228 0).f1).toList))) = true then (if t259 = true then (if 1 < (y228.length : Int) then (if ((t255.toList == (((rd_T59 y228 1).f0.f0).toList) && (t256 == ((rd_T59 y228 1).f0.f1) && (t257 == ((rd_T59 y228 1).f0.f2)))) && (t258.toList == (((rd_T59 y228 1).f1).toList))) = true then (if t269 = true then (none) else (if ((t265.toList == ([] : List UInt8) && (t266 == 0 && (t267 == 0))) && (t268.toList == ([] : List UInt8))) = true then (if bt272.2 = 70 then (some (bt279.2 == 70)) else (none)) else (none))) else (none)) else (none)) else (none)) else (none)) else (none)) else (none)) else (none))) else (none))) else (none)))) = some r:=H
 have A10:=Aside0.mk A100
 clear A100
 replace H:=Option.bind_eq_some_iff.mp H
 obtain ⟨⟨t272,t273⟩,A110,H⟩:=H
 replace H : ((block_Parse.f k (([0,1,97,11,1,120,0,2,97,98,8,0,0,0,0,1,0,0,0] : List Int))).bind fun bt279=>(if (wrap64 ((wrap64 ((wrap64 ((wrap64 (t235 + t239)) + t250)) + t260)) + t270)) = 0 then ((ratlinelaw02_Same.f t234 y231).bind fun t283=>(if t283 = true then ((ratlinelaw04_Entries.f k t238 y228).bind fun t284=>(if t284 = true then (if t249 = true then (if 0 < (y228.length : Int) then (if ((t245.toList == (((rd_T59 y228 0).f0.f0).toList) && (t246 == ((rd_T59 y228 0).f0.f1) && (t247 == ((rd_T59 y228 0).f0.f2)))) && (t248.toList == (((rd_T59 y228 0).f1).toList))) = true then (if t259 = true then (if 1 < (y228.length : Int) then (if ((t255.toList == (((rd_T59 y228 1).f0.f0).toList) && (t256 == ((rd_T59 y228 1).f0.f1) && (t257 == ((rd_T59 y228 1).f0.f2)))) && (t258.toList == (((rd_T59 y228 1).f1).toList))) = true then (if t269 = true then (none) else (if ((t265.toList == ([] : List UInt8) && (t266 == 0 && (t267 == 0))) && (t268.toList == ([] : List UInt8))) = true then (if t273 = 70 then (some (bt279.2 == 70)) else (none)) else (none))) else (none)) else (none)) else (none)) else (none)) else (none)) else (none)) else (none))) else (none))) else (none))) = some r:=H
 have A11:=Aside0.mk A110
 clear A110
 obtain ⟨y276,hy276⟩ : ∃ y_ : List Int,y_ = (([0,1,97,11,1,120,0,2,97,98,8,0,0,0,0,1,0,0,0] : List Int)):=⟨_,rfl⟩
 replace H : ((block_Parse.f k y276).bind fun bt279=>(if (wrap64 ((wrap64 ((wrap64 ((wrap64 (t235 + t239)) + t250)) + t260)) + t270)) = 0 then ((ratlinelaw02_Same.f t234 y231).bind fun t283=>(if t283 = true then ((ratlinelaw04_Entries.f k t238 y228).bind fun t284=>(if t284 = true then (if t249 = true then (if 0 < (y228.length : Int) then (if ((t245.toList == (((rd_T59 y228 0).f0.f0).toList) && (t246 == ((rd_T59 y228 0).f0.f1) && (t247 == ((rd_T59 y228 0).f0.f2)))) && (t248.toList == (((rd_T59 y228 0).f1).toList))) = true then (if t259 = true then (if 1 < (y228.length : Int) then (if ((t255.toList == (((rd_T59 y228 1).f0.f0).toList) && (t256 == ((rd_T59 y228 1).f0.f1) && (t257 == ((rd_T59 y228 1).f0.f2)))) && (t258.toList == (((rd_T59 y228 1).f1).toList))) = true then (if t269 = true then (none) else (if ((t265.toList == ([] : List UInt8) && (t266 == 0 && (t267 == 0))) && (t268.toList == ([] : List UInt8))) = true then (if t273 = 70 then (some (bt279.2 == 70)) else (none)) else (none))) else (none)) else (none)) else (none)) else (none)) else (none)) else (none)) else (none))) else (none))) else (none))) = some r:=by first|(rw [hy276];with_reducible exact H)|(have H2_:=(Option.bind_some _ _).symm.trans H;rw [hy276];with_reducible exact H2_)|(have H2_:=(Option.bind_some _ _).symm.trans H;with_reducible exact H2_)|with_reducible exact H|(rw [hy276];exact H)|exact H
 have Ny276:=Aside0.mk hy276
 clear hy276
 replace H:=Option.bind_eq_some_iff.mp H
 obtain ⟨⟨t279,t280⟩,A120,H⟩:=H
 replace H : (if (wrap64 ((wrap64 ((wrap64 ((wrap64 (t235 + t239)) + t250)) + t260)) + t270)) = 0 then ((ratlinelaw02_Same.f t234 y231).bind fun t283=>(if t283 = true then ((ratlinelaw04_Entries.f k t238 y228).bind fun t284=>(if t284 = true then (if t249 = true then (if 0 < (y228.length : Int) then (if ((t245.toList == (((rd_T59 y228 0).f0.f0).toList) && (t246 == ((rd_T59 y228 0).f0.f1) && (t247 == ((rd_T59 y228 0).f0.f2)))) && (t248.toList == (((rd_T59 y228 0).f1).toList))) = true then (if t259 = true then (if 1 < (y228.length : Int) then (if ((t255.toList == (((rd_T59 y228 1).f0.f0).toList) && (t256 == ((rd_T59 y228 1).f0.f1) && (t257 == ((rd_T59 y228 1).f0.f2)))) && (t258.toList == (((rd_T59 y228 1).f1).toList))) = true then (if t269 = true then (none) else (if ((t265.toList == ([] : List UInt8) && (t266 == 0 && (t267 == 0))) && (t268.toList == ([] : List UInt8))) = true then (if t273 = 70 then (some (t280 == 70)) else (none)) else (none))) else (none)) else (none)) else (none)) else (none)) else (none)) else (none)) else (none))) else (none))) else (none)) = some r:=H
 have A12:=Aside0.mk A120
 clear A120
 by_cases c13 : (wrap64 ((wrap64 ((wrap64 ((wrap64 (t235 + t239)) + t250)) + t260)) + t270)) = 0
 ·rw [if_pos c13] at H
  have c13b0 : ((wrap64 ((wrap64 ((wrap64 ((wrap64 (t235 + t239)) + t250)) + t260)) + t270)) == 0) = true:=beq_iff_eq.mpr c13
  have c13b1 : ((wrap64 ((wrap64 ((wrap64 ((wrap64 (t235 + t239)) + t250)) + t260)) + t270)) != 0) = false:=bne_eq_false_iff_eq.mpr c13
  clear c13
  replace H:=Option.bind_eq_some_iff.mp H
  obtain ⟨t283,A140,H⟩:=H
  replace H : (if t283 = true then ((ratlinelaw04_Entries.f k t238 y228).bind fun t284=>(if t284 = true then (if t249 = true then (if 0 < (y228.length : Int) then (if ((t245.toList == (((rd_T59 y228 0).f0.f0).toList) && (t246 == ((rd_T59 y228 0).f0.f1) && (t247 == ((rd_T59 y228 0).f0.f2)))) && (t248.toList == (((rd_T59 y228 0).f1).toList))) = true then (if t259 = true then (if 1 < (y228.length : Int) then (if ((t255.toList == (((rd_T59 y228 1).f0.f0).toList) && (t256 == ((rd_T59 y228 1).f0.f1) && (t257 == ((rd_T59 y228 1).f0.f2)))) && (t258.toList == (((rd_T59 y228 1).f1).toList))) = true then (if t269 = true then (none) else (if ((t265.toList == ([] : List UInt8) && (t266 == 0 && (t267 == 0))) && (t268.toList == ([] : List UInt8))) = true then (if t273 = 70 then (some (t280 == 70)) else (none)) else (none))) else (none)) else (none)) else (none)) else (none)) else (none)) else (none)) else (none))) else (none)) = some r:=H
  have A14:=Aside0.mk A140
  clear A140
  by_cases c15 : t283 = true
  ·subst c15
   have H1 : ((ratlinelaw04_Entries.f k t238 y228).bind fun t284=>(if t284 = true then (if t249 = true then (if 0 < (y228.length : Int) then (if ((t245.toList == (((rd_T59 y228 0).f0.f0).toList) && (t246 == ((rd_T59 y228 0).f0.f1) && (t247 == ((rd_T59 y228 0).f0.f2)))) && (t248.toList == (((rd_T59 y228 0).f1).toList))) = true then (if t259 = true then (if 1 < (y228.length : Int) then (if ((t255.toList == (((rd_T59 y228 1).f0.f0).toList) && (t256 == ((rd_T59 y228 1).f0.f1) && (t257 == ((rd_T59 y228 1).f0.f2)))) && (t258.toList == (((rd_T59 y228 1).f1).toList))) = true then (if t269 = true then (none) else (if ((t265.toList == ([] : List UInt8) && (t266 == 0 && (t267 == 0))) && (t268.toList == ([] : List UInt8))) = true then (if t273 = 70 then (some (t280 == 70)) else (none)) else (none))) else (none)) else (none)) else (none)) else (none)) else (none)) else (none)) else (none))) = some r:=by rw [if_pos rfl] at H;exact H
   clear H
   have H:=H1
   clear H1
   replace H:=Option.bind_eq_some_iff.mp H
   obtain ⟨t284,A160,H⟩:=H
   replace H : (if t284 = true then (if t249 = true then (if 0 < (y228.length : Int) then (if ((t245.toList == (((rd_T59 y228 0).f0.f0).toList) && (t246 == ((rd_T59 y228 0).f0.f1) && (t247 == ((rd_T59 y228 0).f0.f2)))) && (t248.toList == (((rd_T59 y228 0).f1).toList))) = true then (if t259 = true then (if 1 < (y228.length : Int) then (if ((t255.toList == (((rd_T59 y228 1).f0.f0).toList) && (t256 == ((rd_T59 y228 1).f0.f1) && (t257 == ((rd_T59 y228 1).f0.f2)))) && (t258.toList == (((rd_T59 y228 1).f1).toList))) = true then (if t269 = true then (none) else (if ((t265.toList == ([] : List UInt8) && (t266 == 0 && (t267 == 0))) && (t268.toList == ([] : List UInt8))) = true then (if t273 = 70 then (some (t280 == 70)) else (none)) else (none))) else (none)) else (none)) else (none)) else (none)) else (none)) else (none)) else (none)) = some r:=H
   have A16:=Aside0.mk A160
   clear A160
   by_cases c17 : t284 = true
   ·subst c17
    have H1 : (if t249 = true then (if 0 < (y228.length : Int) then (if ((t245.toList == (((rd_T59 y228 0).f0.f0).toList) && (t246 == ((rd_T59 y228 0).f0.f1) && (t247 == ((rd_T59 y228 0).f0.f2)))) && (t248.toList == (((rd_T59 y228 0).f1).toList))) = true then (if t259 = true then (if 1 < (y228.length : Int) then (if ((t255.toList == (((rd_T59 y228 1).f0.f0).toList) && (t256 == ((rd_T59 y228 1).f0.f1) && (t257 == ((rd_T59 y228 1).f0.f2)))) && (t258.toList == (((rd_T59 y228 1).f1).toList))) = true then (if t269 = true then (none) else (if ((t265.toList == ([] : List UInt8) && (t266 == 0 && (t267 == 0))) && (t268.toList == ([] : List UInt8))) = true then (if t273 = 70 then (some (t280 == 70)) else (none)) else (none))) else (none)) else (none)) else (none)) else (none)) else (none)) else (none)) = some r:=by rw [if_pos rfl] at H;exact H
    clear H
    have H:=H1
    clear H1
    by_cases c18 : t249 = true
    ·subst c18
     have H1 : (if 0 < (y228.length : Int) then (if ((t245.toList == (((rd_T59 y228 0).f0.f0).toList) && (t246 == ((rd_T59 y228 0).f0.f1) && (t247 == ((rd_T59 y228 0).f0.f2)))) && (t248.toList == (((rd_T59 y228 0).f1).toList))) = true then (if t259 = true then (if 1 < (y228.length : Int) then (if ((t255.toList == (((rd_T59 y228 1).f0.f0).toList) && (t256 == ((rd_T59 y228 1).f0.f1) && (t257 == ((rd_T59 y228 1).f0.f2)))) && (t258.toList == (((rd_T59 y228 1).f1).toList))) = true then (if t269 = true then (none) else (if ((t265.toList == ([] : List UInt8) && (t266 == 0 && (t267 == 0))) && (t268.toList == ([] : List UInt8))) = true then (if t273 = 70 then (some (t280 == 70)) else (none)) else (none))) else (none)) else (none)) else (none)) else (none)) else (none)) = some r:=by rw [if_pos rfl] at H;exact H
     clear H
     have H:=H1
     clear H1
     by_cases c19 : 0 < (y228.length : Int)
     ·rw [if_pos c19] at H
      have c19b0 : decide (0 < (y228.length : Int)) = true:=decide_eq_true c19
      have c19b1 : decide (0 < y228.length) = true:=decide_eq_true (by omega)
      clear c19
      by_cases c20 : ((t245.toList == (((rd_T59 y228 0).f0.f0).toList) && (t246 == ((rd_T59 y228 0).f0.f1) && (t247 == ((rd_T59 y228 0).f0.f2)))) && (t248.toList == (((rd_T59 y228 0).f1).toList))) = true
      ·rw [if_pos c20] at H
       have c20b0 : ((t245.toList == (((rd_T59 y228 0).f0.f0).toList) && (t246 == ((rd_T59 y228 0).f0.f1) && (t247 == ((rd_T59 y228 0).f0.f2)))) && (t248.toList == (((rd_T59 y228 0).f1).toList))) = true:=c20
       clear c20
       by_cases c21 : t259 = true
       ·subst c21
        have H1 : (if 1 < (y228.length : Int) then (if ((t255.toList == (((rd_T59 y228 1).f0.f0).toList) && (t256 == ((rd_T59 y228 1).f0.f1) && (t257 == ((rd_T59 y228 1).f0.f2)))) && (t258.toList == (((rd_T59 y228 1).f1).toList))) = true then (if t269 = true then (none) else (if ((t265.toList == ([] : List UInt8) && (t266 == 0 && (t267 == 0))) && (t268.toList == ([] : List UInt8))) = true then (if t273 = 70 then (some (t280 == 70)) else (none)) else (none))) else (none)) else (none)) = some r:=by rw [if_pos rfl] at H;exact H
        clear H
        have H:=H1
        clear H1
        by_cases c22 : 1 < (y228.length : Int)
        ·rw [if_pos c22] at H
         have c22b0 : decide (1 < (y228.length : Int)) = true:=decide_eq_true c22
         have c22b1 : decide (1 < y228.length) = true:=decide_eq_true (by omega)
         clear c22
         by_cases c23 : ((t255.toList == (((rd_T59 y228 1).f0.f0).toList) && (t256 == ((rd_T59 y228 1).f0.f1) && (t257 == ((rd_T59 y228 1).f0.f2)))) && (t258.toList == (((rd_T59 y228 1).f1).toList))) = true
         ·rw [if_pos c23] at H
          have c23b0 : ((t255.toList == (((rd_T59 y228 1).f0.f0).toList) && (t256 == ((rd_T59 y228 1).f0.f1) && (t257 == ((rd_T59 y228 1).f0.f2)))) && (t258.toList == (((rd_T59 y228 1).f1).toList))) = true:=c23
          clear c23
          by_cases c24 : t269 = true
          ·subst c24
           have H1 : (none) = some r:=by rw [if_pos rfl] at H;exact H
           clear H
           have H:=H1
           clear H1
           exact absurd H (by simp)
          ·replace c24:=Bool.eq_false_iff.mpr c24
           subst c24
           have H1 : (if ((t265.toList == ([] : List UInt8) && (t266 == 0 && (t267 == 0))) && (t268.toList == ([] : List UInt8))) = true then (if t273 = 70 then (some (t280 == 70)) else (none)) else (none)) = some r:=by rw [if_neg (show ¬ (false = true) by decide)] at H;exact H
           clear H
           have H:=H1
           clear H1
           by_cases c25 : ((t265.toList == ([] : List UInt8) && (t266 == 0 && (t267 == 0))) && (t268.toList == ([] : List UInt8))) = true
           ·rw [if_pos c25] at H
            have c25b0 : ((t265.toList == ([] : List UInt8) && (t266 == 0 && (t267 == 0))) && (t268.toList == ([] : List UInt8))) = true:=c25
            have c25b1 : ((t265.toList.isEmpty && (t266 == 0 && (t267 == 0))) && t268.toList.isEmpty) = true:=by rw [show ∀ l : List UInt8,l.isEmpty = (l == []) from fun l=>by cases l <;> rfl,show ∀ l : List UInt8,l.isEmpty = (l == []) from fun l=>by cases l <;> rfl];exact c25b0
            clear c25
            by_cases c26 : t273 = 70
            ·rw [if_pos c26] at H
             have c26b0 : (t273 == 70) = true:=beq_iff_eq.mpr c26
             have c26b1 : (t273 != 70) = false:=bne_eq_false_iff_eq.mpr c26
             clear c26
             obtain rfl:=Option.some.inj H
             go_enter Try.func21,Try.ntmps21
             try go_wp2_with (first|((with_reducible refine gate_callee (f:=33) rfl ?_);refine goesL_ (some 20) rfl rfl Try.func33 (by kernel_rfl) rfl #[.string (⟨#[97]⟩ : ByteArray),.int .u64 5,.int .u8 1] rfl (by (try simp only [List.map_toArray,List.map_cons,List.map_nil]);first|done|rfl|(simp only [List.length_drop,List.length_take];rfl)) ?_;(with_reducible refine (ratlinelaw07_key.calls (⟨#[97]⟩ : ByteArray) 5 1 t222 t223 t224 _ A1.out).mono ?_);rintro e w27 ⟨rfl,hb⟩;refine ⟨_,rfl,?_⟩;have n0_:=Aside0.mk (below_step (by repeat (first|(with_reducible first|exact HB.out|apply below_alloc|apply pw_below_drewN|apply below_drew1)|exact HB.out)) hb);clear HB;have HB:=n0_;clear n0_;(try clear hb);(try clear hb2);(try clear hk);(try clear hi))|((with_reducible refine gate_callee (f:=33) rfl ?_);refine goesL_ (some 22) rfl rfl Try.func33 (by kernel_rfl) rfl #[.string (⟨#[97,98]⟩ : ByteArray),.int .u64 4,.int .u8 0] rfl (by (try simp only [List.map_toArray,List.map_cons,List.map_nil]);first|done|rfl|(simp only [List.length_drop,List.length_take];rfl)) ?_;(with_reducible refine (ratlinelaw07_key.calls (⟨#[97,98]⟩ : ByteArray) 4 0 t225 t226 t227 _ A2.out).mono ?_);rintro e w28 ⟨rfl,hb⟩;refine ⟨_,rfl,?_⟩;have n0_:=Aside0.mk (below_step (by repeat (first|(with_reducible first|exact HB.out|apply below_alloc|apply pw_below_drewN|apply below_drew1)|exact HB.out)) hb);clear HB;have HB:=n0_;clear n0_;(try clear hb);(try clear hb2);(try clear hk);(try clear hi))|((with_reducible refine gate_dst (N:=24) rfl ?_);refine Kd.R_lit k59 _ 59 ?hg (N:=24) ?hd (xs:=([(⟨(⟨t222,t223,t224⟩ : S50),(⟨#[120]⟩ : ByteArray)⟩ : S59),(⟨(⟨t225,t226,t227⟩ : S50),(⟨#[]⟩ : ByteArray)⟩ : S59)] : List (S59))) (inner:=[.string t222,.int .u64 t223,.int .u8 t224,.string (⟨#[120]⟩ : ByteArray),.string t225,.int .u64 t226,.int .u8 t227,.string (⟨#[]⟩ : ByteArray)]) (ok:=fun _=>True) (okp:=fun _=>True) ?hr ?hp (fun _ hk=>hk) trivial (Below.refl _ _) (Nat.le_refl _) (by simp) ?_;(case hd=>rfl);(case hg=>rfl);(case hr=>first|(go_simp;done)|(go_simp;rfl));(case hp=>exact (Reps.c4 (show Kd.M k59 _ _ _ (⟨(⟨t222,t223,t224⟩ : S50),(⟨#[120]⟩ : ByteArray)⟩ : S59) [.string t222,.int .u64 t223,.int .u8 t224,.string (⟨#[120]⟩ : ByteArray)] from (k59_mkM _ _ _ (⟨(⟨t222,t223,t224⟩ : S50),(⟨#[120]⟩ : ByteArray)⟩ : S59) )) (Reps.c4 (show Kd.M k59 _ _ _ (⟨(⟨t225,t226,t227⟩ : S50),(⟨#[]⟩ : ByteArray)⟩ : S59) [.string t225,.int .u64 t226,.int .u8 t227,.string (⟨#[]⟩ : ByteArray)] from (k59_mkM _ _ _ (⟨(⟨t225,t226,t227⟩ : S50),(⟨#[]⟩ : ByteArray)⟩ : S59) )) (Reps.none _ _))));intro v229 w29 ho30 hb hg_ hnew_;clear hg_ hnew_;(first|rw [← Ny228.out] at ho30|(simp only [Int.reduceToNat] at ho30;rw [← Ny228.out] at ho30));have n0_:=Aside0.mk (Kd.R_lower ho30 (below_size (by repeat (first|(with_reducible first|exact HB.out|apply below_alloc|apply pw_below_drewN|apply below_drew1)|exact HB.out))));have n1_:=Aside0.mk (below_step (by repeat (first|(with_reducible first|exact HB.out|apply below_alloc|apply pw_below_drewN|apply below_drew1)|exact HB.out)) hb);clear HB;have HO230:=n0_;have HB:=n1_;clear n0_ n1_;clear hb ho30)|((with_reducible refine gate_dst (N:=25) rfl ?_);refine Kd.R_lit (Kd.int .u8) _ 5 ?hg (N:=25) ?hd (xs:=([0,1,97,11,1,120,1,1,98,8,0,0,0,0,1,0,0,0] : List Int)) (inner:=[.int .u8 0,.int .u8 1,.int .u8 97,.int .u8 11,.int .u8 1,.int .u8 120,.int .u8 1,.int .u8 1,.int .u8 98,.int .u8 8,.int .u8 0,.int .u8 0,.int .u8 0,.int .u8 0,.int .u8 1,.int .u8 0,.int .u8 0,.int .u8 0]) (ok:=fun _=>True) (okp:=fun _=>True) ?hr ?hp (fun _ hk=>hk) trivial (Below.refl _ _) (Nat.le_refl _) (by simp) ?_;(case hd=>rfl);(case hg=>rfl);(case hr=>first|(go_simp;done)|(go_simp;rfl));(case hp=>exact (Reps.one (show Kd.M (Kd.int .u8) _ _ _ 0 [.int .u8 0] from rfl) (Reps.one (show Kd.M (Kd.int .u8) _ _ _ 1 [.int .u8 1] from rfl) (Reps.one (show Kd.M (Kd.int .u8) _ _ _ 97 [.int .u8 97] from rfl) (Reps.one (show Kd.M (Kd.int .u8) _ _ _ 11 [.int .u8 11] from rfl) (Reps.one (show Kd.M (Kd.int .u8) _ _ _ 1 [.int .u8 1] from rfl) (Reps.one (show Kd.M (Kd.int .u8) _ _ _ 120 [.int .u8 120] from rfl) (Reps.one (show Kd.M (Kd.int .u8) _ _ _ 1 [.int .u8 1] from rfl) (Reps.one (show Kd.M (Kd.int .u8) _ _ _ 1 [.int .u8 1] from rfl) (Reps.one (show Kd.M (Kd.int .u8) _ _ _ 98 [.int .u8 98] from rfl) (Reps.one (show Kd.M (Kd.int .u8) _ _ _ 8 [.int .u8 8] from rfl) (Reps.one (show Kd.M (Kd.int .u8) _ _ _ 0 [.int .u8 0] from rfl) (Reps.one (show Kd.M (Kd.int .u8) _ _ _ 0 [.int .u8 0] from rfl) (Reps.one (show Kd.M (Kd.int .u8) _ _ _ 0 [.int .u8 0] from rfl) (Reps.one (show Kd.M (Kd.int .u8) _ _ _ 0 [.int .u8 0] from rfl) (Reps.one (show Kd.M (Kd.int .u8) _ _ _ 1 [.int .u8 1] from rfl) (Reps.one (show Kd.M (Kd.int .u8) _ _ _ 0 [.int .u8 0] from rfl) (Reps.one (show Kd.M (Kd.int .u8) _ _ _ 0 [.int .u8 0] from rfl) (Reps.one (show Kd.M (Kd.int .u8) _ _ _ 0 [.int .u8 0] from rfl) (Reps.none _ _))))))))))))))))))));intro v232 w31 ho32 hb hg_ hnew_;clear hg_ hnew_;(first|rw [← Ny231.out] at ho32|(simp only [Int.reduceToNat] at ho32;rw [← Ny231.out] at ho32));have n0_:=Aside0.mk (Kd.R_below (by (with_reducible repeat (first|apply Kd.R_alloc|apply Kd.R_drewN|apply Kd.R_drew));exact HO230.out) hb);have n1_:=Aside0.mk (Kd.R_lower ho32 (below_size (by repeat (first|(with_reducible first|exact HB.out|apply below_alloc|apply pw_below_drewN|apply below_drew1)|exact HB.out))));have n2_:=Aside0.mk (below_step (by repeat (first|(with_reducible first|exact HB.out|apply below_alloc|apply pw_below_drewN|apply below_drew1)|exact HB.out)) hb);clear HO230;clear HB;have HO230:=n0_;have HO233:=n1_;have HB:=n2_;clear n0_ n1_ n2_;clear hb ho32;obtain ⟨Ao33,co33,eo33⟩:=Kd.R_slice HO230.out;subst eo33)|((with_reducible refine gate_callee (f:=22) rfl ?_);refine goesL_ (some 28) rfl rfl Try.func22 (by kernel_rfl) rfl #[.slice Ao33 y228.length co33] rfl (by (try simp only [List.map_toArray,List.map_cons,List.map_nil]);first|done|rfl|(simp only [List.length_drop,List.length_take];rfl)) ?_;(with_reducible refine (block_Build.calls _ _ y228 t234 t235 _ ?side1 ?side2 A3.out).mono ?_);(case side1=>repeat (first|exact (Kd.R_reads' HO230.out).2.2|(with_reducible refine Kd.C_alloc ?_ _)|(with_reducible refine Kd.C_drewN ?_ _)|(with_reducible refine Kd.C_drew ?_)));(case side2=>exact (Kd.R_reads' HO230.out).2.1);rintro e w34 ⟨v236,rfl,ho0,hb⟩;refine ⟨_,rfl,?_⟩;have n0_:=Aside0.mk (Kd.R_below (by (with_reducible repeat (first|apply Kd.R_alloc|apply Kd.R_drewN|apply Kd.R_drew));exact HO230.out) hb);have n1_:=Aside0.mk (Kd.R_elder' (by (with_reducible repeat (first|apply Kd.R_alloc|apply Kd.R_drewN|apply Kd.R_drew));exact HO233.out) (Kd.R_base ho0) hb);have n2_:=Aside0.mk (Kd.R_lower (Kd.R_new' ho0 (Kd.R_lt (by (with_reducible repeat (first|apply Kd.R_alloc|apply Kd.R_drewN|apply Kd.R_drew));exact HO233.out))) (below_size (by repeat (first|(with_reducible first|exact HB.out|apply below_alloc|apply pw_below_drewN|apply below_drew1)|exact HB.out))));have n3_:=Aside0.mk (below_step (by repeat (first|(with_reducible first|exact HB.out|apply below_alloc|apply pw_below_drewN|apply below_drew1)|exact HB.out)) hb);clear HO230;clear HO233;clear HB;have HO230:=n0_;have HO233:=n1_;have HO237:=n2_;have HB:=n3_;clear n0_ n1_ n2_ n3_;(try clear hb);(try clear hb2);(try clear hk);(try clear hi);(try clear ho0);obtain ⟨Ao35,co35,eo35⟩:=Kd.R_slice HO233.out;subst eo35)|((with_reducible refine gate_callee (f:=24) rfl ?_);refine goesL_ (some 33) rfl rfl Try.func24 (by kernel_rfl) rfl #[.slice Ao35 y231.length co35] rfl (by (try simp only [List.map_toArray,List.map_cons,List.map_nil]);first|done|rfl|(simp only [List.length_drop,List.length_take];rfl)) ?_;(with_reducible refine (block_Parse.calls k _ _ y231 t238 t239 _ ?side1 ?side2 A4.out).mono ?_);(case side1=>repeat (first|exact (Kd.R_reads' HO233.out).2.2|(with_reducible refine Kd.C_alloc ?_ _)|(with_reducible refine Kd.C_drewN ?_ _)|(with_reducible refine Kd.C_drew ?_)));(case side2=>exact (Kd.R_reads' HO233.out).2.1);rintro e w36 ⟨v240,rfl,ho0,hb⟩;refine ⟨_,rfl,?_⟩;have n0_:=Aside0.mk (Kd.R_elder' (by (with_reducible repeat (first|apply Kd.R_alloc|apply Kd.R_drewN|apply Kd.R_drew));exact HO230.out) (Kd.R_base ho0) hb);have n1_:=Aside0.mk (Kd.R_below (by (with_reducible repeat (first|apply Kd.R_alloc|apply Kd.R_drewN|apply Kd.R_drew));exact HO233.out) hb);have n2_:=Aside0.mk (Kd.R_below (by (with_reducible repeat (first|apply Kd.R_alloc|apply Kd.R_drewN|apply Kd.R_drew));exact HO237.out) hb);have n3_:=Aside0.mk (Kd.R_lower (Kd.R_new' ho0 (Kd.R_lt (by (with_reducible repeat (first|apply Kd.R_alloc|apply Kd.R_drewN|apply Kd.R_drew));exact HO230.out))) (below_size (by repeat (first|(with_reducible first|exact HB.out|apply below_alloc|apply pw_below_drewN|apply below_drew1)|exact HB.out))));have n4_:=Aside0.mk (below_step (by repeat (first|(with_reducible first|exact HB.out|apply below_alloc|apply pw_below_drewN|apply below_drew1)|exact HB.out)) hb);clear HO230;clear HO233;clear HO237;clear HB;have HO230:=n0_;have HO233:=n1_;have HO237:=n2_;have HO241:=n3_;have HB:=n4_;clear n0_ n1_ n2_ n3_ n4_;(try clear hb);(try clear hb2);(try clear hk);(try clear hi);(try clear ho0))|((with_reducible refine gate_callee (f:=33) rfl ?_);refine goesL_ (some 38) rfl rfl Try.func33 (by kernel_rfl) rfl #[.string (⟨#[97]⟩ : ByteArray),.int .u64 6,.int .u8 1] rfl (by (try simp only [List.map_toArray,List.map_cons,List.map_nil]);first|done|rfl|(simp only [List.length_drop,List.length_take];rfl)) ?_;(with_reducible refine (ratlinelaw07_key.calls (⟨#[97]⟩ : ByteArray) 6 1 t242 t243 t244 _ A5.out).mono ?_);rintro e w37 ⟨rfl,hb⟩;refine ⟨_,rfl,?_⟩;have n0_:=Aside0.mk (Kd.R_below (by (with_reducible repeat (first|apply Kd.R_alloc|apply Kd.R_drewN|apply Kd.R_drew));exact HO230.out) hb);have n1_:=Aside0.mk (Kd.R_below (by (with_reducible repeat (first|apply Kd.R_alloc|apply Kd.R_drewN|apply Kd.R_drew));exact HO233.out) hb);have n2_:=Aside0.mk (Kd.R_below (by (with_reducible repeat (first|apply Kd.R_alloc|apply Kd.R_drewN|apply Kd.R_drew));exact HO237.out) hb);have n3_:=Aside0.mk (Kd.R_below (by (with_reducible repeat (first|apply Kd.R_alloc|apply Kd.R_drewN|apply Kd.R_drew));exact HO241.out) hb);have n4_:=Aside0.mk (below_step (by repeat (first|(with_reducible first|exact HB.out|apply below_alloc|apply pw_below_drewN|apply below_drew1)|exact HB.out)) hb);clear HO230;clear HO233;clear HO237;clear HO241;clear HB;have HO230:=n0_;have HO233:=n1_;have HO237:=n2_;have HO241:=n3_;have HB:=n4_;clear n0_ n1_ n2_ n3_ n4_;(try clear hb);(try clear hb2);(try clear hk);(try clear hi))|((with_reducible refine gate_callee (f:=28) rfl ?_);refine goesL_ (some 39) rfl rfl Try.func28 (by kernel_rfl) rfl #[.slice Ao35 y231.length co35,.agg #[.string t242,.int .u64 t243,.int .u8 t244]] rfl (by (try simp only [List.map_toArray,List.map_cons,List.map_nil]);first|done|rfl|(simp only [List.length_drop,List.length_take];rfl)) ?_;(with_reducible refine (block_Seek.calls _ _ y231 t242 t243 t244 t245 t246 t247 t248 true t250 _ ?side1 ?side2 A6.out).mono ?_);(case side1=>repeat (first|exact (Kd.R_reads' HO233.out).2.2|(with_reducible refine Kd.C_alloc ?_ _)|(with_reducible refine Kd.C_drewN ?_ _)|(with_reducible refine Kd.C_drew ?_)));(case side2=>exact (Kd.R_reads' HO233.out).2.1);rintro e w38 ⟨rfl,hb⟩;refine ⟨_,rfl,?_⟩;have n0_:=Aside0.mk (Kd.R_below (by (with_reducible repeat (first|apply Kd.R_alloc|apply Kd.R_drewN|apply Kd.R_drew));exact HO230.out) hb);have n1_:=Aside0.mk (Kd.R_below (by (with_reducible repeat (first|apply Kd.R_alloc|apply Kd.R_drewN|apply Kd.R_drew));exact HO233.out) hb);have n2_:=Aside0.mk (Kd.R_below (by (with_reducible repeat (first|apply Kd.R_alloc|apply Kd.R_drewN|apply Kd.R_drew));exact HO237.out) hb);have n3_:=Aside0.mk (Kd.R_below (by (with_reducible repeat (first|apply Kd.R_alloc|apply Kd.R_drewN|apply Kd.R_drew));exact HO241.out) hb);have n4_:=Aside0.mk (below_step (by repeat (first|(with_reducible first|exact HB.out|apply below_alloc|apply pw_below_drewN|apply below_drew1)|exact HB.out)) hb);clear HO230;clear HO233;clear HO237;clear HO241;clear HB;have HO230:=n0_;have HO233:=n1_;have HO237:=n2_;have HO241:=n3_;have HB:=n4_;clear n0_ n1_ n2_ n3_ n4_;(try clear hb);(try clear hb2);(try clear hk);(try clear hi))|((with_reducible refine gate_dst (N:=7) rfl ?_);refine box_event ?hg (N:=7) ?hd (cs:=#[.string (⟨#[]⟩ : ByteArray),.int .u64 0,.int .u8 0,.string (⟨#[]⟩ : ByteArray)]) (t:=59) ?hr ?_;(case hd=>rfl);(case hg=>rfl);(case hr=>first|(go_simp;done)|(go_simp;rfl));intro gb251 hg w39 hbox hb;have n0_:=Aside0.mk (Kd.R_below (Kd.R_elderB (by (with_reducible repeat (first|apply Kd.R_alloc|apply Kd.R_drewN|apply Kd.R_drew));exact HO230.out) gb251 (Nat.le_of_eq hg.symm)) hb);have n1_:=Aside0.mk (Kd.R_below (by (with_reducible repeat (first|apply Kd.R_alloc|apply Kd.R_drewN|apply Kd.R_drew));exact HO233.out) hb);have n2_:=Aside0.mk (Kd.R_below (by (with_reducible repeat (first|apply Kd.R_alloc|apply Kd.R_drewN|apply Kd.R_drew));exact HO237.out) hb);have n3_:=Aside0.mk (Kd.R_below (Kd.R_elderB (by (with_reducible repeat (first|apply Kd.R_alloc|apply Kd.R_drewN|apply Kd.R_drew));exact HO241.out) gb251 (Nat.le_of_eq hg.symm)) hb);have n4_:=Aside0.mk (below_step (by repeat (first|(with_reducible first|exact HB.out|apply below_alloc|apply pw_below_drewN|apply below_drew1)|exact HB.out)) hb);have n5_:=Aside0.mk (hbox);have n6_:=Aside0.mk ((by rw [hg];exact (below_size (by repeat (first|(with_reducible first|exact HB.out|apply below_alloc|apply pw_below_drewN|apply below_drew1)|exact HB.out))) : w.heap.size ≤ gb251));have n7_:=Aside0.mk ((by rw [hg];exact (below_size (by repeat (first|(with_reducible first|exact HB.out|apply below_alloc|apply pw_below_drewN|apply below_drew1)|exact HB.out))) : w.heap.size ≤ gb251));clear HO230;clear HO233;clear HO237;clear HO241;clear HB;have HO230:=n0_;have HO233:=n1_;have HO237:=n2_;have HO241:=n3_;have HB:=n4_;have BK251:=n5_;have GW251:=n6_;have GE251:=n7_;clear n0_ n1_ n2_ n3_ n4_ n5_ n6_ n7_;clear hb hbox hg;have hcz40_0 : w39.cell? ⟨gb251,0,none⟩ = some (.string (⟨#[]⟩ : ByteArray)):=(blk_cell BK251.out 0).trans rfl;have hcz40_1 : w39.cell? ⟨gb251,1,none⟩ = some (.int .u64 0):=(blk_cell BK251.out 1).trans rfl;have hcz40_2 : w39.cell? ⟨gb251,2,none⟩ = some (.int .u8 0):=(blk_cell BK251.out 2).trans rfl;have hcz40_3 : w39.cell? ⟨gb251,3,none⟩ = some (.string (⟨#[]⟩ : ByteArray)):=(blk_cell BK251.out 3).trans rfl;have hfz40_0:=blk_frozen BK251.out 0;have hfz40_1:=blk_frozen BK251.out 1;have hfz40_2:=blk_frozen BK251.out 2;have hfz40_3:=blk_frozen BK251.out 3)|((with_reducible refine gate_callee (f:=33) rfl ?_);refine goesL_ (some 45) rfl rfl Try.func33 (by kernel_rfl) rfl #[.string (⟨#[97]⟩ : ByteArray),.int .u64 4,.int .u8 1] rfl (by (try simp only [List.map_toArray,List.map_cons,List.map_nil]);first|done|rfl|(simp only [List.length_drop,List.length_take];rfl)) ?_;(with_reducible refine (ratlinelaw07_key.calls (⟨#[97]⟩ : ByteArray) 4 1 t252 t253 t254 _ A7.out).mono ?_);rintro e w41 ⟨rfl,hb⟩;refine ⟨_,rfl,?_⟩;have n0_:=Aside0.mk (Kd.R_below (by (with_reducible repeat (first|apply Kd.R_alloc|apply Kd.R_drewN|apply Kd.R_drew));exact (Kd.R_mono (Kd.R_far (p:=⟨gb251,3,none⟩) (Kd.R_far (p:=⟨gb251,2,none⟩) (Kd.R_far (p:=⟨gb251,1,none⟩) (Kd.R_far (p:=⟨gb251,0,none⟩) (Kd.R_mono HO230.out (fun k_ hk=>(⟨hk,hk.2⟩ : _ ∧ k_ ≠ gb251))) (fun _ hk=>hk.2) (.string t245)) (fun _ hk=>hk.2) (.int .u64 t246)) (fun _ hk=>hk.2) (.int .u8 t247)) (fun _ hk=>hk.2) (.string t248)) (fun _ h_=>h_.1))) hb);have n1_:=Aside0.mk (Kd.R_below (by (with_reducible repeat (first|apply Kd.R_alloc|apply Kd.R_drewN|apply Kd.R_drew));exact (Kd.R_mono (Kd.R_far (p:=⟨gb251,3,none⟩) (Kd.R_far (p:=⟨gb251,2,none⟩) (Kd.R_far (p:=⟨gb251,1,none⟩) (Kd.R_far (p:=⟨gb251,0,none⟩) (Kd.R_types HO233.out BK251.out (by decide)) (fun _ hk=>hk.2) (.string t245)) (fun _ hk=>hk.2) (.int .u64 t246)) (fun _ hk=>hk.2) (.int .u8 t247)) (fun _ hk=>hk.2) (.string t248)) (fun _ h_=>h_.1))) hb);have n2_:=Aside0.mk (Kd.R_below (by (with_reducible repeat (first|apply Kd.R_alloc|apply Kd.R_drewN|apply Kd.R_drew));exact (Kd.R_mono (Kd.R_far (p:=⟨gb251,3,none⟩) (Kd.R_far (p:=⟨gb251,2,none⟩) (Kd.R_far (p:=⟨gb251,1,none⟩) (Kd.R_far (p:=⟨gb251,0,none⟩) (Kd.R_types HO237.out BK251.out (by decide)) (fun _ hk=>hk.2) (.string t245)) (fun _ hk=>hk.2) (.int .u64 t246)) (fun _ hk=>hk.2) (.int .u8 t247)) (fun _ hk=>hk.2) (.string t248)) (fun _ h_=>h_.1))) hb);have n3_:=Aside0.mk (Kd.R_below (by (with_reducible repeat (first|apply Kd.R_alloc|apply Kd.R_drewN|apply Kd.R_drew));exact (Kd.R_mono (Kd.R_far (p:=⟨gb251,3,none⟩) (Kd.R_far (p:=⟨gb251,2,none⟩) (Kd.R_far (p:=⟨gb251,1,none⟩) (Kd.R_far (p:=⟨gb251,0,none⟩) (Kd.R_mono HO241.out (fun k_ hk=>(⟨hk,hk.2⟩ : _ ∧ k_ ≠ gb251))) (fun _ hk=>hk.2) (.string t245)) (fun _ hk=>hk.2) (.int .u64 t246)) (fun _ hk=>hk.2) (.int .u8 t247)) (fun _ hk=>hk.2) (.string t248)) (fun _ h_=>h_.1))) hb);have n4_:=Aside0.mk (blk_below (g:=gb251) (o:=.cells #[.string t245,.int .u64 t246,.int .u8 t247,.string t248] 59 (0,0)) (by (with_reducible repeat (first|refine blk_drewN ?_ _|refine blk_drew ?_|refine blk_alloc ?_ _));refine blk_put (cs:=#[.string t245,.int .u64 t246,.int .u8 t247,.string (⟨#[]⟩ : ByteArray)]) ?_ 3 _ rfl;(with_reducible repeat (first|refine blk_drewN ?_ _|refine blk_drew ?_|refine blk_alloc ?_ _));refine blk_put (cs:=#[.string t245,.int .u64 t246,.int .u8 0,.string (⟨#[]⟩ : ByteArray)]) ?_ 2 _ rfl;(with_reducible repeat (first|refine blk_drewN ?_ _|refine blk_drew ?_|refine blk_alloc ?_ _));refine blk_put (cs:=#[.string t245,.int .u64 0,.int .u8 0,.string (⟨#[]⟩ : ByteArray)]) ?_ 1 _ rfl;(with_reducible repeat (first|refine blk_drewN ?_ _|refine blk_drew ?_|refine blk_alloc ?_ _));refine blk_put (cs:=#[.string (⟨#[]⟩ : ByteArray),.int .u64 0,.int .u8 0,.string (⟨#[]⟩ : ByteArray)]) ?_ 0 _ rfl;(with_reducible repeat (first|refine blk_drewN ?_ _|refine blk_drew ?_|refine blk_alloc ?_ _));exact BK251.out) hb);have n5_:=Aside0.mk (below_step (by repeat (first|(with_reducible first|exact HB.out|apply below_alloc|apply pw_below_drewN|apply below_drew1|refine below_set ?_ GE251.out)|exact HB.out)) hb);clear HO230;clear HO233;clear HO237;clear HO241;clear BK251;clear HB;have HO230:=n0_;have HO233:=n1_;have HO237:=n2_;have HO241:=n3_;have BK251:=n4_;have HB:=n5_;clear n0_ n1_ n2_ n3_ n4_ n5_;(try clear hb);(try clear hb2);(try clear hk);(try clear hi))|((with_reducible refine gate_callee (f:=28) rfl ?_);refine goesL_ (some 46) rfl rfl Try.func28 (by kernel_rfl) rfl #[.slice Ao35 y231.length co35,.agg #[.string t252,.int .u64 t253,.int .u8 t254]] rfl (by (try simp only [List.map_toArray,List.map_cons,List.map_nil]);first|done|rfl|(simp only [List.length_drop,List.length_take];rfl)) ?_;(with_reducible refine (block_Seek.calls _ _ y231 t252 t253 t254 t255 t256 t257 t258 true t260 _ ?side1 ?side2 A8.out).mono ?_);(case side1=>repeat (first|exact (Kd.R_reads' HO233.out).2.2|(with_reducible refine Kd.C_alloc ?_ _)|(with_reducible refine Kd.C_drewN ?_ _)|(with_reducible refine Kd.C_drew ?_)));(case side2=>exact (Kd.R_reads' HO233.out).2.1);rintro e w42 ⟨rfl,hb⟩;refine ⟨_,rfl,?_⟩;have n0_:=Aside0.mk (Kd.R_below (by (with_reducible repeat (first|apply Kd.R_alloc|apply Kd.R_drewN|apply Kd.R_drew));exact HO230.out) hb);have n1_:=Aside0.mk (Kd.R_below (by (with_reducible repeat (first|apply Kd.R_alloc|apply Kd.R_drewN|apply Kd.R_drew));exact HO233.out) hb);have n2_:=Aside0.mk (Kd.R_below (by (with_reducible repeat (first|apply Kd.R_alloc|apply Kd.R_drewN|apply Kd.R_drew));exact HO237.out) hb);have n3_:=Aside0.mk (Kd.R_below (by (with_reducible repeat (first|apply Kd.R_alloc|apply Kd.R_drewN|apply Kd.R_drew));exact HO241.out) hb);have n4_:=Aside0.mk (blk_below (g:=gb251) (o:=.cells #[.string t245,.int .u64 t246,.int .u8 t247,.string t248] 59 (0,0)) (by (with_reducible repeat (first|refine blk_drewN ?_ _|refine blk_drew ?_|refine blk_alloc ?_ _));exact BK251.out) hb);have n5_:=Aside0.mk (below_step (by repeat (first|(with_reducible first|exact HB.out|apply below_alloc|apply pw_below_drewN|apply below_drew1|refine below_set ?_ GE251.out)|exact HB.out)) hb);clear HO230;clear HO233;clear HO237;clear HO241;clear BK251;clear HB;have HO230:=n0_;have HO233:=n1_;have HO237:=n2_;have HO241:=n3_;have BK251:=n4_;have HB:=n5_;clear n0_ n1_ n2_ n3_ n4_ n5_;(try clear hb);(try clear hb2);(try clear hk);(try clear hi))|((with_reducible refine gate_dst (N:=10) rfl ?_);refine box_event ?hg (N:=10) ?hd (cs:=#[.string (⟨#[]⟩ : ByteArray),.int .u64 0,.int .u8 0,.string (⟨#[]⟩ : ByteArray)]) (t:=59) ?hr ?_;(case hd=>rfl);(case hg=>rfl);(case hr=>first|(go_simp;done)|(go_simp;rfl));intro gb261 hg w43 hbox hb;have n0_:=Aside0.mk (Kd.R_below (Kd.R_elderB (by (with_reducible repeat (first|apply Kd.R_alloc|apply Kd.R_drewN|apply Kd.R_drew));exact HO230.out) gb261 (Nat.le_of_eq hg.symm)) hb);have n1_:=Aside0.mk (Kd.R_below (by (with_reducible repeat (first|apply Kd.R_alloc|apply Kd.R_drewN|apply Kd.R_drew));exact HO233.out) hb);have n2_:=Aside0.mk (Kd.R_below (by (with_reducible repeat (first|apply Kd.R_alloc|apply Kd.R_drewN|apply Kd.R_drew));exact HO237.out) hb);have n3_:=Aside0.mk (Kd.R_below (Kd.R_elderB (by (with_reducible repeat (first|apply Kd.R_alloc|apply Kd.R_drewN|apply Kd.R_drew));exact HO241.out) gb261 (Nat.le_of_eq hg.symm)) hb);have n4_:=Aside0.mk (blk_below (g:=gb251) (o:=.cells #[.string t245,.int .u64 t246,.int .u8 t247,.string t248] 59 (0,0)) (by (with_reducible repeat (first|refine blk_drewN ?_ _|refine blk_drew ?_|refine blk_alloc ?_ _));exact BK251.out) hb);have n5_:=Aside0.mk (below_step (by repeat (first|(with_reducible first|exact HB.out|apply below_alloc|apply pw_below_drewN|apply below_drew1|refine below_set ?_ GE251.out)|exact HB.out)) hb);have n6_:=Aside0.mk (hbox);have n7_:=Aside0.mk ((by rw [hg];exact (below_size (by repeat (first|(with_reducible first|exact HB.out|apply below_alloc|apply pw_below_drewN|apply below_drew1|refine below_set ?_ GE251.out)|exact HB.out))) : w.heap.size ≤ gb261));have n8_:=Aside0.mk ((by rw [hg];exact (below_size (by repeat (first|(with_reducible first|exact HB.out|apply below_alloc|apply pw_below_drewN|apply below_drew1|refine below_set ?_ GE251.out)|exact HB.out))) : w.heap.size ≤ gb261));have n9_:=Aside0.mk ((by rw [hg];exact Nat.ne_of_lt (blk_lt (g:=gb251) (o:=.cells #[.string t245,.int .u64 t246,.int .u8 t247,.string t248] 59 (0,0)) (by (with_reducible repeat (first|refine blk_drewN ?_ _|refine blk_drew ?_|refine blk_alloc ?_ _));exact BK251.out)) : gb251 ≠ gb261));have n10_:=Aside0.mk ((by rw [hg];exact Nat.ne_of_gt (blk_lt (g:=gb251) (o:=.cells #[.string t245,.int .u64 t246,.int .u8 t247,.string t248] 59 (0,0)) (by (with_reducible repeat (first|refine blk_drewN ?_ _|refine blk_drew ?_|refine blk_alloc ?_ _));exact BK251.out)) : gb261 ≠ gb251));clear HO230;clear HO233;clear HO237;clear HO241;clear BK251;clear HB;have HO230:=n0_;have HO233:=n1_;have HO237:=n2_;have HO241:=n3_;have BK251:=n4_;have HB:=n5_;have BK261:=n6_;have GW261:=n7_;have GE261:=n8_;have NB251_261:=n9_;have NB261_251:=n10_;clear n0_ n1_ n2_ n3_ n4_ n5_ n6_ n7_ n8_ n9_ n10_;clear hb hbox hg;have hnb44:=NB261_251.out;have hnc44:=NB251_261.out;have hcz45_0 : w43.cell? ⟨gb261,0,none⟩ = some (.string (⟨#[]⟩ : ByteArray)):=(blk_cell BK261.out 0).trans rfl;have hcz45_1 : w43.cell? ⟨gb261,1,none⟩ = some (.int .u64 0):=(blk_cell BK261.out 1).trans rfl;have hcz45_2 : w43.cell? ⟨gb261,2,none⟩ = some (.int .u8 0):=(blk_cell BK261.out 2).trans rfl;have hcz45_3 : w43.cell? ⟨gb261,3,none⟩ = some (.string (⟨#[]⟩ : ByteArray)):=(blk_cell BK261.out 3).trans rfl;have hfz45_0:=blk_frozen BK261.out 0;have hfz45_1:=blk_frozen BK261.out 1;have hfz45_2:=blk_frozen BK261.out 2;have hfz45_3:=blk_frozen BK261.out 3)|((with_reducible refine gate_callee (f:=33) rfl ?_);refine goesL_ (some 52) rfl rfl Try.func33 (by kernel_rfl) rfl #[.string (⟨#[97,98]⟩ : ByteArray),.int .u64 3,.int .u8 1] rfl (by (try simp only [List.map_toArray,List.map_cons,List.map_nil]);first|done|rfl|(simp only [List.length_drop,List.length_take];rfl)) ?_;(with_reducible refine (ratlinelaw07_key.calls (⟨#[97,98]⟩ : ByteArray) 3 1 t262 t263 t264 _ A9.out).mono ?_);rintro e w46 ⟨rfl,hb⟩;refine ⟨_,rfl,?_⟩;have n0_:=Aside0.mk (Kd.R_below (by (with_reducible repeat (first|apply Kd.R_alloc|apply Kd.R_drewN|apply Kd.R_drew));exact (Kd.R_mono (Kd.R_far (p:=⟨gb261,3,none⟩) (Kd.R_far (p:=⟨gb261,2,none⟩) (Kd.R_far (p:=⟨gb261,1,none⟩) (Kd.R_far (p:=⟨gb261,0,none⟩) (Kd.R_mono HO230.out (fun k_ hk=>(⟨hk,hk.2⟩ : _ ∧ k_ ≠ gb261))) (fun _ hk=>hk.2) (.string t255)) (fun _ hk=>hk.2) (.int .u64 t256)) (fun _ hk=>hk.2) (.int .u8 t257)) (fun _ hk=>hk.2) (.string t258)) (fun _ h_=>h_.1))) hb);have n1_:=Aside0.mk (Kd.R_below (by (with_reducible repeat (first|apply Kd.R_alloc|apply Kd.R_drewN|apply Kd.R_drew));exact (Kd.R_mono (Kd.R_far (p:=⟨gb261,3,none⟩) (Kd.R_far (p:=⟨gb261,2,none⟩) (Kd.R_far (p:=⟨gb261,1,none⟩) (Kd.R_far (p:=⟨gb261,0,none⟩) (Kd.R_types HO233.out BK261.out (by decide)) (fun _ hk=>hk.2) (.string t255)) (fun _ hk=>hk.2) (.int .u64 t256)) (fun _ hk=>hk.2) (.int .u8 t257)) (fun _ hk=>hk.2) (.string t258)) (fun _ h_=>h_.1))) hb);have n2_:=Aside0.mk (Kd.R_below (by (with_reducible repeat (first|apply Kd.R_alloc|apply Kd.R_drewN|apply Kd.R_drew));exact (Kd.R_mono (Kd.R_far (p:=⟨gb261,3,none⟩) (Kd.R_far (p:=⟨gb261,2,none⟩) (Kd.R_far (p:=⟨gb261,1,none⟩) (Kd.R_far (p:=⟨gb261,0,none⟩) (Kd.R_types HO237.out BK261.out (by decide)) (fun _ hk=>hk.2) (.string t255)) (fun _ hk=>hk.2) (.int .u64 t256)) (fun _ hk=>hk.2) (.int .u8 t257)) (fun _ hk=>hk.2) (.string t258)) (fun _ h_=>h_.1))) hb);have n3_:=Aside0.mk (Kd.R_below (by (with_reducible repeat (first|apply Kd.R_alloc|apply Kd.R_drewN|apply Kd.R_drew));exact (Kd.R_mono (Kd.R_far (p:=⟨gb261,3,none⟩) (Kd.R_far (p:=⟨gb261,2,none⟩) (Kd.R_far (p:=⟨gb261,1,none⟩) (Kd.R_far (p:=⟨gb261,0,none⟩) (Kd.R_mono HO241.out (fun k_ hk=>(⟨hk,hk.2⟩ : _ ∧ k_ ≠ gb261))) (fun _ hk=>hk.2) (.string t255)) (fun _ hk=>hk.2) (.int .u64 t256)) (fun _ hk=>hk.2) (.int .u8 t257)) (fun _ hk=>hk.2) (.string t258)) (fun _ h_=>h_.1))) hb);have n4_:=Aside0.mk (blk_below (g:=gb251) (o:=.cells #[.string t245,.int .u64 t246,.int .u8 t247,.string t248] 59 (0,0)) (by (with_reducible repeat (first|refine blk_drewN ?_ _|refine blk_drew ?_|refine blk_alloc ?_ _));refine blk_far ?_ NB251_261.out _;(with_reducible repeat (first|refine blk_drewN ?_ _|refine blk_drew ?_|refine blk_alloc ?_ _));refine blk_far ?_ NB251_261.out _;(with_reducible repeat (first|refine blk_drewN ?_ _|refine blk_drew ?_|refine blk_alloc ?_ _));refine blk_far ?_ NB251_261.out _;(with_reducible repeat (first|refine blk_drewN ?_ _|refine blk_drew ?_|refine blk_alloc ?_ _));refine blk_far ?_ NB251_261.out _;(with_reducible repeat (first|refine blk_drewN ?_ _|refine blk_drew ?_|refine blk_alloc ?_ _));exact BK251.out) hb);have n5_:=Aside0.mk (blk_below (g:=gb261) (o:=.cells #[.string t255,.int .u64 t256,.int .u8 t257,.string t258] 59 (0,0)) (by (with_reducible repeat (first|refine blk_drewN ?_ _|refine blk_drew ?_|refine blk_alloc ?_ _));refine blk_put (cs:=#[.string t255,.int .u64 t256,.int .u8 t257,.string (⟨#[]⟩ : ByteArray)]) ?_ 3 _ rfl;(with_reducible repeat (first|refine blk_drewN ?_ _|refine blk_drew ?_|refine blk_alloc ?_ _));refine blk_put (cs:=#[.string t255,.int .u64 t256,.int .u8 0,.string (⟨#[]⟩ : ByteArray)]) ?_ 2 _ rfl;(with_reducible repeat (first|refine blk_drewN ?_ _|refine blk_drew ?_|refine blk_alloc ?_ _));refine blk_put (cs:=#[.string t255,.int .u64 0,.int .u8 0,.string (⟨#[]⟩ : ByteArray)]) ?_ 1 _ rfl;(with_reducible repeat (first|refine blk_drewN ?_ _|refine blk_drew ?_|refine blk_alloc ?_ _));refine blk_put (cs:=#[.string (⟨#[]⟩ : ByteArray),.int .u64 0,.int .u8 0,.string (⟨#[]⟩ : ByteArray)]) ?_ 0 _ rfl;(with_reducible repeat (first|refine blk_drewN ?_ _|refine blk_drew ?_|refine blk_alloc ?_ _));exact BK261.out) hb);have n6_:=Aside0.mk (below_step (by repeat (first|(with_reducible first|exact HB.out|apply below_alloc|apply pw_below_drewN|apply below_drew1|refine below_set ?_ GE251.out|refine below_set ?_ GE261.out)|exact HB.out)) hb);clear HO230;clear HO233;clear HO237;clear HO241;clear BK251;clear BK261;clear HB;have HO230:=n0_;have HO233:=n1_;have HO237:=n2_;have HO241:=n3_;have BK251:=n4_;have BK261:=n5_;have HB:=n6_;clear n0_ n1_ n2_ n3_ n4_ n5_ n6_;(try clear hb);(try clear hb2);(try clear hk);(try clear hi))|((with_reducible refine gate_callee (f:=28) rfl ?_);refine goesL_ (some 53) rfl rfl Try.func28 (by kernel_rfl) rfl #[.slice Ao35 y231.length co35,.agg #[.string t262,.int .u64 t263,.int .u8 t264]] rfl (by (try simp only [List.map_toArray,List.map_cons,List.map_nil]);first|done|rfl|(simp only [List.length_drop,List.length_take];rfl)) ?_;(with_reducible refine (block_Seek.calls _ _ y231 t262 t263 t264 t265 t266 t267 t268 false t270 _ ?side1 ?side2 A10.out).mono ?_);(case side1=>repeat (first|exact (Kd.R_reads' HO233.out).2.2|(with_reducible refine Kd.C_alloc ?_ _)|(with_reducible refine Kd.C_drewN ?_ _)|(with_reducible refine Kd.C_drew ?_)));(case side2=>exact (Kd.R_reads' HO233.out).2.1);rintro e w47 ⟨rfl,hb⟩;refine ⟨_,rfl,?_⟩;have n0_:=Aside0.mk (Kd.R_below (by (with_reducible repeat (first|apply Kd.R_alloc|apply Kd.R_drewN|apply Kd.R_drew));exact HO230.out) hb);have n1_:=Aside0.mk (Kd.R_below (by (with_reducible repeat (first|apply Kd.R_alloc|apply Kd.R_drewN|apply Kd.R_drew));exact HO233.out) hb);have n2_:=Aside0.mk (Kd.R_below (by (with_reducible repeat (first|apply Kd.R_alloc|apply Kd.R_drewN|apply Kd.R_drew));exact HO237.out) hb);have n3_:=Aside0.mk (Kd.R_below (by (with_reducible repeat (first|apply Kd.R_alloc|apply Kd.R_drewN|apply Kd.R_drew));exact HO241.out) hb);have n4_:=Aside0.mk (blk_below (g:=gb251) (o:=.cells #[.string t245,.int .u64 t246,.int .u8 t247,.string t248] 59 (0,0)) (by (with_reducible repeat (first|refine blk_drewN ?_ _|refine blk_drew ?_|refine blk_alloc ?_ _));exact BK251.out) hb);have n5_:=Aside0.mk (blk_below (g:=gb261) (o:=.cells #[.string t255,.int .u64 t256,.int .u8 t257,.string t258] 59 (0,0)) (by (with_reducible repeat (first|refine blk_drewN ?_ _|refine blk_drew ?_|refine blk_alloc ?_ _));exact BK261.out) hb);have n6_:=Aside0.mk (below_step (by repeat (first|(with_reducible first|exact HB.out|apply below_alloc|apply pw_below_drewN|apply below_drew1|refine below_set ?_ GE251.out|refine below_set ?_ GE261.out)|exact HB.out)) hb);clear HO230;clear HO233;clear HO237;clear HO241;clear BK251;clear BK261;clear HB;have HO230:=n0_;have HO233:=n1_;have HO237:=n2_;have HO241:=n3_;have BK251:=n4_;have BK261:=n5_;have HB:=n6_;clear n0_ n1_ n2_ n3_ n4_ n5_ n6_;(try clear hb);(try clear hb2);(try clear hk);(try clear hi))|((with_reducible refine gate_dst (N:=13) rfl ?_);refine box_event ?hg (N:=13) ?hd (cs:=#[.string (⟨#[]⟩ : ByteArray),.int .u64 0,.int .u8 0,.string (⟨#[]⟩ : ByteArray)]) (t:=59) ?hr ?_;(case hd=>rfl);(case hg=>rfl);(case hr=>first|(go_simp;done)|(go_simp;rfl));intro gb271 hg w48 hbox hb;have n0_:=Aside0.mk (Kd.R_below (Kd.R_elderB (by (with_reducible repeat (first|apply Kd.R_alloc|apply Kd.R_drewN|apply Kd.R_drew));exact HO230.out) gb271 (Nat.le_of_eq hg.symm)) hb);have n1_:=Aside0.mk (Kd.R_below (by (with_reducible repeat (first|apply Kd.R_alloc|apply Kd.R_drewN|apply Kd.R_drew));exact HO233.out) hb);have n2_:=Aside0.mk (Kd.R_below (by (with_reducible repeat (first|apply Kd.R_alloc|apply Kd.R_drewN|apply Kd.R_drew));exact HO237.out) hb);have n3_:=Aside0.mk (Kd.R_below (Kd.R_elderB (by (with_reducible repeat (first|apply Kd.R_alloc|apply Kd.R_drewN|apply Kd.R_drew));exact HO241.out) gb271 (Nat.le_of_eq hg.symm)) hb);have n4_:=Aside0.mk (blk_below (g:=gb251) (o:=.cells #[.string t245,.int .u64 t246,.int .u8 t247,.string t248] 59 (0,0)) (by (with_reducible repeat (first|refine blk_drewN ?_ _|refine blk_drew ?_|refine blk_alloc ?_ _));exact BK251.out) hb);have n5_:=Aside0.mk (blk_below (g:=gb261) (o:=.cells #[.string t255,.int .u64 t256,.int .u8 t257,.string t258] 59 (0,0)) (by (with_reducible repeat (first|refine blk_drewN ?_ _|refine blk_drew ?_|refine blk_alloc ?_ _));exact BK261.out) hb);have n6_:=Aside0.mk (below_step (by repeat (first|(with_reducible first|exact HB.out|apply below_alloc|apply pw_below_drewN|apply below_drew1|refine below_set ?_ GE251.out|refine below_set ?_ GE261.out)|exact HB.out)) hb);have n7_:=Aside0.mk (hbox);have n8_:=Aside0.mk ((by rw [hg];exact (below_size (by repeat (first|(with_reducible first|exact HB.out|apply below_alloc|apply pw_below_drewN|apply below_drew1|refine below_set ?_ GE251.out|refine below_set ?_ GE261.out)|exact HB.out))) : w.heap.size ≤ gb271));have n9_:=Aside0.mk ((by rw [hg];exact (below_size (by repeat (first|(with_reducible first|exact HB.out|apply below_alloc|apply pw_below_drewN|apply below_drew1|refine below_set ?_ GE251.out|refine below_set ?_ GE261.out)|exact HB.out))) : w.heap.size ≤ gb271));have n10_:=Aside0.mk ((by rw [hg];exact Nat.ne_of_lt (blk_lt (g:=gb251) (o:=.cells #[.string t245,.int .u64 t246,.int .u8 t247,.string t248] 59 (0,0)) (by (with_reducible repeat (first|refine blk_drewN ?_ _|refine blk_drew ?_|refine blk_alloc ?_ _));exact BK251.out)) : gb251 ≠ gb271));have n11_:=Aside0.mk ((by rw [hg];exact Nat.ne_of_gt (blk_lt (g:=gb251) (o:=.cells #[.string t245,.int .u64 t246,.int .u8 t247,.string t248] 59 (0,0)) (by (with_reducible repeat (first|refine blk_drewN ?_ _|refine blk_drew ?_|refine blk_alloc ?_ _));exact BK251.out)) : gb271 ≠ gb251));have n12_:=Aside0.mk ((by rw [hg];exact Nat.ne_of_lt (blk_lt (g:=gb261) (o:=.cells #[.string t255,.int .u64 t256,.int .u8 t257,.string t258] 59 (0,0)) (by (with_reducible repeat (first|refine blk_drewN ?_ _|refine blk_drew ?_|refine blk_alloc ?_ _));exact BK261.out)) : gb261 ≠ gb271));have n13_:=Aside0.mk ((by rw [hg];exact Nat.ne_of_gt (blk_lt (g:=gb261) (o:=.cells #[.string t255,.int .u64 t256,.int .u8 t257,.string t258] 59 (0,0)) (by (with_reducible repeat (first|refine blk_drewN ?_ _|refine blk_drew ?_|refine blk_alloc ?_ _));exact BK261.out)) : gb271 ≠ gb261));clear HO230;clear HO233;clear HO237;clear HO241;clear BK251;clear BK261;clear HB;have HO230:=n0_;have HO233:=n1_;have HO237:=n2_;have HO241:=n3_;have BK251:=n4_;have BK261:=n5_;have HB:=n6_;have BK271:=n7_;have GW271:=n8_;have GE271:=n9_;have NB251_271:=n10_;have NB271_251:=n11_;have NB261_271:=n12_;have NB271_261:=n13_;clear n0_ n1_ n2_ n3_ n4_ n5_ n6_ n7_ n8_ n9_ n10_ n11_ n12_ n13_;clear hb hbox hg;have hnb49:=NB271_251.out;have hnc49:=NB251_271.out;have hnb50:=NB271_261.out;have hnc50:=NB261_271.out;have hcz51_0 : w48.cell? ⟨gb271,0,none⟩ = some (.string (⟨#[]⟩ : ByteArray)):=(blk_cell BK271.out 0).trans rfl;have hcz51_1 : w48.cell? ⟨gb271,1,none⟩ = some (.int .u64 0):=(blk_cell BK271.out 1).trans rfl;have hcz51_2 : w48.cell? ⟨gb271,2,none⟩ = some (.int .u8 0):=(blk_cell BK271.out 2).trans rfl;have hcz51_3 : w48.cell? ⟨gb271,3,none⟩ = some (.string (⟨#[]⟩ : ByteArray)):=(blk_cell BK271.out 3).trans rfl;have hfz51_0:=blk_frozen BK271.out 0;have hfz51_1:=blk_frozen BK271.out 1;have hfz51_2:=blk_frozen BK271.out 2;have hfz51_3:=blk_frozen BK271.out 3)|(go_at_call 22;(refine calls_of_args (args':=#[.slice none (([] : List (S59))).length 0]) (by rfl) ?_;with_reducible refine (block_Build.calls _ _ ([] : List (S59)) t272 t273 _ ?side1 ?side2 A11.out).mono ?_);(case side1=>exact Kd.C_nil _ _);(case side2=>exact Nat.le_refl _);rintro e w52 ⟨v274,rfl,ho0,hb⟩;have n0_:=Aside0.mk (Kd.R_below (by (with_reducible repeat (first|apply Kd.R_alloc|apply Kd.R_drewN|apply Kd.R_drew));exact (Kd.R_mono (Kd.R_far (p:=⟨gb271,3,none⟩) (Kd.R_far (p:=⟨gb271,2,none⟩) (Kd.R_far (p:=⟨gb271,1,none⟩) (Kd.R_far (p:=⟨gb271,0,none⟩) (Kd.R_mono HO230.out (fun k_ hk=>(⟨hk,hk.2⟩ : _ ∧ k_ ≠ gb271))) (fun _ hk=>hk.2) (.string t265)) (fun _ hk=>hk.2) (.int .u64 t266)) (fun _ hk=>hk.2) (.int .u8 t267)) (fun _ hk=>hk.2) (.string t268)) (fun _ h_=>h_.1))) hb);have n1_:=Aside0.mk (Kd.R_elder' (by (with_reducible repeat (first|apply Kd.R_alloc|apply Kd.R_drewN|apply Kd.R_drew));exact (Kd.R_mono (Kd.R_far (p:=⟨gb271,3,none⟩) (Kd.R_far (p:=⟨gb271,2,none⟩) (Kd.R_far (p:=⟨gb271,1,none⟩) (Kd.R_far (p:=⟨gb271,0,none⟩) (Kd.R_types HO233.out BK271.out (by decide)) (fun _ hk=>hk.2) (.string t265)) (fun _ hk=>hk.2) (.int .u64 t266)) (fun _ hk=>hk.2) (.int .u8 t267)) (fun _ hk=>hk.2) (.string t268)) (fun _ h_=>h_.1))) (Kd.R_base ho0) hb);have n2_:=Aside0.mk (Kd.R_elder' (by (with_reducible repeat (first|apply Kd.R_alloc|apply Kd.R_drewN|apply Kd.R_drew));exact (Kd.R_mono (Kd.R_far (p:=⟨gb271,3,none⟩) (Kd.R_far (p:=⟨gb271,2,none⟩) (Kd.R_far (p:=⟨gb271,1,none⟩) (Kd.R_far (p:=⟨gb271,0,none⟩) (Kd.R_types HO237.out BK271.out (by decide)) (fun _ hk=>hk.2) (.string t265)) (fun _ hk=>hk.2) (.int .u64 t266)) (fun _ hk=>hk.2) (.int .u8 t267)) (fun _ hk=>hk.2) (.string t268)) (fun _ h_=>h_.1))) (Kd.R_base ho0) hb);have n3_:=Aside0.mk (Kd.R_below (by (with_reducible repeat (first|apply Kd.R_alloc|apply Kd.R_drewN|apply Kd.R_drew));exact (Kd.R_mono (Kd.R_far (p:=⟨gb271,3,none⟩) (Kd.R_far (p:=⟨gb271,2,none⟩) (Kd.R_far (p:=⟨gb271,1,none⟩) (Kd.R_far (p:=⟨gb271,0,none⟩) (Kd.R_mono HO241.out (fun k_ hk=>(⟨hk,hk.2⟩ : _ ∧ k_ ≠ gb271))) (fun _ hk=>hk.2) (.string t265)) (fun _ hk=>hk.2) (.int .u64 t266)) (fun _ hk=>hk.2) (.int .u8 t267)) (fun _ hk=>hk.2) (.string t268)) (fun _ h_=>h_.1))) hb);have n4_:=Aside0.mk (Kd.R_lower (Kd.R_new' (Kd.R_new' ho0 (Kd.R_lt (by (with_reducible repeat (first|apply Kd.R_alloc|apply Kd.R_drewN|apply Kd.R_drew));exact (Kd.R_mono (Kd.R_far (p:=⟨gb271,3,none⟩) (Kd.R_far (p:=⟨gb271,2,none⟩) (Kd.R_far (p:=⟨gb271,1,none⟩) (Kd.R_far (p:=⟨gb271,0,none⟩) (Kd.R_types HO233.out BK271.out (by decide)) (fun _ hk=>hk.2) (.string t265)) (fun _ hk=>hk.2) (.int .u64 t266)) (fun _ hk=>hk.2) (.int .u8 t267)) (fun _ hk=>hk.2) (.string t268)) (fun _ h_=>h_.1))))) (Kd.R_lt (by (with_reducible repeat (first|apply Kd.R_alloc|apply Kd.R_drewN|apply Kd.R_drew));exact (Kd.R_mono (Kd.R_far (p:=⟨gb271,3,none⟩) (Kd.R_far (p:=⟨gb271,2,none⟩) (Kd.R_far (p:=⟨gb271,1,none⟩) (Kd.R_far (p:=⟨gb271,0,none⟩) (Kd.R_types HO237.out BK271.out (by decide)) (fun _ hk=>hk.2) (.string t265)) (fun _ hk=>hk.2) (.int .u64 t266)) (fun _ hk=>hk.2) (.int .u8 t267)) (fun _ hk=>hk.2) (.string t268)) (fun _ h_=>h_.1))))) (below_size (by repeat (first|(with_reducible first|exact HB.out|apply below_alloc|apply pw_below_drewN|apply below_drew1|refine below_set ?_ GE251.out|refine below_set ?_ GE261.out|refine below_set ?_ GE271.out)|exact HB.out))));have n5_:=Aside0.mk (blk_below (g:=gb251) (o:=.cells #[.string t245,.int .u64 t246,.int .u8 t247,.string t248] 59 (0,0)) (by (with_reducible repeat (first|refine blk_drewN ?_ _|refine blk_drew ?_|refine blk_alloc ?_ _));refine blk_far ?_ NB251_271.out _;(with_reducible repeat (first|refine blk_drewN ?_ _|refine blk_drew ?_|refine blk_alloc ?_ _));refine blk_far ?_ NB251_271.out _;(with_reducible repeat (first|refine blk_drewN ?_ _|refine blk_drew ?_|refine blk_alloc ?_ _));refine blk_far ?_ NB251_271.out _;(with_reducible repeat (first|refine blk_drewN ?_ _|refine blk_drew ?_|refine blk_alloc ?_ _));refine blk_far ?_ NB251_271.out _;(with_reducible repeat (first|refine blk_drewN ?_ _|refine blk_drew ?_|refine blk_alloc ?_ _));exact BK251.out) hb);have n6_:=Aside0.mk (blk_below (g:=gb261) (o:=.cells #[.string t255,.int .u64 t256,.int .u8 t257,.string t258] 59 (0,0)) (by (with_reducible repeat (first|refine blk_drewN ?_ _|refine blk_drew ?_|refine blk_alloc ?_ _));refine blk_far ?_ NB261_271.out _;(with_reducible repeat (first|refine blk_drewN ?_ _|refine blk_drew ?_|refine blk_alloc ?_ _));refine blk_far ?_ NB261_271.out _;(with_reducible repeat (first|refine blk_drewN ?_ _|refine blk_drew ?_|refine blk_alloc ?_ _));refine blk_far ?_ NB261_271.out _;(with_reducible repeat (first|refine blk_drewN ?_ _|refine blk_drew ?_|refine blk_alloc ?_ _));refine blk_far ?_ NB261_271.out _;(with_reducible repeat (first|refine blk_drewN ?_ _|refine blk_drew ?_|refine blk_alloc ?_ _));exact BK261.out) hb);have n7_:=Aside0.mk (blk_below (g:=gb271) (o:=.cells #[.string t265,.int .u64 t266,.int .u8 t267,.string t268] 59 (0,0)) (by (with_reducible repeat (first|refine blk_drewN ?_ _|refine blk_drew ?_|refine blk_alloc ?_ _));refine blk_put (cs:=#[.string t265,.int .u64 t266,.int .u8 t267,.string (⟨#[]⟩ : ByteArray)]) ?_ 3 _ rfl;(with_reducible repeat (first|refine blk_drewN ?_ _|refine blk_drew ?_|refine blk_alloc ?_ _));refine blk_put (cs:=#[.string t265,.int .u64 t266,.int .u8 0,.string (⟨#[]⟩ : ByteArray)]) ?_ 2 _ rfl;(with_reducible repeat (first|refine blk_drewN ?_ _|refine blk_drew ?_|refine blk_alloc ?_ _));refine blk_put (cs:=#[.string t265,.int .u64 0,.int .u8 0,.string (⟨#[]⟩ : ByteArray)]) ?_ 1 _ rfl;(with_reducible repeat (first|refine blk_drewN ?_ _|refine blk_drew ?_|refine blk_alloc ?_ _));refine blk_put (cs:=#[.string (⟨#[]⟩ : ByteArray),.int .u64 0,.int .u8 0,.string (⟨#[]⟩ : ByteArray)]) ?_ 0 _ rfl;(with_reducible repeat (first|refine blk_drewN ?_ _|refine blk_drew ?_|refine blk_alloc ?_ _));exact BK271.out) hb);have n8_:=Aside0.mk (below_step (by repeat (first|(with_reducible first|exact HB.out|apply below_alloc|apply pw_below_drewN|apply below_drew1|refine below_set ?_ GE251.out|refine below_set ?_ GE261.out|refine below_set ?_ GE271.out)|exact HB.out)) hb);clear HO230;clear HO233;clear HO237;clear HO241;clear BK251;clear BK261;clear BK271;clear HB;have HO230:=n0_;have HO233:=n1_;have HO237:=n2_;have HO241:=n3_;have HO275:=n4_;have BK251:=n5_;have BK261:=n6_;have BK271:=n7_;have HB:=n8_;clear n0_ n1_ n2_ n3_ n4_ n5_ n6_ n7_ n8_;(try clear hb);(try clear hb2);(try clear hk);(try clear hi);(try clear ho0);(try apply_assumption))|((with_reducible refine gate_dst (N:=62) rfl ?_);refine Kd.R_lit (Kd.int .u8) _ 5 ?hg (N:=62) ?hd (xs:=([0,1,97,11,1,120,0,2,97,98,8,0,0,0,0,1,0,0,0] : List Int)) (inner:=[.int .u8 0,.int .u8 1,.int .u8 97,.int .u8 11,.int .u8 1,.int .u8 120,.int .u8 0,.int .u8 2,.int .u8 97,.int .u8 98,.int .u8 8,.int .u8 0,.int .u8 0,.int .u8 0,.int .u8 0,.int .u8 1,.int .u8 0,.int .u8 0,.int .u8 0]) (ok:=fun _=>True) (okp:=fun _=>True) ?hr ?hp (fun _ hk=>hk) trivial (Below.refl _ _) (Nat.le_refl _) (by simp) ?_;(case hd=>rfl);(case hg=>rfl);(case hr=>first|(go_simp;done)|(go_simp;rfl));(case hp=>exact (Reps.one (show Kd.M (Kd.int .u8) _ _ _ 0 [.int .u8 0] from rfl) (Reps.one (show Kd.M (Kd.int .u8) _ _ _ 1 [.int .u8 1] from rfl) (Reps.one (show Kd.M (Kd.int .u8) _ _ _ 97 [.int .u8 97] from rfl) (Reps.one (show Kd.M (Kd.int .u8) _ _ _ 11 [.int .u8 11] from rfl) (Reps.one (show Kd.M (Kd.int .u8) _ _ _ 1 [.int .u8 1] from rfl) (Reps.one (show Kd.M (Kd.int .u8) _ _ _ 120 [.int .u8 120] from rfl) (Reps.one (show Kd.M (Kd.int .u8) _ _ _ 0 [.int .u8 0] from rfl) (Reps.one (show Kd.M (Kd.int .u8) _ _ _ 2 [.int .u8 2] from rfl) (Reps.one (show Kd.M (Kd.int .u8) _ _ _ 97 [.int .u8 97] from rfl) (Reps.one (show Kd.M (Kd.int .u8) _ _ _ 98 [.int .u8 98] from rfl) (Reps.one (show Kd.M (Kd.int .u8) _ _ _ 8 [.int .u8 8] from rfl) (Reps.one (show Kd.M (Kd.int .u8) _ _ _ 0 [.int .u8 0] from rfl) (Reps.one (show Kd.M (Kd.int .u8) _ _ _ 0 [.int .u8 0] from rfl) (Reps.one (show Kd.M (Kd.int .u8) _ _ _ 0 [.int .u8 0] from rfl) (Reps.one (show Kd.M (Kd.int .u8) _ _ _ 0 [.int .u8 0] from rfl) (Reps.one (show Kd.M (Kd.int .u8) _ _ _ 1 [.int .u8 1] from rfl) (Reps.one (show Kd.M (Kd.int .u8) _ _ _ 0 [.int .u8 0] from rfl) (Reps.one (show Kd.M (Kd.int .u8) _ _ _ 0 [.int .u8 0] from rfl) (Reps.one (show Kd.M (Kd.int .u8) _ _ _ 0 [.int .u8 0] from rfl) (Reps.none _ _)))))))))))))))))))));intro v277 w53 ho54 hb hg_ hnew_;clear hg_ hnew_;(first|rw [← Ny276.out] at ho54|(simp only [Int.reduceToNat] at ho54;rw [← Ny276.out] at ho54));have n0_:=Aside0.mk (Kd.R_below (by (with_reducible repeat (first|apply Kd.R_alloc|apply Kd.R_drewN|apply Kd.R_drew));exact HO230.out) hb);have n1_:=Aside0.mk (Kd.R_elder' (by (with_reducible repeat (first|apply Kd.R_alloc|apply Kd.R_drewN|apply Kd.R_drew));exact HO233.out) (Kd.R_base ho54) hb);have n2_:=Aside0.mk (Kd.R_elder' (by (with_reducible repeat (first|apply Kd.R_alloc|apply Kd.R_drewN|apply Kd.R_drew));exact HO237.out) (Kd.R_base ho54) hb);have n3_:=Aside0.mk (Kd.R_below (by (with_reducible repeat (first|apply Kd.R_alloc|apply Kd.R_drewN|apply Kd.R_drew));exact HO241.out) hb);have n4_:=Aside0.mk (Kd.R_elder' (by (with_reducible repeat (first|apply Kd.R_alloc|apply Kd.R_drewN|apply Kd.R_drew));exact HO275.out) (Kd.R_base ho54) hb);have n5_:=Aside0.mk (Kd.R_lower (Kd.R_new' (Kd.R_new' (Kd.R_new' ho54 (Kd.R_lt (by (with_reducible repeat (first|apply Kd.R_alloc|apply Kd.R_drewN|apply Kd.R_drew));exact HO233.out))) (Kd.R_lt (by (with_reducible repeat (first|apply Kd.R_alloc|apply Kd.R_drewN|apply Kd.R_drew));exact HO237.out))) (Kd.R_lt (by (with_reducible repeat (first|apply Kd.R_alloc|apply Kd.R_drewN|apply Kd.R_drew));exact HO275.out))) (below_size (by repeat (first|(with_reducible first|exact HB.out|apply below_alloc|apply pw_below_drewN|apply below_drew1|refine below_set ?_ GE251.out|refine below_set ?_ GE261.out|refine below_set ?_ GE271.out)|exact HB.out))));have n6_:=Aside0.mk (blk_below (g:=gb251) (o:=.cells #[.string t245,.int .u64 t246,.int .u8 t247,.string t248] 59 (0,0)) (by (with_reducible repeat (first|refine blk_drewN ?_ _|refine blk_drew ?_|refine blk_alloc ?_ _));exact BK251.out) hb);have n7_:=Aside0.mk (blk_below (g:=gb261) (o:=.cells #[.string t255,.int .u64 t256,.int .u8 t257,.string t258] 59 (0,0)) (by (with_reducible repeat (first|refine blk_drewN ?_ _|refine blk_drew ?_|refine blk_alloc ?_ _));exact BK261.out) hb);have n8_:=Aside0.mk (blk_below (g:=gb271) (o:=.cells #[.string t265,.int .u64 t266,.int .u8 t267,.string t268] 59 (0,0)) (by (with_reducible repeat (first|refine blk_drewN ?_ _|refine blk_drew ?_|refine blk_alloc ?_ _));exact BK271.out) hb);have n9_:=Aside0.mk (below_step (by repeat (first|(with_reducible first|exact HB.out|apply below_alloc|apply pw_below_drewN|apply below_drew1|refine below_set ?_ GE251.out|refine below_set ?_ GE261.out|refine below_set ?_ GE271.out)|exact HB.out)) hb);clear HO230;clear HO233;clear HO237;clear HO241;clear HO275;clear BK251;clear BK261;clear BK271;clear HB;have HO230:=n0_;have HO233:=n1_;have HO237:=n2_;have HO241:=n3_;have HO275:=n4_;have HO278:=n5_;have BK251:=n6_;have BK261:=n7_;have BK271:=n8_;have HB:=n9_;clear n0_ n1_ n2_ n3_ n4_ n5_ n6_ n7_ n8_ n9_;clear hb ho54;obtain ⟨Ao55,co55,eo55⟩:=Kd.R_slice HO278.out;subst eo55)|((with_reducible refine gate_callee (f:=24) rfl ?_);refine goesL_ (some 63) rfl rfl Try.func24 (by kernel_rfl) rfl #[.slice Ao55 y276.length co55] rfl (by (try simp only [List.map_toArray,List.map_cons,List.map_nil]);first|done|rfl|(simp only [List.length_drop,List.length_take];rfl)) ?_;(with_reducible refine (block_Parse.calls k _ _ y276 t279 t280 _ ?side1 ?side2 A12.out).mono ?_);(case side1=>repeat (first|exact (Kd.R_reads' HO278.out).2.2|(with_reducible refine Kd.C_alloc ?_ _)|(with_reducible refine Kd.C_drewN ?_ _)|(with_reducible refine Kd.C_drew ?_)));(case side2=>exact (Kd.R_reads' HO278.out).2.1);rintro e w56 ⟨v281,rfl,ho0,hb⟩;refine ⟨_,rfl,?_⟩;have n0_:=Aside0.mk (Kd.R_elder' (by (with_reducible repeat (first|apply Kd.R_alloc|apply Kd.R_drewN|apply Kd.R_drew));exact HO230.out) (Kd.R_base ho0) hb);have n1_:=Aside0.mk (Kd.R_below (by (with_reducible repeat (first|apply Kd.R_alloc|apply Kd.R_drewN|apply Kd.R_drew));exact HO233.out) hb);have n2_:=Aside0.mk (Kd.R_below (by (with_reducible repeat (first|apply Kd.R_alloc|apply Kd.R_drewN|apply Kd.R_drew));exact HO237.out) hb);have n3_:=Aside0.mk (Kd.R_elder' (by (with_reducible repeat (first|apply Kd.R_alloc|apply Kd.R_drewN|apply Kd.R_drew));exact HO241.out) (Kd.R_base ho0) hb);have n4_:=Aside0.mk (Kd.R_below (by (with_reducible repeat (first|apply Kd.R_alloc|apply Kd.R_drewN|apply Kd.R_drew));exact HO275.out) hb);have n5_:=Aside0.mk (Kd.R_below (by (with_reducible repeat (first|apply Kd.R_alloc|apply Kd.R_drewN|apply Kd.R_drew));exact HO278.out) hb);have n6_:=Aside0.mk (Kd.R_lower (Kd.R_newB (Kd.R_newB (Kd.R_newB (Kd.R_new' (Kd.R_new' ho0 (Kd.R_lt (by (with_reducible repeat (first|apply Kd.R_alloc|apply Kd.R_drewN|apply Kd.R_drew));exact HO230.out))) (Kd.R_lt (by (with_reducible repeat (first|apply Kd.R_alloc|apply Kd.R_drewN|apply Kd.R_drew));exact HO241.out))) (g:=gb251) (o:=.cells #[.string t245,.int .u64 t246,.int .u8 t247,.string t248] 59 (0,0)) (by (with_reducible repeat (first|refine blk_drewN ?_ _|refine blk_drew ?_|refine blk_alloc ?_ _));exact BK251.out)) (g:=gb261) (o:=.cells #[.string t255,.int .u64 t256,.int .u8 t257,.string t258] 59 (0,0)) (by (with_reducible repeat (first|refine blk_drewN ?_ _|refine blk_drew ?_|refine blk_alloc ?_ _));exact BK261.out)) (g:=gb271) (o:=.cells #[.string t265,.int .u64 t266,.int .u8 t267,.string t268] 59 (0,0)) (by (with_reducible repeat (first|refine blk_drewN ?_ _|refine blk_drew ?_|refine blk_alloc ?_ _));exact BK271.out)) (below_size (by repeat (first|(with_reducible first|exact HB.out|apply below_alloc|apply pw_below_drewN|apply below_drew1|refine below_set ?_ GE251.out|refine below_set ?_ GE261.out|refine below_set ?_ GE271.out)|exact HB.out))));have n7_:=Aside0.mk (blk_below (g:=gb251) (o:=.cells #[.string t245,.int .u64 t246,.int .u8 t247,.string t248] 59 (0,0)) (by (with_reducible repeat (first|refine blk_drewN ?_ _|refine blk_drew ?_|refine blk_alloc ?_ _));exact BK251.out) hb);have n8_:=Aside0.mk (blk_below (g:=gb261) (o:=.cells #[.string t255,.int .u64 t256,.int .u8 t257,.string t258] 59 (0,0)) (by (with_reducible repeat (first|refine blk_drewN ?_ _|refine blk_drew ?_|refine blk_alloc ?_ _));exact BK261.out) hb);have n9_:=Aside0.mk (blk_below (g:=gb271) (o:=.cells #[.string t265,.int .u64 t266,.int .u8 t267,.string t268] 59 (0,0)) (by (with_reducible repeat (first|refine blk_drewN ?_ _|refine blk_drew ?_|refine blk_alloc ?_ _));exact BK271.out) hb);have n10_:=Aside0.mk (below_step (by repeat (first|(with_reducible first|exact HB.out|apply below_alloc|apply pw_below_drewN|apply below_drew1|refine below_set ?_ GE251.out|refine below_set ?_ GE261.out|refine below_set ?_ GE271.out)|exact HB.out)) hb);clear HO230;clear HO233;clear HO237;clear HO241;clear HO275;clear HO278;clear BK251;clear BK261;clear BK271;clear HB;have HO230:=n0_;have HO233:=n1_;have HO237:=n2_;have HO241:=n3_;have HO275:=n4_;have HO278:=n5_;have HO282:=n6_;have BK251:=n7_;have BK261:=n8_;have BK271:=n9_;have HB:=n10_;clear n0_ n1_ n2_ n3_ n4_ n5_ n6_ n7_ n8_ n9_ n10_;(try clear hb);(try clear hb2);(try clear hk);(try clear hi);(try clear ho0)))
             have n0_:=Aside0.mk (Kd.R_drew HO230.out)
             have n1_:=Aside0.mk (Kd.R_drew HO233.out)
             have n2_:=Aside0.mk (Kd.R_drew HO237.out)
             have n3_:=Aside0.mk (Kd.R_drew HO241.out)
             have n4_:=Aside0.mk (Kd.R_drew HO275.out)
             have n5_:=Aside0.mk (Kd.R_drew HO278.out)
             have n6_:=Aside0.mk (Kd.R_drew HO282.out)
             have n7_:=Aside0.mk (blk_drew BK251.out)
             have n8_:=Aside0.mk (blk_drew BK261.out)
             have n9_:=Aside0.mk (blk_drew BK271.out)
             have n10_:=Aside0.mk (below_drew1 HB.out)
             clear HO230
             clear HO233
             clear HO237
             clear HO241
             clear HO275
             clear HO278
             clear HO282
             clear BK251
             clear BK261
             clear BK271
             clear HB
             have HO230:=n0_
             have HO233:=n1_
             have HO237:=n2_
             have HO241:=n3_
             have HO275:=n4_
             have HO278:=n5_
             have HO282:=n6_
             have BK251:=n7_
             have BK261:=n8_
             have BK271:=n9_
             have HB:=n10_
             clear n0_ n1_ n2_ n3_ n4_ n5_ n6_ n7_ n8_ n9_ n10_
             obtain ⟨Ao58,co58,eo58⟩:=Kd.R_slice HO237.out
             (first|subst eo58|(injection eo58 with f1_ f2_ f3_;have f4_:=f1_.symm;have f5_:=f3_.symm;clear f1_ f2_ f3_;subst f4_;subst f5_))
             have p285 : 0 ≤ (0 : Int):=(by omega)
             have q285 : 0 < (y228.length : Int):=of_decide_eq_true (by first|(with_reducible assumption)|assumption)
             obtain ⟨ad285,e285,hx285_0,hx285_1,hx285_2,hx285_3⟩:=at_T59 (Kd.R_reads' HO230.out).2.2 0 p285 q285
             cases e285
             have qi285 : (0 < y228.length) = True:=eq_true (by omega)
             (try rw [show ((0 : Int)).toNat = 0 from rfl] at hx285_0)
             (try rw [show 0 * 4 = 0 from rfl] at hx285_0)
             (try rw [Addr.add_zero'] at hx285_0)
             (try rw [show ((0 : Int)).toNat = 0 from rfl] at hx285_1)
             (try rw [show 0 * 4 = 0 from rfl] at hx285_1)
             (try rw [Addr.add_zero'] at hx285_1)
             (try rw [show ((0 : Int)).toNat = 0 from rfl] at hx285_2)
             (try rw [show 0 * 4 = 0 from rfl] at hx285_2)
             (try rw [Addr.add_zero'] at hx285_2)
             (try rw [show ((0 : Int)).toNat = 0 from rfl] at hx285_3)
             (try rw [show 0 * 4 = 0 from rfl] at hx285_3)
             (try rw [Addr.add_zero'] at hx285_3)
             replace p285:=eq_true p285
             replace q285:=eq_true q285
             have p286 : 0 ≤ (1 : Int):=(by omega)
             have q286 : 1 < (y228.length : Int):=of_decide_eq_true (by first|(with_reducible assumption)|assumption)
             obtain ⟨ad286,e286,hx286_0,hx286_1,hx286_2,hx286_3⟩:=at_T59 (Kd.R_reads' HO230.out).2.2 1 p286 q286
             obtain rfl : ad285 = ad286:=(by injection e286)
             (try simp only [show (1 : Int).toNat = 1 from rfl,Nat.reduceMul,Nat.reduceEqDiff,Go.Addr.add,↓reduceIte] at hx286_0)
             (try simp only [show (1 : Int).toNat = 1 from rfl,Nat.reduceMul,Nat.reduceEqDiff,Go.Addr.add,↓reduceIte] at hx286_1)
             (try simp only [show (1 : Int).toNat = 1 from rfl,Nat.reduceMul,Nat.reduceEqDiff,Go.Addr.add,↓reduceIte] at hx286_2)
             (try simp only [show (1 : Int).toNat = 1 from rfl,Nat.reduceMul,Nat.reduceEqDiff,Go.Addr.add,↓reduceIte] at hx286_3)
             have qi286 : (1 < y228.length) = True:=eq_true (by omega)
             (try rw [show ((1 : Int)).toNat = 1 from rfl] at hx286_0)
             (try rw [show 1 * 4 = 4 from rfl] at hx286_0)
             (try rw [show ((1 : Int)).toNat = 1 from rfl] at hx286_1)
             (try rw [show 1 * 4 = 4 from rfl] at hx286_1)
             (try rw [show ((1 : Int)).toNat = 1 from rfl] at hx286_2)
             (try rw [show 1 * 4 = 4 from rfl] at hx286_2)
             (try rw [show ((1 : Int)).toNat = 1 from rfl] at hx286_3)
             (try rw [show 1 * 4 = 4 from rfl] at hx286_3)
             replace p286:=eq_true p286
             replace q286:=eq_true q286
             refine start_ (n:=58) (S:=fun w'=>w'.cell? ⟨gb251,0,none⟩ = some (.string t245) ∧ w'.cell? ⟨gb251,1,none⟩ = some (.int .u64 t246) ∧ w'.cell? ⟨gb251,2,none⟩ = some (.int .u8 t247) ∧ w'.cell? ⟨gb251,3,none⟩ = some (.string t248) ∧ w'.cell? ⟨gb261,0,none⟩ = some (.string t255) ∧ w'.cell? ⟨gb261,1,none⟩ = some (.int .u64 t256) ∧ w'.cell? ⟨gb261,2,none⟩ = some (.int .u8 t257) ∧ w'.cell? ⟨gb261,3,none⟩ = some (.string t258) ∧ w'.cell? ⟨gb271,0,none⟩ = some (.string t265) ∧ w'.cell? ⟨gb271,1,none⟩ = some (.int .u64 t266) ∧ w'.cell? ⟨gb271,2,none⟩ = some (.int .u8 t267) ∧ w'.cell? ⟨gb271,3,none⟩ = some (.string t268) ∧ w'.cell? ad285 = some (.string ((rd_T59 y228 0).f0.f0)) ∧ w'.cell? ⟨ad285.block,ad285.off + 1,none⟩ = some (.int .u64 ((rd_T59 y228 0).f0.f1)) ∧ w'.cell? ⟨ad285.block,ad285.off + 2,none⟩ = some (.int .u8 ((rd_T59 y228 0).f0.f2)) ∧ w'.cell? ⟨ad285.block,ad285.off + 3,none⟩ = some (.string ((rd_T59 y228 0).f1)) ∧ w'.cell? ⟨ad285.block,ad285.off + 4,none⟩ = some (.string ((rd_T59 y228 1).f0.f0)) ∧ w'.cell? ⟨ad285.block,ad285.off + 4 + 1,none⟩ = some (.int .u64 ((rd_T59 y228 1).f0.f1)) ∧ w'.cell? ⟨ad285.block,ad285.off + 4 + 2,none⟩ = some (.int .u8 ((rd_T59 y228 1).f0.f2)) ∧ w'.cell? ⟨ad285.block,ad285.off + 4 + 3,none⟩ = some (.string ((rd_T59 y228 1).f1))) (ds:=[]) #[false,false,false,false,false,false,false,false,false,false,false,false,false,false,false,false,false,false,false,false,false,false,false,false,false,false,false,false,false,false,false,false,false,false,false,false,false,false,false,false,false,false,false,false,false,false,false,false,false,false,false,false,false,false,false,false,false,false] (by kernel_rfl) rfl rfl ⟨(blk_cell BK251.out 0).trans rfl,(blk_cell BK251.out 1).trans rfl,(blk_cell BK251.out 2).trans rfl,(blk_cell BK251.out 3).trans rfl,(blk_cell BK261.out 0).trans rfl,(blk_cell BK261.out 1).trans rfl,(blk_cell BK261.out 2).trans rfl,(blk_cell BK261.out 3).trans rfl,(blk_cell BK271.out 0).trans rfl,(blk_cell BK271.out 1).trans rfl,(blk_cell BK271.out 2).trans rfl,(blk_cell BK271.out 3).trans rfl,hx285_0,hx285_1,hx285_2,hx285_3,hx286_0,hx286_1,hx286_2,hx286_3⟩ (fun hHeld=>?_);refine with_tabW ratlinelaw07_awake.tab10 ratlinelaw07_awake.bits10 (fun HT_ HW_=>?_)
             generalize w56.drew = w57 at HO230 HO233 HO237 HO241 HO275 HO278 HO282 BK251 BK261 BK271 HB hx285_0 hx285_1 hx285_2 hx285_3 hx286_0 hx286_1 hx286_2 hx286_3 hHeld ⊢
             refine pure_ (i:=0) (N:=some 66) (v:=?_) (a':=?_) #[true,false,false,false,false,false,false,false,false,false,false,false,false,false,false,false,false,false,false,false,false,false,false,false,false,false,false,false,false,false,false,false,false,false,false,false,false,false,false,false,false,false,false,false,false,false,false,false,false,false,false,false,false,false,false,false,false,false] rfl rfl (any_of HT_.out (by kernel_rfl)) (fun _ _ _ h=>h) (Or.inl ⟨by rfl,?_⟩) ?_ ?_
             rotate_left
             ·intro w'
              go_simp
              with_reducible rfl
             rotate_left
             ·simp only [Act.put,List.setIfInBounds_toArray,List.set_cons_zero,List.set_cons_succ,i64_w,i32_w]
              rfl
             refine pure_ (i:=1) (N:=some 67) (v:=?_) (a':=?_) #[true,true,false,false,false,false,false,false,false,false,false,false,false,false,false,false,false,false,false,false,false,false,false,false,false,false,false,false,false,false,false,false,false,false,false,false,false,false,false,false,false,false,false,false,false,false,false,false,false,false,false,false,false,false,false,false,false,false] rfl rfl (any_of HT_.out (by kernel_rfl)) (fun _ _ _ h=>h) (Or.inl ⟨by rfl,?_⟩) ?_ ?_
             rotate_left
             ·intro w'
              go_simp
              with_reducible rfl
             rotate_left
             ·simp only [Act.put,List.setIfInBounds_toArray,List.set_cons_zero,List.set_cons_succ,i64_w,i32_w]
              rfl
             refine pure_ (i:=2) (N:=some 68) (v:=?_) (a':=?_) #[true,true,true,false,false,false,false,false,false,false,false,false,false,false,false,false,false,false,false,false,false,false,false,false,false,false,false,false,false,false,false,false,false,false,false,false,false,false,false,false,false,false,false,false,false,false,false,false,false,false,false,false,false,false,false,false,false,false] rfl rfl (any_of HT_.out (by kernel_rfl)) (fun _ _ _ h=>h) (Or.inl ⟨by rfl,?_⟩) ?_ ?_
             rotate_left
             ·intro w'
              go_simp
              with_reducible rfl
             rotate_left
             ·simp only [Act.put,List.setIfInBounds_toArray,List.set_cons_zero,List.set_cons_succ,i64_w,i32_w]
              rfl
             refine pure_ (i:=3) (N:=some 69) (v:=?_) (a':=?_) #[true,true,true,true,false,false,false,false,false,false,false,false,false,false,false,false,false,false,false,false,false,false,false,false,false,false,false,false,false,false,false,false,false,false,false,false,false,false,false,false,false,false,false,false,false,false,false,false,false,false,false,false,false,false,false,false,false,false] rfl rfl (any_of HT_.out (by kernel_rfl)) (fun _ _ _ h=>h) (Or.inl ⟨by rfl,?_⟩) ?_ ?_
             rotate_left
             ·intro w'
              go_simp
              with_reducible rfl
             rotate_left
             ·simp only [Act.put,List.setIfInBounds_toArray,List.set_cons_zero,List.set_cons_succ,i64_w,i32_w]
              rfl
             refine pure_ (i:=4) (N:=some 70) (v:=?_) (a':=?_) #[true,true,true,true,true,false,false,false,false,false,false,false,false,false,false,false,false,false,false,false,false,false,false,false,false,false,false,false,false,false,false,false,false,false,false,false,false,false,false,false,false,false,false,false,false,false,false,false,false,false,false,false,false,false,false,false,false,false] rfl rfl (any_of HT_.out (by kernel_rfl)) (fun _ _ _ h=>h) (Or.inl ⟨by rfl,?_⟩) ?_ ?_
             rotate_left
             ·intro w'
              go_simp
              with_reducible rfl
             rotate_left
             ·simp only [Act.put,List.setIfInBounds_toArray,List.set_cons_zero,List.set_cons_succ,i64_w,i32_w]
              rfl
             refine pure_ (i:=5) (N:=some 71) (v:=?_) (a':=?_) #[true,true,true,true,true,true,false,false,false,false,false,false,false,false,false,false,false,false,false,false,false,false,false,false,false,false,false,false,false,false,false,false,false,false,false,false,false,false,false,false,false,false,false,false,false,false,false,false,false,false,false,false,false,false,false,false,false,false] rfl rfl (any_of HT_.out (by kernel_rfl)) (fun _ _ _ h=>h) (Or.inl ⟨by rfl,?_⟩) ?_ ?_
             rotate_left
             ·intro w'
              go_simp
              with_reducible rfl
             rotate_left
             ·simp only [Act.put,List.setIfInBounds_toArray,List.set_cons_zero,List.set_cons_succ,i64_w,i32_w]
              rfl
             refine pure_ (i:=6) (N:=some 72) (v:=?_) (a':=?_) #[true,true,true,true,true,true,true,false,false,false,false,false,false,false,false,false,false,false,false,false,false,false,false,false,false,false,false,false,false,false,false,false,false,false,false,false,false,false,false,false,false,false,false,false,false,false,false,false,false,false,false,false,false,false,false,false,false,false] rfl rfl (any_of HT_.out (by kernel_rfl)) (fun _ _ _ h=>h) (Or.inl ⟨by rfl,?_⟩) ?_ ?_
             rotate_left
             ·intro w'
              go_simp
              with_reducible rfl
             rotate_left
             ·simp only [Act.put,List.setIfInBounds_toArray,List.set_cons_zero,List.set_cons_succ,i64_w,i32_w]
              rfl
             refine pure_ (i:=7) (N:=some 73) (v:=?_) (a':=?_) #[true,true,true,true,true,true,true,true,false,false,false,false,false,false,false,false,false,false,false,false,false,false,false,false,false,false,false,false,false,false,false,false,false,false,false,false,false,false,false,false,false,false,false,false,false,false,false,false,false,false,false,false,false,false,false,false,false,false] rfl rfl (any_of HT_.out (by kernel_rfl)) (fun _ _ _ h=>h) (Or.inl ⟨by rfl,?_⟩) ?_ ?_
             rotate_left
             ·intro w'
              go_simp
              with_reducible rfl
             rotate_left
             ·simp only [Act.put,List.setIfInBounds_toArray,List.set_cons_zero,List.set_cons_succ,i64_w,i32_w]
              rfl
             refine pure_ (i:=8) (N:=some 74) (v:=?_) (a':=?_) #[true,true,true,true,true,true,true,true,true,false,false,false,false,false,false,false,false,false,false,false,false,false,false,false,false,false,false,false,false,false,false,false,false,false,false,false,false,false,false,false,false,false,false,false,false,false,false,false,false,false,false,false,false,false,false,false,false,false] rfl rfl (any_of HT_.out (by kernel_rfl)) (fun _ _ _ h=>h) (Or.inl ⟨by rfl,?_⟩) ?_ ?_
             rotate_left
             ·intro w'
              go_simp
              with_reducible rfl
             rotate_left
             ·simp only [Act.put,List.setIfInBounds_toArray,List.set_cons_zero,List.set_cons_succ,i64_w,i32_w]
              rfl
             refine pure_ (i:=9) (N:=some 75) (v:=?_) (a':=?_) #[true,true,true,true,true,true,true,true,true,true,false,false,false,false,false,false,false,false,false,false,false,false,false,false,false,false,false,false,false,false,false,false,false,false,false,false,false,false,false,false,false,false,false,false,false,false,false,false,false,false,false,false,false,false,false,false,false,false] rfl rfl (any_of HT_.out (by kernel_rfl)) (fun _ _ _ h=>h) (Or.inl ⟨by rfl,?_⟩) ?_ ?_
             rotate_left
             ·intro w'
              go_simp
              with_reducible rfl
             rotate_left
             ·simp only [Act.put,List.setIfInBounds_toArray,List.set_cons_zero,List.set_cons_succ,i64_w,i32_w]
              rfl
             refine pure_ (i:=10) (N:=some 76) (v:=?_) (a':=?_) #[true,true,true,true,true,true,true,true,true,true,true,false,false,false,false,false,false,false,false,false,false,false,false,false,false,false,false,false,false,false,false,false,false,false,false,false,false,false,false,false,false,false,false,false,false,false,false,false,false,false,false,false,false,false,false,false,false,false] rfl rfl (any_of HT_.out (by kernel_rfl)) (fun _ _ _ h=>h) (Or.inl ⟨by rfl,?_⟩) ?_ ?_
             rotate_left
             ·intro w'
              go_simp
              with_reducible rfl
             rotate_left
             ·simp only [Act.put,List.setIfInBounds_toArray,List.set_cons_zero,List.set_cons_succ,i64_w,i32_w]
              rfl
             refine pure_ (i:=11) (N:=some 77) (v:=?_) (a':=?_) #[true,true,true,true,true,true,true,true,true,true,true,true,false,false,false,false,false,false,false,false,false,false,false,false,false,false,false,false,false,false,false,false,false,false,false,false,false,false,false,false,false,false,false,false,false,false,false,false,false,false,false,false,false,false,false,false,false,false] rfl rfl (any_of HT_.out (by kernel_rfl)) (fun _ _ _ h=>h) (Or.inl ⟨by rfl,?_⟩) ?_ ?_
             rotate_left
             ·intro w'
              go_simp
              with_reducible rfl
             rotate_left
             ·simp only [Act.put,List.setIfInBounds_toArray,List.set_cons_zero,List.set_cons_succ,i64_w,i32_w]
              rfl
             refine pure_ (i:=12) (N:=some 78) (v:=?_) (a':=?_) #[true,true,true,true,true,true,true,true,true,true,true,true,true,false,false,false,false,false,false,false,false,false,false,false,false,false,false,false,false,false,false,false,false,false,false,false,false,false,false,false,false,false,false,false,false,false,false,false,false,false,false,false,false,false,false,false,false,false] rfl rfl (any_of HT_.out (by kernel_rfl)) (fun _ _ _ h=>h) (Or.inl ⟨by rfl,?_⟩) ?_ ?_
             rotate_left
             ·intro w'
              go_simp
              with_reducible rfl
             rotate_left
             ·simp only [Act.put,List.setIfInBounds_toArray,List.set_cons_zero,List.set_cons_succ,i64_w,i32_w]
              rfl
             refine one_ (i:=13) (N:=some 79) #[true,true,true,true,true,true,true,true,true,true,true,true,true,true,false,false,false,false,false,false,false,false,false,false,false,false,false,false,false,false,false,false,false,false,false,false,false,false,false,false,false,false,false,false,false,false,false,false,false,false,false,false,false,false,false,false,false,false] rfl rfl (one_of HT_.out (by kernel_rfl)) (by decide) (fun K hK=>?_)
             refine goes_ Try.func26 (by kernel_rfl) rfl #[.slice Ao58 t234.length co58,.slice Ao35 y231.length co35] (by rfl) rfl rfl (by (try simp only [List.map_toArray,List.map_cons,List.map_nil]);first|done|rfl|(simp only [List.length_drop,List.length_take];rfl)) ?_
             with_reducible refine (ratlinelaw02_Same.calls _ _ t234 _ _ y231 true _ ?side1 ?side2 ?side3 ?side4 A14.out).mono ?_
             (case side1=>repeat (first|exact (Kd.R_reads' HO237.out).2.2|(with_reducible refine Kd.C_alloc ?_ _)|(with_reducible refine Kd.C_drewN ?_ _)|(with_reducible refine Kd.C_drew ?_)))
             (case side2=>exact (Kd.R_reads' HO237.out).2.1)
             (case side3=>repeat (first|exact (Kd.R_reads' HO233.out).2.2|(with_reducible refine Kd.C_alloc ?_ _)|(with_reducible refine Kd.C_drewN ?_ _)|(with_reducible refine Kd.C_drew ?_)))
             (case side4=>exact (Kd.R_reads' HO233.out).2.1)
             rintro e w' ⟨rfl,⟨nd,rfl⟩⟩
             refine ⟨_,rfl,?_⟩
             obtain ⟨Ao59,co59,eo59⟩:=Kd.R_slice HO241.out
             (first|subst eo59|(injection eo59 with f1_ f2_ f3_;have f4_:=f1_.symm;have f5_:=f3_.symm;clear f1_ f2_ f3_;subst f4_;subst f5_))
             refine hK.out _ _ ⟨(blk_cell BK251.out 0).trans rfl,(blk_cell BK251.out 1).trans rfl,(blk_cell BK251.out 2).trans rfl,(blk_cell BK251.out 3).trans rfl,(blk_cell BK261.out 0).trans rfl,(blk_cell BK261.out 1).trans rfl,(blk_cell BK261.out 2).trans rfl,(blk_cell BK261.out 3).trans rfl,(blk_cell BK271.out 0).trans rfl,(blk_cell BK271.out 1).trans rfl,(blk_cell BK271.out 2).trans rfl,(blk_cell BK271.out 3).trans rfl,hHeld.2.2.2.2.2.2.2.2.2.2.2.2.1,hHeld.2.2.2.2.2.2.2.2.2.2.2.2.2.1,hHeld.2.2.2.2.2.2.2.2.2.2.2.2.2.2.1,hHeld.2.2.2.2.2.2.2.2.2.2.2.2.2.2.2.1,hHeld.2.2.2.2.2.2.2.2.2.2.2.2.2.2.2.2.1,hHeld.2.2.2.2.2.2.2.2.2.2.2.2.2.2.2.2.2.1,hHeld.2.2.2.2.2.2.2.2.2.2.2.2.2.2.2.2.2.2.1,hHeld.2.2.2.2.2.2.2.2.2.2.2.2.2.2.2.2.2.2.2⟩ (fun hHeld=>?_)
             clear hK K
             refine norm_ (a':=?_) ?_ ?_
             rotate_left
             ·show Act.put _ (some 79) _ = _
              simp only [Act.put,List.setIfInBounds_toArray,List.set_cons_zero,List.set_cons_succ,i64_w,i32_w]
              rfl
             refine pure_ (i:=14) (N:=some 80) (v:=?_) (a':=?_) #[true,true,true,true,true,true,true,true,true,true,true,true,true,true,true,false,false,false,false,false,false,false,false,false,false,false,false,false,false,false,false,false,false,false,false,false,false,false,false,false,false,false,false,false,false,false,false,false,false,false,false,false,false,false,false,false,false,false] rfl rfl (any_of HT_.out (by kernel_rfl)) (fun _ _ _ h=>h) (Or.inl ⟨by rfl,?_⟩) ?_ ?_
             rotate_left
             ·intro w'
              go_simp
              with_reducible rfl
             rotate_left
             ·simp only [Act.put,List.setIfInBounds_toArray,List.set_cons_zero,List.set_cons_succ,i64_w,i32_w]
              rfl
             refine pure_ (i:=15) (N:=some 81) (v:=?_) (a':=?_) #[true,true,true,true,true,true,true,true,true,true,true,true,true,true,true,true,false,false,false,false,false,false,false,false,false,false,false,false,false,false,false,false,false,false,false,false,false,false,false,false,false,false,false,false,false,false,false,false,false,false,false,false,false,false,false,false,false,false] rfl rfl (any_of HT_.out (by kernel_rfl)) (fun _ _ _ h=>h) (Or.inl ⟨by rfl,?_⟩) ?_ ?_
             rotate_left
             ·intro w'
              go_simp
              with_reducible rfl
             rotate_left
             ·simp only [Act.put,List.setIfInBounds_toArray,List.set_cons_zero,List.set_cons_succ,i64_w,i32_w]
              rfl
             refine pure_ (i:=16) (N:=some 82) (v:=?_) (a':=?_) #[true,true,true,true,true,true,true,true,true,true,true,true,true,true,true,true,true,false,false,false,false,false,false,false,false,false,false,false,false,false,false,false,false,false,false,false,false,false,false,false,false,false,false,false,false,false,false,false,false,false,false,false,false,false,false,false,false,false] rfl rfl (any_of HT_.out (by kernel_rfl)) (fun _ _ _ h=>h) (Or.inl ⟨by rfl,?_⟩) ?_ ?_
             rotate_left
             ·intro w'
              go_simp
              with_reducible rfl
             rotate_left
             ·simp only [Act.put,List.setIfInBounds_toArray,List.set_cons_zero,List.set_cons_succ,i64_w,i32_w]
              rfl
             refine pure_ (i:=17) (N:=some 83) (v:=?_) (a':=?_) #[true,true,true,true,true,true,true,true,true,true,true,true,true,true,true,true,true,true,false,false,false,false,false,false,false,false,false,false,false,false,false,false,false,false,false,false,false,false,false,false,false,false,false,false,false,false,false,false,false,false,false,false,false,false,false,false,false,false] rfl rfl (any_of HT_.out (by kernel_rfl)) (fun _ _ _ h=>h) (Or.inl ⟨by rfl,?_⟩) ?_ ?_
             rotate_left
             ·intro w'
              go_simp
              with_reducible rfl
             rotate_left
             ·simp only [Act.put,List.setIfInBounds_toArray,List.set_cons_zero,List.set_cons_succ,i64_w,i32_w]
              rfl
             refine one_ (i:=18) (N:=some 84) #[true,true,true,true,true,true,true,true,true,true,true,true,true,true,true,true,true,true,true,false,false,false,false,false,false,false,false,false,false,false,false,false,false,false,false,false,false,false,false,false,false,false,false,false,false,false,false,false,false,false,false,false,false,false,false,false,false,false] rfl rfl (one_of HT_.out (by kernel_rfl)) (by decide) (fun K hK=>?_)
             refine goes_ Try.func27 (by kernel_rfl) rfl #[.slice Ao59 t238.length co59,.slice (some ad285) y228.length co33] (by rfl) rfl rfl (by (try simp only [List.map_toArray,List.map_cons,List.map_nil]);first|done|rfl|(simp only [List.length_drop,List.length_take];rfl)) ?_
             with_reducible refine (ratlinelaw04_Entries.calls k _ _ t238 _ _ y228 true _ ?side1 ?side2 ?side3 ?side4 A16.out).mono ?_
             (case side1=>repeat (first|exact (Kd.R_reads' HO241.out).2.2|(with_reducible refine Kd.C_alloc ?_ _)|(with_reducible refine Kd.C_drewN ?_ _)|(with_reducible refine Kd.C_drew ?_)))
             (case side2=>exact (Kd.R_reads' HO241.out).2.1)
             (case side3=>repeat (first|exact (Kd.R_reads' HO230.out).2.2|(with_reducible refine Kd.C_alloc ?_ _)|(with_reducible refine Kd.C_drewN ?_ _)|(with_reducible refine Kd.C_drew ?_)))
             (case side4=>exact (Kd.R_reads' HO230.out).2.1)
             rintro e w' ⟨rfl,⟨nd,rfl⟩⟩
             refine ⟨_,rfl,?_⟩
             refine hK.out _ _ ⟨(blk_cell BK251.out 0).trans rfl,(blk_cell BK251.out 1).trans rfl,(blk_cell BK251.out 2).trans rfl,(blk_cell BK251.out 3).trans rfl,(blk_cell BK261.out 0).trans rfl,(blk_cell BK261.out 1).trans rfl,(blk_cell BK261.out 2).trans rfl,(blk_cell BK261.out 3).trans rfl,(blk_cell BK271.out 0).trans rfl,(blk_cell BK271.out 1).trans rfl,(blk_cell BK271.out 2).trans rfl,(blk_cell BK271.out 3).trans rfl,hHeld.2.2.2.2.2.2.2.2.2.2.2.2.1,hHeld.2.2.2.2.2.2.2.2.2.2.2.2.2.1,hHeld.2.2.2.2.2.2.2.2.2.2.2.2.2.2.1,hHeld.2.2.2.2.2.2.2.2.2.2.2.2.2.2.2.1,hHeld.2.2.2.2.2.2.2.2.2.2.2.2.2.2.2.2.1,hHeld.2.2.2.2.2.2.2.2.2.2.2.2.2.2.2.2.2.1,hHeld.2.2.2.2.2.2.2.2.2.2.2.2.2.2.2.2.2.2.1,hHeld.2.2.2.2.2.2.2.2.2.2.2.2.2.2.2.2.2.2.2⟩ (fun hHeld=>?_)
             clear hK K
             refine norm_ (a':=?_) ?_ ?_
             rotate_left
             ·show Act.put _ (some 84) _ = _
              simp only [Act.put,List.setIfInBounds_toArray,List.set_cons_zero,List.set_cons_succ,i64_w,i32_w]
              rfl
             refine pure_ (i:=19) (N:=some 85) (v:=?_) (a':=?_) #[true,true,true,true,true,true,true,true,true,true,true,true,true,true,true,true,true,true,true,true,false,false,false,false,false,false,false,false,false,false,false,false,false,false,false,false,false,false,false,false,false,false,false,false,false,false,false,false,false,false,false,false,false,false,false,false,false,false] rfl rfl (any_of HT_.out (by kernel_rfl)) (fun _ _ _ h=>h) (Or.inl ⟨by rfl,?_⟩) ?_ ?_
             rotate_left
             ·intro w'
              go_simp
              with_reducible rfl
             rotate_left
             ·simp only [Act.put,List.setIfInBounds_toArray,List.set_cons_zero,List.set_cons_succ,i64_w,i32_w]
              rfl
             refine pure_ (i:=20) (N:=some 86) (v:=?_) (a':=?_) #[true,true,true,true,true,true,true,true,true,true,true,true,true,true,true,true,true,true,true,true,true,false,false,false,false,false,false,false,false,false,false,false,false,false,false,false,false,false,false,false,false,false,false,false,false,false,false,false,false,false,false,false,false,false,false,false,false,false] rfl rfl (any_of HT_.out (by kernel_rfl)) (fun _ _ _ h=>h) (Or.inl ⟨by rfl,?_⟩) ?_ ?_
             rotate_left
             ·intro w'
              go_simp
              with_reducible rfl
             rotate_left
             ·simp only [Act.put,List.setIfInBounds_toArray,List.set_cons_zero,List.set_cons_succ,i64_w,i32_w]
              rfl
             refine pure_ (i:=21) (N:=some 87) (v:=?_) (a':=?_) #[true,true,true,true,true,true,true,true,true,true,true,true,true,true,true,true,true,true,true,true,true,true,false,false,false,false,false,false,false,false,false,false,false,false,false,false,false,false,false,false,false,false,false,false,false,false,false,false,false,false,false,false,false,false,false,false,false,false] rfl rfl (any_of HT_.out (by kernel_rfl)) (fun _ _ _ h=>h) (Or.inl ⟨by rfl,?_⟩) ?_ ?_
             rotate_left
             ·intro w'
              go_simp
              with_reducible rfl
             rotate_left
             ·simp only [Act.put,List.setIfInBounds_toArray,List.set_cons_zero,List.set_cons_succ,i64_w,i32_w]
              rfl
             refine pure_ (i:=22) (N:=some 88) (v:=?_) (a':=?_) #[true,true,true,true,true,true,true,true,true,true,true,true,true,true,true,true,true,true,true,true,true,true,true,false,false,false,false,false,false,false,false,false,false,false,false,false,false,false,false,false,false,false,false,false,false,false,false,false,false,false,false,false,false,false,false,false,false,false] rfl rfl (any_of HT_.out (by kernel_rfl)) (fun _ _ _ h=>h) (Or.inl ⟨by rfl,?_⟩) ?_ ?_
             rotate_left
             ·intro w'
              go_simp
              with_reducible rfl
             rotate_left
             ·simp only [Act.put,List.setIfInBounds_toArray,List.set_cons_zero,List.set_cons_succ,i64_w,i32_w]
              rfl
             refine pure_ (i:=23) (N:=some 89) (v:=?_) (a':=?_) #[true,true,true,true,true,true,true,true,true,true,true,true,true,true,true,true,true,true,true,true,true,true,true,true,false,false,false,false,false,false,false,false,false,false,false,false,false,false,false,false,false,false,false,false,false,false,false,false,false,false,false,false,false,false,false,false,false,false] rfl rfl (any_of HT_.out (by kernel_rfl)) (fun _ _ _ h=>h) (Or.inl ⟨by rfl,?_⟩) ?_ ?_
             rotate_left
             ·intro w'
              go_simp
              with_reducible rfl
             rotate_left
             ·simp only [Act.put,List.setIfInBounds_toArray,List.set_cons_zero,List.set_cons_succ,i64_w,i32_w]
              rfl
             refine pure_ (i:=25) (N:=some 91) (v:=?_) (a':=?_) #[true,true,true,true,true,true,true,true,true,true,true,true,true,true,true,true,true,true,true,true,true,true,true,true,false,true,false,false,false,false,false,false,false,false,false,false,false,false,false,false,false,false,false,false,false,false,false,false,false,false,false,false,false,false,false,false,false,false] rfl rfl (any_of HT_.out (by kernel_rfl)) (fun _ _ _ h=>h) (Or.inl ⟨by rfl,?_⟩) ?_ ?_
             rotate_left
             ·intro w'
              go_simp
              with_reducible rfl
             rotate_left
             ·simp only [Act.put,List.setIfInBounds_toArray,List.set_cons_zero,List.set_cons_succ,i64_w,i32_w]
              rfl
             refine pure_ (i:=26) (N:=some 92) (v:=?_) (a':=?_) #[true,true,true,true,true,true,true,true,true,true,true,true,true,true,true,true,true,true,true,true,true,true,true,true,false,true,true,false,false,false,false,false,false,false,false,false,false,false,false,false,false,false,false,false,false,false,false,false,false,false,false,false,false,false,false,false,false,false] rfl rfl (any_of HT_.out (by kernel_rfl)) (fun _ _ _ h=>h) (Or.inl ⟨by rfl,?_⟩) ?_ ?_
             rotate_left
             ·intro w'
              go_simp
              with_reducible rfl
             rotate_left
             ·simp only [Act.put,List.setIfInBounds_toArray,List.set_cons_zero,List.set_cons_succ,i64_w,i32_w]
              rfl
             refine take_ (i:=24) (N:=some 90) (v:=?_) (a':=?_) #[true,true,true,true,true,true,true,true,true,true,true,true,true,true,true,true,true,true,true,true,true,true,true,true,true,true,true,false,false,false,false,false,false,false,false,false,false,false,false,false,false,false,false,false,false,false,false,false,false,false,false,false,false,false,false,false,false,false] rfl rfl (take_ofW HT_.out HW_.out (by kernel_rfl)) (fun _ _ _ h=>h) (Or.inl ⟨by rfl,?_⟩) hHeld ?_ ?_
             rotate_left
             ·rintro w' ⟨s0,s1,s2,s3,s4,s5,s6,s7,s8,s9,s10,s11,s12,s13,s14,s15,s16,s17,s18,s19⟩
              go_simp
              with_reducible rfl
             rotate_left
             ·simp only [Act.put,List.setIfInBounds_toArray,List.set_cons_zero,List.set_cons_succ,i64_w,i32_w]
              rfl
             refine take_ (i:=27) (N:=some 93) (v:=?_) (a':=?_) #[true,true,true,true,true,true,true,true,true,true,true,true,true,true,true,true,true,true,true,true,true,true,true,true,true,true,true,true,false,false,false,false,false,false,false,false,false,false,false,false,false,false,false,false,false,false,false,false,false,false,false,false,false,false,false,false,false,false] rfl rfl (take_ofW HT_.out HW_.out (by kernel_rfl)) (fun _ _ _ h=>h) (Or.inl ⟨by rfl,?_⟩) hHeld ?_ ?_
             rotate_left
             ·rintro w' ⟨s0,s1,s2,s3,s4,s5,s6,s7,s8,s9,s10,s11,s12,s13,s14,s15,s16,s17,s18,s19⟩
              go_simp
              with_reducible rfl
             rotate_left
             ·simp only [Act.put,List.setIfInBounds_toArray,List.set_cons_zero,List.set_cons_succ,i64_w,i32_w]
              rfl
             refine pure_ (i:=28) (N:=some 94) (v:=?_) (a':=?_) #[true,true,true,true,true,true,true,true,true,true,true,true,true,true,true,true,true,true,true,true,true,true,true,true,true,true,true,true,true,false,false,false,false,false,false,false,false,false,false,false,false,false,false,false,false,false,false,false,false,false,false,false,false,false,false,false,false,false] rfl rfl (any_of HT_.out (by kernel_rfl)) (fun _ _ _ h=>h) (Or.inl ⟨by rfl,?_⟩) ?_ ?_
             rotate_left
             ·intro w'
              go_simp
              with_reducible rfl
             rotate_left
             ·simp only [Act.put,List.setIfInBounds_toArray,List.set_cons_zero,List.set_cons_succ,i64_w,i32_w]
              rfl
             refine pure_ (i:=29) (N:=some 95) (v:=?_) (a':=?_) #[true,true,true,true,true,true,true,true,true,true,true,true,true,true,true,true,true,true,true,true,true,true,true,true,true,true,true,true,true,true,false,false,false,false,false,false,false,false,false,false,false,false,false,false,false,false,false,false,false,false,false,false,false,false,false,false,false,false] rfl rfl (any_of HT_.out (by kernel_rfl)) (fun _ _ _ h=>h) (Or.inl ⟨by rfl,?_⟩) ?_ ?_
             rotate_left
             ·intro w'
              go_simp
              with_reducible rfl
             rotate_left
             ·simp only [Act.put,List.setIfInBounds_toArray,List.set_cons_zero,List.set_cons_succ,i64_w,i32_w]
              rfl
             refine pure_ (i:=30) (N:=some 96) (v:=?_) (a':=?_) #[true,true,true,true,true,true,true,true,true,true,true,true,true,true,true,true,true,true,true,true,true,true,true,true,true,true,true,true,true,true,true,false,false,false,false,false,false,false,false,false,false,false,false,false,false,false,false,false,false,false,false,false,false,false,false,false,false,false] rfl rfl (any_of HT_.out (by kernel_rfl)) (fun _ _ _ h=>h) (Or.inl ⟨by rfl,?_⟩) ?_ ?_
             rotate_left
             ·intro w'
              go_simp
              with_reducible rfl
             rotate_left
             ·simp only [Act.put,List.setIfInBounds_toArray,List.set_cons_zero,List.set_cons_succ,i64_w,i32_w]
              rfl
             refine pure_ (i:=31) (N:=some 97) (v:=?_) (a':=?_) #[true,true,true,true,true,true,true,true,true,true,true,true,true,true,true,true,true,true,true,true,true,true,true,true,true,true,true,true,true,true,true,true,false,false,false,false,false,false,false,false,false,false,false,false,false,false,false,false,false,false,false,false,false,false,false,false,false,false] rfl rfl (any_of HT_.out (by kernel_rfl)) (fun _ _ _ h=>h) (Or.inl ⟨by rfl,?_⟩) ?_ ?_
             rotate_left
             ·intro w'
              go_simp
              with_reducible rfl
             rotate_left
             ·simp only [Act.put,List.setIfInBounds_toArray,List.set_cons_zero,List.set_cons_succ,i64_w,i32_w]
              rfl
             refine pure_ (i:=32) (N:=some 98) (v:=?_) (a':=?_) #[true,true,true,true,true,true,true,true,true,true,true,true,true,true,true,true,true,true,true,true,true,true,true,true,true,true,true,true,true,true,true,true,true,false,false,false,false,false,false,false,false,false,false,false,false,false,false,false,false,false,false,false,false,false,false,false,false,false] rfl rfl (any_of HT_.out (by kernel_rfl)) (fun _ _ _ h=>h) (Or.inl ⟨by rfl,?_⟩) ?_ ?_
             rotate_left
             ·intro w'
              go_simp
              with_reducible rfl
             rotate_left
             ·simp only [Act.put,List.setIfInBounds_toArray,List.set_cons_zero,List.set_cons_succ,i64_w,i32_w]
              rfl
             refine pure_ (i:=33) (N:=some 99) (v:=?_) (a':=?_) #[true,true,true,true,true,true,true,true,true,true,true,true,true,true,true,true,true,true,true,true,true,true,true,true,true,true,true,true,true,true,true,true,true,true,false,false,false,false,false,false,false,false,false,false,false,false,false,false,false,false,false,false,false,false,false,false,false,false] rfl rfl (any_of HT_.out (by kernel_rfl)) (fun _ _ _ h=>h) (Or.inl ⟨by rfl,?_⟩) ?_ ?_
             rotate_left
             ·intro w'
              go_simp
              with_reducible rfl
             rotate_left
             ·simp only [Act.put,List.setIfInBounds_toArray,List.set_cons_zero,List.set_cons_succ,i64_w,i32_w]
              rfl
             refine pure_ (i:=35) (N:=some 101) (v:=?_) (a':=?_) #[true,true,true,true,true,true,true,true,true,true,true,true,true,true,true,true,true,true,true,true,true,true,true,true,true,true,true,true,true,true,true,true,true,true,false,true,false,false,false,false,false,false,false,false,false,false,false,false,false,false,false,false,false,false,false,false,false,false] rfl rfl (any_of HT_.out (by kernel_rfl)) (fun _ _ _ h=>h) (Or.inl ⟨by rfl,?_⟩) ?_ ?_
             rotate_left
             ·intro w'
              go_simp
              with_reducible rfl
             rotate_left
             ·simp only [Act.put,List.setIfInBounds_toArray,List.set_cons_zero,List.set_cons_succ,i64_w,i32_w]
              rfl
             refine pure_ (i:=36) (N:=some 102) (v:=?_) (a':=?_) #[true,true,true,true,true,true,true,true,true,true,true,true,true,true,true,true,true,true,true,true,true,true,true,true,true,true,true,true,true,true,true,true,true,true,false,true,true,false,false,false,false,false,false,false,false,false,false,false,false,false,false,false,false,false,false,false,false,false] rfl rfl (any_of HT_.out (by kernel_rfl)) (fun _ _ _ h=>h) (Or.inl ⟨by rfl,?_⟩) ?_ ?_
             rotate_left
             ·intro w'
              go_simp
              with_reducible rfl
             rotate_left
             ·simp only [Act.put,List.setIfInBounds_toArray,List.set_cons_zero,List.set_cons_succ,i64_w,i32_w]
              rfl
             refine take_ (i:=34) (N:=some 100) (v:=?_) (a':=?_) #[true,true,true,true,true,true,true,true,true,true,true,true,true,true,true,true,true,true,true,true,true,true,true,true,true,true,true,true,true,true,true,true,true,true,true,true,true,false,false,false,false,false,false,false,false,false,false,false,false,false,false,false,false,false,false,false,false,false] rfl rfl (take_ofW HT_.out HW_.out (by kernel_rfl)) (fun _ _ _ h=>h) (Or.inl ⟨by rfl,?_⟩) hHeld ?_ ?_
             rotate_left
             ·rintro w' ⟨s0,s1,s2,s3,s4,s5,s6,s7,s8,s9,s10,s11,s12,s13,s14,s15,s16,s17,s18,s19⟩
              go_simp
              with_reducible rfl
             rotate_left
             ·simp only [Act.put,List.setIfInBounds_toArray,List.set_cons_zero,List.set_cons_succ,i64_w,i32_w]
              rfl
             refine take_ (i:=37) (N:=some 103) (v:=?_) (a':=?_) #[true,true,true,true,true,true,true,true,true,true,true,true,true,true,true,true,true,true,true,true,true,true,true,true,true,true,true,true,true,true,true,true,true,true,true,true,true,true,false,false,false,false,false,false,false,false,false,false,false,false,false,false,false,false,false,false,false,false] rfl rfl (take_ofW HT_.out HW_.out (by kernel_rfl)) (fun _ _ _ h=>h) (Or.inl ⟨by rfl,?_⟩) hHeld ?_ ?_
             rotate_left
             ·rintro w' ⟨s0,s1,s2,s3,s4,s5,s6,s7,s8,s9,s10,s11,s12,s13,s14,s15,s16,s17,s18,s19⟩
              go_simp
              with_reducible rfl
             rotate_left
             ·simp only [Act.put,List.setIfInBounds_toArray,List.set_cons_zero,List.set_cons_succ,i64_w,i32_w]
              rfl
             refine pure_ (i:=38) (N:=some 104) (v:=?_) (a':=?_) #[true,true,true,true,true,true,true,true,true,true,true,true,true,true,true,true,true,true,true,true,true,true,true,true,true,true,true,true,true,true,true,true,true,true,true,true,true,true,true,false,false,false,false,false,false,false,false,false,false,false,false,false,false,false,false,false,false,false] rfl rfl (any_of HT_.out (by kernel_rfl)) (fun _ _ _ h=>h) (Or.inl ⟨by rfl,?_⟩) ?_ ?_
             rotate_left
             ·intro w'
              go_simp
              with_reducible rfl
             rotate_left
             ·simp only [Act.put,List.setIfInBounds_toArray,List.set_cons_zero,List.set_cons_succ,i64_w,i32_w]
              rfl
             refine pure_ (i:=39) (N:=some 105) (v:=?_) (a':=?_) #[true,true,true,true,true,true,true,true,true,true,true,true,true,true,true,true,true,true,true,true,true,true,true,true,true,true,true,true,true,true,true,true,true,true,true,true,true,true,true,true,false,false,false,false,false,false,false,false,false,false,false,false,false,false,false,false,false,false] rfl rfl (any_of HT_.out (by kernel_rfl)) (fun _ _ _ h=>h) (Or.inl ⟨by rfl,?_⟩) ?_ ?_
             rotate_left
             ·intro w'
              go_simp
              with_reducible rfl
             rotate_left
             ·simp only [Act.put,List.setIfInBounds_toArray,List.set_cons_zero,List.set_cons_succ,i64_w,i32_w]
              rfl
             refine pure_ (i:=40) (N:=some 106) (v:=?_) (a':=?_) #[true,true,true,true,true,true,true,true,true,true,true,true,true,true,true,true,true,true,true,true,true,true,true,true,true,true,true,true,true,true,true,true,true,true,true,true,true,true,true,true,true,false,false,false,false,false,false,false,false,false,false,false,false,false,false,false,false,false] rfl rfl (any_of HT_.out (by kernel_rfl)) (fun _ _ _ h=>h) (Or.inl ⟨by rfl,?_⟩) ?_ ?_
             rotate_left
             ·intro w'
              go_simp
              with_reducible rfl
             rotate_left
             ·simp only [Act.put,List.setIfInBounds_toArray,List.set_cons_zero,List.set_cons_succ,i64_w,i32_w]
              rfl
             refine pure_ (i:=41) (N:=some 107) (v:=?_) (a':=?_) #[true,true,true,true,true,true,true,true,true,true,true,true,true,true,true,true,true,true,true,true,true,true,true,true,true,true,true,true,true,true,true,true,true,true,true,true,true,true,true,true,true,true,false,false,false,false,false,false,false,false,false,false,false,false,false,false,false,false] rfl rfl (any_of HT_.out (by kernel_rfl)) (fun _ _ _ h=>h) (Or.inl ⟨by rfl,?_⟩) ?_ ?_
             rotate_left
             ·intro w'
              go_simp
              with_reducible rfl
             rotate_left
             ·simp only [Act.put,List.setIfInBounds_toArray,List.set_cons_zero,List.set_cons_succ,i64_w,i32_w]
              rfl
             refine pure_ (i:=42) (N:=some 108) (v:=?_) (a':=?_) #[true,true,true,true,true,true,true,true,true,true,true,true,true,true,true,true,true,true,true,true,true,true,true,true,true,true,true,true,true,true,true,true,true,true,true,true,true,true,true,true,true,true,true,false,false,false,false,false,false,false,false,false,false,false,false,false,false,false] rfl rfl (any_of HT_.out (by kernel_rfl)) (fun _ _ _ h=>h) (Or.inl ⟨by rfl,?_⟩) ?_ ?_
             rotate_left
             ·intro w'
              go_simp
              with_reducible rfl
             rotate_left
             ·simp only [Act.put,List.setIfInBounds_toArray,List.set_cons_zero,List.set_cons_succ,i64_w,i32_w]
              rfl
             refine pure_ (i:=43) (N:=some 109) (v:=?_) (a':=?_) #[true,true,true,true,true,true,true,true,true,true,true,true,true,true,true,true,true,true,true,true,true,true,true,true,true,true,true,true,true,true,true,true,true,true,true,true,true,true,true,true,true,true,true,true,false,false,false,false,false,false,false,false,false,false,false,false,false,false] rfl rfl (any_of HT_.out (by kernel_rfl)) (fun _ _ _ h=>h) (Or.inl ⟨by rfl,?_⟩) ?_ ?_
             rotate_left
             ·intro w'
              go_simp
              with_reducible rfl
             rotate_left
             ·simp only [Act.put,List.setIfInBounds_toArray,List.set_cons_zero,List.set_cons_succ,i64_w,i32_w]
              rfl
             refine pure_ (i:=44) (N:=some 110) (v:=?_) (a':=?_) #[true,true,true,true,true,true,true,true,true,true,true,true,true,true,true,true,true,true,true,true,true,true,true,true,true,true,true,true,true,true,true,true,true,true,true,true,true,true,true,true,true,true,true,true,true,false,false,false,false,false,false,false,false,false,false,false,false,false] rfl rfl (any_of HT_.out (by kernel_rfl)) (fun _ _ _ h=>h) (Or.inl ⟨by rfl,?_⟩) ?_ ?_
             rotate_left
             ·intro w'
              go_simp
              with_reducible rfl
             rotate_left
             ·simp only [Act.put,List.setIfInBounds_toArray,List.set_cons_zero,List.set_cons_succ,i64_w,i32_w]
              rfl
             refine pure_ (i:=46) (N:=some 112) (v:=?_) (a':=?_) #[true,true,true,true,true,true,true,true,true,true,true,true,true,true,true,true,true,true,true,true,true,true,true,true,true,true,true,true,true,true,true,true,true,true,true,true,true,true,true,true,true,true,true,true,true,false,true,false,false,false,false,false,false,false,false,false,false,false] rfl rfl (any_of HT_.out (by kernel_rfl)) (fun _ _ _ h=>h) (Or.inl ⟨by rfl,?_⟩) ?_ ?_
             rotate_left
             ·intro w'
              go_simp
              with_reducible rfl
             rotate_left
             ·simp only [Act.put,List.setIfInBounds_toArray,List.set_cons_zero,List.set_cons_succ,i64_w,i32_w]
              rfl
             refine take_ (i:=45) (N:=some 111) (v:=?_) (a':=?_) #[true,true,true,true,true,true,true,true,true,true,true,true,true,true,true,true,true,true,true,true,true,true,true,true,true,true,true,true,true,true,true,true,true,true,true,true,true,true,true,true,true,true,true,true,true,true,true,false,false,false,false,false,false,false,false,false,false,false] rfl rfl (take_ofW HT_.out HW_.out (by kernel_rfl)) (fun _ _ _ h=>h) (Or.inl ⟨by rfl,?_⟩) hHeld ?_ ?_
             rotate_left
             ·rintro w' ⟨s0,s1,s2,s3,s4,s5,s6,s7,s8,s9,s10,s11,s12,s13,s14,s15,s16,s17,s18,s19⟩
              go_simp
              with_reducible rfl
             rotate_left
             ·simp only [Act.put,List.setIfInBounds_toArray,List.set_cons_zero,List.set_cons_succ,i64_w,i32_w]
              rfl
             refine pure_ (i:=47) (N:=some 113) (v:=?_) (a':=?_) #[true,true,true,true,true,true,true,true,true,true,true,true,true,true,true,true,true,true,true,true,true,true,true,true,true,true,true,true,true,true,true,true,true,true,true,true,true,true,true,true,true,true,true,true,true,true,true,true,false,false,false,false,false,false,false,false,false,false] rfl rfl (any_of HT_.out (by kernel_rfl)) (fun _ _ _ h=>h) (Or.inl ⟨by rfl,?_⟩) ?_ ?_
             rotate_left
             ·intro w'
              go_simp
              with_reducible rfl
             rotate_left
             ·simp only [Act.put,List.setIfInBounds_toArray,List.set_cons_zero,List.set_cons_succ,i64_w,i32_w]
              rfl
             refine pure_ (i:=48) (N:=some 114) (v:=?_) (a':=?_) #[true,true,true,true,true,true,true,true,true,true,true,true,true,true,true,true,true,true,true,true,true,true,true,true,true,true,true,true,true,true,true,true,true,true,true,true,true,true,true,true,true,true,true,true,true,true,true,true,true,false,false,false,false,false,false,false,false,false] rfl rfl (any_of HT_.out (by kernel_rfl)) (fun _ _ _ h=>h) (Or.inl ⟨by rfl,?_⟩) ?_ ?_
             rotate_left
             ·intro w'
              go_simp
              with_reducible rfl
             rotate_left
             ·simp only [Act.put,List.setIfInBounds_toArray,List.set_cons_zero,List.set_cons_succ,i64_w,i32_w]
              rfl
             refine pure_ (i:=49) (N:=some 115) (v:=?_) (a':=?_) #[true,true,true,true,true,true,true,true,true,true,true,true,true,true,true,true,true,true,true,true,true,true,true,true,true,true,true,true,true,true,true,true,true,true,true,true,true,true,true,true,true,true,true,true,true,true,true,true,true,true,false,false,false,false,false,false,false,false] rfl rfl (any_of HT_.out (by kernel_rfl)) (fun _ _ _ h=>h) (Or.inl ⟨by rfl,?_⟩) ?_ ?_
             rotate_left
             ·intro w'
              go_simp
              with_reducible rfl
             rotate_left
             ·simp only [Act.put,List.setIfInBounds_toArray,List.set_cons_zero,List.set_cons_succ,i64_w,i32_w]
              rfl
             refine pure_ (i:=50) (N:=some 116) (v:=?_) (a':=?_) #[true,true,true,true,true,true,true,true,true,true,true,true,true,true,true,true,true,true,true,true,true,true,true,true,true,true,true,true,true,true,true,true,true,true,true,true,true,true,true,true,true,true,true,true,true,true,true,true,true,true,true,false,false,false,false,false,false,false] rfl rfl (any_of HT_.out (by kernel_rfl)) (fun _ _ _ h=>h) (Or.inl ⟨by rfl,?_⟩) ?_ ?_
             rotate_left
             ·intro w'
              go_simp
              with_reducible rfl
             rotate_left
             ·simp only [Act.put,List.setIfInBounds_toArray,List.set_cons_zero,List.set_cons_succ,i64_w,i32_w]
              rfl
             refine pure_ (i:=51) (N:=some 117) (v:=?_) (a':=?_) #[true,true,true,true,true,true,true,true,true,true,true,true,true,true,true,true,true,true,true,true,true,true,true,true,true,true,true,true,true,true,true,true,true,true,true,true,true,true,true,true,true,true,true,true,true,true,true,true,true,true,true,true,false,false,false,false,false,false] rfl rfl (any_of HT_.out (by kernel_rfl)) (fun _ _ _ h=>h) (Or.inl ⟨by rfl,?_⟩) ?_ ?_
             rotate_left
             ·intro w'
              go_simp
              with_reducible rfl
             rotate_left
             ·simp only [Act.put,List.setIfInBounds_toArray,List.set_cons_zero,List.set_cons_succ,i64_w,i32_w]
              rfl
             refine pure_ (i:=52) (N:=some 118) (v:=?_) (a':=?_) #[true,true,true,true,true,true,true,true,true,true,true,true,true,true,true,true,true,true,true,true,true,true,true,true,true,true,true,true,true,true,true,true,true,true,true,true,true,true,true,true,true,true,true,true,true,true,true,true,true,true,true,true,true,false,false,false,false,false] rfl rfl (any_of HT_.out (by kernel_rfl)) (fun _ _ _ h=>h) (Or.inl ⟨by rfl,?_⟩) ?_ ?_
             rotate_left
             ·intro w'
              go_simp
              with_reducible rfl
             rotate_left
             ·simp only [Act.put,List.setIfInBounds_toArray,List.set_cons_zero,List.set_cons_succ,i64_w,i32_w]
              rfl
             refine pure_ (i:=53) (N:=some 119) (v:=?_) (a':=?_) #[true,true,true,true,true,true,true,true,true,true,true,true,true,true,true,true,true,true,true,true,true,true,true,true,true,true,true,true,true,true,true,true,true,true,true,true,true,true,true,true,true,true,true,true,true,true,true,true,true,true,true,true,true,true,false,false,false,false] rfl rfl (any_of HT_.out (by kernel_rfl)) (fun _ _ _ h=>h) (Or.inl ⟨by rfl,?_⟩) ?_ ?_
             rotate_left
             ·intro w'
              go_simp
              with_reducible rfl
             rotate_left
             ·simp only [Act.put,List.setIfInBounds_toArray,List.set_cons_zero,List.set_cons_succ,i64_w,i32_w]
              rfl
             refine pure_ (i:=54) (N:=some 120) (v:=?_) (a':=?_) #[true,true,true,true,true,true,true,true,true,true,true,true,true,true,true,true,true,true,true,true,true,true,true,true,true,true,true,true,true,true,true,true,true,true,true,true,true,true,true,true,true,true,true,true,true,true,true,true,true,true,true,true,true,true,true,false,false,false] rfl rfl (any_of HT_.out (by kernel_rfl)) (fun _ _ _ h=>h) (Or.inl ⟨by rfl,?_⟩) ?_ ?_
             rotate_left
             ·intro w'
              go_simp
              with_reducible rfl
             rotate_left
             ·simp only [Act.put,List.setIfInBounds_toArray,List.set_cons_zero,List.set_cons_succ,i64_w,i32_w]
              rfl
             refine pure_ (i:=55) (N:=some 121) (v:=?_) (a':=?_) #[true,true,true,true,true,true,true,true,true,true,true,true,true,true,true,true,true,true,true,true,true,true,true,true,true,true,true,true,true,true,true,true,true,true,true,true,true,true,true,true,true,true,true,true,true,true,true,true,true,true,true,true,true,true,true,true,false,false] rfl rfl (any_of HT_.out (by kernel_rfl)) (fun _ _ _ h=>h) (Or.inl ⟨by rfl,?_⟩) ?_ ?_
             rotate_left
             ·intro w'
              go_simp
              with_reducible rfl
             rotate_left
             ·simp only [Act.put,List.setIfInBounds_toArray,List.set_cons_zero,List.set_cons_succ,i64_w,i32_w]
              rfl
             refine pure_ (i:=56) (N:=some 122) (v:=?_) (a':=?_) #[true,true,true,true,true,true,true,true,true,true,true,true,true,true,true,true,true,true,true,true,true,true,true,true,true,true,true,true,true,true,true,true,true,true,true,true,true,true,true,true,true,true,true,true,true,true,true,true,true,true,true,true,true,true,true,true,true,false] rfl rfl (any_of HT_.out (by kernel_rfl)) (fun _ _ _ h=>h) (Or.inl ⟨by rfl,?_⟩) ?_ ?_
             rotate_left
             ·intro w'
              go_simp
              with_reducible rfl
             rotate_left
             ·simp only [Act.put,List.setIfInBounds_toArray,List.set_cons_zero,List.set_cons_succ,i64_w,i32_w]
              rfl
             refine pure_ (i:=57) (N:=some 0) (v:=?_) (a':=?_) #[true,true,true,true,true,true,true,true,true,true,true,true,true,true,true,true,true,true,true,true,true,true,true,true,true,true,true,true,true,true,true,true,true,true,true,true,true,true,true,true,true,true,true,true,true,true,true,true,true,true,true,true,true,true,true,true,true,true] rfl rfl (any_of HT_.out (by kernel_rfl)) (fun _ _ _ h=>h) (Or.inl ⟨by rfl,?_⟩) ?_ ?_
             rotate_left
             ·intro w'
              go_simp
              with_reducible rfl
             rotate_left
             ·simp only [Act.put,List.setIfInBounds_toArray,List.set_cons_zero,List.set_cons_succ,i64_w,i32_w]
              rfl
             refine done_ (done_of HT_.out (by kernel_rfl)) ?_
             try go_wp2
             go_ret
             exact ⟨by first|rfl|(simp [errW_none,errW_some] <;> rfl)|(simp [*,errW_none,errW_some] <;> rfl),by repeat (first|(with_reducible first|exact HB.out|apply below_alloc|apply pw_below_drewN|apply below_drew1|refine below_set ?_ GE251.out|refine below_set ?_ GE261.out|refine below_set ?_ GE271.out)|exact HB.out)⟩
            ·rw [if_neg c26] at H
             exact absurd H (by simp)
           ·rw [if_neg c25] at H
            exact absurd H (by simp)
         ·rw [if_neg c23] at H
          exact absurd H (by simp)
        ·rw [if_neg c22] at H
         exact absurd H (by simp)
       ·replace c21:=Bool.eq_false_iff.mpr c21
        subst c21
        have H1 : (none) = some r:=by rw [if_neg (show ¬ (false = true) by decide)] at H;exact H
        clear H
        have H:=H1
        clear H1
        exact absurd H (by simp)
      ·rw [if_neg c20] at H
       exact absurd H (by simp)
     ·rw [if_neg c19] at H
      exact absurd H (by simp)
    ·replace c18:=Bool.eq_false_iff.mpr c18
     subst c18
     have H1 : (none) = some r:=by rw [if_neg (show ¬ (false = true) by decide)] at H;exact H
     clear H
     have H:=H1
     clear H1
     exact absurd H (by simp)
   ·replace c17:=Bool.eq_false_iff.mpr c17
    subst c17
    have H1 : (none) = some r:=by rw [if_neg (show ¬ (false = true) by decide)] at H;exact H
    clear H
    have H:=H1
    clear H1
    exact absurd H (by simp)
  ·replace c15:=Bool.eq_false_iff.mpr c15
   subst c15
   have H1 : (none) = some r:=by rw [if_neg (show ¬ (false = true) by decide)] at H;exact H
   clear H
   have H:=H1
   clear H1
   exact absurd H (by simp)
 ·rw [if_neg c13] at H
  exact absurd H (by simp)

end Go.Proofs.Ytjcjfghcahbbmaa.P

end

section
set_option linter.unusedVariables false
set_option linter.unusedSimpArgs false
namespace Go.Proofs.YtjcjfghcahbbmaaG
open Go Go.RowKit Go.Proofs.YtjcjfghcahbbmaaR Go.Proofs.YtjcjfghcahbbmaaL Go.Proofs.Ytjcjfghcahbbmaa.P Go.Proofs.YtjcjfghcahbbmaaW.PrintWords
theorem info_entry : ∃ i z, Try.prog.info? 59 = some i ∧ i.zero = some z ∧ z.cells.size = 4 ∧ i.size = 4 ∧ i.bytes = 48 := by
  obtain ⟨i0, hi0, hz1⟩ := Option.map_eq_some_iff.1 info59
  injection hz1 with h0 h
  injection h with h1 h2
  exact ⟨i0, _, hi0, h0, rfl, h1, h2⟩
/-- What a row of entries yields. -/
theorem src_en (W : World) (A : Option Addr) (c : Nat) (ys : List En) (hC : Kd.C k59 W A ys.length ys) :
    ∃ news, Src Try.prog 4 48 (.slice A ys.length c) ys.length news W ∧ Reps (k59.M W 0 (fun _ => True)) 4 ys news := by
  by_cases h0 : ys.length = 0
  · obtain rfl := List.eq_nil_of_length_eq_zero h0
    rcases A with _ | ad
    · exact ⟨[], Src.ofNil W Try.underlying48 c, Reps.none _ _⟩
    · exact ⟨[], Src.ofSlice W Try.underlying48 ad 0 c [] rfl (fun j u h => by simp at h) (fun u h => by cases h), Reps.none _ _⟩
  · obtain ⟨ad, rfl, _⟩ := hC.2.2 (by omega)
    obtain ⟨news, hnr, hnc⟩ := ReadsRow.inner_ hC
    have hM : Reps (k59.M W 0 (fun _ => True)) 4 ys news := hnr.imp_ (fun p c hp => by
      obtain rfl := k59_open hp
      exact k59_mkM _ _ _ p)
    refine ⟨news, Src.ofSlice W Try.underlying48 ad ys.length c news hnr.1 hnc (fun u hu => ?_), hM⟩
    obtain ⟨q, hq, rfl⟩ := List.mem_iff_getElem.1 hu
    have hn4 : news.length = ys.length * 4 := hnr.1
    have hql : q / 4 < ys.length := by omega
    have hc := hM.2 (q / 4) _ (List.getElem?_eq_getElem hql)
    refine k59.K_one (k59.K_of_M hc) _ ?_
    rw [List.mem_iff_getElem?]
    refine ⟨q % 4, ?_⟩
    rw [List.getElem?_take, if_pos (by omega), List.getElem?_drop, show q / 4 * 4 + q % 4 = q by omega, List.getElem?_eq_getElem hq]
theorem app_grow (W : World) (base : Nat) (hbase : base ≤ W.heap.size) (A A' : Option Addr) (c c' : Nat) (xs ys : List En) (hC : Kd.C k59 W A xs.length xs) (hC' : Kd.C k59 W A' ys.length ys)
    (hg : c < xs.length + ys.length) (hl : xs.length + ys.length ≤ 1000) (ty : TypeId) :
    ∃ v W', (Builtin.append_ #[48, 48] ty #[.slice A xs.length c, .slice A' ys.length c']).run Try.prog W = .ok v W' ∧ Kd.R k59 59 W' base (fun _ => True) v (xs ++ ys) ∧ Below W.heap.size W W' := by
  obtain ⟨i0, z, hi, hz, hzc, hsz, hby⟩ := info_entry
  obtain ⟨olds, hS, hM⟩ := src_en W A c xs hC
  obtain ⟨news, hS', hM'⟩ := src_en W A' c' ys hC'
  have hnc : Builtin.nextslicecap (xs.length + ys.length) c ≤ 100000 := by have := nextslicecap_le hg; omega
  have hr := run_append_grow_src W 48 48 ty 59 i0 z Try.underlying48 hi hz A xs.length c olds (by rw [hsz]; exact hS.cellsD) (.slice A' ys.length c') ys.length news (by rw [hsz]; exact hS') hg (by omega) (by rw [hby]; omega)
  obtain ⟨G, hG⟩ : ∃ G, G = grownCap W (xs.length + ys.length) c 59 := ⟨_, rfl⟩
  have hGn : xs.length + ys.length ≤ G := by rw [hG]; exact grownCap_ge W _ _ _
  have hGm : G ≤ maxLen := by rw [hG]; exact grownCap_le_maxLen W _ _ 59 (by unfold maxLen; omega)
  rw [← hG] at hr
  obtain ⟨ROW, hROW⟩ : ∃ ROW : Array Value, ROW = (olds ++ news).toArray ++ Builtin.zeroCells z.cells (G - (xs.length + ys.length)) := ⟨_, rfl⟩
  rw [← hROW] at hr
  have hol : olds.length = xs.length * 4 := hS.newsLen
  have hnl : news.length = ys.length * 4 := hS'.newsLen
  have hRs : ROW.size = G * 4 := by
    rw [hROW]
    simp [Builtin.zeroCells, hzc, hol, hnl]
    omega
  refine ⟨_, _, hr, ⟨fun _ _ => trivial, olds ++ news, ⟨?_, .inr ⟨W.heap.size, G, ROW, ?_, hbase, heap_alloc_new W.drew _, ?_, hGm, hRs, ?_⟩⟩, ?_⟩, below_alloc (below_drew (Below.refl _ _)) _⟩
  · show (olds ++ news).length = (xs ++ ys).length * 4
    rw [List.length_append, List.length_append, hol, hnl]; omega
  · rw [List.length_append]
  · rw [List.length_append]; exact hGn
  · show List.take ((xs ++ ys).length * 4) ROW.toList = olds ++ news
    rw [hROW, Array.toList_append]
    exact List.take_left' (by rw [List.length_append, List.length_append, hol, hnl]; omega)
  · exact Kd.reps_append (hM.imp_ (fun p cs hp => by obtain rfl := k59_openM hp; exact k59_mkM _ _ _ p)) (hM'.imp_ (fun p cs hp => by obtain rfl := k59_openM hp; exact k59_mkM _ _ _ p))
/-- Nothing behind: the row stays. -/
theorem app_none (W : World) (A A' : Option Addr) (n c c' : Nat) (hn : n ≤ c) (ad : Addr) (hA : A = some ad) (ty : TypeId) :
    (Builtin.append_ #[48, 48] ty #[.slice A n c, .slice A' 0 c']).run Try.prog W = .ok (.slice A n c) W := by
  obtain ⟨i0, z, hi, hz, hzc, hsz, hby⟩ := info_entry
  subst hA
  have hS : Src Try.prog 4 48 (.slice A' 0 c') 0 [] W := by
    rcases A' with _ | a2
    · exact Src.ofNil W Try.underlying48 c'
    · exact Src.ofSlice W Try.underlying48 a2 0 c' [] rfl (fun j u h => by simp at h) (fun u h => by cases h)
  have h1 := hS.len W
  have h2 := hS.cells
  simp [Builtin.append_, run_underlying Try.underlying48, sizeOf, typeInfo, hi, hsz, h1, h2, hn, storeCells]
theorem C_takeE {W : World} {A : Option Addr} {xs : List En} (h : Kd.C k59 W A xs.length xs) (n : Nat) (hn : n ≤ xs.length) : Kd.C k59 W A (xs.take n).length (xs.take n) := by
  have hl : (xs.take n).length = n := by rw [List.length_take]; omega
  refine ⟨rfl, by have := h.2.1; omega, fun h0 => ?_⟩
  obtain ⟨ad, e, hc⟩ := h.2.2 (by omega)
  refine ⟨ad, e, fun j p hj => hc j p ?_⟩
  rw [List.getElem?_take] at hj
  split at hj
  · exact hj
  · cases hj
theorem C_dropE {W : World} {ad : Addr} {xs : List En} (h : Kd.C k59 W (some ad) xs.length xs) (n : Nat) (hn : n ≤ xs.length) : Kd.C k59 W (some (ad.add (n * 4))) (xs.drop n).length (xs.drop n) := by
  refine ⟨rfl, by have := h.2.1; rw [List.length_drop]; omega, fun h0 => ⟨_, rfl, fun j p hj => ?_⟩⟩
  obtain ⟨ad', e, hc⟩ := h.2.2 (by rw [List.length_drop] at h0; omega)
  cases e
  rw [List.getElem?_drop] at hj
  obtain ⟨cs, h1, h2, h3⟩ := hc (n + j) p hj
  refine ⟨cs, h1, h2, fun i u hu => ?_⟩
  rw [Addr.add_add, show n * 4 + (j * k59.sz + i) = (n + j) * k59.sz + i from by show n * 4 + (j * 4 + i) = (n + j) * 4 + i; omega]
  exact h3 i u hu
/-- An append whose run is known, as a step of a region that draws. -/
theorem step_append_eq {P : Program} {ops : Array Oper} {o : Oper} {a : Act} {w : World} {K : Act → World → Prop} {Q : Exit → Act → World → Prop} {E : Prop}
    (hg : o.guard = none) (d x : Operand) (dT sT : TypeId) (hop : o.op = Op.call { callee := Callee.builtin Builtin.append, args := #[d, x], argTypes := #[dT, sT] })
    (v u : Value) (hd : a.eval d = v) (hx : a.eval x = u) {v' : Value} {w' : World} (hr : (Builtin.append_ #[dT, sT] o.type #[v, u]).run P w = .ok v' w') (hK : K (a.put o.dst v') w') :
    if Region.wanted o (yielded ops a.tmps) = true then Oper.wp P o a w K Q else E := by
  have hw : Region.wanted o (yielded ops a.tmps) = true := by simp [Region.wanted, hg]
  rw [if_pos hw]
  unfold Oper.wp
  simp [execOp, hop, resolve, invoke, builtin, hd, hx, hr, Result.andThen]
  exact hK
theorem R_one (W : World) (e : En) : Kd.R k59 59 (W.alloc (.cells #[.string e.f0.f0, .int .u64 e.f0.f1, .int .u8 e.f0.f2, .string e.f1] 59)) 0 (fun _ => True) (.slice (some ⟨W.heap.size, 0, none⟩) 1 1) [e] := by
  refine ⟨fun k hk => trivial, [.string e.f0.f0, .int .u64 e.f0.f1, .int .u8 e.f0.f2, .string e.f1], ?_, ⟨rfl, fun j p hj => ?_⟩⟩
  · exact World.ownsRow_lit (base := 0) (e := 59) (size := k59.sz) W #[.string e.f0.f0, .int .u64 e.f0.f1, .int .u8 e.f0.f2, .string e.f1] 1 (Nat.zero_le _) (by decide) rfl
  · cases j with
    | zero =>
      simp only [List.getElem?_cons_zero, Option.some.injEq] at hj
      subst hj
      exact k59_mkM _ _ _ e
    | succ j => simp at hj
/-- An entry put into a row at its place: two appends, each of which makes a row of its own. -/
theorem ins_run (W : World) (A : Option Addr) (o : List En) (c j : Nat) (e : En) (hC : Kd.C k59 W A o.length o) (hc : o.length ≤ c) (hj : j ≤ o.length) (hl : o.length ≤ 600) (ty ty' : TypeId) :
    ∃ v7 W7, (Builtin.append_ #[48, 48] ty #[.slice (some ⟨W.heap.size, 0, none⟩) 1 1, .slice (if c = j then A else Option.map (fun x => x.add (j * 4)) A) (o.length - j) (c - j)]).run Try.prog (W.alloc (.cells #[.string e.f0.f0, .int .u64 e.f0.f1, .int .u8 e.f0.f2, .string e.f1] 59)).drew = .ok v7 W7 ∧ Below W.heap.size W W7 ∧
      ∃ v8 W8, (Builtin.append_ #[48, 48] ty' #[.slice A j j, v7]).run Try.prog W7 = .ok v8 W8 ∧ Kd.R k59 59 W8 W.heap.size (fun _ => True) v8 (o.take j ++ ([e] ++ o.drop j)) ∧ Below W.heap.size W W8 := by
  obtain ⟨W6, hW6⟩ : ∃ W6, W6 = (W.alloc (.cells #[.string e.f0.f0, .int .u64 e.f0.f1, .int .u8 e.f0.f2, .string e.f1] 59)).drew := ⟨_, rfl⟩
  rw [← hW6]
  have hb6 : Below W.heap.size W W6 := by rw [hW6]; exact below_drew (below_alloc (Below.refl _ _) _)
  have hs6 : W6.heap.size = W.heap.size + 1 := by rw [hW6]; simp
  have C0 : Kd.C k59 W6 (some ⟨W.heap.size, 0, none⟩) ([e] : List En).length [e] := by rw [hW6]; exact Kd.C_drew (Kd.R_reads' (R_one W e)).2.2
  obtain ⟨A', hA'⟩ : ∃ A', A' = (if c = j then A else Option.map (fun x => x.add (j * 4)) A) := ⟨_, rfl⟩
  rw [← hA']
  have hdl : (o.drop j).length = o.length - j := List.length_drop
  have Cs : Kd.C k59 W6 A' (o.drop j).length (o.drop j) := by
    by_cases hz : o.length - j = 0
    · have hn : o.drop j = [] := List.eq_nil_of_length_eq_zero (by omega)
      rw [hn]
      exact ⟨rfl, Nat.zero_le _, fun h => absurd h (Nat.lt_irrefl 0)⟩
    · obtain ⟨ad, e1, _⟩ := hC.2.2 (by omega)
      subst e1
      rw [hA', if_neg (by omega)]
      exact C_dropE (Kd.C_below hC hb6) j hj
  have hrun : ∃ A7 c7 W7, (Builtin.append_ #[48, 48] ty #[.slice (some ⟨W.heap.size, 0, none⟩) 1 1, .slice A' (o.length - j) (c - j)]).run Try.prog W6 = .ok (.slice A7 ([e] ++ o.drop j).length c7) W7 ∧ Kd.C k59 W7 A7 ([e] ++ o.drop j).length ([e] ++ o.drop j) ∧ Below W6.heap.size W6 W7 := by
    by_cases hz : o.length - j = 0
    · have hn : o.drop j = [] := List.eq_nil_of_length_eq_zero (by omega)
      have h := app_none W6 (some ⟨W.heap.size, 0, none⟩) A' 1 1 (c - j) (Nat.le_refl _) _ rfl ty
      rw [hz, hn]
      exact ⟨_, _, _, h, C0, Below.refl _ _⟩
    · obtain ⟨v, W7, h, hR, hb⟩ := app_grow W6 W6.heap.size (Nat.le_refl _) (some ⟨W.heap.size, 0, none⟩) A' 1 (c - j) [e] (o.drop j) C0 Cs (by rw [hdl]; show 1 < 1 + _; omega) (by rw [hdl]; show 1 + _ ≤ 1000; omega) ty
      rw [hdl] at h
      obtain ⟨A7, c7, rfl⟩ := Kd.R_slice hR
      exact ⟨A7, c7, W7, h, (Kd.R_reads' hR).2.2, hb⟩
  obtain ⟨A7, c7, W7, h7, C7, hb7⟩ := hrun
  have hB7 : Below W.heap.size W W7 := below_then hb6 hb6.size hb7
  have htl : (o.take j).length = j := by rw [List.length_take]; omega
  obtain ⟨v8, W8, h8, R8, hb8⟩ := app_grow W7 W.heap.size hB7.size A A7 j c7 (o.take j) ([e] ++ o.drop j) (C_takeE (Kd.C_below hC hB7) j hj) C7 (by rw [htl, List.length_append]; show j < j + (1 + _); omega) (by rw [htl, List.length_append, hdl]; show j + (1 + _) ≤ 1000; omega) ty'
  rw [htl] at h8
  exact ⟨_, W7, h7, hB7, v8, W8, h8, R8, below_then hB7 hB7.size hb8⟩
end Go.Proofs.YtjcjfghcahbbmaaG

end
