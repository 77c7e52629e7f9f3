/- Proved here: the row of BlockCut, and what it needs. Conditions: those of each theorem. Written for this claim by programs; what the claim does not use is left out. -/
import Derived.KernelRfl
import Derived.ChangeArms
import Derived.DataReads
import Derived.DataElems
import Derived.OpenShut
import Derived.SizedLaws
import Derived.Test.YtjcjfghcahbbmaaRows
import Derived.WalkKit
import Derived.ProofKit
import Derived.ShutString
import Derived.ChangeOld
import Derived.Below
import Derived.Test.YtjcjfghcahbbmaaSBlockCut5
section
set_option linter.unusedVariables false
set_option linter.unusedSimpArgs false
namespace Go.Proofs.YtjcjfghcahbbmaaL
open Go Go.RowKit Go.Proofs.YtjcjfghcahbbmaaG Go.Proofs.Ytjcjfghcahbbmaa.P Go.Proofs.YtjcjfghcahbbmaaW.PrintWords Go.Proofs.YtjcjfghcahbbmaaW.PrintMore

theorem eqK_zero {x y : Ik} (h : cmpI x y = 0) : eqK x y = true := by
  obtain ⟨h0, h1, h2⟩ := (cmpI_zero x y).1 h
  unfold eqK
  rw [h0, h1, h2]
  simp
theorem behind {a e : Ik} (h : ¬ cmpI a e < 0) (h2 : eqK a e = false) : cmpI e a < 0 := by
  have hn : cmpI a e ≠ 0 := fun q => by rw [eqK_zero q] at h2; cases h2
  rw [cmpI_neg]
  omega
theorem rises_head {a : En} {l : List En} (h : ∀ b r, l = b :: r → cmpI a.f0 b.f0 < 0) (hl : risesB l = true) : risesB (a :: l) = true := by
  cases l with
  | nil => rfl
  | cons b r => rw [rises_two, decide_eq_true (h b r rfl), hl]; rfl
theorem rises_ins (e : En) : ∀ o : List En, risesB o = true → (seekN o e.f0 < o.length → eqK (o.getD (seekN o e.f0) zeroE).f0 e.f0 = false) → risesB (o.take (seekN o e.f0) ++ ([e] ++ o.drop (seekN o e.f0))) = true
  | [], _, _ => rfl
  | a :: t, h, hc => by
    by_cases ha : aheadB e.f0 a = true
    · have hs : seekN (a :: t) e.f0 = seekN t e.f0 + 1 := by unfold seekN; rw [List.takeWhile_cons, if_pos ha]; rfl
      rw [hs] at hc ⊢
      have ih := rises_ins e t (rises_tail h) (fun q => by
        have := hc (by show seekN t e.f0 + 1 < t.length + 1; omega)
        rwa [List.getD_cons_succ] at this)
      rw [List.take_succ_cons, List.drop_succ_cons, List.cons_append]
      refine rises_head (fun b r hb => ?_) ih
      cases t with
      | nil =>
        have hb' : ([e] : List En) = b :: r := hb
        injection hb' with h1 _
        rw [← h1]
        exact of_decide_eq_true ha
      | cons c u =>
        rw [rises_two, Bool.and_eq_true] at h
        by_cases hc0 : seekN (c :: u) e.f0 = 0
        · rw [hc0] at hb
          have hb' : e :: (c :: u) = b :: r := hb
          injection hb' with h1 _
          rw [← h1]
          exact of_decide_eq_true ha
        · obtain ⟨m, hm⟩ : ∃ m, seekN (c :: u) e.f0 = m + 1 := ⟨seekN (c :: u) e.f0 - 1, by omega⟩
          rw [hm, List.take_succ_cons, List.cons_append] at hb
          injection hb with h1 _
          rw [← h1]
          exact of_decide_eq_true h.1
    · have hs : seekN (a :: t) e.f0 = 0 := by unfold seekN; rw [List.takeWhile_cons, if_neg ha]; rfl
      rw [hs] at hc ⊢
      have h2 := hc (by show 0 < t.length + 1; omega)
      have h3 : cmpI e.f0 a.f0 < 0 := behind (fun q => ha (decide_eq_true q)) h2
      show risesB (e :: a :: t) = true
      rw [rises_two, decide_eq_true h3, h]
      rfl
theorem srtE_fine (most : Int) (hm : 0 ≤ most) (l : List En) : (∀ e ∈ srtE most l, OkE e ∧ e ∈ l) ∧ risesB (srtE most l) = true ∧ ((srtE most l).length : Int) ≤ most := by
  refine rev_ind (P := fun l => (∀ e ∈ srtE most l, OkE e ∧ e ∈ l) ∧ risesB (srtE most l) = true ∧ ((srtE most l).length : Int) ≤ most) ⟨fun e he => (by cases he), rfl, hm⟩ (fun l e ih => ?_) l
  obtain ⟨i1, i2, i3⟩ := ih
  rw [srtE_snoc]
  have hmem : ∀ x ∈ srtE most l, OkE x ∧ x ∈ l ++ [e] := fun x hx => ⟨(i1 x hx).1, List.mem_append_left _ (i1 x hx).2⟩
  unfold insE
  by_cases ho : outE most (srtE most l) e = true
  · rw [if_pos ho]
    exact ⟨hmem, i2, i3⟩
  · rw [if_neg ho]
    have ho' := Bool.eq_false_iff.2 ho
    unfold outE at ho'
    rw [Bool.or_eq_false_iff, Bool.or_eq_false_iff] at ho'
    obtain ⟨⟨o1, o2⟩, o3⟩ := ho'
    have hok : OkE e := by simpa using o1
    have hne : ((srtE most l).length : Int) ≠ most := of_decide_eq_false o3
    refine ⟨fun x hx => ?_, rises_ins e _ i2 (fun q => ?_), ?_⟩
    · rcases List.mem_append.1 hx with hx | hx
      · exact hmem x (List.mem_of_mem_take hx)
      · rcases List.mem_append.1 hx with hx | hx
        · rw [List.mem_singleton.1 hx]
          exact ⟨hok, by simp⟩
        · exact hmem x (List.mem_of_mem_drop hx)
    · rw [decide_eq_true q, Bool.true_and] at o2
      exact o2
    · simp only [List.length_append, List.length_take, List.length_drop, List.length_singleton]
      omega
theorem srt_ok (l : List En) (h : 0 < (srtE 64 l).length) : okEs (srtE 64 l) = true := by
  obtain ⟨h1, h2, h3⟩ := srtE_fine 64 (by decide) l
  unfold okEs
  rw [decide_eq_true h, decide_eq_true (show (srtE 64 l).length ≤ 64 by omega), decide_eq_true (show ∀ e ∈ srtE 64 l, OkE e from fun e he => (h1 e he).1), h2]
  rfl
theorem srt_wf {l : List En} (hw : ∀ e ∈ l, WfN e) : ∀ e ∈ srtE 64 l, WfN e := fun e he => hw e ((srtE_fine 64 (by decide) l).1 e he).2
theorem srt_f {l : List En} (h : l.length ≤ 500) : ratlinelaw07_Sorted.f l 64 = some (srtE 64 l) := by unfold ratlinelaw07_Sorted.f; rw [if_pos h]
end Go.Proofs.YtjcjfghcahbbmaaL

end

section
set_option linter.unusedVariables false
namespace Go.Proofs.YtjcjfghcahbbmaaL
open Go Go.RowKit Go.Proofs.YtjcjfghcahbbmaaG Go.Proofs.Ytjcjfghcahbbmaa.P Go.Proofs.YtjcjfghcahbbmaaW.PrintWords Go.Proofs.YtjcjfghcahbbmaaW.PrintMore

instance decIkE : DecidableEq Ik := fun x y => decidable_of_iff (x.f0 = y.f0 ∧ x.f1 = y.f1 ∧ x.f2 = y.f2) (by cases x; cases y; simp)
instance decEnE : DecidableEq En := fun x y => decidable_of_iff (x.f0 = y.f0 ∧ x.f1 = y.f1) (by cases x; cases y; simp)
theorem rd_ent (l : List En) {j : Nat} (h : j < l.length) : rd_T59 l (j : Int) = l[j] := getD_at h
theorem esame_loop (a b : List En) (hl : a.length = b.length) (hm : a.length < 9223372036854775800) :
    ∀ (m j : Nat), j + m = a.length → Ev (fun k => ratlinelaw04_Entries.l0 k a b (a.length : Int) (j : Int)) (decide (a.drop j = b.drop j)) := by
  intro m
  induction m with
  | zero =>
    intro j hj
    obtain rfl : j = a.length := by omega
    refine ev_step (fun k => by rw [ratlinelaw04_Entries.l0, if_neg (Int.lt_irrefl _)]) ?_
    rw [List.drop_length, hl, List.drop_length]
    simpa using ev_some _
  | succ m ih =>
    intro j hj
    have ha : j < a.length := by omega
    have hb : j < b.length := by omega
    refine ev_step (fun k => by rw [ratlinelaw04_Entries.l0, if_pos (by omega), if_pos (by omega), if_pos (by omega), if_pos (by omega), rd_ent a ha, rd_ent b hb, up1 (by omega)]) ?_
    rw [List.drop_eq_getElem_cons ha, List.drop_eq_getElem_cons hb]
    by_cases h : a[j] = b[j]
    · refine ev_neg (by rw [h]; simp) ?_
      rw [show decide (a[j] :: a.drop (j + 1) = b[j] :: b.drop (j + 1)) = decide (a.drop (j + 1) = b.drop (j + 1)) from decide_eq_decide.2 ⟨fun q => (List.cons.inj q).2, fun q => by rw [h, q]⟩]
      exact ih (j + 1) (by omega)
    · refine ev_pos ?_ ?_
      · generalize a[j] = x at *
        generalize b[j] = y at *
        obtain ⟨⟨x0, x1, x2⟩, x3⟩ := x
        obtain ⟨⟨y0, y1, y2⟩, y3⟩ := y
        simp only [S59.mk.injEq, S50.mk.injEq] at h
        simp only [Bool.or_eq_true, Bool.not_eq_true', beq_eq_false_iff_ne, ne_eq, ba_eq_iff]
        exact Classical.byCases (fun q : x3 = y3 => .inl (Classical.byCases (fun q1 : x0 = y0 => .inr (Classical.byCases (fun q2 : x1 = y1 => .inr (fun q3 => h ⟨⟨q1, q2, q3⟩, q⟩)) .inl)) .inl)) .inr
      · rw [decide_eq_false (fun q => h (List.cons.inj q).1)]
        exact ev_some _
theorem esame_f (a b : List En) (hm : a.length < 9223372036854775800) : Ev (fun k => ratlinelaw04_Entries.f k a b) (decide (a = b)) := by
  unfold ratlinelaw04_Entries.f
  by_cases hl : a.length = b.length
  · refine ev_pos (by omega) ?_
    have := esame_loop a b hl hm a.length 0 (by omega)
    rwa [List.drop_zero, List.drop_zero] at this
  · refine ev_neg (by omega) ?_
    rw [decide_eq_false (fun e => hl (by rw [e]))]
    exact ev_some _
end Go.Proofs.YtjcjfghcahbbmaaL

end

section
set_option linter.unusedVariables false
set_option linter.unusedSimpArgs false
namespace Go.Proofs.YtjcjfghcahbbmaaL
open Go Go.RowKit Go.Proofs.YtjcjfghcahbbmaaG Go.Proofs.Ytjcjfghcahbbmaa.P Go.Proofs.YtjcjfghcahbbmaaW.PrintWords Go.Proofs.YtjcjfghcahbbmaaW.PrintMore

def bx1 : En := ⟨⟨⟨#[97]⟩, 5, 1⟩, ⟨#[120]⟩⟩
def bx2 : En := ⟨⟨⟨#[97, 98]⟩, 4, 0⟩, ⟨#[]⟩⟩
def bxL : List En := [bx1, bx2]
theorem bx_ok : okEs bxL = true := by decide +kernel
theorem bx_wf : ∀ e ∈ bxL, WfN e := by decide +kernel
theorem bx_form : formB bxL = [0, 1, 97, 11, 1, 120, 1, 1, 98, 8, 0, 0, 0, 0, 1, 0, 0, 0] := by
  have c1 : com (keyAt 0 ⟨#[]⟩) bx1.f0.f0 = 0 := by decide +kernel
  have c2 : com (keyAt 1 bx1.f0.f0) bx2.f0.f0 = 1 := by decide +kernel
  have e1 : entF 0 bx1 = [0, 1, 97, 11, 1, 120] := by
    show vint 0 ++ (vint 1 ++ ([97] ++ (vint 11 ++ (vint 1 ++ [120])))) = _
    rw [vint_small (x := 0) (by omega), vint_small (x := 1) (by omega), vint_small (x := 11) (by omega)]
    rfl
  have e2 : entF 1 bx2 = [1, 1, 98, 8] := by
    show vint 1 ++ (vint 1 ++ ([98] ++ (vint 8 ++ []))) = _
    rw [vint_small (x := 1) (by omega), vint_small (x := 8) (by omega)]
    rfl
  have s1 : BS.put BS.z bx1 = ⟨[0, 1, 97, 11, 1, 120], [0, 0, 0, 0], 1, bx1.f0.f0⟩ := by
    unfold BS.put BS.n
    rw [show com (keyAt BS.z.m BS.z.k) bx1.f0.f0 = 0 from c1, e1]
    rfl
  have s2 : BS.put ⟨[0, 1, 97, 11, 1, 120], [0, 0, 0, 0], 1, bx1.f0.f0⟩ bx2 = ⟨[0, 1, 97, 11, 1, 120, 1, 1, 98, 8], [0, 0, 0, 0], 2, bx2.f0.f0⟩ := by
    unfold BS.put BS.n
    simp only
    rw [c2, e2]
    rfl
  have s3 : bldS bxL = ⟨[0, 1, 97, 11, 1, 120, 1, 1, 98, 8], [0, 0, 0, 0], 2, bx2.f0.f0⟩ := by
    show BS.put (BS.put BS.z bx1) bx2 = _
    rw [s1, s2]
  unfold formB
  rw [s3]
  rfl
theorem bx_ents : block_entries.f 40 [0, 1, 97, 11, 1, 120, 0, 2, 97, 98, 8] = some (bxL, true) := by kernel_rfl
theorem seek_f {l : List En} (hk : okEs l = true) (hw : ∀ e ∈ l, WfN e) (x : Ik) : block_Seek.f (formB l) x.f0 x.f1 x.f2 = some ((seekR (l, 0) x).1.f0.f0, (seekR (l, 0) x).1.f0.f1, (seekR (l, 0) x).1.f0.f2, (seekR (l, 0) x).1.f1, (seekR (l, 0) x).2.1, (seekR (l, 0) x).2.2) := by
  obtain ⟨_, k2, k3, _⟩ := okEs_parts hk
  unfold block_Seek.f
  rw [if_pos ⟨formB_by l, by have := (formB_len k3 hw k2).2; omega⟩, parseG_form hk hw]
theorem bx_seek1 : seekR (bxL, 0) ⟨⟨#[97]⟩, 6, 1⟩ = (bx1, true, 0) := by kernel_rfl
theorem bx_seek2 : seekR (bxL, 0) ⟨⟨#[97]⟩, 4, 1⟩ = (bx2, true, 0) := by kernel_rfl
theorem bx_seek3 : seekR (bxL, 0) ⟨⟨#[97, 98]⟩, 3, 1⟩ = (zeroE, false, 0) := by kernel_rfl
abbrev bxB : List Int := [0, 1, 97, 11, 1, 120, 1, 1, 98, 8, 0, 0, 0, 0, 1, 0, 0, 0]
abbrev bxN : List Int := [0, 1, 97, 11, 1, 120, 0, 2, 97, 98, 8, 0, 0, 0, 0, 1, 0, 0, 0]
theorem bx_form' : formB bxL = bxB := bx_form
theorem bx_by : By bxB := by rw [← bx_form']; exact formB_by _
theorem bx_build : block_Build.f bxL = some (bxB, 0) := by
  rw [build_f (by decide) bx_wf, bx_ok, ← bx_form']
  rfl
theorem bx_parse : Ev (fun k => block_Parse.f k bxB) (bxL, 0) := by
  rw [← bx_form']
  exact bparse_form bx_ok bx_wf
theorem bx_none : Ev (fun k => block_Parse.f k bxN) ([], 70) := by
  have hT : nums_TakeFour.f (bxN.drop 15) = some (1, [], true) := by kernel_rfl
  have hL : mx (wrap64 ((bxN.length : Int) - 4)) 0 = 15 := by decide +kernel
  have hE : wrap64 ((wrap64 ((bxN.length : Int) - 4)) - (wrap64 (4 * (wrap64 (mn 1 64))))) = 11 := by decide +kernel
  have hN : By bxN := .cons (by omega) (by omega) (.cons (by omega) (by omega) (.cons (by omega) (by omega) (.cons (by omega) (by omega) (.cons (by omega) (by omega) (.cons (by omega) (by omega) (.cons (by omega) (by omega) (.cons (by omega) (by omega) (.cons (by omega) (by omega) (.cons (by omega) (by omega) (.cons (by omega) (by omega) (.cons (by omega) (by omega) (.cons (by omega) (by omega) (.cons (by omega) (by omega) (.cons (by omega) (by omega) (.cons (by omega) (by omega) (.cons (by omega) (by omega) (.cons (by omega) (by omega) (.cons (by omega) (by omega) .nil))))))))))))))))))
  unfold block_Parse.f
  rw [hL]
  refine ev_pos (by decide) (ev_pos (by decide) ?_)
  refine ev_bind3 hT (fun q q1 q2 q3 => ?_)
  rw [q1, q3, hE]
  refine ev_pos rfl ?_
  refine ev_step (fun k => by rw [block_Parse.j0]) (ev_neg (by decide) (ev_pos (by decide) (ev_pos (by decide) ?_)))
  refine ev_call2 (Ev.of (block_entries.mono _) bx_ents) (fun t t1 t2 => ?_)
  rw [t1, t2]
  refine ev_bind bx_build ?_
  refine ev_pos rfl (ev_pos rfl ?_)
  exact ev_bind (bld_equal bx_by hN) (ev_neg (by decide) (ev_some _))
theorem bx_sk {x : Ik} {e : En} {b : Bool} (h : seekR (bxL, 0) x = (e, b, 0)) : block_Seek.f bxB x.f0 x.f1 x.f2 = some (e.f0.f0, e.f0.f1, e.f0.f2, e.f1, b, 0) := by
  have := seek_f bx_ok bx_wf x
  rw [bx_form', h] at this
  exact this
theorem awake07 : Ev (fun k => ratlinelaw07_awake.f k) true := by
  unfold ratlinelaw07_awake.f
  refine ev_bind rfl (ev_bind rfl (ev_bind (a := bxL) rfl (ev_bind (a := bxB) rfl ?_)))
  refine ev_bind bx_build (ev_call bx_parse ?_)
  refine ev_bind (a := ((⟨#[97]⟩ : ByteArray), (6 : Int), (1 : Int))) rfl ?_
  refine ev_bind (a := (bx1.f0.f0, bx1.f0.f1, bx1.f0.f2, bx1.f1, true, (0 : Int))) (bx_sk (x := ⟨⟨#[97]⟩, 6, 1⟩) bx_seek1) ?_
  refine ev_bind (a := ((⟨#[97]⟩ : ByteArray), (4 : Int), (1 : Int))) rfl ?_
  refine ev_bind (a := (bx2.f0.f0, bx2.f0.f1, bx2.f0.f2, bx2.f1, true, (0 : Int))) (bx_sk (x := ⟨⟨#[97]⟩, 4, 1⟩) bx_seek2) ?_
  refine ev_bind (a := ((⟨#[97, 98]⟩ : ByteArray), (3 : Int), (1 : Int))) rfl ?_
  refine ev_bind (a := (zeroE.f0.f0, zeroE.f0.f1, zeroE.f0.f2, zeroE.f1, false, (0 : Int))) (bx_sk (x := ⟨⟨#[97, 98]⟩, 3, 1⟩) bx_seek3) ?_
  refine ev_bind (show block_Build.f ([] : List En) = some ([], 70) from by rw [build_f (by simp) (fun e he => by cases he)]; rfl) ?_
  refine ev_call bx_none ?_
  refine ev_pos (by decide +kernel) ?_
  refine ev_bind (same_f bx_by bx_by) (ev_pos (decide_eq_true rfl) ?_)
  refine ev_call (esame_f bxL bxL (by decide)) (ev_pos (decide_eq_true rfl) ?_)
  refine ev_pos rfl (ev_pos (by decide) (ev_pos (by decide +kernel) ?_))
  refine ev_pos rfl (ev_pos (by decide) (ev_pos (by decide +kernel) ?_))
  refine ev_neg (by decide) (ev_pos (by decide +kernel) ?_)
  refine ev_pos rfl ?_
  exact ev_some true
end Go.Proofs.YtjcjfghcahbbmaaL

end

section
set_option linter.unusedVariables false
namespace Go.Proofs.Ytjcjfghcahbbmaa.Pure
open Go Go.RowKit Go.Proofs.Ytjcjfghcahbbmaa.P Go.Proofs.YtjcjfghcahbbmaaG Go.Proofs.YtjcjfghcahbbmaaL Go.Proofs.YtjcjfghcahbbmaaW.PrintWords Go.Proofs.YtjcjfghcahbbmaaW.PrintMore Go.Proofs.YtjcjfghcahbbmaaW.PrintLast
theorem wid {x : Int} (h0 : 0 ≤ x) (h1 : x ≤ 1000000) : wrap64 x = x := by unfold wrap64; omega
def cost (e : En) : Nat := e.f0.f0.size + e.f1.size + 14
def csum (l : List En) : Nat := (l.map cost).sum
theorem csum_snoc (l : List En) (e : En) : csum (l ++ [e]) = csum l + cost e := by unfold csum; rw [List.map_append, List.sum_append]; simp
theorem entF_cost {e : En} {n : Nat} (h : OkE e) (hw : WfN e) (hn : n ≤ e.f0.f0.size) : (entF n e).length ≤ cost e := by
  obtain ⟨h1, h2, h3, h4, h5, _⟩ := h.parts
  obtain ⟨w1, w2⟩ := hw
  have v1 := vint_len 0 n (by omega)
  have v2 := vint_len 0 (e.f0.f0.size - n) (by omega)
  have v3 := vint_len 8 (e.f0.f1.toNat * 2 + e.f0.f2.toNat) (by omega)
  have v4 := vint_len 1 e.f1.size (by omega)
  unfold entF cost
  simp only [List.length_append, bytesOf_length, ByteArray.size_extract]
  split
  · simp only [List.length_append, bytesOf_length]; omega
  · simp only [List.length_nil]; omega
theorem csum_le {l : List En} (ho : ∀ e ∈ l, OkE e) : csum l ≤ 400 * l.length := by
  refine rev_ind (P := fun l => (∀ e ∈ l, OkE e) → csum l ≤ 400 * l.length) (fun _ => Nat.le_refl _) (fun l e ih ho => ?_) l ho
  have i1 := ih (fun x hx => ho x (List.mem_append_left _ hx))
  obtain ⟨h1, h2, h3, h4, h5, _⟩ := (ho e (by simp)).parts
  rw [csum_snoc, List.length_append, cost]
  show _ ≤ 400 * (l.length + 1)
  omega
theorem bldS_cost : ∀ l : List En, (∀ e ∈ l, OkE e) → (∀ e ∈ l, WfN e) → (bldS l).b.length ≤ csum l := by
  intro l
  refine rev_ind (P := fun l => (∀ e ∈ l, OkE e) → (∀ e ∈ l, WfN e) → (bldS l).b.length ≤ csum l) (fun _ _ => Nat.le_refl _) (fun l e ih ho hw => ?_) l
  have i1 := ih (fun x hx => ho x (List.mem_append_left _ hx)) (fun x hx => hw x (List.mem_append_left _ hx))
  have i2 := entF_cost (n := (bldS l).n e) (ho e (by simp)) (hw e (by simp)) (com_le _ _).2
  rw [bldS_snoc, csum_snoc]
  show ((bldS l).b ++ entF _ e).length ≤ _
  rw [List.length_append]
  omega
theorem cut_step (L : List En) (b : List Int) (z : Int) (bs : List (List Int)) (n i : Nat) (bad : List Int) (hl : L.length ≤ 100) (hn : n = bs.length) (hn2 : n ≤ 10) (hi : i < n) (hrd : rd_L5 bs (i : Int) = bad)
    (hb : By bad) (hbl : bad.length ≤ 1000000) (hne : bad ≠ formB L) (hnext : Ev (fun k => ratlinelaw07_BlockCut.l1 k L b z bs (n : Int) ((i + 1 : Nat) : Int)) true) : Ev (fun k => ratlinelaw07_BlockCut.l1 k L b z bs (n : Int) (i : Int)) true := by
  have hup : wrap64 ((i : Int) + 1) = ((i + 1 : Nat) : Int) := up1 (by omega)
  refine ev_step (fun k => by rw [ratlinelaw07_BlockCut.l1, if_pos (by omega), if_pos (by omega), if_pos (show (i : Int) < (bs.length : Int) by omega), hrd, hup]) ?_
  refine ev_call (parseG_any bad hb hbl).1 ?_
  rcases (parseG_any bad hb hbl).2 with ⟨h1, h2, h3, h4⟩ | h
  · refine ev_pos h4 ?_
    refine ev_call (esame_f _ L (by have := (okEs_parts h1).2.1; omega)) (ev_neg ?_ hnext)
    intro q
    have he := of_decide_eq_true q
    exact hne (by rw [← he]; exact h3)
  · rw [h]
    exact ev_neg (by decide) hnext
theorem cut_end (L : List En) (hk : okEs L = true) (hw : ∀ e ∈ L, WfN e) (z : Int) (bs : List (List Int)) (n : Nat) (hn : n = bs.length) (hz : ((formB L).length : Int) ≤ z) : Ev (fun k => ratlinelaw07_BlockCut.l1 k L (formB L) z bs (n : Int) (n : Int)) true := by
  refine ev_step (fun k => by rw [ratlinelaw07_BlockCut.l1, if_neg (by omega)]) ?_
  exact ev_pos hz (ev_call awake07 (ev_some _))
theorem form_le {L : List En} (hk : okEs L = true) (hw : ∀ e ∈ L, WfN e) : (formB L).length ≤ 4 * (L.length + 2) + csum L := by
  obtain ⟨_, k2, k3, _⟩ := okEs_parts hk
  have h1 := (formB_len k3 hw k2).1
  have h2 := bldS_cost L k3 hw
  omega
theorem cut_l0 (L : List En) (hk : okEs L = true) (hw : ∀ e ∈ L, WfN e) (c : Int) (hc0 : 0 ≤ c) (hc1 : c ≤ 255) (p : Nat) (hp : p < (formB L).length) : ∀ (d i : Nat), i + d = L.length →
    Ev (fun k => ratlinelaw07_BlockCut.l0 k L c (formB L) (p : Int) ((4 * (L.length + 2) + csum (L.take i) : Nat) : Int) L (L.length : Int) (i : Int)) true := by
  obtain ⟨k1, k2, k3, k4⟩ := okEs_parts hk
  have hf := (formB_len k3 hw k2).2
  have hby := formB_by L
  have hfl := form_le hk hw
  intro d
  induction d with
  | zero =>
    intro i hi
    rw [List.take_of_length_le (show L.length ≤ i by omega)]
    have hup : wrap64 ((p : Int) + 1) = ((p + 1 : Nat) : Int) := up1 (by omega)
    have hbc : By [c] := .cons hc0 (by omega) .nil
    have n1 : (formB L).take p ≠ formB L := fun q => by have := congrArg List.length q; rw [List.length_take] at this; omega
    have n2 : ([] ++ formB L) ++ [c] ≠ formB L := fun q => by have := congrArg List.length q; simp at this
    have n3 : ([] ++ (formB L).take p) ++ (formB L).drop (p + 1) ≠ formB L := fun q => by have := congrArg List.length q; rw [List.nil_append, List.length_append, List.length_take, List.length_drop] at this; omega
    have b2 : By (([] ++ formB L) ++ [c]) := (By.append (.nil) hby).append hbc
    have b3 : By (([] ++ (formB L).take p) ++ (formB L).drop (p + 1)) := (By.append (.nil) (hby.take p)).append (hby.drop (p + 1))
    refine ev_step (fun k => by rw [ratlinelaw07_BlockCut.l0, if_neg (by omega), hup, Int.toNat_natCast, Int.toNat_natCast]) ?_
    refine ev_pos (by omega) (ev_pos (by omega) ?_)
    refine ev_bind (a := ([] : List Int)) rfl (ev_pos (by simp; omega) ?_)
    refine ev_bind (a := [] ++ formB L) rfl (ev_bind (a := [c]) rfl (ev_pos (by simp; omega) ?_))
    refine ev_bind (a := ([] : List Int)) rfl (ev_bind (a := (formB L).take p) rfl (ev_pos (by simp; omega) ?_))
    refine ev_bind (a := [] ++ (formB L).take p) rfl (ev_pos (by omega) (ev_pos (by omega) ?_))
    refine ev_bind (a := (formB L).drop (p + 1)) rfl (ev_pos (by simp; omega) ?_)
    refine ev_bind (a := [(formB L).take p, ([] ++ formB L) ++ [c], ([] ++ (formB L).take p) ++ (formB L).drop (p + 1)]) rfl ?_
    refine cut_step L (formB L) _ _ 3 0 ((formB L).take p) (by omega) rfl (by omega) (by omega) rfl (hby.take p) (by rw [List.length_take]; omega) n1 ?_
    refine cut_step L (formB L) _ _ 3 1 (([] ++ formB L) ++ [c]) (by omega) rfl (by omega) (by omega) rfl b2 (by simp; omega) n2 ?_
    refine cut_step L (formB L) _ _ 3 2 (([] ++ (formB L).take p) ++ (formB L).drop (p + 1)) (by omega) rfl (by omega) (by omega) rfl b3 (by simp; omega) n3 ?_
    exact cut_end L hk hw _ _ 3 rfl (by omega)
  | succ d ih =>
    intro i hi
    have hlt : i < L.length := by omega
    have hs := csum_le (l := L.take i) (fun e he => k3 e (List.mem_of_mem_take he))
    rw [List.length_take] at hs
    obtain ⟨p1, p2, p3, p4, p5, _⟩ := (k3 _ (List.getElem_mem hlt)).parts
    have hnext := ih (i + 1) (by omega)
    rw [List.take_succ_eq_append_getElem hlt, csum_snoc, cost] at hnext
    refine ev_step (fun k => by rw [ratlinelaw07_BlockCut.l0, if_pos (by omega), if_pos (by omega), if_pos (by omega), rd_en L hlt, up1 (by omega)]) ?_
    have he : wrap64 (((4 * (L.length + 2) + csum (L.take i) : Nat) : Int) + (wrap64 ((wrap64 ((wrap64 ((wrap64 ((wrap64 ((L[i].f0.f0.size : Int) + (L[i].f1.size : Int))) + 1)) + 2)) + 9)) + 2))) = ((4 * (L.length + 2) + (csum (L.take i) + (L[i].f0.f0.size + L[i].f1.size + 14)) : Nat) : Int) := by
      rw [wid (x := (L[i].f0.f0.size : Int) + (L[i].f1.size : Int)) (by omega) (by omega), wid (x := (L[i].f0.f0.size : Int) + (L[i].f1.size : Int) + 1) (by omega) (by omega), wid (x := (L[i].f0.f0.size : Int) + (L[i].f1.size : Int) + 1 + 2) (by omega) (by omega), wid (x := (L[i].f0.f0.size : Int) + (L[i].f1.size : Int) + 1 + 2 + 9) (by omega) (by omega), wid (x := (L[i].f0.f0.size : Int) + (L[i].f1.size : Int) + 1 + 2 + 9 + 2) (by omega) (by omega), wid (by omega) (by omega)]
      omega
    rw [he]
    exact hnext
theorem BlockCut (l : List En) (_ : l.length ≤ maxLen) (hl : l.length * 48 ≤ 140737488351232) (hw : ∀ e ∈ l, (e.f0.f0.size ≤ maxLen ∧ (Lit.int .u64 e.f0.f1).wf = true ∧ (Lit.int .u8 e.f0.f2).wf = true) ∧ e.f1.size ≤ maxLen)
    (at_ : Int) (ha : (Lit.int .u16 at_).wf = true) (c : Int) (hc : (Lit.int .u8 c).wf = true) : ∃ k, ratlinelaw07_BlockCut.f k l at_ c = some true := by
  simp [Lit.wf, IntKind.min, IntKind.max, IntKind.bits, IntKind.signed] at ha hc
  have hw' : ∀ e ∈ l, WfN e := fun e he => by
    obtain ⟨⟨_, h1, h2⟩, _⟩ := hw e he
    simp [Lit.wf, IntKind.min, IntKind.max, IntKind.bits, IntKind.signed] at h1 h2
    exact ⟨by omega, by omega⟩
  obtain ⟨m, rfl⟩ : ∃ m : Nat, at_ = (m : Int) := ⟨at_.toNat, by omega⟩
  refine Ev.rounds (g := fun k => ratlinelaw07_BlockCut.f k l (m : Int) c) ?_
  unfold ratlinelaw07_BlockCut.f
  refine ev_call (ev_of (l.length + 1) (fun k => by rw [show k + (l.length + 1) = l.length + k + 1 by omega]; exact few_f' l 70 (by omega) k)) ?_
  by_cases h1 : (∀ e ∈ l, Short e) ∧ ((l.length : Int) ≤ 70)
  · refine ev_pos (by simpa using h1) ?_
    refine ev_bind (srt_f (by omega)) ?_
    have hws := srt_wf hw'
    by_cases h0 : 0 < (srtE 64 l).length
    · have hk := srt_ok l h0
      obtain ⟨L, hL⟩ : ∃ L, L = srtE 64 l := ⟨_, rfl⟩
      rw [← hL] at hk hws h0 ⊢
      obtain ⟨k1, k2, k3, _⟩ := okEs_parts hk
      have hf := formB_len k3 hws k2
      have hfp : 0 < (formB L).length := by omega
      refine ev_neg (by omega) ?_
      refine ev_bind (a := (formB L, 0)) (by rw [build_f (by omega) hws, if_pos hk]) (ev_pos rfl ?_)
      rw [show (((formB L).length : Int) == 0) = false from beq_eq_false_iff_ne.2 (by omega)]
      refine ev_step (fun k => by rw [ratlinelaw07_BlockCut.j0]) ?_
      refine ev_neg (by decide) ?_
      refine ev_neg (show ¬ (((formB L).length : Int) = 0) from by omega) ?_
      have e1 : Int.tmod (wrap64 (m : Int)) ((formB L).length : Int) = ((m % (formB L).length : Nat) : Int) := by
        rw [wid (by omega) (by omega)]; rfl
      have e2 : wrap64 (4 * (wrap64 ((L.length : Int) + 2))) = ((4 * (L.length + 2) + csum (L.take 0) : Nat) : Int) := by
        rw [wid (x := (L.length : Int) + 2) (by omega) (by omega), wid (by omega) (by omega), List.take_zero]
        show _ = ((4 * (L.length + 2) + 0 : Nat) : Int)
        omega
      rw [e1, e2]
      exact cut_l0 L hk hws c (by omega) (by omega) (m % (formB L).length) (Nat.mod_lt _ hfp) L.length 0 (by omega)
    · refine ev_pos (by omega) ?_
      exact ev_call awake07 (ev_some _)
  · refine ev_neg (by simpa using h1) ?_
    exact ev_call awake07 (ev_some _)
end Go.Proofs.Ytjcjfghcahbbmaa.Pure

end

section
set_option linter.unusedVariables false
namespace Go.Proofs.YtjcjfghcahbbmaaG
open Go Go.RowKit Go.Proofs.YtjcjfghcahbbmaaW.PrintWords

/-- What is trodden of this type is of this kind, and is right. -/
def Opens {α : Type} (P : Program) (t : TypeId) (d : Kd α) (wf : α → Prop) : Prop :=
  ∀ (H : Type) (enc : TypeId × Value → H) (w : World) (base : Nat) (sp : Nat → Bool) (held : Bool) (fuel : Nat) (cs : List Value) (x : DataW H × List MemPlace),
    DataW.trod enc P w base sp held fuel t cs = some x → ∃ a, d.K w a cs ∧ wf a
section
variable {P : Program} {t e : TypeId}
theorem opens_int {k : IntKind} (ht : P.underlying t = some (.int k)) : Opens P t (Kd.int k) (fun n => (Lit.int k n).wf = true) := by
  intro H enc w base sp held fuel cs x h
  obtain ⟨n, rfl, _, hw⟩ := DataW.trod_int ht h
  exact ⟨n, rfl, hw⟩
theorem opens_string (ht : P.underlying t = some .string) : Opens P t Kd.string (fun s => s.size ≤ maxLen) := by
  intro H enc w base sp held fuel cs x h
  obtain ⟨n, rfl, _, hm⟩ := DataW.trod_string ht h
  exact ⟨n, rfl, hm⟩
theorem build {α : Type} {Q : Nat → α → Prop} : ∀ n : Nat, (∀ i, i < n → ∃ a, Q i a) → ∃ l : List α, l.length = n ∧ ∀ i a, l[i]? = some a → Q i a := by
  intro n
  induction n with
  | zero => intro _; exact ⟨[], rfl, fun i a h => by simp at h⟩
  | succ n ih =>
    intro h
    obtain ⟨l, hl, hq⟩ := ih (fun i hi => h i (by omega))
    obtain ⟨a, ha⟩ := h n (by omega)
    refine ⟨l ++ [a], by simp [hl], fun i b hb => ?_⟩
    by_cases hi : i < n
    · rw [List.getElem?_append_left (by omega)] at hb
      exact hq i b hb
    · rw [List.getElem?_append_right (by omega)] at hb
      by_cases hin : i = n
      · subst hin
        rw [hl, Nat.sub_self] at hb
        simp at hb
        exact hb ▸ ha
      · rw [List.getElem?_eq_none (by simp; omega)] at hb
        cases hb
theorem opens_row {α : Type} {d : Kd α} {wf : α → Prop} (hc : P.cellsOf e = d.sz) (ht : P.underlying t = some (.slice e)) (he : Opens P e d wf)
    {H : Type} {enc : TypeId × Value → H} {w : World} {base : Nat} {sp : Nat → Bool} {held : Bool} {fuel : Nat} {cs : List Value} {x : DataW H × List MemPlace} (h : DataW.trod enc P w base sp held fuel t cs = some x) :
    ∃ (A : Option Addr) (c : Nat) (xs : List α), cs = [.slice A xs.length c] ∧ xs.length ≤ c ∧ c ≤ maxLen ∧ d.C w A xs.length xs ∧ ∀ a ∈ xs, wf a := by
  rcases DataW.trod_slice ht h with ⟨rfl, _⟩ | ⟨ad, len, cap, elems, rest, n, _, rfl, _, hb, hl, hm, hn, hel, _, _⟩
  · exact ⟨none, 0, [], rfl, Nat.le_refl _, by decide, Kd.C_nil d w, fun a ha => by cases ha⟩
  · obtain ⟨xs, hxl, hx⟩ := build (Q := fun i a => wf a ∧ ∃ c, c.length = d.sz ∧ d.K w a c ∧ ∀ j u, c[j]? = some u → w.cell? (ad.add (i * d.sz + j)) = some u) len (fun i hi => by
      have h1 := hel i hi
      rw [List.getElem?_eq_getElem (by omega)] at h1
      obtain ⟨cs', hcs, htr⟩ := Option.bind_eq_some_iff.1 h1
      obtain ⟨a, ha, hw⟩ := he H enc w base sp held n cs' _ htr
      have hlen := d.K_len ha
      obtain ⟨_, hlen2, hcell⟩ := World.cells?_some hcs
      refine ⟨a, hw, cs', hlen, ha, fun j u hj => ?_⟩
      have hjl : j < cs'.length := by
        by_cases hjl : j < cs'.length
        · exact hjl
        · rw [List.getElem?_eq_none (by omega)] at hj; cases hj
      have h2 := hcell j (by omega)
      rw [hc] at h2
      have hadd : (ad.add (i * d.sz)).add j = ad.add (i * d.sz + j) := Addr.add_add ad _ _
      rw [← hadd, h2, hj])
    have hmax : maxLen ≤ 9223372036854775807 := by decide
    refine ⟨some ad, cap, xs, by rw [hxl], by omega, hm, ⟨rfl, by omega, fun _ => ⟨ad, rfl, fun j p hp => (hx j p hp).2⟩⟩, fun a ha => ?_⟩
    obtain ⟨i, hi⟩ := List.mem_iff_getElem?.1 ha
    exact (hx i a hi).1
theorem Opens.iso {α β : Type} {d : Kd α} {wf : α → Prop} (h : Opens P t d wf) (f : β → α) (g : α → β) (hfg : ∀ a, f (g a) = a) : Opens P t (Kd.iso d f) (fun b => wf (f b)) := by
  intro H enc w base sp held fuel cs x htr
  obtain ⟨a, ha, hw⟩ := h H enc w base sp held fuel cs x htr
  exact ⟨g a, by show d.K w (f (g a)) cs; rw [hfg]; exact ha, by show wf (f (g a)); rw [hfg]; exact hw⟩
end

/-- A field of a struct. -/
theorem opens_field {α : Type} {P : Program} {t e : TypeId} {fs : Array Field} {d : Kd α} {wf : α → Prop} {off i : Nat} {f : Field} (ht : P.underlying t = some (.struct fs)) (hi : fs[i]? = some f) (hft : f.type = e) (hfo : f.offset = off) (hc : P.cellsOf e = d.sz) (he : Opens P e d wf)
    {H : Type} {enc : TypeId × Value → H} {w : World} {base : Nat} {sp : Nat → Bool} {held : Bool} {fuel : Nat} {cs : List Value} {x : DataW H × List MemPlace} (h : DataW.trod enc P w base sp held fuel t cs = some x) :
    ∃ a, d.K w a ((cs.drop off).take d.sz) ∧ wf a := by
  obtain ⟨xs, n, _, _, _, hn, hf⟩ := DataW.trod_struct ht h
  have h1 := hf i f hi
  have hil : i < xs.length := by
    rw [hn]
    exact (Array.getElem?_eq_some_iff.1 hi).1
  rw [List.getElem?_eq_getElem hil, hft, hfo, hc] at h1
  exact he H enc w base sp held n _ _ h1
theorem opens_cells {P : Program} {t : TypeId} {fs : Array Field} (ht : P.underlying t = some (.struct fs)) {H : Type} {enc : TypeId × Value → H} {w : World} {base : Nat} {sp : Nat → Bool} {held : Bool} {fuel : Nat} {cs : List Value} {x : DataW H × List MemPlace} (h : DataW.trod enc P w base sp held fuel t cs = some x) :
    cs.length = P.cellsOf t := by
  obtain ⟨xs, n, _, _, hl, _⟩ := DataW.trod_struct ht h
  exact hl
theorem opens_struct2 {α β : Type} {P : Program} {t ta tb : TypeId} {fs : Array Field} {a : Kd α} {b : Kd β} {wa : α → Prop} {wb : β → Prop} (ht : P.underlying t = some (.struct fs)) (hc : P.cellsOf t = a.sz + b.sz)
    (f0 : (fs[0]?).map (fun f => (f.type, f.offset)) = some (ta, 0)) (f1 : (fs[1]?).map (fun f => (f.type, f.offset)) = some (tb, a.sz)) (ca : P.cellsOf ta = a.sz) (cb : P.cellsOf tb = b.sz) (oa : Opens P ta a wa) (ob : Opens P tb b wb) :
    Opens P t (Kd.pair a b) (fun x => wa x.1 ∧ wb x.2) := by
  intro H enc w base sp held fuel cs x h
  obtain ⟨g0, e0, q0⟩ := Option.map_eq_some_iff.1 f0
  obtain ⟨g1, e1, q1⟩ := Option.map_eq_some_iff.1 f1
  simp only [Prod.mk.injEq] at q0 q1
  obtain ⟨x0, k0, w0⟩ := opens_field ht e0 q0.1 q0.2 ca oa h
  obtain ⟨x1, k1, w1⟩ := opens_field ht e1 q1.1 q1.2 cb ob h
  have hl := opens_cells ht h
  have hsp : (cs.drop a.sz).take b.sz = cs.drop a.sz := List.take_of_length_le (by rw [List.length_drop]; omega)
  rw [List.drop_zero] at k0
  rw [hsp] at k1
  exact ⟨(x0, x1), ⟨cs.take a.sz, cs.drop a.sz, (List.take_append_drop _ _).symm, k0, k1⟩, w0, w1⟩
theorem opens_struct3 {α β γ : Type} {P : Program} {t ta tb tc : TypeId} {fs : Array Field} {a : Kd α} {b : Kd β} {c : Kd γ} {wa : α → Prop} {wb : β → Prop} {wc : γ → Prop} (ht : P.underlying t = some (.struct fs)) (hc : P.cellsOf t = a.sz + (b.sz + c.sz))
    (f0 : (fs[0]?).map (fun f => (f.type, f.offset)) = some (ta, 0)) (f1 : (fs[1]?).map (fun f => (f.type, f.offset)) = some (tb, a.sz)) (f2 : (fs[2]?).map (fun f => (f.type, f.offset)) = some (tc, a.sz + b.sz)) (ca : P.cellsOf ta = a.sz) (cb : P.cellsOf tb = b.sz) (cc : P.cellsOf tc = c.sz) (oa : Opens P ta a wa) (ob : Opens P tb b wb) (oc : Opens P tc c wc) :
    Opens P t (Kd.pair a (Kd.pair b c)) (fun x => wa x.1 ∧ wb x.2.1 ∧ wc x.2.2) := by
  intro H enc w base sp held fuel cs x h
  obtain ⟨g0, e0, q0⟩ := Option.map_eq_some_iff.1 f0
  obtain ⟨g1, e1, q1⟩ := Option.map_eq_some_iff.1 f1
  obtain ⟨g2, e2, q2⟩ := Option.map_eq_some_iff.1 f2
  simp only [Prod.mk.injEq] at q0 q1 q2
  obtain ⟨x0, k0, w0⟩ := opens_field ht e0 q0.1 q0.2 ca oa h
  obtain ⟨x1, k1, w1⟩ := opens_field ht e1 q1.1 q1.2 cb ob h
  obtain ⟨x2, k2, w2⟩ := opens_field ht e2 q2.1 q2.2 cc oc h
  have hl := opens_cells ht h
  have hsp : (cs.drop (a.sz + b.sz)).take c.sz = (cs.drop a.sz).drop b.sz := by rw [List.take_of_length_le (by rw [List.length_drop]; omega), List.drop_drop]
  rw [List.drop_zero] at k0
  rw [hsp] at k2
  exact ⟨(x0, x1, x2), ⟨cs.take a.sz, cs.drop a.sz, (List.take_append_drop _ _).symm, k0, _, _, (List.take_append_drop b.sz _).symm, k1, k2⟩, w0, w1, w2⟩
/-- A row's slice is no longer than its weight allows. -/
theorem sized_row {H : Type} {enc : TypeId × Value → H} {P : Program} {W : World} {base : Nat} {spare : Nat → Bool} {held : Bool} {t e : TypeId} {a : Option Addr} {len cap : Nat} {d : DataW H} {ps : List MemPlace} {ts : List TypeId} {ds : List (DataW H)} {j : Nat}
    (hsz : (DataW.weightsEach P ts ds).all (· ≤ reachBytes) = true) (ht : ts[j]? = some t) (hd : ds[j]? = some d) (hu : P.underlying t = some (.slice e)) (B : Nat) (hB : P.bytesOf e = B)
    (h : DataW.Trod enc P W base spare held t (.slice a len cap) d ps) : len * B ≤ 140737488351232 := by
  obtain ⟨fuel, hf⟩ := h
  rcases DataW.trod_slice hu hf with ⟨hcs, _⟩ | ⟨ad, l, c, elems, rest, n, _, hcs, hx, _, _, _, hn, _⟩
  · simp only [Value.cells, List.cons.injEq, Value.slice.injEq, and_true] at hcs
    obtain ⟨rfl, rfl, rfl⟩ := hcs
    rw [Nat.zero_mul]; omega
  · simp only [Value.cells, List.cons.injEq, Value.slice.injEq, and_true] at hcs
    obtain ⟨rfl, rfl, rfl⟩ := hcs
    obtain ⟨hx, _⟩ := Prod.mk.inj hx
    subst hx
    have z := sized_slice hsz ht hd hu
    rw [hB, List.length_map, List.length_map] at z
    exact Nat.le_trans (Nat.mul_le_mul_right _ (by omega)) z
end Go.Proofs.YtjcjfghcahbbmaaG

end

section
set_option linter.unusedVariables false
namespace Go.Proofs.Ytjcjfghcahbbmaa.blockCut
open Go Go.ChangeShapes Go.WideShapes Go.ChangeAt Go.RowKit Go.Proofs.YtjcjfghcahbbmaaG Go.Proofs.Ytjcjfghcahbbmaa.P Go.Proofs.YtjcjfghcahbbmaaW.PrintWords
open Go.ChangeMaps (open_string shut_string)
theorem own : ownKnob Try.prog.godebug = none := by kernel_rfl
theorem laidOut : laidOutB Try.prog = true := by kernel_rfl
set_option maxRecDepth 100000 in
theorem lifted (os : Os) (started : os.Started) (H : Type) (enc : TypeId × Value → H) :
    ReturnsInHanded {} Try.checked os 8 .any (Rows.blockCutSpec.pre6 enc Try.prog Try.f8 Rows.blockCutRow.domain false) (Rows.blockCutSpec.post enc Try.prog Try.f8 false true false false) := by
  refine returnsInHanded_of_change_sized (C := Try.checked) own started (by kernel_rfl) Try.func8
    (ChangeSpec.witness6 (enc := enc) (C := Try.checked) false ⟨#[], #[.slice none 0 0, .int .u16 0, .int .u8 0], []⟩ 8 (by kernel_rfl) (by kernel_rfl) (by kernel_rfl) (by kernel_rfl)) ?_
  intro W base args ds gs before hval0 hW hcnd hsz0 _
  have hsz : (DataW.weightsEach Try.prog (Try.f8.params.toList ++ Rows.blockCutSpec.plain.varTypes Try.prog) (ds ++ gs)).all (· ≤ reachBytes) = true := hsz0
  have hval : ∀ (j : Nat) t v, Try.f8.params[j]? = some t → args[j]? = some v → Value.okWide Try.prog W .any base t v := hval0
  have hW' := hW
  obtain ⟨p, q, hA0, hV, rfl, hfz, hnd⟩ := hW
  have hA : DataW.TrodAll enc Try.prog W 0 (fun _ => true) true Try.f8.params.toList args.toList ds p := hA0
  rw [Try.params8] at hA hval hsz
  obtain ⟨v0, vs0, d0, ds0, p0, q0, hargs, rfl, rfl, h0, r0⟩ := trodAll_cons hA
  obtain ⟨v1, vs1, d1, ds1, p1, q1, rfl, rfl, rfl, h1, r1⟩ := trodAll_cons r0
  obtain ⟨v2, vs2, d2, ds2, p2, q2, rfl, rfl, rfl, h2, r2⟩ := trodAll_cons r1
  obtain ⟨rfl, rfl, rfl⟩ := trodAll_nil r2
  obtain rfl : args = #[v0, v1, v2] := by cases args; simp_all
  obtain ⟨rfl, rfl⟩ := trodVars_none hV
  obtain ⟨a0, len0, cap0, rfl⟩ := okWide_slice Try.underlying48 (hval 0 48 v0 rfl rfl)
  have k0 := h0
  have y0 := sized_row hsz (j := 0) (t := 48) rfl rfl Try.underlying48 48 (by kernel_rfl) h0
  have lt0 : ∀ x ∈ p0, x.block < W.heap.size := by obtain ⟨m, hm⟩ := k0; exact DataW.trod_lt m _ _ _ hm
  obtain ⟨fuel0, hf0⟩ := h0
  obtain ⟨A0, c0, l0, hcs0, hl0, hm0, hC0, hw0⟩ := opens_row (by kernel_rfl) Try.underlying48 (show Opens Try.prog 59 k59 _ from Opens.iso (opens_struct2 (ta := 50) (tb := 9) Try.underlying59 (by kernel_rfl) (by kernel_rfl) (by kernel_rfl) (by kernel_rfl) (by kernel_rfl) (show Opens Try.prog 50 k50 _ from Opens.iso (opens_struct3 (ta := 9) (tb := 32) (tc := 5) Try.underlying50 (by kernel_rfl) (by kernel_rfl) (by kernel_rfl) (by kernel_rfl) (by kernel_rfl) (by kernel_rfl) (by kernel_rfl) (opens_string Try.underlying9) (opens_int Try.underlying32) (opens_int Try.underlying5)) (fun x : S50 => (x.f0, x.f1, x.f2)) (fun q => ⟨q.1, q.2.1, q.2.2⟩) (fun _ => rfl)) (opens_string Try.underlying9)) (fun x : S59 => (x.f0, x.f1)) (fun q => ⟨q.1, q.2⟩) (fun _ => rfl)) hf0
  simp only [Value.cells, List.cons.injEq, Value.slice.injEq, and_true] at hcs0
  obtain ⟨rfl, rfl, rfl⟩ := hcs0
  obtain ⟨a1, rfl, rfl, rfl, w1⟩ := open_int Try.underlying23 (hval 1 23 v1 rfl rfl) h1
  obtain ⟨a2, rfl, rfl, rfl, w2⟩ := open_int Try.underlying5 (hval 2 5 v2 rfl rfl) h2
  obtain ⟨k, h⟩ := Pure.BlockCut l0 (Nat.le_trans hl0 hm0) y0 hw0 a1 w1 a2 w2
  clear hA0 hval0 hsz0 hsz
  refine (P.ratlinelaw07_BlockCut.calls k _ _ l0 a1 a2 true W hC0 hl0 h).mono fun e W' ⟨he, bel⟩ => ?_
  subst he
  exact ⟨_, rfl, _, _, _, [], _, [], hW', trodAll_mk1 (shut_bool Try.underlying4 _), (trodAll_cons_mk (Below.trod laidOut (by kernel_rfl) (of_decide_eq_true (by kernel_rfl)) k0 bel lt0) (trodAll_cons_mk (shut_int Try.underlying23 w1) (trodAll_cons_mk (shut_int Try.underlying5 w2) trodAll_mk0))), rfl, bel.frame _, fun h => by cases h⟩
theorem over : Rows.blockCutRow.holds Try.pinned (OpenSpec.ofChange Rows.blockCutSpec) :=
  OpenClaim.holds_of_wide 8 Try.f8 rfl rfl rfl rfl rfl rfl rfl ⟨rfl, rfl, rfl, rfl, rfl⟩ rfl rfl rfl rfl rfl (by kernel_rfl) Try.func8 (by kernel_rfl)
    (of_decide_eq_true (by kernel_rfl)) (by unfold Func.isWrapper; first | (rw [if_pos (by decide +kernel)]; kernel_rfl) | (rw [if_neg (by decide +kernel)]; exact ⟨rfl, rfl⟩))
    (fun os started H enc _ => lifted os started H enc)
theorem proved : Rows.BlockCutSaid := over
#print axioms proved
end Go.Proofs.Ytjcjfghcahbbmaa.blockCut
namespace Go.Proofs.Ytjcjfghcahbbmaa
/-- The row, under a short name, for the claim. -/
theorem blockCut_holds : Rows.BlockCutSaid := blockCut.proved
end Go.Proofs.Ytjcjfghcahbbmaa

end
