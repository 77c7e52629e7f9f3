/- The pure statement of FrameParts: frames one behind the other are taken one by one. Conditions: those of the statement. Written for this claim. -/
import Derived.Test.YtdppjknfhggpbaaPx15
import Derived.Test.YtdppjknfhggpbaaFrameAwake
set_option linter.unusedVariables false
namespace Go.Proofs.Ytdppjknfhggpbaa.Pure
open Go Go.RowKit Go.Proofs.Ytdppjknfhggpbaa.P Go.Proofs.YtdppjknfhggpbaaG Go.Proofs.YtdppjknfhggpbaaL Go.Proofs.YtdppjknfhggpbaaW.PrintWords Go.Proofs.YtdppjknfhggpbaaW.PrintLast

def allf (bs : List (List Int)) : List Int := (bs.map fseal).flatten
theorem parts_succ {a : Nat} (h : a < 100000) : wrap64 ((a : Int) + 1) = ((a + 1 : Nat) : Int) := by unfold wrap64; omega
theorem rd_parts (l : List (List Int)) {j : Nat} (h : j < l.length) : rd_L1 l (j : Int) = l[j] := by
  show l.getD ((j : Int)).toNat _ = _
  rw [Int.toNat_natCast, List.getD_eq_getElem?_getD, List.getElem?_eq_getElem h]
  rfl
theorem allf_by {bs : List (List Int)} (h : ∀ b ∈ bs, By b) : By (allf bs) := by
  induction bs with
  | nil => exact .nil
  | cons b bs ih => exact (seal_by (h b (List.mem_cons_self ..))).append (ih (fun c hc => h c (List.mem_cons_of_mem _ hc)))
theorem allf_len {bs : List (List Int)} (h : ∀ b ∈ bs, b.length ≤ 60) : (allf bs).length ≤ 68 * bs.length := by
  induction bs with
  | nil => exact Nat.le_refl 0
  | cons b bs ih =>
    have h1 := h b (List.mem_cons_self ..)
    have h2 := ih (fun c hc => h c (List.mem_cons_of_mem _ hc))
    show (fseal b ++ allf bs).length ≤ 68 * (bs.length + 1)
    rw [List.length_append, seal_len]
    omega
theorem parts_l1 (bs : List (List Int)) (hn : bs.length ≤ 20) (hb : ∀ b ∈ bs, By b) (hs : ∀ b ∈ bs, b.length ≤ 60) :
    ∀ (m j : Nat), j + m = bs.length → ratlinelaw05_FrameParts.l1 (m + 2) (allf (bs.drop j)) bs (bs.length : Int) (j : Int) = some true := by
  intro m
  induction m with
  | zero =>
    intro j hj
    obtain rfl : j = bs.length := by omega
    simp only [ratlinelaw05_FrameParts.l1]
    rw [if_neg (by omega), List.drop_length]
    refine bind3 (take_short 0 .nil (by decide)) (fun t e1 e2 e3 => ?_)
    rw [e3, if_pos rfl, if_pos (by rfl), show ratlinelaw05_awake.f (0 + 1) = some true from awake05 0]
    rfl
  | succ m ih =>
    intro j hj
    generalize hk : m + 2 = k
    rw [show m + 1 + 2 = k + 1 from by omega]
    have hj1 : j < 100000 := by omega
    have hlt : j < bs.length := by omega
    simp only [ratlinelaw05_FrameParts.l1, parts_succ hj1]
    have hm := List.getElem_mem hlt
    rw [if_pos (by omega), if_pos (by omega), if_pos (by omega), rd_parts bs hlt, ← hk, List.drop_eq_getElem_cons hlt]
    have hrest : ∀ b ∈ bs.drop (j + 1), By b := fun b h => hb b (List.mem_of_mem_drop h)
    have hlr : (allf (bs.drop (j + 1))).length ≤ 68 * (bs.drop (j + 1)).length := allf_len (fun b h => hs b (List.mem_of_mem_drop h))
    rw [List.length_drop] at hlr
    refine bind3 (take_fseal (m + 1) (rest := allf (bs.drop (j + 1))) (hb _ hm) (allf_by hrest) (by have := hs _ hm; omega) (by omega)) (fun t e1 e2 e3 => ?_)
    rw [if_pos e3, e1, e2]
    refine bind1 (same_f (hb _ hm) (hb _ hm)) ?_
    rw [decide_eq_true rfl, if_pos rfl]
    exact ih (j + 1) (by omega)
theorem ratlinelaw05_FrameParts_more (bs : List (List Int)) (hn : bs.length ≤ 20) (hb : ∀ b ∈ bs, By b) (hs : ∀ b ∈ bs, b.length ≤ 60) :
    ratlinelaw05_FrameParts.l1 29 (allf bs) bs (bs.length : Int) 0 = some true := by
  have h := parts_l1 bs hn hb hs bs.length 0 (by omega)
  rw [List.drop_zero] at h
  have up : ∀ d k, ratlinelaw05_FrameParts.l1 k (allf bs) bs (bs.length : Int) 0 = some true → ratlinelaw05_FrameParts.l1 (k + d) (allf bs) bs (bs.length : Int) 0 = some true := by
    intro d
    induction d with
    | zero => intro k h; exact h
    | succ d ih => intro k h; exact (ratlinelaw05_FrameParts.mono_l (k + d)).2 _ _ _ _ _ (ih k h)
  have := up (27 - bs.length) _ h
  rwa [show bs.length + 2 + (27 - bs.length) = 29 from by omega] at this
theorem parts_l0 (bs : List (List Int)) (hn : bs.length ≤ 20) (hb : ∀ b ∈ bs, By b) :
    ∀ (m j : Nat), j + m = bs.length → (∀ b ∈ bs.take j, b.length ≤ 60) → ratlinelaw05_FrameParts.l0 (m + 30) bs (allf (bs.take j)) bs (bs.length : Int) (j : Int) = some true := by
  intro m
  induction m with
  | zero =>
    intro j hj hs
    obtain rfl : j = bs.length := by omega
    simp only [ratlinelaw05_FrameParts.l0]
    rw [List.take_length] at hs ⊢
    rw [if_neg (by omega)]
    have h := ratlinelaw05_FrameParts_more bs hn hb hs
    exact h
  | succ m ih =>
    intro j hj hs
    generalize hk : m + 30 = k
    rw [show m + 1 + 30 = k + 1 from by omega]
    have hj1 : j < 100000 := by omega
    have hlt : j < bs.length := by omega
    simp only [ratlinelaw05_FrameParts.l0, parts_succ hj1]
    have hm := List.getElem_mem hlt
    rw [if_pos (by omega), if_pos (by omega), if_pos (by omega), rd_parts bs hlt, ← hk]
    by_cases hlong : ((bs[j].length : Nat) : Int) > 60
    · rw [if_pos hlong, show ratlinelaw05_awake.f (m + 30) = some true from awake05 (m + 29)]
      rfl
    · rw [if_neg hlong]
      have hal := allf_len hs
      rw [List.length_take] at hal
      refine bind1 (seal_f (hb _ hm) (by omega)) ?_
      rw [if_pos (by rw [seal_len]; omega)]
      have htake : bs.take (j + 1) = bs.take j ++ [bs[j]] := List.take_succ_eq_append_getElem hlt
      have hall : allf (bs.take j) ++ fseal bs[j] = allf (bs.take (j + 1)) := by
        rw [htake]
        unfold allf
        rw [List.map_append, List.flatten_append, List.map_singleton, List.flatten_singleton]
      rw [hall]
      refine ih (j + 1) (by omega) (fun b h => ?_)
      rw [htake] at h
      rcases List.mem_append.1 h with h | h
      · exact hs b h
      · rw [List.mem_singleton.1 h]; omega
theorem FrameParts (bs : List (List Int)) (_ : bs.length ≤ maxLen) (hb0 : ∀ b ∈ bs, b.length ≤ maxLen ∧ ∀ x ∈ b, (Lit.int .u8 x).wf = true) : ∃ k, ratlinelaw05_FrameParts.f k bs = some true := by
  have hb : ∀ b ∈ bs, By b := fun b h => By.of_wf (hb0 b h).2
  unfold ratlinelaw05_FrameParts.f
  have hmn : mn (bs.length : Int) 20 = ((min bs.length 20 : Nat) : Int) := by unfold mn; split <;> omega
  refine ⟨min bs.length 20 + 30, ?_⟩
  rw [hmn, if_pos (by omega), if_pos (by omega), Int.toNat_natCast]
  have hl : (bs.take (min bs.length 20)).length = min bs.length 20 := by rw [List.length_take]; omega
  generalize hcs : bs.take (min bs.length 20) = cs at *
  have hb2 : ∀ b ∈ cs, By b := fun b h => hb b (List.mem_of_mem_take (hcs ▸ h))
  refine bind1 rfl ?_
  rw [← hl]
  exact parts_l0 cs (by omega) hb2 cs.length 0 (by omega) (fun b h => by cases h)
end Go.Proofs.Ytdppjknfhggpbaa.Pure
