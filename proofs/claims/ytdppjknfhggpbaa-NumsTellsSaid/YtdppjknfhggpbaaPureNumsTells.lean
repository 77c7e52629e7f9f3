/- The pure statement of NumsTells: what numbers and texts are as bytes is as the document defines. Conditions: those of the statement. Written for this claim. -/
import Derived.Test.YtdppjknfhggpbaaPx13
import Derived.Test.YtdppjknfhggpbaaNumsAwake
import Derived.Test.YtdppjknfhggpbaaNumsRef
set_option linter.unusedVariables false
namespace Go.Proofs.Ytdppjknfhggpbaa.Pure
open Go Go.RowKit Go.Proofs.Ytdppjknfhggpbaa.P Go.Proofs.YtdppjknfhggpbaaG Go.Proofs.YtdppjknfhggpbaaL Go.Proofs.YtdppjknfhggpbaaW.PrintWords Go.Proofs.YtdppjknfhggpbaaW.PrintLast

theorem bindT {α δ : Type} {o : Option α} (P : α → Prop) {f : α → Option δ} {r : Option δ} (h : ∃ a, o = some a ∧ P a) (k : ∀ t, o = some t → P t → f t = r) : o.bind f = r := by
  obtain ⟨a, e, hP⟩ := h
  rw [e]
  exact k a e hP
theorem same_self {a : List Int} (ha : By a) : ratlinelaw02_Same.f a a = some true := by rw [same_f ha ha, decide_eq_true rfl]

theorem tells (k : Nat) (hk : 50 < k) (l : List Int) (x : Nat) (s : ByteArray) (most : Int) (hb : By l) (hl : l.length ≤ 200) (hs : s.size ≤ 200) (hx : x < 18446744073709551616) (hm0 : -9223372036854775808 ≤ most) (hm : most ≤ 9223372036854775807) :
    ratlinelaw02_NumsTells.j0 (k + 1) l (x : Int) s most false = some true := by
  have hv := vint_len10 (x := s.size) (by omega)
  simp only [ratlinelaw02_NumsTells.j0]
  rw [if_neg (by decide), rtake_f hb (by omega) hk, rtakeText_f hm0 hm hb (by omega) hk, rtakeFour_f hb (by omega) (by omega)]
  have h1 : ∃ a, nums_Take.f l = some a ∧ By a.2.1 := by
    rcases take_cases l hb (by omega) with ⟨y, rest, _, he, hf⟩ | ⟨hf, _⟩
    · exact ⟨_, hf, By.right (he ▸ hb)⟩
    · exact ⟨_, hf, By.nil⟩
  have h2 : ∃ a, nums_TakeText.f l most = some a ∧ By a.2.1 := by
    rcases takeText_cases l most hm hb (by omega) with ⟨u, rest, _, he, hf⟩ | ⟨hf, _⟩
    · exact ⟨_, hf, By.right (By.right (he ▸ hb))⟩
    · exact ⟨_, hf, By.nil⟩
  have h3 : ∃ a, nums_TakeFour.f l = some a ∧ By a.2.1 := by
    rcases takeFour_cases l hb (by omega) with ⟨_, hf⟩ | ⟨_, y, rest, _, he, hf⟩
    · exact ⟨_, hf, By.nil⟩
    · exact ⟨_, hf, By.right (he ▸ hb)⟩
  refine bindT _ h1 (fun t1 e1 b1 => ?_)
  refine bind1 e1 ?_
  refine bindT _ h2 (fun t2 e2 b2 => ?_)
  refine bind1 e2 ?_
  refine bindT _ h3 (fun t3 e3 b3 => ?_)
  refine bind1 e3 ?_
  refine bind1 (put_f hx (by omega)) ?_
  refine bind1 (rput_f hx (by omega) (by omega)) ?_
  refine bind1 (same_self (hb.append (vint_by x))) ?_
  rw [if_pos rfl, if_pos rfl]
  refine bind1 (same_self b1) ?_
  rw [if_pos rfl, if_pos (beq_self_eq_true _)]
  refine bind1 (putText_f (by omega)) ?_
  refine bind1 (rputText_f (by omega) (by omega)) ?_
  refine bind1 (same_self ((hb.append (vint_by _)).append (bytesOf_by s))) ?_
  rw [if_pos rfl, if_pos rfl]
  refine bind1 (same_self b2) ?_
  rw [if_pos rfl, if_pos (beq_self_eq_true _), show (x : Int) % 4294967296 = ((x % 4294967296 : Nat) : Int) from by omega]
  refine bind1 (putFour_f (by omega) (by omega)) ?_
  refine bind1 (rputFour_f (by omega) (by omega) (by omega)) ?_
  refine bind1 (same_self (hb.append (four_by _))) ?_
  rw [if_pos rfl, if_pos rfl]
  refine bind1 (same_self b3) ?_
  rw [if_pos rfl, if_pos (beq_self_eq_true _), awake02]
  rfl

theorem NumsTells : ratlinelaw02_NumsTells.Pure := by
  intro l a1 s most _ _ hb h1 _ h3
  have hb := By.of_wf hb
  simp [Lit.wf, IntKind.min, IntKind.max, IntKind.bits, IntKind.signed] at h1 h3
  obtain ⟨x, rfl⟩ := Int.eq_ofNat_of_zero_le h1.1
  refine ⟨100, ?_⟩
  have hawake : ratlinelaw02_NumsTells.j0 100 l (x : Int) s most true = some true := by
    simp only [ratlinelaw02_NumsTells.j0]
    rw [if_pos trivial, awake02]
    rfl
  unfold ratlinelaw02_NumsTells.f
  by_cases c1 : (l.length : Int) > 200
  · rw [if_pos c1]; exact hawake
  · rw [if_neg c1]
    by_cases c2 : (s.size : Int) > 200
    · rw [decide_eq_true c2]; exact hawake
    · rw [decide_eq_false c2]
      exact tells 99 (by omega) l x s most hb (by omega) (by omega) (by omega) (by omega) (by omega)
end Go.Proofs.Ytdppjknfhggpbaa.Pure
