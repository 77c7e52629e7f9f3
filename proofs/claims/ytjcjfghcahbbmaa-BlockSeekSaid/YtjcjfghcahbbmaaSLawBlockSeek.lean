/- Proved here: the row of BlockSeek, and what it needs. Conditions: those of each theorem. Written for this claim by programs; what the claim does not use is left out. -/
import Derived.KernelRfl
import Derived.ChangeArms
import Derived.DataReads
import Derived.DataElems
import Derived.OpenShut
import Derived.SizedLaws
import Derived.Test.YtjcjfghcahbbmaaRows
import Derived.WalkKit
import Derived.ProofKit
import Derived.ShutString
import Derived.ChangeOld
import Derived.Below
import Derived.Test.YtjcjfghcahbbmaaSBlockSeek4
section
set_option linter.unusedVariables false
set_option linter.unusedSimpArgs false
namespace Go.Proofs.YtjcjfghcahbbmaaG
open Go Go.RowKit Go.Proofs.YtjcjfghcahbbmaaR Go.Proofs.YtjcjfghcahbbmaaL Go.Proofs.Ytjcjfghcahbbmaa.P Go.Proofs.YtjcjfghcahbbmaaW.PrintWords Go.Proofs.YtjcjfghcahbbmaaW.PrintMore Go.Proofs.YtjcjfghcahbbmaaW.PrintLast
attribute [local go_sem] Oper.semAt_some
attribute [local go_sem high] eqA50

def eqK (x y : Ik) : Bool := x.f0.toList == y.f0.toList && (x.f1 == y.f1 && (x.f2 == y.f2))
/-- Is the entry left out? -/
def outE (most : Int) (o : List En) (e : En) : Bool := !decide (OkE e) || (decide (seekN o e.f0 < o.length) && eqK (o.getD (seekN o e.f0) zeroE).f0 e.f0) || decide ((o.length : Int) = most)
def insE (most : Int) (o : List En) (e : En) : List En := if outE most o e = true then o else o.take (seekN o e.f0) ++ ([e] ++ o.drop (seekN o e.f0))
def srtE (most : Int) (l : List En) : List En := l.foldl (insE most) []
theorem insE_len (most : Int) (o : List En) (e : En) : (insE most o e).length ≤ o.length + 1 := by
  unfold insE
  split
  · omega
  · simp only [List.length_append, List.length_take, List.length_drop, List.length_singleton]; omega
theorem srtE_snoc (most : Int) (l : List En) (e : En) : srtE most (l ++ [e]) = insE most (srtE most l) e := by unfold srtE; rw [List.foldl_append]; rfl
theorem srtE_len (most : Int) (l : List En) : (srtE most l).length ≤ l.length := by
  refine rev_ind (P := fun l => (srtE most l).length ≤ l.length) (Nat.le_refl _) (fun l e ih => ?_) l
  rw [srtE_snoc, List.length_append]
  have := insE_len most (srtE most l) e
  show _ ≤ l.length + 1
  omega
theorem seek_step {o : List En} {x : Ik} {j : Nat} (hj : j ≤ seekN o x) (hl : j < o.length) : decide (cmpI o[j].f0 x < 0) = decide (j < seekN o x) := by
  rcases Nat.lt_or_ge j (seekN o x) with h | h
  · have := seek_lt h hl
    rw [decide_eq_true h]
    exact this
  · have e : j = seekN o x := by omega
    subst e
    exact (show decide (cmpI o[seekN o x].f0 x < 0) = false from tw_at (aheadB x) o hl).trans (decide_eq_false (by omega)).symm
/-- The box of an entry. -/
def eBox (e : En) : Obj := .cells #[.string e.f0.f0, .int .u64 e.f0.f1, .int .u8 e.f0.f2, .string e.f1] 59
set_option maxRecDepth 100000 in
set_option maxHeartbeats 4000000 in
theorem sorted_calls (A0 : Option Addr) (c0 : Nat) (l : List En) (a1 : Int) (w : World) (hr0 : Kd.C k59 w A0 l.length l) (hc0 : l.length ≤ c0) (hl : l.length ≤ 500) :
    Calls Try.prog 30 #[.slice A0 l.length c0, .int .i64 a1] w fun e w' => ∃ v0_ : Value, e = .returned v0_ ∧ Kd.R k59 59 w' w.heap.size (fun _ => True) v0_ (srtE a1 l) ∧ Below w.heap.size w w' := by
  have HR0 := Aside0.mk hr0
  have HC0 := Aside0.mk hc0
  have HL := Aside0.mk hl
  clear hr0 hc0 hl
  go_enter Try.func30, Try.ntmps30
  go_wp2
  go_loopg [5, 11] l.length (fun kq v5 v11 wr => ∃ i : Nat, v11 = .int .i64 (i : Int) ∧ Aside0 (i + kq = l.length) ∧ Aside0 (Below w.heap.size w wr) ∧ Aside0 (Kd.R k59 59 wr w.heap.size (fun _ => True) v5 (srtE a1 (l.take i))))
  case atStart => exact ⟨0, rfl, ⟨by omega⟩, ⟨Below.refl _ _⟩, ⟨Kd.R_nil _ _ _ _ _⟩⟩
  case round =>
    obtain ⟨i, rfl, HI, HB, HO⟩ := hrel
    by_cases hlt : i < l.length
    · cases gk with
      | zero => exact absurd HI.out (by omega)
      | succ k1 =>
        have hd1 : decide ((i : Int) < (l.length : Int)) = true := decide_eq_true (by omega)
        have hd2 : decide (i < l.length) = true := decide_eq_true hlt
        have hk1 : wrap64 ((i : Int) + 1) = ((i + 1 : Nat) : Int) := by have := HL.out; unfold wrap64; omega
        obtain ⟨ad, e0, h0, h1, h2, h3⟩ := at_T59 (Kd.C_below HR0.out HB.out) (i : Int) (by omega) (by omega)
        subst e0
        obtain ⟨e, he⟩ : ∃ e, e = l[i] := ⟨_, rfl⟩
        have hrd : rd_T59 l (i : Int) = e := by rw [he]; show l.getD ((i : Int)).toNat _ = _; rw [Int.toNat_natCast, List.getD_eq_getElem?_getD, List.getElem?_eq_getElem hlt]; rfl
        rw [hrd] at h0 h1 h2 h3
        simp only [Int.toNat_natCast] at h0 h1 h2 h3
        have htk : l.take (i + 1) = l.take i ++ [e] := by rw [he, List.take_succ_eq_append_getElem hlt]
        obtain ⟨o, ho⟩ : ∃ o, o = srtE a1 (l.take i) := ⟨_, rfl⟩
        have hol : o.length ≤ 500 := by have h9 := srtE_len a1 (l.take i); have := HL.out; rw [List.length_take] at h9; rw [ho]; omega
        have HNX : Aside0 (srtE a1 (l.take (i + 1)) = insE a1 o e) := ⟨by rw [htk, srtE_snoc, ho]⟩
        rw [← ho] at HO
        obtain ⟨A, c, hv⟩ := Kd.R_slice HO.out
        subst hv
        have HOL := Aside0.mk hol
        clear he hrd htk ho hol
        go_upto_region 5 with (fail)
        obtain ⟨W1, hW1⟩ : ∃ W1, W1 = wr.alloc (eBox e) := ⟨_, rfl⟩
        rw [show wr.alloc (.cells #[.string e.f0.f0, .int .u64 e.f0.f1, .int .u8 e.f0.f2, .string e.f1] 59) = W1 from hW1.symm]
        obtain ⟨g, hg⟩ : ∃ g, g = wr.heap.size := ⟨_, rfl⟩
        rw [← hg]
        have hbx : W1.heap[g]? = some (eBox e) := by rw [hW1, hg]; exact World.alloc_heap_new wr _
        have hb1 : Below wr.heap.size wr W1 := by rw [hW1]; exact below_alloc (Below.refl _ _) _
        have HBX := Aside0.mk hbx
        have HO1 := Aside0.mk (Kd.R_below HO.out hb1)
        have HB1 := Aside0.mk (below_then HB.out HB.out.size hb1)
        have HGL := Aside0.mk (show g < W1.heap.size by rw [hW1, hg]; simp)
        have HGW := Aside0.mk (show w.heap.size ≤ g by rw [hg]; exact HB.out.size)
        clear hW1 hbx hb1 HO HB h0 h1 h2 h3 hg
        go_wp2
        go_loopg [8] o.length (fun kq v8 ws => ∃ j : Nat, v8 = .int .i64 (j : Int) ∧ Aside0 (j + kq = o.length) ∧ Aside0 (j ≤ seekN o e.f0) ∧ Aside0 (Below W1.heap.size W1 ws))
        case atStart => exact ⟨0, rfl, ⟨by omega⟩, ⟨Nat.zero_le _⟩, ⟨Below.refl _ _⟩⟩
        case round =>
          obtain ⟨j, rfl, HJ, HJS, HS⟩ := hrel
          have hjl : j ≤ o.length := by have := HJ.out; omega
          have hol := HOL.out
          obtain ⟨B, hB⟩ : ∃ B, B = decide (j < seekN o e.f0) := ⟨_, rfl⟩
          have HBB := Aside0.mk hB
          have HSB := Aside0.mk ((HS.out.block _ HGL.out).trans HBX.out)
          have HOS := Aside0.mk (Kd.R_below HO1.out HS.out)
          clear hB
          go_upto_region 6 with (fail)
          go_cut [29] (fun v29 wc => v29 = .bool B ∧ Aside0 (Below W1.heap.size W1 wc))
          case first =>
            have he0 : wr.cell? ⟨g, 0, none⟩ = some (.string e.f0.f0) := (blk_cell HSB.out 0).trans rfl
            have he1 : wr.cell? ⟨g, 1, none⟩ = some (.int .u64 e.f0.f1) := (blk_cell HSB.out 1).trans rfl
            have he2 : wr.cell? ⟨g, 2, none⟩ = some (.int .u8 e.f0.f2) := (blk_cell HSB.out 2).trans rfl
            by_cases hjo : j < o.length
            · obtain ⟨ad2, e2, h0, h1, h2, h3⟩ := at_T59 (Kd.R_reads' HOS.out).2.2 (j : Int) (by omega) (by omega)
              subst e2
              have hrd2 : rd_T59 o (j : Int) = o[j] := by show o.getD ((j : Int)).toNat _ = _; rw [Int.toNat_natCast, List.getD_eq_getElem?_getD, List.getElem?_eq_getElem hjo]; rfl
              rw [hrd2] at h0 h1 h2 h3
              simp only [Int.toNat_natCast] at h0 h1 h2 h3
              have hst := (seek_step HJS.out hjo).trans HBB.out.symm
              obtain ⟨y, hy⟩ : ∃ y, y = o[j] := ⟨_, rfl⟩
              rw [← hy] at h0 h1 h2 h3 hst
              obtain ⟨cm, hcm⟩ : ∃ cm, cm = cmpI y.f0 e.f0 := ⟨_, rfl⟩
              have HCMP := Aside0.mk ((compare_f 0 y.f0 e.f0).trans (congrArg some hcm.symm))
              rw [← hcm] at hst
              have hj1 : decide ((j : Int) < (o.length : Int)) = true := decide_eq_true (by omega)
              have hj2 : decide (j < o.length) = true := decide_eq_true hjo
              clear hrd2 hy hcm
              have hq1 : ((j : Int) < (o.length : Int)) = True := eq_true (by omega)
              have hq2 : (j < o.length) = True := eq_true hjo
              refine start_ (n := 15) (S := fun w' => w'.cell? (ad2.add (j * 4)) = some (.string y.f0.f0) ∧ w'.cell? ⟨(ad2.add (j * 4)).block, (ad2.add (j * 4)).off + 1, none⟩ = some (.int .u64 y.f0.f1) ∧ w'.cell? ⟨(ad2.add (j * 4)).block, (ad2.add (j * 4)).off + 2, none⟩ = some (.int .u8 y.f0.f2) ∧ w'.cell? ⟨g, 0, none⟩ = some (.string e.f0.f0) ∧ w'.cell? ⟨g, 1, none⟩ = some (.int .u64 e.f0.f1) ∧ w'.cell? ⟨g, 2, none⟩ = some (.int .u8 e.f0.f2)) (ds := []) #[false, false, false, false, false, false, false, false, false, false, false, false, false, false, false] (by kernel_rfl) rfl rfl ⟨h0, h1, h2, he0, he1, he2⟩ (fun hHeld => ?_)
              refine pure_ (i := 0) (N := some 15) (v := ?_) (a' := ?_) #[true, false, false, false, false, false, false, false, false, false, false, false, false, false, false] rfl rfl (by kernel_rfl) (fun _ _ _ h => h) (Or.inl ⟨by rfl, ?_⟩) ?_ ?_
              rotate_left
              · intro w'
                go_simp
                with_reducible rfl
              rotate_left
              · simp only [Act.put, List.setIfInBounds_toArray, List.set_cons_zero, List.set_cons_succ, i64_w, i32_w]
                rfl
              refine pure_ (i := 1) (N := some 16) (v := ?_) (a' := ?_) #[true, true, false, false, false, false, false, false, false, false, false, false, false, false, false] rfl rfl (by kernel_rfl) (fun _ _ _ h => h) (Or.inl ⟨by rfl, ?_⟩) ?_ ?_
              rotate_left
              · intro w'
                go_simp
                with_reducible rfl
              rotate_left
              · simp only [Act.put, List.setIfInBounds_toArray, List.set_cons_zero, List.set_cons_succ, i64_w, i32_w]
                rfl
              refine pure_ (i := 2) (N := some 17) (v := ?_) (a' := ?_) #[true, true, true, false, false, false, false, false, false, false, false, false, false, false, false] rfl rfl (by kernel_rfl) (fun _ _ _ h => h) (Or.inl ⟨by rfl, ?_⟩) ?_ ?_
              rotate_left
              · intro w'
                go_simp
                with_reducible rfl
              rotate_left
              · simp only [Act.put, List.setIfInBounds_toArray, List.set_cons_zero, List.set_cons_succ, i64_w, i32_w]
                rfl
              refine pure_ (i := 3) (N := some 18) (v := ?_) (a' := ?_) #[true, true, true, true, false, false, false, false, false, false, false, false, false, false, false] rfl rfl (by kernel_rfl) (fun _ _ _ h => h) (Or.inl ⟨by rfl, ?_⟩) ?_ ?_
              rotate_left
              · intro w'
                go_simp
                with_reducible rfl
              rotate_left
              · simp only [Act.put, List.setIfInBounds_toArray, List.set_cons_zero, List.set_cons_succ, i64_w, i32_w]
                rfl
              refine pure_ (i := 4) (N := some 19) (v := ?_) (a' := ?_) #[true, true, true, true, true, false, false, false, false, false, false, false, false, false, false] rfl rfl (by kernel_rfl) (fun _ _ _ h => h) (Or.inl ⟨by rfl, ?_⟩) ?_ ?_
              rotate_left
              · intro w'
                go_simp
                with_reducible rfl
              rotate_left
              · simp only [Act.put, List.setIfInBounds_toArray, List.set_cons_zero, List.set_cons_succ, i64_w, i32_w]
                rfl
              refine pure_ (i := 5) (N := some 20) (v := ?_) (a' := ?_) #[true, true, true, true, true, true, false, false, false, false, false, false, false, false, false] rfl rfl (by kernel_rfl) (fun _ _ _ h => h) (Or.inl ⟨by rfl, ?_⟩) ?_ ?_
              rotate_left
              · intro w'
                go_simp
                with_reducible rfl
              rotate_left
              · simp only [Act.put, List.setIfInBounds_toArray, List.set_cons_zero, List.set_cons_succ, i64_w, i32_w]
                rfl
              refine pure_ (i := 6) (N := some 21) (v := ?_) (a' := ?_) #[true, true, true, true, true, true, true, false, false, false, false, false, false, false, false] rfl rfl (by kernel_rfl) (fun _ _ _ h => h) (Or.inl ⟨by rfl, ?_⟩) ?_ ?_
              rotate_left
              · intro w'
                go_simp
                with_reducible rfl
              rotate_left
              · simp only [Act.put, List.setIfInBounds_toArray, List.set_cons_zero, List.set_cons_succ, i64_w, i32_w]
                rfl
              refine pure_ (i := 7) (N := some 22) (v := ?_) (a' := ?_) #[true, true, true, true, true, true, true, true, false, false, false, false, false, false, false] rfl rfl (by kernel_rfl) (fun _ _ _ h => h) (Or.inl ⟨by rfl, ?_⟩) ?_ ?_
              rotate_left
              · intro w'
                go_simp
                with_reducible rfl
              rotate_left
              · simp only [Act.put, List.setIfInBounds_toArray, List.set_cons_zero, List.set_cons_succ, i64_w, i32_w]
                rfl
              refine pure_ (i := 8) (N := some 23) (v := ?_) (a' := ?_) #[true, true, true, true, true, true, true, true, true, false, false, false, false, false, false] rfl rfl (by kernel_rfl) (fun _ _ _ h => h) (Or.inl ⟨by rfl, ?_⟩) ?_ ?_
              rotate_left
              · intro w'
                go_simp
                with_reducible rfl
              rotate_left
              · simp only [Act.put, List.setIfInBounds_toArray, List.set_cons_zero, List.set_cons_succ, i64_w, i32_w]
                rfl
              refine pure_ (i := 10) (N := some 25) (v := ?_) (a' := ?_) #[true, true, true, true, true, true, true, true, true, false, true, false, false, false, false] rfl rfl (by kernel_rfl) (fun _ _ _ h => h) (Or.inl ⟨by rfl, ?_⟩) ?_ ?_
              rotate_left
              · intro w'
                go_simp
                with_reducible rfl
              rotate_left
              · simp only [Act.put, List.setIfInBounds_toArray, List.set_cons_zero, List.set_cons_succ, i64_w, i32_w]
                rfl
              refine take_ (i := 9) (N := some 24) (v := ?_) (a' := ?_) #[true, true, true, true, true, true, true, true, true, true, true, false, false, false, false] rfl rfl (by kernel_rfl) (fun _ _ _ h => h) (Or.inl ⟨by rfl, ?_⟩) hHeld ?_ ?_
              rotate_left
              · rintro w' ⟨s0, s1, s2, s3, s4, s5⟩
                go_simp
                with_reducible rfl
              rotate_left
              · simp only [Act.put, List.setIfInBounds_toArray, List.set_cons_zero, List.set_cons_succ, i64_w, i32_w]
                rfl
              refine take_ (i := 11) (N := some 26) (v := ?_) (a' := ?_) #[true, true, true, true, true, true, true, true, true, true, true, true, false, false, false] rfl rfl (by kernel_rfl) (fun _ _ _ h => h) (Or.inl ⟨by rfl, ?_⟩) hHeld ?_ ?_
              rotate_left
              · rintro w' ⟨s0, s1, s2, s3, s4, s5⟩
                go_simp
                with_reducible rfl
              rotate_left
              · simp only [Act.put, List.setIfInBounds_toArray, List.set_cons_zero, List.set_cons_succ, i64_w, i32_w]
                rfl
              refine one_ (i := 12) (N := some 27) #[true, true, true, true, true, true, true, true, true, true, true, true, true, false, false] rfl rfl (by kernel_rfl) (by decide) (fun K hK => ?_)
              refine goes_ Try.func32 (by kernel_rfl) rfl #[.agg #[.string y.f0.f0, .int .u64 y.f0.f1, .int .u8 y.f0.f2], .agg #[.string e.f0.f0, .int .u64 e.f0.f1, .int .u8 e.f0.f2]] (by rfl) rfl rfl (by (try simp only [List.map_toArray, List.map_cons, List.map_nil]); first | done | rfl) ?_
              with_reducible refine (ikey_Compare.calls 4 _ _ _ _ _ _ cm _ HCMP.out).mono ?_
              rintro x w5 ⟨rfl, hb⟩
              refine ⟨_, rfl, ?_⟩
              have HD5 := Aside0.mk hb
              refine hK.out _ _ ⟨(hb.cell (World.block_lt_of_cell? _ _ hHeld.1)).trans hHeld.1, (hb.cell (World.block_lt_of_cell? _ _ hHeld.2.1)).trans hHeld.2.1, (hb.cell (World.block_lt_of_cell? _ _ hHeld.2.2.1)).trans hHeld.2.2.1, (hb.cell (World.block_lt_of_cell? _ _ hHeld.2.2.2.1)).trans hHeld.2.2.2.1, (hb.cell (World.block_lt_of_cell? _ _ hHeld.2.2.2.2.1)).trans hHeld.2.2.2.2.1, (hb.cell (World.block_lt_of_cell? _ _ hHeld.2.2.2.2.2)).trans hHeld.2.2.2.2.2⟩ (fun hHeld => ?_)
              clear hK K
              refine norm_ (a' := ?_) ?_ ?_
              rotate_left
              · show Act.put _ (some 27) _ = _
                simp only [Act.put, List.setIfInBounds_toArray, List.set_cons_zero, List.set_cons_succ, i64_w, i32_w]
                rfl
              refine pure_ (i := 13) (N := some 28) (v := ?_) (a' := ?_) #[true, true, true, true, true, true, true, true, true, true, true, true, true, true, false] rfl rfl (by kernel_rfl) (fun _ _ _ h => h) (Or.inl ⟨by rfl, ?_⟩) ?_ ?_
              rotate_left
              · intro w'
                go_simp
                with_reducible rfl
              rotate_left
              · simp only [Act.put, List.setIfInBounds_toArray, List.set_cons_zero, List.set_cons_succ, i64_w, i32_w]
                rfl
              refine pure_ (i := 14) (N := some 29) (v := ?_) (a' := ?_) #[true, true, true, true, true, true, true, true, true, true, true, true, true, true, true] rfl rfl (by kernel_rfl) (fun _ _ _ h => h) (Or.inl ⟨by rfl, ?_⟩) ?_ ?_
              rotate_left
              · intro w'
                go_simp
                with_reducible rfl
              rotate_left
              · simp only [Act.put, List.setIfInBounds_toArray, List.set_cons_zero, List.set_cons_succ, i64_w, i32_w]
                rfl
              refine done_ (by kernel_rfl) ?_
              go_wp2
              go_meet
              case rel => exact ⟨rfl, ⟨below_then (below_drew HS.out) (by have := HS.out.size; exact this) HD5.out⟩⟩
            · have hj1 : decide ((j : Int) < (o.length : Int)) = false := decide_eq_false (by omega)
              have hj2 : decide (j < o.length) = false := decide_eq_false hjo
              have hBf : B = false := by rw [HBB.out]; exact decide_eq_false (by have := tw_le (aheadB e.f0) o; have h9 : seekN o e.f0 ≤ o.length := this; omega)
              refine start_ (n := 15) (S := fun w' => True) (ds := []) #[false, false, false, false, false, false, false, false, false, false, false, false, false, false, false] (by kernel_rfl) rfl rfl trivial (fun hHeld => ?_)
              refine pure_ (i := 0) (N := some 15) (v := ?_) (a' := ?_) #[true, false, false, false, false, false, false, false, false, false, false, false, false, false, false] rfl rfl (by kernel_rfl) (fun _ _ _ h => h) (Or.inl ⟨by rfl, ?_⟩) ?_ ?_
              rotate_left
              · intro w'
                go_simp
                with_reducible rfl
              rotate_left
              · simp only [Act.put, List.setIfInBounds_toArray, List.set_cons_zero, List.set_cons_succ, i64_w, i32_w]
                rfl
              refine pure_ (i := 1) (N := some 16) (v := ?_) (a' := ?_) #[true, true, false, false, false, false, false, false, false, false, false, false, false, false, false] rfl rfl (by kernel_rfl) (fun _ _ _ h => h) (Or.inl ⟨by rfl, ?_⟩) ?_ ?_
              rotate_left
              · intro w'
                go_simp
                with_reducible rfl
              rotate_left
              · simp only [Act.put, List.setIfInBounds_toArray, List.set_cons_zero, List.set_cons_succ, i64_w, i32_w]
                rfl
              refine pure_ (i := 2) (N := some 17) (v := ?_) (a' := ?_) #[true, true, true, false, false, false, false, false, false, false, false, false, false, false, false] rfl rfl (by kernel_rfl) (fun _ _ _ h => h) (Or.inl ⟨by rfl, ?_⟩) ?_ ?_
              rotate_left
              · intro w'
                go_simp
                with_reducible rfl
              rotate_left
              · simp only [Act.put, List.setIfInBounds_toArray, List.set_cons_zero, List.set_cons_succ, i64_w, i32_w]
                rfl
              refine pure_ (i := 3) (N := some 18) (v := ?_) (a' := ?_) #[true, true, true, true, false, false, false, false, false, false, false, false, false, false, false] rfl rfl (by kernel_rfl) (fun _ _ _ h => h) (Or.inl ⟨by rfl, ?_⟩) ?_ ?_
              rotate_left
              · intro w'
                go_simp
                with_reducible rfl
              rotate_left
              · simp only [Act.put, List.setIfInBounds_toArray, List.set_cons_zero, List.set_cons_succ, i64_w, i32_w]
                rfl
              refine pure_ (i := 4) (N := some 19) (v := ?_) (a' := ?_) #[true, true, true, true, true, false, false, false, false, false, false, false, false, false, false] rfl rfl (by kernel_rfl) (fun _ _ _ h => h) (Or.inl ⟨by rfl, ?_⟩) ?_ ?_
              rotate_left
              · intro w'
                go_simp
                with_reducible rfl
              rotate_left
              · simp only [Act.put, List.setIfInBounds_toArray, List.set_cons_zero, List.set_cons_succ, i64_w, i32_w]
                rfl
              refine pure_ (i := 5) (N := some 20) (v := undef) (a' := ?_) #[true, true, true, true, true, true, false, false, false, false, false, false, false, false, false] rfl rfl (by kernel_rfl) (fun _ _ _ h => h) (Or.inr ⟨by rfl, rfl⟩) ?_ ?_
              rotate_left
              · simp only [Act.put, List.setIfInBounds_toArray, List.set_cons_zero, List.set_cons_succ, i64_w, i32_w]
                rfl
              refine pure_ (i := 6) (N := some 21) (v := undef) (a' := ?_) #[true, true, true, true, true, true, true, false, false, false, false, false, false, false, false] rfl rfl (by kernel_rfl) (fun _ _ _ h => h) (Or.inr ⟨by rfl, rfl⟩) ?_ ?_
              rotate_left
              · simp only [Act.put, List.setIfInBounds_toArray, List.set_cons_zero, List.set_cons_succ, i64_w, i32_w]
                rfl
              refine pure_ (i := 7) (N := some 22) (v := undef) (a' := ?_) #[true, true, true, true, true, true, true, true, false, false, false, false, false, false, false] rfl rfl (by kernel_rfl) (fun _ _ _ h => h) (Or.inr ⟨by rfl, rfl⟩) ?_ ?_
              rotate_left
              · simp only [Act.put, List.setIfInBounds_toArray, List.set_cons_zero, List.set_cons_succ, i64_w, i32_w]
                rfl
              refine pure_ (i := 8) (N := some 23) (v := undef) (a' := ?_) #[true, true, true, true, true, true, true, true, true, false, false, false, false, false, false] rfl rfl (by kernel_rfl) (fun _ _ _ h => h) (Or.inr ⟨by rfl, rfl⟩) ?_ ?_
              rotate_left
              · simp only [Act.put, List.setIfInBounds_toArray, List.set_cons_zero, List.set_cons_succ, i64_w, i32_w]
                rfl
              refine pure_ (i := 9) (N := some 24) (v := undef) (a' := ?_) #[true, true, true, true, true, true, true, true, true, true, false, false, false, false, false] rfl rfl (by kernel_rfl) (fun _ _ _ h => h) (Or.inr ⟨by rfl, rfl⟩) ?_ ?_
              rotate_left
              · simp only [Act.put, List.setIfInBounds_toArray, List.set_cons_zero, List.set_cons_succ, i64_w, i32_w]
                rfl
              refine pure_ (i := 10) (N := some 25) (v := undef) (a' := ?_) #[true, true, true, true, true, true, true, true, true, true, true, false, false, false, false] rfl rfl (by kernel_rfl) (fun _ _ _ h => h) (Or.inr ⟨by rfl, rfl⟩) ?_ ?_
              rotate_left
              · simp only [Act.put, List.setIfInBounds_toArray, List.set_cons_zero, List.set_cons_succ, i64_w, i32_w]
                rfl
              refine pure_ (i := 11) (N := some 26) (v := undef) (a' := ?_) #[true, true, true, true, true, true, true, true, true, true, true, true, false, false, false] rfl rfl (by kernel_rfl) (fun _ _ _ h => h) (Or.inr ⟨by rfl, rfl⟩) ?_ ?_
              rotate_left
              · simp only [Act.put, List.setIfInBounds_toArray, List.set_cons_zero, List.set_cons_succ, i64_w, i32_w]
                rfl
              refine pure_ (i := 12) (N := some 27) (v := undef) (a' := ?_) #[true, true, true, true, true, true, true, true, true, true, true, true, true, false, false] rfl rfl (by kernel_rfl) (fun _ _ _ h => h) (Or.inr ⟨by rfl, rfl⟩) ?_ ?_
              rotate_left
              · simp only [Act.put, List.setIfInBounds_toArray, List.set_cons_zero, List.set_cons_succ, i64_w, i32_w]
                rfl
              refine pure_ (i := 13) (N := some 28) (v := undef) (a' := ?_) #[true, true, true, true, true, true, true, true, true, true, true, true, true, true, false] rfl rfl (by kernel_rfl) (fun _ _ _ h => h) (Or.inr ⟨by rfl, rfl⟩) ?_ ?_
              rotate_left
              · simp only [Act.put, List.setIfInBounds_toArray, List.set_cons_zero, List.set_cons_succ, i64_w, i32_w]
                rfl
              refine pure_ (i := 14) (N := some 29) (v := ?_) (a' := ?_) #[true, true, true, true, true, true, true, true, true, true, true, true, true, true, true] rfl rfl (by kernel_rfl) (fun _ _ _ h => h) (Or.inl ⟨by rfl, ?_⟩) ?_ ?_
              rotate_left
              · intro w'
                go_simp
                with_reducible rfl
              rotate_left
              · simp only [Act.put, List.setIfInBounds_toArray, List.set_cons_zero, List.set_cons_succ, i64_w, i32_w]
                rfl
              refine done_ (by kernel_rfl) ?_
              go_wp2
              go_meet
              case rel => exact ⟨by rw [hBf], ⟨below_drew HS.out⟩⟩
          case rest =>
            obtain ⟨rfl, HS2⟩ := hcut
            have hsl : seekN o e.f0 ≤ o.length := tw_le (aheadB e.f0) o
            cases B with
            | true =>
              have hjs : j < seekN o e.f0 := of_decide_eq_true HBB.out.symm
              cases gk with
              | zero => exact absurd HJ.out (by omega)
              | succ k2 =>
                have hj1 : wrap64 ((j : Int) + 1) = ((j + 1 : Nat) : Int) := by unfold wrap64; omega
                have HJS2 := Aside0.mk hjs
                clear hsl hjs
                go_wp2
                go_roundg k2
                case measure => exact Nat.lt_succ_self _
                case rel => exact ⟨j + 1, rfl, ⟨by have := HJ.out; omega⟩, ⟨HJS2.out⟩, HS2⟩
            | false =>
              have hje : j = seekN o e.f0 := by have h8 := of_decide_eq_false HBB.out.symm; have := HJS.out; omega
              have HSC := Aside0.mk ((HS2.out.block _ HGL.out).trans HBX.out)
              have HOC := Aside0.mk (Kd.R_below HO1.out HS2.out)
              obtain ⟨X, hX⟩ : ∃ X, X = outE a1 o e := ⟨_, rfl⟩
              have hXd : X = (!decide (OkE e) || (decide (j < o.length) && eqK (o.getD j zeroE).f0 e.f0) || decide ((o.length : Int) = a1)) := by rw [hX, hje]; rfl
              have HXX := Aside0.mk hX
              have HJE := Aside0.mk hje
              clear hX hje hsl HS HSB HBB HJS HJ
              have HEN := Aside0.mk (entry_f e.f0 e.f1)
              go_upto_region 8 with (fail)
              go_cut [56] (fun v56 wd => v56 = .bool X ∧ Aside0 (Below W1.heap.size W1 wd))
              case first =>
                have he0 : wc.cell? ⟨g, 0, none⟩ = some (.string e.f0.f0) := (blk_cell HSC.out 0).trans rfl
                have he1 : wc.cell? ⟨g, 1, none⟩ = some (.int .u64 e.f0.f1) := (blk_cell HSC.out 1).trans rfl
                have he2 : wc.cell? ⟨g, 2, none⟩ = some (.int .u8 e.f0.f2) := (blk_cell HSC.out 2).trans rfl
                have he3 : wc.cell? ⟨g, 3, none⟩ = some (.string e.f1) := (blk_cell HSC.out 3).trans rfl
                by_cases hok : OkE e
                · have hen : ikey_Entry.f e.f0.f0 e.f0.f1 e.f0.f2 e.f1 = some true := by
                    rw [HEN.out]
                    congr 1
                    rw [Bool.and_eq_true]
                    exact ⟨decide_eq_true hok.1, decide_eq_true hok.2⟩
                  have HE2 := Aside0.mk hen
                  rw [decide_eq_true hok] at hXd
                  obtain ⟨mo, hmo⟩ : ∃ mo, mo = ((o.length : Int) == a1) := ⟨_, rfl⟩
                  have hmd : decide ((o.length : Int) = a1) = mo := by rw [hmo]; rfl
                  rw [hmd] at hXd
                  have hmo2 := hmo.symm
                  clear hmo hmd
                  by_cases hjo : j < o.length
                  · obtain ⟨ad2, e2, h0, h1, h2, h3⟩ := at_T59 (Kd.R_reads' HOC.out).2.2 (j : Int) (by omega) (by omega)
                    subst e2
                    have hrd2 : rd_T59 o (j : Int) = o[j] := by show o.getD ((j : Int)).toNat _ = _; rw [Int.toNat_natCast, List.getD_eq_getElem?_getD, List.getElem?_eq_getElem hjo]; rfl
                    rw [hrd2] at h0 h1 h2 h3
                    simp only [Int.toNat_natCast] at h0 h1 h2 h3
                    have hgd : o.getD j zeroE = o[j] := by rw [List.getD_eq_getElem?_getD, List.getElem?_eq_getElem hjo]; rfl
                    rw [hgd] at hXd
                    obtain ⟨y, hy⟩ : ∃ y, y = o[j] := ⟨_, rfl⟩
                    rw [← hy] at h0 h1 h2 h3 hXd
                    have hj1 : decide ((j : Int) < (o.length : Int)) = true := decide_eq_true (by omega)
                    have hj2 : decide (j < o.length) = true := decide_eq_true hjo
                    have hq1 : ((j : Int) < (o.length : Int)) = True := eq_true (by omega)
                    have hq2 : (j < o.length) = True := eq_true hjo
                    rw [hj2] at hXd
                    obtain ⟨q, hq⟩ : ∃ q, q = eqK y.f0 e.f0 := ⟨_, rfl⟩
                    rw [← hq] at hXd
                    have hq3 : (y.f0.f0.toList == e.f0.f0.toList && (y.f0.f1 == e.f0.f1 && (y.f0.f2 == e.f0.f2))) = q := hq.symm
                    clear hen hrd2 hgd hy hq
                    cases q with
                    | true =>
                      have hXt : X = true := by rw [hXd]; rfl
                      clear hXd
                      refine start_ (n := 25) (S := fun w' => w'.cell? (ad2.add (j * 4)) = some (.string y.f0.f0) ∧ w'.cell? ⟨(ad2.add (j * 4)).block, (ad2.add (j * 4)).off + 1, none⟩ = some (.int .u64 y.f0.f1) ∧ w'.cell? ⟨(ad2.add (j * 4)).block, (ad2.add (j * 4)).off + 2, none⟩ = some (.int .u8 y.f0.f2) ∧ w'.cell? ⟨g, 0, none⟩ = some (.string e.f0.f0) ∧ w'.cell? ⟨g, 1, none⟩ = some (.int .u64 e.f0.f1) ∧ w'.cell? ⟨g, 2, none⟩ = some (.int .u8 e.f0.f2) ∧ w'.cell? ⟨g, 3, none⟩ = some (.string e.f1)) (ds := []) #[false, false, false, false, false, false, false, false, false, false, false, false, false, false, false, false, false, false, false, false, false, false, false, false, false] (by kernel_rfl) rfl rfl ⟨h0, h1, h2, he0, he1, he2, he3⟩ (fun hHeld => ?_)
                      refine take_ (i := 0) (N := some 32) (v := ?_) (a' := ?_) #[true, false, false, false, false, false, false, false, false, false, false, false, false, false, false, false, false, false, false, false, false, false, false, false, false] rfl rfl (by kernel_rfl) (fun _ _ _ h => h) (Or.inl ⟨by rfl, ?_⟩) hHeld ?_ ?_
                      rotate_left
                      · rintro w' ⟨s0, s1, s2, s3, s4, s5, s6⟩
                        go_simp
                        with_reducible rfl
                      rotate_left
                      · simp only [Act.put, List.setIfInBounds_toArray, List.set_cons_zero, List.set_cons_succ, i64_w, i32_w]
                        rfl
                      refine one_ (i := 1) (N := some 33) #[true, true, false, false, false, false, false, false, false, false, false, false, false, false, false, false, false, false, false, false, false, false, false, false, false] rfl rfl (by kernel_rfl) (by decide) (fun K hK => ?_)
                      refine goes_ Try.func64 (by kernel_rfl) rfl #[.agg #[.string e.f0.f0, .int .u64 e.f0.f1, .int .u8 e.f0.f2, .string e.f1]] (by rfl) rfl rfl (by (try simp only [List.map_toArray, List.map_cons, List.map_nil]); first | done | rfl) ?_
                      with_reducible refine (ikey_Entry.calls _ _ _ _ _ _ HE2.out).mono ?_
                      rintro x w6 ⟨rfl, hb⟩
                      refine ⟨_, rfl, ?_⟩
                      have HD6 := Aside0.mk hb
                      refine hK.out _ _ ⟨(hb.cell (World.block_lt_of_cell? _ _ hHeld.1)).trans hHeld.1, (hb.cell (World.block_lt_of_cell? _ _ hHeld.2.1)).trans hHeld.2.1, (hb.cell (World.block_lt_of_cell? _ _ hHeld.2.2.1)).trans hHeld.2.2.1, (hb.cell (World.block_lt_of_cell? _ _ hHeld.2.2.2.1)).trans hHeld.2.2.2.1, (hb.cell (World.block_lt_of_cell? _ _ hHeld.2.2.2.2.1)).trans hHeld.2.2.2.2.1, (hb.cell (World.block_lt_of_cell? _ _ hHeld.2.2.2.2.2.1)).trans hHeld.2.2.2.2.2.1, (hb.cell (World.block_lt_of_cell? _ _ hHeld.2.2.2.2.2.2)).trans hHeld.2.2.2.2.2.2⟩ (fun hHeld => ?_)
                      clear hK K
                      refine norm_ (a' := ?_) ?_ ?_
                      rotate_left
                      · show Act.put _ (some 33) _ = _
                        simp only [Act.put, List.setIfInBounds_toArray, List.set_cons_zero, List.set_cons_succ, i64_w, i32_w]
                        rfl
                      refine pure_ (i := 2) (N := some 34) (v := ?_) (a' := ?_) #[true, true, true, false, false, false, false, false, false, false, false, false, false, false, false, false, false, false, false, false, false, false, false, false, false] rfl rfl (by kernel_rfl) (fun _ _ _ h => h) (Or.inl ⟨by rfl, ?_⟩) ?_ ?_
                      rotate_left
                      · intro w'
                        go_simp
                        with_reducible rfl
                      rotate_left
                      · simp only [Act.put, List.setIfInBounds_toArray, List.set_cons_zero, List.set_cons_succ, i64_w, i32_w]
                        rfl
                      refine pure_ (i := 3) (N := some 35) (v := ?_) (a' := ?_) #[true, true, true, true, false, false, false, false, false, false, false, false, false, false, false, false, false, false, false, false, false, false, false, false, false] rfl rfl (by kernel_rfl) (fun _ _ _ h => h) (Or.inl ⟨by rfl, ?_⟩) ?_ ?_
                      rotate_left
                      · intro w'
                        go_simp
                        with_reducible rfl
                      rotate_left
                      · simp only [Act.put, List.setIfInBounds_toArray, List.set_cons_zero, List.set_cons_succ, i64_w, i32_w]
                        rfl
                      refine pure_ (i := 4) (N := some 36) (v := ?_) (a' := ?_) #[true, true, true, true, true, false, false, false, false, false, false, false, false, false, false, false, false, false, false, false, false, false, false, false, false] rfl rfl (by kernel_rfl) (fun _ _ _ h => h) (Or.inl ⟨by rfl, ?_⟩) ?_ ?_
                      rotate_left
                      · intro w'
                        go_simp
                        with_reducible rfl
                      rotate_left
                      · simp only [Act.put, List.setIfInBounds_toArray, List.set_cons_zero, List.set_cons_succ, i64_w, i32_w]
                        rfl
                      refine pure_ (i := 5) (N := some 37) (v := ?_) (a' := ?_) #[true, true, true, true, true, true, false, false, false, false, false, false, false, false, false, false, false, false, false, false, false, false, false, false, false] rfl rfl (by kernel_rfl) (fun _ _ _ h => h) (Or.inl ⟨by rfl, ?_⟩) ?_ ?_
                      rotate_left
                      · intro w'
                        go_simp
                        with_reducible rfl
                      rotate_left
                      · simp only [Act.put, List.setIfInBounds_toArray, List.set_cons_zero, List.set_cons_succ, i64_w, i32_w]
                        rfl
                      refine pure_ (i := 6) (N := some 38) (v := ?_) (a' := ?_) #[true, true, true, true, true, true, true, false, false, false, false, false, false, false, false, false, false, false, false, false, false, false, false, false, false] rfl rfl (by kernel_rfl) (fun _ _ _ h => h) (Or.inl ⟨by rfl, ?_⟩) ?_ ?_
                      rotate_left
                      · intro w'
                        go_simp
                        with_reducible rfl
                      rotate_left
                      · simp only [Act.put, List.setIfInBounds_toArray, List.set_cons_zero, List.set_cons_succ, i64_w, i32_w]
                        rfl
                      refine pure_ (i := 7) (N := some 39) (v := ?_) (a' := ?_) #[true, true, true, true, true, true, true, true, false, false, false, false, false, false, false, false, false, false, false, false, false, false, false, false, false] rfl rfl (by kernel_rfl) (fun _ _ _ h => h) (Or.inl ⟨by rfl, ?_⟩) ?_ ?_
                      rotate_left
                      · intro w'
                        go_simp
                        with_reducible rfl
                      rotate_left
                      · simp only [Act.put, List.setIfInBounds_toArray, List.set_cons_zero, List.set_cons_succ, i64_w, i32_w]
                        rfl
                      refine pure_ (i := 8) (N := some 40) (v := ?_) (a' := ?_) #[true, true, true, true, true, true, true, true, true, false, false, false, false, false, false, false, false, false, false, false, false, false, false, false, false] rfl rfl (by kernel_rfl) (fun _ _ _ h => h) (Or.inl ⟨by rfl, ?_⟩) ?_ ?_
                      rotate_left
                      · intro w'
                        go_simp
                        with_reducible rfl
                      rotate_left
                      · simp only [Act.put, List.setIfInBounds_toArray, List.set_cons_zero, List.set_cons_succ, i64_w, i32_w]
                        rfl
                      refine pure_ (i := 9) (N := some 41) (v := ?_) (a' := ?_) #[true, true, true, true, true, true, true, true, true, true, false, false, false, false, false, false, false, false, false, false, false, false, false, false, false] rfl rfl (by kernel_rfl) (fun _ _ _ h => h) (Or.inl ⟨by rfl, ?_⟩) ?_ ?_
                      rotate_left
                      · intro w'
                        go_simp
                        with_reducible rfl
                      rotate_left
                      · simp only [Act.put, List.setIfInBounds_toArray, List.set_cons_zero, List.set_cons_succ, i64_w, i32_w]
                        rfl
                      refine pure_ (i := 10) (N := some 42) (v := ?_) (a' := ?_) #[true, true, true, true, true, true, true, true, true, true, true, false, false, false, false, false, false, false, false, false, false, false, false, false, false] rfl rfl (by kernel_rfl) (fun _ _ _ h => h) (Or.inl ⟨by rfl, ?_⟩) ?_ ?_
                      rotate_left
                      · intro w'
                        go_simp
                        with_reducible rfl
                      rotate_left
                      · simp only [Act.put, List.setIfInBounds_toArray, List.set_cons_zero, List.set_cons_succ, i64_w, i32_w]
                        rfl
                      refine pure_ (i := 11) (N := some 43) (v := ?_) (a' := ?_) #[true, true, true, true, true, true, true, true, true, true, true, true, false, false, false, false, false, false, false, false, false, false, false, false, false] rfl rfl (by kernel_rfl) (fun _ _ _ h => h) (Or.inl ⟨by rfl, ?_⟩) ?_ ?_
                      rotate_left
                      · intro w'
                        go_simp
                        with_reducible rfl
                      rotate_left
                      · simp only [Act.put, List.setIfInBounds_toArray, List.set_cons_zero, List.set_cons_succ, i64_w, i32_w]
                        rfl
                      refine pure_ (i := 12) (N := some 44) (v := ?_) (a' := ?_) #[true, true, true, true, true, true, true, true, true, true, true, true, true, false, false, false, false, false, false, false, false, false, false, false, false] rfl rfl (by kernel_rfl) (fun _ _ _ h => h) (Or.inl ⟨by rfl, ?_⟩) ?_ ?_
                      rotate_left
                      · intro w'
                        go_simp
                        with_reducible rfl
                      rotate_left
                      · simp only [Act.put, List.setIfInBounds_toArray, List.set_cons_zero, List.set_cons_succ, i64_w, i32_w]
                        rfl
                      refine pure_ (i := 14) (N := some 46) (v := ?_) (a' := ?_) #[true, true, true, true, true, true, true, true, true, true, true, true, true, false, true, false, false, false, false, false, false, false, false, false, false] rfl rfl (by kernel_rfl) (fun _ _ _ h => h) (Or.inl ⟨by rfl, ?_⟩) ?_ ?_
                      rotate_left
                      · intro w'
                        go_simp
                        with_reducible rfl
                      rotate_left
                      · simp only [Act.put, List.setIfInBounds_toArray, List.set_cons_zero, List.set_cons_succ, i64_w, i32_w]
                        rfl
                      refine take_ (i := 13) (N := some 45) (v := ?_) (a' := ?_) #[true, true, true, true, true, true, true, true, true, true, true, true, true, true, true, false, false, false, false, false, false, false, false, false, false] rfl rfl (by kernel_rfl) (fun _ _ _ h => h) (Or.inl ⟨by rfl, ?_⟩) hHeld ?_ ?_
                      rotate_left
                      · rintro w' ⟨s0, s1, s2, s3, s4, s5, s6⟩
                        go_simp
                        with_reducible rfl
                      rotate_left
                      · simp only [Act.put, List.setIfInBounds_toArray, List.set_cons_zero, List.set_cons_succ, i64_w, i32_w]
                        rfl
                      refine take_ (i := 15) (N := some 47) (v := ?_) (a' := ?_) #[true, true, true, true, true, true, true, true, true, true, true, true, true, true, true, true, false, false, false, false, false, false, false, false, false] rfl rfl (by kernel_rfl) (fun _ _ _ h => h) (Or.inl ⟨by rfl, ?_⟩) hHeld ?_ ?_
                      rotate_left
                      · rintro w' ⟨s0, s1, s2, s3, s4, s5, s6⟩
                        go_simp
                        with_reducible rfl
                      rotate_left
                      · simp only [Act.put, List.setIfInBounds_toArray, List.set_cons_zero, List.set_cons_succ, i64_w, i32_w]
                        rfl
                      refine pure_ (i := 16) (N := some 48) (v := ?_) (a' := ?_) #[true, true, true, true, true, true, true, true, true, true, true, true, true, true, true, true, true, false, false, false, false, false, false, false, false] rfl rfl (by kernel_rfl) (fun _ _ _ h => h) (Or.inl ⟨by rfl, ?_⟩) ?_ ?_
                      rotate_left
                      · intro w'
                        go_simp
                        with_reducible rfl
                      rotate_left
                      · simp only [Act.put, List.setIfInBounds_toArray, List.set_cons_zero, List.set_cons_succ, i64_w, i32_w]
                        rfl
                      refine pure_ (i := 17) (N := some 49) (v := ?_) (a' := ?_) #[true, true, true, true, true, true, true, true, true, true, true, true, true, true, true, true, true, true, false, false, false, false, false, false, false] rfl rfl (by kernel_rfl) (fun _ _ _ h => h) (Or.inl ⟨by rfl, ?_⟩) ?_ ?_
                      rotate_left
                      · intro w'
                        go_simp
                        with_reducible rfl
                      rotate_left
                      · simp only [Act.put, List.setIfInBounds_toArray, List.set_cons_zero, List.set_cons_succ, i64_w, i32_w]
                        rfl
                      refine pure_ (i := 18) (N := some 50) (v := ?_) (a' := ?_) #[true, true, true, true, true, true, true, true, true, true, true, true, true, true, true, true, true, true, true, false, false, false, false, false, false] rfl rfl (by kernel_rfl) (fun _ _ _ h => h) (Or.inl ⟨by rfl, ?_⟩) ?_ ?_
                      rotate_left
                      · intro w'
                        go_simp
                        with_reducible rfl
                      rotate_left
                      · simp only [Act.put, List.setIfInBounds_toArray, List.set_cons_zero, List.set_cons_succ, i64_w, i32_w]
                        rfl
                      refine pure_ (i := 19) (N := some 51) (v := ?_) (a' := ?_) #[true, true, true, true, true, true, true, true, true, true, true, true, true, true, true, true, true, true, true, true, false, false, false, false, false] rfl rfl (by kernel_rfl) (fun _ _ _ h => h) (Or.inl ⟨by rfl, ?_⟩) ?_ ?_
                      rotate_left
                      · intro w'
                        go_simp
                        with_reducible rfl
                      rotate_left
                      · simp only [Act.put, List.setIfInBounds_toArray, List.set_cons_zero, List.set_cons_succ, i64_w, i32_w]
                        rfl
                      refine pure_ (i := 20) (N := some 52) (v := undef) (a' := ?_) #[true, true, true, true, true, true, true, true, true, true, true, true, true, true, true, true, true, true, true, true, true, false, false, false, false] rfl rfl (by kernel_rfl) (fun _ _ _ h => h) (Or.inr ⟨by rfl, rfl⟩) ?_ ?_
                      rotate_left
                      · simp only [Act.put, List.setIfInBounds_toArray, List.set_cons_zero, List.set_cons_succ, i64_w, i32_w]
                        rfl
                      refine pure_ (i := 21) (N := some 53) (v := undef) (a' := ?_) #[true, true, true, true, true, true, true, true, true, true, true, true, true, true, true, true, true, true, true, true, true, true, false, false, false] rfl rfl (by kernel_rfl) (fun _ _ _ h => h) (Or.inr ⟨by rfl, rfl⟩) ?_ ?_
                      rotate_left
                      · simp only [Act.put, List.setIfInBounds_toArray, List.set_cons_zero, List.set_cons_succ, i64_w, i32_w]
                        rfl
                      refine pure_ (i := 22) (N := some 54) (v := undef) (a' := ?_) #[true, true, true, true, true, true, true, true, true, true, true, true, true, true, true, true, true, true, true, true, true, true, true, false, false] rfl rfl (by kernel_rfl) (fun _ _ _ h => h) (Or.inr ⟨by rfl, rfl⟩) ?_ ?_
                      rotate_left
                      · simp only [Act.put, List.setIfInBounds_toArray, List.set_cons_zero, List.set_cons_succ, i64_w, i32_w]
                        rfl
                      refine pure_ (i := 23) (N := some 55) (v := undef) (a' := ?_) #[true, true, true, true, true, true, true, true, true, true, true, true, true, true, true, true, true, true, true, true, true, true, true, true, false] rfl rfl (by kernel_rfl) (fun _ _ _ h => h) (Or.inr ⟨by rfl, rfl⟩) ?_ ?_
                      rotate_left
                      · simp only [Act.put, List.setIfInBounds_toArray, List.set_cons_zero, List.set_cons_succ, i64_w, i32_w]
                        rfl
                      refine pure_ (i := 24) (N := some 56) (v := ?_) (a' := ?_) #[true, true, true, true, true, true, true, true, true, true, true, true, true, true, true, true, true, true, true, true, true, true, true, true, true] rfl rfl (by kernel_rfl) (fun _ _ _ h => h) (Or.inl ⟨by rfl, ?_⟩) ?_ ?_
                      rotate_left
                      · intro w'
                        go_simp
                        with_reducible rfl
                      rotate_left
                      · simp only [Act.put, List.setIfInBounds_toArray, List.set_cons_zero, List.set_cons_succ, i64_w, i32_w]
                        rfl
                      refine done_ (by kernel_rfl) ?_
                      go_wp2
                      go_meet
                      case rel => exact ⟨by rw [hXt], ⟨below_then (below_drew HS2.out) (by have := HS2.out.size; exact this) HD6.out⟩⟩
                    | false =>
                      have hXt : X = mo := by rw [hXd]; rfl
                      clear hXd
                      refine start_ (n := 25) (S := fun w' => w'.cell? (ad2.add (j * 4)) = some (.string y.f0.f0) ∧ w'.cell? ⟨(ad2.add (j * 4)).block, (ad2.add (j * 4)).off + 1, none⟩ = some (.int .u64 y.f0.f1) ∧ w'.cell? ⟨(ad2.add (j * 4)).block, (ad2.add (j * 4)).off + 2, none⟩ = some (.int .u8 y.f0.f2) ∧ w'.cell? ⟨g, 0, none⟩ = some (.string e.f0.f0) ∧ w'.cell? ⟨g, 1, none⟩ = some (.int .u64 e.f0.f1) ∧ w'.cell? ⟨g, 2, none⟩ = some (.int .u8 e.f0.f2) ∧ w'.cell? ⟨g, 3, none⟩ = some (.string e.f1)) (ds := []) #[false, false, false, false, false, false, false, false, false, false, false, false, false, false, false, false, false, false, false, false, false, false, false, false, false] (by kernel_rfl) rfl rfl ⟨h0, h1, h2, he0, he1, he2, he3⟩ (fun hHeld => ?_)
                      refine take_ (i := 0) (N := some 32) (v := ?_) (a' := ?_) #[true, false, false, false, false, false, false, false, false, false, false, false, false, false, false, false, false, false, false, false, false, false, false, false, false] rfl rfl (by kernel_rfl) (fun _ _ _ h => h) (Or.inl ⟨by rfl, ?_⟩) hHeld ?_ ?_
                      rotate_left
                      · rintro w' ⟨s0, s1, s2, s3, s4, s5, s6⟩
                        go_simp
                        with_reducible rfl
                      rotate_left
                      · simp only [Act.put, List.setIfInBounds_toArray, List.set_cons_zero, List.set_cons_succ, i64_w, i32_w]
                        rfl
                      refine one_ (i := 1) (N := some 33) #[true, true, false, false, false, false, false, false, false, false, false, false, false, false, false, false, false, false, false, false, false, false, false, false, false] rfl rfl (by kernel_rfl) (by decide) (fun K hK => ?_)
                      refine goes_ Try.func64 (by kernel_rfl) rfl #[.agg #[.string e.f0.f0, .int .u64 e.f0.f1, .int .u8 e.f0.f2, .string e.f1]] (by rfl) rfl rfl (by (try simp only [List.map_toArray, List.map_cons, List.map_nil]); first | done | rfl) ?_
                      with_reducible refine (ikey_Entry.calls _ _ _ _ _ _ HE2.out).mono ?_
                      rintro x w6 ⟨rfl, hb⟩
                      refine ⟨_, rfl, ?_⟩
                      have HD6 := Aside0.mk hb
                      refine hK.out _ _ ⟨(hb.cell (World.block_lt_of_cell? _ _ hHeld.1)).trans hHeld.1, (hb.cell (World.block_lt_of_cell? _ _ hHeld.2.1)).trans hHeld.2.1, (hb.cell (World.block_lt_of_cell? _ _ hHeld.2.2.1)).trans hHeld.2.2.1, (hb.cell (World.block_lt_of_cell? _ _ hHeld.2.2.2.1)).trans hHeld.2.2.2.1, (hb.cell (World.block_lt_of_cell? _ _ hHeld.2.2.2.2.1)).trans hHeld.2.2.2.2.1, (hb.cell (World.block_lt_of_cell? _ _ hHeld.2.2.2.2.2.1)).trans hHeld.2.2.2.2.2.1, (hb.cell (World.block_lt_of_cell? _ _ hHeld.2.2.2.2.2.2)).trans hHeld.2.2.2.2.2.2⟩ (fun hHeld => ?_)
                      clear hK K
                      refine norm_ (a' := ?_) ?_ ?_
                      rotate_left
                      · show Act.put _ (some 33) _ = _
                        simp only [Act.put, List.setIfInBounds_toArray, List.set_cons_zero, List.set_cons_succ, i64_w, i32_w]
                        rfl
                      refine pure_ (i := 2) (N := some 34) (v := ?_) (a' := ?_) #[true, true, true, false, false, false, false, false, false, false, false, false, false, false, false, false, false, false, false, false, false, false, false, false, false] rfl rfl (by kernel_rfl) (fun _ _ _ h => h) (Or.inl ⟨by rfl, ?_⟩) ?_ ?_
                      rotate_left
                      · intro w'
                        go_simp
                        with_reducible rfl
                      rotate_left
                      · simp only [Act.put, List.setIfInBounds_toArray, List.set_cons_zero, List.set_cons_succ, i64_w, i32_w]
                        rfl
                      refine pure_ (i := 3) (N := some 35) (v := ?_) (a' := ?_) #[true, true, true, true, false, false, false, false, false, false, false, false, false, false, false, false, false, false, false, false, false, false, false, false, false] rfl rfl (by kernel_rfl) (fun _ _ _ h => h) (Or.inl ⟨by rfl, ?_⟩) ?_ ?_
                      rotate_left
                      · intro w'
                        go_simp
                        with_reducible rfl
                      rotate_left
                      · simp only [Act.put, List.setIfInBounds_toArray, List.set_cons_zero, List.set_cons_succ, i64_w, i32_w]
                        rfl
                      refine pure_ (i := 4) (N := some 36) (v := ?_) (a' := ?_) #[true, true, true, true, true, false, false, false, false, false, false, false, false, false, false, false, false, false, false, false, false, false, false, false, false] rfl rfl (by kernel_rfl) (fun _ _ _ h => h) (Or.inl ⟨by rfl, ?_⟩) ?_ ?_
                      rotate_left
                      · intro w'
                        go_simp
                        with_reducible rfl
                      rotate_left
                      · simp only [Act.put, List.setIfInBounds_toArray, List.set_cons_zero, List.set_cons_succ, i64_w, i32_w]
                        rfl
                      refine pure_ (i := 5) (N := some 37) (v := ?_) (a' := ?_) #[true, true, true, true, true, true, false, false, false, false, false, false, false, false, false, false, false, false, false, false, false, false, false, false, false] rfl rfl (by kernel_rfl) (fun _ _ _ h => h) (Or.inl ⟨by rfl, ?_⟩) ?_ ?_
                      rotate_left
                      · intro w'
                        go_simp
                        with_reducible rfl
                      rotate_left
                      · simp only [Act.put, List.setIfInBounds_toArray, List.set_cons_zero, List.set_cons_succ, i64_w, i32_w]
                        rfl
                      refine pure_ (i := 6) (N := some 38) (v := ?_) (a' := ?_) #[true, true, true, true, true, true, true, false, false, false, false, false, false, false, false, false, false, false, false, false, false, false, false, false, false] rfl rfl (by kernel_rfl) (fun _ _ _ h => h) (Or.inl ⟨by rfl, ?_⟩) ?_ ?_
                      rotate_left
                      · intro w'
                        go_simp
                        with_reducible rfl
                      rotate_left
                      · simp only [Act.put, List.setIfInBounds_toArray, List.set_cons_zero, List.set_cons_succ, i64_w, i32_w]
                        rfl
                      refine pure_ (i := 7) (N := some 39) (v := ?_) (a' := ?_) #[true, true, true, true, true, true, true, true, false, false, false, false, false, false, false, false, false, false, false, false, false, false, false, false, false] rfl rfl (by kernel_rfl) (fun _ _ _ h => h) (Or.inl ⟨by rfl, ?_⟩) ?_ ?_
                      rotate_left
                      · intro w'
                        go_simp
                        with_reducible rfl
                      rotate_left
                      · simp only [Act.put, List.setIfInBounds_toArray, List.set_cons_zero, List.set_cons_succ, i64_w, i32_w]
                        rfl
                      refine pure_ (i := 8) (N := some 40) (v := ?_) (a' := ?_) #[true, true, true, true, true, true, true, true, true, false, false, false, false, false, false, false, false, false, false, false, false, false, false, false, false] rfl rfl (by kernel_rfl) (fun _ _ _ h => h) (Or.inl ⟨by rfl, ?_⟩) ?_ ?_
                      rotate_left
                      · intro w'
                        go_simp
                        with_reducible rfl
                      rotate_left
                      · simp only [Act.put, List.setIfInBounds_toArray, List.set_cons_zero, List.set_cons_succ, i64_w, i32_w]
                        rfl
                      refine pure_ (i := 9) (N := some 41) (v := ?_) (a' := ?_) #[true, true, true, true, true, true, true, true, true, true, false, false, false, false, false, false, false, false, false, false, false, false, false, false, false] rfl rfl (by kernel_rfl) (fun _ _ _ h => h) (Or.inl ⟨by rfl, ?_⟩) ?_ ?_
                      rotate_left
                      · intro w'
                        go_simp
                        with_reducible rfl
                      rotate_left
                      · simp only [Act.put, List.setIfInBounds_toArray, List.set_cons_zero, List.set_cons_succ, i64_w, i32_w]
                        rfl
                      refine pure_ (i := 10) (N := some 42) (v := ?_) (a' := ?_) #[true, true, true, true, true, true, true, true, true, true, true, false, false, false, false, false, false, false, false, false, false, false, false, false, false] rfl rfl (by kernel_rfl) (fun _ _ _ h => h) (Or.inl ⟨by rfl, ?_⟩) ?_ ?_
                      rotate_left
                      · intro w'
                        go_simp
                        with_reducible rfl
                      rotate_left
                      · simp only [Act.put, List.setIfInBounds_toArray, List.set_cons_zero, List.set_cons_succ, i64_w, i32_w]
                        rfl
                      refine pure_ (i := 11) (N := some 43) (v := ?_) (a' := ?_) #[true, true, true, true, true, true, true, true, true, true, true, true, false, false, false, false, false, false, false, false, false, false, false, false, false] rfl rfl (by kernel_rfl) (fun _ _ _ h => h) (Or.inl ⟨by rfl, ?_⟩) ?_ ?_
                      rotate_left
                      · intro w'
                        go_simp
                        with_reducible rfl
                      rotate_left
                      · simp only [Act.put, List.setIfInBounds_toArray, List.set_cons_zero, List.set_cons_succ, i64_w, i32_w]
                        rfl
                      refine pure_ (i := 12) (N := some 44) (v := ?_) (a' := ?_) #[true, true, true, true, true, true, true, true, true, true, true, true, true, false, false, false, false, false, false, false, false, false, false, false, false] rfl rfl (by kernel_rfl) (fun _ _ _ h => h) (Or.inl ⟨by rfl, ?_⟩) ?_ ?_
                      rotate_left
                      · intro w'
                        go_simp
                        with_reducible rfl
                      rotate_left
                      · simp only [Act.put, List.setIfInBounds_toArray, List.set_cons_zero, List.set_cons_succ, i64_w, i32_w]
                        rfl
                      refine pure_ (i := 14) (N := some 46) (v := ?_) (a' := ?_) #[true, true, true, true, true, true, true, true, true, true, true, true, true, false, true, false, false, false, false, false, false, false, false, false, false] rfl rfl (by kernel_rfl) (fun _ _ _ h => h) (Or.inl ⟨by rfl, ?_⟩) ?_ ?_
                      rotate_left
                      · intro w'
                        go_simp
                        with_reducible rfl
                      rotate_left
                      · simp only [Act.put, List.setIfInBounds_toArray, List.set_cons_zero, List.set_cons_succ, i64_w, i32_w]
                        rfl
                      refine take_ (i := 13) (N := some 45) (v := ?_) (a' := ?_) #[true, true, true, true, true, true, true, true, true, true, true, true, true, true, true, false, false, false, false, false, false, false, false, false, false] rfl rfl (by kernel_rfl) (fun _ _ _ h => h) (Or.inl ⟨by rfl, ?_⟩) hHeld ?_ ?_
                      rotate_left
                      · rintro w' ⟨s0, s1, s2, s3, s4, s5, s6⟩
                        go_simp
                        with_reducible rfl
                      rotate_left
                      · simp only [Act.put, List.setIfInBounds_toArray, List.set_cons_zero, List.set_cons_succ, i64_w, i32_w]
                        rfl
                      refine take_ (i := 15) (N := some 47) (v := ?_) (a' := ?_) #[true, true, true, true, true, true, true, true, true, true, true, true, true, true, true, true, false, false, false, false, false, false, false, false, false] rfl rfl (by kernel_rfl) (fun _ _ _ h => h) (Or.inl ⟨by rfl, ?_⟩) hHeld ?_ ?_
                      rotate_left
                      · rintro w' ⟨s0, s1, s2, s3, s4, s5, s6⟩
                        go_simp
                        with_reducible rfl
                      rotate_left
                      · simp only [Act.put, List.setIfInBounds_toArray, List.set_cons_zero, List.set_cons_succ, i64_w, i32_w]
                        rfl
                      refine pure_ (i := 16) (N := some 48) (v := ?_) (a' := ?_) #[true, true, true, true, true, true, true, true, true, true, true, true, true, true, true, true, true, false, false, false, false, false, false, false, false] rfl rfl (by kernel_rfl) (fun _ _ _ h => h) (Or.inl ⟨by rfl, ?_⟩) ?_ ?_
                      rotate_left
                      · intro w'
                        go_simp
                        with_reducible rfl
                      rotate_left
                      · simp only [Act.put, List.setIfInBounds_toArray, List.set_cons_zero, List.set_cons_succ, i64_w, i32_w]
                        rfl
                      refine pure_ (i := 17) (N := some 49) (v := ?_) (a' := ?_) #[true, true, true, true, true, true, true, true, true, true, true, true, true, true, true, true, true, true, false, false, false, false, false, false, false] rfl rfl (by kernel_rfl) (fun _ _ _ h => h) (Or.inl ⟨by rfl, ?_⟩) ?_ ?_
                      rotate_left
                      · intro w'
                        go_simp
                        with_reducible rfl
                      rotate_left
                      · simp only [Act.put, List.setIfInBounds_toArray, List.set_cons_zero, List.set_cons_succ, i64_w, i32_w]
                        rfl
                      refine pure_ (i := 18) (N := some 50) (v := ?_) (a' := ?_) #[true, true, true, true, true, true, true, true, true, true, true, true, true, true, true, true, true, true, true, false, false, false, false, false, false] rfl rfl (by kernel_rfl) (fun _ _ _ h => h) (Or.inl ⟨by rfl, ?_⟩) ?_ ?_
                      rotate_left
                      · intro w'
                        go_simp
                        with_reducible rfl
                      rotate_left
                      · simp only [Act.put, List.setIfInBounds_toArray, List.set_cons_zero, List.set_cons_succ, i64_w, i32_w]
                        rfl
                      refine pure_ (i := 19) (N := some 51) (v := ?_) (a' := ?_) #[true, true, true, true, true, true, true, true, true, true, true, true, true, true, true, true, true, true, true, true, false, false, false, false, false] rfl rfl (by kernel_rfl) (fun _ _ _ h => h) (Or.inl ⟨by rfl, ?_⟩) ?_ ?_
                      rotate_left
                      · intro w'
                        go_simp
                        with_reducible rfl
                      rotate_left
                      · simp only [Act.put, List.setIfInBounds_toArray, List.set_cons_zero, List.set_cons_succ, i64_w, i32_w]
                        rfl
                      refine pure_ (i := 20) (N := some 52) (v := ?_) (a' := ?_) #[true, true, true, true, true, true, true, true, true, true, true, true, true, true, true, true, true, true, true, true, true, false, false, false, false] rfl rfl (by kernel_rfl) (fun _ _ _ h => h) (Or.inl ⟨by rfl, ?_⟩) ?_ ?_
                      rotate_left
                      · intro w'
                        go_simp
                        with_reducible rfl
                      rotate_left
                      · simp only [Act.put, List.setIfInBounds_toArray, List.set_cons_zero, List.set_cons_succ, i64_w, i32_w]
                        rfl
                      refine pure_ (i := 21) (N := some 53) (v := ?_) (a' := ?_) #[true, true, true, true, true, true, true, true, true, true, true, true, true, true, true, true, true, true, true, true, true, true, false, false, false] rfl rfl (by kernel_rfl) (fun _ _ _ h => h) (Or.inl ⟨by rfl, ?_⟩) ?_ ?_
                      rotate_left
                      · intro w'
                        go_simp
                        with_reducible rfl
                      rotate_left
                      · simp only [Act.put, List.setIfInBounds_toArray, List.set_cons_zero, List.set_cons_succ, i64_w, i32_w]
                        rfl
                      refine pure_ (i := 22) (N := some 54) (v := ?_) (a' := ?_) #[true, true, true, true, true, true, true, true, true, true, true, true, true, true, true, true, true, true, true, true, true, true, true, false, false] rfl rfl (by kernel_rfl) (fun _ _ _ h => h) (Or.inl ⟨by rfl, ?_⟩) ?_ ?_
                      rotate_left
                      · intro w'
                        go_simp
                        with_reducible rfl
                      rotate_left
                      · simp only [Act.put, List.setIfInBounds_toArray, List.set_cons_zero, List.set_cons_succ, i64_w, i32_w]
                        rfl
                      refine pure_ (i := 23) (N := some 55) (v := ?_) (a' := ?_) #[true, true, true, true, true, true, true, true, true, true, true, true, true, true, true, true, true, true, true, true, true, true, true, true, false] rfl rfl (by kernel_rfl) (fun _ _ _ h => h) (Or.inl ⟨by rfl, ?_⟩) ?_ ?_
                      rotate_left
                      · intro w'
                        go_simp
                        with_reducible rfl
                      rotate_left
                      · simp only [Act.put, List.setIfInBounds_toArray, List.set_cons_zero, List.set_cons_succ, i64_w, i32_w]
                        rfl
                      refine pure_ (i := 24) (N := some 56) (v := ?_) (a' := ?_) #[true, true, true, true, true, true, true, true, true, true, true, true, true, true, true, true, true, true, true, true, true, true, true, true, true] rfl rfl (by kernel_rfl) (fun _ _ _ h => h) (Or.inl ⟨by rfl, ?_⟩) ?_ ?_
                      rotate_left
                      · intro w'
                        go_simp
                        with_reducible rfl
                      rotate_left
                      · simp only [Act.put, List.setIfInBounds_toArray, List.set_cons_zero, List.set_cons_succ, i64_w, i32_w]
                        rfl
                      refine done_ (by kernel_rfl) ?_
                      go_wp2
                      go_meet
                      case rel => exact ⟨by first | rfl | rw [hXt], ⟨below_then (below_drew HS2.out) (by have := HS2.out.size; exact this) HD6.out⟩⟩
                  · have hj1 : decide ((j : Int) < (o.length : Int)) = false := decide_eq_false (by omega)
                    have hj2 : decide (j < o.length) = false := decide_eq_false hjo
                    rw [hj2] at hXd
                    have hXt : X = mo := by rw [hXd]; rfl
                    clear hXd hen
                    refine start_ (n := 25) (S := fun w' => w'.cell? ⟨g, 0, none⟩ = some (.string e.f0.f0) ∧ w'.cell? ⟨g, 1, none⟩ = some (.int .u64 e.f0.f1) ∧ w'.cell? ⟨g, 2, none⟩ = some (.int .u8 e.f0.f2) ∧ w'.cell? ⟨g, 3, none⟩ = some (.string e.f1)) (ds := []) #[false, false, false, false, false, false, false, false, false, false, false, false, false, false, false, false, false, false, false, false, false, false, false, false, false] (by kernel_rfl) rfl rfl ⟨he0, he1, he2, he3⟩ (fun hHeld => ?_)
                    refine take_ (i := 0) (N := some 32) (v := ?_) (a' := ?_) #[true, false, false, false, false, false, false, false, false, false, false, false, false, false, false, false, false, false, false, false, false, false, false, false, false] rfl rfl (by kernel_rfl) (fun _ _ _ h => h) (Or.inl ⟨by rfl, ?_⟩) hHeld ?_ ?_
                    rotate_left
                    · rintro w' ⟨s0, s1, s2, s3⟩
                      go_simp
                      with_reducible rfl
                    rotate_left
                    · simp only [Act.put, List.setIfInBounds_toArray, List.set_cons_zero, List.set_cons_succ, i64_w, i32_w]
                      rfl
                    refine one_ (i := 1) (N := some 33) #[true, true, false, false, false, false, false, false, false, false, false, false, false, false, false, false, false, false, false, false, false, false, false, false, false] rfl rfl (by kernel_rfl) (by decide) (fun K hK => ?_)
                    refine goes_ Try.func64 (by kernel_rfl) rfl #[.agg #[.string e.f0.f0, .int .u64 e.f0.f1, .int .u8 e.f0.f2, .string e.f1]] (by rfl) rfl rfl (by (try simp only [List.map_toArray, List.map_cons, List.map_nil]); first | done | rfl) ?_
                    with_reducible refine (ikey_Entry.calls _ _ _ _ _ _ HE2.out).mono ?_
                    rintro x w6 ⟨rfl, hb⟩
                    refine ⟨_, rfl, ?_⟩
                    have HD6 := Aside0.mk hb
                    refine hK.out _ _ ⟨(hb.cell (World.block_lt_of_cell? _ _ hHeld.1)).trans hHeld.1, (hb.cell (World.block_lt_of_cell? _ _ hHeld.2.1)).trans hHeld.2.1, (hb.cell (World.block_lt_of_cell? _ _ hHeld.2.2.1)).trans hHeld.2.2.1, (hb.cell (World.block_lt_of_cell? _ _ hHeld.2.2.2)).trans hHeld.2.2.2⟩ (fun hHeld => ?_)
                    clear hK K
                    refine norm_ (a' := ?_) ?_ ?_
                    rotate_left
                    · show Act.put _ (some 33) _ = _
                      simp only [Act.put, List.setIfInBounds_toArray, List.set_cons_zero, List.set_cons_succ, i64_w, i32_w]
                      rfl
                    refine pure_ (i := 2) (N := some 34) (v := ?_) (a' := ?_) #[true, true, true, false, false, false, false, false, false, false, false, false, false, false, false, false, false, false, false, false, false, false, false, false, false] rfl rfl (by kernel_rfl) (fun _ _ _ h => h) (Or.inl ⟨by rfl, ?_⟩) ?_ ?_
                    rotate_left
                    · intro w'
                      go_simp
                      with_reducible rfl
                    rotate_left
                    · simp only [Act.put, List.setIfInBounds_toArray, List.set_cons_zero, List.set_cons_succ, i64_w, i32_w]
                      rfl
                    refine pure_ (i := 3) (N := some 35) (v := ?_) (a' := ?_) #[true, true, true, true, false, false, false, false, false, false, false, false, false, false, false, false, false, false, false, false, false, false, false, false, false] rfl rfl (by kernel_rfl) (fun _ _ _ h => h) (Or.inl ⟨by rfl, ?_⟩) ?_ ?_
                    rotate_left
                    · intro w'
                      go_simp
                      with_reducible rfl
                    rotate_left
                    · simp only [Act.put, List.setIfInBounds_toArray, List.set_cons_zero, List.set_cons_succ, i64_w, i32_w]
                      rfl
                    refine pure_ (i := 4) (N := some 36) (v := ?_) (a' := ?_) #[true, true, true, true, true, false, false, false, false, false, false, false, false, false, false, false, false, false, false, false, false, false, false, false, false] rfl rfl (by kernel_rfl) (fun _ _ _ h => h) (Or.inl ⟨by rfl, ?_⟩) ?_ ?_
                    rotate_left
                    · intro w'
                      go_simp
                      with_reducible rfl
                    rotate_left
                    · simp only [Act.put, List.setIfInBounds_toArray, List.set_cons_zero, List.set_cons_succ, i64_w, i32_w]
                      rfl
                    refine pure_ (i := 5) (N := some 37) (v := ?_) (a' := ?_) #[true, true, true, true, true, true, false, false, false, false, false, false, false, false, false, false, false, false, false, false, false, false, false, false, false] rfl rfl (by kernel_rfl) (fun _ _ _ h => h) (Or.inl ⟨by rfl, ?_⟩) ?_ ?_
                    rotate_left
                    · intro w'
                      go_simp
                      with_reducible rfl
                    rotate_left
                    · simp only [Act.put, List.setIfInBounds_toArray, List.set_cons_zero, List.set_cons_succ, i64_w, i32_w]
                      rfl
                    refine pure_ (i := 6) (N := some 38) (v := ?_) (a' := ?_) #[true, true, true, true, true, true, true, false, false, false, false, false, false, false, false, false, false, false, false, false, false, false, false, false, false] rfl rfl (by kernel_rfl) (fun _ _ _ h => h) (Or.inl ⟨by rfl, ?_⟩) ?_ ?_
                    rotate_left
                    · intro w'
                      go_simp
                      with_reducible rfl
                    rotate_left
                    · simp only [Act.put, List.setIfInBounds_toArray, List.set_cons_zero, List.set_cons_succ, i64_w, i32_w]
                      rfl
                    refine pure_ (i := 7) (N := some 39) (v := ?_) (a' := ?_) #[true, true, true, true, true, true, true, true, false, false, false, false, false, false, false, false, false, false, false, false, false, false, false, false, false] rfl rfl (by kernel_rfl) (fun _ _ _ h => h) (Or.inl ⟨by rfl, ?_⟩) ?_ ?_
                    rotate_left
                    · intro w'
                      go_simp
                      with_reducible rfl
                    rotate_left
                    · simp only [Act.put, List.setIfInBounds_toArray, List.set_cons_zero, List.set_cons_succ, i64_w, i32_w]
                      rfl
                    refine pure_ (i := 8) (N := some 40) (v := ?_) (a' := ?_) #[true, true, true, true, true, true, true, true, true, false, false, false, false, false, false, false, false, false, false, false, false, false, false, false, false] rfl rfl (by kernel_rfl) (fun _ _ _ h => h) (Or.inl ⟨by rfl, ?_⟩) ?_ ?_
                    rotate_left
                    · intro w'
                      go_simp
                      with_reducible rfl
                    rotate_left
                    · simp only [Act.put, List.setIfInBounds_toArray, List.set_cons_zero, List.set_cons_succ, i64_w, i32_w]
                      rfl
                    refine pure_ (i := 9) (N := some 41) (v := undef) (a' := ?_) #[true, true, true, true, true, true, true, true, true, true, false, false, false, false, false, false, false, false, false, false, false, false, false, false, false] rfl rfl (by kernel_rfl) (fun _ _ _ h => h) (Or.inr ⟨by rfl, rfl⟩) ?_ ?_
                    rotate_left
                    · simp only [Act.put, List.setIfInBounds_toArray, List.set_cons_zero, List.set_cons_succ, i64_w, i32_w]
                      rfl
                    refine pure_ (i := 10) (N := some 42) (v := undef) (a' := ?_) #[true, true, true, true, true, true, true, true, true, true, true, false, false, false, false, false, false, false, false, false, false, false, false, false, false] rfl rfl (by kernel_rfl) (fun _ _ _ h => h) (Or.inr ⟨by rfl, rfl⟩) ?_ ?_
                    rotate_left
                    · simp only [Act.put, List.setIfInBounds_toArray, List.set_cons_zero, List.set_cons_succ, i64_w, i32_w]
                      rfl
                    refine pure_ (i := 11) (N := some 43) (v := undef) (a' := ?_) #[true, true, true, true, true, true, true, true, true, true, true, true, false, false, false, false, false, false, false, false, false, false, false, false, false] rfl rfl (by kernel_rfl) (fun _ _ _ h => h) (Or.inr ⟨by rfl, rfl⟩) ?_ ?_
                    rotate_left
                    · simp only [Act.put, List.setIfInBounds_toArray, List.set_cons_zero, List.set_cons_succ, i64_w, i32_w]
                      rfl
                    refine pure_ (i := 12) (N := some 44) (v := undef) (a' := ?_) #[true, true, true, true, true, true, true, true, true, true, true, true, true, false, false, false, false, false, false, false, false, false, false, false, false] rfl rfl (by kernel_rfl) (fun _ _ _ h => h) (Or.inr ⟨by rfl, rfl⟩) ?_ ?_
                    rotate_left
                    · simp only [Act.put, List.setIfInBounds_toArray, List.set_cons_zero, List.set_cons_succ, i64_w, i32_w]
                      rfl
                    refine pure_ (i := 13) (N := some 45) (v := undef) (a' := ?_) #[true, true, true, true, true, true, true, true, true, true, true, true, true, true, false, false, false, false, false, false, false, false, false, false, false] rfl rfl (by kernel_rfl) (fun _ _ _ h => h) (Or.inr ⟨by rfl, rfl⟩) ?_ ?_
                    rotate_left
                    · simp only [Act.put, List.setIfInBounds_toArray, List.set_cons_zero, List.set_cons_succ, i64_w, i32_w]
                      rfl
                    refine pure_ (i := 14) (N := some 46) (v := undef) (a' := ?_) #[true, true, true, true, true, true, true, true, true, true, true, true, true, true, true, false, false, false, false, false, false, false, false, false, false] rfl rfl (by kernel_rfl) (fun _ _ _ h => h) (Or.inr ⟨by rfl, rfl⟩) ?_ ?_
                    rotate_left
                    · simp only [Act.put, List.setIfInBounds_toArray, List.set_cons_zero, List.set_cons_succ, i64_w, i32_w]
                      rfl
                    refine pure_ (i := 15) (N := some 47) (v := undef) (a' := ?_) #[true, true, true, true, true, true, true, true, true, true, true, true, true, true, true, true, false, false, false, false, false, false, false, false, false] rfl rfl (by kernel_rfl) (fun _ _ _ h => h) (Or.inr ⟨by rfl, rfl⟩) ?_ ?_
                    rotate_left
                    · simp only [Act.put, List.setIfInBounds_toArray, List.set_cons_zero, List.set_cons_succ, i64_w, i32_w]
                      rfl
                    refine pure_ (i := 16) (N := some 48) (v := undef) (a' := ?_) #[true, true, true, true, true, true, true, true, true, true, true, true, true, true, true, true, true, false, false, false, false, false, false, false, false] rfl rfl (by kernel_rfl) (fun _ _ _ h => h) (Or.inr ⟨by rfl, rfl⟩) ?_ ?_
                    rotate_left
                    · simp only [Act.put, List.setIfInBounds_toArray, List.set_cons_zero, List.set_cons_succ, i64_w, i32_w]
                      rfl
                    refine pure_ (i := 17) (N := some 49) (v := ?_) (a' := ?_) #[true, true, true, true, true, true, true, true, true, true, true, true, true, true, true, true, true, true, false, false, false, false, false, false, false] rfl rfl (by kernel_rfl) (fun _ _ _ h => h) (Or.inl ⟨by rfl, ?_⟩) ?_ ?_
                    rotate_left
                    · intro w'
                      go_simp
                      with_reducible rfl
                    rotate_left
                    · simp only [Act.put, List.setIfInBounds_toArray, List.set_cons_zero, List.set_cons_succ, i64_w, i32_w]
                      rfl
                    refine pure_ (i := 18) (N := some 50) (v := ?_) (a' := ?_) #[true, true, true, true, true, true, true, true, true, true, true, true, true, true, true, true, true, true, true, false, false, false, false, false, false] rfl rfl (by kernel_rfl) (fun _ _ _ h => h) (Or.inl ⟨by rfl, ?_⟩) ?_ ?_
                    rotate_left
                    · intro w'
                      go_simp
                      with_reducible rfl
                    rotate_left
                    · simp only [Act.put, List.setIfInBounds_toArray, List.set_cons_zero, List.set_cons_succ, i64_w, i32_w]
                      rfl
                    refine pure_ (i := 19) (N := some 51) (v := ?_) (a' := ?_) #[true, true, true, true, true, true, true, true, true, true, true, true, true, true, true, true, true, true, true, true, false, false, false, false, false] rfl rfl (by kernel_rfl) (fun _ _ _ h => h) (Or.inl ⟨by rfl, ?_⟩) ?_ ?_
                    rotate_left
                    · intro w'
                      go_simp
                      with_reducible rfl
                    rotate_left
                    · simp only [Act.put, List.setIfInBounds_toArray, List.set_cons_zero, List.set_cons_succ, i64_w, i32_w]
                      rfl
                    refine pure_ (i := 20) (N := some 52) (v := ?_) (a' := ?_) #[true, true, true, true, true, true, true, true, true, true, true, true, true, true, true, true, true, true, true, true, true, false, false, false, false] rfl rfl (by kernel_rfl) (fun _ _ _ h => h) (Or.inl ⟨by rfl, ?_⟩) ?_ ?_
                    rotate_left
                    · intro w'
                      go_simp
                      with_reducible rfl
                    rotate_left
                    · simp only [Act.put, List.setIfInBounds_toArray, List.set_cons_zero, List.set_cons_succ, i64_w, i32_w]
                      rfl
                    refine pure_ (i := 21) (N := some 53) (v := ?_) (a' := ?_) #[true, true, true, true, true, true, true, true, true, true, true, true, true, true, true, true, true, true, true, true, true, true, false, false, false] rfl rfl (by kernel_rfl) (fun _ _ _ h => h) (Or.inl ⟨by rfl, ?_⟩) ?_ ?_
                    rotate_left
                    · intro w'
                      go_simp
                      with_reducible rfl
                    rotate_left
                    · simp only [Act.put, List.setIfInBounds_toArray, List.set_cons_zero, List.set_cons_succ, i64_w, i32_w]
                      rfl
                    refine pure_ (i := 22) (N := some 54) (v := ?_) (a' := ?_) #[true, true, true, true, true, true, true, true, true, true, true, true, true, true, true, true, true, true, true, true, true, true, true, false, false] rfl rfl (by kernel_rfl) (fun _ _ _ h => h) (Or.inl ⟨by rfl, ?_⟩) ?_ ?_
                    rotate_left
                    · intro w'
                      go_simp
                      with_reducible rfl
                    rotate_left
                    · simp only [Act.put, List.setIfInBounds_toArray, List.set_cons_zero, List.set_cons_succ, i64_w, i32_w]
                      rfl
                    refine pure_ (i := 23) (N := some 55) (v := ?_) (a' := ?_) #[true, true, true, true, true, true, true, true, true, true, true, true, true, true, true, true, true, true, true, true, true, true, true, true, false] rfl rfl (by kernel_rfl) (fun _ _ _ h => h) (Or.inl ⟨by rfl, ?_⟩) ?_ ?_
                    rotate_left
                    · intro w'
                      go_simp
                      with_reducible rfl
                    rotate_left
                    · simp only [Act.put, List.setIfInBounds_toArray, List.set_cons_zero, List.set_cons_succ, i64_w, i32_w]
                      rfl
                    refine pure_ (i := 24) (N := some 56) (v := ?_) (a' := ?_) #[true, true, true, true, true, true, true, true, true, true, true, true, true, true, true, true, true, true, true, true, true, true, true, true, true] rfl rfl (by kernel_rfl) (fun _ _ _ h => h) (Or.inl ⟨by rfl, ?_⟩) ?_ ?_
                    rotate_left
                    · intro w'
                      go_simp
                      with_reducible rfl
                    rotate_left
                    · simp only [Act.put, List.setIfInBounds_toArray, List.set_cons_zero, List.set_cons_succ, i64_w, i32_w]
                      rfl
                    refine done_ (by kernel_rfl) ?_
                    go_wp2
                    go_meet
                    case rel => exact ⟨by first | rfl | rw [hXt], ⟨below_then (below_drew HS2.out) (by have := HS2.out.size; exact this) HD6.out⟩⟩
                · have hen : ikey_Entry.f e.f0.f0 e.f0.f1 e.f0.f2 e.f1 = some false := by
                    rw [HEN.out]
                    congr 1
                    rw [Bool.and_eq_false_iff]
                    by_cases hr : RightI e.f0
                    · exact .inr (decide_eq_false (fun q => hok ⟨hr, q⟩))
                    · exact .inl (decide_eq_false hr)
                  have HE2 := Aside0.mk hen
                  have hXt : X = true := by rw [hXd, decide_eq_false hok]; rfl
                  clear hen hXd
                  refine start_ (n := 25) (S := fun w' => w'.cell? ⟨g, 0, none⟩ = some (.string e.f0.f0) ∧ w'.cell? ⟨g, 1, none⟩ = some (.int .u64 e.f0.f1) ∧ w'.cell? ⟨g, 2, none⟩ = some (.int .u8 e.f0.f2) ∧ w'.cell? ⟨g, 3, none⟩ = some (.string e.f1)) (ds := []) #[false, false, false, false, false, false, false, false, false, false, false, false, false, false, false, false, false, false, false, false, false, false, false, false, false] (by kernel_rfl) rfl rfl ⟨he0, he1, he2, he3⟩ (fun hHeld => ?_)
                  refine take_ (i := 0) (N := some 32) (v := ?_) (a' := ?_) #[true, false, false, false, false, false, false, false, false, false, false, false, false, false, false, false, false, false, false, false, false, false, false, false, false] rfl rfl (by kernel_rfl) (fun _ _ _ h => h) (Or.inl ⟨by rfl, ?_⟩) hHeld ?_ ?_
                  rotate_left
                  · rintro w' ⟨s0, s1, s2, s3⟩
                    go_simp
                    with_reducible rfl
                  rotate_left
                  · simp only [Act.put, List.setIfInBounds_toArray, List.set_cons_zero, List.set_cons_succ, i64_w, i32_w]
                    rfl
                  refine one_ (i := 1) (N := some 33) #[true, true, false, false, false, false, false, false, false, false, false, false, false, false, false, false, false, false, false, false, false, false, false, false, false] rfl rfl (by kernel_rfl) (by decide) (fun K hK => ?_)
                  refine goes_ Try.func64 (by kernel_rfl) rfl #[.agg #[.string e.f0.f0, .int .u64 e.f0.f1, .int .u8 e.f0.f2, .string e.f1]] (by rfl) rfl rfl (by (try simp only [List.map_toArray, List.map_cons, List.map_nil]); first | done | rfl) ?_
                  with_reducible refine (ikey_Entry.calls _ _ _ _ _ _ HE2.out).mono ?_
                  rintro x w6 ⟨rfl, hb⟩
                  refine ⟨_, rfl, ?_⟩
                  have HD6 := Aside0.mk hb
                  refine hK.out _ _ ⟨(hb.cell (World.block_lt_of_cell? _ _ hHeld.1)).trans hHeld.1, (hb.cell (World.block_lt_of_cell? _ _ hHeld.2.1)).trans hHeld.2.1, (hb.cell (World.block_lt_of_cell? _ _ hHeld.2.2.1)).trans hHeld.2.2.1, (hb.cell (World.block_lt_of_cell? _ _ hHeld.2.2.2)).trans hHeld.2.2.2⟩ (fun hHeld => ?_)
                  clear hK K
                  refine norm_ (a' := ?_) ?_ ?_
                  rotate_left
                  · show Act.put _ (some 33) _ = _
                    simp only [Act.put, List.setIfInBounds_toArray, List.set_cons_zero, List.set_cons_succ, i64_w, i32_w]
                    rfl
                  refine pure_ (i := 2) (N := some 34) (v := ?_) (a' := ?_) #[true, true, true, false, false, false, false, false, false, false, false, false, false, false, false, false, false, false, false, false, false, false, false, false, false] rfl rfl (by kernel_rfl) (fun _ _ _ h => h) (Or.inl ⟨by rfl, ?_⟩) ?_ ?_
                  rotate_left
                  · intro w'
                    go_simp
                    with_reducible rfl
                  rotate_left
                  · simp only [Act.put, List.setIfInBounds_toArray, List.set_cons_zero, List.set_cons_succ, i64_w, i32_w]
                    rfl
                  refine pure_ (i := 3) (N := some 35) (v := ?_) (a' := ?_) #[true, true, true, true, false, false, false, false, false, false, false, false, false, false, false, false, false, false, false, false, false, false, false, false, false] rfl rfl (by kernel_rfl) (fun _ _ _ h => h) (Or.inl ⟨by rfl, ?_⟩) ?_ ?_
                  rotate_left
                  · intro w'
                    go_simp
                    with_reducible rfl
                  rotate_left
                  · simp only [Act.put, List.setIfInBounds_toArray, List.set_cons_zero, List.set_cons_succ, i64_w, i32_w]
                    rfl
                  refine pure_ (i := 4) (N := some 36) (v := undef) (a' := ?_) #[true, true, true, true, true, false, false, false, false, false, false, false, false, false, false, false, false, false, false, false, false, false, false, false, false] rfl rfl (by kernel_rfl) (fun _ _ _ h => h) (Or.inr ⟨by rfl, rfl⟩) ?_ ?_
                  rotate_left
                  · simp only [Act.put, List.setIfInBounds_toArray, List.set_cons_zero, List.set_cons_succ, i64_w, i32_w]
                    rfl
                  refine pure_ (i := 5) (N := some 37) (v := undef) (a' := ?_) #[true, true, true, true, true, true, false, false, false, false, false, false, false, false, false, false, false, false, false, false, false, false, false, false, false] rfl rfl (by kernel_rfl) (fun _ _ _ h => h) (Or.inr ⟨by rfl, rfl⟩) ?_ ?_
                  rotate_left
                  · simp only [Act.put, List.setIfInBounds_toArray, List.set_cons_zero, List.set_cons_succ, i64_w, i32_w]
                    rfl
                  refine pure_ (i := 6) (N := some 38) (v := undef) (a' := ?_) #[true, true, true, true, true, true, true, false, false, false, false, false, false, false, false, false, false, false, false, false, false, false, false, false, false] rfl rfl (by kernel_rfl) (fun _ _ _ h => h) (Or.inr ⟨by rfl, rfl⟩) ?_ ?_
                  rotate_left
                  · simp only [Act.put, List.setIfInBounds_toArray, List.set_cons_zero, List.set_cons_succ, i64_w, i32_w]
                    rfl
                  refine pure_ (i := 7) (N := some 39) (v := undef) (a' := ?_) #[true, true, true, true, true, true, true, true, false, false, false, false, false, false, false, false, false, false, false, false, false, false, false, false, false] rfl rfl (by kernel_rfl) (fun _ _ _ h => h) (Or.inr ⟨by rfl, rfl⟩) ?_ ?_
                  rotate_left
                  · simp only [Act.put, List.setIfInBounds_toArray, List.set_cons_zero, List.set_cons_succ, i64_w, i32_w]
                    rfl
                  refine pure_ (i := 8) (N := some 40) (v := undef) (a' := ?_) #[true, true, true, true, true, true, true, true, true, false, false, false, false, false, false, false, false, false, false, false, false, false, false, false, false] rfl rfl (by kernel_rfl) (fun _ _ _ h => h) (Or.inr ⟨by rfl, rfl⟩) ?_ ?_
                  rotate_left
                  · simp only [Act.put, List.setIfInBounds_toArray, List.set_cons_zero, List.set_cons_succ, i64_w, i32_w]
                    rfl
                  refine pure_ (i := 9) (N := some 41) (v := undef) (a' := ?_) #[true, true, true, true, true, true, true, true, true, true, false, false, false, false, false, false, false, false, false, false, false, false, false, false, false] rfl rfl (by kernel_rfl) (fun _ _ _ h => h) (Or.inr ⟨by rfl, rfl⟩) ?_ ?_
                  rotate_left
                  · simp only [Act.put, List.setIfInBounds_toArray, List.set_cons_zero, List.set_cons_succ, i64_w, i32_w]
                    rfl
                  refine pure_ (i := 10) (N := some 42) (v := undef) (a' := ?_) #[true, true, true, true, true, true, true, true, true, true, true, false, false, false, false, false, false, false, false, false, false, false, false, false, false] rfl rfl (by kernel_rfl) (fun _ _ _ h => h) (Or.inr ⟨by rfl, rfl⟩) ?_ ?_
                  rotate_left
                  · simp only [Act.put, List.setIfInBounds_toArray, List.set_cons_zero, List.set_cons_succ, i64_w, i32_w]
                    rfl
                  refine pure_ (i := 11) (N := some 43) (v := undef) (a' := ?_) #[true, true, true, true, true, true, true, true, true, true, true, true, false, false, false, false, false, false, false, false, false, false, false, false, false] rfl rfl (by kernel_rfl) (fun _ _ _ h => h) (Or.inr ⟨by rfl, rfl⟩) ?_ ?_
                  rotate_left
                  · simp only [Act.put, List.setIfInBounds_toArray, List.set_cons_zero, List.set_cons_succ, i64_w, i32_w]
                    rfl
                  refine pure_ (i := 12) (N := some 44) (v := undef) (a' := ?_) #[true, true, true, true, true, true, true, true, true, true, true, true, true, false, false, false, false, false, false, false, false, false, false, false, false] rfl rfl (by kernel_rfl) (fun _ _ _ h => h) (Or.inr ⟨by rfl, rfl⟩) ?_ ?_
                  rotate_left
                  · simp only [Act.put, List.setIfInBounds_toArray, List.set_cons_zero, List.set_cons_succ, i64_w, i32_w]
                    rfl
                  refine pure_ (i := 13) (N := some 45) (v := undef) (a' := ?_) #[true, true, true, true, true, true, true, true, true, true, true, true, true, true, false, false, false, false, false, false, false, false, false, false, false] rfl rfl (by kernel_rfl) (fun _ _ _ h => h) (Or.inr ⟨by rfl, rfl⟩) ?_ ?_
                  rotate_left
                  · simp only [Act.put, List.setIfInBounds_toArray, List.set_cons_zero, List.set_cons_succ, i64_w, i32_w]
                    rfl
                  refine pure_ (i := 14) (N := some 46) (v := undef) (a' := ?_) #[true, true, true, true, true, true, true, true, true, true, true, true, true, true, true, false, false, false, false, false, false, false, false, false, false] rfl rfl (by kernel_rfl) (fun _ _ _ h => h) (Or.inr ⟨by rfl, rfl⟩) ?_ ?_
                  rotate_left
                  · simp only [Act.put, List.setIfInBounds_toArray, List.set_cons_zero, List.set_cons_succ, i64_w, i32_w]
                    rfl
                  refine pure_ (i := 15) (N := some 47) (v := undef) (a' := ?_) #[true, true, true, true, true, true, true, true, true, true, true, true, true, true, true, true, false, false, false, false, false, false, false, false, false] rfl rfl (by kernel_rfl) (fun _ _ _ h => h) (Or.inr ⟨by rfl, rfl⟩) ?_ ?_
                  rotate_left
                  · simp only [Act.put, List.setIfInBounds_toArray, List.set_cons_zero, List.set_cons_succ, i64_w, i32_w]
                    rfl
                  refine pure_ (i := 16) (N := some 48) (v := undef) (a' := ?_) #[true, true, true, true, true, true, true, true, true, true, true, true, true, true, true, true, true, false, false, false, false, false, false, false, false] rfl rfl (by kernel_rfl) (fun _ _ _ h => h) (Or.inr ⟨by rfl, rfl⟩) ?_ ?_
                  rotate_left
                  · simp only [Act.put, List.setIfInBounds_toArray, List.set_cons_zero, List.set_cons_succ, i64_w, i32_w]
                    rfl
                  refine pure_ (i := 17) (N := some 49) (v := undef) (a' := ?_) #[true, true, true, true, true, true, true, true, true, true, true, true, true, true, true, true, true, true, false, false, false, false, false, false, false] rfl rfl (by kernel_rfl) (fun _ _ _ h => h) (Or.inr ⟨by rfl, rfl⟩) ?_ ?_
                  rotate_left
                  · simp only [Act.put, List.setIfInBounds_toArray, List.set_cons_zero, List.set_cons_succ, i64_w, i32_w]
                    rfl
                  refine pure_ (i := 18) (N := some 50) (v := ?_) (a' := ?_) #[true, true, true, true, true, true, true, true, true, true, true, true, true, true, true, true, true, true, true, false, false, false, false, false, false] rfl rfl (by kernel_rfl) (fun _ _ _ h => h) (Or.inl ⟨by rfl, ?_⟩) ?_ ?_
                  rotate_left
                  · intro w'
                    go_simp
                    with_reducible rfl
                  rotate_left
                  · simp only [Act.put, List.setIfInBounds_toArray, List.set_cons_zero, List.set_cons_succ, i64_w, i32_w]
                    rfl
                  refine pure_ (i := 19) (N := some 51) (v := ?_) (a' := ?_) #[true, true, true, true, true, true, true, true, true, true, true, true, true, true, true, true, true, true, true, true, false, false, false, false, false] rfl rfl (by kernel_rfl) (fun _ _ _ h => h) (Or.inl ⟨by rfl, ?_⟩) ?_ ?_
                  rotate_left
                  · intro w'
                    go_simp
                    with_reducible rfl
                  rotate_left
                  · simp only [Act.put, List.setIfInBounds_toArray, List.set_cons_zero, List.set_cons_succ, i64_w, i32_w]
                    rfl
                  refine pure_ (i := 20) (N := some 52) (v := undef) (a' := ?_) #[true, true, true, true, true, true, true, true, true, true, true, true, true, true, true, true, true, true, true, true, true, false, false, false, false] rfl rfl (by kernel_rfl) (fun _ _ _ h => h) (Or.inr ⟨by rfl, rfl⟩) ?_ ?_
                  rotate_left
                  · simp only [Act.put, List.setIfInBounds_toArray, List.set_cons_zero, List.set_cons_succ, i64_w, i32_w]
                    rfl
                  refine pure_ (i := 21) (N := some 53) (v := undef) (a' := ?_) #[true, true, true, true, true, true, true, true, true, true, true, true, true, true, true, true, true, true, true, true, true, true, false, false, false] rfl rfl (by kernel_rfl) (fun _ _ _ h => h) (Or.inr ⟨by rfl, rfl⟩) ?_ ?_
                  rotate_left
                  · simp only [Act.put, List.setIfInBounds_toArray, List.set_cons_zero, List.set_cons_succ, i64_w, i32_w]
                    rfl
                  refine pure_ (i := 22) (N := some 54) (v := undef) (a' := ?_) #[true, true, true, true, true, true, true, true, true, true, true, true, true, true, true, true, true, true, true, true, true, true, true, false, false] rfl rfl (by kernel_rfl) (fun _ _ _ h => h) (Or.inr ⟨by rfl, rfl⟩) ?_ ?_
                  rotate_left
                  · simp only [Act.put, List.setIfInBounds_toArray, List.set_cons_zero, List.set_cons_succ, i64_w, i32_w]
                    rfl
                  refine pure_ (i := 23) (N := some 55) (v := undef) (a' := ?_) #[true, true, true, true, true, true, true, true, true, true, true, true, true, true, true, true, true, true, true, true, true, true, true, true, false] rfl rfl (by kernel_rfl) (fun _ _ _ h => h) (Or.inr ⟨by rfl, rfl⟩) ?_ ?_
                  rotate_left
                  · simp only [Act.put, List.setIfInBounds_toArray, List.set_cons_zero, List.set_cons_succ, i64_w, i32_w]
                    rfl
                  refine pure_ (i := 24) (N := some 56) (v := ?_) (a' := ?_) #[true, true, true, true, true, true, true, true, true, true, true, true, true, true, true, true, true, true, true, true, true, true, true, true, true] rfl rfl (by kernel_rfl) (fun _ _ _ h => h) (Or.inl ⟨by rfl, ?_⟩) ?_ ?_
                  rotate_left
                  · intro w'
                    go_simp
                    with_reducible rfl
                  rotate_left
                  · simp only [Act.put, List.setIfInBounds_toArray, List.set_cons_zero, List.set_cons_succ, i64_w, i32_w]
                    rfl
                  refine done_ (by kernel_rfl) ?_
                  go_wp2
                  go_meet
                  case rel => exact ⟨by rw [hXt], ⟨below_then (below_drew HS2.out) (by have := HS2.out.size; exact this) HD6.out⟩⟩
              case rest =>
                obtain ⟨rfl, HS3⟩ := hcut
                have HOD := Aside0.mk (Kd.R_below HO1.out HS3.out)
                clear hXd HOC HSC HS2 HO1 HOS
                cases X with
                | true =>
                  have hins : insE a1 o e = o := by unfold insE; rw [if_pos HXX.out.symm]
                  have HNX2 := Aside0.mk (HNX.out.trans hins)
                  clear hins
                  go_wp2
                  go_roundg k1
                  case measure => exact Nat.lt_succ_self _
                  case rel => exact ⟨i + 1, by rw [hk1], ⟨by have := HI.out; omega⟩, ⟨below_then HB1.out HB1.out.size HS3.out⟩, ⟨by rw [HNX2.out]; exact HOD.out⟩⟩
                | false =>
                  have hins : insE a1 o e = o.take j ++ ([e] ++ o.drop j) := by unfold insE; rw [if_neg (by rw [← HXX.out]; decide), ← HJE.out]
                  have HNX2 := Aside0.mk (HNX.out.trans hins)
                  have HSD := Aside0.mk ((HS3.out.block _ HGL.out).trans HBX.out)
                  have hcc := (Kd.R_reads' HOD.out).2.1
                  clear hins
                  go_upto_region 9 with (fail)
                  have he0 : wc.cell? ⟨g, 0, none⟩ = some (.string e.f0.f0) := (blk_cell HSD.out 0).trans rfl
                  have he1 : wc.cell? ⟨g, 1, none⟩ = some (.int .u64 e.f0.f1) := (blk_cell HSD.out 1).trans rfl
                  have he2 : wc.cell? ⟨g, 2, none⟩ = some (.int .u8 e.f0.f2) := (blk_cell HSD.out 2).trans rfl
                  have he3 : wc.cell? ⟨g, 3, none⟩ = some (.string e.f1) := (blk_cell HSD.out 3).trans rfl
                  have hq1 : ((j : Int) ≤ (o.length : Int)) = True := eq_true (by omega)
                  have hq2 : (j ≤ o.length) = True := eq_true hjl
                  have hq3 : ((j : Int) ≤ (c : Int)) = True := eq_true (by omega)
                  have hq4 : (j ≤ c) = True := eq_true (by omega)
                  obtain ⟨v7, W7, r7, b7, v8, W8, r8, R8, b8⟩ := ins_run wc A o c j e (Kd.R_reads' HOD.out).2.2 hcc hjl (by omega) 48 48
                  have hr7 := Aside0.mk r7
                  have hr8 := Aside0.mk r8
                  have HB7 := Aside0.mk b7
                  have HB8 := Aside0.mk b8
                  have HR8 := Aside0.mk R8
                  clear r7 r8 b7 b8 R8
                  refine start_ (n := 12) (S := fun w' => w'.cell? ⟨g, 0, none⟩ = some (.string e.f0.f0) ∧ w'.cell? ⟨g, 1, none⟩ = some (.int .u64 e.f0.f1) ∧ w'.cell? ⟨g, 2, none⟩ = some (.int .u8 e.f0.f2) ∧ w'.cell? ⟨g, 3, none⟩ = some (.string e.f1)) (ds := []) #[false, false, false, false, false, false, false, false, false, false, false, false] (by kernel_rfl) rfl rfl ⟨he0, he1, he2, he3⟩ (fun hHeld => ?_)
                  refine pure_ (i := 0) (N := some 57) (v := ?_) (a' := ?_) #[true, false, false, false, false, false, false, false, false, false, false, false] rfl rfl (by kernel_rfl) (fun _ _ _ h => h) (Or.inl ⟨by rfl, ?_⟩) ?_ ?_
                  rotate_left
                  · intro w'
                    go_simp
                    with_reducible rfl
                  rotate_left
                  · simp only [Act.put, List.setIfInBounds_toArray, List.set_cons_zero, List.set_cons_succ, i64_w, i32_w]
                    rfl
                  refine pure_ (i := 1) (N := some 58) (v := ?_) (a' := ?_) #[true, true, false, false, false, false, false, false, false, false, false, false] rfl rfl (by kernel_rfl) (fun _ _ _ h => h) (Or.inl ⟨by rfl, ?_⟩) ?_ ?_
                  rotate_left
                  · intro w'
                    go_simp
                    with_reducible rfl
                  rotate_left
                  · simp only [Act.put, List.setIfInBounds_toArray, List.set_cons_zero, List.set_cons_succ, i64_w, i32_w]
                    rfl
                  refine pure_ (i := 2) (N := some 59) (v := ?_) (a' := ?_) #[true, true, true, false, false, false, false, false, false, false, false, false] rfl rfl (by kernel_rfl) (fun _ _ _ h => h) (Or.inl ⟨by rfl, ?_⟩) ?_ ?_
                  rotate_left
                  · intro w'
                    go_simp
                    with_reducible rfl
                  rotate_left
                  · simp only [Act.put, List.setIfInBounds_toArray, List.set_cons_zero, List.set_cons_succ, i64_w, i32_w]
                    rfl
                  refine pure_ (i := 3) (N := some 60) (v := ?_) (a' := ?_) #[true, true, true, true, false, false, false, false, false, false, false, false] rfl rfl (by kernel_rfl) (fun _ _ _ h => h) (Or.inl ⟨by rfl, ?_⟩) ?_ ?_
                  rotate_left
                  · intro w'
                    go_simp
                    with_reducible rfl
                  rotate_left
                  · simp only [Act.put, List.setIfInBounds_toArray, List.set_cons_zero, List.set_cons_succ, i64_w, i32_w]
                    rfl
                  refine pure_ (i := 6) (N := some 63) (v := ?_) (a' := ?_) #[true, true, true, true, false, false, true, false, false, false, false, false] rfl rfl (by kernel_rfl) (fun _ _ _ h => h) (Or.inl ⟨by rfl, ?_⟩) ?_ ?_
                  rotate_left
                  · intro w'
                    go_simp
                    with_reducible rfl
                  rotate_left
                  · simp only [Act.put, List.setIfInBounds_toArray, List.set_cons_zero, List.set_cons_succ, i64_w, i32_w]
                    rfl
                  refine pure_ (i := 7) (N := some 64) (v := ?_) (a' := ?_) #[true, true, true, true, false, false, true, true, false, false, false, false] rfl rfl (by kernel_rfl) (fun _ _ _ h => h) (Or.inl ⟨by rfl, ?_⟩) ?_ ?_
                  rotate_left
                  · intro w'
                    go_simp
                    with_reducible rfl
                  rotate_left
                  · simp only [Act.put, List.setIfInBounds_toArray, List.set_cons_zero, List.set_cons_succ, i64_w, i32_w]
                    rfl
                  refine pure_ (i := 8) (N := some 65) (v := ?_) (a' := ?_) #[true, true, true, true, false, false, true, true, true, false, false, false] rfl rfl (by kernel_rfl) (fun _ _ _ h => h) (Or.inl ⟨by rfl, ?_⟩) ?_ ?_
                  rotate_left
                  · intro w'
                    go_simp
                    with_reducible rfl
                  rotate_left
                  · simp only [Act.put, List.setIfInBounds_toArray, List.set_cons_zero, List.set_cons_succ, i64_w, i32_w]
                    rfl
                  refine take_ (i := 4) (N := some 61) (v := ?_) (a' := ?_) #[true, true, true, true, true, false, true, true, true, false, false, false] rfl rfl (by kernel_rfl) (fun _ _ _ h => h) (Or.inl ⟨by rfl, ?_⟩) hHeld ?_ ?_
                  rotate_left
                  · rintro w' ⟨s0, s1, s2, s3⟩
                    go_simp
                    with_reducible rfl
                  rotate_left
                  · simp only [Act.put, List.setIfInBounds_toArray, List.set_cons_zero, List.set_cons_succ, i64_w, i32_w]
                    rfl
                  refine one_ (i := 5) (N := some 62) #[true, true, true, true, true, true, true, true, true, false, false, false] rfl rfl (by kernel_rfl) (by decide) (fun K hK => ?_)
                  go_simp
                  refine hK.out _ _ ⟨((below_drew (below_alloc (Below.refl wc.heap.size wc) (.cells #[.string e.f0.f0, .int .u64 e.f0.f1, .int .u8 e.f0.f2, .string e.f1] 59))).cell (World.block_lt_of_cell? _ _ he0)).trans he0, ((below_drew (below_alloc (Below.refl wc.heap.size wc) (.cells #[.string e.f0.f0, .int .u64 e.f0.f1, .int .u8 e.f0.f2, .string e.f1] 59))).cell (World.block_lt_of_cell? _ _ he1)).trans he1, ((below_drew (below_alloc (Below.refl wc.heap.size wc) (.cells #[.string e.f0.f0, .int .u64 e.f0.f1, .int .u8 e.f0.f2, .string e.f1] 59))).cell (World.block_lt_of_cell? _ _ he2)).trans he2, ((below_drew (below_alloc (Below.refl wc.heap.size wc) (.cells #[.string e.f0.f0, .int .u64 e.f0.f1, .int .u8 e.f0.f2, .string e.f1] 59))).cell (World.block_lt_of_cell? _ _ he3)).trans he3⟩ (fun hHeld => ?_)
                  clear hK K
                  refine one_ (i := 9) (N := some 66) #[true, true, true, true, true, true, true, true, true, true, false, false] rfl rfl (by kernel_rfl) (by decide) (fun K hK => ?_)
                  refine step_append_eq rfl (.tmp 62) (.tmp 65) 48 48 rfl _ _ rfl rfl hr7.out ?_
                  refine hK.out _ _ ⟨(HB7.out.cell (World.block_lt_of_cell? _ _ he0)).trans he0, (HB7.out.cell (World.block_lt_of_cell? _ _ he1)).trans he1, (HB7.out.cell (World.block_lt_of_cell? _ _ he2)).trans he2, (HB7.out.cell (World.block_lt_of_cell? _ _ he3)).trans he3⟩ (fun hHeld => ?_)
                  clear hK K
                  refine norm_ (a' := ?_) ?_ ?_
                  rotate_left
                  · show Act.put _ (some 66) _ = _
                    simp only [Act.put, List.setIfInBounds_toArray, List.set_cons_zero, List.set_cons_succ, i64_w, i32_w]
                    rfl
                  refine one_ (i := 10) (N := some 67) #[true, true, true, true, true, true, true, true, true, true, true, false] rfl rfl (by kernel_rfl) (by decide) (fun K hK => ?_)
                  refine step_append_eq rfl (.tmp 60) (.tmp 66) 48 48 rfl _ _ rfl rfl hr8.out ?_
                  refine hK.out _ _ ⟨(HB8.out.cell (World.block_lt_of_cell? _ _ he0)).trans he0, (HB8.out.cell (World.block_lt_of_cell? _ _ he1)).trans he1, (HB8.out.cell (World.block_lt_of_cell? _ _ he2)).trans he2, (HB8.out.cell (World.block_lt_of_cell? _ _ he3)).trans he3⟩ (fun hHeld => ?_)
                  clear hK K
                  refine norm_ (a' := ?_) ?_ ?_
                  rotate_left
                  · show Act.put _ (some 67) _ = _
                    simp only [Act.put, List.setIfInBounds_toArray, List.set_cons_zero, List.set_cons_succ, i64_w, i32_w]
                    rfl
                  refine pure_ (i := 11) (N := some 5) (v := ?_) (a' := ?_) #[true, true, true, true, true, true, true, true, true, true, true, true] rfl rfl (by kernel_rfl) (fun _ _ _ h => h) (Or.inl ⟨by rfl, ?_⟩) ?_ ?_
                  rotate_left
                  · intro w'
                    go_simp
                    with_reducible rfl
                  rotate_left
                  · simp only [Act.put, List.setIfInBounds_toArray, List.set_cons_zero, List.set_cons_succ, i64_w, i32_w]
                    rfl
                  refine done_ (by kernel_rfl) ?_
                  go_wp2
                  all_goals
                    go_roundg k1
                    case measure => exact Nat.lt_succ_self _
                    case rel => exact ⟨i + 1, by first | rfl | rw [hk1], ⟨by have := HI.out; omega⟩, ⟨below_then (below_then HB1.out HB1.out.size HS3.out) (by have h8 := HB1.out.size; have h9 := HS3.out.size; omega) HB8.out⟩, ⟨by rw [HNX2.out]; exact Kd.R_lower HR8.out (by have h8 := HB1.out.size; have h9 := HS3.out.size; omega)⟩⟩
    · have hd1 : decide ((i : Int) < (l.length : Int)) = false := decide_eq_false (by omega)
      have hd2 : decide (i < l.length) = false := decide_eq_false hlt
      have hkl : l.take i = l := List.take_of_length_le (by omega)
      have HKL := Aside0.mk hkl
      clear hlt hkl
      go_wp2
      go_ret
      exact ⟨_, rfl, by have := HO.out; rwa [HKL.out] at this, HB.out⟩
def ratlinelaw07_Sorted.f (l0 : List En) (a1 : Int) : Option (List En) := if l0.length ≤ 500 then some (srtE a1 l0) else none
theorem ratlinelaw07_Sorted.calls (A0 : Option Addr) (c0 : Nat) (l0 : List En) (a1 : Int) (r : List En) (w : World) (hr0 : Kd.C k59 w A0 l0.length l0) (hc0 : l0.length ≤ c0) (h : ratlinelaw07_Sorted.f l0 a1 = some r) :
    Calls Try.prog 30 #[.slice A0 l0.length c0, .int .i64 a1] w fun e w' => ∃ v0_ : Value, e = .returned v0_ ∧ Kd.R k59 59 w' w.heap.size (fun _ => True) v0_ r ∧ Below w.heap.size w w' := by
  unfold ratlinelaw07_Sorted.f at h
  by_cases hl : l0.length ≤ 500
  · rw [if_pos hl] at h
    obtain rfl := Option.some.inj h
    exact sorted_calls A0 c0 l0 a1 w hr0 hc0 hl
  · rw [if_neg hl] at h; cases h
end Go.Proofs.YtjcjfghcahbbmaaG

end

section
namespace Go.Proofs.Ytjcjfghcahbbmaa.P
open Go.RowKit Go.Proofs.YtjcjfghcahbbmaaG Go.Proofs.YtjcjfghcahbbmaaW.PrintWords Go.Proofs.YtjcjfghcahbbmaaW.PrintLast Go.Proofs.YtjcjfghcahbbmaaW.PrintMore
attribute [local go_sem] str_gtr str_geq str_leq max2_int min2_int max_two min_two max_three min_three max_four min_four   -- for this text's walks alone
set_option linter.unusedVariables false
set_option linter.unusedSimpArgs false

attribute [local go_sem high] eqA59
mutual
noncomputable def ratlinelaw07_BlockSeek.j0 : Nat → List (S59) → Bool → ByteArray → Int → Int → Option (Bool)
  | 0, _, _, _, _, _ => none
  | k + 1, x0, x25, x510000, x510001, x510002 => if x25 = true then ((ratlinelaw07_awake.f k).bind fun t511 => (some t511)) else ((ratlinelaw07_Sorted.f x0 64).bind fun t512 => (if (t512.length : Int) = 0 then ((ratlinelaw07_awake.f k).bind fun t515 => (some t515)) else ((block_Build.f t512).bind fun bt516 => (if bt516.2 = 0 then (ratlinelaw07_BlockSeek.l0 k t512 bt516.1 t512 (t512.length : Int) 0 x510000 x510001 x510002) else (none)))))
noncomputable def ratlinelaw07_BlockSeek.l0 : Nat → List (S59) → List Int → List (S59) → Int → Int → ByteArray → Int → Int → Option (Bool)
  | 0, _, _, _, _, _, _, _, _ => none
  | k + 1, x0, x5, x40, x41, x42, x510000, x510001, x510002 => if x42 < x41 then (if 0 ≤ x42 then (if x42 < (x40.length : Int) then ((block_Seek.f x5 ((rd_T59 x40 x42).f0.f0) ((rd_T59 x40 x42).f0.f1) ((rd_T59 x40 x42).f0.f2)).bind fun bt522 => (if bt522.2.2.2.2.1 = true then (if bt522.2.2.2.2.2 = 0 then (if ((!(bt522.1.toList == (((rd_T59 x40 x42).f0.f0).toList)) || (!(bt522.2.1 == ((rd_T59 x40 x42).f0.f1)) || (!(bt522.2.2.1 == ((rd_T59 x40 x42).f0.f2))))) || (!(bt522.2.2.2.1.toList == (((rd_T59 x40 x42).f1).toList)))) = true then (none) else (ratlinelaw07_BlockSeek.l0 k x0 x5 x40 x41 (wrap64 (x42 + 1)) x510000 x510001 x510002)) else (none)) else (none))) else (none)) else (none)) else ((block_Seek.f x5 x510000 x510001 x510002).bind fun bt529 => (if bt529.2.2.2.2.2 = 0 then (ratlinelaw07_BlockSeek.l1 k bt529.2.2.2.2.1 x0 (x0.length : Int) 0 x510000 x510001 x510002 bt529.1 bt529.2.1 bt529.2.2.1 bt529.2.2.2.1) else (none)))
noncomputable def ratlinelaw07_BlockSeek.l1 : Nat → Bool → List (S59) → Int → Int → ByteArray → Int → Int → ByteArray → Int → Int → ByteArray → Option (Bool)
  | 0, _, _, _, _, _, _, _, _, _, _, _ => none
  | k + 1, x13, x75, x76, x77, x510000, x510001, x510002, x536000, x536001, x536002, x536003 => if x77 < x76 then (if 0 ≤ x77 then (if x77 < (x75.length : Int) then ((ikey_Compare.f k ((rd_T59 x75 x77).f0.f0) ((rd_T59 x75 x77).f0.f1) ((rd_T59 x75 x77).f0.f2) x510000 x510001 x510002).bind fun t539 => (if t539 < 0 then (ratlinelaw07_BlockSeek.l1 k x13 x75 x76 (wrap64 (x77 + 1)) x510000 x510001 x510002 x536000 x536001 x536002 x536003) else (if x13 = true then (if ((x536000.toList == (((rd_T59 x75 x77).f0.f0).toList) && (x536001 == ((rd_T59 x75 x77).f0.f1) && (x536002 == ((rd_T59 x75 x77).f0.f2)))) && (x536003.toList == (((rd_T59 x75 x77).f1).toList))) = true then ((ratlinelaw07_awake.f k).bind fun t540 => (some t540)) else (none)) else (none)))) else (none)) else (none)) else (if x13 = true then (none) else (if ((x536000.toList == ([] : List UInt8) && (x536001 == 0 && (x536002 == 0))) && (x536003.toList == ([] : List UInt8))) = true then ((ratlinelaw07_awake.f k).bind fun t536 => (some t536)) else (none)))
end
noncomputable def ratlinelaw07_BlockSeek.f (k : Nat) (l0 : List (S59)) (a1_0 : ByteArray) (a1_1 : Int) (a1_2 : Int) : Option (Bool) := (ratlinelaw03_Few.f k l0 70).bind fun t510 => (if t510 = true then (ratlinelaw07_BlockSeek.j0 k l0 (decide ((a1_0.size : Int) > 70)) a1_0 a1_1 a1_2) else (ratlinelaw07_BlockSeek.j0 k l0 true a1_0 a1_1 a1_2))
set_option maxHeartbeats 8000000 in
set_option maxRecDepth 100000 in
theorem ratlinelaw07_BlockSeek.calls (k : Nat) (A0 : Option Addr) (c0 : Nat) (l0 : List (S59)) (a1_0 : ByteArray) (a1_1 : Int) (a1_2 : Int) (r : Bool) (w : World) (hr0 : Kd.C k59 w A0 l0.length l0) (hc0 : l0.length ≤ c0) (h : ratlinelaw07_BlockSeek.f k l0 a1_0 a1_1 a1_2 = some r) :
    Calls Try.prog 7 #[.slice A0 l0.length c0, .agg #[.string a1_0, .int .u64 a1_1, .int .u8 a1_2]] w fun e w' => e = .returned (.bool r) ∧ Below w.heap.size w w' := by
  have hu50 := Try.underlying50
  have hu59 := Try.underlying59
  have HR0 := Aside0.mk hr0
  have HC0 := Aside0.mk hc0
  clear hr0 hc0
  have HB := Aside0.mk (Below.refl w.heap.size w)
  have H : ((ratlinelaw03_Few.f k l0 70).bind fun t510 => (if t510 = true then (ratlinelaw07_BlockSeek.j0 k l0 (decide ((a1_0.size : Int) > 70)) a1_0 a1_1 a1_2) else (ratlinelaw07_BlockSeek.j0 k l0 true a1_0 a1_1 a1_2))) = some r := h
  clear h
  have HC3 := Aside0.mk H
  clear H
  go_enter Try.func7, Try.ntmps7
  go_upto_region 1 with (first | ((with_reducible refine gate_dst (N := 3) rfl ?_); (try (refine gate_guard (by rfl) ?_; dsimp only)); refine box_event ?hg (N := 3) ?hd (cs := #[.string a1_0, .int .u64 a1_1, .int .u8 a1_2]) (t := 50) ?hr ?_; (case hd => rfl); (case hg => rfl); (case hr => first | (go_simp; done) | (go_simp; rfl)); intro gb509 hg w4 hbox hb; have n0_ := Aside0.mk (below_step (by repeat (first | (with_reducible first | exact HB.out | apply below_alloc | apply pw_below_drewN | apply below_drew1) | exact HB.out)) hb); have n1_ := Aside0.mk (hbox); have n2_ := Aside0.mk ((by rw [hg]; exact (below_size (by repeat (first | (with_reducible first | exact HB.out | apply below_alloc | apply pw_below_drewN | apply below_drew1) | exact HB.out))) : w.heap.size ≤ gb509)); have n3_ := Aside0.mk ((by rw [hg]; exact (below_size (by repeat (first | (with_reducible first | exact HB.out | apply below_alloc | apply pw_below_drewN | apply below_drew1) | exact HB.out))) : w.heap.size ≤ gb509)); clear HB; have HB := n0_; have BK509 := n1_; have GW509 := n2_; have GE509 := n3_; clear n0_ n1_ n2_ n3_; clear hb hbox hg))
  (try simp only [Act.put, List.setIfInBounds_toArray, List.set_cons_zero, List.set_cons_succ])
  go_cut [25] (fun v25 wc => ∃ (kq : Nat) (x25_2 : Bool), v25 = .bool x25_2 ∧ Aside0 (ratlinelaw07_BlockSeek.j0 kq l0 x25_2 a1_0 a1_1 a1_2 = some r) ∧ Aside0 (kq ≤ k) ∧ Aside0 (wc.heap[gb509]? = some (.cells #[.string a1_0, .int .u64 a1_1, .int .u8 a1_2] 50 (0, 0))) ∧ Aside0 (Below w.heap.size w wc))
  case first =>
    have H := HC3.out
    clear HC3
    replace H := Option.bind_eq_some_iff.mp H
    obtain ⟨t510, A50, H⟩ := H
    replace H : (if t510 = true then (ratlinelaw07_BlockSeek.j0 k l0 (decide ((a1_0.size : Int) > 70)) a1_0 a1_1 a1_2) else (ratlinelaw07_BlockSeek.j0 k l0 true a1_0 a1_1 a1_2)) = some r := H
    have A5 := Aside0.mk A50
    clear A50
    by_cases c6 : t510 = true
    · subst c6
      have H1 : (ratlinelaw07_BlockSeek.j0 k l0 (decide ((a1_0.size : Int) > 70)) a1_0 a1_1 a1_2) = some r := by rw [if_pos rfl] at H; exact H
      clear H
      have H := H1
      clear H1
      have H' := Aside0.mk H
      clear H
      go_wp2_with (first | ((with_reducible refine gate_callee (f := 20) rfl ?_); refine goesL_ (some 18) rfl rfl Try.func20 (by kernel_rfl) rfl #[.slice A0 l0.length c0, .int .i64 70] rfl (by (try simp only [List.map_toArray, List.map_cons, List.map_nil]); first | done | rfl | (simp only [List.length_drop, List.length_take]; rfl)) ?_; (with_reducible refine (ratlinelaw03_Few.calls k _ _ l0 70 true _ ?side1 ?side2 A5.out).mono ?_); (case side1 => repeat (first | exact (Kd.C_below HR0.out HB.out) | (with_reducible refine Kd.C_alloc ?_ _) | (with_reducible refine Kd.C_drewN ?_ _) | (with_reducible refine Kd.C_drew ?_))); (case side2 => exact HC0.out); rintro e w7 ⟨rfl, hb⟩; refine ⟨_, rfl, ?_⟩; have n0_ := Aside0.mk (blk_below (g := gb509) (o := .cells #[.string a1_0, .int .u64 a1_1, .int .u8 a1_2] 50 (0, 0)) (by (with_reducible repeat (first | refine blk_drewN ?_ _ | refine blk_drew ?_ | refine blk_alloc ?_ _)); exact BK509.out) hb); have n1_ := Aside0.mk (below_step (by repeat (first | (with_reducible first | exact HB.out | apply below_alloc | apply pw_below_drewN | apply below_drew1 | refine below_set ?_ GE509.out) | exact HB.out)) hb); clear BK509; clear HB; have BK509 := n0_; have HB := n1_; clear n0_ n1_; (try clear hb); (try clear hb2); (try clear hk); (try clear hi); have hcz8_0 : w7.cell? ⟨gb509, 0, none⟩ = some (.string a1_0) := (blk_cell BK509.out 0).trans rfl; have hcz8_1 : w7.cell? ⟨gb509, 1, none⟩ = some (.int .u64 a1_1) := (blk_cell BK509.out 1).trans rfl; have hcz8_2 : w7.cell? ⟨gb509, 2, none⟩ = some (.int .u8 a1_2) := (blk_cell BK509.out 2).trans rfl; have hfz8_0 := blk_frozen BK509.out 0; have hfz8_1 := blk_frozen BK509.out 1; have hfz8_2 := blk_frozen BK509.out 2))
      go_meet
      case rel => exact ⟨_, (decide ((a1_0.size : Int) > 70)), (by first | rfl | (simp; done) | (simp [*]; done)), H', ⟨by first | omega | exact Nat.le_refl _⟩, ⟨by (with_reducible repeat (first | refine blk_drewN ?_ _ | refine blk_drew ?_ | refine blk_alloc ?_ _)); exact BK509.out⟩, ⟨by repeat (first | (with_reducible first | exact HB.out | apply below_alloc | apply pw_below_drewN | apply below_drew1 | refine below_set ?_ GE509.out) | exact HB.out)⟩⟩
    · replace c6 := Bool.eq_false_iff.mpr c6
      subst c6
      have H1 : (ratlinelaw07_BlockSeek.j0 k l0 true a1_0 a1_1 a1_2) = some r := by rw [if_neg (show ¬ (false = true) by decide)] at H; exact H
      clear H
      have H := H1
      clear H1
      have H' := Aside0.mk H
      clear H
      go_wp2_with (first | ((with_reducible refine gate_callee (f := 20) rfl ?_); refine goesL_ (some 18) rfl rfl Try.func20 (by kernel_rfl) rfl #[.slice A0 l0.length c0, .int .i64 70] rfl (by (try simp only [List.map_toArray, List.map_cons, List.map_nil]); first | done | rfl | (simp only [List.length_drop, List.length_take]; rfl)) ?_; (with_reducible refine (ratlinelaw03_Few.calls k _ _ l0 70 false _ ?side1 ?side2 A5.out).mono ?_); (case side1 => repeat (first | exact (Kd.C_below HR0.out HB.out) | (with_reducible refine Kd.C_alloc ?_ _) | (with_reducible refine Kd.C_drewN ?_ _) | (with_reducible refine Kd.C_drew ?_))); (case side2 => exact HC0.out); rintro e w9 ⟨rfl, hb⟩; refine ⟨_, rfl, ?_⟩; have n0_ := Aside0.mk (blk_below (g := gb509) (o := .cells #[.string a1_0, .int .u64 a1_1, .int .u8 a1_2] 50 (0, 0)) (by (with_reducible repeat (first | refine blk_drewN ?_ _ | refine blk_drew ?_ | refine blk_alloc ?_ _)); exact BK509.out) hb); have n1_ := Aside0.mk (below_step (by repeat (first | (with_reducible first | exact HB.out | apply below_alloc | apply pw_below_drewN | apply below_drew1 | refine below_set ?_ GE509.out) | exact HB.out)) hb); clear BK509; clear HB; have BK509 := n0_; have HB := n1_; clear n0_ n1_; (try clear hb); (try clear hb2); (try clear hk); (try clear hi)))
      go_meet
      case rel => exact ⟨_, (true), (by first | rfl | (simp; done) | (simp [*]; done)), H', ⟨by first | omega | exact Nat.le_refl _⟩, ⟨by (with_reducible repeat (first | refine blk_drewN ?_ _ | refine blk_drew ?_ | refine blk_alloc ?_ _)); exact BK509.out⟩, ⟨by repeat (first | (with_reducible first | exact HB.out | apply below_alloc | apply pw_below_drewN | apply below_drew1 | refine below_set ?_ GE509.out) | exact HB.out)⟩⟩
  case rest =>
    clear HC3
    try clear c2
    try clear p2
    try clear c6
    try clear c7
    try clear hcz8_0
    try clear hcz8_1
    try clear hcz8_2
    try clear hfz8_0
    try clear hfz8_1
    try clear hfz8_2
    obtain ⟨kq, x25_2, rfl, HA, HJ2, BK509, HB⟩ := hcut
    cases kq with
    | zero => exact absurd HA.out (by simp [ratlinelaw07_BlockSeek.j0])
    | succ kj2 =>
      have H := HA.out
      clear HA
      simp only [ratlinelaw07_BlockSeek.j0] at H
      by_cases c10 : x25_2 = true
      · subst c10
        have H1 : ((ratlinelaw07_awake.f kj2).bind fun t511 => (some t511)) = some r := by rw [if_pos rfl] at H; exact H
        clear H
        have H := H1
        clear H1
        replace H := Option.bind_eq_some_iff.mp H
        obtain ⟨t511, A110, H⟩ := H
        replace H : (some t511) = some r := H
        have A11 := Aside0.mk A110
        clear A110
        obtain rfl := Option.some.inj H
        go_wp2_with (first | (go_at_call 21; (with_reducible refine (ratlinelaw07_awake.calls kj2  t511 _ A11.out).mono ?_); rintro e w12 ⟨rfl, hb⟩; have n0_ := Aside0.mk (blk_below (g := gb509) (o := .cells #[.string a1_0, .int .u64 a1_1, .int .u8 a1_2] 50 (0, 0)) (by (with_reducible repeat (first | refine blk_drewN ?_ _ | refine blk_drew ?_ | refine blk_alloc ?_ _)); exact BK509.out) hb); have n1_ := Aside0.mk (below_step (by repeat (first | (with_reducible first | exact HB.out | apply below_alloc | apply pw_below_drewN | apply below_drew1 | refine below_set ?_ GE509.out) | exact HB.out)) hb); clear BK509; clear HB; have BK509 := n0_; have HB := n1_; clear n0_ n1_; (try clear hb); (try clear hb2); (try clear hk); (try clear hi); (try apply_assumption)))
        go_ret
        exact ⟨by first | rfl | (simp [errW_none, errW_some] <;> rfl) | (simp [*, errW_none, errW_some] <;> rfl), by repeat (first | (with_reducible first | exact HB.out | apply below_alloc | apply pw_below_drewN | apply below_drew1 | refine below_set ?_ GE509.out) | exact HB.out)⟩
      · replace c10 := Bool.eq_false_iff.mpr c10
        subst c10
        have H1 : ((ratlinelaw07_Sorted.f l0 64).bind fun t512 => (if (t512.length : Int) = 0 then ((ratlinelaw07_awake.f kj2).bind fun t515 => (some t515)) else ((block_Build.f t512).bind fun bt516 => (if bt516.2 = 0 then (ratlinelaw07_BlockSeek.l0 kj2 t512 bt516.1 t512 (t512.length : Int) 0 a1_0 a1_1 a1_2) else (none))))) = some r := by rw [if_neg (show ¬ (false = true) by decide)] at H; exact H
        clear H
        have H := H1
        clear H1
        replace H := Option.bind_eq_some_iff.mp H
        obtain ⟨t512, A130, H⟩ := H
        replace H : (if (t512.length : Int) = 0 then ((ratlinelaw07_awake.f kj2).bind fun t515 => (some t515)) else ((block_Build.f t512).bind fun bt516 => (if bt516.2 = 0 then (ratlinelaw07_BlockSeek.l0 kj2 t512 bt516.1 t512 (t512.length : Int) 0 a1_0 a1_1 a1_2) else (none)))) = some r := H
        have A13 := Aside0.mk A130
        clear A130
        by_cases c14 : (t512.length : Int) = 0
        · rw [if_pos c14] at H
          have c14b0 : ((t512.length : Int) == 0) = true := beq_iff_eq.mpr c14
          have c14b1 : ((t512.length : Int) != 0) = false := bne_eq_false_iff_eq.mpr c14
          clear c14
          replace H := Option.bind_eq_some_iff.mp H
          obtain ⟨t515, A150, H⟩ := H
          replace H : (some t515) = some r := H
          have A15 := Aside0.mk A150
          clear A150
          obtain rfl := Option.some.inj H
          go_wp2_with (first | ((with_reducible refine gate_callee (f := 30) rfl ?_); refine goesL_ (some 28) rfl rfl Try.func30 (by kernel_rfl) rfl #[.slice A0 l0.length c0, .int .i64 64] rfl (by (try simp only [List.map_toArray, List.map_cons, List.map_nil]); first | done | rfl | (simp only [List.length_drop, List.length_take]; rfl)) ?_; (with_reducible refine (ratlinelaw07_Sorted.calls _ _ l0 64 t512 _ ?side1 ?side2 A13.out).mono ?_); (case side1 => repeat (first | exact (Kd.C_below HR0.out HB.out) | (with_reducible refine Kd.C_alloc ?_ _) | (with_reducible refine Kd.C_drewN ?_ _) | (with_reducible refine Kd.C_drew ?_))); (case side2 => exact HC0.out); rintro e w16 ⟨v513, rfl, ho0, hb⟩; refine ⟨_, rfl, ?_⟩; have n0_ := Aside0.mk (Kd.R_lower ho0 (below_size (by repeat (first | (with_reducible first | exact HB.out | apply below_alloc | apply pw_below_drewN | apply below_drew1 | refine below_set ?_ GE509.out) | exact HB.out)))); have n1_ := Aside0.mk (blk_below (g := gb509) (o := .cells #[.string a1_0, .int .u64 a1_1, .int .u8 a1_2] 50 (0, 0)) (by (with_reducible repeat (first | refine blk_drewN ?_ _ | refine blk_drew ?_ | refine blk_alloc ?_ _)); exact BK509.out) hb); have n2_ := Aside0.mk (below_step (by repeat (first | (with_reducible first | exact HB.out | apply below_alloc | apply pw_below_drewN | apply below_drew1 | refine below_set ?_ GE509.out) | exact HB.out)) hb); clear BK509; clear HB; have HO514 := n0_; have BK509 := n1_; have HB := n2_; clear n0_ n1_ n2_; (try clear hb); (try clear hb2); (try clear hk); (try clear hi); (try clear ho0); obtain ⟨Ao17, co17, eo17⟩ := Kd.R_slice HO514.out; subst eo17) | (go_at_call 21; (with_reducible refine (ratlinelaw07_awake.calls kj2  t515 _ A15.out).mono ?_); rintro e w18 ⟨rfl, hb⟩; have n0_ := Aside0.mk (Kd.R_below (by (with_reducible repeat (first | apply Kd.R_alloc | apply Kd.R_drewN | apply Kd.R_drew)); exact HO514.out) hb); have n1_ := Aside0.mk (blk_below (g := gb509) (o := .cells #[.string a1_0, .int .u64 a1_1, .int .u8 a1_2] 50 (0, 0)) (by (with_reducible repeat (first | refine blk_drewN ?_ _ | refine blk_drew ?_ | refine blk_alloc ?_ _)); exact BK509.out) hb); have n2_ := Aside0.mk (below_step (by repeat (first | (with_reducible first | exact HB.out | apply below_alloc | apply pw_below_drewN | apply below_drew1 | refine below_set ?_ GE509.out) | exact HB.out)) hb); clear HO514; clear BK509; clear HB; have HO514 := n0_; have BK509 := n1_; have HB := n2_; clear n0_ n1_ n2_; (try clear hb); (try clear hb2); (try clear hk); (try clear hi); (try apply_assumption)))
          go_ret
          exact ⟨by first | rfl | (simp [errW_none, errW_some] <;> rfl) | (simp [*, errW_none, errW_some] <;> rfl), by repeat (first | (with_reducible first | exact HB.out | apply below_alloc | apply pw_below_drewN | apply below_drew1 | refine below_set ?_ GE509.out) | exact HB.out)⟩
        · rw [if_neg c14] at H
          have c14b0 : ((t512.length : Int) == 0) = false := beq_eq_false_iff_ne.mpr c14
          have c14b1 : ((t512.length : Int) != 0) = true := bne_iff_ne.mpr c14
          have c14b2 : ¬ (t512 = []) := fun h_ => c14 (by rw [h_]; rfl)
          replace H := Option.bind_eq_some_iff.mp H
          obtain ⟨⟨t516, t517⟩, A190, H⟩ := H
          replace H : (if t517 = 0 then (ratlinelaw07_BlockSeek.l0 kj2 t512 t516 t512 (t512.length : Int) 0 a1_0 a1_1 a1_2) else (none)) = some r := H
          have A19 := Aside0.mk A190
          clear A190
          by_cases c20 : t517 = 0
          · rw [if_pos c20] at H
            have c20b0 : (t517 == 0) = true := beq_iff_eq.mpr c20
            have c20b1 : (t517 != 0) = false := bne_eq_false_iff_eq.mpr c20
            clear c20
            have H' := Aside0.mk H
            clear H
            go_wp2_with (first | ((with_reducible refine gate_callee (f := 30) rfl ?_); refine goesL_ (some 28) rfl rfl Try.func30 (by kernel_rfl) rfl #[.slice A0 l0.length c0, .int .i64 64] rfl (by (try simp only [List.map_toArray, List.map_cons, List.map_nil]); first | done | rfl | (simp only [List.length_drop, List.length_take]; rfl)) ?_; (with_reducible refine (ratlinelaw07_Sorted.calls _ _ l0 64 t512 _ ?side1 ?side2 A13.out).mono ?_); (case side1 => repeat (first | exact (Kd.C_below HR0.out HB.out) | (with_reducible refine Kd.C_alloc ?_ _) | (with_reducible refine Kd.C_drewN ?_ _) | (with_reducible refine Kd.C_drew ?_))); (case side2 => exact HC0.out); rintro e w21 ⟨v513, rfl, ho0, hb⟩; refine ⟨_, rfl, ?_⟩; have n0_ := Aside0.mk (Kd.R_lower ho0 (below_size (by repeat (first | (with_reducible first | exact HB.out | apply below_alloc | apply pw_below_drewN | apply below_drew1 | refine below_set ?_ GE509.out) | exact HB.out)))); have n1_ := Aside0.mk (blk_below (g := gb509) (o := .cells #[.string a1_0, .int .u64 a1_1, .int .u8 a1_2] 50 (0, 0)) (by (with_reducible repeat (first | refine blk_drewN ?_ _ | refine blk_drew ?_ | refine blk_alloc ?_ _)); exact BK509.out) hb); have n2_ := Aside0.mk (below_step (by repeat (first | (with_reducible first | exact HB.out | apply below_alloc | apply pw_below_drewN | apply below_drew1 | refine below_set ?_ GE509.out) | exact HB.out)) hb); clear BK509; clear HB; have HO514 := n0_; have BK509 := n1_; have HB := n2_; clear n0_ n1_ n2_; (try clear hb); (try clear hb2); (try clear hk); (try clear hi); (try clear ho0); obtain ⟨Ao22, co22, eo22⟩ := Kd.R_slice HO514.out; subst eo22) | ((with_reducible refine gate_callee (f := 22) rfl ?_); refine goesL_ (some 35) rfl rfl Try.func22 (by kernel_rfl) rfl #[.slice Ao22 t512.length co22] rfl (by (try simp only [List.map_toArray, List.map_cons, List.map_nil]); first | done | rfl | (simp only [List.length_drop, List.length_take]; rfl)) ?_; (with_reducible refine (block_Build.calls _ _ t512 t516 t517 _ ?side1 ?side2 A19.out).mono ?_); (case side1 => repeat (first | exact (Kd.R_reads' HO514.out).2.2 | (with_reducible refine Kd.C_alloc ?_ _) | (with_reducible refine Kd.C_drewN ?_ _) | (with_reducible refine Kd.C_drew ?_))); (case side2 => exact (Kd.R_reads' HO514.out).2.1); rintro e w23 ⟨v518, rfl, ho0, hb⟩; refine ⟨_, rfl, ?_⟩; have n0_ := Aside0.mk (Kd.R_below (by (with_reducible repeat (first | apply Kd.R_alloc | apply Kd.R_drewN | apply Kd.R_drew)); exact HO514.out) hb); have n1_ := Aside0.mk (Kd.R_lower ho0 (below_size (by repeat (first | (with_reducible first | exact HB.out | apply below_alloc | apply pw_below_drewN | apply below_drew1 | refine below_set ?_ GE509.out) | exact HB.out)))); have n2_ := Aside0.mk (blk_below (g := gb509) (o := .cells #[.string a1_0, .int .u64 a1_1, .int .u8 a1_2] 50 (0, 0)) (by (with_reducible repeat (first | refine blk_drewN ?_ _ | refine blk_drew ?_ | refine blk_alloc ?_ _)); exact BK509.out) hb); have n3_ := Aside0.mk (below_step (by repeat (first | (with_reducible first | exact HB.out | apply below_alloc | apply pw_below_drewN | apply below_drew1 | refine below_set ?_ GE509.out) | exact HB.out)) hb); clear HO514; clear BK509; clear HB; have HO514 := n0_; have HO519 := n1_; have BK509 := n2_; have HB := n3_; clear n0_ n1_ n2_ n3_; (try clear hb); (try clear hb2); (try clear hk); (try clear hi); (try clear ho0)))
            go_loopg [42] kj2 (fun kq v42 w' => ∃ (x42_2 : Int), v42 = .int .i64 x42_2 ∧ Aside0 (ratlinelaw07_BlockSeek.l0 kq t512 t516 t512 (t512.length : Int) x42_2 a1_0 a1_1 a1_2 = some r) ∧ Aside0 (kq ≤ kj2) ∧ Aside0 (Kd.R k59 59 w' w.heap.size (fun _ => True) (.slice Ao22 t512.length co22) t512) ∧ Aside0 (Kd.R (Kd.int .u8) 5 w' w.heap.size (fun _ => True) v518 t516) ∧ Aside0 (Kd.R k59 59 w' w.heap.size (fun _ => True) (.slice Ao22 t512.length co22) t512) ∧ Aside0 (w'.heap[gb509]? = some (.cells #[.string a1_0, .int .u64 a1_1, .int .u8 a1_2] 50 (0, 0))) ∧ Aside0 (Below w.heap.size w w'))
            case atStart => exact ⟨(0), (by first | rfl | (simp; done) | (simp [*]; done)), H', ⟨Nat.le_refl _⟩, ⟨by (with_reducible repeat (first | apply Kd.R_alloc | apply Kd.R_drewN | apply Kd.R_drew)); exact HO514.out⟩, ⟨by (with_reducible repeat (first | apply Kd.R_alloc | apply Kd.R_drewN | apply Kd.R_drew)); exact HO519.out⟩, ⟨by (with_reducible repeat (first | apply Kd.R_alloc | apply Kd.R_drewN | apply Kd.R_drew)); exact HO514.out⟩, ⟨by (with_reducible repeat (first | refine blk_drewN ?_ _ | refine blk_drew ?_ | refine blk_alloc ?_ _)); exact BK509.out⟩, ⟨by repeat (first | (with_reducible first | exact HB.out | apply below_alloc | apply pw_below_drewN | apply below_drew1 | refine below_set ?_ GE509.out) | exact HB.out)⟩⟩
            case round =>
              clear H'
              try clear c1
              try clear c2
              try clear p2
              try clear c3
              try clear c6
              try clear c7
              try clear c10
              try clear c14
              try clear c14b0
              try clear c14b1
              try clear c14b2
              try clear c20
              try clear c20b0
              try clear c20b1
              try clear c22
              try clear hcz8_0
              try clear hcz8_1
              try clear hcz8_2
              try clear hfz8_0
              try clear hfz8_1
              try clear hfz8_2
              try clear p2
              obtain ⟨x42_2, rfl, HA, HK2, HO_0, HO_5, HO_40, BK509, HB⟩ := hrel
              cases gk with
              | zero => exact absurd HA.out (by simp [ratlinelaw07_BlockSeek.l0])
              | succ k2 =>
                have H := HA.out
                clear HA
                simp only [ratlinelaw07_BlockSeek.l0] at H
                by_cases c24 : x42_2 < (t512.length : Int)
                · rw [if_pos c24] at H
                  have c24b0 : decide (x42_2 < (t512.length : Int)) = true := decide_eq_true c24
                  clear c24
                  by_cases c25 : 0 ≤ x42_2
                  · rw [if_pos c25] at H
                    have c25b0 : decide (0 ≤ x42_2) = true := decide_eq_true c25
                    clear c25
                    by_cases c26 : x42_2 < (t512.length : Int)
                    · rw [if_pos c26] at H
                      have c26b0 : decide (x42_2 < (t512.length : Int)) = true := decide_eq_true c26
                      clear c26
                      replace H := Option.bind_eq_some_iff.mp H
                      obtain ⟨⟨t522, t523, t524, t525, t526, t527⟩, A270, H⟩ := H
                      replace H : (if t526 = true then (if t527 = 0 then (if ((!(t522.toList == (((rd_T59 t512 x42_2).f0.f0).toList)) || (!(t523 == ((rd_T59 t512 x42_2).f0.f1)) || (!(t524 == ((rd_T59 t512 x42_2).f0.f2))))) || (!(t525.toList == (((rd_T59 t512 x42_2).f1).toList)))) = true then (none) else (ratlinelaw07_BlockSeek.l0 k2 t512 t516 t512 (t512.length : Int) (wrap64 (x42_2 + 1)) a1_0 a1_1 a1_2)) else (none)) else (none)) = some r := H
                      have A27 := Aside0.mk A270
                      clear A270
                      by_cases c28 : t526 = true
                      · subst c28
                        have H1 : (if t527 = 0 then (if ((!(t522.toList == (((rd_T59 t512 x42_2).f0.f0).toList)) || (!(t523 == ((rd_T59 t512 x42_2).f0.f1)) || (!(t524 == ((rd_T59 t512 x42_2).f0.f2))))) || (!(t525.toList == (((rd_T59 t512 x42_2).f1).toList)))) = true then (none) else (ratlinelaw07_BlockSeek.l0 k2 t512 t516 t512 (t512.length : Int) (wrap64 (x42_2 + 1)) a1_0 a1_1 a1_2)) else (none)) = some r := by rw [if_pos rfl] at H; exact H
                        clear H
                        have H := H1
                        clear H1
                        by_cases c29 : t527 = 0
                        · rw [if_pos c29] at H
                          have c29b0 : (t527 == 0) = true := beq_iff_eq.mpr c29
                          have c29b1 : (t527 != 0) = false := bne_eq_false_iff_eq.mpr c29
                          clear c29
                          by_cases c30 : ((!(t522.toList == (((rd_T59 t512 x42_2).f0.f0).toList)) || (!(t523 == ((rd_T59 t512 x42_2).f0.f1)) || (!(t524 == ((rd_T59 t512 x42_2).f0.f2))))) || (!(t525.toList == (((rd_T59 t512 x42_2).f1).toList)))) = true
                          · rw [if_pos c30] at H
                            exact absurd H (by simp)
                          · rw [if_neg c30] at H
                            have c30b0 : ((!(t522.toList == (((rd_T59 t512 x42_2).f0.f0).toList)) || (!(t523 == ((rd_T59 t512 x42_2).f0.f1)) || (!(t524 == ((rd_T59 t512 x42_2).f0.f2))))) || (!(t525.toList == (((rd_T59 t512 x42_2).f1).toList)))) = false := by simpa using c30
                            clear c30
                            have H' := Aside0.mk H
                            clear H
                            have p520 : 0 ≤ (x42_2 : Int) := of_decide_eq_true (by first | (with_reducible assumption) | assumption)
                            have q520 : x42_2 < (t512.length : Int) := of_decide_eq_true (by first | (with_reducible assumption) | assumption)
                            obtain ⟨ad520, e520, hx520_0, hx520_1, hx520_2, hx520_3⟩ := at_T59 (Kd.R_reads' HO_40.out).2.2 x42_2 p520 q520
                            cases e520
                            replace p520 := eq_true p520
                            replace q520 := eq_true q520
                            go_wp2_with (first | ((with_reducible refine gate_dst (N := 8) rfl ?_); (try (refine gate_guard (by rfl) ?_; dsimp only)); refine box_event ?hg (N := 8) ?hd (cs := #[.string (⟨#[]⟩ : ByteArray), .int .u64 0, .int .u8 0, .string (⟨#[]⟩ : ByteArray)]) (t := 59) ?hr ?_; (case hd => rfl); (case hg => rfl); (case hr => first | (go_simp; done) | (go_simp; rfl)); intro gb521 hg w31 hbox hb; have n0_ := Aside0.mk (Kd.R_below (Kd.R_elderB (by (with_reducible repeat (first | apply Kd.R_alloc | apply Kd.R_drewN | apply Kd.R_drew)); exact HO_0.out) gb521 (Nat.le_of_eq hg.symm)) hb); have n1_ := Aside0.mk (Kd.R_below (by (with_reducible repeat (first | apply Kd.R_alloc | apply Kd.R_drewN | apply Kd.R_drew)); exact HO_5.out) hb); have n2_ := Aside0.mk (Kd.R_below (Kd.R_elderB (by (with_reducible repeat (first | apply Kd.R_alloc | apply Kd.R_drewN | apply Kd.R_drew)); exact HO_40.out) gb521 (Nat.le_of_eq hg.symm)) hb); have n3_ := Aside0.mk (blk_below (g := gb509) (o := .cells #[.string a1_0, .int .u64 a1_1, .int .u8 a1_2] 50 (0, 0)) (by (with_reducible repeat (first | refine blk_drewN ?_ _ | refine blk_drew ?_ | refine blk_alloc ?_ _)); exact BK509.out) hb); have n4_ := Aside0.mk (below_step (by repeat (first | (with_reducible first | exact HB.out | apply below_alloc | apply pw_below_drewN | apply below_drew1 | refine below_set ?_ GE509.out) | exact HB.out)) hb); have n5_ := Aside0.mk (hbox); have n6_ := Aside0.mk ((by rw [hg]; exact (below_size (by repeat (first | (with_reducible first | exact HB.out | apply below_alloc | apply pw_below_drewN | apply below_drew1 | refine below_set ?_ GE509.out) | exact HB.out))) : w.heap.size ≤ gb521)); have n7_ := Aside0.mk ((by rw [hg]; exact (below_size (by repeat (first | (with_reducible first | exact HB.out | apply below_alloc | apply pw_below_drewN | apply below_drew1 | refine below_set ?_ GE509.out) | exact HB.out))) : w.heap.size ≤ gb521)); have n8_ := Aside0.mk ((by rw [hg]; exact Nat.ne_of_lt (blk_lt (g := gb509) (o := .cells #[.string a1_0, .int .u64 a1_1, .int .u8 a1_2] 50 (0, 0)) (by (with_reducible repeat (first | refine blk_drewN ?_ _ | refine blk_drew ?_ | refine blk_alloc ?_ _)); exact BK509.out)) : gb509 ≠ gb521)); have n9_ := Aside0.mk ((by rw [hg]; exact Nat.ne_of_gt (blk_lt (g := gb509) (o := .cells #[.string a1_0, .int .u64 a1_1, .int .u8 a1_2] 50 (0, 0)) (by (with_reducible repeat (first | refine blk_drewN ?_ _ | refine blk_drew ?_ | refine blk_alloc ?_ _)); exact BK509.out)) : gb521 ≠ gb509)); clear HO_0; clear HO_5; clear HO_40; clear BK509; clear HB; have HO_0 := n0_; have HO_5 := n1_; have HO_40 := n2_; have BK509 := n3_; have HB := n4_; have BK521 := n5_; have GW521 := n6_; have GE521 := n7_; have NB509_521 := n8_; have NB521_509 := n9_; clear n0_ n1_ n2_ n3_ n4_ n5_ n6_ n7_ n8_ n9_; clear hb hbox hg; have hnb32 := NB521_509.out; have hnc32 := NB509_521.out; have hcz33_0 : w31.cell? ⟨gb521, 0, none⟩ = some (.string (⟨#[]⟩ : ByteArray)) := (blk_cell BK521.out 0).trans rfl; have hcz33_1 : w31.cell? ⟨gb521, 1, none⟩ = some (.int .u64 0) := (blk_cell BK521.out 1).trans rfl; have hcz33_2 : w31.cell? ⟨gb521, 2, none⟩ = some (.int .u8 0) := (blk_cell BK521.out 2).trans rfl; have hcz33_3 : w31.cell? ⟨gb521, 3, none⟩ = some (.string (⟨#[]⟩ : ByteArray)) := (blk_cell BK521.out 3).trans rfl; have hfz33_0 := blk_frozen BK521.out 0; have hfz33_1 := blk_frozen BK521.out 1; have hfz33_2 := blk_frozen BK521.out 2; have hfz33_3 := blk_frozen BK521.out 3; obtain ⟨Ao34, co34, eo34⟩ := Kd.R_slice HO_5.out; subst eo34) | ((with_reducible refine gate_callee (f := 28) rfl ?_); refine goesL_ (some 50) rfl rfl Try.func28 (by kernel_rfl) rfl #[.slice Ao34 t516.length co34, .agg #[.string ((rd_T59 t512 x42_2).f0.f0), .int .u64 ((rd_T59 t512 x42_2).f0.f1), .int .u8 ((rd_T59 t512 x42_2).f0.f2)]] rfl (by (try simp only [List.map_toArray, List.map_cons, List.map_nil]); first | done | rfl | (simp only [List.length_drop, List.length_take]; rfl)) ?_; (with_reducible refine (block_Seek.calls _ _ t516 ((rd_T59 t512 x42_2).f0.f0) ((rd_T59 t512 x42_2).f0.f1) ((rd_T59 t512 x42_2).f0.f2) t522 t523 t524 t525 true t527 _ ?side1 ?side2 A27.out).mono ?_); (case side1 => refine (Kd.R_reads' (e := 5) (base := w.heap.size) (ok := fun k_ => True) (n := t516.length) (c := co34) ?_).2.2; exact (by (with_reducible repeat (first | apply Kd.R_alloc | apply Kd.R_drewN | apply Kd.R_drew)); exact (Kd.R_mono (Kd.R_far (p := ⟨gb521, 3, none⟩) (Kd.R_far (p := ⟨gb521, 2, none⟩) (Kd.R_far (p := ⟨gb521, 1, none⟩) (Kd.R_far (p := ⟨gb521, 0, none⟩) (Kd.R_types HO_5.out BK521.out (by decide)) (fun _ hk => hk.2) (.string ((rd_T59 t512 x42_2).f0.f0))) (fun _ hk => hk.2) (.int .u64 ((rd_T59 t512 x42_2).f0.f1))) (fun _ hk => hk.2) (.int .u8 ((rd_T59 t512 x42_2).f0.f2))) (fun _ hk => hk.2) (.string ((rd_T59 t512 x42_2).f1))) (fun _ h_ => h_.1)))); (case side2 => exact (Kd.R_reads' HO_5.out).2.1); rintro e w35 ⟨rfl, hb⟩; refine ⟨_, rfl, ?_⟩; have n0_ := Aside0.mk (Kd.R_below (by (with_reducible repeat (first | apply Kd.R_alloc | apply Kd.R_drewN | apply Kd.R_drew)); exact (Kd.R_mono (Kd.R_far (p := ⟨gb521, 3, none⟩) (Kd.R_far (p := ⟨gb521, 2, none⟩) (Kd.R_far (p := ⟨gb521, 1, none⟩) (Kd.R_far (p := ⟨gb521, 0, none⟩) (Kd.R_mono HO_0.out (fun k_ hk => (⟨hk, hk.2⟩ : _ ∧ k_ ≠ gb521))) (fun _ hk => hk.2) (.string ((rd_T59 t512 x42_2).f0.f0))) (fun _ hk => hk.2) (.int .u64 ((rd_T59 t512 x42_2).f0.f1))) (fun _ hk => hk.2) (.int .u8 ((rd_T59 t512 x42_2).f0.f2))) (fun _ hk => hk.2) (.string ((rd_T59 t512 x42_2).f1))) (fun _ h_ => h_.1))) hb); have n1_ := Aside0.mk (Kd.R_below (by (with_reducible repeat (first | apply Kd.R_alloc | apply Kd.R_drewN | apply Kd.R_drew)); exact (Kd.R_mono (Kd.R_far (p := ⟨gb521, 3, none⟩) (Kd.R_far (p := ⟨gb521, 2, none⟩) (Kd.R_far (p := ⟨gb521, 1, none⟩) (Kd.R_far (p := ⟨gb521, 0, none⟩) (Kd.R_types HO_5.out BK521.out (by decide)) (fun _ hk => hk.2) (.string ((rd_T59 t512 x42_2).f0.f0))) (fun _ hk => hk.2) (.int .u64 ((rd_T59 t512 x42_2).f0.f1))) (fun _ hk => hk.2) (.int .u8 ((rd_T59 t512 x42_2).f0.f2))) (fun _ hk => hk.2) (.string ((rd_T59 t512 x42_2).f1))) (fun _ h_ => h_.1))) hb); have n2_ := Aside0.mk (Kd.R_below (by (with_reducible repeat (first | apply Kd.R_alloc | apply Kd.R_drewN | apply Kd.R_drew)); exact (Kd.R_mono (Kd.R_far (p := ⟨gb521, 3, none⟩) (Kd.R_far (p := ⟨gb521, 2, none⟩) (Kd.R_far (p := ⟨gb521, 1, none⟩) (Kd.R_far (p := ⟨gb521, 0, none⟩) (Kd.R_mono HO_40.out (fun k_ hk => (⟨hk, hk.2⟩ : _ ∧ k_ ≠ gb521))) (fun _ hk => hk.2) (.string ((rd_T59 t512 x42_2).f0.f0))) (fun _ hk => hk.2) (.int .u64 ((rd_T59 t512 x42_2).f0.f1))) (fun _ hk => hk.2) (.int .u8 ((rd_T59 t512 x42_2).f0.f2))) (fun _ hk => hk.2) (.string ((rd_T59 t512 x42_2).f1))) (fun _ h_ => h_.1))) hb); have n3_ := Aside0.mk (blk_below (g := gb509) (o := .cells #[.string a1_0, .int .u64 a1_1, .int .u8 a1_2] 50 (0, 0)) (by (with_reducible repeat (first | refine blk_drewN ?_ _ | refine blk_drew ?_ | refine blk_alloc ?_ _)); refine blk_far ?_ NB509_521.out _; (with_reducible repeat (first | refine blk_drewN ?_ _ | refine blk_drew ?_ | refine blk_alloc ?_ _)); refine blk_far ?_ NB509_521.out _; (with_reducible repeat (first | refine blk_drewN ?_ _ | refine blk_drew ?_ | refine blk_alloc ?_ _)); refine blk_far ?_ NB509_521.out _; (with_reducible repeat (first | refine blk_drewN ?_ _ | refine blk_drew ?_ | refine blk_alloc ?_ _)); refine blk_far ?_ NB509_521.out _; (with_reducible repeat (first | refine blk_drewN ?_ _ | refine blk_drew ?_ | refine blk_alloc ?_ _)); exact BK509.out) hb); have n4_ := Aside0.mk (blk_below (g := gb521) (o := .cells #[.string ((rd_T59 t512 x42_2).f0.f0), .int .u64 ((rd_T59 t512 x42_2).f0.f1), .int .u8 ((rd_T59 t512 x42_2).f0.f2), .string ((rd_T59 t512 x42_2).f1)] 59 (0, 0)) (by (with_reducible repeat (first | refine blk_drewN ?_ _ | refine blk_drew ?_ | refine blk_alloc ?_ _)); refine blk_put (cs := #[.string ((rd_T59 t512 x42_2).f0.f0), .int .u64 ((rd_T59 t512 x42_2).f0.f1), .int .u8 ((rd_T59 t512 x42_2).f0.f2), .string (⟨#[]⟩ : ByteArray)]) ?_ 3 _ rfl; (with_reducible repeat (first | refine blk_drewN ?_ _ | refine blk_drew ?_ | refine blk_alloc ?_ _)); refine blk_put (cs := #[.string ((rd_T59 t512 x42_2).f0.f0), .int .u64 ((rd_T59 t512 x42_2).f0.f1), .int .u8 0, .string (⟨#[]⟩ : ByteArray)]) ?_ 2 _ rfl; (with_reducible repeat (first | refine blk_drewN ?_ _ | refine blk_drew ?_ | refine blk_alloc ?_ _)); refine blk_put (cs := #[.string ((rd_T59 t512 x42_2).f0.f0), .int .u64 0, .int .u8 0, .string (⟨#[]⟩ : ByteArray)]) ?_ 1 _ rfl; (with_reducible repeat (first | refine blk_drewN ?_ _ | refine blk_drew ?_ | refine blk_alloc ?_ _)); refine blk_put (cs := #[.string (⟨#[]⟩ : ByteArray), .int .u64 0, .int .u8 0, .string (⟨#[]⟩ : ByteArray)]) ?_ 0 _ rfl; (with_reducible repeat (first | refine blk_drewN ?_ _ | refine blk_drew ?_ | refine blk_alloc ?_ _)); exact BK521.out) hb); have n5_ := Aside0.mk (below_step (by repeat (first | (with_reducible first | exact HB.out | apply below_alloc | apply pw_below_drewN | apply below_drew1 | refine below_set ?_ GE509.out | refine below_set ?_ GE521.out) | exact HB.out)) hb); clear HO_0; clear HO_5; clear HO_40; clear BK509; clear BK521; clear HB; have HO_0 := n0_; have HO_5 := n1_; have HO_40 := n2_; have BK509 := n3_; have BK521 := n4_; have HB := n5_; clear n0_ n1_ n2_ n3_ n4_ n5_; (try clear hb); (try clear hb2); (try clear hk); (try clear hi)) | ((with_reducible refine gate_dst (N := 9) rfl ?_); (try (refine gate_guard (by rfl) ?_; dsimp only)); refine box_event ?hg (N := 9) ?hd (cs := #[.string (⟨#[]⟩ : ByteArray), .int .u64 0, .int .u8 0, .string (⟨#[]⟩ : ByteArray)]) (t := 59) ?hr ?_; (case hd => rfl); (case hg => rfl); (case hr => first | (go_simp; done) | (go_simp; rfl)); intro gb528 hg w36 hbox hb; have n0_ := Aside0.mk (Kd.R_below (Kd.R_elderB (by (with_reducible repeat (first | apply Kd.R_alloc | apply Kd.R_drewN | apply Kd.R_drew)); exact HO_0.out) gb528 (Nat.le_of_eq hg.symm)) hb); have n1_ := Aside0.mk (Kd.R_below (by (with_reducible repeat (first | apply Kd.R_alloc | apply Kd.R_drewN | apply Kd.R_drew)); exact HO_5.out) hb); have n2_ := Aside0.mk (Kd.R_below (Kd.R_elderB (by (with_reducible repeat (first | apply Kd.R_alloc | apply Kd.R_drewN | apply Kd.R_drew)); exact HO_40.out) gb528 (Nat.le_of_eq hg.symm)) hb); have n3_ := Aside0.mk (blk_below (g := gb509) (o := .cells #[.string a1_0, .int .u64 a1_1, .int .u8 a1_2] 50 (0, 0)) (by (with_reducible repeat (first | refine blk_drewN ?_ _ | refine blk_drew ?_ | refine blk_alloc ?_ _)); exact BK509.out) hb); have n4_ := Aside0.mk (blk_below (g := gb521) (o := .cells #[.string ((rd_T59 t512 x42_2).f0.f0), .int .u64 ((rd_T59 t512 x42_2).f0.f1), .int .u8 ((rd_T59 t512 x42_2).f0.f2), .string ((rd_T59 t512 x42_2).f1)] 59 (0, 0)) (by (with_reducible repeat (first | refine blk_drewN ?_ _ | refine blk_drew ?_ | refine blk_alloc ?_ _)); exact BK521.out) hb); have n5_ := Aside0.mk (below_step (by repeat (first | (with_reducible first | exact HB.out | apply below_alloc | apply pw_below_drewN | apply below_drew1 | refine below_set ?_ GE509.out | refine below_set ?_ GE521.out) | exact HB.out)) hb); have n6_ := Aside0.mk (hbox); have n7_ := Aside0.mk ((by rw [hg]; exact (below_size (by repeat (first | (with_reducible first | exact HB.out | apply below_alloc | apply pw_below_drewN | apply below_drew1 | refine below_set ?_ GE509.out | refine below_set ?_ GE521.out) | exact HB.out))) : w.heap.size ≤ gb528)); have n8_ := Aside0.mk ((by rw [hg]; exact (below_size (by repeat (first | (with_reducible first | exact HB.out | apply below_alloc | apply pw_below_drewN | apply below_drew1 | refine below_set ?_ GE509.out | refine below_set ?_ GE521.out) | exact HB.out))) : w.heap.size ≤ gb528)); have n9_ := Aside0.mk ((by rw [hg]; exact Nat.ne_of_lt (blk_lt (g := gb509) (o := .cells #[.string a1_0, .int .u64 a1_1, .int .u8 a1_2] 50 (0, 0)) (by (with_reducible repeat (first | refine blk_drewN ?_ _ | refine blk_drew ?_ | refine blk_alloc ?_ _)); exact BK509.out)) : gb509 ≠ gb528)); have n10_ := Aside0.mk ((by rw [hg]; exact Nat.ne_of_gt (blk_lt (g := gb509) (o := .cells #[.string a1_0, .int .u64 a1_1, .int .u8 a1_2] 50 (0, 0)) (by (with_reducible repeat (first | refine blk_drewN ?_ _ | refine blk_drew ?_ | refine blk_alloc ?_ _)); exact BK509.out)) : gb528 ≠ gb509)); have n11_ := Aside0.mk ((by rw [hg]; exact Nat.ne_of_lt (blk_lt (g := gb521) (o := .cells #[.string ((rd_T59 t512 x42_2).f0.f0), .int .u64 ((rd_T59 t512 x42_2).f0.f1), .int .u8 ((rd_T59 t512 x42_2).f0.f2), .string ((rd_T59 t512 x42_2).f1)] 59 (0, 0)) (by (with_reducible repeat (first | refine blk_drewN ?_ _ | refine blk_drew ?_ | refine blk_alloc ?_ _)); exact BK521.out)) : gb521 ≠ gb528)); have n12_ := Aside0.mk ((by rw [hg]; exact Nat.ne_of_gt (blk_lt (g := gb521) (o := .cells #[.string ((rd_T59 t512 x42_2).f0.f0), .int .u64 ((rd_T59 t512 x42_2).f0.f1), .int .u8 ((rd_T59 t512 x42_2).f0.f2), .string ((rd_T59 t512 x42_2).f1)] 59 (0, 0)) (by (with_reducible repeat (first | refine blk_drewN ?_ _ | refine blk_drew ?_ | refine blk_alloc ?_ _)); exact BK521.out)) : gb528 ≠ gb521)); clear HO_0; clear HO_5; clear HO_40; clear BK509; clear BK521; clear HB; have HO_0 := n0_; have HO_5 := n1_; have HO_40 := n2_; have BK509 := n3_; have BK521 := n4_; have HB := n5_; have BK528 := n6_; have GW528 := n7_; have GE528 := n8_; have NB509_528 := n9_; have NB528_509 := n10_; have NB521_528 := n11_; have NB528_521 := n12_; clear n0_ n1_ n2_ n3_ n4_ n5_ n6_ n7_ n8_ n9_ n10_ n11_ n12_; clear hb hbox hg; have hnb37 := NB528_509.out; have hnc37 := NB509_528.out; have hnb38 := NB528_521.out; have hnc38 := NB521_528.out; have hcz39_0 : w36.cell? ⟨gb528, 0, none⟩ = some (.string (⟨#[]⟩ : ByteArray)) := (blk_cell BK528.out 0).trans rfl; have hcz39_1 : w36.cell? ⟨gb528, 1, none⟩ = some (.int .u64 0) := (blk_cell BK528.out 1).trans rfl; have hcz39_2 : w36.cell? ⟨gb528, 2, none⟩ = some (.int .u8 0) := (blk_cell BK528.out 2).trans rfl; have hcz39_3 : w36.cell? ⟨gb528, 3, none⟩ = some (.string (⟨#[]⟩ : ByteArray)) := (blk_cell BK528.out 3).trans rfl; have hfz39_0 := blk_frozen BK528.out 0; have hfz39_1 := blk_frozen BK528.out 1; have hfz39_2 := blk_frozen BK528.out 2; have hfz39_3 := blk_frozen BK528.out 3; have hcz40_0 : w36.cell? ⟨gb521, 0, none⟩ = some (.string ((rd_T59 t512 x42_2).f0.f0)) := (blk_cell BK521.out 0).trans rfl; have hcz40_1 : w36.cell? ⟨gb521, 1, none⟩ = some (.int .u64 ((rd_T59 t512 x42_2).f0.f1)) := (blk_cell BK521.out 1).trans rfl; have hcz40_2 : w36.cell? ⟨gb521, 2, none⟩ = some (.int .u8 ((rd_T59 t512 x42_2).f0.f2)) := (blk_cell BK521.out 2).trans rfl; have hcz40_3 : w36.cell? ⟨gb521, 3, none⟩ = some (.string ((rd_T59 t512 x42_2).f1)) := (blk_cell BK521.out 3).trans rfl; have hfz40_0 := blk_frozen BK521.out 0; have hfz40_1 := blk_frozen BK521.out 1; have hfz40_2 := blk_frozen BK521.out 2; have hfz40_3 := blk_frozen BK521.out 3))
                            go_roundg k2
                            case measure => have := HJ2.out; have := HK2.out; omega
                            case rel => exact ⟨(wrap64 (x42_2 + 1)), (by first | rfl | (simp; done) | (simp [*]; done)), H', ⟨by have := HJ2.out; have := HK2.out; omega⟩, ⟨by (with_reducible repeat (first | apply Kd.R_alloc | apply Kd.R_drewN | apply Kd.R_drew)); exact Kd.R_mono (Kd.R_far (p := ⟨gb528, 3, none⟩) (Kd.R_far (p := ⟨gb528, 2, none⟩) (Kd.R_far (p := ⟨gb528, 1, none⟩) (Kd.R_far (p := ⟨gb528, 0, none⟩) (Kd.R_mono HO_0.out (fun k_ hk => (⟨hk, hk.2⟩ : _ ∧ k_ ≠ gb528))) (fun _ hk => hk.2) (.string t522)) (fun _ hk => hk.2) (.int .u64 t523)) (fun _ hk => hk.2) (.int .u8 t524)) (fun _ hk => hk.2) (.string t525)) (fun _ hk => trivial)⟩, ⟨by (with_reducible repeat (first | apply Kd.R_alloc | apply Kd.R_drewN | apply Kd.R_drew)); exact Kd.R_mono (Kd.R_far (p := ⟨gb528, 3, none⟩) (Kd.R_far (p := ⟨gb528, 2, none⟩) (Kd.R_far (p := ⟨gb528, 1, none⟩) (Kd.R_far (p := ⟨gb528, 0, none⟩) (Kd.R_types HO_5.out BK528.out (by decide)) (fun _ hk => hk.2) (.string t522)) (fun _ hk => hk.2) (.int .u64 t523)) (fun _ hk => hk.2) (.int .u8 t524)) (fun _ hk => hk.2) (.string t525)) (fun _ hk => trivial)⟩, ⟨by (with_reducible repeat (first | apply Kd.R_alloc | apply Kd.R_drewN | apply Kd.R_drew)); exact Kd.R_mono (Kd.R_far (p := ⟨gb528, 3, none⟩) (Kd.R_far (p := ⟨gb528, 2, none⟩) (Kd.R_far (p := ⟨gb528, 1, none⟩) (Kd.R_far (p := ⟨gb528, 0, none⟩) (Kd.R_mono HO_40.out (fun k_ hk => (⟨hk, hk.2⟩ : _ ∧ k_ ≠ gb528))) (fun _ hk => hk.2) (.string t522)) (fun _ hk => hk.2) (.int .u64 t523)) (fun _ hk => hk.2) (.int .u8 t524)) (fun _ hk => hk.2) (.string t525)) (fun _ hk => trivial)⟩, ⟨by (with_reducible repeat (first | refine blk_drewN ?_ _ | refine blk_drew ?_ | refine blk_alloc ?_ _)); refine blk_far ?_ NB509_528.out _; (with_reducible repeat (first | refine blk_drewN ?_ _ | refine blk_drew ?_ | refine blk_alloc ?_ _)); refine blk_far ?_ NB509_528.out _; (with_reducible repeat (first | refine blk_drewN ?_ _ | refine blk_drew ?_ | refine blk_alloc ?_ _)); refine blk_far ?_ NB509_528.out _; (with_reducible repeat (first | refine blk_drewN ?_ _ | refine blk_drew ?_ | refine blk_alloc ?_ _)); refine blk_far ?_ NB509_528.out _; (with_reducible repeat (first | refine blk_drewN ?_ _ | refine blk_drew ?_ | refine blk_alloc ?_ _)); exact BK509.out⟩, ⟨by repeat (first | (with_reducible first | exact HB.out | apply below_alloc | apply pw_below_drewN | apply below_drew1 | refine below_set ?_ GE509.out | refine below_set ?_ GE521.out | refine below_set ?_ GE528.out) | exact HB.out)⟩⟩
                        · rw [if_neg c29] at H
                          exact absurd H (by simp)
                      · replace c28 := Bool.eq_false_iff.mpr c28
                        subst c28
                        have H1 : (none) = some r := by rw [if_neg (show ¬ (false = true) by decide)] at H; exact H
                        clear H
                        have H := H1
                        clear H1
                        exact absurd H (by simp)
                    · rw [if_neg c26] at H
                      exact absurd H (by simp)
                  · rw [if_neg c25] at H
                    exact absurd H (by simp)
                · rw [if_neg c24] at H
                  have c24b0 : decide (x42_2 < (t512.length : Int)) = false := decide_eq_false c24
                  clear c24
                  replace H := Option.bind_eq_some_iff.mp H
                  obtain ⟨⟨t529, t530, t531, t532, t533, t534⟩, A410, H⟩ := H
                  replace H : (if t534 = 0 then (ratlinelaw07_BlockSeek.l1 k2 t533 t512 (t512.length : Int) 0 a1_0 a1_1 a1_2 t529 t530 t531 t532) else (none)) = some r := H
                  have A41 := Aside0.mk A410
                  clear A410
                  by_cases c42 : t534 = 0
                  · rw [if_pos c42] at H
                    have c42b0 : (t534 == 0) = true := beq_iff_eq.mpr c42
                    have c42b1 : (t534 != 0) = false := bne_eq_false_iff_eq.mpr c42
                    clear c42
                    have H' := Aside0.mk H
                    clear H
                    have hcz43_0 : wr.cell? ⟨gb509, 0, none⟩ = some (.string a1_0) := (blk_cell BK509.out 0).trans rfl
                    have hcz43_1 : wr.cell? ⟨gb509, 1, none⟩ = some (.int .u64 a1_1) := (blk_cell BK509.out 1).trans rfl
                    have hcz43_2 : wr.cell? ⟨gb509, 2, none⟩ = some (.int .u8 a1_2) := (blk_cell BK509.out 2).trans rfl
                    have hfz43_0 := blk_frozen BK509.out 0
                    have hfz43_1 := blk_frozen BK509.out 1
                    have hfz43_2 := blk_frozen BK509.out 2
                    obtain ⟨Ao44, co44, eo44⟩ := Kd.R_slice HO_5.out
                    subst eo44
                    go_wp2_with (first | ((with_reducible refine gate_callee (f := 28) rfl ?_); refine goesL_ (some 69) rfl rfl Try.func28 (by kernel_rfl) rfl #[.slice Ao44 t516.length co44, .agg #[.string a1_0, .int .u64 a1_1, .int .u8 a1_2]] rfl (by (try simp only [List.map_toArray, List.map_cons, List.map_nil]); first | done | rfl | (simp only [List.length_drop, List.length_take]; rfl)) ?_; (with_reducible refine (block_Seek.calls _ _ t516 a1_0 a1_1 a1_2 t529 t530 t531 t532 t533 t534 _ ?side1 ?side2 A41.out).mono ?_); (case side1 => repeat (first | exact (Kd.R_reads' HO_5.out).2.2 | (with_reducible refine Kd.C_alloc ?_ _) | (with_reducible refine Kd.C_drewN ?_ _) | (with_reducible refine Kd.C_drew ?_))); (case side2 => exact (Kd.R_reads' HO_5.out).2.1); rintro e w45 ⟨rfl, hb⟩; refine ⟨_, rfl, ?_⟩; have n0_ := Aside0.mk (Kd.R_below (by (with_reducible repeat (first | apply Kd.R_alloc | apply Kd.R_drewN | apply Kd.R_drew)); exact HO_0.out) hb); have n1_ := Aside0.mk (Kd.R_below (by (with_reducible repeat (first | apply Kd.R_alloc | apply Kd.R_drewN | apply Kd.R_drew)); exact HO_5.out) hb); have n2_ := Aside0.mk (Kd.R_below (by (with_reducible repeat (first | apply Kd.R_alloc | apply Kd.R_drewN | apply Kd.R_drew)); exact HO_40.out) hb); have n3_ := Aside0.mk (blk_below (g := gb509) (o := .cells #[.string a1_0, .int .u64 a1_1, .int .u8 a1_2] 50 (0, 0)) (by (with_reducible repeat (first | refine blk_drewN ?_ _ | refine blk_drew ?_ | refine blk_alloc ?_ _)); exact BK509.out) hb); have n4_ := Aside0.mk (below_step (by repeat (first | (with_reducible first | exact HB.out | apply below_alloc | apply pw_below_drewN | apply below_drew1 | refine below_set ?_ GE509.out) | exact HB.out)) hb); clear HO_0; clear HO_5; clear HO_40; clear BK509; clear HB; have HO_0 := n0_; have HO_5 := n1_; have HO_40 := n2_; have BK509 := n3_; have HB := n4_; clear n0_ n1_ n2_ n3_ n4_; (try clear hb); (try clear hb2); (try clear hk); (try clear hi)) | ((with_reducible refine gate_dst (N := 12) rfl ?_); (try (refine gate_guard (by rfl) ?_; dsimp only)); refine box_event ?hg (N := 12) ?hd (cs := #[.string (⟨#[]⟩ : ByteArray), .int .u64 0, .int .u8 0, .string (⟨#[]⟩ : ByteArray)]) (t := 59) ?hr ?_; (case hd => rfl); (case hg => rfl); (case hr => first | (go_simp; done) | (go_simp; rfl)); intro gb535 hg w46 hbox hb; have n0_ := Aside0.mk (Kd.R_below (Kd.R_elderB (by (with_reducible repeat (first | apply Kd.R_alloc | apply Kd.R_drewN | apply Kd.R_drew)); exact HO_0.out) gb535 (Nat.le_of_eq hg.symm)) hb); have n1_ := Aside0.mk (Kd.R_below (by (with_reducible repeat (first | apply Kd.R_alloc | apply Kd.R_drewN | apply Kd.R_drew)); exact HO_5.out) hb); have n2_ := Aside0.mk (Kd.R_below (Kd.R_elderB (by (with_reducible repeat (first | apply Kd.R_alloc | apply Kd.R_drewN | apply Kd.R_drew)); exact HO_40.out) gb535 (Nat.le_of_eq hg.symm)) hb); have n3_ := Aside0.mk (blk_below (g := gb509) (o := .cells #[.string a1_0, .int .u64 a1_1, .int .u8 a1_2] 50 (0, 0)) (by (with_reducible repeat (first | refine blk_drewN ?_ _ | refine blk_drew ?_ | refine blk_alloc ?_ _)); exact BK509.out) hb); have n4_ := Aside0.mk (below_step (by repeat (first | (with_reducible first | exact HB.out | apply below_alloc | apply pw_below_drewN | apply below_drew1 | refine below_set ?_ GE509.out) | exact HB.out)) hb); have n5_ := Aside0.mk (hbox); have n6_ := Aside0.mk ((by rw [hg]; exact (below_size (by repeat (first | (with_reducible first | exact HB.out | apply below_alloc | apply pw_below_drewN | apply below_drew1 | refine below_set ?_ GE509.out) | exact HB.out))) : w.heap.size ≤ gb535)); have n7_ := Aside0.mk ((by rw [hg]; exact (below_size (by repeat (first | (with_reducible first | exact HB.out | apply below_alloc | apply pw_below_drewN | apply below_drew1 | refine below_set ?_ GE509.out) | exact HB.out))) : w.heap.size ≤ gb535)); have n8_ := Aside0.mk ((by rw [hg]; exact Nat.ne_of_lt (blk_lt (g := gb509) (o := .cells #[.string a1_0, .int .u64 a1_1, .int .u8 a1_2] 50 (0, 0)) (by (with_reducible repeat (first | refine blk_drewN ?_ _ | refine blk_drew ?_ | refine blk_alloc ?_ _)); exact BK509.out)) : gb509 ≠ gb535)); have n9_ := Aside0.mk ((by rw [hg]; exact Nat.ne_of_gt (blk_lt (g := gb509) (o := .cells #[.string a1_0, .int .u64 a1_1, .int .u8 a1_2] 50 (0, 0)) (by (with_reducible repeat (first | refine blk_drewN ?_ _ | refine blk_drew ?_ | refine blk_alloc ?_ _)); exact BK509.out)) : gb535 ≠ gb509)); clear HO_0; clear HO_5; clear HO_40; clear BK509; clear HB; have HO_0 := n0_; have HO_5 := n1_; have HO_40 := n2_; have BK509 := n3_; have HB := n4_; have BK535 := n5_; have GW535 := n6_; have GE535 := n7_; have NB509_535 := n8_; have NB535_509 := n9_; clear n0_ n1_ n2_ n3_ n4_ n5_ n6_ n7_ n8_ n9_; clear hb hbox hg; have hnb47 := NB535_509.out; have hnc47 := NB509_535.out; have hcz48_0 : w46.cell? ⟨gb535, 0, none⟩ = some (.string (⟨#[]⟩ : ByteArray)) := (blk_cell BK535.out 0).trans rfl; have hcz48_1 : w46.cell? ⟨gb535, 1, none⟩ = some (.int .u64 0) := (blk_cell BK535.out 1).trans rfl; have hcz48_2 : w46.cell? ⟨gb535, 2, none⟩ = some (.int .u8 0) := (blk_cell BK535.out 2).trans rfl; have hcz48_3 : w46.cell? ⟨gb535, 3, none⟩ = some (.string (⟨#[]⟩ : ByteArray)) := (blk_cell BK535.out 3).trans rfl; have hfz48_0 := blk_frozen BK535.out 0; have hfz48_1 := blk_frozen BK535.out 1; have hfz48_2 := blk_frozen BK535.out 2; have hfz48_3 := blk_frozen BK535.out 3))
                    go_loopg [77] k2 (fun kq v77 w' => ∃ (x77_3 : Int), v77 = .int .i64 x77_3 ∧ Aside0 (ratlinelaw07_BlockSeek.l1 kq t533 t512 (t512.length : Int) x77_3 a1_0 a1_1 a1_2 t529 t530 t531 t532 = some r) ∧ Aside0 (kq ≤ k2) ∧ Aside0 (Kd.R k59 59 w' w.heap.size (fun k_ => k_ ≠ gb535) (.slice Ao22 t512.length co22) t512) ∧ Aside0 (w'.heap[gb509]? = some (.cells #[.string a1_0, .int .u64 a1_1, .int .u8 a1_2] 50 (0, 0))) ∧ Aside0 (w'.heap[gb535]? = some (.cells #[.string t529, .int .u64 t530, .int .u8 t531, .string t532] 59 (0, 0))) ∧ Aside0 (Below w.heap.size w w'))
                    case atStart => exact ⟨(0), (by first | rfl | (simp; done) | (simp [*]; done)), H', ⟨Nat.le_refl _⟩, ⟨by (with_reducible repeat (first | apply Kd.R_alloc | apply Kd.R_drewN | apply Kd.R_drew)); exact Kd.R_mono (Kd.R_far (p := ⟨gb535, 3, none⟩) (Kd.R_far (p := ⟨gb535, 2, none⟩) (Kd.R_far (p := ⟨gb535, 1, none⟩) (Kd.R_far (p := ⟨gb535, 0, none⟩) (Kd.R_mono HO_0.out (fun k_ hk => (⟨hk, hk.2⟩ : _ ∧ k_ ≠ gb535))) (fun _ hk => hk.2) (.string t529)) (fun _ hk => hk.2) (.int .u64 t530)) (fun _ hk => hk.2) (.int .u8 t531)) (fun _ hk => hk.2) (.string t532)) (fun _ hk => hk.1.2)⟩, ⟨by (with_reducible repeat (first | refine blk_drewN ?_ _ | refine blk_drew ?_ | refine blk_alloc ?_ _)); refine blk_far ?_ NB509_535.out _; (with_reducible repeat (first | refine blk_drewN ?_ _ | refine blk_drew ?_ | refine blk_alloc ?_ _)); refine blk_far ?_ NB509_535.out _; (with_reducible repeat (first | refine blk_drewN ?_ _ | refine blk_drew ?_ | refine blk_alloc ?_ _)); refine blk_far ?_ NB509_535.out _; (with_reducible repeat (first | refine blk_drewN ?_ _ | refine blk_drew ?_ | refine blk_alloc ?_ _)); refine blk_far ?_ NB509_535.out _; (with_reducible repeat (first | refine blk_drewN ?_ _ | refine blk_drew ?_ | refine blk_alloc ?_ _)); exact BK509.out⟩, ⟨by (with_reducible repeat (first | refine blk_drewN ?_ _ | refine blk_drew ?_ | refine blk_alloc ?_ _)); refine blk_put (cs := #[.string t529, .int .u64 t530, .int .u8 t531, .string (⟨#[]⟩ : ByteArray)]) ?_ 3 _ rfl; (with_reducible repeat (first | refine blk_drewN ?_ _ | refine blk_drew ?_ | refine blk_alloc ?_ _)); refine blk_put (cs := #[.string t529, .int .u64 t530, .int .u8 0, .string (⟨#[]⟩ : ByteArray)]) ?_ 2 _ rfl; (with_reducible repeat (first | refine blk_drewN ?_ _ | refine blk_drew ?_ | refine blk_alloc ?_ _)); refine blk_put (cs := #[.string t529, .int .u64 0, .int .u8 0, .string (⟨#[]⟩ : ByteArray)]) ?_ 1 _ rfl; (with_reducible repeat (first | refine blk_drewN ?_ _ | refine blk_drew ?_ | refine blk_alloc ?_ _)); refine blk_put (cs := #[.string (⟨#[]⟩ : ByteArray), .int .u64 0, .int .u8 0, .string (⟨#[]⟩ : ByteArray)]) ?_ 0 _ rfl; (with_reducible repeat (first | refine blk_drewN ?_ _ | refine blk_drew ?_ | refine blk_alloc ?_ _)); exact BK535.out⟩, ⟨by repeat (first | (with_reducible first | exact HB.out | apply below_alloc | apply pw_below_drewN | apply below_drew1 | refine below_set ?_ GE509.out | refine below_set ?_ GE535.out) | exact HB.out)⟩⟩
                    case round =>
                      clear H'
                      try clear c1
                      try clear c2
                      try clear p2
                      try clear c3
                      try clear c4
                      try clear p5
                      try clear q5
                      try clear hx5
                      try clear c6
                      try clear p6
                      try clear c7
                      try clear c10
                      try clear c14
                      try clear c14b0
                      try clear c14b1
                      try clear c14b2
                      try clear c20
                      try clear c20b0
                      try clear c20b1
                      try clear c22
                      try clear c24
                      try clear c24b0
                      try clear c25
                      try clear c25b0
                      try clear c26
                      try clear c26b0
                      try clear c28
                      try clear c29
                      try clear c29b0
                      try clear c29b1
                      try clear c30
                      try clear c30b0
                      try clear c32
                      try clear c37
                      try clear c38
                      try clear c42
                      try clear c42b0
                      try clear c42b1
                      try clear c47
                      try clear hcz33_0
                      try clear hcz33_1
                      try clear hcz33_2
                      try clear hcz33_3
                      try clear hcz39_0
                      try clear hcz39_1
                      try clear hcz39_2
                      try clear hcz39_3
                      try clear hcz40_0
                      try clear hcz40_1
                      try clear hcz40_2
                      try clear hcz40_3
                      try clear hcz43_0
                      try clear hcz43_1
                      try clear hcz43_2
                      try clear hcz48_0
                      try clear hcz48_1
                      try clear hcz48_2
                      try clear hcz48_3
                      try clear hcz8_0
                      try clear hcz8_1
                      try clear hcz8_2
                      try clear hfz33_0
                      try clear hfz33_1
                      try clear hfz33_2
                      try clear hfz33_3
                      try clear hfz39_0
                      try clear hfz39_1
                      try clear hfz39_2
                      try clear hfz39_3
                      try clear hfz40_0
                      try clear hfz40_1
                      try clear hfz40_2
                      try clear hfz40_3
                      try clear hfz43_0
                      try clear hfz43_1
                      try clear hfz43_2
                      try clear hfz48_0
                      try clear hfz48_1
                      try clear hfz48_2
                      try clear hfz48_3
                      try clear hfz8_0
                      try clear hfz8_1
                      try clear hfz8_2
                      try clear hx520_0
                      try clear hx520_1
                      try clear hx520_2
                      try clear hx520_3
                      try clear p2
                      try clear p520
                      try clear q520
                      obtain ⟨x77_3, rfl, HA, HK3, HO_75, BK509, BK535, HB⟩ := hrel
                      cases gk with
                      | zero => exact absurd HA.out (by simp [ratlinelaw07_BlockSeek.l1])
                      | succ k3 =>
                        have H := HA.out
                        clear HA
                        simp only [ratlinelaw07_BlockSeek.l1] at H
                        by_cases c49 : x77_3 < (t512.length : Int)
                        · rw [if_pos c49] at H
                          have c49b0 : decide (x77_3 < (t512.length : Int)) = true := decide_eq_true c49
                          clear c49
                          by_cases c50 : 0 ≤ x77_3
                          · rw [if_pos c50] at H
                            have c50b0 : decide (0 ≤ x77_3) = true := decide_eq_true c50
                            clear c50
                            by_cases c51 : x77_3 < (t512.length : Int)
                            · rw [if_pos c51] at H
                              have c51b0 : decide (x77_3 < (t512.length : Int)) = true := decide_eq_true c51
                              clear c51
                              replace H := Option.bind_eq_some_iff.mp H
                              obtain ⟨t539, A520, H⟩ := H
                              replace H : (if t539 < 0 then (ratlinelaw07_BlockSeek.l1 k3 t533 t512 (t512.length : Int) (wrap64 (x77_3 + 1)) a1_0 a1_1 a1_2 t529 t530 t531 t532) else (if t533 = true then (if ((t529.toList == (((rd_T59 t512 x77_3).f0.f0).toList) && (t530 == ((rd_T59 t512 x77_3).f0.f1) && (t531 == ((rd_T59 t512 x77_3).f0.f2)))) && (t532.toList == (((rd_T59 t512 x77_3).f1).toList))) = true then ((ratlinelaw07_awake.f k3).bind fun t540 => (some t540)) else (none)) else (none))) = some r := H
                              have A52 := Aside0.mk A520
                              clear A520
                              by_cases c53 : t539 < 0
                              · rw [if_pos c53] at H
                                have c53b0 : decide (t539 < 0) = true := decide_eq_true c53
                                clear c53
                                have H' := Aside0.mk H
                                clear H
                                have p537 : 0 ≤ (x77_3 : Int) := of_decide_eq_true (by first | (with_reducible assumption) | assumption)
                                have q537 : x77_3 < (t512.length : Int) := of_decide_eq_true (by first | (with_reducible assumption) | assumption)
                                obtain ⟨ad537, e537, hx537_0, hx537_1, hx537_2, hx537_3⟩ := at_T59 (Kd.R_reads' HO_75.out).2.2 x77_3 p537 q537
                                cases e537
                                replace p537 := eq_true p537
                                replace q537 := eq_true q537
                                go_wp2_with (first | ((with_reducible refine gate_dst (N := 16) rfl ?_); (try (refine gate_guard (by rfl) ?_; dsimp only)); refine box_event ?hg (N := 16) ?hd (cs := #[.string (⟨#[]⟩ : ByteArray), .int .u64 0, .int .u8 0, .string (⟨#[]⟩ : ByteArray)]) (t := 59) ?hr ?_; (case hd => rfl); (case hg => rfl); (case hr => first | (go_simp; done) | (go_simp; rfl)); intro gb538 hg w54 hbox hb; have n0_ := Aside0.mk (Kd.R_below (Kd.R_elderB (by (with_reducible repeat (first | apply Kd.R_alloc | apply Kd.R_drewN | apply Kd.R_drew)); exact HO_75.out) gb538 (Nat.le_of_eq hg.symm)) hb); have n1_ := Aside0.mk (blk_below (g := gb509) (o := .cells #[.string a1_0, .int .u64 a1_1, .int .u8 a1_2] 50 (0, 0)) (by (with_reducible repeat (first | refine blk_drewN ?_ _ | refine blk_drew ?_ | refine blk_alloc ?_ _)); exact BK509.out) hb); have n2_ := Aside0.mk (blk_below (g := gb535) (o := .cells #[.string t529, .int .u64 t530, .int .u8 t531, .string t532] 59 (0, 0)) (by (with_reducible repeat (first | refine blk_drewN ?_ _ | refine blk_drew ?_ | refine blk_alloc ?_ _)); exact BK535.out) hb); have n3_ := Aside0.mk (below_step (by repeat (first | (with_reducible first | exact HB.out | apply below_alloc | apply pw_below_drewN | apply below_drew1 | refine below_set ?_ GE509.out | refine below_set ?_ GE535.out) | exact HB.out)) hb); have n4_ := Aside0.mk (hbox); have n5_ := Aside0.mk ((by rw [hg]; exact (below_size (by repeat (first | (with_reducible first | exact HB.out | apply below_alloc | apply pw_below_drewN | apply below_drew1 | refine below_set ?_ GE509.out | refine below_set ?_ GE535.out) | exact HB.out))) : w.heap.size ≤ gb538)); have n6_ := Aside0.mk ((by rw [hg]; exact (below_size (by repeat (first | (with_reducible first | exact HB.out | apply below_alloc | apply pw_below_drewN | apply below_drew1 | refine below_set ?_ GE509.out | refine below_set ?_ GE535.out) | exact HB.out))) : w.heap.size ≤ gb538)); have n7_ := Aside0.mk ((by rw [hg]; exact Nat.ne_of_lt (blk_lt (g := gb509) (o := .cells #[.string a1_0, .int .u64 a1_1, .int .u8 a1_2] 50 (0, 0)) (by (with_reducible repeat (first | refine blk_drewN ?_ _ | refine blk_drew ?_ | refine blk_alloc ?_ _)); exact BK509.out)) : gb509 ≠ gb538)); have n8_ := Aside0.mk ((by rw [hg]; exact Nat.ne_of_gt (blk_lt (g := gb509) (o := .cells #[.string a1_0, .int .u64 a1_1, .int .u8 a1_2] 50 (0, 0)) (by (with_reducible repeat (first | refine blk_drewN ?_ _ | refine blk_drew ?_ | refine blk_alloc ?_ _)); exact BK509.out)) : gb538 ≠ gb509)); have n9_ := Aside0.mk ((by rw [hg]; exact Nat.ne_of_lt (blk_lt (g := gb535) (o := .cells #[.string t529, .int .u64 t530, .int .u8 t531, .string t532] 59 (0, 0)) (by (with_reducible repeat (first | refine blk_drewN ?_ _ | refine blk_drew ?_ | refine blk_alloc ?_ _)); exact BK535.out)) : gb535 ≠ gb538)); have n10_ := Aside0.mk ((by rw [hg]; exact Nat.ne_of_gt (blk_lt (g := gb535) (o := .cells #[.string t529, .int .u64 t530, .int .u8 t531, .string t532] 59 (0, 0)) (by (with_reducible repeat (first | refine blk_drewN ?_ _ | refine blk_drew ?_ | refine blk_alloc ?_ _)); exact BK535.out)) : gb538 ≠ gb535)); clear HO_75; clear BK509; clear BK535; clear HB; have HO_75 := n0_; have BK509 := n1_; have BK535 := n2_; have HB := n3_; have BK538 := n4_; have GW538 := n5_; have GE538 := n6_; have NB509_538 := n7_; have NB538_509 := n8_; have NB535_538 := n9_; have NB538_535 := n10_; clear n0_ n1_ n2_ n3_ n4_ n5_ n6_ n7_ n8_ n9_ n10_; clear hb hbox hg; have hnb55 := NB538_509.out; have hnc55 := NB509_538.out; have hnb56 := NB538_535.out; have hnc56 := NB535_538.out; have hcz57_0 : w54.cell? ⟨gb538, 0, none⟩ = some (.string (⟨#[]⟩ : ByteArray)) := (blk_cell BK538.out 0).trans rfl; have hcz57_1 : w54.cell? ⟨gb538, 1, none⟩ = some (.int .u64 0) := (blk_cell BK538.out 1).trans rfl; have hcz57_2 : w54.cell? ⟨gb538, 2, none⟩ = some (.int .u8 0) := (blk_cell BK538.out 2).trans rfl; have hcz57_3 : w54.cell? ⟨gb538, 3, none⟩ = some (.string (⟨#[]⟩ : ByteArray)) := (blk_cell BK538.out 3).trans rfl; have hfz57_0 := blk_frozen BK538.out 0; have hfz57_1 := blk_frozen BK538.out 1; have hfz57_2 := blk_frozen BK538.out 2; have hfz57_3 := blk_frozen BK538.out 3; have hnb58 := NB509_535.out; have hnc58 := NB535_509.out; have hcz59_0 : w54.cell? ⟨gb509, 0, none⟩ = some (.string a1_0) := (blk_cell BK509.out 0).trans rfl; have hcz59_1 : w54.cell? ⟨gb509, 1, none⟩ = some (.int .u64 a1_1) := (blk_cell BK509.out 1).trans rfl; have hcz59_2 : w54.cell? ⟨gb509, 2, none⟩ = some (.int .u8 a1_2) := (blk_cell BK509.out 2).trans rfl; have hfz59_0 := blk_frozen BK509.out 0; have hfz59_1 := blk_frozen BK509.out 1; have hfz59_2 := blk_frozen BK509.out 2) | ((with_reducible refine gate_callee (f := 32) rfl ?_); refine goesL_ (some 84) rfl rfl Try.func32 (by kernel_rfl) rfl #[.agg #[.string ((rd_T59 t512 x77_3).f0.f0), .int .u64 ((rd_T59 t512 x77_3).f0.f1), .int .u8 ((rd_T59 t512 x77_3).f0.f2)], .agg #[.string a1_0, .int .u64 a1_1, .int .u8 a1_2]] rfl (by (try simp only [List.map_toArray, List.map_cons, List.map_nil]); first | done | rfl | (simp only [List.length_drop, List.length_take]; rfl)) ?_; (with_reducible refine (ikey_Compare.calls k3 ((rd_T59 t512 x77_3).f0.f0) ((rd_T59 t512 x77_3).f0.f1) ((rd_T59 t512 x77_3).f0.f2) a1_0 a1_1 a1_2 t539 _ A52.out).mono ?_); rintro e w60 ⟨rfl, hb⟩; refine ⟨_, rfl, ?_⟩; have n0_ := Aside0.mk (Kd.R_below (by (with_reducible repeat (first | apply Kd.R_alloc | apply Kd.R_drewN | apply Kd.R_drew)); exact (Kd.R_mono (Kd.R_far (p := ⟨gb538, 3, none⟩) (Kd.R_far (p := ⟨gb538, 2, none⟩) (Kd.R_far (p := ⟨gb538, 1, none⟩) (Kd.R_far (p := ⟨gb538, 0, none⟩) (Kd.R_mono HO_75.out (fun k_ hk => (⟨hk, hk.2⟩ : _ ∧ k_ ≠ gb538))) (fun _ hk => hk.2) (.string ((rd_T59 t512 x77_3).f0.f0))) (fun _ hk => hk.2) (.int .u64 ((rd_T59 t512 x77_3).f0.f1))) (fun _ hk => hk.2) (.int .u8 ((rd_T59 t512 x77_3).f0.f2))) (fun _ hk => hk.2) (.string ((rd_T59 t512 x77_3).f1))) (fun _ h_ => h_.1))) hb); have n1_ := Aside0.mk (blk_below (g := gb509) (o := .cells #[.string a1_0, .int .u64 a1_1, .int .u8 a1_2] 50 (0, 0)) (by (with_reducible repeat (first | refine blk_drewN ?_ _ | refine blk_drew ?_ | refine blk_alloc ?_ _)); refine blk_far ?_ NB509_538.out _; (with_reducible repeat (first | refine blk_drewN ?_ _ | refine blk_drew ?_ | refine blk_alloc ?_ _)); refine blk_far ?_ NB509_538.out _; (with_reducible repeat (first | refine blk_drewN ?_ _ | refine blk_drew ?_ | refine blk_alloc ?_ _)); refine blk_far ?_ NB509_538.out _; (with_reducible repeat (first | refine blk_drewN ?_ _ | refine blk_drew ?_ | refine blk_alloc ?_ _)); refine blk_far ?_ NB509_538.out _; (with_reducible repeat (first | refine blk_drewN ?_ _ | refine blk_drew ?_ | refine blk_alloc ?_ _)); exact BK509.out) hb); have n2_ := Aside0.mk (blk_below (g := gb535) (o := .cells #[.string t529, .int .u64 t530, .int .u8 t531, .string t532] 59 (0, 0)) (by (with_reducible repeat (first | refine blk_drewN ?_ _ | refine blk_drew ?_ | refine blk_alloc ?_ _)); refine blk_far ?_ NB535_538.out _; (with_reducible repeat (first | refine blk_drewN ?_ _ | refine blk_drew ?_ | refine blk_alloc ?_ _)); refine blk_far ?_ NB535_538.out _; (with_reducible repeat (first | refine blk_drewN ?_ _ | refine blk_drew ?_ | refine blk_alloc ?_ _)); refine blk_far ?_ NB535_538.out _; (with_reducible repeat (first | refine blk_drewN ?_ _ | refine blk_drew ?_ | refine blk_alloc ?_ _)); refine blk_far ?_ NB535_538.out _; (with_reducible repeat (first | refine blk_drewN ?_ _ | refine blk_drew ?_ | refine blk_alloc ?_ _)); exact BK535.out) hb); have n3_ := Aside0.mk (blk_below (g := gb538) (o := .cells #[.string ((rd_T59 t512 x77_3).f0.f0), .int .u64 ((rd_T59 t512 x77_3).f0.f1), .int .u8 ((rd_T59 t512 x77_3).f0.f2), .string ((rd_T59 t512 x77_3).f1)] 59 (0, 0)) (by (with_reducible repeat (first | refine blk_drewN ?_ _ | refine blk_drew ?_ | refine blk_alloc ?_ _)); refine blk_put (cs := #[.string ((rd_T59 t512 x77_3).f0.f0), .int .u64 ((rd_T59 t512 x77_3).f0.f1), .int .u8 ((rd_T59 t512 x77_3).f0.f2), .string (⟨#[]⟩ : ByteArray)]) ?_ 3 _ rfl; (with_reducible repeat (first | refine blk_drewN ?_ _ | refine blk_drew ?_ | refine blk_alloc ?_ _)); refine blk_put (cs := #[.string ((rd_T59 t512 x77_3).f0.f0), .int .u64 ((rd_T59 t512 x77_3).f0.f1), .int .u8 0, .string (⟨#[]⟩ : ByteArray)]) ?_ 2 _ rfl; (with_reducible repeat (first | refine blk_drewN ?_ _ | refine blk_drew ?_ | refine blk_alloc ?_ _)); refine blk_put (cs := #[.string ((rd_T59 t512 x77_3).f0.f0), .int .u64 0, .int .u8 0, .string (⟨#[]⟩ : ByteArray)]) ?_ 1 _ rfl; (with_reducible repeat (first | refine blk_drewN ?_ _ | refine blk_drew ?_ | refine blk_alloc ?_ _)); refine blk_put (cs := #[.string (⟨#[]⟩ : ByteArray), .int .u64 0, .int .u8 0, .string (⟨#[]⟩ : ByteArray)]) ?_ 0 _ rfl; (with_reducible repeat (first | refine blk_drewN ?_ _ | refine blk_drew ?_ | refine blk_alloc ?_ _)); exact BK538.out) hb); have n4_ := Aside0.mk (below_step (by repeat (first | (with_reducible first | exact HB.out | apply below_alloc | apply pw_below_drewN | apply below_drew1 | refine below_set ?_ GE509.out | refine below_set ?_ GE535.out | refine below_set ?_ GE538.out) | exact HB.out)) hb); clear HO_75; clear BK509; clear BK535; clear BK538; clear HB; have HO_75 := n0_; have BK509 := n1_; have BK535 := n2_; have BK538 := n3_; have HB := n4_; clear n0_ n1_ n2_ n3_ n4_; (try clear hb); (try clear hb2); (try clear hk); (try clear hi)))
                                go_roundg k3
                                case measure => have := HJ2.out; have := HK2.out; have := HK3.out; omega
                                case rel => exact ⟨(wrap64 (x77_3 + 1)), (by first | rfl | (simp; done) | (simp [*]; done)), H', ⟨by have := HJ2.out; have := HK2.out; have := HK3.out; omega⟩, ⟨by (with_reducible repeat (first | apply Kd.R_alloc | apply Kd.R_drewN | apply Kd.R_drew)); exact Kd.R_mono HO_75.out (fun _ hk => hk.1)⟩, ⟨by (with_reducible repeat (first | refine blk_drewN ?_ _ | refine blk_drew ?_ | refine blk_alloc ?_ _)); exact BK509.out⟩, ⟨by (with_reducible repeat (first | refine blk_drewN ?_ _ | refine blk_drew ?_ | refine blk_alloc ?_ _)); exact BK535.out⟩, ⟨by repeat (first | (with_reducible first | exact HB.out | apply below_alloc | apply pw_below_drewN | apply below_drew1 | refine below_set ?_ GE509.out | refine below_set ?_ GE535.out | refine below_set ?_ GE538.out) | exact HB.out)⟩⟩
                              · rw [if_neg c53] at H
                                have c53b0 : decide (t539 < 0) = false := decide_eq_false c53
                                clear c53
                                by_cases c61 : t533 = true
                                · subst c61
                                  have H1 : (if ((t529.toList == (((rd_T59 t512 x77_3).f0.f0).toList) && (t530 == ((rd_T59 t512 x77_3).f0.f1) && (t531 == ((rd_T59 t512 x77_3).f0.f2)))) && (t532.toList == (((rd_T59 t512 x77_3).f1).toList))) = true then ((ratlinelaw07_awake.f k3).bind fun t540 => (some t540)) else (none)) = some r := by rw [if_pos rfl] at H; exact H
                                  clear H
                                  have H := H1
                                  clear H1
                                  by_cases c62 : ((t529.toList == (((rd_T59 t512 x77_3).f0.f0).toList) && (t530 == ((rd_T59 t512 x77_3).f0.f1) && (t531 == ((rd_T59 t512 x77_3).f0.f2)))) && (t532.toList == (((rd_T59 t512 x77_3).f1).toList))) = true
                                  · rw [if_pos c62] at H
                                    have c62b0 : ((t529.toList == (((rd_T59 t512 x77_3).f0.f0).toList) && (t530 == ((rd_T59 t512 x77_3).f0.f1) && (t531 == ((rd_T59 t512 x77_3).f0.f2)))) && (t532.toList == (((rd_T59 t512 x77_3).f1).toList))) = true := c62
                                    clear c62
                                    replace H := Option.bind_eq_some_iff.mp H
                                    obtain ⟨t540, A630, H⟩ := H
                                    replace H : (some t540) = some r := H
                                    have A63 := Aside0.mk A630
                                    clear A630
                                    obtain rfl := Option.some.inj H
                                    have p537 : 0 ≤ (x77_3 : Int) := of_decide_eq_true (by first | (with_reducible assumption) | assumption)
                                    have q537 : x77_3 < (t512.length : Int) := of_decide_eq_true (by first | (with_reducible assumption) | assumption)
                                    obtain ⟨ad537, e537, hx537_0, hx537_1, hx537_2, hx537_3⟩ := at_T59 (Kd.R_reads' HO_75.out).2.2 x77_3 p537 q537
                                    cases e537
                                    replace p537 := eq_true p537
                                    replace q537 := eq_true q537
                                    go_wp2_with (first | ((with_reducible refine gate_dst (N := 16) rfl ?_); (try (refine gate_guard (by rfl) ?_; dsimp only)); refine box_event ?hg (N := 16) ?hd (cs := #[.string (⟨#[]⟩ : ByteArray), .int .u64 0, .int .u8 0, .string (⟨#[]⟩ : ByteArray)]) (t := 59) ?hr ?_; (case hd => rfl); (case hg => rfl); (case hr => first | (go_simp; done) | (go_simp; rfl)); intro gb538 hg w64 hbox hb; have n0_ := Aside0.mk (Kd.R_below (Kd.R_elderB (by (with_reducible repeat (first | apply Kd.R_alloc | apply Kd.R_drewN | apply Kd.R_drew)); exact HO_75.out) gb538 (Nat.le_of_eq hg.symm)) hb); have n1_ := Aside0.mk (blk_below (g := gb509) (o := .cells #[.string a1_0, .int .u64 a1_1, .int .u8 a1_2] 50 (0, 0)) (by (with_reducible repeat (first | refine blk_drewN ?_ _ | refine blk_drew ?_ | refine blk_alloc ?_ _)); exact BK509.out) hb); have n2_ := Aside0.mk (blk_below (g := gb535) (o := .cells #[.string t529, .int .u64 t530, .int .u8 t531, .string t532] 59 (0, 0)) (by (with_reducible repeat (first | refine blk_drewN ?_ _ | refine blk_drew ?_ | refine blk_alloc ?_ _)); exact BK535.out) hb); have n3_ := Aside0.mk (below_step (by repeat (first | (with_reducible first | exact HB.out | apply below_alloc | apply pw_below_drewN | apply below_drew1 | refine below_set ?_ GE509.out | refine below_set ?_ GE535.out) | exact HB.out)) hb); have n4_ := Aside0.mk (hbox); have n5_ := Aside0.mk ((by rw [hg]; exact (below_size (by repeat (first | (with_reducible first | exact HB.out | apply below_alloc | apply pw_below_drewN | apply below_drew1 | refine below_set ?_ GE509.out | refine below_set ?_ GE535.out) | exact HB.out))) : w.heap.size ≤ gb538)); have n6_ := Aside0.mk ((by rw [hg]; exact (below_size (by repeat (first | (with_reducible first | exact HB.out | apply below_alloc | apply pw_below_drewN | apply below_drew1 | refine below_set ?_ GE509.out | refine below_set ?_ GE535.out) | exact HB.out))) : w.heap.size ≤ gb538)); have n7_ := Aside0.mk ((by rw [hg]; exact Nat.ne_of_lt (blk_lt (g := gb509) (o := .cells #[.string a1_0, .int .u64 a1_1, .int .u8 a1_2] 50 (0, 0)) (by (with_reducible repeat (first | refine blk_drewN ?_ _ | refine blk_drew ?_ | refine blk_alloc ?_ _)); exact BK509.out)) : gb509 ≠ gb538)); have n8_ := Aside0.mk ((by rw [hg]; exact Nat.ne_of_gt (blk_lt (g := gb509) (o := .cells #[.string a1_0, .int .u64 a1_1, .int .u8 a1_2] 50 (0, 0)) (by (with_reducible repeat (first | refine blk_drewN ?_ _ | refine blk_drew ?_ | refine blk_alloc ?_ _)); exact BK509.out)) : gb538 ≠ gb509)); have n9_ := Aside0.mk ((by rw [hg]; exact Nat.ne_of_lt (blk_lt (g := gb535) (o := .cells #[.string t529, .int .u64 t530, .int .u8 t531, .string t532] 59 (0, 0)) (by (with_reducible repeat (first | refine blk_drewN ?_ _ | refine blk_drew ?_ | refine blk_alloc ?_ _)); exact BK535.out)) : gb535 ≠ gb538)); have n10_ := Aside0.mk ((by rw [hg]; exact Nat.ne_of_gt (blk_lt (g := gb535) (o := .cells #[.string t529, .int .u64 t530, .int .u8 t531, .string t532] 59 (0, 0)) (by (with_reducible repeat (first | refine blk_drewN ?_ _ | refine blk_drew ?_ | refine blk_alloc ?_ _)); exact BK535.out)) : gb538 ≠ gb535)); clear HO_75; clear BK509; clear BK535; clear HB; have HO_75 := n0_; have BK509 := n1_; have BK535 := n2_; have HB := n3_; have BK538 := n4_; have GW538 := n5_; have GE538 := n6_; have NB509_538 := n7_; have NB538_509 := n8_; have NB535_538 := n9_; have NB538_535 := n10_; clear n0_ n1_ n2_ n3_ n4_ n5_ n6_ n7_ n8_ n9_ n10_; clear hb hbox hg; have hnb65 := NB538_509.out; have hnc65 := NB509_538.out; have hnb66 := NB538_535.out; have hnc66 := NB535_538.out; have hcz67_0 : w64.cell? ⟨gb538, 0, none⟩ = some (.string (⟨#[]⟩ : ByteArray)) := (blk_cell BK538.out 0).trans rfl; have hcz67_1 : w64.cell? ⟨gb538, 1, none⟩ = some (.int .u64 0) := (blk_cell BK538.out 1).trans rfl; have hcz67_2 : w64.cell? ⟨gb538, 2, none⟩ = some (.int .u8 0) := (blk_cell BK538.out 2).trans rfl; have hcz67_3 : w64.cell? ⟨gb538, 3, none⟩ = some (.string (⟨#[]⟩ : ByteArray)) := (blk_cell BK538.out 3).trans rfl; have hfz67_0 := blk_frozen BK538.out 0; have hfz67_1 := blk_frozen BK538.out 1; have hfz67_2 := blk_frozen BK538.out 2; have hfz67_3 := blk_frozen BK538.out 3; have hnb68 := NB509_535.out; have hnc68 := NB535_509.out; have hcz69_0 : w64.cell? ⟨gb509, 0, none⟩ = some (.string a1_0) := (blk_cell BK509.out 0).trans rfl; have hcz69_1 : w64.cell? ⟨gb509, 1, none⟩ = some (.int .u64 a1_1) := (blk_cell BK509.out 1).trans rfl; have hcz69_2 : w64.cell? ⟨gb509, 2, none⟩ = some (.int .u8 a1_2) := (blk_cell BK509.out 2).trans rfl; have hfz69_0 := blk_frozen BK509.out 0; have hfz69_1 := blk_frozen BK509.out 1; have hfz69_2 := blk_frozen BK509.out 2) | ((with_reducible refine gate_callee (f := 32) rfl ?_); refine goesL_ (some 84) rfl rfl Try.func32 (by kernel_rfl) rfl #[.agg #[.string ((rd_T59 t512 x77_3).f0.f0), .int .u64 ((rd_T59 t512 x77_3).f0.f1), .int .u8 ((rd_T59 t512 x77_3).f0.f2)], .agg #[.string a1_0, .int .u64 a1_1, .int .u8 a1_2]] rfl (by (try simp only [List.map_toArray, List.map_cons, List.map_nil]); first | done | rfl | (simp only [List.length_drop, List.length_take]; rfl)) ?_; (with_reducible refine (ikey_Compare.calls k3 ((rd_T59 t512 x77_3).f0.f0) ((rd_T59 t512 x77_3).f0.f1) ((rd_T59 t512 x77_3).f0.f2) a1_0 a1_1 a1_2 t539 _ A52.out).mono ?_); rintro e w70 ⟨rfl, hb⟩; refine ⟨_, rfl, ?_⟩; have n0_ := Aside0.mk (Kd.R_below (by (with_reducible repeat (first | apply Kd.R_alloc | apply Kd.R_drewN | apply Kd.R_drew)); exact (Kd.R_mono (Kd.R_far (p := ⟨gb538, 3, none⟩) (Kd.R_far (p := ⟨gb538, 2, none⟩) (Kd.R_far (p := ⟨gb538, 1, none⟩) (Kd.R_far (p := ⟨gb538, 0, none⟩) (Kd.R_mono HO_75.out (fun k_ hk => (⟨hk, hk.2⟩ : _ ∧ k_ ≠ gb538))) (fun _ hk => hk.2) (.string ((rd_T59 t512 x77_3).f0.f0))) (fun _ hk => hk.2) (.int .u64 ((rd_T59 t512 x77_3).f0.f1))) (fun _ hk => hk.2) (.int .u8 ((rd_T59 t512 x77_3).f0.f2))) (fun _ hk => hk.2) (.string ((rd_T59 t512 x77_3).f1))) (fun _ h_ => h_.1))) hb); have n1_ := Aside0.mk (blk_below (g := gb509) (o := .cells #[.string a1_0, .int .u64 a1_1, .int .u8 a1_2] 50 (0, 0)) (by (with_reducible repeat (first | refine blk_drewN ?_ _ | refine blk_drew ?_ | refine blk_alloc ?_ _)); refine blk_far ?_ NB509_538.out _; (with_reducible repeat (first | refine blk_drewN ?_ _ | refine blk_drew ?_ | refine blk_alloc ?_ _)); refine blk_far ?_ NB509_538.out _; (with_reducible repeat (first | refine blk_drewN ?_ _ | refine blk_drew ?_ | refine blk_alloc ?_ _)); refine blk_far ?_ NB509_538.out _; (with_reducible repeat (first | refine blk_drewN ?_ _ | refine blk_drew ?_ | refine blk_alloc ?_ _)); refine blk_far ?_ NB509_538.out _; (with_reducible repeat (first | refine blk_drewN ?_ _ | refine blk_drew ?_ | refine blk_alloc ?_ _)); exact BK509.out) hb); have n2_ := Aside0.mk (blk_below (g := gb535) (o := .cells #[.string t529, .int .u64 t530, .int .u8 t531, .string t532] 59 (0, 0)) (by (with_reducible repeat (first | refine blk_drewN ?_ _ | refine blk_drew ?_ | refine blk_alloc ?_ _)); refine blk_far ?_ NB535_538.out _; (with_reducible repeat (first | refine blk_drewN ?_ _ | refine blk_drew ?_ | refine blk_alloc ?_ _)); refine blk_far ?_ NB535_538.out _; (with_reducible repeat (first | refine blk_drewN ?_ _ | refine blk_drew ?_ | refine blk_alloc ?_ _)); refine blk_far ?_ NB535_538.out _; (with_reducible repeat (first | refine blk_drewN ?_ _ | refine blk_drew ?_ | refine blk_alloc ?_ _)); refine blk_far ?_ NB535_538.out _; (with_reducible repeat (first | refine blk_drewN ?_ _ | refine blk_drew ?_ | refine blk_alloc ?_ _)); exact BK535.out) hb); have n3_ := Aside0.mk (blk_below (g := gb538) (o := .cells #[.string ((rd_T59 t512 x77_3).f0.f0), .int .u64 ((rd_T59 t512 x77_3).f0.f1), .int .u8 ((rd_T59 t512 x77_3).f0.f2), .string ((rd_T59 t512 x77_3).f1)] 59 (0, 0)) (by (with_reducible repeat (first | refine blk_drewN ?_ _ | refine blk_drew ?_ | refine blk_alloc ?_ _)); refine blk_put (cs := #[.string ((rd_T59 t512 x77_3).f0.f0), .int .u64 ((rd_T59 t512 x77_3).f0.f1), .int .u8 ((rd_T59 t512 x77_3).f0.f2), .string (⟨#[]⟩ : ByteArray)]) ?_ 3 _ rfl; (with_reducible repeat (first | refine blk_drewN ?_ _ | refine blk_drew ?_ | refine blk_alloc ?_ _)); refine blk_put (cs := #[.string ((rd_T59 t512 x77_3).f0.f0), .int .u64 ((rd_T59 t512 x77_3).f0.f1), .int .u8 0, .string (⟨#[]⟩ : ByteArray)]) ?_ 2 _ rfl; (with_reducible repeat (first | refine blk_drewN ?_ _ | refine blk_drew ?_ | refine blk_alloc ?_ _)); refine blk_put (cs := #[.string ((rd_T59 t512 x77_3).f0.f0), .int .u64 0, .int .u8 0, .string (⟨#[]⟩ : ByteArray)]) ?_ 1 _ rfl; (with_reducible repeat (first | refine blk_drewN ?_ _ | refine blk_drew ?_ | refine blk_alloc ?_ _)); refine blk_put (cs := #[.string (⟨#[]⟩ : ByteArray), .int .u64 0, .int .u8 0, .string (⟨#[]⟩ : ByteArray)]) ?_ 0 _ rfl; (with_reducible repeat (first | refine blk_drewN ?_ _ | refine blk_drew ?_ | refine blk_alloc ?_ _)); exact BK538.out) hb); have n4_ := Aside0.mk (below_step (by repeat (first | (with_reducible first | exact HB.out | apply below_alloc | apply pw_below_drewN | apply below_drew1 | refine below_set ?_ GE509.out | refine below_set ?_ GE535.out | refine below_set ?_ GE538.out) | exact HB.out)) hb); clear HO_75; clear BK509; clear BK535; clear BK538; clear HB; have HO_75 := n0_; have BK509 := n1_; have BK535 := n2_; have BK538 := n3_; have HB := n4_; clear n0_ n1_ n2_ n3_ n4_; (try clear hb); (try clear hb2); (try clear hk); (try clear hi); have hcz71_0 : w70.cell? ⟨gb535, 0, none⟩ = some (.string t529) := (blk_cell BK535.out 0).trans rfl; have hcz71_1 : w70.cell? ⟨gb535, 1, none⟩ = some (.int .u64 t530) := (blk_cell BK535.out 1).trans rfl; have hcz71_2 : w70.cell? ⟨gb535, 2, none⟩ = some (.int .u8 t531) := (blk_cell BK535.out 2).trans rfl; have hcz71_3 : w70.cell? ⟨gb535, 3, none⟩ = some (.string t532) := (blk_cell BK535.out 3).trans rfl; have hfz71_0 := blk_frozen BK535.out 0; have hfz71_1 := blk_frozen BK535.out 1; have hfz71_2 := blk_frozen BK535.out 2; have hfz71_3 := blk_frozen BK535.out 3; have hcz72_0 : w70.cell? ⟨gb538, 0, none⟩ = some (.string ((rd_T59 t512 x77_3).f0.f0)) := (blk_cell BK538.out 0).trans rfl; have hcz72_1 : w70.cell? ⟨gb538, 1, none⟩ = some (.int .u64 ((rd_T59 t512 x77_3).f0.f1)) := (blk_cell BK538.out 1).trans rfl; have hcz72_2 : w70.cell? ⟨gb538, 2, none⟩ = some (.int .u8 ((rd_T59 t512 x77_3).f0.f2)) := (blk_cell BK538.out 2).trans rfl; have hcz72_3 : w70.cell? ⟨gb538, 3, none⟩ = some (.string ((rd_T59 t512 x77_3).f1)) := (blk_cell BK538.out 3).trans rfl; have hfz72_0 := blk_frozen BK538.out 0; have hfz72_1 := blk_frozen BK538.out 1; have hfz72_2 := blk_frozen BK538.out 2; have hfz72_3 := blk_frozen BK538.out 3) | (go_at_call 21; (with_reducible refine (ratlinelaw07_awake.calls k3  t540 _ A63.out).mono ?_); rintro e w73 ⟨rfl, hb⟩; have n0_ := Aside0.mk (Kd.R_below (by (with_reducible repeat (first | apply Kd.R_alloc | apply Kd.R_drewN | apply Kd.R_drew)); exact HO_75.out) hb); have n1_ := Aside0.mk (blk_below (g := gb509) (o := .cells #[.string a1_0, .int .u64 a1_1, .int .u8 a1_2] 50 (0, 0)) (by (with_reducible repeat (first | refine blk_drewN ?_ _ | refine blk_drew ?_ | refine blk_alloc ?_ _)); exact BK509.out) hb); have n2_ := Aside0.mk (blk_below (g := gb535) (o := .cells #[.string t529, .int .u64 t530, .int .u8 t531, .string t532] 59 (0, 0)) (by (with_reducible repeat (first | refine blk_drewN ?_ _ | refine blk_drew ?_ | refine blk_alloc ?_ _)); exact BK535.out) hb); have n3_ := Aside0.mk (blk_below (g := gb538) (o := .cells #[.string ((rd_T59 t512 x77_3).f0.f0), .int .u64 ((rd_T59 t512 x77_3).f0.f1), .int .u8 ((rd_T59 t512 x77_3).f0.f2), .string ((rd_T59 t512 x77_3).f1)] 59 (0, 0)) (by (with_reducible repeat (first | refine blk_drewN ?_ _ | refine blk_drew ?_ | refine blk_alloc ?_ _)); exact BK538.out) hb); have n4_ := Aside0.mk (below_step (by repeat (first | (with_reducible first | exact HB.out | apply below_alloc | apply pw_below_drewN | apply below_drew1 | refine below_set ?_ GE509.out | refine below_set ?_ GE535.out | refine below_set ?_ GE538.out) | exact HB.out)) hb); clear HO_75; clear BK509; clear BK535; clear BK538; clear HB; have HO_75 := n0_; have BK509 := n1_; have BK535 := n2_; have BK538 := n3_; have HB := n4_; clear n0_ n1_ n2_ n3_ n4_; (try clear hb); (try clear hb2); (try clear hk); (try clear hi)))
                                    go_ret
                                    exact ⟨by first | rfl | (simp [errW_none, errW_some] <;> rfl) | (simp [*, errW_none, errW_some] <;> rfl), by repeat (first | (with_reducible first | exact HB.out | apply below_alloc | apply pw_below_drewN | apply below_drew1 | refine below_set ?_ GE509.out | refine below_set ?_ GE535.out | refine below_set ?_ GE538.out) | exact HB.out)⟩
                                  · rw [if_neg c62] at H
                                    exact absurd H (by simp)
                                · replace c61 := Bool.eq_false_iff.mpr c61
                                  subst c61
                                  have H1 : (none) = some r := by rw [if_neg (show ¬ (false = true) by decide)] at H; exact H
                                  clear H
                                  have H := H1
                                  clear H1
                                  exact absurd H (by simp)
                            · rw [if_neg c51] at H
                              exact absurd H (by simp)
                          · rw [if_neg c50] at H
                            exact absurd H (by simp)
                        · rw [if_neg c49] at H
                          have c49b0 : decide (x77_3 < (t512.length : Int)) = false := decide_eq_false c49
                          clear c49
                          by_cases c74 : t533 = true
                          · subst c74
                            have H1 : (none) = some r := by rw [if_pos rfl] at H; exact H
                            clear H
                            have H := H1
                            clear H1
                            exact absurd H (by simp)
                          · replace c74 := Bool.eq_false_iff.mpr c74
                            subst c74
                            have H1 : (if ((t529.toList == ([] : List UInt8) && (t530 == 0 && (t531 == 0))) && (t532.toList == ([] : List UInt8))) = true then ((ratlinelaw07_awake.f k3).bind fun t536 => (some t536)) else (none)) = some r := by rw [if_neg (show ¬ (false = true) by decide)] at H; exact H
                            clear H
                            have H := H1
                            clear H1
                            by_cases c75 : ((t529.toList == ([] : List UInt8) && (t530 == 0 && (t531 == 0))) && (t532.toList == ([] : List UInt8))) = true
                            · rw [if_pos c75] at H
                              have c75b0 : ((t529.toList == ([] : List UInt8) && (t530 == 0 && (t531 == 0))) && (t532.toList == ([] : List UInt8))) = true := c75
                              have c75b1 : ((t529.toList.isEmpty && (t530 == 0 && (t531 == 0))) && t532.toList.isEmpty) = true := by rw [show ∀ l : List UInt8, l.isEmpty = (l == []) from fun l => by cases l <;> rfl, show ∀ l : List UInt8, l.isEmpty = (l == []) from fun l => by cases l <;> rfl]; exact c75b0
                              clear c75
                              replace H := Option.bind_eq_some_iff.mp H
                              obtain ⟨t536, A760, H⟩ := H
                              replace H : (some t536) = some r := H
                              have A76 := Aside0.mk A760
                              clear A760
                              obtain rfl := Option.some.inj H
                              have hnb77 := NB535_509.out
                              have hnc77 := NB509_535.out
                              have hcz78_0 : wr.cell? ⟨gb535, 0, none⟩ = some (.string t529) := (blk_cell BK535.out 0).trans rfl
                              have hcz78_1 : wr.cell? ⟨gb535, 1, none⟩ = some (.int .u64 t530) := (blk_cell BK535.out 1).trans rfl
                              have hcz78_2 : wr.cell? ⟨gb535, 2, none⟩ = some (.int .u8 t531) := (blk_cell BK535.out 2).trans rfl
                              have hcz78_3 : wr.cell? ⟨gb535, 3, none⟩ = some (.string t532) := (blk_cell BK535.out 3).trans rfl
                              have hfz78_0 := blk_frozen BK535.out 0
                              have hfz78_1 := blk_frozen BK535.out 1
                              have hfz78_2 := blk_frozen BK535.out 2
                              have hfz78_3 := blk_frozen BK535.out 3
                              go_wp2_with (first | (go_at_call 21; (with_reducible refine (ratlinelaw07_awake.calls k3  t536 _ A76.out).mono ?_); rintro e w79 ⟨rfl, hb⟩; have n0_ := Aside0.mk (Kd.R_below (by (with_reducible repeat (first | apply Kd.R_alloc | apply Kd.R_drewN | apply Kd.R_drew)); exact HO_75.out) hb); have n1_ := Aside0.mk (blk_below (g := gb509) (o := .cells #[.string a1_0, .int .u64 a1_1, .int .u8 a1_2] 50 (0, 0)) (by (with_reducible repeat (first | refine blk_drewN ?_ _ | refine blk_drew ?_ | refine blk_alloc ?_ _)); exact BK509.out) hb); have n2_ := Aside0.mk (blk_below (g := gb535) (o := .cells #[.string t529, .int .u64 t530, .int .u8 t531, .string t532] 59 (0, 0)) (by (with_reducible repeat (first | refine blk_drewN ?_ _ | refine blk_drew ?_ | refine blk_alloc ?_ _)); exact BK535.out) hb); have n3_ := Aside0.mk (below_step (by repeat (first | (with_reducible first | exact HB.out | apply below_alloc | apply pw_below_drewN | apply below_drew1 | refine below_set ?_ GE509.out | refine below_set ?_ GE535.out) | exact HB.out)) hb); clear HO_75; clear BK509; clear BK535; clear HB; have HO_75 := n0_; have BK509 := n1_; have BK535 := n2_; have HB := n3_; clear n0_ n1_ n2_ n3_; (try clear hb); (try clear hb2); (try clear hk); (try clear hi)))
                              go_ret
                              exact ⟨by first | rfl | (simp [errW_none, errW_some] <;> rfl) | (simp [*, errW_none, errW_some] <;> rfl), by repeat (first | (with_reducible first | exact HB.out | apply below_alloc | apply pw_below_drewN | apply below_drew1 | refine below_set ?_ GE509.out | refine below_set ?_ GE535.out) | exact HB.out)⟩
                            · rw [if_neg c75] at H
                              exact absurd H (by simp)
                  · rw [if_neg c42] at H
                    exact absurd H (by simp)
          · rw [if_neg c20] at H
            exact absurd H (by simp)

end Go.Proofs.Ytjcjfghcahbbmaa.P

end

section
set_option linter.unusedVariables false
set_option linter.unusedSimpArgs false
namespace Go.Proofs.YtjcjfghcahbbmaaL
open Go Go.RowKit Go.Proofs.YtjcjfghcahbbmaaG Go.Proofs.Ytjcjfghcahbbmaa.P Go.Proofs.YtjcjfghcahbbmaaW.PrintWords Go.Proofs.YtjcjfghcahbbmaaW.PrintMore

theorem eqK_zero {x y : Ik} (h : cmpI x y = 0) : eqK x y = true := by
  obtain ⟨h0, h1, h2⟩ := (cmpI_zero x y).1 h
  unfold eqK
  rw [h0, h1, h2]
  simp
theorem behind {a e : Ik} (h : ¬ cmpI a e < 0) (h2 : eqK a e = false) : cmpI e a < 0 := by
  have hn : cmpI a e ≠ 0 := fun q => by rw [eqK_zero q] at h2; cases h2
  rw [cmpI_neg]
  omega
theorem rises_head {a : En} {l : List En} (h : ∀ b r, l = b :: r → cmpI a.f0 b.f0 < 0) (hl : risesB l = true) : risesB (a :: l) = true := by
  cases l with
  | nil => rfl
  | cons b r => rw [rises_two, decide_eq_true (h b r rfl), hl]; rfl
theorem rises_ins (e : En) : ∀ o : List En, risesB o = true → (seekN o e.f0 < o.length → eqK (o.getD (seekN o e.f0) zeroE).f0 e.f0 = false) → risesB (o.take (seekN o e.f0) ++ ([e] ++ o.drop (seekN o e.f0))) = true
  | [], _, _ => rfl
  | a :: t, h, hc => by
    by_cases ha : aheadB e.f0 a = true
    · have hs : seekN (a :: t) e.f0 = seekN t e.f0 + 1 := by unfold seekN; rw [List.takeWhile_cons, if_pos ha]; rfl
      rw [hs] at hc ⊢
      have ih := rises_ins e t (rises_tail h) (fun q => by
        have := hc (by show seekN t e.f0 + 1 < t.length + 1; omega)
        rwa [List.getD_cons_succ] at this)
      rw [List.take_succ_cons, List.drop_succ_cons, List.cons_append]
      refine rises_head (fun b r hb => ?_) ih
      cases t with
      | nil =>
        have hb' : ([e] : List En) = b :: r := hb
        injection hb' with h1 _
        rw [← h1]
        exact of_decide_eq_true ha
      | cons c u =>
        rw [rises_two, Bool.and_eq_true] at h
        by_cases hc0 : seekN (c :: u) e.f0 = 0
        · rw [hc0] at hb
          have hb' : e :: (c :: u) = b :: r := hb
          injection hb' with h1 _
          rw [← h1]
          exact of_decide_eq_true ha
        · obtain ⟨m, hm⟩ : ∃ m, seekN (c :: u) e.f0 = m + 1 := ⟨seekN (c :: u) e.f0 - 1, by omega⟩
          rw [hm, List.take_succ_cons, List.cons_append] at hb
          injection hb with h1 _
          rw [← h1]
          exact of_decide_eq_true h.1
    · have hs : seekN (a :: t) e.f0 = 0 := by unfold seekN; rw [List.takeWhile_cons, if_neg ha]; rfl
      rw [hs] at hc ⊢
      have h2 := hc (by show 0 < t.length + 1; omega)
      have h3 : cmpI e.f0 a.f0 < 0 := behind (fun q => ha (decide_eq_true q)) h2
      show risesB (e :: a :: t) = true
      rw [rises_two, decide_eq_true h3, h]
      rfl
theorem srtE_fine (most : Int) (hm : 0 ≤ most) (l : List En) : (∀ e ∈ srtE most l, OkE e ∧ e ∈ l) ∧ risesB (srtE most l) = true ∧ ((srtE most l).length : Int) ≤ most := by
  refine rev_ind (P := fun l => (∀ e ∈ srtE most l, OkE e ∧ e ∈ l) ∧ risesB (srtE most l) = true ∧ ((srtE most l).length : Int) ≤ most) ⟨fun e he => (by cases he), rfl, hm⟩ (fun l e ih => ?_) l
  obtain ⟨i1, i2, i3⟩ := ih
  rw [srtE_snoc]
  have hmem : ∀ x ∈ srtE most l, OkE x ∧ x ∈ l ++ [e] := fun x hx => ⟨(i1 x hx).1, List.mem_append_left _ (i1 x hx).2⟩
  unfold insE
  by_cases ho : outE most (srtE most l) e = true
  · rw [if_pos ho]
    exact ⟨hmem, i2, i3⟩
  · rw [if_neg ho]
    have ho' := Bool.eq_false_iff.2 ho
    unfold outE at ho'
    rw [Bool.or_eq_false_iff, Bool.or_eq_false_iff] at ho'
    obtain ⟨⟨o1, o2⟩, o3⟩ := ho'
    have hok : OkE e := by simpa using o1
    have hne : ((srtE most l).length : Int) ≠ most := of_decide_eq_false o3
    refine ⟨fun x hx => ?_, rises_ins e _ i2 (fun q => ?_), ?_⟩
    · rcases List.mem_append.1 hx with hx | hx
      · exact hmem x (List.mem_of_mem_take hx)
      · rcases List.mem_append.1 hx with hx | hx
        · rw [List.mem_singleton.1 hx]
          exact ⟨hok, by simp⟩
        · exact hmem x (List.mem_of_mem_drop hx)
    · rw [decide_eq_true q, Bool.true_and] at o2
      exact o2
    · simp only [List.length_append, List.length_take, List.length_drop, List.length_singleton]
      omega
theorem srt_ok (l : List En) (h : 0 < (srtE 64 l).length) : okEs (srtE 64 l) = true := by
  obtain ⟨h1, h2, h3⟩ := srtE_fine 64 (by decide) l
  unfold okEs
  rw [decide_eq_true h, decide_eq_true (show (srtE 64 l).length ≤ 64 by omega), decide_eq_true (show ∀ e ∈ srtE 64 l, OkE e from fun e he => (h1 e he).1), h2]
  rfl
theorem srt_wf {l : List En} (hw : ∀ e ∈ l, WfN e) : ∀ e ∈ srtE 64 l, WfN e := fun e he => hw e ((srtE_fine 64 (by decide) l).1 e he).2
theorem srt_f {l : List En} (h : l.length ≤ 500) : ratlinelaw07_Sorted.f l 64 = some (srtE 64 l) := by unfold ratlinelaw07_Sorted.f; rw [if_pos h]
end Go.Proofs.YtjcjfghcahbbmaaL

end

section
set_option linter.unusedVariables false
namespace Go.Proofs.YtjcjfghcahbbmaaL
open Go Go.RowKit Go.Proofs.YtjcjfghcahbbmaaG Go.Proofs.Ytjcjfghcahbbmaa.P Go.Proofs.YtjcjfghcahbbmaaW.PrintWords Go.Proofs.YtjcjfghcahbbmaaW.PrintMore

instance decIkE : DecidableEq Ik := fun x y => decidable_of_iff (x.f0 = y.f0 ∧ x.f1 = y.f1 ∧ x.f2 = y.f2) (by cases x; cases y; simp)
instance decEnE : DecidableEq En := fun x y => decidable_of_iff (x.f0 = y.f0 ∧ x.f1 = y.f1) (by cases x; cases y; simp)
theorem rd_ent (l : List En) {j : Nat} (h : j < l.length) : rd_T59 l (j : Int) = l[j] := getD_at h
theorem esame_loop (a b : List En) (hl : a.length = b.length) (hm : a.length < 9223372036854775800) :
    ∀ (m j : Nat), j + m = a.length → Ev (fun k => ratlinelaw04_Entries.l0 k a b (a.length : Int) (j : Int)) (decide (a.drop j = b.drop j)) := by
  intro m
  induction m with
  | zero =>
    intro j hj
    obtain rfl : j = a.length := by omega
    refine ev_step (fun k => by rw [ratlinelaw04_Entries.l0, if_neg (Int.lt_irrefl _)]) ?_
    rw [List.drop_length, hl, List.drop_length]
    simpa using ev_some _
  | succ m ih =>
    intro j hj
    have ha : j < a.length := by omega
    have hb : j < b.length := by omega
    refine ev_step (fun k => by rw [ratlinelaw04_Entries.l0, if_pos (by omega), if_pos (by omega), if_pos (by omega), if_pos (by omega), rd_ent a ha, rd_ent b hb, up1 (by omega)]) ?_
    rw [List.drop_eq_getElem_cons ha, List.drop_eq_getElem_cons hb]
    by_cases h : a[j] = b[j]
    · refine ev_neg (by rw [h]; simp) ?_
      rw [show decide (a[j] :: a.drop (j + 1) = b[j] :: b.drop (j + 1)) = decide (a.drop (j + 1) = b.drop (j + 1)) from decide_eq_decide.2 ⟨fun q => (List.cons.inj q).2, fun q => by rw [h, q]⟩]
      exact ih (j + 1) (by omega)
    · refine ev_pos ?_ ?_
      · generalize a[j] = x at *
        generalize b[j] = y at *
        obtain ⟨⟨x0, x1, x2⟩, x3⟩ := x
        obtain ⟨⟨y0, y1, y2⟩, y3⟩ := y
        simp only [S59.mk.injEq, S50.mk.injEq] at h
        simp only [Bool.or_eq_true, Bool.not_eq_true', beq_eq_false_iff_ne, ne_eq, ba_eq_iff]
        exact Classical.byCases (fun q : x3 = y3 => .inl (Classical.byCases (fun q1 : x0 = y0 => .inr (Classical.byCases (fun q2 : x1 = y1 => .inr (fun q3 => h ⟨⟨q1, q2, q3⟩, q⟩)) .inl)) .inl)) .inr
      · rw [decide_eq_false (fun q => h (List.cons.inj q).1)]
        exact ev_some _
theorem esame_f (a b : List En) (hm : a.length < 9223372036854775800) : Ev (fun k => ratlinelaw04_Entries.f k a b) (decide (a = b)) := by
  unfold ratlinelaw04_Entries.f
  by_cases hl : a.length = b.length
  · refine ev_pos (by omega) ?_
    have := esame_loop a b hl hm a.length 0 (by omega)
    rwa [List.drop_zero, List.drop_zero] at this
  · refine ev_neg (by omega) ?_
    rw [decide_eq_false (fun e => hl (by rw [e]))]
    exact ev_some _
end Go.Proofs.YtjcjfghcahbbmaaL

end

section
set_option linter.unusedVariables false
set_option linter.unusedSimpArgs false
namespace Go.Proofs.YtjcjfghcahbbmaaL
open Go Go.RowKit Go.Proofs.YtjcjfghcahbbmaaG Go.Proofs.Ytjcjfghcahbbmaa.P Go.Proofs.YtjcjfghcahbbmaaW.PrintWords Go.Proofs.YtjcjfghcahbbmaaW.PrintMore

def bx1 : En := ⟨⟨⟨#[97]⟩, 5, 1⟩, ⟨#[120]⟩⟩
def bx2 : En := ⟨⟨⟨#[97, 98]⟩, 4, 0⟩, ⟨#[]⟩⟩
def bxL : List En := [bx1, bx2]
theorem bx_ok : okEs bxL = true := by decide +kernel
theorem bx_wf : ∀ e ∈ bxL, WfN e := by decide +kernel
theorem bx_form : formB bxL = [0, 1, 97, 11, 1, 120, 1, 1, 98, 8, 0, 0, 0, 0, 1, 0, 0, 0] := by
  have c1 : com (keyAt 0 ⟨#[]⟩) bx1.f0.f0 = 0 := by decide +kernel
  have c2 : com (keyAt 1 bx1.f0.f0) bx2.f0.f0 = 1 := by decide +kernel
  have e1 : entF 0 bx1 = [0, 1, 97, 11, 1, 120] := by
    show vint 0 ++ (vint 1 ++ ([97] ++ (vint 11 ++ (vint 1 ++ [120])))) = _
    rw [vint_small (x := 0) (by omega), vint_small (x := 1) (by omega), vint_small (x := 11) (by omega)]
    rfl
  have e2 : entF 1 bx2 = [1, 1, 98, 8] := by
    show vint 1 ++ (vint 1 ++ ([98] ++ (vint 8 ++ []))) = _
    rw [vint_small (x := 1) (by omega), vint_small (x := 8) (by omega)]
    rfl
  have s1 : BS.put BS.z bx1 = ⟨[0, 1, 97, 11, 1, 120], [0, 0, 0, 0], 1, bx1.f0.f0⟩ := by
    unfold BS.put BS.n
    rw [show com (keyAt BS.z.m BS.z.k) bx1.f0.f0 = 0 from c1, e1]
    rfl
  have s2 : BS.put ⟨[0, 1, 97, 11, 1, 120], [0, 0, 0, 0], 1, bx1.f0.f0⟩ bx2 = ⟨[0, 1, 97, 11, 1, 120, 1, 1, 98, 8], [0, 0, 0, 0], 2, bx2.f0.f0⟩ := by
    unfold BS.put BS.n
    simp only
    rw [c2, e2]
    rfl
  have s3 : bldS bxL = ⟨[0, 1, 97, 11, 1, 120, 1, 1, 98, 8], [0, 0, 0, 0], 2, bx2.f0.f0⟩ := by
    show BS.put (BS.put BS.z bx1) bx2 = _
    rw [s1, s2]
  unfold formB
  rw [s3]
  rfl
theorem bx_ents : block_entries.f 40 [0, 1, 97, 11, 1, 120, 0, 2, 97, 98, 8] = some (bxL, true) := by kernel_rfl
theorem seek_f {l : List En} (hk : okEs l = true) (hw : ∀ e ∈ l, WfN e) (x : Ik) : block_Seek.f (formB l) x.f0 x.f1 x.f2 = some ((seekR (l, 0) x).1.f0.f0, (seekR (l, 0) x).1.f0.f1, (seekR (l, 0) x).1.f0.f2, (seekR (l, 0) x).1.f1, (seekR (l, 0) x).2.1, (seekR (l, 0) x).2.2) := by
  obtain ⟨_, k2, k3, _⟩ := okEs_parts hk
  unfold block_Seek.f
  rw [if_pos ⟨formB_by l, by have := (formB_len k3 hw k2).2; omega⟩, parseG_form hk hw]
theorem bx_seek1 : seekR (bxL, 0) ⟨⟨#[97]⟩, 6, 1⟩ = (bx1, true, 0) := by kernel_rfl
theorem bx_seek2 : seekR (bxL, 0) ⟨⟨#[97]⟩, 4, 1⟩ = (bx2, true, 0) := by kernel_rfl
theorem bx_seek3 : seekR (bxL, 0) ⟨⟨#[97, 98]⟩, 3, 1⟩ = (zeroE, false, 0) := by kernel_rfl
abbrev bxB : List Int := [0, 1, 97, 11, 1, 120, 1, 1, 98, 8, 0, 0, 0, 0, 1, 0, 0, 0]
abbrev bxN : List Int := [0, 1, 97, 11, 1, 120, 0, 2, 97, 98, 8, 0, 0, 0, 0, 1, 0, 0, 0]
theorem bx_form' : formB bxL = bxB := bx_form
theorem bx_by : By bxB := by rw [← bx_form']; exact formB_by _
theorem bx_build : block_Build.f bxL = some (bxB, 0) := by
  rw [build_f (by decide) bx_wf, bx_ok, ← bx_form']
  rfl
theorem bx_parse : Ev (fun k => block_Parse.f k bxB) (bxL, 0) := by
  rw [← bx_form']
  exact bparse_form bx_ok bx_wf
theorem bx_none : Ev (fun k => block_Parse.f k bxN) ([], 70) := by
  have hT : nums_TakeFour.f (bxN.drop 15) = some (1, [], true) := by kernel_rfl
  have hL : mx (wrap64 ((bxN.length : Int) - 4)) 0 = 15 := by decide +kernel
  have hE : wrap64 ((wrap64 ((bxN.length : Int) - 4)) - (wrap64 (4 * (wrap64 (mn 1 64))))) = 11 := by decide +kernel
  have hN : By bxN := .cons (by omega) (by omega) (.cons (by omega) (by omega) (.cons (by omega) (by omega) (.cons (by omega) (by omega) (.cons (by omega) (by omega) (.cons (by omega) (by omega) (.cons (by omega) (by omega) (.cons (by omega) (by omega) (.cons (by omega) (by omega) (.cons (by omega) (by omega) (.cons (by omega) (by omega) (.cons (by omega) (by omega) (.cons (by omega) (by omega) (.cons (by omega) (by omega) (.cons (by omega) (by omega) (.cons (by omega) (by omega) (.cons (by omega) (by omega) (.cons (by omega) (by omega) (.cons (by omega) (by omega) .nil))))))))))))))))))
  unfold block_Parse.f
  rw [hL]
  refine ev_pos (by decide) (ev_pos (by decide) ?_)
  refine ev_bind3 hT (fun q q1 q2 q3 => ?_)
  rw [q1, q3, hE]
  refine ev_pos rfl ?_
  refine ev_step (fun k => by rw [block_Parse.j0]) (ev_neg (by decide) (ev_pos (by decide) (ev_pos (by decide) ?_)))
  refine ev_call2 (Ev.of (block_entries.mono _) bx_ents) (fun t t1 t2 => ?_)
  rw [t1, t2]
  refine ev_bind bx_build ?_
  refine ev_pos rfl (ev_pos rfl ?_)
  exact ev_bind (bld_equal bx_by hN) (ev_neg (by decide) (ev_some _))
theorem bx_sk {x : Ik} {e : En} {b : Bool} (h : seekR (bxL, 0) x = (e, b, 0)) : block_Seek.f bxB x.f0 x.f1 x.f2 = some (e.f0.f0, e.f0.f1, e.f0.f2, e.f1, b, 0) := by
  have := seek_f bx_ok bx_wf x
  rw [bx_form', h] at this
  exact this
theorem awake07 : Ev (fun k => ratlinelaw07_awake.f k) true := by
  unfold ratlinelaw07_awake.f
  refine ev_bind rfl (ev_bind rfl (ev_bind (a := bxL) rfl (ev_bind (a := bxB) rfl ?_)))
  refine ev_bind bx_build (ev_call bx_parse ?_)
  refine ev_bind (a := ((⟨#[97]⟩ : ByteArray), (6 : Int), (1 : Int))) rfl ?_
  refine ev_bind (a := (bx1.f0.f0, bx1.f0.f1, bx1.f0.f2, bx1.f1, true, (0 : Int))) (bx_sk (x := ⟨⟨#[97]⟩, 6, 1⟩) bx_seek1) ?_
  refine ev_bind (a := ((⟨#[97]⟩ : ByteArray), (4 : Int), (1 : Int))) rfl ?_
  refine ev_bind (a := (bx2.f0.f0, bx2.f0.f1, bx2.f0.f2, bx2.f1, true, (0 : Int))) (bx_sk (x := ⟨⟨#[97]⟩, 4, 1⟩) bx_seek2) ?_
  refine ev_bind (a := ((⟨#[97, 98]⟩ : ByteArray), (3 : Int), (1 : Int))) rfl ?_
  refine ev_bind (a := (zeroE.f0.f0, zeroE.f0.f1, zeroE.f0.f2, zeroE.f1, false, (0 : Int))) (bx_sk (x := ⟨⟨#[97, 98]⟩, 3, 1⟩) bx_seek3) ?_
  refine ev_bind (show block_Build.f ([] : List En) = some ([], 70) from by rw [build_f (by simp) (fun e he => by cases he)]; rfl) ?_
  refine ev_call bx_none ?_
  refine ev_pos (by decide +kernel) ?_
  refine ev_bind (same_f bx_by bx_by) (ev_pos (decide_eq_true rfl) ?_)
  refine ev_call (esame_f bxL bxL (by decide)) (ev_pos (decide_eq_true rfl) ?_)
  refine ev_pos rfl (ev_pos (by decide) (ev_pos (by decide +kernel) ?_))
  refine ev_pos rfl (ev_pos (by decide) (ev_pos (by decide +kernel) ?_))
  refine ev_neg (by decide) (ev_pos (by decide +kernel) ?_)
  refine ev_pos rfl ?_
  exact ev_some true
end Go.Proofs.YtjcjfghcahbbmaaL

end

section
set_option linter.unusedVariables false
namespace Go.Proofs.Ytjcjfghcahbbmaa.Pure
open Go Go.RowKit Go.Proofs.Ytjcjfghcahbbmaa.P Go.Proofs.YtjcjfghcahbbmaaG Go.Proofs.YtjcjfghcahbbmaaL Go.Proofs.YtjcjfghcahbbmaaW.PrintWords Go.Proofs.YtjcjfghcahbbmaaW.PrintMore Go.Proofs.YtjcjfghcahbbmaaW.PrintLast
theorem cmp_ev (x y : Ik) : Ev (fun k => ikey_Compare.f k x.f0 x.f1 x.f2 y.f0 y.f1 y.f2) (cmpI x y) := ev_of 4 (fun k => compare_f k x y)
/-- What is sought in a block's bytes. -/
theorem seek_of {L : List En} (hk : okEs L = true) (hw : ∀ e ∈ L, WfN e) (x : Ik) {e : En} {b : Bool} (h : seekR (L, 0) x = (e, b, 0)) : block_Seek.f (formB L) x.f0 x.f1 x.f2 = some (e.f0.f0, e.f0.f1, e.f0.f2, e.f1, b, 0) := by
  rw [seek_f hk hw x, h]
theorem own_at {L : List En} (hr : risesB L = true) {i : Nat} (hi : i < L.length) : seekR (L, 0) (L[i]).f0 = (L[i], true, 0) := by
  have h0 : cmpI (L[i]).f0 (L[i]).f0 = 0 := (cmpI_zero _ _).2 ⟨rfl, rfl, rfl⟩
  have hle : seekN L (L[i]).f0 ≤ L.length := tw_le (aheadB (L[i]).f0) L
  have hs : seekN L (L[i]).f0 = i := by
    rcases Nat.lt_trichotomy (seekN L (L[i]).f0) i with h | h | h
    · have h1 := rises_at L hr _ i h hi
      have h2 : aheadB (L[i]).f0 (L[seekN L (L[i]).f0]'(by omega)) = false := seek_at hr (Nat.le_refl _) (by omega)
      exact absurd h1 (of_decide_eq_false h2)
    · exact h
    · have h2 : aheadB (L[i]).f0 L[i] = true := seek_lt h hi
      have h3 : cmpI (L[i]).f0 (L[i]).f0 < 0 := of_decide_eq_true h2
      omega
  unfold seekR
  rw [if_pos rfl]
  show (if seekN L (L[i]).f0 < L.length then (L.getD (seekN L (L[i]).f0) zeroE, true, (0 : Int)) else _) = _
  rw [hs, if_pos hi, List.getD_eq_getElem?_getD, List.getElem?_eq_getElem hi]
  rfl
theorem sk_l1 (L : List En) (x : Ik) (hr : risesB L = true) (hl : L.length ≤ 64) : ∀ (d i : Nat), i + d = L.length → i ≤ seekN L x →
    Ev (fun k => ratlinelaw07_BlockSeek.l1 k (seekR (L, 0) x).2.1 L (L.length : Int) (i : Int) x.f0 x.f1 x.f2 (seekR (L, 0) x).1.f0.f0 (seekR (L, 0) x).1.f0.f1 (seekR (L, 0) x).1.f0.f2 (seekR (L, 0) x).1.f1) true := by
  intro d
  induction d with
  | zero =>
    intro i hi hs
    have hle : seekN L x ≤ L.length := tw_le (aheadB x) L
    have hR : seekR (L, 0) x = (zeroE, false, 0) := by
      unfold seekR
      rw [if_pos rfl, if_neg (by show ¬ seekN L x < L.length; omega)]
    rw [hR]
    refine ev_step (fun k => by rw [ratlinelaw07_BlockSeek.l1, if_neg (by omega)]) ?_
    refine ev_neg (by decide) (ev_pos (by decide +kernel) ?_)
    exact ev_call awake07 (ev_some _)
  | succ d ih =>
    intro i hi hs
    have hlt : i < L.length := by omega
    refine ev_step (fun k => by rw [ratlinelaw07_BlockSeek.l1, if_pos (by omega), if_pos (by omega), if_pos (by omega), rd_en L hlt, up1 (by omega)]) ?_
    refine ev_call (cmp_ev _ _) ?_
    by_cases hc : cmpI (L[i]).f0 x < 0
    · have hs2 : i + 1 ≤ seekN L x := by
        rcases Nat.lt_or_ge i (seekN L x) with h | h
        · exact h
        · have := seek_at (x := x) hr h hlt
          exact absurd hc (of_decide_eq_false this)
      exact ev_pos hc (ih (i + 1) (by omega) hs2)
    · have hn : seekN L x = i := by
        rcases Nat.lt_or_ge i (seekN L x) with h | h
        · exact absurd (of_decide_eq_true (seek_lt h hlt)) hc
        · omega
      have hR : seekR (L, 0) x = (L[i], true, 0) := by
        unfold seekR
        rw [if_pos rfl]
        show (if seekN L x < L.length then (L.getD (seekN L x) zeroE, true, (0 : Int)) else _) = _
        rw [hn, if_pos hlt, List.getD_eq_getElem?_getD, List.getElem?_eq_getElem hlt]
        rfl
      rw [hR]
      refine ev_neg hc (ev_pos rfl (ev_pos (by simp) ?_))
      exact ev_call awake07 (ev_some _)
theorem sk_l0 (L : List En) (x : Ik) (hk : okEs L = true) (hw : ∀ e ∈ L, WfN e) : ∀ (d i : Nat), i + d = L.length →
    Ev (fun k => ratlinelaw07_BlockSeek.l0 k L (formB L) L (L.length : Int) (i : Int) x.f0 x.f1 x.f2) true := by
  obtain ⟨k1, k2, k3, k4⟩ := okEs_parts hk
  intro d
  induction d with
  | zero =>
    intro i hi
    refine ev_step (fun k => by rw [ratlinelaw07_BlockSeek.l0, if_neg (by omega)]) ?_
    refine ev_bind (seek_f hk hw x) (ev_pos ?_ (sk_l1 L x k4 k2 L.length 0 (by omega) (Nat.zero_le _)))
    show (seekR (L, 0) x).2.2 = 0
    unfold seekR
    rw [if_pos rfl]
    split <;> rfl
  | succ d ih =>
    intro i hi
    have hlt : i < L.length := by omega
    refine ev_step (fun k => by rw [ratlinelaw07_BlockSeek.l0, if_pos (by omega), if_pos (by omega), if_pos (by omega), rd_en L hlt, up1 (by omega)]) ?_
    refine ev_bind (seek_of hk hw (L[i]).f0 (own_at k4 hlt)) ?_
    exact ev_pos rfl (ev_pos rfl (ev_neg (by simp) (ih (i + 1) (by omega))))
theorem BlockSeek (l : List En) (_ : l.length ≤ maxLen) (hl : l.length * 48 ≤ 140737488351232) (hw : ∀ e ∈ l, (e.f0.f0.size ≤ maxLen ∧ (Lit.int .u64 e.f0.f1).wf = true ∧ (Lit.int .u8 e.f0.f2).wf = true) ∧ e.f1.size ≤ maxLen)
    (x : Ik) (_ : x.f0.size ≤ maxLen ∧ (Lit.int .u64 x.f1).wf = true ∧ (Lit.int .u8 x.f2).wf = true) :
    ∃ k, ratlinelaw07_BlockSeek.f k l x.f0 x.f1 x.f2 = some true := by
  have hw' : ∀ e ∈ l, WfN e := fun e he => by
    obtain ⟨⟨_, h1, h2⟩, _⟩ := hw e he
    simp [Lit.wf, IntKind.min, IntKind.max, IntKind.bits, IntKind.signed] at h1 h2
    exact ⟨by omega, by omega⟩
  refine Ev.rounds (g := fun k => ratlinelaw07_BlockSeek.f k l x.f0 x.f1 x.f2) ?_
  unfold ratlinelaw07_BlockSeek.f
  have ht : Ev (fun k => ratlinelaw07_BlockSeek.j0 k l true x.f0 x.f1 x.f2) true := by
    refine ev_step (fun k => by rw [ratlinelaw07_BlockSeek.j0, if_pos rfl]) ?_
    exact ev_call awake07 (ev_some _)
  refine ev_call (ev_of (l.length + 1) (fun k => by rw [show k + (l.length + 1) = l.length + k + 1 by omega]; exact few_f' l 70 (by omega) k)) ?_
  by_cases h1 : (∀ e ∈ l, Short e) ∧ ((l.length : Int) ≤ 70)
  · refine ev_pos (by simpa using h1) ?_
    by_cases h3 : (x.f0.size : Int) > 70
    · rw [decide_eq_true h3]; exact ht
    · rw [decide_eq_false h3]
      refine ev_step (fun k => by rw [ratlinelaw07_BlockSeek.j0, if_neg (by decide)]) ?_
      refine ev_bind (srt_f (by omega)) ?_
      have hws := srt_wf hw'
      by_cases h0 : 0 < (srtE 64 l).length
      · have hk := srt_ok l h0
        have hsl := (okEs_parts hk).2.1
        refine ev_neg (by omega) ?_
        refine ev_bind (a := (formB (srtE 64 l), 0)) (by rw [build_f (by omega) hws, if_pos hk]) (ev_pos rfl ?_)
        exact sk_l0 (srtE 64 l) x hk hws (srtE 64 l).length 0 (by omega)
      · refine ev_pos (by omega) ?_
        exact ev_call awake07 (ev_some _)
  · exact ev_neg (by simpa using h1) ht
end Go.Proofs.Ytjcjfghcahbbmaa.Pure

end

section
set_option linter.unusedVariables false
namespace Go.Proofs.YtjcjfghcahbbmaaG
open Go Go.RowKit Go.Proofs.YtjcjfghcahbbmaaW.PrintWords

/-- What is trodden of this type is of this kind, and is right. -/
def Opens {α : Type} (P : Program) (t : TypeId) (d : Kd α) (wf : α → Prop) : Prop :=
  ∀ (H : Type) (enc : TypeId × Value → H) (w : World) (base : Nat) (sp : Nat → Bool) (held : Bool) (fuel : Nat) (cs : List Value) (x : DataW H × List MemPlace),
    DataW.trod enc P w base sp held fuel t cs = some x → ∃ a, d.K w a cs ∧ wf a
section
variable {P : Program} {t e : TypeId}
theorem opens_int {k : IntKind} (ht : P.underlying t = some (.int k)) : Opens P t (Kd.int k) (fun n => (Lit.int k n).wf = true) := by
  intro H enc w base sp held fuel cs x h
  obtain ⟨n, rfl, _, hw⟩ := DataW.trod_int ht h
  exact ⟨n, rfl, hw⟩
theorem opens_string (ht : P.underlying t = some .string) : Opens P t Kd.string (fun s => s.size ≤ maxLen) := by
  intro H enc w base sp held fuel cs x h
  obtain ⟨n, rfl, _, hm⟩ := DataW.trod_string ht h
  exact ⟨n, rfl, hm⟩
theorem build {α : Type} {Q : Nat → α → Prop} : ∀ n : Nat, (∀ i, i < n → ∃ a, Q i a) → ∃ l : List α, l.length = n ∧ ∀ i a, l[i]? = some a → Q i a := by
  intro n
  induction n with
  | zero => intro _; exact ⟨[], rfl, fun i a h => by simp at h⟩
  | succ n ih =>
    intro h
    obtain ⟨l, hl, hq⟩ := ih (fun i hi => h i (by omega))
    obtain ⟨a, ha⟩ := h n (by omega)
    refine ⟨l ++ [a], by simp [hl], fun i b hb => ?_⟩
    by_cases hi : i < n
    · rw [List.getElem?_append_left (by omega)] at hb
      exact hq i b hb
    · rw [List.getElem?_append_right (by omega)] at hb
      by_cases hin : i = n
      · subst hin
        rw [hl, Nat.sub_self] at hb
        simp at hb
        exact hb ▸ ha
      · rw [List.getElem?_eq_none (by simp; omega)] at hb
        cases hb
theorem opens_row {α : Type} {d : Kd α} {wf : α → Prop} (hc : P.cellsOf e = d.sz) (ht : P.underlying t = some (.slice e)) (he : Opens P e d wf)
    {H : Type} {enc : TypeId × Value → H} {w : World} {base : Nat} {sp : Nat → Bool} {held : Bool} {fuel : Nat} {cs : List Value} {x : DataW H × List MemPlace} (h : DataW.trod enc P w base sp held fuel t cs = some x) :
    ∃ (A : Option Addr) (c : Nat) (xs : List α), cs = [.slice A xs.length c] ∧ xs.length ≤ c ∧ c ≤ maxLen ∧ d.C w A xs.length xs ∧ ∀ a ∈ xs, wf a := by
  rcases DataW.trod_slice ht h with ⟨rfl, _⟩ | ⟨ad, len, cap, elems, rest, n, _, rfl, _, hb, hl, hm, hn, hel, _, _⟩
  · exact ⟨none, 0, [], rfl, Nat.le_refl _, by decide, Kd.C_nil d w, fun a ha => by cases ha⟩
  · obtain ⟨xs, hxl, hx⟩ := build (Q := fun i a => wf a ∧ ∃ c, c.length = d.sz ∧ d.K w a c ∧ ∀ j u, c[j]? = some u → w.cell? (ad.add (i * d.sz + j)) = some u) len (fun i hi => by
      have h1 := hel i hi
      rw [List.getElem?_eq_getElem (by omega)] at h1
      obtain ⟨cs', hcs, htr⟩ := Option.bind_eq_some_iff.1 h1
      obtain ⟨a, ha, hw⟩ := he H enc w base sp held n cs' _ htr
      have hlen := d.K_len ha
      obtain ⟨_, hlen2, hcell⟩ := World.cells?_some hcs
      refine ⟨a, hw, cs', hlen, ha, fun j u hj => ?_⟩
      have hjl : j < cs'.length := by
        by_cases hjl : j < cs'.length
        · exact hjl
        · rw [List.getElem?_eq_none (by omega)] at hj; cases hj
      have h2 := hcell j (by omega)
      rw [hc] at h2
      have hadd : (ad.add (i * d.sz)).add j = ad.add (i * d.sz + j) := Addr.add_add ad _ _
      rw [← hadd, h2, hj])
    have hmax : maxLen ≤ 9223372036854775807 := by decide
    refine ⟨some ad, cap, xs, by rw [hxl], by omega, hm, ⟨rfl, by omega, fun _ => ⟨ad, rfl, fun j p hp => (hx j p hp).2⟩⟩, fun a ha => ?_⟩
    obtain ⟨i, hi⟩ := List.mem_iff_getElem?.1 ha
    exact (hx i a hi).1
theorem Opens.iso {α β : Type} {d : Kd α} {wf : α → Prop} (h : Opens P t d wf) (f : β → α) (g : α → β) (hfg : ∀ a, f (g a) = a) : Opens P t (Kd.iso d f) (fun b => wf (f b)) := by
  intro H enc w base sp held fuel cs x htr
  obtain ⟨a, ha, hw⟩ := h H enc w base sp held fuel cs x htr
  exact ⟨g a, by show d.K w (f (g a)) cs; rw [hfg]; exact ha, by show wf (f (g a)); rw [hfg]; exact hw⟩
end

/-- A field of a struct. -/
theorem opens_field {α : Type} {P : Program} {t e : TypeId} {fs : Array Field} {d : Kd α} {wf : α → Prop} {off i : Nat} {f : Field} (ht : P.underlying t = some (.struct fs)) (hi : fs[i]? = some f) (hft : f.type = e) (hfo : f.offset = off) (hc : P.cellsOf e = d.sz) (he : Opens P e d wf)
    {H : Type} {enc : TypeId × Value → H} {w : World} {base : Nat} {sp : Nat → Bool} {held : Bool} {fuel : Nat} {cs : List Value} {x : DataW H × List MemPlace} (h : DataW.trod enc P w base sp held fuel t cs = some x) :
    ∃ a, d.K w a ((cs.drop off).take d.sz) ∧ wf a := by
  obtain ⟨xs, n, _, _, _, hn, hf⟩ := DataW.trod_struct ht h
  have h1 := hf i f hi
  have hil : i < xs.length := by
    rw [hn]
    exact (Array.getElem?_eq_some_iff.1 hi).1
  rw [List.getElem?_eq_getElem hil, hft, hfo, hc] at h1
  exact he H enc w base sp held n _ _ h1
theorem opens_cells {P : Program} {t : TypeId} {fs : Array Field} (ht : P.underlying t = some (.struct fs)) {H : Type} {enc : TypeId × Value → H} {w : World} {base : Nat} {sp : Nat → Bool} {held : Bool} {fuel : Nat} {cs : List Value} {x : DataW H × List MemPlace} (h : DataW.trod enc P w base sp held fuel t cs = some x) :
    cs.length = P.cellsOf t := by
  obtain ⟨xs, n, _, _, hl, _⟩ := DataW.trod_struct ht h
  exact hl
theorem opens_struct2 {α β : Type} {P : Program} {t ta tb : TypeId} {fs : Array Field} {a : Kd α} {b : Kd β} {wa : α → Prop} {wb : β → Prop} (ht : P.underlying t = some (.struct fs)) (hc : P.cellsOf t = a.sz + b.sz)
    (f0 : (fs[0]?).map (fun f => (f.type, f.offset)) = some (ta, 0)) (f1 : (fs[1]?).map (fun f => (f.type, f.offset)) = some (tb, a.sz)) (ca : P.cellsOf ta = a.sz) (cb : P.cellsOf tb = b.sz) (oa : Opens P ta a wa) (ob : Opens P tb b wb) :
    Opens P t (Kd.pair a b) (fun x => wa x.1 ∧ wb x.2) := by
  intro H enc w base sp held fuel cs x h
  obtain ⟨g0, e0, q0⟩ := Option.map_eq_some_iff.1 f0
  obtain ⟨g1, e1, q1⟩ := Option.map_eq_some_iff.1 f1
  simp only [Prod.mk.injEq] at q0 q1
  obtain ⟨x0, k0, w0⟩ := opens_field ht e0 q0.1 q0.2 ca oa h
  obtain ⟨x1, k1, w1⟩ := opens_field ht e1 q1.1 q1.2 cb ob h
  have hl := opens_cells ht h
  have hsp : (cs.drop a.sz).take b.sz = cs.drop a.sz := List.take_of_length_le (by rw [List.length_drop]; omega)
  rw [List.drop_zero] at k0
  rw [hsp] at k1
  exact ⟨(x0, x1), ⟨cs.take a.sz, cs.drop a.sz, (List.take_append_drop _ _).symm, k0, k1⟩, w0, w1⟩
theorem opens_struct3 {α β γ : Type} {P : Program} {t ta tb tc : TypeId} {fs : Array Field} {a : Kd α} {b : Kd β} {c : Kd γ} {wa : α → Prop} {wb : β → Prop} {wc : γ → Prop} (ht : P.underlying t = some (.struct fs)) (hc : P.cellsOf t = a.sz + (b.sz + c.sz))
    (f0 : (fs[0]?).map (fun f => (f.type, f.offset)) = some (ta, 0)) (f1 : (fs[1]?).map (fun f => (f.type, f.offset)) = some (tb, a.sz)) (f2 : (fs[2]?).map (fun f => (f.type, f.offset)) = some (tc, a.sz + b.sz)) (ca : P.cellsOf ta = a.sz) (cb : P.cellsOf tb = b.sz) (cc : P.cellsOf tc = c.sz) (oa : Opens P ta a wa) (ob : Opens P tb b wb) (oc : Opens P tc c wc) :
    Opens P t (Kd.pair a (Kd.pair b c)) (fun x => wa x.1 ∧ wb x.2.1 ∧ wc x.2.2) := by
  intro H enc w base sp held fuel cs x h
  obtain ⟨g0, e0, q0⟩ := Option.map_eq_some_iff.1 f0
  obtain ⟨g1, e1, q1⟩ := Option.map_eq_some_iff.1 f1
  obtain ⟨g2, e2, q2⟩ := Option.map_eq_some_iff.1 f2
  simp only [Prod.mk.injEq] at q0 q1 q2
  obtain ⟨x0, k0, w0⟩ := opens_field ht e0 q0.1 q0.2 ca oa h
  obtain ⟨x1, k1, w1⟩ := opens_field ht e1 q1.1 q1.2 cb ob h
  obtain ⟨x2, k2, w2⟩ := opens_field ht e2 q2.1 q2.2 cc oc h
  have hl := opens_cells ht h
  have hsp : (cs.drop (a.sz + b.sz)).take c.sz = (cs.drop a.sz).drop b.sz := by rw [List.take_of_length_le (by rw [List.length_drop]; omega), List.drop_drop]
  rw [List.drop_zero] at k0
  rw [hsp] at k2
  exact ⟨(x0, x1, x2), ⟨cs.take a.sz, cs.drop a.sz, (List.take_append_drop _ _).symm, k0, _, _, (List.take_append_drop b.sz _).symm, k1, k2⟩, w0, w1, w2⟩
/-- A struct as an argument. -/
theorem opens_agg {P : Program} {t : TypeId} {fs : Array Field} {w : World} {r : Reach} {base : Nat} {v : Value} (ht : P.underlying t = some (.struct fs)) (h : Value.okWide P w r base t v) : ∃ cs, v = .agg cs := by
  unfold Value.okWide at h
  rw [ht] at h
  obtain ⟨cs, hv, _⟩ := h
  exact ⟨cs, hv⟩
/-- A row's slice is no longer than its weight allows. -/
theorem sized_row {H : Type} {enc : TypeId × Value → H} {P : Program} {W : World} {base : Nat} {spare : Nat → Bool} {held : Bool} {t e : TypeId} {a : Option Addr} {len cap : Nat} {d : DataW H} {ps : List MemPlace} {ts : List TypeId} {ds : List (DataW H)} {j : Nat}
    (hsz : (DataW.weightsEach P ts ds).all (· ≤ reachBytes) = true) (ht : ts[j]? = some t) (hd : ds[j]? = some d) (hu : P.underlying t = some (.slice e)) (B : Nat) (hB : P.bytesOf e = B)
    (h : DataW.Trod enc P W base spare held t (.slice a len cap) d ps) : len * B ≤ 140737488351232 := by
  obtain ⟨fuel, hf⟩ := h
  rcases DataW.trod_slice hu hf with ⟨hcs, _⟩ | ⟨ad, l, c, elems, rest, n, _, hcs, hx, _, _, _, hn, _⟩
  · simp only [Value.cells, List.cons.injEq, Value.slice.injEq, and_true] at hcs
    obtain ⟨rfl, rfl, rfl⟩ := hcs
    rw [Nat.zero_mul]; omega
  · simp only [Value.cells, List.cons.injEq, Value.slice.injEq, and_true] at hcs
    obtain ⟨rfl, rfl, rfl⟩ := hcs
    obtain ⟨hx, _⟩ := Prod.mk.inj hx
    subst hx
    have z := sized_slice hsz ht hd hu
    rw [hB, List.length_map, List.length_map] at z
    exact Nat.le_trans (Nat.mul_le_mul_right _ (by omega)) z
end Go.Proofs.YtjcjfghcahbbmaaG

end

section
set_option linter.unusedVariables false
namespace Go.Proofs.Ytjcjfghcahbbmaa.blockSeek
open Go Go.ChangeShapes Go.WideShapes Go.ChangeAt Go.RowKit Go.Proofs.YtjcjfghcahbbmaaG Go.Proofs.Ytjcjfghcahbbmaa.P Go.Proofs.YtjcjfghcahbbmaaW.PrintWords
open Go.ChangeMaps (open_string shut_string)
theorem own : ownKnob Try.prog.godebug = none := by kernel_rfl
theorem laidOut : laidOutB Try.prog = true := by kernel_rfl
set_option maxRecDepth 100000 in
theorem lifted (os : Os) (started : os.Started) (H : Type) (enc : TypeId × Value → H) :
    ReturnsInHanded {} Try.checked os 7 .any (Rows.blockSeekSpec.pre6 enc Try.prog Try.f7 Rows.blockSeekRow.domain false) (Rows.blockSeekSpec.post enc Try.prog Try.f7 false true false false) := by
  refine returnsInHanded_of_change_sized (C := Try.checked) own started (by kernel_rfl) Try.func7
    (ChangeSpec.witness6 (enc := enc) (C := Try.checked) false ⟨#[], #[.slice none 0 0, .agg #[.string ⟨#[]⟩, .int .u64 0, .int .u8 0]], []⟩ 8 (by kernel_rfl) (by kernel_rfl) (by kernel_rfl) (by kernel_rfl)) ?_
  intro W base args ds gs before hval0 hW hcnd hsz0 _
  have hsz : (DataW.weightsEach Try.prog (Try.f7.params.toList ++ Rows.blockSeekSpec.plain.varTypes Try.prog) (ds ++ gs)).all (· ≤ reachBytes) = true := hsz0
  have hval : ∀ (j : Nat) t v, Try.f7.params[j]? = some t → args[j]? = some v → Value.okWide Try.prog W .any base t v := hval0
  have hW' := hW
  obtain ⟨p, q, hA0, hV, rfl, hfz, hnd⟩ := hW
  have hA : DataW.TrodAll enc Try.prog W 0 (fun _ => true) true Try.f7.params.toList args.toList ds p := hA0
  rw [Try.params7] at hA hval hsz
  obtain ⟨v0, vs0, d0, ds0, p0, q0, hargs, rfl, rfl, h0, r0⟩ := trodAll_cons hA
  obtain ⟨v1, vs1, d1, ds1, p1, q1, rfl, rfl, rfl, h1, r1⟩ := trodAll_cons r0
  obtain ⟨rfl, rfl, rfl⟩ := trodAll_nil r1
  obtain rfl : args = #[v0, v1] := by cases args; simp_all
  obtain ⟨rfl, rfl⟩ := trodVars_none hV
  obtain ⟨a0, len0, cap0, rfl⟩ := okWide_slice Try.underlying48 (hval 0 48 v0 rfl rfl)
  have k0 := h0
  have y0 := sized_row hsz (j := 0) (t := 48) rfl rfl Try.underlying48 48 (by kernel_rfl) h0
  have lt0 : ∀ x ∈ p0, x.block < W.heap.size := by obtain ⟨m, hm⟩ := k0; exact DataW.trod_lt m _ _ _ hm
  obtain ⟨fuel0, hf0⟩ := h0
  obtain ⟨A0, c0, l0, hcs0, hl0, hm0, hC0, hw0⟩ := opens_row (by kernel_rfl) Try.underlying48 (show Opens Try.prog 59 k59 _ from Opens.iso (opens_struct2 (ta := 50) (tb := 9) Try.underlying59 (by kernel_rfl) (by kernel_rfl) (by kernel_rfl) (by kernel_rfl) (by kernel_rfl) (show Opens Try.prog 50 k50 _ from Opens.iso (opens_struct3 (ta := 9) (tb := 32) (tc := 5) Try.underlying50 (by kernel_rfl) (by kernel_rfl) (by kernel_rfl) (by kernel_rfl) (by kernel_rfl) (by kernel_rfl) (by kernel_rfl) (opens_string Try.underlying9) (opens_int Try.underlying32) (opens_int Try.underlying5)) (fun x : S50 => (x.f0, x.f1, x.f2)) (fun q => ⟨q.1, q.2.1, q.2.2⟩) (fun _ => rfl)) (opens_string Try.underlying9)) (fun x : S59 => (x.f0, x.f1)) (fun q => ⟨q.1, q.2⟩) (fun _ => rfl)) hf0
  simp only [Value.cells, List.cons.injEq, Value.slice.injEq, and_true] at hcs0
  obtain ⟨rfl, rfl, rfl⟩ := hcs0
  obtain ⟨cs1, rfl⟩ := opens_agg Try.underlying50 (hval 1 50 v1 rfl rfl)
  have k1 := h1
  have lt1 : ∀ x ∈ p1, x.block < W.heap.size := by obtain ⟨m, hm⟩ := k1; exact DataW.trod_lt m _ _ _ hm
  obtain ⟨fuel1, hf1⟩ := h1
  obtain ⟨x1, hx1, hw1⟩ := (show Opens Try.prog 50 k50 _ from Opens.iso (opens_struct3 (ta := 9) (tb := 32) (tc := 5) Try.underlying50 (by kernel_rfl) (by kernel_rfl) (by kernel_rfl) (by kernel_rfl) (by kernel_rfl) (by kernel_rfl) (by kernel_rfl) (opens_string Try.underlying9) (opens_int Try.underlying32) (opens_int Try.underlying5)) (fun x : S50 => (x.f0, x.f1, x.f2)) (fun q => ⟨q.1, q.2.1, q.2.2⟩) (fun _ => rfl)) H enc _ _ _ _ _ _ _ hf1
  obtain rfl : cs1 = #[.string x1.f0, .int .u64 x1.f1, .int .u8 x1.f2] := Array.ext' (k50_open hx1)
  obtain ⟨k, h⟩ := Pure.BlockSeek l0 (Nat.le_trans hl0 hm0) y0 hw0 x1 hw1
  clear hA0 hval0 hsz0 hsz
  refine (P.ratlinelaw07_BlockSeek.calls k _ _ l0 x1.f0 x1.f1 x1.f2 true W hC0 hl0 h).mono fun e W' ⟨he, bel⟩ => ?_
  subst he
  exact ⟨_, rfl, _, _, _, [], _, [], hW', trodAll_mk1 (shut_bool Try.underlying4 _), (trodAll_cons_mk (Below.trod laidOut (by kernel_rfl) (of_decide_eq_true (by kernel_rfl)) k0 bel lt0) (trodAll_cons_mk (Below.trod laidOut (by kernel_rfl) (of_decide_eq_true (by kernel_rfl)) k1 bel lt1) trodAll_mk0)), rfl, bel.frame _, fun h => by cases h⟩
theorem over : Rows.blockSeekRow.holds Try.pinned (OpenSpec.ofChange Rows.blockSeekSpec) :=
  OpenClaim.holds_of_wide 7 Try.f7 rfl rfl rfl rfl rfl rfl rfl ⟨rfl, rfl, rfl, rfl, rfl⟩ rfl rfl rfl rfl rfl (by kernel_rfl) Try.func7 (by kernel_rfl)
    (of_decide_eq_true (by kernel_rfl)) (by unfold Func.isWrapper; first | (rw [if_pos (by decide +kernel)]; kernel_rfl) | (rw [if_neg (by decide +kernel)]; exact ⟨rfl, rfl⟩))
    (fun os started H enc _ => lifted os started H enc)
theorem proved : Rows.BlockSeekSaid := over
#print axioms proved
end Go.Proofs.Ytjcjfghcahbbmaa.blockSeek
namespace Go.Proofs.Ytjcjfghcahbbmaa
/-- The row, under a short name, for the claim. -/
theorem blockSeek_holds : Rows.BlockSeekSaid := blockSeek.proved
end Go.Proofs.Ytjcjfghcahbbmaa

end
