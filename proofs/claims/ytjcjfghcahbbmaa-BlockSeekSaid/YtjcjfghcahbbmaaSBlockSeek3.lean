/- Proved here: what the row of BlockSeek needs, part 3. Conditions: those of each theorem. Written for this claim by programs; what the claim does not use is left out. -/
import Derived.Lib.AppendZeros
import Derived.OwnWalkIn
import Derived.TacticsInMore
import Derived.Shelf.Abstract
import Derived.Shelf.RegionOpen
import Derived.Lib.SliceRun
import Derived.WalkKit
import Derived.Test.YtjcjfghcahbbmaaSBlockSeek2
section
set_option linter.unusedVariables false
set_option linter.unusedSimpArgs false
namespace Go.Proofs.YtjcjfghcahbbmaaG
open Go Go.RowKit Go.Proofs.YtjcjfghcahbbmaaR Go.Proofs.YtjcjfghcahbbmaaW.PrintWords
attribute [local go_sem] Oper.semAt_some

theorem append_eqL {P : Program} (w : World) {ops : Array Oper} {rest : List Oper} {o : Oper} {a : Act} {Q : Exit → Act → World → Prop} (hgd : o.guard = none) (d s : Operand) (t t' : TypeId)
    (ho : o.op = .call { callee := .builtin .append, args := #[d, s], argTypes := #[t, t'] }) (v u : Value) (hd : a.eval d = v) (hs : a.eval s = u) {v' : Value} {w' : World}
    (hr : (Builtin.append_ #[t, t'] o.type #[v, u]).run P w = .ok v' w') (h : wpList P ops Q rest (a.put o.dst v') w') : wpList P ops Q (o :: rest) a w :=
  wpList_plain hgd fun _ hK => by
    unfold Oper.wp execOp
    simp only [ho, resolve, invoke, builtin, Sem.run_bind, Sem.run_pure, Result.andThen_ok, List.map_toArray, List.map_cons, List.map_nil, hd, hs, hr]
    exact hK _ _ h
theorem info_byte : ∃ i, Try.prog.info? 5 = some i ∧ i.zero = some (.int .u8 0) ∧ i.size = 1 ∧ i.bytes = 1 := by
  obtain ⟨i0, hi0, hz1⟩ := Option.map_eq_some_iff.1 info5
  injection hz1 with h0 h
  injection h with h1 h2
  exact ⟨i0, hi0, h0, h1, h2⟩
set_option maxRecDepth 100000 in
set_option maxHeartbeats 1000000 in
theorem grow_calls (n : Nat) (h0 : 0 < n) (hn : n ≤ 1000000000) (w : World) :
    Calls Try.prog 83 #[.slice none 0 0, .int .i64 n] w fun e w' => ∃ v, e = .returned v ∧ Kd.R (Kd.int .u8) 5 w' w.heap.size (fun _ => True) v ([] : List Int) ∧ Below w.heap.size w w' := by
  obtain ⟨i0, hi0, hz0, hzs, hzb⟩ := info_byte
  obtain ⟨G, hG⟩ : ∃ G, G = grownCap w n 0 5 := ⟨_, rfl⟩
  obtain ⟨ROW, hROW⟩ : ∃ ROW : Array Value, ROW = Builtin.zeroCells (Value.int .u8 0).cells n ++ Builtin.zeroCells (Value.int .u8 0).cells (G - n) := ⟨_, rfl⟩
  have hrz : ∀ ty, (Builtin.append_ #[26, 3] ty #[.slice none 0 0, .int .i64 (n : Int)]).run Try.prog w = .ok (.slice (some ⟨w.heap.size, 0, none⟩) n G) (w.drew.alloc (.cells ROW 5)) := fun ty => by
    have h := Lib.run_append_nil_zeros w 26 3 ty 5 i0 _ .i64 .i64 Try.underlying26 Try.underlying3 hi0 hz0 n h0 (by omega) (by omega) (by rw [hzb]; omega)
    rw [← hG, ← hROW] at h
    exact h
  have hGn : n ≤ G := by rw [hG]; exact grownCap_ge w _ _ _
  have hGm : G ≤ maxLen := by rw [hG]; exact grownCap_le_maxLen w n 0 5 (by unfold maxLen; omega)
  have hRs : ROW.size = G := by
    rw [hROW]
    simp [Builtin.zeroCells, Value.cells]
    omega
  obtain ⟨W1, hW1⟩ : ∃ W1, W1 = w.drew.alloc (.cells ROW 5) := ⟨_, rfl⟩
  rw [← hW1] at hrz
  have HR : Aside0 (Kd.R (Kd.int .u8) 5 W1 w.heap.size (fun _ => True) (.slice (some ⟨w.heap.size, 0, none⟩) 0 G) ([] : List Int)) :=
    ⟨⟨fun _ _ => trivial, [], ⟨by simp, .inr ⟨w.heap.size, G, ROW, rfl, Nat.le_refl _, by rw [hW1]; exact heap_alloc_new w.drew _, Nat.zero_le _, hGm, by rw [hRs]; exact (Nat.mul_one G).symm, by simp⟩⟩, Reps.none _ _⟩⟩
  have HB : Aside0 (Below w.heap.size w W1) := ⟨by rw [hW1]; exact below_alloc (below_drew (Below.refl _ _)) _⟩
  have hG63 : ¬ (G : Int) < 0 := by omega
  have hpos : decide ((0 : Int) < (n : Int)) = true := decide_eq_true (by omega)
  have hpos2 : decide (0 < n) = true := decide_eq_true h0
  have hpos3 : (0 < n) = True := eq_true h0
  have hneg : decide ((n : Int) < 0) = false := decide_eq_false (by omega)
  have hw64 : wrap64 (n : Int) = (n : Int) := by unfold wrap64; omega
  clear hROW hG hW1 hi0 hz0 hzs hzb h0
  go_enter Try.func83, Try.ntmps83
  have HRZ := Aside0.mk hrz
  clear hrz
  go_wp2_with ((with_reducible refine gate_builtin (b := .append) rfl ?_); refine append_eqL _ rfl (.tmp 20) (.tmp 21) 26 3 rfl (.slice none 0 0) (.int .i64 (n : Int)) rfl rfl (HRZ.out _) ?_)
  go_ret
  exact ⟨_, rfl, HR.out, HB.out⟩
/-- Two rows of bytes in a row. -/
def cat2 (l1 l2 : List Int) : Nat → List Int
  | 0 => []
  | 1 => l1
  | _ => l1 ++ l2
set_option maxRecDepth 100000 in
set_option maxHeartbeats 2000000 in
theorem concat_calls (g cL : Nat) (A1 A2 : Option Addr) (c1 c2 : Nat) (l1 l2 : List Int) (w : World) (hL : w.heap[g]? = some (.cells #[.slice A1 l1.length c1, .slice A2 l2.length c2] 26)) (hr1 : Kd.C (Kd.int .u8) w A1 l1.length l1) (hc1 : l1.length ≤ c1) (hr2 : Kd.C (Kd.int .u8) w A2 l2.length l2) (hc2 : l2.length ≤ c2) (h0 : 0 < l1.length + l2.length) (hn : l1.length + l2.length ≤ 1000000000) :
    Calls Try.prog 51 #[.slice (some ⟨g, 0, none⟩) 2 cL] w fun e w' => ∃ v, e = .returned v ∧ Kd.R (Kd.int .u8) 5 w' w.heap.size (fun _ => True) v (l1 ++ l2) ∧ Below w.heap.size w w' := by
  have hz0 : w.cell? ⟨g, 0, none⟩ = some (.slice A1 l1.length c1) := (blk_cell hL 0).trans rfl
  have hz1 : w.cell? ⟨g, 1, none⟩ = some (.slice A2 l2.length c2) := (blk_cell hL 1).trans rfl
  have HZ0 := Aside0.mk hz0
  have HZ1 := Aside0.mk hz1
  have HR1 := Aside0.mk hr1
  have HR2 := Aside0.mk hr2
  have HC1 := Aside0.mk hc1
  have HC2 := Aside0.mk hc2
  have HN := Aside0.mk hn
  have H0 := Aside0.mk h0
  clear hr1 hr2 hc1 hc2 hL
  have e01 : ((0 : Int) + 1) = 1 := rfl
  go_enter Try.func51, Try.ntmps51
  go_wp2
  go_loopg [3, 11] 2 (fun kq v3 v11 wr => ∃ j : Nat, Aside0 (j + kq = 2) ∧ v11 = .int .i64 (j : Int) ∧ v3 = .int .i64 ((cat2 l1 l2 j).length : Int) ∧ w = wr)
  case atStart => exact ⟨0, ⟨rfl⟩, rfl, rfl, rfl⟩
  case round =>
    obtain ⟨j, HJ, rfl, rfl, rfl⟩ := hrel
    have hJ := HJ.out
    by_cases hj2 : j = 2
    · subst hj2
      have hgk : gk = 0 := by omega
      subst hgk
      have hlen : (cat2 l1 l2 2).length = l1.length + l2.length := by simp [cat2]
      have hlen2 : ((cat2 l1 l2 2).length : Int) = ((l1.length + l2.length : Nat) : Int) := by rw [hlen]
      rw [hlen2]
      clear hlen hlen2 hz0 hz1 hJ hn h0
      obtain ⟨n, hn⟩ : ∃ n, n = l1.length + l2.length := ⟨_, rfl⟩
      rw [← hn]
      have HNN := Aside0.mk hn
      clear hn
      go_wp2_with (go_at_call 83; refine (grow_calls n (by have := HNN.out; have := H0.out; omega) (by have := HNN.out; have := HN.out; omega) _).mono ?_; rintro e w1 ⟨v1, rfl, hR, hb⟩; have HR := Aside0.mk hR; have HB := Aside0.mk hb; clear hR hb)
      go_loopg [6, 27] 2 (fun kq v6 v27 wr => ∃ j : Nat, Aside0 (j + kq = 2) ∧ v27 = .int .i64 (j : Int) ∧ Aside0 (Kd.R (Kd.int .u8) 5 wr w.heap.size (fun _ => True) v6 (cat2 l1 l2 j)) ∧ Aside0 (Below w.heap.size w wr))
      case atStart => exact ⟨0, ⟨rfl⟩, rfl, ⟨HR.out⟩, ⟨HB.out⟩⟩
      case round =>
        obtain ⟨j, HJ2, rfl, HR6, HB6⟩ := hrel
        clear HR HB
        have hJ := HJ2.out
        have hz0 := pw_cell_below HB6.out HZ0.out
        have hz1 := pw_cell_below HB6.out HZ1.out
        obtain ⟨A6, c6, e6⟩ := Kd.R_slice HR6.out
        subst e6
        by_cases hj2 : j = 2
        · subst hj2
          clear hz0 hz1 hJ
          go_wp2
          go_ret
          exact ⟨_, rfl, HR6.out, HB6.out⟩
        · by_cases hj1 : j = 1
          · subst hj1
            have hgk : gk = 1 := by omega
            subst hgk
            clear hJ hz0
            go_wp2_with ((with_reducible refine gate_builtin (b := .append) (xs := #[.tmp 31, .tmp 32]) rfl ?_); at_builtin; refine Kd.R_append_rows (Kd.int .u8) (w0 := w) w.heap.size rfl (.tmp 31) (.tmp 32) 26 5 (.int .u8 0) 1 rfl Try.underlying26 info5 rfl (by decide) (by omega) _ (cat2 l1 l2 1) l2 _ _ _ (fun _ => True) (fun _ => False) rfl rfl ?aO ?aR (fun _ _ h => h) (fun _ h => h.elim) ?aF ?aB ?aS ?aL ?_; (case aO => exact HR6.out); (case aR => exact Kd.C_below HR2.out HB6.out); (case aB => exact HB6.out); (case aF => exact (fun _ _ => trivial)); (case aS => exact HB6.out.size); (case aL => have := HN.out; show (l1.length + l2.length) * 1 ≤ _; omega); intro v7 w7 ho hb hg hat; have HO := Aside0.mk ho; have HB7 := Aside0.mk hb; clear ho hb hg hat)
            go_roundg 0
            case measure => exact Nat.lt_succ_self _
            case rel => exact ⟨2, ⟨rfl⟩, rfl, ⟨HO.out⟩, ⟨HB7.out⟩⟩
          · have hj0 : j = 0 := by omega
            subst hj0
            have hgk : gk = 2 := by omega
            subst hgk
            clear hJ hz1
            go_wp2_with ((with_reducible refine gate_builtin (b := .append) (xs := #[.tmp 31, .tmp 32]) rfl ?_); at_builtin; refine Kd.R_append_rows (Kd.int .u8) (w0 := w) w.heap.size rfl (.tmp 31) (.tmp 32) 26 5 (.int .u8 0) 1 rfl Try.underlying26 info5 rfl (by decide) (by omega) _ (cat2 l1 l2 0) l1 _ _ _ (fun _ => True) (fun _ => False) rfl rfl ?aO ?aR (fun _ _ h => h) (fun _ h => h.elim) ?aF ?aB ?aS ?aL ?_; (case aO => exact HR6.out); (case aR => exact Kd.C_below HR1.out HB6.out); (case aB => exact HB6.out); (case aF => exact (fun _ _ => trivial)); (case aS => exact HB6.out.size); (case aL => have := HN.out; show (0 + l1.length) * 1 ≤ _; omega); intro v7 w7 ho hb hg hat; have HO := Aside0.mk ho; have HB7 := Aside0.mk hb; clear ho hb hg hat)
            go_roundg 1
            case measure => exact Nat.lt_succ_self _
            case rel => exact ⟨1, ⟨rfl⟩, rfl, ⟨HO.out⟩, ⟨HB7.out⟩⟩
    · by_cases hj1 : j = 1
      · subst hj1
        have hgk : gk = 1 := by omega
        subst hgk
        have e1 : (cat2 l1 l2 1).length = l1.length := rfl
        have hs : wrap64 ((l1.length : Int) + (l2.length : Int)) = ((l1.length + l2.length : Nat) : Int) := by unfold wrap64; omega
        have hneg : decide (((l1.length + l2.length : Nat) : Int) < 0) = false := decide_eq_false (by omega)
        rw [e1]
        clear hJ hz0 h0
        go_wp2
        go_roundg 0
        case measure => exact Nat.lt_succ_self _
        case rel => exact ⟨2, ⟨rfl⟩, rfl, by simp [cat2, hs], rfl⟩
      · have hj0 : j = 0 := by omega
        subst hj0
        have hgk : gk = 2 := by omega
        subst hgk
        have e1 : (cat2 l1 l2 0).length = 0 := rfl
        have hs : wrap64 (l1.length : Int) = (l1.length : Int) := by unfold wrap64; omega
        have hneg : decide ((l1.length : Int) < 0) = false := decide_eq_false (by omega)
        rw [e1]
        clear hJ hz1 h0
        go_wp2
        go_roundg 1
        case measure => exact Nat.lt_succ_self _
        case rel => exact ⟨1, ⟨rfl⟩, rfl, by simp [cat2, hs], rfl⟩
end Go.Proofs.YtjcjfghcahbbmaaG

end

section
set_option linter.unusedVariables false
set_option linter.unusedSimpArgs false
namespace Go.Proofs.YtjcjfghcahbbmaaG
open Go Go.RowKit Go.Proofs.YtjcjfghcahbbmaaR Go.Proofs.YtjcjfghcahbbmaaL Go.Proofs.Ytjcjfghcahbbmaa.P Go.Proofs.YtjcjfghcahbbmaaW.PrintWords Go.Proofs.YtjcjfghcahbbmaaW.PrintMore
attribute [local go_sem] Oper.semAt_some

def MkB (base g : Nat) (s : BS) (W : World) : Prop := MkS base g s.b s.p s.m s.k W
/-- What is read in blocks ahead of n0 is read where those stay. -/
theorem F_stays {α : Type} {d : Kd α} {w W : World} {n0 g : Nat} {A : Option Addr} {n : Nat} {xs : List α} (h : Kd.F d w (fun k => k < n0) A n xs) (hs : Stays (fun k => k = g) w W) (hg : n0 ≤ g) (hgw : g < w.heap.size) : d.C W A n xs := h W (fun k hk _ => hs.block k (by omega) (by omega))
set_option maxRecDepth 100000 in
set_option maxHeartbeats 4000000 in
theorem each_calls (A : Option Addr) (c : Nat) (l : List En) (base g n0 : Nat) (w : World) (hF : Kd.F k59 w (fun k => k < n0) A l.length l) (hc : l.length ≤ c) (hn0 : n0 ≤ g) (hm : MkB base g BS.z w) (hbase : base ≤ w.heap.size) (hl : l.length ≤ 64) (ho : ∀ e ∈ l, OkE e) (hw : ∀ e ∈ l, WfN e) :
    Calls Try.prog 48 #[.slice A l.length c, .func (.func 49) #[.pointer (some ⟨g, 0, none⟩)] #[]] w fun x w' => (∃ u, x = .returned u) ∧ Stays (fun k => k = g) w w' ∧ MkB base g (bldS l) w' := by
  have HF := Aside0.mk hF
  have HC := Aside0.mk hc
  have HN0 := Aside0.mk hn0
  have HM0 := Aside0.mk hm
  have HBS := Aside0.mk hbase
  have HO := Aside0.mk ho
  have HW := Aside0.mk hw
  have HG := Aside0.mk (show g < w.heap.size from MkS.lt hm)
  have HLL := Aside0.mk hl
  clear hF hc hn0 hm hbase ho hw
  go_enter Try.func48, Try.ntmps48
  go_wp2
  go_loopg [8] l.length (fun kq v8 wr => ∃ k : Nat, v8 = .int .i64 (k : Int) ∧ Aside0 (k + kq = l.length) ∧ Aside0 (Stays (fun k => k = g) w wr) ∧ Aside0 (MkB base g (bldS (l.take k)) wr))
  case atStart => exact ⟨0, rfl, ⟨by omega⟩, ⟨Stays.refl _ _⟩, ⟨HM0.out⟩⟩
  case round =>
    obtain ⟨k, rfl, HK, HS, HM⟩ := hrel
    clear HM0
    by_cases hlt : k < l.length
    · cases gk with
      | zero => exact absurd HK.out (by omega)
      | succ k1 =>
        have hd1 : decide ((k : Int) < (l.length : Int)) = true := decide_eq_true (by omega)
        have hd2 : decide (k < l.length) = true := decide_eq_true hlt
        have hk1 : wrap64 ((k : Int) + 1) = ((k + 1 : Nat) : Int) := by unfold wrap64; omega
        obtain ⟨ad, e0, h0, h1, h2, h3⟩ := at_T59 (F_stays HF.out HS.out HN0.out HG.out) (k : Int) (by omega) (by omega)
        subst e0
        obtain ⟨e, he⟩ : ∃ e, e = l[k] := ⟨_, rfl⟩
        have hrd : rd_T59 l (k : Int) = e := by rw [he]; show l.getD ((k : Int)).toNat _ = _; rw [Int.toNat_natCast, List.getD_eq_getElem?_getD, List.getElem?_eq_getElem hlt]; rfl
        rw [hrd] at h0 h1 h2 h3
        simp only [Int.toNat_natCast] at h0 h1 h2 h3
        have hoe : OkE e := by rw [he]; exact HO.out _ (List.getElem_mem hlt)
        have hwe : WfN e := by rw [he]; exact HW.out _ (List.getElem_mem hlt)
        have htk : l.take (k + 1) = l.take k ++ [e] := by rw [he, List.take_succ_eq_append_getElem hlt]
        obtain ⟨p1, p2, p3, p4, p5, _⟩ := hoe.parts
        obtain ⟨b1, _, b3⟩ := bldS_len (l.take k) (fun x hx => HO.out x (List.mem_of_mem_take hx)) (fun x hx => HW.out x (List.mem_of_mem_take hx))
        have hlk : (l.take k).length ≤ 64 := by rw [List.length_take]; omega
        have hmm : (bldS (l.take k)).m ≤ 1000 := by rw [bldS_m]; omega
        have hks : (keyAt (bldS (l.take k)).m (bldS (l.take k)).k).size ≤ 1000000 := by
          unfold keyAt
          split
          · exact Nat.zero_le _
          · refine rev_ind (P := fun q => (∀ x ∈ q, OkE x) → (bldS q).k.size ≤ 1000000) (fun _ => Nat.zero_le _) (fun q x _ hq => ?_) (l.take k) (fun x hx => HO.out x (List.mem_of_mem_take hx))
            rw [bldS_snoc]
            have := (hq x (by simp)).parts.2.1
            show x.f0.f0.size ≤ _
            omega
        have HPUT : Aside0 (∀ W, MkB base g (bldS (l.take k)) W → base ≤ W.heap.size → Calls Try.prog 49 #[.pointer (some ⟨g, 0, none⟩), .agg #[.string e.f0.f0, .int .u64 e.f0.f1, .int .u8 e.f0.f2, .string e.f1]] W fun x w' => (∃ u, x = .returned u) ∧ Stays (fun k => k = g) W w' ∧ MkB base g (bldS (l.take (k + 1))) w') := ⟨fun W hMW hbW => by
          rw [htk, bldS_snoc]
          exact put_calls base g _ _ _ _ e _ W hMW hbW (by omega) (by omega) hmm (by omega) (by omega) hwe.1 p3 hwe.2 p4 (com_k hks (by omega)) (com_le _ _).2⟩
        clear he hrd hoe hwe htk p1 p2 p3 p4 p5 b1 b3 hlk hmm hks
        go_wp2_with (go_at_call 49; refine (HPUT.out _ ((HM.out).below (below_alloc (Below.refl _ _) _)) (by have := HBS.out; have := HS.out.size; simp; omega)).mono ?_; rintro x w1 ⟨⟨u, rfl⟩, hS1, hM1⟩; have HS1 := Aside0.mk hS1; have HM1 := Aside0.mk hM1; clear hS1 hM1)
        go_roundg k1
        case measure => exact Nat.lt_succ_self _
        case rel => exact ⟨k + 1, by first | rfl | rw [hk1], ⟨by have := HK.out; omega⟩, ⟨HS.out.trans ((Stays.alloc _ _ _).trans HS1.out)⟩, HM1⟩
    · have hd1 : decide ((k : Int) < (l.length : Int)) = false := decide_eq_false (by omega)
      have hd2 : decide (k < l.length) = false := decide_eq_false hlt
      have hkl : l.take k = l := List.take_of_length_le (by omega)
      have HKL := Aside0.mk hkl
      clear hlt hkl
      go_wp2
      go_end0
      refine ⟨⟨_, rfl⟩, HS.out, ?_⟩
      have := HM.out
      rw [HKL.out] at this
      exact this
set_option maxRecDepth 100000 in
set_option maxHeartbeats 4000000 in
/-- A right list: its bytes. -/
theorem build_yes (A0 : Option Addr) (c0 : Nat) (l : List En) (w : World) (hr0 : Kd.C k59 w A0 l.length l) (hc0 : l.length ≤ c0) (hw : ∀ e ∈ l, WfN e) (hk : okEs l = true) :
    Calls Try.prog 22 #[.slice A0 l.length c0] w fun e w' => ∃ v0_ : Value, e = .returned (.tuple #[v0_, .int .i64 0]) ∧ Kd.R (Kd.int .u8) 5 w' w.heap.size (fun _ => True) v0_ (formB l) ∧ Below w.heap.size w w' := by
  obtain ⟨k1, k2, k3, k4⟩ := okEs_parts hk
  obtain ⟨b1, b2, b3⟩ := bldS_len l k3 hw
  have hmm := bldS_m l
  have hu3 := Try.underlying88
  have HRT := Aside0.mk (fun W (hW : Below w.heap.size w W) => block_right.calls 200 A0 c0 l true W (Kd.C_below hr0 hW) hc0 (by rw [bright_f l 0, hk]))
  have HC0 := Aside0.mk hr0
  have HCC := Aside0.mk hc0
  have HO := Aside0.mk k3
  have HW := Aside0.mk hw
  have HL := Aside0.mk k2
  have HL0 := Aside0.mk k1
  obtain ⟨s, hs⟩ : ∃ s, s = bldS l := ⟨_, rfl⟩
  rw [← hs] at b1 b2 b3 hmm
  have HSS := Aside0.mk hs
  obtain ⟨r, hr⟩ : ∃ r, r = (l.length + 3) / 4 := ⟨_, rfl⟩
  obtain ⟨q, hq⟩ : ∃ q, q = s.b ++ s.p := ⟨_, rfl⟩
  obtain ⟨q2, hq2⟩ : ∃ q2, q2 = q ++ four r := ⟨_, rfl⟩
  have hfm : formB l = q2 := by rw [formB, outF, ← hs, hmm, hq2, hq, hr]
  rw [hfm]
  have HRR := Aside0.mk hr
  have HQ := Aside0.mk hq
  have HQ2 := Aside0.mk hq2
  clear hr hq hq2
  have HMM := Aside0.mk hmm
  have HB1 := Aside0.mk b1
  have HB2 := Aside0.mk b2
  have HB3 := Aside0.mk b3
  clear hr0 hc0 hw hk k1 k2 k3 k4 b1 b2 b3 hmm hs hfm
  go_enter Try.func22, Try.ntmps22
  go_upto_region 3 with (go_at_call 47; refine (HRT.out _ (Below.refl _ _)).mono ?_; rintro e w1 ⟨rfl, hd⟩; have HD1 := Aside0.mk hd; clear hd)
  have HM0 : Aside0 (MkB w.heap.size w1.heap.size BS.z (w1.alloc (mkBx none 0 0 none 0 0 0 ⟨#[]⟩))) := ⟨⟨none, 0, none, 0, World.alloc_heap_new w1 _, Kd.R_nil _ _ _ _ _, Kd.R_nil _ _ _ _ _⟩⟩
  have HF : Aside0 (Kd.F k59 (w1.alloc (mkBx none 0 0 none 0 0 0 ⟨#[]⟩)) (fun k => k < w.heap.size) A0 l.length l) := ⟨Kd.F_below (Kd.C_F k59_heap HC0.out) (below_alloc HD1.out _)⟩
  have HD2 : Aside0 (Below w.heap.size w (w1.alloc (mkBx none 0 0 none 0 0 0 ⟨#[]⟩))) := ⟨below_alloc HD1.out _⟩
  go_upto_region 5 with (go_at_call 48; refine (each_calls A0 c0 l w.heap.size w1.heap.size w.heap.size _ HF.out HCC.out HD1.out.size HM0.out HD2.out.size HL.out HO.out HW.out).mono ?_; rintro x w2 ⟨⟨u, rfl⟩, hS, hM⟩; have HS2 := Aside0.mk hS; have HM2 := Aside0.mk hM; clear hS hM)
  have HD3 : Aside0 (Below w.heap.size w w2) := ⟨⟨HS2.out.os.trans HD2.out.os, HS2.out.tape.trans HD2.out.tape, HS2.out.output.trans HD2.out.output, Nat.le_trans HD2.out.size HS2.out.size, fun k hk => (HS2.out.block k (by have := HD2.out.size; omega) (by have := HD1.out.size; show k ≠ w1.heap.size; omega)).trans (HD2.out.block k hk)⟩⟩
  rw [← HSS.out] at HM2
  obtain ⟨A, cA, B, cB, h1, h2, h3⟩ := HM2.out
  have hz0 : w2.cell? ⟨w1.heap.size, 0, none⟩ = some (.slice A s.b.length cA) := (blk_cell h1 0).trans rfl
  have hz1 : w2.cell? ⟨w1.heap.size, 1, none⟩ = some (.slice B s.p.length cB) := (blk_cell h1 1).trans rfl
  have hz2 : w2.cell? ⟨w1.heap.size, 2, none⟩ = some (.int .i64 (s.m : Int)) := (blk_cell h1 2).trans rfl
  have HRA := Aside0.mk h2
  have HRB := Aside0.mk h3
  clear h1 h2 h3
  have hm := HMM.out
  have hl := HL.out
  have hl0 := HL0.out
  rw [hm] at hz2
  have e1 : IntKind.i64.wrap ((l.length : Int) + 4) = ((l.length + 4 : Nat) : Int) := by rw [IntKind.wrap_i64]; omega
  have e2 : IntKind.i64.wrap (((l.length + 4 : Nat) : Int) - 1) = ((l.length + 3 : Nat) : Int) := by rw [IntKind.wrap_i64]; omega
  have e1' : wrap64 ((l.length : Int) + 4) = ((l.length + 4 : Nat) : Int) := by unfold wrap64; omega
  have e2' : wrap64 (((l.length + 4 : Nat) : Int) - 1) = ((l.length + 3 : Nat) : Int) := by unfold wrap64; omega
  clear hm
  go_upto_region 6 with (fail)
  have er : ((l.length : Int) + 4 - 1) / 4 = (r : Int) := by have := HRR.out; omega
  rw [er]
  have hq := HQ.out
  have hw32 : IntKind.u32.wrap (r : Int) = (r : Int) := by have := HRR.out; show (r : Int) % 4294967296 = _; omega
  have hql : q.length ≤ 1000000 := by rw [hq, List.length_append]; have := HB1.out; have := HB3.out; omega
  have HPF : Aside0 (nums_PutFour.f q (r : Int) = some q2) := ⟨by rw [HQ2.out]; exact putFour_f (by have := HRR.out; omega) (by omega)⟩
  clear er hq e1 e2 e1' e2' hz2
  go_wp2
  go_region_law (first
    | (go_simp; go_at_call 51; refine (concat_calls w2.heap.size _ A B cA cB s.b s.p (w2.alloc (.cells #[.slice A s.b.length cA, .slice B s.p.length cB] 26)).drew (World.alloc_heap_new w2 _) (Kd.C_below (Kd.R_reads' HRA.out).2.2 (below_drew (below_alloc (Below.refl _ _) _))) (Kd.R_reads' HRA.out).2.1 (Kd.C_below (Kd.R_reads' HRB.out).2.2 (below_drew (below_alloc (Below.refl _ _) _))) (Kd.R_reads' HRB.out).2.1 (by have := HB2.out; omega) (by have := HB1.out; have := HB3.out; omega)).mono ?_; rintro x w3 ⟨v3, rfl, hv, hd⟩; rw [← HQ.out] at hv; obtain ⟨A3, c3, hvv⟩ := Kd.R_slice hv; subst hvv; have HV3 := Aside0.mk hv; have HD4 := Aside0.mk (below_then HD3.out HD3.out.size (below_then (below_alloc (Below.refl w2.heap.size w2) _) (by simp) (Below.trans_drew hd))); clear hv hd)
    | (go_simp; go_at_call 50; (with_reducible refine (nums_PutFour.calls A3 c3 q (r : Int) q2 _ (Kd.R_reads' HV3.out).2.2 (Kd.R_reads' HV3.out).2.1 HPF.out).mono ?_); rintro x w4 ⟨v4, rfl, hv, hd⟩; have HV4 := Aside0.mk (Kd.R_lower hv HD4.out.size); have HD5 := Aside0.mk (below_then HD4.out HD4.out.size hd); clear hv hd))
  all_goals
    go_wp2
    go_ret2
    exact ⟨_, rfl, HV4.out, HD5.out⟩
theorem build_no (A0 : Option Addr) (c0 : Nat) (l : List En) (w : World) (hr0 : Kd.C k59 w A0 l.length l) (hc0 : l.length ≤ c0) (hk : okEs l = false) :
    Calls Try.prog 22 #[.slice A0 l.length c0] w fun e w' => ∃ v0_ : Value, e = .returned (.tuple #[v0_, .int .i64 70]) ∧ Kd.R (Kd.int .u8) 5 w' w.heap.size (fun _ => True) v0_ ([] : List Int) ∧ Below w.heap.size w w' := by
  have HRT := Aside0.mk (block_right.calls 200 A0 c0 l false w hr0 hc0 (by rw [bright_f l 0, hk]))
  clear hr0 hc0 hk
  go_enter Try.func22, Try.ntmps22
  go_wp2_with (go_at_call 47; refine HRT.out.mono ?_; rintro e w1 ⟨rfl, hd⟩; have HD1 := Aside0.mk hd; clear hd)
  go_ret2
  exact ⟨_, rfl, Kd.R_nil _ _ _ _ _, HD1.out⟩
theorem block_Build.calls (A0 : Option Addr) (c0 : Nat) (l0 : List En) (r1 : List Int) (r2 : Int) (w : World) (hr0 : Kd.C k59 w A0 l0.length l0) (hc0 : l0.length ≤ c0) (h : block_Build.f l0 = some (r1, r2)) :
    Calls Try.prog 22 #[.slice A0 l0.length c0] w fun e w' => ∃ v0_ : Value, e = .returned (.tuple #[v0_, .int .i64 r2]) ∧ Kd.R (Kd.int .u8) 5 w' w.heap.size (fun _ => True) v0_ r1 ∧ Below w.heap.size w w' := by
  unfold block_Build.f at h
  by_cases hw : l0.length ≤ 1000000 ∧ (∀ e ∈ l0, WfN e)
  · rw [if_pos hw] at h
    have h := Option.some.inj h
    cases hk : okEs l0 with
    | true =>
      rw [hk, if_pos rfl] at h
      simp only [Prod.mk.injEq] at h
      obtain ⟨rfl, rfl⟩ := h
      exact build_yes A0 c0 l0 w hr0 hc0 hw.2 hk
    | false =>
      rw [hk, if_neg (by decide)] at h
      simp only [Prod.mk.injEq] at h
      obtain ⟨rfl, rfl⟩ := h
      exact build_no A0 c0 l0 w hr0 hc0 hk
  · rw [if_neg hw] at h
    cases h
end Go.Proofs.YtjcjfghcahbbmaaG

end

section
namespace Go.Proofs.Ytjcjfghcahbbmaa.P
open Go.RowKit Go.Proofs.YtjcjfghcahbbmaaG Go.Proofs.YtjcjfghcahbbmaaW.PrintWords Go.Proofs.YtjcjfghcahbbmaaW.PrintLast Go.Proofs.YtjcjfghcahbbmaaW.PrintMore
attribute [local go_sem] str_gtr str_geq str_leq max2_int min2_int max_two min_two max_three min_three max_four min_four   -- for this text's walks alone
set_option linter.unusedVariables false
set_option linter.unusedSimpArgs false

def block_Parse.j0 : Nat → List Int → Int → Bool → Option ((List (S59)) × Int)
  | 0, _, _, _ => none
  | k + 1, x0, x7, x36 => if x36 = true then (some (([] : List (S59)), 70)) else (if 0 ≤ x7 then (if x7 ≤ (x0.length : Int) then ((block_entries.f k (x0.take (x7 : Int).toNat)).bind fun bt210 => ((block_Build.f bt210.1).bind fun bt214 => (if bt210.2 = true then (if bt214.2 = 0 then ((bytes_Equal.f bt214.1 x0).bind fun t218 => (if t218 = true then (some (bt210.1, 0)) else (some (([] : List (S59)), 70)))) else (some (([] : List (S59)), 70))) else (some (([] : List (S59)), 70))))) else (none)) else (none))
def block_Parse.f (k : Nat) (l0 : List Int) : Option ((List (S59)) × Int) := if 0 ≤ (mx (wrap64 ((l0.length : Int) - 4)) 0) then (if (mx (wrap64 ((l0.length : Int) - 4)) 0) ≤ (l0.length : Int) then ((nums_TakeFour.f (l0.drop ((mx (wrap64 ((l0.length : Int) - 4)) 0) : Int).toNat)).bind fun bt204 => (if bt204.2.2 = true then (block_Parse.j0 k l0 (wrap64 ((wrap64 ((l0.length : Int) - 4)) - (wrap64 (4 * (wrap64 (mn bt204.1 64)))))) (decide ((wrap64 ((wrap64 ((l0.length : Int) - 4)) - (wrap64 (4 * (wrap64 (mn bt204.1 64)))))) < 0))) else (block_Parse.j0 k l0 (wrap64 ((wrap64 ((l0.length : Int) - 4)) - (wrap64 (4 * (wrap64 (mn bt204.1 64)))))) true))) else (none)) else (none)
set_option maxHeartbeats 8000000 in
set_option maxRecDepth 100000 in
theorem block_Parse.calls (k : Nat) (A0 : Option Addr) (c0 : Nat) (l0 : List Int) (r1 : List (S59)) (r2 : Int) (w : World) (hr0 : Kd.C (Kd.int .u8) w A0 l0.length l0) (hc0 : l0.length ≤ c0) (h : block_Parse.f k l0 = some (r1, r2)) :
    Calls Try.prog 24 #[.slice A0 l0.length c0] w fun e w' => ∃ v0_ : Value, e = .returned (.tuple #[v0_, .int .i64 r2]) ∧ Kd.R k59 59 w' w.heap.size (fun _ => True) v0_ r1 ∧ Below w.heap.size w w' := by
  have HR0 := Aside0.mk hr0
  have HC0 := Aside0.mk hc0
  clear hr0 hc0
  have HB := Aside0.mk (Below.refl w.heap.size w)
  have H : (if 0 ≤ (mx (wrap64 ((l0.length : Int) - 4)) 0) then (if (mx (wrap64 ((l0.length : Int) - 4)) 0) ≤ (l0.length : Int) then ((nums_TakeFour.f (l0.drop ((mx (wrap64 ((l0.length : Int) - 4)) 0) : Int).toNat)).bind fun bt204 => (if bt204.2.2 = true then (block_Parse.j0 k l0 (wrap64 ((wrap64 ((l0.length : Int) - 4)) - (wrap64 (4 * (wrap64 (mn bt204.1 64)))))) (decide ((wrap64 ((wrap64 ((l0.length : Int) - 4)) - (wrap64 (4 * (wrap64 (mn bt204.1 64)))))) < 0))) else (block_Parse.j0 k l0 (wrap64 ((wrap64 ((l0.length : Int) - 4)) - (wrap64 (4 * (wrap64 (mn bt204.1 64)))))) true))) else (none)) else (none)) = some (r1, r2) := h
  clear h
  obtain ⟨ji2, hji2⟩ : ∃ j_ : Int, (mx (wrap64 ((l0.length : Int) - 4)) 0) = j_ := ⟨_, rfl⟩
  replace H : (if 0 ≤ (ji2) then (if (ji2) ≤ (l0.length : Int) then ((nums_TakeFour.f (l0.drop ((ji2) : Int).toNat)).bind fun bt204 => (if bt204.2.2 = true then (block_Parse.j0 k l0 (wrap64 ((wrap64 ((l0.length : Int) - 4)) - (wrap64 (4 * (wrap64 (mn bt204.1 64)))))) (decide ((wrap64 ((wrap64 ((l0.length : Int) - 4)) - (wrap64 (4 * (wrap64 (mn bt204.1 64)))))) < 0))) else (block_Parse.j0 k l0 (wrap64 ((wrap64 ((l0.length : Int) - 4)) - (wrap64 (4 * (wrap64 (mn bt204.1 64)))))) true))) else (none)) else (none)) = some (r1, r2) := by first | (rw [hji2] at H; exact H) | (simp only [hji2] at H ⊢; exact H)
  (try (have hji2l : 0 ≤ ji2 := by (rw [← hji2]; unfold mx; (repeat' split) <;> omega)))
  (try (have hji2m : 0 ≤ ji2 := by omega))
  have hji2_ : (if (wrap64 ((l0.length : Int) - 4)) < 0 then 0 else (wrap64 ((l0.length : Int) - 4))) = ji2 := hji2
  by_cases c3 : 0 ≤ (ji2)
  · rw [if_pos c3] at H
    have c3b0 := eq_true c3
    have c3b1 : decide (0 ≤ (ji2)) = true := decide_eq_true c3
    clear c3
    by_cases c4 : (ji2) ≤ (l0.length : Int)
    · rw [if_pos c4] at H
      have c4b0 := eq_true c4
      have c4b1 : decide ((ji2) ≤ (l0.length : Int)) = true := decide_eq_true c4
      clear c4
      replace H := Option.bind_eq_some_iff.mp H
      obtain ⟨⟨t204, t205, t206⟩, A50, H⟩ := H
      replace H : (if t206 = true then (block_Parse.j0 k l0 (wrap64 ((wrap64 ((l0.length : Int) - 4)) - (wrap64 (4 * (wrap64 (mn t204 64)))))) (decide ((wrap64 ((wrap64 ((l0.length : Int) - 4)) - (wrap64 (4 * (wrap64 (mn t204 64)))))) < 0))) else (block_Parse.j0 k l0 (wrap64 ((wrap64 ((l0.length : Int) - 4)) - (wrap64 (4 * (wrap64 (mn t204 64)))))) true)) = some (r1, r2) := H
      have A5 := Aside0.mk A50
      clear A50
      obtain ⟨ji6, hji6⟩ : ∃ j_ : Int, (mn t204 64) = j_ := ⟨_, rfl⟩
      replace H : (if t206 = true then (block_Parse.j0 k l0 (wrap64 ((wrap64 ((l0.length : Int) - 4)) - (wrap64 (4 * (wrap64 (ji6)))))) (decide ((wrap64 ((wrap64 ((l0.length : Int) - 4)) - (wrap64 (4 * (wrap64 (ji6)))))) < 0))) else (block_Parse.j0 k l0 (wrap64 ((wrap64 ((l0.length : Int) - 4)) - (wrap64 (4 * (wrap64 (ji6)))))) true)) = some (r1, r2) := by first | (rw [hji6] at H; exact H) | (simp only [hji6] at H ⊢; exact H)
      (try rw [hji6] at A5)
      (try (have hji6h : ji6 ≤ 64 := by (rw [← hji6]; unfold mn; (repeat' split) <;> omega)))
      (try (have hji6g : ji6 ≤ 64 := by omega))
      have hji6_ : (if 64 < t204 then 64 else t204) = ji6 := hji6
      have HC7 := Aside0.mk H
      clear H
      obtain ⟨i08, hi08, _, hsz8, _⟩ := info_parts info5
      obtain ⟨A8, hcut8, hA8, hC8⟩ := print_drop_of (P := Try.prog) (Value.int .u8) 0 26 5 .i64 Try.underlying26 hi08 hsz8 A0 c0 l0 (ji2) (of_decide_eq_true (by first | (with_reducible assumption) | assumption)) (of_decide_eq_true (by first | (with_reducible assumption) | assumption)) HC0.out
      have HR203 := Aside0.mk (Kd.C_of_reads (h1 := fun _ => rfl) (hA8 _ (Kd.reads_of_C HR0.out)))
      have HC203 := Aside0.mk hC8
      clear hA8 hC8 hi08 hsz8
      go_enter Try.func24, Try.ntmps24
      go_upto_region 3 with (first | ((with_reducible refine gate_callee (f := 57) rfl ?_); refine goesL_ (some 19) rfl rfl Try.func57 (by kernel_rfl) rfl #[.slice A8 (l0.drop ((ji2) : Int).toNat).length (c0 - (ji2).toNat)] rfl (by (try simp only [List.map_toArray, List.map_cons, List.map_nil]); first | done | (rw [show (l0.drop ((ji2) : Int).toNat).length = (l0.length - (ji2).toNat) from List.length_drop] <;> rfl) | (simp only [hji2]; rfl) | rfl | (simp only [List.length_drop, List.length_take]; rfl)) ?_; (with_reducible refine (nums_TakeFour.calls _ _ (l0.drop ((ji2) : Int).toNat) t204 t205 t206 _ ?side1 ?side2 A5.out).mono ?_); (case side1 => repeat (first | exact HR203.out | (with_reducible refine Kd.C_alloc ?_ _) | (with_reducible refine Kd.C_drewN ?_ _) | (with_reducible refine Kd.C_drew ?_))); (case side2 => exact HC203.out); rintro e w9 ⟨v207, rfl, ho0, hb⟩; refine ⟨_, rfl, ?_⟩; have n0_ := Aside0.mk (Kd.R_lower ho0 (below_size (by repeat (first | (with_reducible first | exact HB.out | apply below_alloc | apply pw_below_drewN | apply below_drew1) | exact HB.out)))); have n1_ := Aside0.mk (below_step (by repeat (first | (with_reducible first | exact HB.out | apply below_alloc | apply pw_below_drewN | apply below_drew1) | exact HB.out)) hb); clear HB; have HO208 := n0_; have HB := n1_; clear n0_ n1_; (try clear hb); (try clear hb2); (try clear hk); (try clear hi); (try clear ho0)))
      (try simp only [Act.put, List.setIfInBounds_toArray, List.set_cons_zero, List.set_cons_succ])
      go_cut [36] (fun v36 wc => ∃ (kq : Nat) (x36_6 : Bool), v36 = .bool x36_6 ∧ Aside0 (block_Parse.j0 kq l0 (wrap64 ((wrap64 ((l0.length : Int) - 4)) - (wrap64 (4 * (wrap64 (ji6)))))) x36_6 = some (r1, r2)) ∧ Aside0 (kq ≤ k) ∧ Aside0 (Below w.heap.size w wc))
      case first =>
        have H := HC7.out
        clear HC7
        by_cases c10 : t206 = true
        · subst c10
          have H1 : (block_Parse.j0 k l0 (wrap64 ((wrap64 ((l0.length : Int) - 4)) - (wrap64 (4 * (wrap64 (ji6)))))) (decide ((wrap64 ((wrap64 ((l0.length : Int) - 4)) - (wrap64 (4 * (wrap64 (ji6)))))) < 0))) = some (r1, r2) := by rw [if_pos rfl] at H; exact H
          clear H
          have H := H1
          clear H1
          have H' := Aside0.mk H
          clear H
          go_wp2
          go_meet
          case rel => exact ⟨_, (decide ((wrap64 ((wrap64 ((l0.length : Int) - 4)) - (wrap64 (4 * (wrap64 (ji6)))))) < 0)), (by first | rfl | (simp; done) | (simp only [← hji6] <;> (first | rfl | simp)) | (simp [*]; done)), H', ⟨by first | omega | exact Nat.le_refl _⟩, ⟨by repeat (first | (with_reducible first | exact HB.out | apply below_alloc | apply pw_below_drewN | apply below_drew1) | exact HB.out)⟩⟩
        · replace c10 := Bool.eq_false_iff.mpr c10
          subst c10
          have H1 : (block_Parse.j0 k l0 (wrap64 ((wrap64 ((l0.length : Int) - 4)) - (wrap64 (4 * (wrap64 (ji6)))))) true) = some (r1, r2) := by rw [if_neg (show ¬ (false = true) by decide)] at H; exact H
          clear H
          have H := H1
          clear H1
          have H' := Aside0.mk H
          clear H
          go_wp2
          go_meet
          case rel => exact ⟨_, (true), (by first | rfl | (simp; done) | (simp [*]; done)), H', ⟨by first | omega | exact Nat.le_refl _⟩, ⟨by repeat (first | (with_reducible first | exact HB.out | apply below_alloc | apply pw_below_drewN | apply below_drew1) | exact HB.out)⟩⟩
      case rest =>
        clear HC7
        try clear c1
        try clear c2
        try clear p2
        try clear c3
        try clear c3b0
        try clear c3b1
        try clear c4
        try clear c4b0
        try clear c4b1
        try clear c5
        try clear p6
        try clear c10
        obtain ⟨kq, x36_6, rfl, HA, HJ6, HB⟩ := hcut
        cases kq with
        | zero => exact absurd HA.out (by simp [block_Parse.j0])
        | succ kj6 =>
          have H := HA.out
          clear HA
          simp only [block_Parse.j0] at H
          by_cases c11 : x36_6 = true
          · subst c11
            have H1 : (some (([] : List (S59)), 70)) = some (r1, r2) := by rw [if_pos rfl] at H; exact H
            clear H
            have H := H1
            clear H1
            simp only [Option.some.injEq, Prod.mk.injEq] at H
            obtain ⟨rfl, rfl⟩ := H
            go_wp2
            go_ret2
            exact ⟨_, by first | rfl | (simp [errW_none, errW_some] <;> rfl) | (simp only [← hji2, ← hji6]; first | rfl | (simp [errW_none, errW_some] <;> rfl)) | (simp [*, errW_none, errW_some] <;> rfl), by first | exact Kd.R_nil _ _ _ _ _ | exact Kd.N_nil _ _ _ _ _ | exact Kd.V_nil _ _ _ _ _ | exact Kd.Q_nil _ _ _ _ _ | exact Kd.S_nil _ _ _ _ _, by repeat (first | (with_reducible first | exact HB.out | apply below_alloc | apply pw_below_drewN | apply below_drew1) | exact HB.out)⟩
          · replace c11 := Bool.eq_false_iff.mpr c11
            subst c11
            have H1 : (if 0 ≤ (wrap64 ((wrap64 ((l0.length : Int) - 4)) - (wrap64 (4 * (wrap64 (ji6)))))) then (if (wrap64 ((wrap64 ((l0.length : Int) - 4)) - (wrap64 (4 * (wrap64 (ji6)))))) ≤ (l0.length : Int) then ((block_entries.f kj6 (l0.take ((wrap64 ((wrap64 ((l0.length : Int) - 4)) - (wrap64 (4 * (wrap64 (ji6)))))) : Int).toNat)).bind fun bt210 => ((block_Build.f bt210.1).bind fun bt214 => (if bt210.2 = true then (if bt214.2 = 0 then ((bytes_Equal.f bt214.1 l0).bind fun t218 => (if t218 = true then (some (bt210.1, 0)) else (some (([] : List (S59)), 70)))) else (some (([] : List (S59)), 70))) else (some (([] : List (S59)), 70))))) else (none)) else (none)) = some (r1, r2) := by rw [if_neg (show ¬ (false = true) by decide)] at H; exact H
            clear H
            have H := H1
            clear H1
            obtain ⟨ji12, hji12⟩ : ∃ j_ : Int, (wrap64 ((wrap64 ((l0.length : Int) - 4)) - (wrap64 (4 * (wrap64 (ji6)))))) = j_ := ⟨_, rfl⟩
            replace H : (if 0 ≤ (ji12) then (if (ji12) ≤ (l0.length : Int) then ((block_entries.f kj6 (l0.take ((ji12) : Int).toNat)).bind fun bt210 => ((block_Build.f bt210.1).bind fun bt214 => (if bt210.2 = true then (if bt214.2 = 0 then ((bytes_Equal.f bt214.1 l0).bind fun t218 => (if t218 = true then (some (bt210.1, 0)) else (some (([] : List (S59)), 70)))) else (some (([] : List (S59)), 70))) else (some (([] : List (S59)), 70))))) else (none)) else (none)) = some (r1, r2) := by first | (rw [hji12] at H; exact H) | (simp only [hji12] at H ⊢; exact H)
            have hji12w : (IntKind.i64.wrap ((wrap64 ((l0.length : Int) - 4)) - (wrap64 (4 * (wrap64 (ji6)))))) = ji12 := (i64_w _).trans hji12
            by_cases c13 : 0 ≤ (ji12)
            · rw [if_pos c13] at H
              have c13b0 := eq_true c13
              have c13b1 : decide (0 ≤ (ji12)) = true := decide_eq_true c13
              clear c13
              by_cases c14 : (ji12) ≤ (l0.length : Int)
              · rw [if_pos c14] at H
                have c14b0 := eq_true c14
                have c14b1 : decide ((ji12) ≤ (l0.length : Int)) = true := decide_eq_true c14
                clear c14
                replace H := Option.bind_eq_some_iff.mp H
                obtain ⟨⟨t210, t213⟩, A150, H⟩ := H
                replace H : ((block_Build.f t210).bind fun bt214 => (if t213 = true then (if bt214.2 = 0 then ((bytes_Equal.f bt214.1 l0).bind fun t218 => (if t218 = true then (some (t210, 0)) else (some (([] : List (S59)), 70)))) else (some (([] : List (S59)), 70))) else (some (([] : List (S59)), 70)))) = some (r1, r2) := H
                have A15 := Aside0.mk A150
                clear A150
                replace H := Option.bind_eq_some_iff.mp H
                obtain ⟨⟨t214, t215⟩, A160, H⟩ := H
                replace H : (if t213 = true then (if t215 = 0 then ((bytes_Equal.f t214 l0).bind fun t218 => (if t218 = true then (some (t210, 0)) else (some (([] : List (S59)), 70)))) else (some (([] : List (S59)), 70))) else (some (([] : List (S59)), 70))) = some (r1, r2) := H
                have A16 := Aside0.mk A160
                clear A160
                by_cases c17 : t213 = true
                · subst c17
                  have H1 : (if t215 = 0 then ((bytes_Equal.f t214 l0).bind fun t218 => (if t218 = true then (some (t210, 0)) else (some (([] : List (S59)), 70)))) else (some (([] : List (S59)), 70))) = some (r1, r2) := by rw [if_pos rfl] at H; exact H
                  clear H
                  have H := H1
                  clear H1
                  by_cases c18 : t215 = 0
                  · rw [if_pos c18] at H
                    have c18b0 : (t215 == 0) = true := beq_iff_eq.mpr c18
                    have c18b1 : (t215 != 0) = false := bne_eq_false_iff_eq.mpr c18
                    clear c18
                    replace H := Option.bind_eq_some_iff.mp H
                    obtain ⟨t218, A190, H⟩ := H
                    replace H : (if t218 = true then (some (t210, 0)) else (some (([] : List (S59)), 70))) = some (r1, r2) := H
                    have A19 := Aside0.mk A190
                    clear A190
                    by_cases c20 : t218 = true
                    · subst c20
                      have H1 : (some (t210, 0)) = some (r1, r2) := by rw [if_pos rfl] at H; exact H
                      clear H
                      have H := H1
                      clear H1
                      simp only [Option.some.injEq, Prod.mk.injEq] at H
                      obtain ⟨rfl, rfl⟩ := H
                      obtain ⟨i021, hi021, _, hsz21, _⟩ := info_parts info5
                      obtain ⟨hcut21, hA21, hC21⟩ := print_take_of (P := Try.prog) (Value.int .u8) 0 26 5 .i64 Try.underlying26 hi021 hsz21 A0 c0 l0 (ji12) (of_decide_eq_true (by first | (with_reducible assumption) | assumption)) (of_decide_eq_true (by first | (with_reducible assumption) | assumption)) HC0.out
                      have HR209 := Aside0.mk (Kd.C_of_reads (h1 := fun _ => rfl) (hA21 _ (Kd.reads_of_C HR0.out)))
                      have HC209 := Aside0.mk hC21
                      clear hA21 hC21 hi021 hsz21
                      go_wp2_with (first | ((with_reducible refine gate_callee (f := 58) rfl ?_); refine goesL_ (some 41) rfl rfl Try.func58 (by kernel_rfl) rfl #[.slice A0 (l0.take ((ji12) : Int).toNat).length c0] rfl (by (try simp only [List.map_toArray, List.map_cons, List.map_nil]); first | done | (rw [show (l0.take ((ji12) : Int).toNat).length = (ji12).toNat from (by rw [List.length_take]; have h_ : ((ji12) : Int) ≤ (l0.length : Int) := of_decide_eq_true (by first | (with_reducible assumption) | assumption); omega)] <;> rfl) | (simp only [hji12]; rfl) | rfl | (simp only [List.length_drop, List.length_take]; rfl)) ?_; (with_reducible refine (block_entries.calls kj6 (fun k_ => k_ < w.heap.size) _ _ (l0.take ((ji12) : Int).toNat) t210 true _ ?side1 A15.out).mono ?_); (case side1 => exact Kd.V_mk HC209.out (Kd.F_below (Kd.C_F (Kd.heap_int .u8) HR209.out) (by repeat (first | (with_reducible first | exact HB.out | apply below_alloc | apply pw_below_drewN | apply below_drew1) | exact HB.out)))); rintro e w22 ⟨v211, rfl, ho0, hb⟩; refine ⟨_, rfl, ?_⟩; have n0_ := Aside0.mk (Kd.R_lower (Kd.R_mono (ok' := fun k_ => True) ho0 (fun _ hk_ => trivial)) (below_size (by repeat (first | (with_reducible first | exact HB.out | apply below_alloc | apply pw_below_drewN | apply below_drew1) | exact HB.out)))); have n1_ := Aside0.mk (below_step (by repeat (first | (with_reducible first | exact HB.out | apply below_alloc | apply pw_below_drewN | apply below_drew1) | exact HB.out)) hb); clear HB; have HO212 := n0_; have HB := n1_; clear n0_ n1_; (try clear hb); (try clear hb2); (try clear hk); (try clear hi); (try clear ho0); obtain ⟨Ao23, co23, eo23⟩ := Kd.R_slice HO212.out; subst eo23) | ((with_reducible refine gate_callee (f := 22) rfl ?_); refine goesL_ (some 46) rfl rfl Try.func22 (by kernel_rfl) rfl #[.slice Ao23 t210.length co23] rfl (by (try simp only [List.map_toArray, List.map_cons, List.map_nil]); first | done | rfl | (simp only [List.length_drop, List.length_take]; rfl)) ?_; (with_reducible refine (block_Build.calls _ _ t210 t214 t215 _ ?side1 ?side2 A16.out).mono ?_); (case side1 => repeat (first | exact (Kd.R_reads' HO212.out).2.2 | (with_reducible refine Kd.C_alloc ?_ _) | (with_reducible refine Kd.C_drewN ?_ _) | (with_reducible refine Kd.C_drew ?_))); (case side2 => exact (Kd.R_reads' HO212.out).2.1); rintro e w24 ⟨v216, rfl, ho0, hb⟩; refine ⟨_, rfl, ?_⟩; have n0_ := Aside0.mk (Kd.R_below (by (with_reducible repeat (first | apply Kd.R_alloc | apply Kd.R_drewN | apply Kd.R_drew)); exact HO212.out) hb); have n1_ := Aside0.mk (Kd.R_lower ho0 (below_size (by repeat (first | (with_reducible first | exact HB.out | apply below_alloc | apply pw_below_drewN | apply below_drew1) | exact HB.out)))); have n2_ := Aside0.mk (below_step (by repeat (first | (with_reducible first | exact HB.out | apply below_alloc | apply pw_below_drewN | apply below_drew1) | exact HB.out)) hb); clear HO212; clear HB; have HO212 := n0_; have HO217 := n1_; have HB := n2_; clear n0_ n1_ n2_; (try clear hb); (try clear hb2); (try clear hk); (try clear hi); (try clear ho0); obtain ⟨Ao25, co25, eo25⟩ := Kd.R_slice HO217.out; subst eo25) | (go_at_call 59; (with_reducible refine (bytes_Equal.calls _ _ t214 _ _ l0 true _ ?side1 ?side2 ?side3 ?side4 A19.out).mono ?_); (case side1 => repeat (first | exact (Kd.R_reads' HO217.out).2.2 | (with_reducible refine Kd.C_alloc ?_ _) | (with_reducible refine Kd.C_drewN ?_ _) | (with_reducible refine Kd.C_drew ?_))); (case side2 => exact (Kd.R_reads' HO217.out).2.1); (case side3 => repeat (first | exact (Kd.C_below HR0.out HB.out) | (with_reducible refine Kd.C_alloc ?_ _) | (with_reducible refine Kd.C_drewN ?_ _) | (with_reducible refine Kd.C_drew ?_))); (case side4 => exact HC0.out); rintro e w' ⟨rfl, ⟨nd, rfl⟩⟩))
                      go_ret2
                      exact ⟨_, by first | rfl | (simp [errW_none, errW_some] <;> rfl) | (simp only [← hji2, ← hji6, ← hji12]; first | rfl | (simp [errW_none, errW_some] <;> rfl)) | (simp [*, errW_none, errW_some] <;> rfl), by (with_reducible repeat (first | apply Kd.R_alloc | apply Kd.R_drewN | apply Kd.R_drew)); exact HO212.out, by repeat (first | (with_reducible first | exact HB.out | apply below_alloc | apply pw_below_drewN | apply below_drew1) | exact HB.out)⟩
                    · replace c20 := Bool.eq_false_iff.mpr c20
                      subst c20
                      have H1 : (some (([] : List (S59)), 70)) = some (r1, r2) := by rw [if_neg (show ¬ (false = true) by decide)] at H; exact H
                      clear H
                      have H := H1
                      clear H1
                      simp only [Option.some.injEq, Prod.mk.injEq] at H
                      obtain ⟨rfl, rfl⟩ := H
                      obtain ⟨i026, hi026, _, hsz26, _⟩ := info_parts info5
                      obtain ⟨hcut26, hA26, hC26⟩ := print_take_of (P := Try.prog) (Value.int .u8) 0 26 5 .i64 Try.underlying26 hi026 hsz26 A0 c0 l0 (ji12) (of_decide_eq_true (by first | (with_reducible assumption) | assumption)) (of_decide_eq_true (by first | (with_reducible assumption) | assumption)) HC0.out
                      have HR209 := Aside0.mk (Kd.C_of_reads (h1 := fun _ => rfl) (hA26 _ (Kd.reads_of_C HR0.out)))
                      have HC209 := Aside0.mk hC26
                      clear hA26 hC26 hi026 hsz26
                      go_wp2_with (first | ((with_reducible refine gate_callee (f := 58) rfl ?_); refine goesL_ (some 41) rfl rfl Try.func58 (by kernel_rfl) rfl #[.slice A0 (l0.take ((ji12) : Int).toNat).length c0] rfl (by (try simp only [List.map_toArray, List.map_cons, List.map_nil]); first | done | (rw [show (l0.take ((ji12) : Int).toNat).length = (ji12).toNat from (by rw [List.length_take]; have h_ : ((ji12) : Int) ≤ (l0.length : Int) := of_decide_eq_true (by first | (with_reducible assumption) | assumption); omega)] <;> rfl) | (simp only [hji12]; rfl) | rfl | (simp only [List.length_drop, List.length_take]; rfl)) ?_; (with_reducible refine (block_entries.calls kj6 (fun k_ => k_ < w.heap.size) _ _ (l0.take ((ji12) : Int).toNat) t210 true _ ?side1 A15.out).mono ?_); (case side1 => exact Kd.V_mk HC209.out (Kd.F_below (Kd.C_F (Kd.heap_int .u8) HR209.out) (by repeat (first | (with_reducible first | exact HB.out | apply below_alloc | apply pw_below_drewN | apply below_drew1) | exact HB.out)))); rintro e w27 ⟨v211, rfl, ho0, hb⟩; refine ⟨_, rfl, ?_⟩; have n0_ := Aside0.mk (Kd.R_lower (Kd.R_mono (ok' := fun k_ => True) ho0 (fun _ hk_ => trivial)) (below_size (by repeat (first | (with_reducible first | exact HB.out | apply below_alloc | apply pw_below_drewN | apply below_drew1) | exact HB.out)))); have n1_ := Aside0.mk (below_step (by repeat (first | (with_reducible first | exact HB.out | apply below_alloc | apply pw_below_drewN | apply below_drew1) | exact HB.out)) hb); clear HB; have HO212 := n0_; have HB := n1_; clear n0_ n1_; (try clear hb); (try clear hb2); (try clear hk); (try clear hi); (try clear ho0); obtain ⟨Ao28, co28, eo28⟩ := Kd.R_slice HO212.out; subst eo28) | ((with_reducible refine gate_callee (f := 22) rfl ?_); refine goesL_ (some 46) rfl rfl Try.func22 (by kernel_rfl) rfl #[.slice Ao28 t210.length co28] rfl (by (try simp only [List.map_toArray, List.map_cons, List.map_nil]); first | done | rfl | (simp only [List.length_drop, List.length_take]; rfl)) ?_; (with_reducible refine (block_Build.calls _ _ t210 t214 t215 _ ?side1 ?side2 A16.out).mono ?_); (case side1 => repeat (first | exact (Kd.R_reads' HO212.out).2.2 | (with_reducible refine Kd.C_alloc ?_ _) | (with_reducible refine Kd.C_drewN ?_ _) | (with_reducible refine Kd.C_drew ?_))); (case side2 => exact (Kd.R_reads' HO212.out).2.1); rintro e w29 ⟨v216, rfl, ho0, hb⟩; refine ⟨_, rfl, ?_⟩; have n0_ := Aside0.mk (Kd.R_below (by (with_reducible repeat (first | apply Kd.R_alloc | apply Kd.R_drewN | apply Kd.R_drew)); exact HO212.out) hb); have n1_ := Aside0.mk (Kd.R_lower ho0 (below_size (by repeat (first | (with_reducible first | exact HB.out | apply below_alloc | apply pw_below_drewN | apply below_drew1) | exact HB.out)))); have n2_ := Aside0.mk (below_step (by repeat (first | (with_reducible first | exact HB.out | apply below_alloc | apply pw_below_drewN | apply below_drew1) | exact HB.out)) hb); clear HO212; clear HB; have HO212 := n0_; have HO217 := n1_; have HB := n2_; clear n0_ n1_ n2_; (try clear hb); (try clear hb2); (try clear hk); (try clear hi); (try clear ho0); obtain ⟨Ao30, co30, eo30⟩ := Kd.R_slice HO217.out; subst eo30) | (go_at_call 59; (with_reducible refine (bytes_Equal.calls _ _ t214 _ _ l0 false _ ?side1 ?side2 ?side3 ?side4 A19.out).mono ?_); (case side1 => repeat (first | exact (Kd.R_reads' HO217.out).2.2 | (with_reducible refine Kd.C_alloc ?_ _) | (with_reducible refine Kd.C_drewN ?_ _) | (with_reducible refine Kd.C_drew ?_))); (case side2 => exact (Kd.R_reads' HO217.out).2.1); (case side3 => repeat (first | exact (Kd.C_below HR0.out HB.out) | (with_reducible refine Kd.C_alloc ?_ _) | (with_reducible refine Kd.C_drewN ?_ _) | (with_reducible refine Kd.C_drew ?_))); (case side4 => exact HC0.out); rintro e w' ⟨rfl, ⟨nd, rfl⟩⟩))
                      go_ret2
                      exact ⟨_, by first | rfl | (simp [errW_none, errW_some] <;> rfl) | (simp only [← hji2, ← hji6, ← hji12]; first | rfl | (simp [errW_none, errW_some] <;> rfl)) | (simp [*, errW_none, errW_some] <;> rfl), by first | exact Kd.R_nil _ _ _ _ _ | exact Kd.N_nil _ _ _ _ _ | exact Kd.V_nil _ _ _ _ _ | exact Kd.Q_nil _ _ _ _ _ | exact Kd.S_nil _ _ _ _ _, by repeat (first | (with_reducible first | exact HB.out | apply below_alloc | apply pw_below_drewN | apply below_drew1) | exact HB.out)⟩
                  · rw [if_neg c18] at H
                    have c18b0 : (t215 == 0) = false := beq_eq_false_iff_ne.mpr c18
                    have c18b1 : (t215 != 0) = true := bne_iff_ne.mpr c18
                    simp only [Option.some.injEq, Prod.mk.injEq] at H
                    obtain ⟨rfl, rfl⟩ := H
                    obtain ⟨i031, hi031, _, hsz31, _⟩ := info_parts info5
                    obtain ⟨hcut31, hA31, hC31⟩ := print_take_of (P := Try.prog) (Value.int .u8) 0 26 5 .i64 Try.underlying26 hi031 hsz31 A0 c0 l0 (ji12) (of_decide_eq_true (by first | (with_reducible assumption) | assumption)) (of_decide_eq_true (by first | (with_reducible assumption) | assumption)) HC0.out
                    have HR209 := Aside0.mk (Kd.C_of_reads (h1 := fun _ => rfl) (hA31 _ (Kd.reads_of_C HR0.out)))
                    have HC209 := Aside0.mk hC31
                    clear hA31 hC31 hi031 hsz31
                    go_wp2_with (first | ((with_reducible refine gate_callee (f := 58) rfl ?_); refine goesL_ (some 41) rfl rfl Try.func58 (by kernel_rfl) rfl #[.slice A0 (l0.take ((ji12) : Int).toNat).length c0] rfl (by (try simp only [List.map_toArray, List.map_cons, List.map_nil]); first | done | (rw [show (l0.take ((ji12) : Int).toNat).length = (ji12).toNat from (by rw [List.length_take]; have h_ : ((ji12) : Int) ≤ (l0.length : Int) := of_decide_eq_true (by first | (with_reducible assumption) | assumption); omega)] <;> rfl) | (simp only [hji12]; rfl) | rfl | (simp only [List.length_drop, List.length_take]; rfl)) ?_; (with_reducible refine (block_entries.calls kj6 (fun k_ => k_ < w.heap.size) _ _ (l0.take ((ji12) : Int).toNat) t210 true _ ?side1 A15.out).mono ?_); (case side1 => exact Kd.V_mk HC209.out (Kd.F_below (Kd.C_F (Kd.heap_int .u8) HR209.out) (by repeat (first | (with_reducible first | exact HB.out | apply below_alloc | apply pw_below_drewN | apply below_drew1) | exact HB.out)))); rintro e w32 ⟨v211, rfl, ho0, hb⟩; refine ⟨_, rfl, ?_⟩; have n0_ := Aside0.mk (Kd.R_lower (Kd.R_mono (ok' := fun k_ => True) ho0 (fun _ hk_ => trivial)) (below_size (by repeat (first | (with_reducible first | exact HB.out | apply below_alloc | apply pw_below_drewN | apply below_drew1) | exact HB.out)))); have n1_ := Aside0.mk (below_step (by repeat (first | (with_reducible first | exact HB.out | apply below_alloc | apply pw_below_drewN | apply below_drew1) | exact HB.out)) hb); clear HB; have HO212 := n0_; have HB := n1_; clear n0_ n1_; (try clear hb); (try clear hb2); (try clear hk); (try clear hi); (try clear ho0); obtain ⟨Ao33, co33, eo33⟩ := Kd.R_slice HO212.out; subst eo33) | ((with_reducible refine gate_callee (f := 22) rfl ?_); refine goesL_ (some 46) rfl rfl Try.func22 (by kernel_rfl) rfl #[.slice Ao33 t210.length co33] rfl (by (try simp only [List.map_toArray, List.map_cons, List.map_nil]); first | done | rfl | (simp only [List.length_drop, List.length_take]; rfl)) ?_; (with_reducible refine (block_Build.calls _ _ t210 t214 t215 _ ?side1 ?side2 A16.out).mono ?_); (case side1 => repeat (first | exact (Kd.R_reads' HO212.out).2.2 | (with_reducible refine Kd.C_alloc ?_ _) | (with_reducible refine Kd.C_drewN ?_ _) | (with_reducible refine Kd.C_drew ?_))); (case side2 => exact (Kd.R_reads' HO212.out).2.1); rintro e w34 ⟨v216, rfl, ho0, hb⟩; refine ⟨_, rfl, ?_⟩; have n0_ := Aside0.mk (Kd.R_below (by (with_reducible repeat (first | apply Kd.R_alloc | apply Kd.R_drewN | apply Kd.R_drew)); exact HO212.out) hb); have n1_ := Aside0.mk (Kd.R_lower ho0 (below_size (by repeat (first | (with_reducible first | exact HB.out | apply below_alloc | apply pw_below_drewN | apply below_drew1) | exact HB.out)))); have n2_ := Aside0.mk (below_step (by repeat (first | (with_reducible first | exact HB.out | apply below_alloc | apply pw_below_drewN | apply below_drew1) | exact HB.out)) hb); clear HO212; clear HB; have HO212 := n0_; have HO217 := n1_; have HB := n2_; clear n0_ n1_ n2_; (try clear hb); (try clear hb2); (try clear hk); (try clear hi); (try clear ho0)))
                    go_ret2
                    exact ⟨_, by first | rfl | (simp [errW_none, errW_some] <;> rfl) | (simp only [← hji2, ← hji6, ← hji12]; first | rfl | (simp [errW_none, errW_some] <;> rfl)) | (simp [*, errW_none, errW_some] <;> rfl), by first | exact Kd.R_nil _ _ _ _ _ | exact Kd.N_nil _ _ _ _ _ | exact Kd.V_nil _ _ _ _ _ | exact Kd.Q_nil _ _ _ _ _ | exact Kd.S_nil _ _ _ _ _, by repeat (first | (with_reducible first | exact HB.out | apply below_alloc | apply pw_below_drewN | apply below_drew1) | exact HB.out)⟩
                · replace c17 := Bool.eq_false_iff.mpr c17
                  subst c17
                  have H1 : (some (([] : List (S59)), 70)) = some (r1, r2) := by rw [if_neg (show ¬ (false = true) by decide)] at H; exact H
                  clear H
                  have H := H1
                  clear H1
                  simp only [Option.some.injEq, Prod.mk.injEq] at H
                  obtain ⟨rfl, rfl⟩ := H
                  obtain ⟨i035, hi035, _, hsz35, _⟩ := info_parts info5
                  obtain ⟨hcut35, hA35, hC35⟩ := print_take_of (P := Try.prog) (Value.int .u8) 0 26 5 .i64 Try.underlying26 hi035 hsz35 A0 c0 l0 (ji12) (of_decide_eq_true (by first | (with_reducible assumption) | assumption)) (of_decide_eq_true (by first | (with_reducible assumption) | assumption)) HC0.out
                  have HR209 := Aside0.mk (Kd.C_of_reads (h1 := fun _ => rfl) (hA35 _ (Kd.reads_of_C HR0.out)))
                  have HC209 := Aside0.mk hC35
                  clear hA35 hC35 hi035 hsz35
                  go_wp2_with (first | ((with_reducible refine gate_callee (f := 58) rfl ?_); refine goesL_ (some 41) rfl rfl Try.func58 (by kernel_rfl) rfl #[.slice A0 (l0.take ((ji12) : Int).toNat).length c0] rfl (by (try simp only [List.map_toArray, List.map_cons, List.map_nil]); first | done | (rw [show (l0.take ((ji12) : Int).toNat).length = (ji12).toNat from (by rw [List.length_take]; have h_ : ((ji12) : Int) ≤ (l0.length : Int) := of_decide_eq_true (by first | (with_reducible assumption) | assumption); omega)] <;> rfl) | (simp only [hji12]; rfl) | rfl | (simp only [List.length_drop, List.length_take]; rfl)) ?_; (with_reducible refine (block_entries.calls kj6 (fun k_ => k_ < w.heap.size) _ _ (l0.take ((ji12) : Int).toNat) t210 false _ ?side1 A15.out).mono ?_); (case side1 => exact Kd.V_mk HC209.out (Kd.F_below (Kd.C_F (Kd.heap_int .u8) HR209.out) (by repeat (first | (with_reducible first | exact HB.out | apply below_alloc | apply pw_below_drewN | apply below_drew1) | exact HB.out)))); rintro e w36 ⟨v211, rfl, ho0, hb⟩; refine ⟨_, rfl, ?_⟩; have n0_ := Aside0.mk (Kd.R_lower (Kd.R_mono (ok' := fun k_ => True) ho0 (fun _ hk_ => trivial)) (below_size (by repeat (first | (with_reducible first | exact HB.out | apply below_alloc | apply pw_below_drewN | apply below_drew1) | exact HB.out)))); have n1_ := Aside0.mk (below_step (by repeat (first | (with_reducible first | exact HB.out | apply below_alloc | apply pw_below_drewN | apply below_drew1) | exact HB.out)) hb); clear HB; have HO212 := n0_; have HB := n1_; clear n0_ n1_; (try clear hb); (try clear hb2); (try clear hk); (try clear hi); (try clear ho0); obtain ⟨Ao37, co37, eo37⟩ := Kd.R_slice HO212.out; subst eo37) | ((with_reducible refine gate_callee (f := 22) rfl ?_); refine goesL_ (some 46) rfl rfl Try.func22 (by kernel_rfl) rfl #[.slice Ao37 t210.length co37] rfl (by (try simp only [List.map_toArray, List.map_cons, List.map_nil]); first | done | rfl | (simp only [List.length_drop, List.length_take]; rfl)) ?_; (with_reducible refine (block_Build.calls _ _ t210 t214 t215 _ ?side1 ?side2 A16.out).mono ?_); (case side1 => repeat (first | exact (Kd.R_reads' HO212.out).2.2 | (with_reducible refine Kd.C_alloc ?_ _) | (with_reducible refine Kd.C_drewN ?_ _) | (with_reducible refine Kd.C_drew ?_))); (case side2 => exact (Kd.R_reads' HO212.out).2.1); rintro e w38 ⟨v216, rfl, ho0, hb⟩; refine ⟨_, rfl, ?_⟩; have n0_ := Aside0.mk (Kd.R_below (by (with_reducible repeat (first | apply Kd.R_alloc | apply Kd.R_drewN | apply Kd.R_drew)); exact HO212.out) hb); have n1_ := Aside0.mk (Kd.R_lower ho0 (below_size (by repeat (first | (with_reducible first | exact HB.out | apply below_alloc | apply pw_below_drewN | apply below_drew1) | exact HB.out)))); have n2_ := Aside0.mk (below_step (by repeat (first | (with_reducible first | exact HB.out | apply below_alloc | apply pw_below_drewN | apply below_drew1) | exact HB.out)) hb); clear HO212; clear HB; have HO212 := n0_; have HO217 := n1_; have HB := n2_; clear n0_ n1_ n2_; (try clear hb); (try clear hb2); (try clear hk); (try clear hi); (try clear ho0)))
                  go_ret2
                  exact ⟨_, by first | rfl | (simp [errW_none, errW_some] <;> rfl) | (simp only [← hji2, ← hji6, ← hji12]; first | rfl | (simp [errW_none, errW_some] <;> rfl)) | (simp [*, errW_none, errW_some] <;> rfl), by first | exact Kd.R_nil _ _ _ _ _ | exact Kd.N_nil _ _ _ _ _ | exact Kd.V_nil _ _ _ _ _ | exact Kd.Q_nil _ _ _ _ _ | exact Kd.S_nil _ _ _ _ _, by repeat (first | (with_reducible first | exact HB.out | apply below_alloc | apply pw_below_drewN | apply below_drew1) | exact HB.out)⟩
              · rw [if_neg c14] at H
                exact absurd H (by simp)
            · rw [if_neg c13] at H
              exact absurd H (by simp)
    · rw [if_neg c4] at H
      exact absurd H (by simp)
  · rw [if_neg c3] at H
    exact absurd H (by simp)

end Go.Proofs.Ytjcjfghcahbbmaa.P

end

section
namespace Go.Proofs.Ytjcjfghcahbbmaa.P
open Go.RowKit Go.Proofs.YtjcjfghcahbbmaaG Go.Proofs.YtjcjfghcahbbmaaW.PrintWords Go.Proofs.YtjcjfghcahbbmaaW.PrintLast Go.Proofs.YtjcjfghcahbbmaaW.PrintMore
attribute [local go_sem] str_gtr str_geq str_leq max2_int min2_int max_two min_two max_three min_three max_four min_four   -- for this text's walks alone
set_option linter.unusedVariables false
set_option linter.unusedSimpArgs false

attribute [local go_sem high] eqA59
def ratlinelaw04_Entries.l0 : Nat → List (S59) → List (S59) → Int → Int → Option (Bool)
  | 0, _, _, _, _ => none
  | k + 1, x0, x1, x12, x13 => if x13 < x12 then (if 0 ≤ x13 then (if x13 < (x0.length : Int) then (if x13 < (x1.length : Int) then (if ((!((((rd_T59 x0 x13).f0.f0).toList) == (((rd_T59 x1 x13).f0.f0).toList)) || (!(((rd_T59 x0 x13).f0.f1) == ((rd_T59 x1 x13).f0.f1)) || (!(((rd_T59 x0 x13).f0.f2) == ((rd_T59 x1 x13).f0.f2))))) || (!((((rd_T59 x0 x13).f1).toList) == (((rd_T59 x1 x13).f1).toList)))) = true then (some false) else (ratlinelaw04_Entries.l0 k x0 x1 x12 (wrap64 (x13 + 1)))) else (none)) else (none)) else (none)) else (some true)
def ratlinelaw04_Entries.f (k : Nat) (l0 : List (S59)) (l1 : List (S59)) : Option (Bool) := if (l0.length : Int) = (l1.length : Int) then (ratlinelaw04_Entries.l0 k l0 l1 (l0.length : Int) 0) else (some false)
set_option maxHeartbeats 8000000 in
set_option maxRecDepth 100000 in
theorem ratlinelaw04_Entries.calls (k : Nat) (A0 : Option Addr) (c0 : Nat) (l0 : List (S59)) (A1 : Option Addr) (c1 : Nat) (l1 : List (S59)) (r : Bool) (w : World) (hr0 : Kd.C k59 w A0 l0.length l0) (hc0 : l0.length ≤ c0) (hr1 : Kd.C k59 w A1 l1.length l1) (hc1 : l1.length ≤ c1) (h : ratlinelaw04_Entries.f k l0 l1 = some r) :
    Calls Try.prog 27 #[.slice A0 l0.length c0, .slice A1 l1.length c1] w fun e w' => e = .returned (.bool r) ∧ Drawn0 w w' := by
  have hu59 := Try.underlying59
  have HR0 := Aside0.mk hr0
  have HC0 := Aside0.mk hc0
  clear hr0 hc0
  have HR1 := Aside0.mk hr1
  have HC1 := Aside0.mk hc1
  clear hr1 hc1
  have H : (if (l0.length : Int) = (l1.length : Int) then (ratlinelaw04_Entries.l0 k l0 l1 (l0.length : Int) 0) else (some false)) = some r := h
  clear h
  by_cases c3 : (l0.length : Int) = (l1.length : Int)
  · rw [if_pos c3] at H
    have c3b0 : ((l0.length : Int) == (l1.length : Int)) = true := beq_iff_eq.mpr c3
    have c3b1 : ((l0.length : Int) != (l1.length : Int)) = false := bne_eq_false_iff_eq.mpr c3
    have c3b2 : (l0.length == l1.length) = true := by first | simpa using c3 | (simp at c3 ⊢; omega)
    clear c3
    have H' := Aside0.mk H
    clear H
    go_enter Try.func27, Try.ntmps27
    go_wp2
    repeat (go_quiet (fail); try go_wp2)
    go_loopg [13] k (fun kq v13 w' => ∃ (x13_1 : Int), v13 = .int .i64 x13_1 ∧ Aside0 (ratlinelaw04_Entries.l0 kq l0 l1 (l0.length : Int) x13_1 = some r) ∧ Aside0 (kq ≤ k) ∧ Drawn0 w w')
    case atStart => exact ⟨(0), (by first | rfl | (simp; done) | (simp [*]; done)), H', ⟨Nat.le_refl _⟩, by repeat (first | exact Drawn0.refl _ | apply Drawn0.step)⟩
    case round =>
      clear H'
      try clear c1
      try clear c2
      try clear p2
      try clear c3
      try clear c3b0
      try clear c3b1
      try clear c3b2
      obtain ⟨x13_1, rfl, HA, HK1, ⟨m1, rfl⟩⟩ := hrel
      cases gk with
      | zero => exact absurd HA.out (by simp [ratlinelaw04_Entries.l0])
      | succ k1 =>
        have H := HA.out
        clear HA
        simp only [ratlinelaw04_Entries.l0] at H
        by_cases c4 : x13_1 < (l0.length : Int)
        · rw [if_pos c4] at H
          have c4b0 : decide (x13_1 < (l0.length : Int)) = true := decide_eq_true c4
          clear c4
          by_cases c5 : 0 ≤ x13_1
          · rw [if_pos c5] at H
            have c5b0 : decide (0 ≤ x13_1) = true := decide_eq_true c5
            clear c5
            by_cases c6 : x13_1 < (l0.length : Int)
            · rw [if_pos c6] at H
              have c6b0 : decide (x13_1 < (l0.length : Int)) = true := decide_eq_true c6
              clear c6
              by_cases c7 : x13_1 < (l1.length : Int)
              · rw [if_pos c7] at H
                have c7b0 : decide (x13_1 < (l1.length : Int)) = true := decide_eq_true c7
                clear c7
                by_cases c8 : ((!((((rd_T59 l0 x13_1).f0.f0).toList) == (((rd_T59 l1 x13_1).f0.f0).toList)) || (!(((rd_T59 l0 x13_1).f0.f1) == ((rd_T59 l1 x13_1).f0.f1)) || (!(((rd_T59 l0 x13_1).f0.f2) == ((rd_T59 l1 x13_1).f0.f2))))) || (!((((rd_T59 l0 x13_1).f1).toList) == (((rd_T59 l1 x13_1).f1).toList)))) = true
                · rw [if_pos c8] at H
                  have c8b0 : ((!((((rd_T59 l0 x13_1).f0.f0).toList) == (((rd_T59 l1 x13_1).f0.f0).toList)) || (!(((rd_T59 l0 x13_1).f0.f1) == ((rd_T59 l1 x13_1).f0.f1)) || (!(((rd_T59 l0 x13_1).f0.f2) == ((rd_T59 l1 x13_1).f0.f2))))) || (!((((rd_T59 l0 x13_1).f1).toList) == (((rd_T59 l1 x13_1).f1).toList)))) = true := c8
                  clear c8
                  obtain rfl := Option.some.inj H
                  have p219 : 0 ≤ (x13_1 : Int) := of_decide_eq_true (by first | (with_reducible assumption) | assumption)
                  have q219 : x13_1 < (l0.length : Int) := of_decide_eq_true (by first | (with_reducible assumption) | assumption)
                  obtain ⟨ad219, e219, hx219_0, hx219_1, hx219_2, hx219_3⟩ := at_T59 HR0.out x13_1 p219 q219
                  cases e219
                  replace p219 := eq_true p219
                  replace q219 := eq_true q219
                  have p220 : 0 ≤ (x13_1 : Int) := of_decide_eq_true (by first | (with_reducible assumption) | assumption)
                  have q220 : x13_1 < (l1.length : Int) := of_decide_eq_true (by first | (with_reducible assumption) | assumption)
                  obtain ⟨ad220, e220, hx220_0, hx220_1, hx220_2, hx220_3⟩ := at_T59 HR1.out x13_1 p220 q220
                  cases e220
                  replace p220 := eq_true p220
                  replace q220 := eq_true q220
                  go_wp2
                  repeat (go_quiet (fail); try go_wp2)
                  go_ret
                  exact ⟨by first | rfl | (simp; done) | (simp [*]; done), by repeat (first | exact Drawn0.refl _ | apply Drawn0.step)⟩
                · rw [if_neg c8] at H
                  have c8b0 : ((!((((rd_T59 l0 x13_1).f0.f0).toList) == (((rd_T59 l1 x13_1).f0.f0).toList)) || (!(((rd_T59 l0 x13_1).f0.f1) == ((rd_T59 l1 x13_1).f0.f1)) || (!(((rd_T59 l0 x13_1).f0.f2) == ((rd_T59 l1 x13_1).f0.f2))))) || (!((((rd_T59 l0 x13_1).f1).toList) == (((rd_T59 l1 x13_1).f1).toList)))) = false := by simpa using c8
                  clear c8
                  have H' := Aside0.mk H
                  clear H
                  have p219 : 0 ≤ (x13_1 : Int) := of_decide_eq_true (by first | (with_reducible assumption) | assumption)
                  have q219 : x13_1 < (l0.length : Int) := of_decide_eq_true (by first | (with_reducible assumption) | assumption)
                  obtain ⟨ad219, e219, hx219_0, hx219_1, hx219_2, hx219_3⟩ := at_T59 HR0.out x13_1 p219 q219
                  cases e219
                  replace p219 := eq_true p219
                  replace q219 := eq_true q219
                  have p220 : 0 ≤ (x13_1 : Int) := of_decide_eq_true (by first | (with_reducible assumption) | assumption)
                  have q220 : x13_1 < (l1.length : Int) := of_decide_eq_true (by first | (with_reducible assumption) | assumption)
                  obtain ⟨ad220, e220, hx220_0, hx220_1, hx220_2, hx220_3⟩ := at_T59 HR1.out x13_1 p220 q220
                  cases e220
                  replace p220 := eq_true p220
                  replace q220 := eq_true q220
                  go_wp2
                  repeat (go_quiet (fail); try go_wp2)
                  go_roundg k1
                  case measure => have := HK1.out; omega
                  case rel => exact ⟨(wrap64 (x13_1 + 1)), (by first | rfl | (simp; done) | (simp [*]; done)), H', ⟨by have := HK1.out; omega⟩, by repeat (first | exact Drawn0.refl _ | apply Drawn0.step)⟩
              · rw [if_neg c7] at H
                exact absurd H (by simp)
            · rw [if_neg c6] at H
              exact absurd H (by simp)
          · rw [if_neg c5] at H
            exact absurd H (by simp)
        · rw [if_neg c4] at H
          have c4b0 : decide (x13_1 < (l0.length : Int)) = false := decide_eq_false c4
          clear c4
          obtain rfl := Option.some.inj H
          go_wp2
          repeat (go_quiet (fail); try go_wp2)
          go_ret
          exact ⟨by first | rfl | (simp; done) | (simp [*]; done), by repeat (first | exact Drawn0.refl _ | apply Drawn0.step)⟩
  · rw [if_neg c3] at H
    have c3b0 : ((l0.length : Int) == (l1.length : Int)) = false := beq_eq_false_iff_ne.mpr c3
    have c3b1 : ((l0.length : Int) != (l1.length : Int)) = true := bne_iff_ne.mpr c3
    have c3b2 : (l0.length == l1.length) = false := by first | simpa using c3 | (simp at c3 ⊢; omega)
    obtain rfl := Option.some.inj H
    go_enter Try.func27, Try.ntmps27
    go_wp2
    repeat (go_quiet (fail); try go_wp2)
    go_ret
    exact ⟨by first | rfl | (simp; done) | (simp [*]; done), by repeat (first | exact Drawn0.refl _ | apply Drawn0.step)⟩

end Go.Proofs.Ytjcjfghcahbbmaa.P

end

section
namespace Go.Proofs.Ytjcjfghcahbbmaa.P
open Go.RowKit Go.Proofs.YtjcjfghcahbbmaaG Go.Proofs.YtjcjfghcahbbmaaW.PrintWords Go.Proofs.YtjcjfghcahbbmaaW.PrintLast Go.Proofs.YtjcjfghcahbbmaaW.PrintMore
attribute [local go_sem] str_gtr str_geq str_leq max2_int min2_int max_two min_two max_three min_three max_four min_four   -- for this text's walks alone
set_option linter.unusedVariables false
set_option linter.unusedSimpArgs false

-- GIVEN: function 28 (block_Seek)

def ratlinelaw07_key.f (a0 : ByteArray) (a1 : Int) (a2 : Int) : Option (ByteArray × Int × Int) := some (a0, a1, a2)
set_option maxHeartbeats 8000000 in
set_option maxRecDepth 100000 in
theorem ratlinelaw07_key.calls (a0 : ByteArray) (a1 : Int) (a2 : Int) (r1 : ByteArray) (r2 : Int) (r3 : Int) (w : World) (h : ratlinelaw07_key.f a0 a1 a2 = some (r1, r2, r3)) :
    Calls Try.prog 33 #[.string a0, .int .u64 a1, .int .u8 a2] w fun e w' => e = .returned (.agg #[.string r1, .int .u64 r2, .int .u8 r3]) ∧ Below w.heap.size w w' := by
  have hu50 := Try.underlying50
  have HB := Aside0.mk (Below.refl w.heap.size w)
  have H : (some (a0, a1, a2)) = some (r1, r2, r3) := h
  clear h
  simp only [Option.some.injEq, Prod.mk.injEq] at H
  obtain ⟨rfl, rfl, rfl⟩ := H
  go_enter Try.func33, Try.ntmps33
  go_wp2_with (first | ((with_reducible refine gate_dst (N := 6) rfl ?_); refine box_event ?hg (N := 6) ?hd (cs := #[.string (⟨#[]⟩ : ByteArray), .int .u64 0, .int .u8 0]) (t := 50) ?hr ?_; (case hd => rfl); (case hg => rfl); (case hr => first | (go_simp; done) | (go_simp; rfl)); intro gb221 hg w4 hbox hb; have n0_ := Aside0.mk (below_step (by repeat (first | (with_reducible first | exact HB.out | apply below_alloc | apply pw_below_drewN | apply below_drew1) | exact HB.out)) hb); have n1_ := Aside0.mk (hbox); have n2_ := Aside0.mk ((by rw [hg]; exact (below_size (by repeat (first | (with_reducible first | exact HB.out | apply below_alloc | apply pw_below_drewN | apply below_drew1) | exact HB.out))) : w.heap.size ≤ gb221)); have n3_ := Aside0.mk ((by rw [hg]; exact (below_size (by repeat (first | (with_reducible first | exact HB.out | apply below_alloc | apply pw_below_drewN | apply below_drew1) | exact HB.out))) : w.heap.size ≤ gb221)); clear HB; have HB := n0_; have BK221 := n1_; have GW221 := n2_; have GE221 := n3_; clear n0_ n1_ n2_ n3_; clear hb hbox hg; have hcz5_0 : w4.cell? ⟨gb221, 0, none⟩ = some (.string (⟨#[]⟩ : ByteArray)) := (blk_cell BK221.out 0).trans rfl; have hcz5_1 : w4.cell? ⟨gb221, 1, none⟩ = some (.int .u64 0) := (blk_cell BK221.out 1).trans rfl; have hcz5_2 : w4.cell? ⟨gb221, 2, none⟩ = some (.int .u8 0) := (blk_cell BK221.out 2).trans rfl; have hfz5_0 := blk_frozen BK221.out 0; have hfz5_1 := blk_frozen BK221.out 1; have hfz5_2 := blk_frozen BK221.out 2))
  refine bodyPost_ret (results_cell_row rfl _ _ gb221 50 #[.string a0, .int .u64 a1, .int .u8 a2] (0, 0) _ rfl (by (with_reducible repeat (first | refine blk_drewN ?_ _ | refine blk_drew ?_ | refine blk_alloc ?_ _)); refine blk_put (cs := #[.string a0, .int .u64 a1, .int .u8 0]) ?_ 2 _ rfl; (with_reducible repeat (first | refine blk_drewN ?_ _ | refine blk_drew ?_ | refine blk_alloc ?_ _)); refine blk_put (cs := #[.string a0, .int .u64 0, .int .u8 0]) ?_ 1 _ rfl; (with_reducible repeat (first | refine blk_drewN ?_ _ | refine blk_drew ?_ | refine blk_alloc ?_ _)); refine blk_put (cs := #[.string (⟨#[]⟩ : ByteArray), .int .u64 0, .int .u8 0]) ?_ 0 _ rfl; (with_reducible repeat (first | refine blk_drewN ?_ _ | refine blk_drew ?_ | refine blk_alloc ?_ _)); exact BK221.out) Try.underlying50 rfl (by kernel_rfl)) rfl ?_
  exact ⟨by first | rfl | (simp [errW_none, errW_some] <;> rfl) | (simp [*, errW_none, errW_some] <;> rfl), by repeat (first | (with_reducible first | exact HB.out | apply below_alloc | apply pw_below_drewN | apply below_drew1 | refine below_set ?_ GE221.out) | exact HB.out)⟩

end Go.Proofs.Ytjcjfghcahbbmaa.P

end

section
set_option linter.unusedVariables false
set_option linter.unusedSimpArgs false
namespace Go.Proofs.YtjcjfghcahbbmaaL
open Go Go.RowKit Go.Proofs.YtjcjfghcahbbmaaG Go.Proofs.Ytjcjfghcahbbmaa.P Go.Proofs.YtjcjfghcahbbmaaW.PrintWords Go.Proofs.YtjcjfghcahbbmaaW.PrintMore

theorem tk_any (l : List Int) (hb : By l) (hl : l.length ≤ 1000000) : ∃ (x : Nat) (r : List Int) (ok : Bool), nums_Take.f l = some ((x : Int), r, ok) ∧ x < 18446744073709551616 ∧ By r ∧ r.length ≤ l.length ∧ (ok = true → r.length < l.length) := by
  rcases take_cases l hb (by omega) with ⟨x, rest, hx, he, hf⟩ | ⟨hf, _⟩
  · have hv := vint_pos x
    exact ⟨x, rest, true, hf, hx, By.right (he ▸ hb), by rw [he, List.length_append]; omega, fun _ => by rw [he, List.length_append]; omega⟩
  · exact ⟨0, [], false, hf, by omega, .nil, by simp, fun h => by cases h⟩
theorem tx_any (l : List Int) (most : Int) (hm : most ≤ 1000) (hb : By l) (hl : l.length ≤ 1000000) : ∃ (s : ByteArray) (r : List Int) (ok : Bool), nums_TakeText.f l most = some (s, r, ok) ∧ By r ∧ r.length ≤ l.length ∧ s.size ≤ 1000 := by
  rcases takeText_cases l most (by omega) hb (by omega) with ⟨s, rest, hs, he, hf⟩ | ⟨hf, _⟩
  · exact ⟨s, rest, true, hf, By.right (By.right (he ▸ hb)), by rw [he, List.length_append, List.length_append]; omega, by omega⟩
  · exact ⟨⟨#[]⟩, [], false, hf, .nil, by simp, Nat.zero_le _⟩
theorem and1 (a : Nat) (ha : a < 18446744073709551616) : (bits .and .u64 (a : Int) 1) % 256 = ((a % 2 : Nat) : Int) := by
  have e : bits .and .u64 (a : Int) 1 = ((a &&& 1 : Nat) : Int) := by
    show IntKind.u64.wrap ((BitVec.ofInt 64 (a : Int) &&& BitVec.ofInt 64 ((1 : Nat) : Int)).toNat : Int) = _
    rw [BitVec.ofInt_natCast, BitVec.ofInt_natCast, BitVec.toNat_and, BitVec.toNat_ofNat, BitVec.toNat_ofNat, Nat.mod_eq_of_lt (show a < 2 ^ 64 by omega), Nat.mod_eq_of_lt (show 1 < 2 ^ 64 by omega), Nat.and_one_is_mod, IntKind.wrap_u64]
    omega
  rw [e, Nat.and_one_is_mod]
  omega
theorem ext_size (s : ByteArray) {n : Nat} (h : n ≤ s.size) : (s.extract 0 n).size = n := by rw [ByteArray.size_extract]; omega

def EntR (rem : List Int) (acc : List En) (key : ByteArray) : Prop := ∃ (l : List En) (ok : Bool), Ev (fun k => block_entries.l0 k rem acc key) (l, ok) ∧ (∀ e ∈ l, WfN e) ∧ l.length ≤ 66
theorem ent_j2 (rem : List Int) (acc : List En) (key : ByteArray) (hb : By rem) (hl : rem.length ≤ 1000000) (ha : acc.length ≤ 64) (hw : ∀ e ∈ acc, WfN e) (hk : key.size ≤ 100000)
    (ih : ∀ (r : List Int) (e : En) (key' : ByteArray), By r → r.length < rem.length → WfN e → key'.size ≤ key.size + 1000 → EntR r (acc ++ [e]) key') :
    ∃ (l : List En) (ok : Bool), Ev (fun k => block_entries.j2 k rem acc key) (l, ok) ∧ (∀ e ∈ l, WfN e) ∧ l.length ≤ 66 := by
  have hno : ∀ (a : Int) (b : List Int) (c : ByteArray) (d : Int), Ev (fun k => block_entries.j3 k acc key a b c d true) (([], false) : List En × Bool) := fun a b c d => ev_step (fun k => by rw [block_entries.j3]) (ev_pos rfl (ev_some _))
  obtain ⟨n, r1, k1, f1, u1, b1, l1, s1⟩ := tk_any rem hb hl
  obtain ⟨t, r2, k2, f2, b2, l2, s2⟩ := tx_any r1 64 (by omega) b1 (by omega)
  obtain ⟨x, r3, k3, f3, u3, b3, l3, s3⟩ := tk_any r2 b2 (by omega)
  have fail : ∀ {g : Nat → Option (List En × Bool)}, Ev g ([], false) → ∃ (l : List En) (ok : Bool), Ev g (l, ok) ∧ (∀ e ∈ l, WfN e) ∧ l.length ≤ 66 := fun h => ⟨[], false, h, fun e he => (by cases he), by simp⟩
  have start : ∀ {l : List En} {ok : Bool}, Ev (fun k => if k1 = true then (if k2 = true then (if k3 = true then block_entries.j3 k acc key (n : Int) r3 t (x : Int) (decide ((n : Int) > IntKind.u64.wrap (key.size : Int))) else block_entries.j3 k acc key (n : Int) r3 t (x : Int) true) else block_entries.j3 k acc key (n : Int) r3 t (x : Int) true) else block_entries.j3 k acc key (n : Int) r3 t (x : Int) true) (l, ok) → Ev (fun k => block_entries.j2 k rem acc key) (l, ok) := fun {l ok} h => by
    refine ev_step (fun k => by rw [block_entries.j2]) ?_
    refine ev_bind3 f1 (fun q q1 q2 q3 => ?_)
    rw [q1, q2, q3]
    refine ev_bind3 f2 (fun v v1 v2 v3 => ?_)
    rw [v1, v2, v3]
    refine ev_bind3 f3 (fun z z1 z2 z3 => ?_)
    rw [z1, z2, z3]
    exact h
  cases k1 with
  | false => exact fail (start (ev_neg (by decide) (hno _ _ _ _)))
  | true =>
    cases k2 with
    | false => exact fail (start (ev_pos rfl (ev_neg (by decide) (hno _ _ _ _))))
    | true =>
      cases k3 with
      | false => exact fail (start (ev_pos rfl (ev_pos rfl (ev_neg (by decide) (hno _ _ _ _)))))
      | true =>
        rw [wrap_u64_nat (show key.size < 18446744073709551616 by omega)] at start
        by_cases hn : (n : Int) > (key.size : Int)
        · refine fail (start (ev_pos rfl (ev_pos rfl (ev_pos rfl ?_))))
          rw [decide_eq_true hn]
          exact hno _ _ _ _
        · have hsz := ext_size key (n := n) (by omega)
          have hst : ∀ {l : List En} {ok : Bool}, Ev (fun k => if ((bits .and .u64 (x : Int) 1) % 256) = 1 then ((nums_TakeText.f r3 256).bind fun bt => (if bt.2.2 = true then (if acc.length < 2932031007402 then (block_entries.l0 k bt.2.1 (acc ++ [(⟨(⟨(key.extract 0 n) ++ t, (x : Int) / 2, (bits .and .u64 (x : Int) 1) % 256⟩ : Ik), bt.1⟩ : En)]) ((key.extract 0 n) ++ t)) else (none)) else (some (([] : List En), false)))) else (if acc.length < 2932031007402 then (block_entries.l0 k r3 (acc ++ [(⟨(⟨(key.extract 0 n) ++ t, (x : Int) / 2, (bits .and .u64 (x : Int) 1) % 256⟩ : Ik), (⟨#[]⟩ : ByteArray)⟩ : En)]) ((key.extract 0 n) ++ t)) else (none))) (l, ok) → Ev (fun k => block_entries.j2 k rem acc key) (l, ok) := fun {l ok} h => by
            refine start (ev_pos rfl (ev_pos rfl (ev_pos rfl ?_)))
            rw [decide_eq_false hn]
            refine ev_step (fun k => by rw [block_entries.j3]) (ev_neg (by decide) ?_)
            refine ev_pos (by omega) (ev_pos (by omega) ?_)
            rw [Int.toNat_natCast]
            refine ev_pos (by rw [hsz]; omega) ?_
            exact h
          have hks : ((key.extract 0 n) ++ t).size ≤ key.size + 1000 := by rw [ByteArray.size_append, hsz]; omega
          have hx2 := and1 x u3
          rw [hx2] at hst
          by_cases hk1 : ((x % 2 : Nat) : Int) = 1
          · obtain ⟨v, r4, k4, f4, b4, l4, s4⟩ := tx_any r3 256 (by omega) b3 (by omega)
            cases k4 with
            | false =>
              refine fail (hst (ev_pos hk1 ?_))
              refine ev_bind3 f4 (fun q q1 q2 q3 => ?_)
              rw [q1, q2, q3]
              exact ev_neg (by decide) (ev_some _)
            | true =>
              obtain ⟨l, ok, h1, h2, h3⟩ := ih r4 ⟨⟨(key.extract 0 n) ++ t, (x : Int) / 2, ((x % 2 : Nat) : Int)⟩, v⟩ _ b4 (by have := s1 rfl; omega) ⟨by show 0 ≤ (x : Int) / 2; omega, by show 0 ≤ ((x % 2 : Nat) : Int); omega⟩ hks
              refine ⟨l, ok, hst (ev_pos hk1 ?_), h2, h3⟩
              refine ev_bind3 f4 (fun q q1 q2 q3 => ?_)
              rw [q1, q2, q3]
              exact ev_pos rfl (ev_pos (by omega) h1)
          · obtain ⟨l, ok, h1, h2, h3⟩ := ih r3 ⟨⟨(key.extract 0 n) ++ t, (x : Int) / 2, ((x % 2 : Nat) : Int)⟩, ⟨#[]⟩⟩ _ b3 (by have := s1 rfl; omega) ⟨by show 0 ≤ (x : Int) / 2; omega, by show 0 ≤ ((x % 2 : Nat) : Int); omega⟩ hks
            exact ⟨l, ok, hst (ev_neg hk1 (ev_pos (by omega) h1)), h2, h3⟩
theorem ent_any : ∀ (m : Nat) (rem : List Int) (acc : List En) (key : ByteArray), rem.length ≤ m → By rem → rem.length ≤ 1000000 → acc.length ≤ 65 → (∀ e ∈ acc, WfN e) → key.size ≤ 1000 * acc.length → EntR rem acc key := by
  intro m
  induction m with
  | zero =>
    intro rem acc key hm hb hl ha hw hk
    have hr : rem.length = 0 := by omega
    refine ⟨acc, true, ?_, hw, by omega⟩
    exact ev_step (fun k => by rw [block_entries.l0, if_neg (by omega)]) (ev_step (fun k => by rw [block_entries.j1]) (ev_neg (by decide) (ev_some _)))
  | succ m ih =>
    intro rem acc key hm hb hl ha hw hk
    by_cases hr : 0 < rem.length
    · by_cases h64 : acc.length ≤ 64
      · have hd : decide ((acc.length : Int) ≤ 64) = true := decide_eq_true (by omega)
        have hj : ∀ (k0 : ByteArray), k0.size ≤ 1000 * acc.length → ∃ (l : List En) (ok : Bool), Ev (fun k => block_entries.j2 k rem acc k0) (l, ok) ∧ (∀ e ∈ l, WfN e) ∧ l.length ≤ 66 := fun k0 hk0 =>
          ent_j2 rem acc k0 hb hl h64 hw (by omega) (fun r e key' hbr hlr hwe hke => ih r (acc ++ [e]) key' (by omega) hbr (by omega) (by rw [List.length_append]; show acc.length + 1 ≤ 65; omega) (fun x hx => by
            rcases List.mem_append.1 hx with hx | hx
            · exact hw x hx
            · rw [List.mem_singleton.1 hx]; exact hwe) (by rw [List.length_append]; show _ ≤ 1000 * (acc.length + 1); omega))
        by_cases h4 : ((acc.length : Int) % 4) = 0
        · obtain ⟨l, ok, h1, h2, h3⟩ := hj ⟨#[]⟩ (Nat.zero_le _)
          exact ⟨l, ok, ev_step (fun k => by rw [block_entries.l0, if_pos (by omega), hd]) (ev_step (fun k => by rw [block_entries.j1]) (ev_pos rfl (ev_pos h4 h1))), h2, h3⟩
        · obtain ⟨l, ok, h1, h2, h3⟩ := hj key hk
          exact ⟨l, ok, ev_step (fun k => by rw [block_entries.l0, if_pos (by omega), hd]) (ev_step (fun k => by rw [block_entries.j1]) (ev_pos rfl (ev_neg h4 h1))), h2, h3⟩
      · have hd : decide ((acc.length : Int) ≤ 64) = false := decide_eq_false (by omega)
        refine ⟨acc, true, ?_, hw, by omega⟩
        exact ev_step (fun k => by rw [block_entries.l0, if_pos (by omega), hd]) (ev_step (fun k => by rw [block_entries.j1]) (ev_neg (by decide) (ev_some _)))
    · refine ⟨acc, true, ?_, hw, by omega⟩
      exact ev_step (fun k => by rw [block_entries.l0, if_neg (by omega)]) (ev_step (fun k => by rw [block_entries.j1]) (ev_neg (by decide) (ev_some _)))
theorem entries_any (raw : List Int) (hb : By raw) (hl : raw.length ≤ 1000000) : ∃ (l : List En) (ok : Bool), Ev (fun k => block_entries.f k raw) (l, ok) ∧ (∀ e ∈ l, WfN e) ∧ l.length ≤ 66 := by
  unfold block_entries.f
  exact ent_any raw.length raw [] ⟨#[]⟩ (Nat.le_refl _) hb hl (by simp) (fun e he => by cases he) (Nat.zero_le _)

theorem entF_by (n : Nat) (e : En) : By (entF n e) := by
  unfold entF
  refine (vint_by _).append ((vint_by _).append ((bytesOf_by _).append ((vint_by _).append ?_)))
  split
  · exact (vint_by _).append (bytesOf_by _)
  · exact .nil
theorem bldS_by (l : List En) : By (bldS l).b ∧ By (bldS l).p := by
  refine rev_ind (P := fun l => By (bldS l).b ∧ By (bldS l).p) ⟨.nil, .nil⟩ (fun l e ih => ?_) l
  rw [bldS_snoc]
  refine ⟨ih.1.append (entF_by _ _), ?_⟩
  show By (plcAt (bldS l).m (bldS l).p (bldS l).b.length)
  unfold plcAt
  split
  · exact ih.2.append (four_by _)
  · exact ih.2
theorem formB_by (l : List En) : By (formB l) := ((bldS_by l).1.append (bldS_by l).2).append (four_by _)
theorem bldS_p (l : List En) : (bldS l).p.length = 4 * ((l.length + 3) / 4) := by
  refine rev_ind (P := fun l => (bldS l).p.length = 4 * ((l.length + 3) / 4)) rfl (fun l e ih => ?_) l
  rw [bldS_snoc, List.length_append, List.length_singleton]
  show (plcAt (bldS l).m (bldS l).p (bldS l).b.length).length = _
  unfold plcAt
  rw [bldS_m]
  by_cases h : l.length % 4 = 0
  · rw [if_pos h, List.length_append, four_len, ih]; omega
  · rw [if_neg h, ih]; omega
theorem formB_len {l : List En} (ho : ∀ e ∈ l, OkE e) (hw : ∀ e ∈ l, WfN e) (hl : l.length ≤ 64) : (formB l).length = (bldS l).b.length + 4 * ((l.length + 3) / 4) + 4 ∧ (formB l).length ≤ 30000 := by
  obtain ⟨h1, h2, h3⟩ := bldS_len l ho hw
  have h4 := bldS_p l
  unfold formB outF
  rw [List.length_append, List.length_append, four_len, h4]
  omega
theorem bld_equal {a b : List Int} (ha : By a) (hb : By b) : bytes_Equal.f a b = some (decide (a = b)) := by
  unfold bytes_Equal.f
  by_cases h : a = b
  · subst h; simp
  · have : (strOfNums a).toList ≠ (strOfNums b).toList := fun e => h (str_inj ha hb (ba_ext e))
    rw [decide_eq_false h, beq_eq_false_iff_ne.2 this]
theorem build_f {l : List En} (hl : l.length ≤ 1000000) (hw : ∀ e ∈ l, WfN e) : block_Build.f l = some (if okEs l = true then (formB l, 0) else ([], 70)) := if_pos ⟨hl, hw⟩
/-- What bytes say: entries that make a block, put as they stood, or none. -/
theorem bparse_any (raw : List Int) (hb : By raw) (hl : raw.length ≤ 1000000) :
    (∃ l : List En, okEs l = true ∧ (∀ e ∈ l, WfN e) ∧ raw = formB l ∧ Ev (fun k => block_Parse.f k raw) (l, 0)) ∨ Ev (fun k => block_Parse.f k raw) ([], 70) := by
  obtain ⟨L, hL⟩ : ∃ L : Nat, (L : Int) = mx (wrap64 ((raw.length : Int) - 4)) 0 ∧ L ≤ raw.length := by
    refine ⟨(mx (wrap64 ((raw.length : Int) - 4)) 0).toNat, ?_, ?_⟩
    · unfold mx wrap64; split <;> omega
    · unfold mx wrap64; split <;> omega
  have hT : ∃ (x : Nat) (rest : List Int) (ok : Bool), nums_TakeFour.f (raw.drop L) = some ((x : Int), rest, ok) := by
    rcases takeFour_cases (raw.drop L) (hb.drop L) (by rw [List.length_drop]; omega) with ⟨_, hf⟩ | ⟨_, x, rest, _, _, hf⟩
    · exact ⟨0, [], false, hf⟩
    · exact ⟨x, rest, true, hf⟩
  obtain ⟨x, rest, ok, hT⟩ := hT
  have hno : ∀ a : Int, Ev (fun k => block_Parse.j0 k raw a true) (([], 70) : List En × Int) := fun a => ev_step (fun k => by rw [block_Parse.j0]) (ev_pos rfl (ev_some _))
  have start : ∀ {r : List En × Int}, Ev (fun k => if ok = true then (block_Parse.j0 k raw (wrap64 ((wrap64 ((raw.length : Int) - 4)) - (wrap64 (4 * (wrap64 (mn (x : Int) 64)))))) (decide ((wrap64 ((wrap64 ((raw.length : Int) - 4)) - (wrap64 (4 * (wrap64 (mn (x : Int) 64)))))) < 0))) else (block_Parse.j0 k raw (wrap64 ((wrap64 ((raw.length : Int) - 4)) - (wrap64 (4 * (wrap64 (mn (x : Int) 64)))))) true)) r → Ev (fun k => block_Parse.f k raw) r := fun {r} h => by
    unfold block_Parse.f
    refine ev_pos (by rw [← hL.1]; omega) (ev_pos (by rw [← hL.1]; omega) ?_)
    rw [← hL.1, Int.toNat_natCast]
    refine ev_bind3 hT (fun q q1 q2 q3 => ?_)
    rw [q1, q3]
    exact h
  cases ok with
  | false => exact .inr (start (ev_neg (by decide) (hno _)))
  | true =>
    obtain ⟨m, hm⟩ : ∃ m : Nat, (m : Int) = mn (x : Int) 64 ∧ m ≤ 64 := by
      refine ⟨(mn (x : Int) 64).toNat, ?_, ?_⟩
      · unfold mn; split <;> omega
      · unfold mn; split <;> omega
    have he : wrap64 ((wrap64 ((raw.length : Int) - 4)) - (wrap64 (4 * (wrap64 (mn (x : Int) 64))))) = (raw.length : Int) - 4 - 4 * (m : Int) := by
      rw [← hm.1]
      unfold wrap64
      omega
    rw [he] at start
    by_cases hneg : (raw.length : Int) - 4 - 4 * (m : Int) < 0
    · right
      refine start (ev_pos rfl ?_)
      rw [decide_eq_true hneg]
      exact hno _
    · obtain ⟨E, hE⟩ : ∃ E : Nat, (E : Int) = (raw.length : Int) - 4 - 4 * (m : Int) := ⟨((raw.length : Int) - 4 - 4 * (m : Int)).toNat, by omega⟩
      obtain ⟨l, fine, h1, h2, h3⟩ := entries_any (raw.take E) (hb.take E) (by rw [List.length_take]; omega)
      have st2 : ∀ {r : List En × Int}, Ev (fun k => (block_Build.f l).bind fun bt => (if fine = true then (if bt.2 = 0 then ((bytes_Equal.f bt.1 raw).bind fun t => (if t = true then (some (l, (0 : Int))) else (some (([] : List En), 70)))) else (some (([] : List En), 70))) else (some (([] : List En), 70)))) r → Ev (fun k => block_Parse.f k raw) r := fun {r} h => by
        refine start (ev_pos rfl ?_)
        rw [decide_eq_false hneg, ← hE]
        refine ev_step (fun k => by rw [block_Parse.j0]) (ev_neg (by decide) (ev_pos (by omega) (ev_pos (by omega) ?_)))
        rw [Int.toNat_natCast]
        exact ev_call2 h1 (fun t t1 t2 => by rw [t1, t2]; exact h)
      cases fine with
      | false => exact .inr (st2 (ev_bind (build_f (by omega) h2) (ev_neg (by decide) (ev_some _))))
      | true =>
        cases hk : okEs l with
        | false =>
          right
          have hbf : block_Build.f l = some ([], 70) := by rw [build_f (by omega) h2, hk]; rfl
          exact st2 (ev_bind hbf (ev_pos rfl (ev_neg (show ¬ ((70 : Int) = 0) by decide) (ev_some _))))
        | true =>
          have hbf : block_Build.f l = some (formB l, 0) := by rw [build_f (by omega) h2, hk]; rfl
          by_cases heq : formB l = raw
          · left
            exact ⟨l, hk, h2, heq.symm, st2 (ev_bind hbf (ev_pos rfl (ev_pos rfl (ev_bind (bld_equal (formB_by l) hb) (ev_pos (decide_eq_true heq) (ev_some _))))))⟩
          · right
            exact st2 (ev_bind hbf (ev_pos rfl (ev_pos rfl (ev_bind (bld_equal (formB_by l) hb) (ev_neg (by rw [decide_eq_false heq]; decide) (ev_some _))))))
end Go.Proofs.YtjcjfghcahbbmaaL

end

section
set_option linter.unusedVariables false
set_option linter.unusedSimpArgs false
namespace Go.Proofs.YtjcjfghcahbbmaaL
open Go Go.RowKit Go.Proofs.YtjcjfghcahbbmaaG Go.Proofs.Ytjcjfghcahbbmaa.P Go.Proofs.YtjcjfghcahbbmaaW.PrintWords Go.Proofs.YtjcjfghcahbbmaaW.PrintMore

theorem comN_take : ∀ a b : List UInt8, a.take (comN a b) = b.take (comN a b)
  | [], b => by
    have h : comN [] b = 0 := by rw [comN]; intro a x b y h; cases h
    rw [h]; rfl
  | a :: x, [] => by rw [comN_nil_right]; rfl
  | a :: x, b :: y => by
    rw [comN]
    by_cases h : a = b
    · rw [if_pos h, List.take_succ_cons, List.take_succ_cons, comN_take x y, h]
    · rw [if_neg h]; rfl
theorem key_join (a b : ByteArray) : (a.extract 0 (com a b)) ++ b.extract (com a b) b.size = b := by
  have h := comN_take a.toList b.toList
  have h1 := (com_le a b)
  refine ba_ext ?_
  unfold com at *
  simp only [toList_data] at *
  rw [ByteArray.data_append, ByteArray.data_extract, ByteArray.data_extract, Array.toList_append, Array.toList_extract, Array.toList_extract]
  have hb : b.data.toList.length = b.size := by rw [Array.length_toList]; rfl
  simp only [List.extract_eq_take_drop, List.drop_zero, Nat.sub_zero]
  rw [h, List.take_of_length_le (i := b.size - _) (by rw [List.length_drop, hb]; omega), List.take_append_drop]
theorem bldS_pre (l : List En) (i : Nat) : ∃ r, (bldS l).b = (bldS (l.take i)).b ++ r := by
  refine rev_ind (P := fun l => ∃ r, (bldS l).b = (bldS (l.take i)).b ++ r) ⟨[], by simp⟩ (fun l e ih => ?_) l
  by_cases h : i ≤ l.length
  · obtain ⟨r, hr⟩ := ih
    rw [List.take_append_of_le_length h, bldS_snoc]
    exact ⟨r ++ entF ((bldS l).n e) e, by show (bldS l).b ++ _ = _; rw [hr, List.append_assoc]⟩
  · rw [List.take_of_length_le (by rw [List.length_append, List.length_singleton]; omega)]
    exact ⟨[], by rw [List.append_nil]⟩
theorem ba_nil_of {s : ByteArray} (h : s.size = 0) : s = ⟨#[]⟩ := ba_ext (by rw [ba_nil_iff.2 h]; exact (ba_nil_iff.2 rfl).symm)
theorem ent_form (l : List En) (ho : ∀ e ∈ l, OkE e) (hw : ∀ e ∈ l, WfN e) (hl : l.length ≤ 64) :
    ∀ (d i : Nat) (rem : List Int), i + d = l.length → (bldS l).b = (bldS (l.take i)).b ++ rem → Ev (fun k => block_entries.l0 k rem (l.take i) (bldS (l.take i)).k) (l, true) := by
  obtain ⟨B1, _, _⟩ := bldS_len l ho hw
  have BY := (bldS_by l).1
  intro d
  induction d with
  | zero =>
    intro i rem hi hr
    rw [List.take_of_length_le (by omega)] at hr ⊢
    have hn : rem = [] := by
      have := congrArg List.length hr
      rw [List.length_append] at this
      exact List.length_eq_zero_iff.1 (by omega)
    subst hn
    exact ev_step (fun k => by rw [block_entries.l0, if_neg (by simp)]) (ev_step (fun k => by rw [block_entries.j1]) (ev_neg (by decide) (ev_some _)))
  | succ d ih =>
    intro i rem hi hr
    have hlt : i < l.length := by omega
    obtain ⟨e, he⟩ : ∃ e, e = l[i] := ⟨_, rfl⟩
    have htk : l.take (i + 1) = l.take i ++ [e] := by rw [he, List.take_succ_eq_append_getElem hlt]
    have hoe : OkE e := by rw [he]; exact ho _ (List.getElem_mem hlt)
    have hwe : WfN e := by rw [he]; exact hw _ (List.getElem_mem hlt)
    obtain ⟨p1, p2, p3, p4, p5, p6⟩ := hoe.parts
    obtain ⟨w1, w2⟩ := hwe
    have hmi : (bldS (l.take i)).m = (l.take i).length := bldS_m _
    have hil : (l.take i).length = i := by rw [List.length_take]; omega
    obtain ⟨s, hs⟩ : ∃ s, s = bldS (l.take i) := ⟨_, rfl⟩
    obtain ⟨acc, hacc⟩ : ∃ acc, acc = l.take i := ⟨_, rfl⟩
    obtain ⟨k0, hk0⟩ : ∃ k0, k0 = keyAt s.m s.k := ⟨_, rfl⟩
    obtain ⟨n, hn⟩ : ∃ n, n = com k0 e.f0.f0 := ⟨_, rfl⟩
    have hsn : s.n e = n := by rw [hn, hk0]; rfl
    obtain ⟨rem', hrem'⟩ := bldS_pre l (i + 1)
    have hb1 : (bldS (l.take (i + 1))).b = s.b ++ entF n e := by rw [htk, bldS_snoc, ← hs, ← hsn]; rfl
    have hrem : rem = entF n e ++ rem' := by
      rw [hrem', hb1, ← hs, List.append_assoc] at hr
      exact (List.append_cancel_left hr).symm
    have hk1 : (bldS (l.take (i + 1))).k = e.f0.f0 := by rw [htk, bldS_snoc]; rfl
    have hnext := ih (i + 1) rem' (by omega) hrem'
    rw [hk1, htk, ← hacc] at hnext
    have hnk := com_le k0 e.f0.f0
    rw [← hn] at hnk
    have hBr : By rem' := by rw [hrem'] at BY; exact By.right BY
    have hlr : rem'.length ≤ 40000 := by
      have := congrArg List.length hrem'
      rw [List.length_append] at this
      omega
    have hkey : (k0.extract 0 n) ++ e.f0.f0.extract n e.f0.f0.size = e.f0.f0 := by rw [hn]; exact key_join _ _
    have hpos := (entF_len hoe ⟨w1, w2⟩ hnk.2).2
    obtain ⟨tx, htx⟩ : ∃ t, t = e.f0.f0.extract n e.f0.f0.size := ⟨_, rfl⟩
    have htxs : tx.size = e.f0.f0.size - n := by rw [htx, ByteArray.size_extract]; omega
    obtain ⟨x, hx⟩ : ∃ x, x = e.f0.f1.toNat * 2 + e.f0.f2.toNat := ⟨_, rfl⟩
    obtain ⟨va, hva⟩ : ∃ v, v = (if e.f0.f2 = 1 then vint e.f1.size ++ bytesOf e.f1 else []) := ⟨_, rfl⟩
    have hval : va.length ≤ 300 ∧ By va := by
      rw [hva]
      split
      · have := vint_len10 (x := e.f1.size) (by omega)
        rw [List.length_append, bytesOf_length]
        exact ⟨by omega, (vint_by _).append (bytesOf_by _)⟩
      · exact ⟨by simp, .nil⟩
    have hform : rem = vint n ++ (vint tx.size ++ (bytesOf tx ++ (vint x ++ (va ++ rem')))) := by
      rw [hrem, entF, ← htx, ← hx, ← hva, htxs]
      simp only [List.append_assoc]
    have v1 := vint_len10 (x := n) (by omega)
    have v2 := vint_len10 (x := tx.size) (by omega)
    have v3 := vint_len10 (x := x) (by omega)
    have b3 : By (va ++ rem') := hval.2.append hBr
    have b2 : By (vint x ++ (va ++ rem')) := (vint_by _).append b3
    have b1 : By (vint tx.size ++ (bytesOf tx ++ (vint x ++ (va ++ rem')))) := (vint_by _).append ((bytesOf_by _).append b2)
    have f1 := take_vint n _ (by omega) b1 (by simp only [List.length_append, bytesOf_length]; omega)
    have f2 := takeText_yes tx (vint x ++ (va ++ rem')) 64 (by omega) b2 (by simp only [List.length_append]; omega) (by omega)
    have f3 := take_vint x (va ++ rem') (by omega) b3 (by rw [List.length_append]; omega)
    have hand := and1 x (by omega)
    have hxk : ((x % 2 : Nat) : Int) = e.f0.f2 := by omega
    have hxs : (x : Int) / 2 = e.f0.f1 := by omega
    have hwk : IntKind.u64.wrap (k0.size : Int) = (k0.size : Int) := by
      refine wrap_u64_nat ?_
      have hks : k0.size ≤ 64 := by
        rw [hk0]
        unfold keyAt
        split
        · exact Nat.zero_le _
        · rw [hs]
          refine rev_ind (P := fun q => (∀ x ∈ q, OkE x) → (bldS q).k.size ≤ 64) (fun _ => Nat.zero_le _) (fun q x _ hq => ?_) (l.take i) (fun x hx => ho x (List.mem_of_mem_take hx))
          rw [bldS_snoc]
          exact (hq x (by simp)).parts.2.1
      omega
    have hsz := ext_size k0 (n := n) hnk.1
    have hj2 : Ev (fun k => block_entries.j2 k rem acc k0) (l, true) := by
      refine ev_step (fun k => by rw [block_entries.j2]) ?_
      rw [hform]
      refine ev_bind3 f1 (fun q q1 q2 q3 => ?_)
      rw [q1, q2, q3]
      refine ev_bind3 f2 (fun v v1 v2 v3 => ?_)
      rw [v1, v2, v3]
      refine ev_bind3 f3 (fun z z1 z2 z3 => ?_)
      rw [z1, z2, z3]
      refine ev_pos rfl (ev_pos rfl (ev_pos rfl ?_))
      rw [hwk, decide_eq_false (by omega)]
      refine ev_step (fun k => by rw [block_entries.j3]) (ev_neg (by decide) ?_)
      refine ev_pos (by omega) (ev_pos (by omega) ?_)
      rw [Int.toNat_natCast]
      refine ev_pos (by rw [hsz]; omega) ?_
      rw [hand, hxk, hxs, htx, hkey]
      have hal : acc.length < 2932031007402 := by rw [hacc, hil]; omega
      by_cases hk : e.f0.f2 = 1
      · refine ev_pos hk ?_
        rw [hva, if_pos hk, List.append_assoc]
        refine ev_bind3 (takeText_yes e.f1 rem' 256 (by omega) hBr (by omega) (by omega)) (fun u u1 u2 u3 => ?_)
        rw [u1, u2, u3]
        exact ev_pos rfl (ev_pos hal hnext)
      · refine ev_neg hk (ev_pos hal ?_)
        have hv0 : e.f1 = ⟨#[]⟩ := ba_nil_of (p6 (by omega))
        rw [hva, if_neg hk, List.nil_append]
        have hee : (⟨⟨e.f0.f0, e.f0.f1, e.f0.f2⟩, ⟨#[]⟩⟩ : En) = e := by rw [← hv0]
        rw [hee]
        exact hnext
    rw [← hs]
    rw [← hs, hil] at hmi
    have hd : decide ((acc.length : Int) ≤ 64) = true := decide_eq_true (by rw [hacc, hil]; omega)
    rw [← hacc]
    refine ev_step (fun k => by rw [block_entries.l0, if_pos (by rw [hrem, List.length_append]; omega), hd]) (ev_step (fun k => by rw [block_entries.j1]) (ev_pos rfl ?_))
    by_cases h4 : ((acc.length : Int) % 4) = 0
    · refine ev_pos h4 ?_
      have : k0 = ⟨#[]⟩ := by rw [hk0, keyAt, if_pos (by rw [hacc, hil] at h4; omega)]
      rw [this] at hj2
      exact hj2
    · refine ev_neg h4 ?_
      have : k0 = s.k := by rw [hk0, keyAt, if_neg (by rw [hacc, hil] at h4; omega)]
      rw [this] at hj2
      exact hj2
theorem entries_form {l : List En} (ho : ∀ e ∈ l, OkE e) (hw : ∀ e ∈ l, WfN e) (hl : l.length ≤ 64) : Ev (fun k => block_entries.f k (bldS l).b) (l, true) := by
  unfold block_entries.f
  exact ent_form l ho hw hl l.length 0 _ (by omega) rfl
theorem bp_end {n b r : Nat} (h : n = b + 4 * r + 4) (hr : r ≤ 16) (hn : n ≤ 30000) : wrap64 ((wrap64 ((n : Int) - 4)) - (wrap64 (4 * (wrap64 (mn (r : Int) 64))))) = (b : Int) := by
  have h1 : mn (r : Int) 64 = (r : Int) := by unfold mn; split <;> omega
  have h2 : wrap64 (r : Int) = (r : Int) := by unfold wrap64; omega
  have h3 : wrap64 (4 * (r : Int)) = 4 * (r : Int) := by unfold wrap64; omega
  have h4 : wrap64 ((n : Int) - 4) = (n : Int) - 4 := by unfold wrap64; omega
  rw [h1, h2, h3, h4, h]
  unfold wrap64
  omega
theorem bp_start {n b r : Nat} (h : n = b + 4 * r + 4) (hn : n ≤ 30000) : mx (wrap64 ((n : Int) - 4)) 0 = ((b + 4 * r : Nat) : Int) := by
  have h4 : wrap64 ((n : Int) - 4) = ((b + 4 * r : Nat) : Int) := by unfold wrap64; omega
  rw [h4]
  unfold mx
  split <;> omega
theorem formB_parts {l : List En} (hk : okEs l = true) (hw : ∀ e ∈ l, WfN e) : ∃ (p : List Int) (r : Nat), formB l = ((bldS l).b ++ p) ++ four r ∧ p.length = 4 * r ∧ r ≤ 16 ∧ (formB l).length = (bldS l).b.length + 4 * r + 4 ∧ (formB l).length ≤ 30000 ∧ l.length ≤ 64 ∧ (∀ e ∈ l, OkE e) := by
  obtain ⟨k1, k2, k3, k4⟩ := okEs_parts hk
  obtain ⟨hfl, hf2⟩ := formB_len k3 hw k2
  exact ⟨(bldS l).p, (l.length + 3) / 4, by rw [formB, outF, bldS_m], bldS_p l, by omega, hfl, hf2, k2, k3⟩
theorem bparse_form {l : List En} (hk : okEs l = true) (hw : ∀ e ∈ l, WfN e) : Ev (fun k => block_Parse.f k (formB l)) (l, 0) := by
  obtain ⟨p, r, hfm, hp, hr, hfl, hf2, hl, ho⟩ := formB_parts hk hw
  have hb := formB_by l
  have he := entries_form ho hw hl
  have hbf : block_Build.f l = some (formB l, 0) := by rw [build_f (by omega) hw, hk]; rfl
  obtain ⟨B, hB⟩ : ∃ B, B = (bldS l).b := ⟨_, rfl⟩
  obtain ⟨F, hF⟩ : ∃ F, F = formB l := ⟨_, rfl⟩
  rw [← hB] at hfm he hfl
  rw [← hF] at hfm hfl hf2 hb hbf ⊢
  have hL := bp_start hfl hf2
  have hE := bp_end hfl hr hf2
  have hd : F.drop (B.length + 4 * r) = four r := by rw [hfm, show B.length + 4 * r = (B ++ p).length from by rw [List.length_append, hp], List.drop_left]
  have htk : F.take B.length = B := by rw [hfm, List.append_assoc, List.take_left]
  have hT := takeFour_four r [] (by omega) .nil (by simp)
  rw [List.append_nil] at hT
  have c1 : (0 : Int) ≤ ((B.length + 4 * r : Nat) : Int) := Int.natCast_nonneg _
  have c2 : ((B.length + 4 * r : Nat) : Int) ≤ (F.length : Int) := Int.ofNat_le.2 (by rw [hfl]; omega)
  have c3 : ¬ ((B.length : Int) < 0) := Int.not_lt.2 (Int.natCast_nonneg _)
  have c4 : (B.length : Int) ≤ (F.length : Int) := Int.ofNat_le.2 (by rw [hfl]; omega)
  unfold block_Parse.f
  rw [hL, Int.toNat_natCast, hd]
  refine ev_pos c1 (ev_pos c2 ?_)
  refine ev_bind3 hT (fun q q1 q2 q3 => ?_)
  rw [q1, q3, hE]
  refine ev_pos rfl ?_
  rw [decide_eq_false c3]
  refine ev_step (fun k => by rw [block_Parse.j0]) (ev_neg (by decide) (ev_pos (Int.natCast_nonneg _) (ev_pos c4 ?_)))
  rw [Int.toNat_natCast, htk]
  refine ev_call2 he (fun t t1 t2 => ?_)
  rw [t1, t2]
  refine ev_bind hbf ?_
  refine ev_pos rfl (ev_pos rfl ?_)
  exact ev_bind (bld_equal hb hb) (ev_pos (decide_eq_true rfl) (ev_some _))
theorem Ev.uniq {α : Type} {g : Nat → Option α} {a b : α} (h : Ev g a) (k : Ev g b) : a = b := by
  obtain ⟨K, hK⟩ := h
  obtain ⟨L, hL⟩ := k
  have h1 := hK (K + L) (by omega)
  rw [hL (K + L) (by omega)] at h1
  exact (Option.some.inj h1).symm
theorem formB_inj {l l' : List En} (hk : okEs l = true) (hw : ∀ e ∈ l, WfN e) (hk' : okEs l' = true) (hw' : ∀ e ∈ l', WfN e) (h : formB l = formB l') : l = l' := by
  have h1 := bparse_form hk hw
  rw [h] at h1
  exact (Prod.mk.inj (Ev.uniq h1 (bparse_form hk' hw'))).1
end Go.Proofs.YtjcjfghcahbbmaaL

end

section
set_option linter.unusedVariables false
set_option linter.unusedSimpArgs false
namespace Go.Proofs.YtjcjfghcahbbmaaG
open Go Go.RowKit Go.Proofs.YtjcjfghcahbbmaaR Go.Proofs.Ytjcjfghcahbbmaa.P Go.Proofs.YtjcjfghcahbbmaaW.PrintWords
attribute [local go_sem] str_geq
set_option maxRecDepth 100000 in
set_option maxHeartbeats 2000000 in
/-- sort.Search, where the function given tells p. -/
theorem search_calls (n r : Nat) (g : Nat) (lb : Array Value) (p : Nat → Bool) (w : World) (hn : n ≤ 1000000000) (hr : r ≤ n) (h0 : ∀ i, i < r → p i = false) (h1 : ∀ i, r ≤ i → i < n → p i = true)
    (eg : ∀ args w, (callFunc g args).run Try.prog w = .ok (.enter g args) w)
    (hc : ∀ (i : Nat) (W : World), i < n → Below w.heap.size w W → Calls Try.prog g (#[.int .i64 i] ++ lb) W fun e W' => e = .returned (.bool (p i)) ∧ Below W.heap.size W W') :
    Calls Try.prog 61 #[.int .i64 n, .func (.func g) #[] lb] w fun e w' => e = .returned (.int .i64 r) ∧ Below w.heap.size w w' := by
  have HC := Aside0.mk hc
  clear hc
  go_enter Try.func61, Try.ntmps61
  go_wp2
  go_loopg [5, 6] n (fun kq v5 v6 wr => ∃ i j : Nat, v5 = .int .i64 (i : Int) ∧ v6 = .int .i64 (j : Int) ∧ Aside0 (i ≤ r ∧ r ≤ j ∧ j ≤ n ∧ j ≤ i + kq) ∧ Aside0 (Below w.heap.size w wr))
  case atStart => exact ⟨0, n, rfl, rfl, ⟨Nat.zero_le _, hr, Nat.le_refl _, by omega⟩, ⟨Below.refl _ _⟩⟩
  case round =>
    obtain ⟨i, j, rfl, rfl, HI, HB⟩ := hrel
    by_cases hij : i < j
    · have hb : decide ((i : Int) < (j : Int)) = true := decide_eq_true (by omega)
      cases gk with
      | zero => exact absurd HI.out.2.2.2 (by omega)
      | succ k1 =>
        have hw1 : wrap64 ((i : Int) + (j : Int)) = ((i + j : Nat) : Int) := by have := HI.out; unfold wrap64; omega
        obtain ⟨m, hm⟩ : ∃ m, m = (i + j) / 2 := ⟨_, rfl⟩
        have hmw : wrap64 (IntKind.u64.wrap ((i : Int) + (j : Int)) / 2) = (m : Int) := by
          have := HI.out
          rw [IntKind.wrap_u64]
          unfold wrap64
          omega
        have hm1 : wrap64 ((m : Int) + 1) = ((m + 1 : Nat) : Int) := by have := HI.out; unfold wrap64; omega
        have hmij : i ≤ m ∧ m < j := by omega
        have hcm := HC.out m wr (by have := HI.out; omega) HB.out
        have HCM := Aside0.mk hcm
        have HM := Aside0.mk hmij
        clear hcm hmij hm
        go_wp2_with fail
        refine HCM.out.mono ?_
        rintro e W2 ⟨rfl, hb2⟩
        have HB2 := Aside0.mk hb2
        clear hb2
        obtain ⟨pm, hpm⟩ : ∃ b, p m = b := ⟨_, rfl⟩
        have HPM := Aside0.mk hpm
        rw [hpm]
        clear hpm
        cases pm with
        | true =>
          have hrm : r ≤ m := by
            by_cases h : r ≤ m
            · exact h
            · have := h0 m (by omega); rw [HPM.out] at this; cases this
          go_wp2
          go_roundg k1
          case measure => exact Nat.lt_succ_self _
          case rel => exact ⟨i, m, rfl, rfl, ⟨HI.out.1, hrm, by have := HI.out; have := HM.out; omega, by have := HI.out; have := HM.out; omega⟩, ⟨below_step HB.out HB2.out⟩⟩
        | false =>
          have hrm : m + 1 ≤ r := by
            by_cases h : m + 1 ≤ r
            · exact h
            · have := h1 m (by omega) (by have := HI.out; have := HM.out; omega); rw [HPM.out] at this; cases this
          go_wp2
          go_roundg k1
          case measure => exact Nat.lt_succ_self _
          case rel => exact ⟨m + 1, j, rfl, rfl, ⟨hrm, HI.out.2.1, HI.out.2.2.1, by have := HI.out; have := HM.out; omega⟩, ⟨below_step HB.out HB2.out⟩⟩
    · have hb : decide ((i : Int) < (j : Int)) = false := decide_eq_false (by omega)
      have hir : i = r := by have := HI.out; omega
      subst hir
      go_wp2
      go_ret
      exact ⟨rfl, HB.out⟩
end Go.Proofs.YtjcjfghcahbbmaaG

end

section
set_option linter.unusedVariables false
set_option linter.unusedSimpArgs false
namespace Go.Proofs.YtjcjfghcahbbmaaG
open Go Go.RowKit Go.Proofs.YtjcjfghcahbbmaaR Go.Proofs.YtjcjfghcahbbmaaL Go.Proofs.Ytjcjfghcahbbmaa.P Go.Proofs.YtjcjfghcahbbmaaW.PrintWords Go.Proofs.YtjcjfghcahbbmaaW.PrintMore
attribute [local go_sem] Oper.semAt_some

theorem tw_lt {α : Type} (f : α → Bool) : ∀ (l : List α) (i : Nat), i < (l.takeWhile f).length → ∃ x, l[i]? = some x ∧ f x = true
  | [], i, h => by simp at h
  | a :: l, i, h => by
    rw [List.takeWhile_cons] at h
    by_cases ha : f a = true
    · rw [if_pos ha] at h
      cases i with
      | zero => exact ⟨a, rfl, ha⟩
      | succ i =>
        obtain ⟨x, h1, h2⟩ := tw_lt f l i (by simpa using h)
        exact ⟨x, by simpa using h1, h2⟩
    · rw [if_neg ha] at h
      simp at h
theorem tw_le {α : Type} (f : α → Bool) (l : List α) : (l.takeWhile f).length ≤ l.length := (List.takeWhile_sublist f).length_le
theorem tw_at {α : Type} (f : α → Bool) : ∀ (l : List α) (h : (l.takeWhile f).length < l.length), f l[(l.takeWhile f).length] = false
  | [], h => by simp at h
  | a :: l, h => by
    by_cases ha : f a = true
    · have e : (a :: l).takeWhile f = a :: l.takeWhile f := by rw [List.takeWhile_cons, if_pos ha]
      have h2 : (l.takeWhile f).length < l.length := by rw [e] at h; simpa using h
      have := tw_at f l h2
      simp only [e, List.length_cons, List.getElem_cons_succ]
      exact this
    · have e : (a :: l).takeWhile f = [] := by rw [List.takeWhile_cons, if_neg ha]
      simp only [e, List.length_nil, List.getElem_cons_zero]
      exact Bool.eq_false_iff.2 ha
def aheadB (x : Ik) (e : En) : Bool := decide (cmpI e.f0 x < 0)
def seekN (l : List En) (x : Ik) : Nat := (l.takeWhile (aheadB x)).length
theorem rises_tail {a : En} {l : List En} (h : risesB (a :: l) = true) : risesB l = true := by
  cases l with
  | nil => rfl
  | cons b r => rw [rises_two, Bool.and_eq_true] at h; exact h.2
theorem rises_first : ∀ (l : List En) (a : En), risesB (a :: l) = true → ∀ e ∈ l, cmpI a.f0 e.f0 < 0
  | [], a, _, e, he => by cases he
  | b :: r, a, h, e, he => by
    rw [rises_two, Bool.and_eq_true, decide_eq_true_eq] at h
    rcases List.mem_cons.1 he with rfl | he
    · exact h.1
    · have h1 := rises_first r b h.2 e he
      have h2 := cmpI_trans (x := a.f0) (y := b.f0) (z := e.f0) (by omega) (by omega)
      by_cases h3 : cmpI a.f0 e.f0 = 0
      · obtain ⟨q1, q2, q3⟩ := (cmpI_zero _ _).1 h3
        have h4 : a.f0 = e.f0 := by
          generalize a.f0 = u at *
          generalize e.f0 = v at *
          cases u; cases v; simp_all
        have h5 := cmpI_neg b.f0 a.f0
        rw [h4] at h5 h
        omega
      · omega
theorem rises_at : ∀ (l : List En), risesB l = true → ∀ (i j : Nat) (hi : i < j) (hj : j < l.length), cmpI (l[i]).f0 (l[j]).f0 < 0
  | [], _, i, j, hi, hj => by simp at hj
  | a :: l, h, 0, j + 1, hi, hj => by
    have hj' : j < l.length := by simpa using hj
    simp only [List.getElem_cons_zero, List.getElem_cons_succ]
    exact rises_first l a h _ (List.getElem_mem hj')
  | a :: l, h, i + 1, j + 1, hi, hj => by
    have hj' : j < l.length := by simpa using hj
    simp only [List.getElem_cons_succ]
    exact rises_at l (rises_tail h) i j (by omega) hj'
theorem cmpI_down {x y k : Ik} (h : cmpI x y < 0) (h2 : ¬ cmpI x k < 0) : ¬ cmpI y k < 0 := by
  intro h3
  have h4 := cmpI_trans (x := x) (y := y) (z := k) (by omega) (by omega)
  have h5 : cmpI x k = 0 := by omega
  obtain ⟨q1, q2, q3⟩ := (cmpI_zero _ _).1 h5
  have h6 : x = k := by cases x; cases k; simp_all
  subst h6
  have := cmpI_neg x y
  omega
theorem seek_at {l : List En} {x : Ik} (h : risesB l = true) {i : Nat} (hi : seekN l x ≤ i) (hl : i < l.length) : aheadB x l[i] = false := by
  have h0 : seekN l x < l.length := by omega
  have h1 := tw_at (aheadB x) l h0
  by_cases he : seekN l x = i
  · subst he; exact h1
  · have h2 := rises_at l h (seekN l x) i (by omega) hl
    unfold aheadB at h1 ⊢
    exact decide_eq_false (cmpI_down h2 (of_decide_eq_false h1))
theorem seek_lt {l : List En} {x : Ik} {i : Nat} (hi : i < seekN l x) (hl : i < l.length) : aheadB x l[i] = true := by
  obtain ⟨y, h1, h2⟩ := tw_lt (aheadB x) l i hi
  rw [List.getElem?_eq_getElem hl] at h1
  rw [Option.some.inj h1]
  exact h2

abbrev ikBx (x : Ik) : Obj := .cells #[.string x.f0, .int .u64 x.f1, .int .u8 x.f2] 50
set_option maxRecDepth 100000 in
set_option maxHeartbeats 2000000 in
theorem seek1_calls (b b' : Nat) (A0 : Option Addr) (c0 : Nat) (l : List En) (x : Ik) (W : World) (h0 : W.heap[b]? = some (.cells #[.slice A0 l.length c0] 48)) (h1 : W.heap[b']? = some (ikBx x)) (hC : Kd.C k59 W A0 l.length l) (i : Nat) (hi : i < l.length) :
    Calls Try.prog 62 #[.int .i64 i, .pointer (some ⟨b, 0, none⟩), .pointer (some ⟨b', 0, none⟩)] W fun e W' => e = .returned (.bool (!(aheadB x l[i]))) ∧ Below W.heap.size W W' := by
  have hu := Try.underlying59
  have hu2 := Try.underlying50
  have hc0 := box_cell h0
  have hk0 : W.cell? ⟨b', 0, none⟩ = some (.string x.f0) := (blk_cell h1 0).trans rfl
  have hk1 : W.cell? ⟨b', 1, none⟩ = some (.int .u64 x.f1) := (blk_cell h1 1).trans rfl
  have hk2 : W.cell? ⟨b', 2, none⟩ = some (.int .u8 x.f2) := (blk_cell h1 2).trans rfl
  obtain ⟨ad, he, hx0, hx1, hx2, hx3⟩ := at_T59 hC (i : Int) (by omega) (by omega)
  subst he
  have hrd : rd_T59 l (i : Int) = l[i] := by
    show l.getD ((i : Int)).toNat _ = _
    rw [Int.toNat_natCast, List.getD_eq_getElem?_getD, List.getElem?_eq_getElem hi]
    rfl
  rw [hrd] at hx0 hx1 hx2 hx3
  have hm := hC.2.1
  simp only [Int.toNat_natCast] at hx0 hx1 hx2 hx3
  obtain ⟨y, hy⟩ : ∃ y, y = l[i] := ⟨_, rfl⟩
  rw [← hy] at hx0 hx1 hx2 hx3 ⊢
  have hr : (!(aheadB x y)) = decide (cmpI y.f0 x ≥ 0) := by
    unfold aheadB
    by_cases h : cmpI y.f0 x < 0
    · rw [decide_eq_true h, decide_eq_false (by omega)]; rfl
    · rw [decide_eq_false h, decide_eq_true (by omega)]; rfl
  rw [hr]
  have HCM : Aside0 (ikey_Compare.f 4 y.f0.f0 y.f0.f1 y.f0.f2 x.f0 x.f1 x.f2 = some (cmpI y.f0 x)) := ⟨compare_f 0 y.f0 x⟩
  obtain ⟨cm, hcm⟩ : ∃ cm, cm = cmpI y.f0 x := ⟨_, rfl⟩
  rw [← hcm] at HCM ⊢
  clear h0 h1 hC hrd hy hr hcm
  go_enter Try.func62, Try.ntmps62
  go_wp2
  go_region_law (go_simp; go_at_call 32; (with_reducible refine (ikey_Compare.calls 4 y.f0.f0 y.f0.f1 y.f0.f2 x.f0 x.f1 x.f2 cm _ HCM.out).mono ?_); rintro e w1 ⟨rfl, hd⟩; have HD := Aside0.mk hd; clear hd hk0 hk1 hk2 hx0 hx1 hx2 hx3 hc0)
  all_goals
    go_wp2
    go_ret
    exact ⟨rfl, below_then (below_drew (Below.refl _ _)) (Nat.le_refl _) HD.out⟩

open Classical in
/-- What bytes say, told once. -/
noncomputable def parseG (raw : List Int) : List En × Int := if h : ∃ l : List En, okEs l = true ∧ (∀ e ∈ l, WfN e) ∧ raw = formB l then (h.choose, 0) else ([], 70)
theorem parseG_form {l : List En} (hk : okEs l = true) (hw : ∀ e ∈ l, WfN e) : parseG (formB l) = (l, 0) := by
  have h : ∃ l' : List En, okEs l' = true ∧ (∀ e ∈ l', WfN e) ∧ formB l = formB l' := ⟨l, hk, hw, rfl⟩
  unfold parseG
  rw [dif_pos h]
  obtain ⟨q1, q2, q3⟩ := h.choose_spec
  rw [← formB_inj hk hw q1 q2 q3]
theorem parseG_any (raw : List Int) (hb : By raw) (hl : raw.length ≤ 1000000) : Ev (fun k => block_Parse.f k raw) (parseG raw) ∧ ((okEs (parseG raw).1 = true ∧ (∀ e ∈ (parseG raw).1, WfN e) ∧ raw = formB (parseG raw).1 ∧ (parseG raw).2 = 0) ∨ parseG raw = ([], 70)) := by
  rcases bparse_any raw hb hl with ⟨l, h1, h2, rfl, h3⟩ | h3
  · rw [parseG_form h1 h2]
    exact ⟨h3, .inl ⟨h1, h2, rfl, rfl⟩⟩
  · have hno : ¬ ∃ l : List En, okEs l = true ∧ (∀ e ∈ l, WfN e) ∧ raw = formB l := by
      rintro ⟨l, h1, h2, rfl⟩
      have := Ev.uniq h3 (bparse_form h1 h2)
      exact absurd (Prod.mk.inj this).2 (by decide)
    have : parseG raw = ([], 70) := by unfold parseG; rw [dif_neg hno]
    rw [this]
    exact ⟨h3, .inr rfl⟩
def zeroE : En := ⟨⟨⟨#[]⟩, 0, 0⟩, ⟨#[]⟩⟩
def seekR (t : List En × Int) (x : Ik) : En × Bool × Int := if t.2 = 0 then (if seekN t.1 x < t.1.length then (t.1.getD (seekN t.1 x) zeroE, true, 0) else (zeroE, false, 0)) else (zeroE, false, t.2)
open Classical in
noncomputable def block_Seek.f (raw : List Int) (a : ByteArray) (b c : Int) : Option (ByteArray × Int × Int × ByteArray × Bool × Int) :=
  if By raw ∧ raw.length ≤ 1000000 then some ((seekR (parseG raw) ⟨a, b, c⟩).1.f0.f0, (seekR (parseG raw) ⟨a, b, c⟩).1.f0.f1, (seekR (parseG raw) ⟨a, b, c⟩).1.f0.f2, (seekR (parseG raw) ⟨a, b, c⟩).1.f1, (seekR (parseG raw) ⟨a, b, c⟩).2.1, (seekR (parseG raw) ⟨a, b, c⟩).2.2) else none
def seekP (l : List En) (x : Ik) (i : Nat) : Bool := match l[i]? with | none => true | some e => !(aheadB x e)
/-- sort.Search in Seek. -/
theorem seek_search (b b' : Nat) (A0 : Option Addr) (c0 : Nat) (l : List En) (x : Ik) (W : World) (h0 : W.heap[b]? = some (.cells #[.slice A0 l.length c0] 48)) (h1 : W.heap[b']? = some (ikBx x)) (hC : Kd.C k59 W A0 l.length l) (hr : risesB l = true) (hl : l.length ≤ 1000000) :
    Calls Try.prog 61 #[.int .i64 l.length, .func (.func 62) #[] #[.pointer (some ⟨b, 0, none⟩), .pointer (some ⟨b', 0, none⟩)]] W fun e w' => e = .returned (.int .i64 (seekN l x)) ∧ Below W.heap.size W w' := by
  refine search_calls l.length (seekN l x) 62 _ (seekP l x) W (by omega) (tw_le _ l) (fun i hi => ?_) (fun i hi hl => ?_) (enters_of Try.func62 (by kernel_rfl) rfl) (fun i W2 hi hB2 => ?_)
  · have hle := tw_le (aheadB x) l
    have hlt : i < l.length := by unfold seekN at hi; omega
    unfold seekP
    rw [List.getElem?_eq_getElem hlt]
    simp only
    rw [seek_lt hi hlt]
    rfl
  · unfold seekP
    rw [List.getElem?_eq_getElem hl]
    simp only
    rw [seek_at hr hi hl]
    rfl
  · have := seek1_calls b b' A0 c0 l x W2 ((hB2.block _ (blk_lt h0)).trans h0) ((hB2.block _ (blk_lt h1)).trans h1) (Kd.C_below hC hB2) i hi
    unfold seekP
    rw [List.getElem?_eq_getElem hi]
    exact this
set_option maxRecDepth 100000 in
set_option maxHeartbeats 4000000 in
theorem seek_calls (A0 : Option Addr) (c0 : Nat) (raw : List Int) (x : Ik) (w : World) (hr0 : Kd.C (Kd.int .u8) w A0 raw.length raw) (hc0 : raw.length ≤ c0) (l : List En) (er : Int) (kp : Nat) (hp : block_Parse.f kp raw = some (l, er)) (he : er = 0 ∨ er = 70 ∧ l = []) (hr : risesB l = true) (hl : l.length ≤ 1000) :
    Calls Try.prog 28 #[.slice A0 raw.length c0, .agg #[.string x.f0, .int .u64 x.f1, .int .u8 x.f2]] w fun e w' => e = .returned (.tuple #[.agg #[.string (seekR (l, er) x).1.f0.f0, .int .u64 (seekR (l, er) x).1.f0.f1, .int .u8 (seekR (l, er) x).1.f0.f2, .string (seekR (l, er) x).1.f1], .bool (seekR (l, er) x).2.1, .int .i64 (seekR (l, er) x).2.2]) ∧ Below w.heap.size w w' := by
  have hu := Try.underlying59
  have hu2 := Try.underlying50
  have hkb := World.alloc_heap_new w (ikBx x)
  have hrb := World.alloc_heap_new (w.alloc (ikBx x)) (enBx zeroE)
  rw [World.size_alloc] at hrb
  have hkb2 : ((w.alloc (ikBx x)).alloc (enBx zeroE)).heap[w.heap.size]? = some (ikBx x) := (Below.heap_alloc _ _ _ (by simp)).trans hkb
  have hB0 : Below w.heap.size w ((w.alloc (ikBx x)).alloc (enBx zeroE)) := below_alloc (below_alloc (Below.refl _ _) _) _
  have HKB := Aside0.mk hkb2
  have HRB := Aside0.mk hrb
  have HB0 := Aside0.mk hB0
  have HPC := Aside0.mk (block_Parse.calls kp A0 c0 raw l er _ (Kd.C_below hr0 hB0) hc0 hp)
  have HRS := Aside0.mk hr
  have HLL := Aside0.mk hl
  clear hkb hrb hkb2 hB0 hr0 hc0 hp hr hl
  go_enter Try.func28, Try.ntmps28
  go_upto_region 2 with (go_at_call 24; refine HPC.out.mono ?_; rintro e w1 ⟨v1, rfl, hv, hd⟩; obtain ⟨A1, c1, e1⟩ := Kd.R_slice hv; subst e1; have HV1 := Aside0.mk hv; have HD1 := Aside0.mk hd; clear hv hd)
  obtain ⟨W2, hW2⟩ : ∃ W2, W2 = w1.alloc (.cells #[.slice A1 l.length c1] 48) := ⟨_, rfl⟩
  rw [show w1.alloc (.cells #[.slice A1 l.length c1] 48) = W2 from hW2.symm]
  have hlb : W2.heap[w1.heap.size]? = some (.cells #[.slice A1 l.length c1] 48) := by rw [hW2]; exact World.alloc_heap_new w1 _
  have hd2 : Below w1.heap.size w1 W2 := by rw [hW2]; exact below_alloc (Below.refl _ _) _
  have hd02 : Below ((w.alloc (ikBx x)).alloc (enBx zeroE)).heap.size ((w.alloc (ikBx x)).alloc (enBx zeroE)) W2 := below_then HD1.out HD1.out.size hd2
  have hkb2 := (hd02.block _ (blk_lt HKB.out)).trans HKB.out
  have HC2 := Aside0.mk (Kd.C_below (Kd.R_reads' HV1.out).2.2 hd2)
  have hz := box_cell hlb
  have HSC := Aside0.mk (seek_search w1.heap.size w.heap.size A1 c1 l x W2 hlb hkb2 HC2.out HRS.out (by have := HLL.out; omega))
  have HLB := Aside0.mk hlb
  have HRB2 := Aside0.mk ((hd02.block _ (blk_lt HRB.out)).trans HRB.out)
  have HD2 := Aside0.mk (below_then HB0.out HB0.out.size hd02)
  clear hW2 hlb hd2 hd02 hkb2
  go_upto_region 3 with (go_at_call 61; refine HSC.out.mono ?_; rintro e w3 ⟨rfl, hd⟩; have HD3 := Aside0.mk (below_then HD2.out HD2.out.size hd); have hz3 := box_cell ((hd.block _ (blk_lt HLB.out)).trans HLB.out); have HC3 := Aside0.mk (Kd.C_below HC2.out hd); have HR3 := Aside0.mk ((hd.block _ (blk_lt HRB2.out)).trans HRB2.out); clear hd hz)
  obtain ⟨sn, hsn⟩ : ∃ sn, sn = seekN l x := ⟨_, rfl⟩
  rw [← hsn]
  have hle := tw_le (aheadB x) l
  have hsl : sn ≤ l.length := by rw [hsn]; exact hle
  have HSN := Aside0.mk hsn
  clear hsn hle
  have hf0 := blk_frozen HR3.out 0
  have hf1 := blk_frozen HR3.out 1
  have hf2 := blk_frozen HR3.out 2
  have hf3 := blk_frozen HR3.out 3
  have hy0 : w3.cell? ⟨w.heap.size + 1, 0, none⟩ = some (.string ⟨#[]⟩) := (blk_cell HR3.out 0).trans rfl
  have hy1 : w3.cell? ⟨w.heap.size + 1, 1, none⟩ = some (.int .u64 0) := (blk_cell HR3.out 1).trans rfl
  have hy2 : w3.cell? ⟨w.heap.size + 1, 2, none⟩ = some (.int .u8 0) := (blk_cell HR3.out 2).trans rfl
  have hy3 : w3.cell? ⟨w.heap.size + 1, 3, none⟩ = some (.string ⟨#[]⟩) := (blk_cell HR3.out 3).trans rfl
  rcases he with rfl | ⟨rfl, rfl⟩
  · by_cases hat : sn = l.length
    · have e1 : ((sn : Int) == (l.length : Int)) = true := beq_iff_eq.2 (by omega)
      have HR : Aside0 (seekR (l, 0) x = (zeroE, false, 0)) := ⟨by
        unfold seekR
        rw [if_pos rfl, if_neg (by have := HSN.out; show ¬ seekN l x < l.length; omega)]⟩
      clear hat
      go_wp2
      refine bodyPost_ret (results_ctt rfl _ _ (w.heap.size + 1) 59 #[.string ⟨#[]⟩, .int .u64 0, .int .u8 0, .string ⟨#[]⟩] (0, 0) _ rfl (blk_put (cs' := #[.string ⟨#[]⟩, .int .u64 0, .int .u8 0, .string ⟨#[]⟩]) (blk_put (cs' := #[.string ⟨#[]⟩, .int .u64 0, .int .u8 0, .string ⟨#[]⟩]) (blk_put (cs' := #[.string ⟨#[]⟩, .int .u64 0, .int .u8 0, .string ⟨#[]⟩]) (blk_put (cs' := #[.string ⟨#[]⟩, .int .u64 0, .int .u8 0, .string ⟨#[]⟩]) HR3.out 0 _ rfl) 1 _ rfl) 2 _ rfl) 3 _ rfl) hu rfl (by kernel_rfl)) rfl ?_
      exact ⟨by rw [HR.out]; rfl, ((((HD3.out.setCell (p := ⟨w.heap.size + 1, 0, none⟩) (by show w.heap.size ≤ w.heap.size + 1; omega) _).setCell (p := ⟨w.heap.size + 1, 1, none⟩) (by show w.heap.size ≤ w.heap.size + 1; omega) _).setCell (p := ⟨w.heap.size + 1, 2, none⟩) (by show w.heap.size ≤ w.heap.size + 1; omega) _).setCell (p := ⟨w.heap.size + 1, 3, none⟩) (by show w.heap.size ≤ w.heap.size + 1; omega) _)⟩
    · have e1 : ((sn : Int) == (l.length : Int)) = false := beq_eq_false_iff_ne.2 (by omega)
      have hlt : sn < l.length := by omega
      obtain ⟨ad, he, hx0, hx1, hx2, hx3⟩ := at_T59 HC3.out (sn : Int) (by omega) (by omega)
      subst he
      have hrd : rd_T59 l (sn : Int) = l[sn] := by
        show l.getD ((sn : Int)).toNat _ = _
        rw [Int.toNat_natCast, List.getD_eq_getElem?_getD, List.getElem?_eq_getElem hlt]
        rfl
      obtain ⟨e, hee⟩ : ∃ e, e = l[sn] := ⟨_, rfl⟩
      rw [hrd, ← hee] at hx0 hx1 hx2 hx3
      simp only [Int.toNat_natCast] at hx0 hx1 hx2 hx3
      have HR : Aside0 (seekR (l, 0) x = (e, true, 0)) := ⟨by
        unfold seekR
        have hs := HSN.out
        rw [if_pos rfl, if_pos (by show seekN l x < l.length; omega)]
        show (l.getD (seekN l x) zeroE, true, (0 : Int)) = _
        rw [← hs, List.getD_eq_getElem?_getD, List.getElem?_eq_getElem hlt, hee]
        rfl⟩
      have hm := HC3.out.2.1
      clear hat hrd hee
      go_wp2
      refine bodyPost_ret (results_ctt rfl _ _ (w.heap.size + 1) 59 #[.string e.f0.f0, .int .u64 e.f0.f1, .int .u8 e.f0.f2, .string e.f1] (0, 0) _ rfl (blk_put (cs' := #[.string e.f0.f0, .int .u64 e.f0.f1, .int .u8 e.f0.f2, .string e.f1]) (blk_put (cs' := #[.string e.f0.f0, .int .u64 e.f0.f1, .int .u8 e.f0.f2, .string ⟨#[]⟩]) (blk_put (cs' := #[.string e.f0.f0, .int .u64 e.f0.f1, .int .u8 0, .string ⟨#[]⟩]) (blk_put (cs' := #[.string e.f0.f0, .int .u64 0, .int .u8 0, .string ⟨#[]⟩]) HR3.out 0 _ rfl) 1 _ rfl) 2 _ rfl) 3 _ rfl) hu rfl (by kernel_rfl)) rfl ?_
      exact ⟨by rw [HR.out]; rfl, ((((HD3.out.setCell (p := ⟨w.heap.size + 1, 0, none⟩) (by show w.heap.size ≤ w.heap.size + 1; omega) _).setCell (p := ⟨w.heap.size + 1, 1, none⟩) (by show w.heap.size ≤ w.heap.size + 1; omega) _).setCell (p := ⟨w.heap.size + 1, 2, none⟩) (by show w.heap.size ≤ w.heap.size + 1; omega) _).setCell (p := ⟨w.heap.size + 1, 3, none⟩) (by show w.heap.size ≤ w.heap.size + 1; omega) _)⟩
  · have HR : Aside0 (seekR (([] : List En), 70) x = (zeroE, false, 70)) := ⟨by
      unfold seekR
      rw [if_neg (by decide)]⟩
    go_wp2
    refine bodyPost_ret (results_ctt rfl _ _ (w.heap.size + 1) 59 #[.string ⟨#[]⟩, .int .u64 0, .int .u8 0, .string ⟨#[]⟩] (0, 0) _ rfl (blk_put (cs' := #[.string ⟨#[]⟩, .int .u64 0, .int .u8 0, .string ⟨#[]⟩]) (blk_put (cs' := #[.string ⟨#[]⟩, .int .u64 0, .int .u8 0, .string ⟨#[]⟩]) (blk_put (cs' := #[.string ⟨#[]⟩, .int .u64 0, .int .u8 0, .string ⟨#[]⟩]) (blk_put (cs' := #[.string ⟨#[]⟩, .int .u64 0, .int .u8 0, .string ⟨#[]⟩]) HR3.out 0 _ rfl) 1 _ rfl) 2 _ rfl) 3 _ rfl) hu rfl (by kernel_rfl)) rfl ?_
    exact ⟨by rw [HR.out]; rfl, ((((HD3.out.setCell (p := ⟨w.heap.size + 1, 0, none⟩) (by show w.heap.size ≤ w.heap.size + 1; omega) _).setCell (p := ⟨w.heap.size + 1, 1, none⟩) (by show w.heap.size ≤ w.heap.size + 1; omega) _).setCell (p := ⟨w.heap.size + 1, 2, none⟩) (by show w.heap.size ≤ w.heap.size + 1; omega) _).setCell (p := ⟨w.heap.size + 1, 3, none⟩) (by show w.heap.size ≤ w.heap.size + 1; omega) _)⟩
theorem block_Seek.calls (A0 : Option Addr) (c0 : Nat) (l0 : List Int) (a1_0 : ByteArray) (a1_1 a1_2 : Int) (r1 : ByteArray) (r2 r3 : Int) (r4 : ByteArray) (r5 : Bool) (r6 : Int) (w : World) (hr0 : Kd.C (Kd.int .u8) w A0 l0.length l0) (hc0 : l0.length ≤ c0) (h : block_Seek.f l0 a1_0 a1_1 a1_2 = some (r1, r2, r3, r4, r5, r6)) :
    Calls Try.prog 28 #[.slice A0 l0.length c0, .agg #[.string a1_0, .int .u64 a1_1, .int .u8 a1_2]] w fun e w' => e = .returned (.tuple #[.agg #[.string r1, .int .u64 r2, .int .u8 r3, .string r4], .bool r5, .int .i64 r6]) ∧ Below w.heap.size w w' := by
  unfold block_Seek.f at h
  by_cases hw : By l0 ∧ l0.length ≤ 1000000
  · rw [if_pos hw] at h
    simp only [Option.some.injEq, Prod.mk.injEq] at h
    obtain ⟨rfl, rfl, rfl, rfl, rfl, rfl⟩ := h
    obtain ⟨h1, h2⟩ := parseG_any l0 hw.1 hw.2
    obtain ⟨kp, hp⟩ := Ev.rounds h1
    refine seek_calls A0 c0 l0 ⟨a1_0, a1_1, a1_2⟩ w hr0 hc0 (parseG l0).1 (parseG l0).2 kp hp ?_ ?_ ?_
    · rcases h2 with ⟨_, _, _, h2⟩ | h2
      · exact .inl h2
      · rw [h2]; exact .inr ⟨rfl, rfl⟩
    · rcases h2 with ⟨h2, _⟩ | h2
      · exact (okEs_parts h2).2.2.2
      · rw [h2]; rfl
    · rcases h2 with ⟨h2, _⟩ | h2
      · have := (okEs_parts h2).2.1; omega
      · rw [h2]; simp
  · rw [if_neg hw] at h
    cases h
end Go.Proofs.YtjcjfghcahbbmaaG

end
