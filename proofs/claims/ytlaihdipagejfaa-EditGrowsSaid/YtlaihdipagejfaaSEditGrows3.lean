/- Proved here: what the row of EditGrows needs, part 3. Conditions: those of each theorem. Written for this claim by programs; what the claim does not use is left out. -/
import Derived.Deep.RegionLaw
import Derived.Test.YtlaihdipagejfaaSEditGrows2
section
set_option linter.unusedVariables false
set_option linter.unusedSimpArgs false
namespace Go.Proofs.YtlaihdipagejfaaG
open Go Go.RowKit Go.Proofs.YtlaihdipagejfaaR Go.Proofs.Ytlaihdipagejfaa.P Go.Proofs.YtlaihdipagejfaaW.PrintWords
attribute [local go_sem] Oper.semAt_some run_store_fn

/-- A row of bytes that is read, in these blocks. -/
abbrev Fb (w : World) (ok : Nat → Prop) (A : Option Addr) (l : List Int) : Prop := Kd.F (Kd.int .u8) w ok A l.length l
/-- What was there, or is new. -/
abbrev orNew (ok : Nat → Prop) (w : World) : Nat → Prop := fun k => ok k ∨ w.heap.size ≤ k

theorem F_int {k : IntKind} {w : World} {A : Option Addr} {n : Nat} {xs : List Int} (h : (Kd.int k).C w A n xs) : Kd.F (Kd.int k) w (fun k => k < w.heap.size) A n xs := fun W' hW => ⟨h.1, h.2.1, fun hn => by
  obtain ⟨ad, e, hc⟩ := h.2.2 hn
  refine ⟨ad, e, fun j p hp => ?_⟩
  obtain ⟨c, hs, hk, hcell⟩ := hc j p hp
  refine ⟨c, hs, hk, fun i u hu => ?_⟩
  have h1 := hcell i u hu
  have hlt := World.block_lt_of_cell? w _ h1
  have h2 := hW _ hlt hlt
  rw [← h1]
  unfold World.cell?
  rw [h2]⟩

/-- The reader's block: the bytes that are left, and whether they said something else. -/
def Rd (r : Nat) (ok : Nat → Prop) (w : World) (l : List Int) (bad : Bool) : Prop :=
  ∃ A c, w.heap[r]? = some (.cells #[.slice A l.length c, .bool bad] 97) ∧ l.length ≤ c ∧ Fb w ok A l
section
variable {r : Nat} {ok ok' : Nat → Prop} {w w' w1 : World} {l l1 : List Int} {bad bad1 : Bool}
theorem Rd.lt (h : Rd r ok w l bad) : r < w.heap.size := by obtain ⟨A, c, h1, _⟩ := h; exact blk_lt h1
theorem Rd.mono (h : Rd r ok w l bad) (hok : ∀ k, ok k → ok' k) : Rd r ok' w l bad := by
  obtain ⟨A, c, h1, h2, h3⟩ := h
  exact ⟨A, c, h1, h2, Kd.F_mono h3 hok⟩
theorem Rd.keep (h : Rd r ok w l bad) (hb : Below w.heap.size w w') : Rd r (fun k => ok k ∧ k < w.heap.size) w' l bad := by
  obtain ⟨A, c, h1, h2, h3⟩ := h
  exact ⟨A, c, (hb.block r (blk_lt h1)).trans h1, h2, Kd.F_old h3 hb⟩
theorem Rd.far (h : Rd r ok w l bad) {p : Addr} (hp : p.block ≠ r) (hok : ∀ k, ok k → k ≠ p.block) (u : Value) : Rd r ok (w.setCell p u) l bad := by
  obtain ⟨A, c, h1, h2, h3⟩ := h
  exact ⟨A, c, blk_far h1 (fun e => hp e.symm) u, h2, Kd.F_far h3 hok u⟩
/-- Behind one thing taken. -/
theorem Rd.put {A1 : Option Addr} {c1 : Nat} (h : Rd r ok w l bad) (hok : ∀ k, ok k → k ≠ r) (hb : Below w.heap.size w w1) (hl : l1.length ≤ c1) (hC : Fb w1 (orNew ok w) A1 l1) :
    Stays (· = r) w ((w1.setCell ⟨r, 0, none⟩ (.slice A1 l1.length c1)).setCell ⟨r, 1, none⟩ (.bool bad1)) ∧ Rd r (orNew ok w) ((w1.setCell ⟨r, 0, none⟩ (.slice A1 l1.length c1)).setCell ⟨r, 1, none⟩ (.bool bad1)) l1 bad1 := by
  obtain ⟨A, c, h1, h2, h3⟩ := h
  have hr := blk_lt h1
  have hb1 := (hb.block r hr).trans h1
  have hne : ∀ k, orNew ok w k → k ≠ r := fun k hk => hk.elim (hok k) (fun h => by omega)
  refine ⟨(Stays.of_below hb).trans ((Stays.setCell (C := (· = r)) (p := ⟨r, 0, none⟩) rfl _).trans (Stays.setCell (C := (· = r)) (p := ⟨r, 1, none⟩) rfl _)), A1, c1, ?_, hl, ?_⟩
  · have e1 := blk_set hb1 0 (.slice A1 l1.length c1)
    have e2 := blk_set e1 1 (.bool bad1)
    exact e2
  · exact Kd.F_far (p := ⟨r, 1, none⟩) (Kd.F_far (p := ⟨r, 0, none⟩) hC hne _) hne _
end
theorem new_reads {e : Nat} {w w' : World} {v : Value} {l : List Int} (ok : Nat → Prop) (h : Kd.R (Kd.int .u8) e w' w.heap.size (fun _ => True) v l) : ∃ A c, v = .slice A l.length c ∧ l.length ≤ c ∧ Fb w' (orNew ok w) A l := by
  obtain ⟨A, c, rfl, hl, _⟩ := Kd.R_reads h
  exact ⟨A, c, rfl, hl, Kd.F_mono (Kd.R_F (Kd.R_bound h)) (fun k hk => .inr hk.2.1)⟩


/-- The edit that is made: its box. -/
abbrev eBx (v : Value) (a1 a2 a3 : Int) : Obj := .cells #[v, .int .u64 a1, .int .u64 a2, .int .u64 a3] 54

set_option maxRecDepth 100000 in
set_option maxHeartbeats 1000000 in
theorem num_calls (r : Nat) (l : List Int) (bad : Bool) (ok : Nat → Prop) (hok : ∀ k, ok k → k ≠ r) (w : World) (h : Rd r ok w l bad) (z1 : Int) (z2 : List Int) (z3 : Bool) (hz : nums_Take.f l = some (z1, z2, z3)) :
    Calls Try.prog 93 #[.pointer (some ⟨r, 0, none⟩)] w fun e w' => e = .returned (.int .u64 z1) ∧ Stays (· = r) w w' ∧ Rd r (orNew ok w) w' z2 (bad || !z3) := by
  have HR := Aside0.mk h
  have HOK := Aside0.mk hok
  obtain ⟨A, c, hb, hl, hC⟩ := h
  have hcl := nums_Take.calls A c l z1 z2 z3 w (Kd.F_now hC) hl hz
  have HCL := Aside0.mk hcl
  have hc0 : w.cell? ⟨r, 0, none⟩ = some (.slice A l.length c) := (blk_cell hb 0).trans rfl
  have hc1 : w.cell? ⟨r, 1, none⟩ = some (.bool bad) := (blk_cell hb 1).trans rfl
  have hf0 := blk_frozen hb 0
  have hf1 := blk_frozen hb 1
  have Hb := Aside0.mk hb
  clear hb hl hC hcl hok hz
  have hu := Try.underlying97
  cases bad
  all_goals
    go_enter Try.func93, Try.ntmps93
    go_wp2_with (go_at_call 49; refine HCL.out.mono ?_; rintro e w1 ⟨v, rfl, hv, hB1⟩; obtain ⟨A1, c1, rfl, hl1, hC1⟩ := new_reads ok hv; clear hv; have HC1 := Aside0.mk hC1; have HL1 := Aside0.mk hl1; have HB1 := Aside0.mk hB1; have hb1 := (hB1.block r (blk_lt Hb.out)).trans Hb.out; clear hc0 hc1 hf0 hf1; have hc0 := (blk_cell hb1 0).trans rfl; have hc1 := (blk_cell hb1 1).trans rfl; have hf0 := blk_frozen hb1 0; have hf1 := blk_frozen hb1 1; have Hb1 := Aside0.mk hb1; clear hC1 hl1 hB1 hb1)
    go_ret
    exact ⟨rfl, Rd.put HR.out HOK.out HB1.out HL1.out HC1.out⟩

set_option maxRecDepth 100000 in
set_option maxHeartbeats 1000000 in
theorem text_calls (r : Nat) (l : List Int) (bad : Bool) (ok : Nat → Prop) (hok : ∀ k, ok k → k ≠ r) (w : World) (h : Rd r ok w l bad) (z1 : ByteArray) (z2 : List Int) (z3 : Bool) (hz : nums_TakeText.f l 64 = some (z1, z2, z3)) :
    Calls Try.prog 94 #[.pointer (some ⟨r, 0, none⟩)] w fun e w' => e = .returned (.string z1) ∧ Stays (· = r) w w' ∧ Rd r (orNew ok w) w' z2 (bad || !z3) := by
  have HR := Aside0.mk h
  have HOK := Aside0.mk hok
  obtain ⟨A, c, hb, hl, hC⟩ := h
  have hcl := nums_TakeText.calls A c l 64 z1 z2 z3 w (Kd.F_now hC) hl hz
  have HCL := Aside0.mk hcl
  have hc0 : w.cell? ⟨r, 0, none⟩ = some (.slice A l.length c) := (blk_cell hb 0).trans rfl
  have hc1 : w.cell? ⟨r, 1, none⟩ = some (.bool bad) := (blk_cell hb 1).trans rfl
  have hf0 := blk_frozen hb 0
  have hf1 := blk_frozen hb 1
  have Hb := Aside0.mk hb
  clear hb hl hC hcl hok hz
  have hu := Try.underlying97
  cases bad
  all_goals
    go_enter Try.func94, Try.ntmps94
    go_wp2_with (go_at_call 89; refine HCL.out.mono ?_; rintro e w1 ⟨v, rfl, hv, hB1⟩; obtain ⟨A1, c1, rfl, hl1, hC1⟩ := new_reads ok hv; clear hv; have HC1 := Aside0.mk hC1; have HL1 := Aside0.mk hl1; have HB1 := Aside0.mk hB1; have hb1 := (hB1.block r (blk_lt Hb.out)).trans Hb.out; clear hc0 hc1 hf0 hf1; have hc0 := (blk_cell hb1 0).trans rfl; have hc1 := (blk_cell hb1 1).trans rfl; have hf0 := blk_frozen hb1 0; have hf1 := blk_frozen hb1 1; have Hb1 := Aside0.mk hb1; clear hC1 hl1 hB1 hb1)
    go_ret
    exact ⟨rfl, Rd.put HR.out HOK.out HB1.out HL1.out HC1.out⟩

set_option maxRecDepth 100000 in
set_option maxHeartbeats 1000000 in
theorem take1_calls (m g r : Nat) (v : Value) (a1 a2 a3 : Int) (l : List Int) (bad : Bool) (ok : Nat → Prop) (hok : ∀ k, ok k → k ≠ r ∧ k ≠ g) (hgr : g ≠ r) (hmr : m ≠ r) (w : World) (h : Rd r ok w l bad) (hg : w.heap[g]? = some (eBx v a1 a2 a3)) (hm : w.heap[m]? = some (.cells #[f0 83] tSel)) (z1 : Int) (z2 : List Int) (z3 : Bool) (hz : nums_Take.f l = some (z1, z2, z3)) :
    Calls Try.prog 97 #[.pointer (some ⟨r, 0, none⟩), .pointer (some ⟨g, 0, none⟩), pt m] w fun e w' => (∃ u, e = .returned u) ∧ Stays (fun k => k = r ∨ k = g) w w' ∧ Rd r (orNew ok w) w' z2 (bad || !z3) ∧ w'.heap[g]? = some (eBx v z1 a2 a3) := by
  have hu := Try.underlying54
  have HCL := Aside0.mk (num_calls r l bad ok (fun k hk => (hok k hk).1) w h z1 z2 z3 hz)
  have HG := Aside0.mk hg
  have HOK := Aside0.mk hok
  have HGR := Aside0.mk hgr
  have HGL := Aside0.mk (blk_lt hg)
  have hc0 := box_cell hm
  have hf0 := box_frozen hm
  clear hok h hz hg hm hmr hgr
  go_enter Try.func97, Try.ntmps97
  go_wp2_with (first | (go_at_call 83; refine (sel1_calls _ _).mono ?_; rintro e w' ⟨rfl, rfl⟩) | (go_at_call 93; refine HCL.out.mono ?_; rintro e w1 ⟨rfl, hS1, hR1⟩; have hg1 := (hS1.block g HGL.out HGR.out).trans HG.out; have hx := (blk_cell hg1 1).trans rfl; have hy := blk_frozen hg1 1; have HG1 := Aside0.mk hg1; have HS1 := Aside0.mk hS1; have HR1 := Aside0.mk hR1; clear hg1 hS1 hR1 hc0 hf0))
  go_end0
  refine ⟨⟨_, rfl⟩, ?_, ?_, blk_put HG1.out 1 _ rfl⟩
  · exact (HS1.out.mono (fun k hk => .inl hk)).trans (Stays.setCell (C := fun k => k = r ∨ k = g) (p := ⟨g, 1, none⟩) (.inr rfl) _)
  · exact Rd.far (p := ⟨g, 1, none⟩) HR1.out HGR.out (fun k hk => hk.elim (fun h => (HOK.out k h).2) (fun h => by have := HGL.out; show k ≠ g; omega)) _

set_option maxRecDepth 100000 in
set_option maxHeartbeats 1000000 in
theorem take2_calls (m g r : Nat) (v : Value) (a1 a2 a3 : Int) (l : List Int) (bad : Bool) (ok : Nat → Prop) (hok : ∀ k, ok k → k ≠ r ∧ k ≠ g) (hgr : g ≠ r) (hmr : m ≠ r) (w : World) (h : Rd r ok w l bad) (hg : w.heap[g]? = some (eBx v a1 a2 a3)) (hm : w.heap[m]? = some (.cells #[f0 84] tSel)) (z1 : Int) (z2 : List Int) (z3 : Bool) (hz : nums_Take.f l = some (z1, z2, z3)) :
    Calls Try.prog 97 #[.pointer (some ⟨r, 0, none⟩), .pointer (some ⟨g, 0, none⟩), pt m] w fun e w' => (∃ u, e = .returned u) ∧ Stays (fun k => k = r ∨ k = g) w w' ∧ Rd r (orNew ok w) w' z2 (bad || !z3) ∧ w'.heap[g]? = some (eBx v a1 z1 a3) := by
  have hu := Try.underlying54
  have HCL := Aside0.mk (num_calls r l bad ok (fun k hk => (hok k hk).1) w h z1 z2 z3 hz)
  have HG := Aside0.mk hg
  have HOK := Aside0.mk hok
  have HGR := Aside0.mk hgr
  have HGL := Aside0.mk (blk_lt hg)
  have hc0 := box_cell hm
  have hf0 := box_frozen hm
  clear hok h hz hg hm hmr hgr
  go_enter Try.func97, Try.ntmps97
  go_wp2_with (first | (go_at_call 84; refine (sel2_calls _ _).mono ?_; rintro e w' ⟨rfl, rfl⟩) | (go_at_call 93; refine HCL.out.mono ?_; rintro e w1 ⟨rfl, hS1, hR1⟩; have hg1 := (hS1.block g HGL.out HGR.out).trans HG.out; have hx := (blk_cell hg1 2).trans rfl; have hy := blk_frozen hg1 2; have HG1 := Aside0.mk hg1; have HS1 := Aside0.mk hS1; have HR1 := Aside0.mk hR1; clear hg1 hS1 hR1 hc0 hf0))
  go_end0
  refine ⟨⟨_, rfl⟩, ?_, ?_, blk_put HG1.out 2 _ rfl⟩
  · exact (HS1.out.mono (fun k hk => .inl hk)).trans (Stays.setCell (C := fun k => k = r ∨ k = g) (p := ⟨g, 2, none⟩) (.inr rfl) _)
  · exact Rd.far (p := ⟨g, 2, none⟩) HR1.out HGR.out (fun k hk => hk.elim (fun h => (HOK.out k h).2) (fun h => by have := HGL.out; show k ≠ g; omega)) _

set_option maxRecDepth 100000 in
set_option maxHeartbeats 1000000 in
theorem take3_calls (m g r : Nat) (v : Value) (a1 a2 a3 : Int) (l : List Int) (bad : Bool) (ok : Nat → Prop) (hok : ∀ k, ok k → k ≠ r ∧ k ≠ g) (hgr : g ≠ r) (hmr : m ≠ r) (w : World) (h : Rd r ok w l bad) (hg : w.heap[g]? = some (eBx v a1 a2 a3)) (hm : w.heap[m]? = some (.cells #[f0 85] tSel)) (z1 : Int) (z2 : List Int) (z3 : Bool) (hz : nums_Take.f l = some (z1, z2, z3)) :
    Calls Try.prog 97 #[.pointer (some ⟨r, 0, none⟩), .pointer (some ⟨g, 0, none⟩), pt m] w fun e w' => (∃ u, e = .returned u) ∧ Stays (fun k => k = r ∨ k = g) w w' ∧ Rd r (orNew ok w) w' z2 (bad || !z3) ∧ w'.heap[g]? = some (eBx v a1 a2 z1) := by
  have hu := Try.underlying54
  have HCL := Aside0.mk (num_calls r l bad ok (fun k hk => (hok k hk).1) w h z1 z2 z3 hz)
  have HG := Aside0.mk hg
  have HOK := Aside0.mk hok
  have HGR := Aside0.mk hgr
  have HGL := Aside0.mk (blk_lt hg)
  have hc0 := box_cell hm
  have hf0 := box_frozen hm
  clear hok h hz hg hm hmr hgr
  go_enter Try.func97, Try.ntmps97
  go_wp2_with (first | (go_at_call 85; refine (sel3_calls _ _).mono ?_; rintro e w' ⟨rfl, rfl⟩) | (go_at_call 93; refine HCL.out.mono ?_; rintro e w1 ⟨rfl, hS1, hR1⟩; have hg1 := (hS1.block g HGL.out HGR.out).trans HG.out; have hx := (blk_cell hg1 3).trans rfl; have hy := blk_frozen hg1 3; have HG1 := Aside0.mk hg1; have HS1 := Aside0.mk hS1; have HR1 := Aside0.mk hR1; clear hg1 hS1 hR1 hc0 hf0))
  go_end0
  refine ⟨⟨_, rfl⟩, ?_, ?_, blk_put HG1.out 3 _ rfl⟩
  · exact (HS1.out.mono (fun k hk => .inl hk)).trans (Stays.setCell (C := fun k => k = r ∨ k = g) (p := ⟨g, 3, none⟩) (.inr rfl) _)
  · exact Rd.far (p := ⟨g, 3, none⟩) HR1.out HGR.out (fun k hk => hk.elim (fun h => (HOK.out k h).2) (fun h => by have := HGL.out; show k ≠ g; omega)) _

def metaF (b : List Int) (bad : Bool) : Option (MetaS × List Int × Bool) :=
  (nums_Take.f b).bind fun t => (nums_Take.f t.2.1).bind fun u => (nums_TakeText.f u.2.1 64).bind fun v => (nums_TakeText.f v.2.1 64).bind fun x => some (⟨t.1, u.1, v.1, x.1⟩, x.2.1, ((((bad || !t.2.2) || !u.2.2) || !v.2.2) || !x.2.2))
def addL : Nat → Int → List MetaS → List Int → Bool → Option (List MetaS × List Int × Bool)
  | 0, _, out, b, bad => some (out, b, bad)
  | m + 1, n, out, b, bad => if 0 < n then (if bad = true then some (out, b, bad) else (metaF b bad).bind fun t => addL m (IntKind.u64.wrap (n - 1)) (out ++ [t.1]) t.2.1 t.2.2) else some (out, b, bad)
def addT (b : List Int) (bad : Bool) : Option (List MetaS × List Int × Bool) := (nums_Take.f b).bind fun t => addL 65 t.1 [] t.2.1 (bad || !t.2.2)

/-- A round's state: the reader, the row of notes, the note that is made, the edit's box. -/
structure Acc (base r g gm : Nat) (ok : Nat → Prop) (v : Value) (out : List MetaS) (mc : Array Value) (a1 a2 a3 : Int) (b : List Int) (bad : Bool) (W : World) : Prop where
  rd : Rd r (fun k => (ok k ∨ base ≤ k) ∧ k ≠ gm ∧ some k ≠ v.ownBlock) W b bad
  row : Kd.R k62 62 W base (fun k => k ≠ r ∧ k ≠ g ∧ k ≠ gm) v out
  mb : W.heap[gm]? = some (.cells mc 62)
  bx : W.heap[g]? = some (eBx v a1 a2 a3)
  hok : ∀ k, ok k → k ≠ r ∧ k ≠ g
  lt : r < base ∧ g < base ∧ base ≤ gm ∧ g ≠ r
section
variable {base r g gm : Nat} {ok : Nat → Prop} {v : Value} {out : List MetaS} {mc mc' : Array Value} {a1 a2 a3 : Int} {b b' : List Int} {bad bad' : Bool} {W W' : World}
theorem Acc.ne (h : Acc base r g gm ok v out mc a1 a2 a3 b bad W) : ∀ k, ((ok k ∨ base ≤ k) ∧ k ≠ gm ∧ some k ≠ v.ownBlock) → k ≠ r := fun k hk => hk.1.elim (fun h1 => (h.hok k h1).1) (fun h1 => by have := h.lt.1; omega)
theorem Acc.after (h : Acc base r g gm ok v out mc a1 a2 a3 b bad W) (hS : Stays (· = r) W W') (hR : Rd r (orNew (fun k => (ok k ∨ base ≤ k) ∧ k ≠ gm ∧ some k ≠ v.ownBlock) W) W' b' bad') : Acc base r g gm ok v out mc a1 a2 a3 b' bad' W' := by
  have hgm := blk_lt h.mb
  have hv := Kd.R_lt h.row
  refine ⟨hR.mono (fun k hk => hk.elim (fun h => h) (fun h1 => ⟨.inr (by have := h.lt.2.2.1; omega), by omega, fun e => by have := hv k e.symm; omega⟩)), Kd.R_step h.row (fun k hk hlt => hS.block k hlt hk.1), (hS.block gm hgm (by have := h.lt; omega)).trans h.mb, (hS.block g (blk_lt h.bx) h.lt.2.2.2).trans h.bx, h.hok, h.lt⟩
theorem Acc.set (h : Acc base r g gm ok v out mc a1 a2 a3 b bad W) (j : Nat) (u : Value) (e : mc.setIfInBounds j u = mc') : Acc base r g gm ok v out mc' a1 a2 a3 b bad (W.setCell ⟨gm, j, none⟩ u) :=
  ⟨h.rd.far (p := ⟨gm, j, none⟩) (by show gm ≠ r; have := h.lt; omega) (fun k hk => hk.2.1) u, Kd.R_far (p := ⟨gm, j, none⟩) h.row (fun k hk => hk.2.2) u, blk_put h.mb j u e, blk_far (p := ⟨gm, j, none⟩) h.bx (by show g ≠ gm; have := h.lt; omega) u, h.hok, h.lt⟩
theorem Acc.drew (h : Acc base r g gm ok v out mc a1 a2 a3 b bad W) : Acc base r g gm ok v out mc a1 a2 a3 b bad W.drew :=
  ⟨by obtain ⟨A, c, h1, h2, h3⟩ := h.rd; exact ⟨A, c, h1, h2, Kd.F_below h3 (below_drew1 (Below.refl _ _))⟩, Kd.R_drew h.row, h.mb, h.bx, h.hok, h.lt⟩
end
theorem Rd.after {r : Nat} {ok : Nat → Prop} {W W1 : World} {l : List Int} {bad : Bool} {v v1 : Value} (h : Rd r (fun k => ok k ∧ some k ≠ v.ownBlock) W l bad) (hg : W.grownBy W1 v.ownBlock) (hr : some r ≠ v.ownBlock) (hat : v1.ownBlock = v.ownBlock ∨ ∃ b, v1.ownBlock = some b ∧ W.heap.size ≤ b) : Rd r (fun k => ok k ∧ some k ≠ v1.ownBlock) W1 l bad := by
  obtain ⟨A, c, h1, h2, h3⟩ := h
  exact ⟨A, c, blk_grown h1 hg hr, h2, Kd.F_after h3 hg hat⟩
/-- What a loop's round begins with. -/
structure Beg (base r g : Nat) (ok : Nat → Prop) (v : Value) (out : List MetaS) (a1 a2 a3 : Int) (b : List Int) (bad : Bool) (W : World) : Prop where
  rd : Rd r (fun k => (ok k ∨ base ≤ k) ∧ some k ≠ v.ownBlock) W b bad
  row : Kd.R k62 62 W base (fun _ => True) v out
  bx : W.heap[g]? = some (eBx v a1 a2 a3)
  hok : ∀ k, ok k → k ≠ r ∧ k ≠ g
  lt : r < base ∧ g < base ∧ base ≤ W.heap.size ∧ g ≠ r
section
variable {base r g : Nat} {ok : Nat → Prop} {v : Value} {out : List MetaS} {a1 a2 a3 : Int} {b b' : List Int} {bad bad' : Bool} {W W' : World}
theorem Beg.ne (h : Beg base r g ok v out a1 a2 a3 b bad W) : ∀ k, ((ok k ∨ base ≤ k) ∧ some k ≠ v.ownBlock) → k ≠ r := fun k hk => hk.1.elim (fun h1 => (h.hok k h1).1) (fun h1 => by have := h.lt.1; omega)
theorem Beg.start (h : Beg base r g ok v out a1 a2 a3 b bad W) (hS : Stays (· = r) W W') (hR : Rd r (orNew (fun k => (ok k ∨ base ≤ k) ∧ some k ≠ v.ownBlock) W) W' b' bad') (mc : Array Value) : Acc base r g W'.heap.size ok v out mc a1 a2 a3 b' bad' (W'.alloc (.cells mc 62)) := by
  have hv := Kd.R_lt h.row
  have hB : Below W'.heap.size W' (W'.alloc (.cells mc 62)) := below_alloc (Below.refl _ _) _
  have hsz := hS.size
  have hlt := h.lt
  have h1 := Kd.R_step (w1 := W') (Kd.R_mono (ok' := fun k => k ≠ r ∧ k ≠ g) (Kd.R_bound h.row) (fun k hk => ⟨by have := hk.2.1; omega, by have := hk.2.1; omega⟩)) (fun k hk hl => hS.block k hl hk.1)
  refine ⟨(hR.keep hB).mono (fun k hk => ?_), Kd.R_mono (Kd.R_alloc (Kd.R_bound h1) _) (fun k hk => ⟨hk.1.1, hk.1.2, by have := hk.2.2.1; omega⟩), World.alloc_heap_new W' _, (hB.block g (by have := blk_lt h.bx; omega)).trans ((hS.block g (blk_lt h.bx) hlt.2.2.2).trans h.bx), h.hok, ⟨hlt.1, hlt.2.1, by omega, hlt.2.2.2⟩⟩
  rcases hk.1 with h2 | h2
  · exact ⟨h2.1, by have := hk.2; omega, h2.2⟩
  · exact ⟨.inr (by omega), by have := hk.2; omega, fun e => by have := hv k e.symm; omega⟩
end
theorem stays_at {C : Nat → Prop} {w W : World} {gm : Nat} (h : Stays C w W) (hg : w.heap.size ≤ gm) (j : Nat) (u : Value) : Stays C w (W.setCell ⟨gm, j, none⟩ u) :=
  h.trans' (Stays.setCell (C := (· = gm)) (p := ⟨gm, j, none⟩) rfl u) (fun i hi e => by omega)
def bxLen (g : Nat) (w : World) : Nat := match w.cell? ⟨g, 0, none⟩ with | some (.slice _ n _) => n | _ => 0
theorem bxLen_eq {g : Nat} {w : World} {A : Option Addr} {n c : Nat} {a1 a2 a3 : Int} (h : w.heap[g]? = some (eBx (.slice A n c) a1 a2 a3)) : bxLen g w = n := by
  have h1 : w.cell? ⟨g, 0, none⟩ = some (.slice A n c) := (blk_cell h 0).trans rfl
  unfold bxLen
  rw [h1]

set_option maxRecDepth 100000 in
set_option maxHeartbeats 8000000 in
theorem takeA_calls (g r : Nat) (a1 a2 a3 : Int) (l : List Int) (bad : Bool) (ok : Nat → Prop) (hok : ∀ k, ok k → k ≠ r ∧ k ≠ g) (hgr : g ≠ r) (w : World) (h : Rd r ok w l bad) (hg : w.heap[g]? = some (eBx (.slice none 0 0) a1 a2 a3)) (z1 : List MetaS) (z2 : List Int) (z3 : Bool) (hz : addT l bad = some (z1, z2, z3)) :
    Calls Try.prog 92 #[.pointer (some ⟨r, 0, none⟩), .pointer (some ⟨g, 0, none⟩)] w fun e w' => ∃ v, (∃ u, e = .returned u) ∧ Stays (fun k => k = r ∨ k = g) w w' ∧ Beg w.heap.size r g ok v z1 a1 a2 a3 z2 z3 w' := by
  unfold addT at hz
  obtain ⟨⟨t1, t2, t3⟩, ht, hz⟩ := Option.bind_eq_some_iff.1 hz
  have HCL := Aside0.mk (num_calls r l bad ok (fun k hk => (hok k hk).1) w h t1 t2 t3 ht)
  have HZ := Aside0.mk hz
  have HG := Aside0.mk hg
  have HOK := Aside0.mk hok
  have HGR := Aside0.mk hgr
  have HRL := Aside0.mk h.lt
  have hu := Try.underlying54
  have hum := Try.underlying62
  have hur := Try.underlying97
  clear hz hg hok hgr h ht
  go_enter Try.func92, Try.ntmps92
  go_wp2_with (go_at_call 93; refine HCL.out.mono ?_; rintro e w1 ⟨rfl, hS1, hR1⟩; have HS1 := Aside0.mk hS1; have HR1 := Aside0.mk hR1; clear hS1 hR1)
  have hbeg : Beg w.heap.size r g ok (.slice none 0 0) [] a1 a2 a3 t2 (bad || !t3) w1 := ⟨HR1.out.mono (fun k hk => ⟨hk, by simp [Value.ownBlock]⟩), Kd.R_nil _ _ _ _ _, (HS1.out.block g (blk_lt HG.out) HGR.out).trans HG.out, HOK.out, ⟨HRL.out, blk_lt HG.out, HS1.out.size, HGR.out⟩⟩
  have HBEG := Aside0.mk hbeg
  have HSW := Aside0.mk (HS1.out.mono (C' := fun k => k = r ∨ k = g) (fun k hk => .inl hk))
  clear hbeg HCL HR1 HS1
  go_loopw [4] (fun v4 wr => ∃ (n : Int) (out : List MetaS) (b : List Int) (bd : Bool) (A : Option Addr) (c : Nat), v4 = .int .u64 n ∧ Aside0 (out.length ≤ 65 ∧ addL (65 - out.length) n out b bd = some (z1, z2, z3)) ∧ Aside0 (Beg w.heap.size r g ok (.slice A out.length c) out a1 a2 a3 b bd wr) ∧ Aside0 (Stays (fun k => k = r ∨ k = g) w wr)) (fun _ wr => 66 - bxLen g wr)
  case atStart => exact ⟨t1, [], t2, _, none, 0, rfl, ⟨by simp, HZ.out⟩, HBEG, HSW⟩
  case round =>
    obtain ⟨n, out, b, bd, A, c, rfl, HP, HBG, HST⟩ := hrel
    clear HBEG HSW HZ
    obtain ⟨A5, c5, hb5, hl5, hF5⟩ := HBG.out.rd
    have hc1 : wr.cell? ⟨r, 1, none⟩ = some (.bool bd) := (blk_cell hb5 1).trans rfl
    have hx0 : wr.cell? ⟨g, 0, none⟩ = some (.slice A out.length c) := (blk_cell HBG.out.bx 0).trans rfl
    clear hb5 hl5 hF5
    by_cases hn : 0 < n
    · have hn1 : decide (0 < n) = true := decide_eq_true hn
      cases bd with
      | true =>
        have h1 := HP.out.2
        have h2 : some (out, b, true) = some (z1, z2, z3) := by
          rw [← h1]
          generalize 65 - out.length = m
          cases m with
          | zero => rfl
          | succ m => rw [addL, if_pos hn, if_pos rfl]
        simp only [Option.some.injEq, Prod.mk.injEq] at h2
        obtain ⟨rfl, rfl, rfl⟩ := h2
        clear h1 hn
        go_wp2
        go_end0
        exact ⟨_, ⟨_, rfl⟩, HST.out, HBG.out⟩
      | false =>
        by_cases hl : out.length ≤ 64
        · have hl1 : decide ((out.length : Int) ≤ 64) = true := decide_eq_true (by omega)
          have hl2 : decide (out.length ≤ 64) = true := decide_eq_true hl
          have h1 := HP.out.2
          rw [show 65 - out.length = (64 - out.length) + 1 from by omega, addL, if_pos hn, if_neg (by decide)] at h1
          obtain ⟨⟨o, b1, bd1⟩, ho, h1⟩ := Option.bind_eq_some_iff.1 h1
          unfold metaF at ho
          obtain ⟨⟨s1, s2, s3⟩, hs, ho⟩ := Option.bind_eq_some_iff.1 ho
          obtain ⟨⟨p1, p2, p3⟩, hp, ho⟩ := Option.bind_eq_some_iff.1 ho
          obtain ⟨⟨q1, q2, q3⟩, hq, ho⟩ := Option.bind_eq_some_iff.1 ho
          obtain ⟨⟨x1, x2, x3⟩, hx, ho⟩ := Option.bind_eq_some_iff.1 ho
          simp only [Option.some.injEq, Prod.mk.injEq] at ho
          obtain ⟨rfl, rfl, rfl⟩ := ho
          have H1 := Aside0.mk h1
          have HS := Aside0.mk hs
          have HPP := Aside0.mk hp
          have HQ := Aside0.mk hq
          have HX := Aside0.mk hx
          have HL := Aside0.mk hl
          clear h1 hs hp hq hx hn HP hl
          go_wp2_with (first
            | (go_at_call 93; (with_reducible refine (num_calls r b false _ HBG.out.ne wr HBG.out.rd s1 s2 s3 HS.out).mono ?_); rintro e w2 ⟨rfl, hS2, hR2⟩; have HA2 := Aside0.mk (HBG.out.start hS2 hR2 #[.int .u64 s1, .int .u64 0, .string ⟨#[]⟩, .string ⟨#[]⟩]); have HSS2 := Aside0.mk (HST.out.trans ((hS2.mono (C' := fun k => k = r ∨ k = g) (fun k hk => .inl hk)).trans (Stays.alloc _ _ (.cells #[.int .u64 s1, .int .u64 0, .string ⟨#[]⟩, .string ⟨#[]⟩] 62)))); clear hS2 hR2 hc1 hx0)
            | (go_at_call 93; (with_reducible refine (num_calls r s2 (false || !s3) _ HA2.out.ne _ HA2.out.rd p1 p2 p3 HPP.out).mono ?_); rintro e w3 ⟨rfl, hS3, hR3⟩; have hA3 := HA2.out.after hS3 hR3; have hx1 : w3.cell? ⟨w2.heap.size, 1, none⟩ = some (.int .u64 0) := (blk_cell hA3.mb 1).trans rfl; have hf1 := blk_frozen hA3.mb 1; have HA3 := Aside0.mk (hA3.set (mc' := #[.int .u64 s1, .int .u64 p1, .string ⟨#[]⟩, .string ⟨#[]⟩]) 1 (.int .u64 p1) rfl); have HSS3 := Aside0.mk (HSS2.out.trans (hS3.mono (C' := fun k => k = r ∨ k = g) (fun k hk => .inl hk))); clear hS3 hR3 hA3)
            | (go_at_call 94; (with_reducible refine (text_calls r p2 ((false || !s3) || !p3) _ HA3.out.ne _ HA3.out.rd q1 q2 q3 HQ.out).mono ?_); rintro e w4 ⟨rfl, hS4, hR4⟩; have hA4 := HA3.out.after hS4 hR4; clear hx1 hf1; have hx2 : w4.cell? ⟨w2.heap.size, 2, none⟩ = some (.string ⟨#[]⟩) := (blk_cell hA4.mb 2).trans rfl; have hf2 := blk_frozen hA4.mb 2; have HA4 := Aside0.mk (hA4.set (mc' := #[.int .u64 s1, .int .u64 p1, .string q1, .string ⟨#[]⟩]) 2 (.string q1) rfl); have HSS4 := Aside0.mk ((stays_at HSS3.out HA2.out.lt.2.2.1 1 (.int .u64 p1)).trans (hS4.mono (C' := fun k => k = r ∨ k = g) (fun k hk => .inl hk))); clear hS4 hR4 hA4)
            | (go_at_call 94; (with_reducible refine (text_calls r q2 (((false || !s3) || !p3) || !q3) _ HA4.out.ne _ HA4.out.rd x1 x2 x3 HX.out).mono ?_); rintro e w5 ⟨rfl, hS5, hR5⟩; have hA5 := HA4.out.after hS5 hR5; clear hx2 hf2; have hx3 : w5.cell? ⟨w2.heap.size, 3, none⟩ = some (.string ⟨#[]⟩) := (blk_cell hA5.mb 3).trans rfl; have hf3 := blk_frozen hA5.mb 3; have HA5 := Aside0.mk (hA5.set (mc' := #[.int .u64 s1, .int .u64 p1, .string q1, .string x1]) 3 (.string x1) rfl); have HSS5 := Aside0.mk ((stays_at HSS4.out HA2.out.lt.2.2.1 2 (.string q1)).trans (hS5.mono (C' := fun k => k = r ∨ k = g) (fun k hk => .inl hk))); clear hS5 hR5 hA5))
          have hA6 := HA5.out
          obtain ⟨W6, hW6⟩ : ∃ W, W = w5.setCell ⟨w2.heap.size, 3, none⟩ (.string x1) := ⟨_, rfl⟩
          have hS6 : Stays (fun k => k = r ∨ k = g) w W6 := by rw [hW6]; exact stays_at HSS5.out HA2.out.lt.2.2.1 3 _
          rw [← hW6] at hA6
          rw [show w5.setCell ⟨w2.heap.size, 3, none⟩ (.string x1) = W6 from hW6.symm]
          have hm0 : W6.cell? ⟨w2.heap.size, 0, none⟩ = some (.int .u64 s1) := (blk_cell hA6.mb 0).trans rfl
          have hm1 : W6.cell? ⟨w2.heap.size, 1, none⟩ = some (.int .u64 p1) := (blk_cell hA6.mb 1).trans rfl
          have hm2 : W6.cell? ⟨w2.heap.size, 2, none⟩ = some (.string q1) := (blk_cell hA6.mb 2).trans rfl
          have hm3 : W6.cell? ⟨w2.heap.size, 3, none⟩ = some (.string x1) := (blk_cell hA6.mb 3).trans rfl
          have hb6 : W6.cell? ⟨g, 0, none⟩ = some (.slice A out.length c) := (blk_cell hA6.bx 0).trans rfl
          have hb6' := pw_cell_below (below_alloc (Below.refl _ _) (.cells #[.int .u64 s1, .int .u64 p1, .string q1, .string x1] 62)) hb6
          have hrow : Kd.R k62 62 W6 w.heap.size (fun k => k ≠ r ∧ k ≠ g) (.slice A out.length c) out := Kd.R_mono hA6.row (fun k hk => ⟨hk.1, hk.2.1⟩)
          have hrd : Rd r (fun k => (ok k ∨ w.heap.size ≤ k) ∧ some k ≠ (Value.slice A out.length c).ownBlock) W6.drew x2 ((((false || !s3) || !p3) || !q3) || !x3) := hA6.drew.rd.mono (fun k hk => ⟨hk.1, hk.2.2⟩)
          have HROW := Aside0.mk hrow
          have HRD := Aside0.mk hrd
          have HA6 := Aside0.mk hA6
          have HS6 := Aside0.mk hS6
          have HLT6 : Aside0 (r < W6.heap.size ∧ g < W6.heap.size ∧ w.heap.size ≤ W6.heap.size) := ⟨hA6.rd.lt, blk_lt hA6.bx, hS6.size⟩
          clear hA6 hW6 hS6 hrow hrd hx3 hf3 HA5 HA4 HA3 HSS5 HSS4 HSS3
          go_region_law ((try rw [show (W6.alloc (.cells #[.int .u64 s1, .int .u64 p1, .string q1, .string x1] 62)).drew = W6.drew.alloc (.cells #[.int .u64 s1, .int .u64 p1, .string q1, .string x1] 62) from rfl]); refine Kd.R_append_step k62 (w0 := W6) w.heap.size ?hw (.tmp 43) (.tmp 45) 52 62 (.agg #[.int .u64 0, .int .u64 0, .string ⟨#[]⟩, .string ⟨#[]⟩]) 48 ?ho Try.underlying52 info62 rfl (by decide) (by decide) (.slice A out.length c) out (⟨s1, p1, q1, x1⟩ : MetaS) [.int .u64 s1, .int .u64 p1, .string q1, .string x1] (fun k => k ≠ r ∧ k ≠ g) (fun _ => False) ?hs ?hx (k62_mkM _ _ _ (⟨s1, p1, q1, x1⟩ : MetaS)) (fun _ hk => hk.elim) (fun k hk => ⟨by have h9 := HLT6.out.1; have h8 : W6.heap.size ≤ k := hk; omega, by have h9 := HLT6.out.2.1; have h8 : W6.heap.size ≤ k := hk; omega⟩) ?rO ?rB ?rS (by have := HL.out; omega) ?_; (case hw => rfl); (case ho => rfl); (case hs => rfl); (case hx => rfl); (case rO => exact Kd.R_drew HROW.out); (case rB => exact below_drew1 (Below.refl _ _)); (case rS => exact HLT6.out.2.2); intro v7 w7 ho7 hb7 hg7 hat7; obtain ⟨A7, c7, e7⟩ := Kd.R_slice ho7; generalize hN : (out ++ [(⟨s1, p1, q1, x1⟩ : MetaS)]).length = n7 at e7; subst e7; have HO7 := Aside0.mk ho7; have HN := Aside0.mk hN; have HRD7 := Aside0.mk (Rd.after HRD.out hg7 (fun e => (HROW.out.1 _ e.symm).1 rfl) hat7); have hbx7 := blk_grown (HA6.out.drew).bx hg7 (fun e => (HROW.out.1 _ e.symm).2 rfl); have HBX7 := Aside0.mk hbx7; have hb77 : w7.cell? ⟨g, 0, none⟩ = some (.slice A out.length c) := (blk_cell hbx7 0).trans rfl; have hfb7 := blk_frozen hbx7 0; have HS7 := Aside0.mk (HS6.out.trans' ((Stays.drew (fun k => (Value.slice A out.length c).ownBlock = some k) W6).trans (Stays.of_grownBy hg7 (fun k e => e))) (fun i hi e => by have := Kd.R_base HROW.out i e; omega)); clear ho7 hb7 hg7 hat7 hN hbx7)
          all_goals
            go_wp2
            have hN := HN.out
            subst hN
            have hst : Stays (fun k => k = r ∨ k = g) w (w7.setCell ⟨g, 0, none⟩ (.slice A7 (out ++ [(⟨s1, p1, q1, x1⟩ : MetaS)]).length c7)) := HS7.out.trans (Stays.setCell (C := fun k => k = r ∨ k = g) (p := ⟨g, 0, none⟩) (.inr rfl) _)
            have hbg : Beg w.heap.size r g ok (.slice A7 (out ++ [(⟨s1, p1, q1, x1⟩ : MetaS)]).length c7) (out ++ [(⟨s1, p1, q1, x1⟩ : MetaS)]) a1 a2 a3 x2 ((((false || !s3) || !p3) || !q3) || !x3) (w7.setCell ⟨g, 0, none⟩ (.slice A7 (out ++ [(⟨s1, p1, q1, x1⟩ : MetaS)]).length c7)) :=
              ⟨Rd.far (p := ⟨g, 0, none⟩) HRD7.out HGR.out (fun k hk => hk.1.elim (fun h => (HOK.out k h).2) (fun h => by have := blk_lt HG.out; show k ≠ g; omega)) _, Kd.R_mono (Kd.R_far (p := ⟨g, 0, none⟩) HO7.out (fun k hk => hk.2) _) (fun _ _ => trivial), blk_put HBX7.out 0 _ rfl, HOK.out, ⟨HRL.out, blk_lt HG.out, hst.size, HGR.out⟩⟩
            refine ⟨⟨_, out ++ [(⟨s1, p1, q1, x1⟩ : MetaS)], x2, _, A7, c7, rfl, ⟨by rw [List.length_append]; have := HL.out; simp; omega, ?_⟩, ⟨hbg⟩, ⟨hst⟩⟩, ?_⟩
            · rw [List.length_append, show 65 - (out.length + [(⟨s1, p1, q1, x1⟩ : MetaS)].length) = 64 - out.length from by simp]
              exact H1.out
            · rw [bxLen_eq hbg.bx, bxLen_eq HBG.out.bx, List.length_append]
              have := HL.out
              simp
              omega
        · have hl1 : decide ((out.length : Int) ≤ 64) = false := decide_eq_false (by omega)
          have hl2 : decide (out.length ≤ 64) = false := decide_eq_false hl
          have h1 := HP.out.2
          have hlen := HP.out.1
          rw [show 65 - out.length = 0 from by omega, addL] at h1
          simp only [Option.some.injEq, Prod.mk.injEq] at h1
          obtain ⟨rfl, rfl, rfl⟩ := h1
          clear hlen hl hn
          go_wp2
          go_end0
          exact ⟨_, ⟨_, rfl⟩, HST.out, HBG.out⟩
    · have hn1 : decide (0 < n) = false := decide_eq_false hn
      have h1 := HP.out.2
      have h2 : some (out, b, bd) = some (z1, z2, z3) := by
        rw [← h1]
        generalize 65 - out.length = m
        cases m with
        | zero => rfl
        | succ m => rw [addL, if_neg hn]
      simp only [Option.some.injEq, Prod.mk.injEq] at h2
      obtain ⟨rfl, rfl, rfl⟩ := h2
      clear h1 hn
      go_wp2
      go_end0
      exact ⟨_, ⟨_, rfl⟩, HST.out, HBG.out⟩
end Go.Proofs.YtlaihdipagejfaaG

end

section
set_option linter.unusedVariables false
set_option linter.unusedSimpArgs false
namespace Go.Proofs.YtlaihdipagejfaaG
open Go Go.RowKit Go.Proofs.YtlaihdipagejfaaR Go.Proofs.Ytlaihdipagejfaa.P Go.Proofs.YtlaihdipagejfaaW.PrintWords
attribute [local go_sem] Oper.semAt_some

theorem vint_len9 {x : Nat} (hx : x ≤ 64) : (vint x).length = 1 := by
  rw [vint, dif_neg (by omega)]
  rfl
def FitM (m : MetaS) : Prop := WfM m ∧ m.f2.size ≤ 64 ∧ m.f3.size ≤ 64
theorem bytesOf_len (s : ByteArray) : (bytesOf s).length = s.size := by
  unfold bytesOf
  rw [List.length_map]
  rfl
theorem noteF_len {m : MetaS} (h : FitM m) : (noteF m).length ≤ 150 := by
  obtain ⟨⟨h1, h2⟩, h3, h4⟩ := h
  have a := vint_len10 (x := m.f0.toNat) (by have := h1.1; have := h1.2; omega)
  have b := vint_len10 (x := m.f1.toNat) (by have := h2.1; have := h2.2; omega)
  have c := vint_len9 h3
  have d := vint_len9 h4
  unfold noteF
  simp only [List.length_append, bytesOf_len, c, d]
  omega
theorem notesF_len : ∀ (l : List MetaS), (∀ m ∈ l, FitM m) → (notesF l).length ≤ 150 * l.length
  | [], _ => by simp [notesF]
  | m :: r, h => by
    have h1 := noteF_len (h m (List.mem_cons_self ..))
    have h2 := notesF_len r (fun x hx => h x (List.mem_cons_of_mem _ hx))
    rw [notesF, List.length_append, List.length_cons]
    omega
theorem notesF_append : ∀ (a b : List MetaS), notesF (a ++ b) = notesF a ++ notesF b
  | [], b => rfl
  | m :: r, b => by rw [List.cons_append, notesF, notesF, notesF_append r b, List.append_assoc]
theorem put_f {b : List Int} {x : Int} (h : U64 x) (hb : b.length ≤ 2000000) : nums_Put.f b x = some (b ++ vint x.toNat) := by
  unfold nums_Put.f
  rw [if_pos ⟨h.1, h.2, by omega⟩]
theorem putText_f {b : List Int} {s : ByteArray} (h : s.size ≤ 64) (hb : b.length ≤ 2000000) : nums_PutText.f b s = some (b ++ (vint s.size ++ bytesOf s)) := by
  unfold nums_PutText.f
  have e : IntKind.u64.wrap ((s.size : Nat) : Int) = (s.size : Int) := by show ((s.size : Int) % 18446744073709551616) = _; omega
  rw [e, put_f ⟨by omega, by omega⟩ hb, Option.bind_some, if_pos, Int.toNat_natCast, List.append_assoc]
  have := vint_len9 h
  rw [Int.toNat_natCast, List.length_append, this]
  omega

abbrev mCells (m : MetaS) : Obj := .cells #[.int .u64 m.f0, .int .u64 m.f1, .string m.f2, .string m.f3] 62

set_option maxRecDepth 100000 in
set_option maxHeartbeats 4000000 in
theorem putA_calls (A : Option Addr) (c : Nat) (l : List MetaS) (a1 a2 a3 : Int) (B : Option Addr) (cb : Nat) (b : List Int) (w : World) (hr : Kd.C k62 w A l.length l) (hc : l.length ≤ c) (hb : Kd.C (Kd.int .u8) w B b.length b) (hcb : b.length ≤ cb) (hbl : b.length ≤ 1000000) (hl : l.length ≤ 64) (hf : ∀ m ∈ l, FitM m) :
    Calls Try.prog 91 #[.slice B b.length cb, aggE A l.length c a1 a2 a3] w fun e w' => ∃ v, e = .returned v ∧ Kd.R (Kd.int .u8) 5 w' w.heap.size (fun _ => True) v (b ++ (vint l.length ++ notesF l)) ∧ Below w.heap.size w w' := by
  have HR := Aside0.mk hr
  have HF := Aside0.mk hf
  have HL := Aside0.mk hl
  have HBL := Aside0.mk hbl
  have hu := Try.underlying54
  have hum := Try.underlying62
  have hb0 := World.alloc_heap_new w (.cells #[.slice A l.length c, .int .u64 a1, .int .u64 a2, .int .u64 a3] 54)
  have HB : Below w.heap.size w (w.alloc (.cells #[.slice A l.length c, .int .u64 a1, .int .u64 a2, .int .u64 a3] 54)) := below_alloc (Below.refl _ _) _
  have hcl := nums_Put.calls B cb b (l.length : Int) _ _ (Kd.C_below hb HB) hcb (put_f (x := (l.length : Int)) ⟨by omega, by omega⟩ (by omega))
  rw [Int.toNat_natCast] at hcl
  obtain ⟨b1, hb1⟩ : ∃ x, x = b ++ vint l.length := ⟨_, rfl⟩
  rw [← hb1] at hcl
  have HB1 := Aside0.mk hb1
  have HCL := Aside0.mk hcl
  have HB' := Aside0.mk HB
  have HB0 := Aside0.mk hb0
  have hw : IntKind.u64.wrap (l.length : Int) = (l.length : Int) := by show ((l.length : Int) % 18446744073709551616) = _; omega
  clear hr hf hl hbl hcl HB hb hb0 hb1
  go_enter Try.func91, Try.ntmps91
  go_wp2_with (go_at_call 46; refine HCL.out.mono ?_; rintro e w1 ⟨v, rfl, hv, hd⟩; have HV := Aside0.mk (Kd.R_lower hv HB'.out.size); have HD := Aside0.mk (below_then HB'.out HB'.out.size hd); have hbx := (hd.block _ (blk_lt HB0.out)).trans HB0.out; have hx0 := (blk_cell hbx 0).trans rfl; have hy0 := blk_frozen hbx 0; clear hv hd hbx)
  obtain ⟨W1, hW1⟩ : ∃ W, W = w1 := ⟨_, rfl⟩
  obtain ⟨Av, cv, hvv, hlv, _⟩ := Kd.R_reads HV.out
  subst hvv
  have HLV := Aside0.mk hlv
  clear hW1 hlv
  go_loopw [0, 16] (fun v0 v16 wr => ∃ (k : Nat) (q : List Int) (Aq : Option Addr) (cq : Nat), k ≤ l.length ∧ v16 = .int .i64 k ∧ v0 = .slice Aq q.length cq ∧ Aside0 (q = b ++ (vint l.length ++ notesF (l.take k))) ∧ Aside0 (q.length ≤ cq) ∧ Aside0 (Kd.R (Kd.int .u8) 5 wr w.heap.size (fun _ => True) (.slice Aq q.length cq) q) ∧ Aside0 (Below w.heap.size w wr)) (fun _ v16 _ => l.length - (intOf v16).toNat)
  case atStart => exact ⟨0, b1, Av, cv, Nat.zero_le _, rfl, rfl, ⟨by rw [HB1.out]; simp [notesF]⟩, HLV, HV, HD⟩
  case round =>
    obtain ⟨k, q, Aq, cq, hk, rfl, rfl, HQ, HLQ, HRQ, HBQ⟩ := hrel
    clear HV HD HLV
    by_cases hlt : k < l.length
    · have hd1 : decide ((k : Int) < (l.length : Int)) = true := decide_eq_true (by omega)
      obtain ⟨ad, e, h0, h1, h2, h3⟩ := at_T62 (Kd.C_below HR.out HBQ.out) (k : Int) (by omega) (by omega)
      subst e
      obtain ⟨m, hm⟩ : ∃ m, m = l[k] := ⟨_, rfl⟩
      have hrd : rd_T62 l (k : Int) = m := by rw [hm]; show l.getD ((k : Int)).toNat _ = _; rw [Int.toNat_natCast, List.getD_eq_getElem?_getD, List.getElem?_eq_getElem hlt]; rfl
      rw [hrd] at h0 h1 h2 h3
      simp only [Int.toNat_natCast] at h0 h1 h2 h3
      have HM := Aside0.mk hm
      clear hrd hm
      go_wp2_with fail
      obtain ⟨W2, hW2⟩ : ∃ W, W = wr.alloc (mCells m) := ⟨_, rfl⟩
      rw [show wr.alloc (.cells #[.int .u64 m.f0, .int .u64 m.f1, .string m.f2, .string m.f3] 62) = W2 from hW2.symm]
      have hg : W2.heap[wr.heap.size]? = some (mCells m) := by rw [hW2]; exact World.alloc_heap_new wr _
      have hB2 : Below w.heap.size w W2 := by rw [hW2]; exact HBQ.out.alloc HBQ.out.size _
      have hR2 : Kd.R (Kd.int .u8) 5 W2 w.heap.size (fun _ => True) (.slice Aq q.length cq) q := by rw [hW2]; exact Kd.R_below HRQ.out (below_alloc (Below.refl _ _) _)
      have hmf : FitM m := by rw [HM.out]; exact HF.out _ (List.getElem_mem hlt)
      have hql : q.length ≤ 1010000 := by
        have h5 := notesF_len (l.take k) (fun x hx => HF.out x (List.take_subset _ _ hx))
        have h6 := HBL.out
        have h7 := vint_len9 HL.out
        have h8 : (l.take k).length ≤ 64 := Nat.le_trans (by rw [List.length_take]; omega) HL.out
        rw [HQ.out, List.length_append, List.length_append, h7]
        omega
      have HG := Aside0.mk hg
      have HB2 := Aside0.mk (below_drew1 hB2)
      have HR2 := Aside0.mk (Kd.R_drew hR2)
      have HMF := Aside0.mk hmf
      have HQL := Aside0.mk hql
      have hgd : W2.drew.heap[wr.heap.size]? = some (mCells m) := hg
      have HGD := Aside0.mk hgd
      have hc0 : W2.cell? ⟨wr.heap.size, 0, none⟩ = some (.int .u64 m.f0) := (blk_cell hg 0).trans rfl
      have hc1 : W2.cell? ⟨wr.heap.size, 1, none⟩ = some (.int .u64 m.f1) := (blk_cell hg 1).trans rfl
      have hc2 : W2.cell? ⟨wr.heap.size, 2, none⟩ = some (.string m.f2) := (blk_cell hg 2).trans rfl
      have hc3 : W2.cell? ⟨wr.heap.size, 3, none⟩ = some (.string m.f3) := (blk_cell hg 3).trans rfl
      clear hW2 hg hB2 hR2 hmf hql h0 h1 h2 h3 hgd HCL HB0 hx0
      obtain ⟨q1, hq1⟩ : ∃ x, x = q ++ vint m.f0.toNat := ⟨_, rfl⟩
      obtain ⟨q2, hq2⟩ : ∃ x, x = q1 ++ vint m.f1.toNat := ⟨_, rfl⟩
      obtain ⟨q3, hq3⟩ : ∃ x, x = q2 ++ (vint m.f2.size ++ bytesOf m.f2) := ⟨_, rfl⟩
      obtain ⟨q4, hq4⟩ : ∃ x, x = q3 ++ (vint m.f3.size ++ bytesOf m.f3) := ⟨_, rfl⟩
      have hl1 : q1.length ≤ 1010010 := by rw [hq1, List.length_append]; have := HQL.out; have := vint_len10 (x := m.f0.toNat) (by have := HMF.out.1.1.1; have := HMF.out.1.1.2; omega); omega
      have hl2 : q2.length ≤ 1010020 := by rw [hq2, List.length_append]; have := vint_len10 (x := m.f1.toNat) (by have := HMF.out.1.2.1; have := HMF.out.1.2.2; omega); omega
      have hl3 : q3.length ≤ 1010200 := by rw [hq3, List.length_append, List.length_append, bytesOf_len, vint_len9 HMF.out.2.1]; have := HMF.out.2.1; omega
      have HP1 : Aside0 (nums_Put.f q m.f0 = some q1) := ⟨by rw [hq1]; exact put_f HMF.out.1.1 (by have := HQL.out; omega)⟩
      have HP2 : Aside0 (nums_Put.f q1 m.f1 = some q2) := ⟨by rw [hq2]; exact put_f HMF.out.1.2 (by omega)⟩
      have HP3 : Aside0 (nums_PutText.f q2 m.f2 = some q3) := ⟨by rw [hq3]; exact putText_f HMF.out.2.1 (by omega)⟩
      have HP4 : Aside0 (nums_PutText.f q3 m.f3 = some q4) := ⟨by rw [hq4]; exact putText_f HMF.out.2.2 (by omega)⟩
      have HQ4 : Aside0 (q4 = q ++ noteF m) := ⟨by rw [hq4, hq3, hq2, hq1, noteF]; simp only [List.append_assoc]⟩
      clear hq1 hq2 hq3 hq4 hl1 hl2 hl3
      go_region_law (first
        | (go_simp; go_at_call 46; (with_reducible refine (nums_Put.calls Aq cq q m.f0 q1 _ (Kd.R_reads' HR2.out).2.2 HLQ.out HP1.out).mono ?_); rintro e w11 ⟨v1, rfl, hv, hd⟩; obtain ⟨A1, c1, hvv, hll, _⟩ := Kd.R_reads hv; subst hvv; have HRR1 := Aside0.mk hv; have HLL1 := Aside0.mk hll; have HBB1 := Aside0.mk (below_then HB2.out HB2.out.size hd); have HGG1 := Aside0.mk ((hd.block _ (blk_lt HGD.out)).trans HGD.out); clear hv hll hd hc0 hc1 hc2 hc3; have hc1 := (blk_cell HGG1.out 1).trans rfl; have hc2 := (blk_cell HGG1.out 2).trans rfl; have hc3 := (blk_cell HGG1.out 3).trans rfl)
        | (go_simp; go_at_call 46; (with_reducible refine (nums_Put.calls A1 c1 q1 m.f1 q2 _ (Kd.R_reads' HRR1.out).2.2 HLL1.out HP2.out).mono ?_); rintro e w12 ⟨v2, rfl, hv, hd⟩; obtain ⟨A2, c2, hvv, hll, _⟩ := Kd.R_reads hv; subst hvv; have HRR2 := Aside0.mk hv; have HLL2 := Aside0.mk hll; have HBB2 := Aside0.mk (below_then HBB1.out HBB1.out.size hd); have HGG2 := Aside0.mk ((hd.block _ (blk_lt HGG1.out)).trans HGG1.out); clear hv hll hd hc1 hc2 hc3; have hc2 := (blk_cell HGG2.out 2).trans rfl; have hc3 := (blk_cell HGG2.out 3).trans rfl)
        | (go_simp; go_at_call 47; (with_reducible refine (nums_PutText.calls A2 c2 q2 m.f2 q3 _ (Kd.R_reads' HRR2.out).2.2 HLL2.out HP3.out).mono ?_); rintro e w13 ⟨v3, rfl, hv, hd⟩; obtain ⟨A3, c3, hvv, hll, _⟩ := Kd.R_reads hv; subst hvv; have HRR3 := Aside0.mk hv; have HLL3 := Aside0.mk hll; have HBB3 := Aside0.mk (below_then HBB2.out HBB2.out.size hd); have HGG3 := Aside0.mk ((hd.block _ (blk_lt HGG2.out)).trans HGG2.out); clear hv hll hd hc2 hc3; have hc3 := (blk_cell HGG3.out 3).trans rfl)
        | (go_simp; go_at_call 47; (with_reducible refine (nums_PutText.calls A3 c3 q3 m.f3 q4 _ (Kd.R_reads' HRR3.out).2.2 HLL3.out HP4.out).mono ?_); rintro e w14 ⟨v4, rfl, hv, hd⟩; obtain ⟨A4, c4, hvv, hll, _⟩ := Kd.R_reads hv; subst hvv; have HRR4 := Aside0.mk hv; have HLL4 := Aside0.mk hll; have HBB4 := Aside0.mk (below_then HBB3.out HBB3.out.size hd); have HGG4 := Aside0.mk ((hd.block _ (blk_lt HGG3.out)).trans HGG3.out); clear hv hll hd hc3))
      all_goals
        have hk1 : wrap64 ((k : Int) + 1) = ((k + 1 : Nat) : Int) := by unfold wrap64; have := HL.out; omega
        have HK1 := Aside0.mk hk1
        clear hk1
        go_wp2
        refine ⟨⟨k + 1, q4, A4, c4, by omega, by rw [HK1.out], rfl, ⟨?_⟩, HLL4, ⟨Kd.R_lower HRR4.out HBB3.out.size⟩, HBB4⟩, by show l.length - (intOf (.int .i64 (wrap64 ((k : Int) + 1)))).toNat < l.length - (intOf (.int .i64 (k : Int))).toNat; rw [HK1.out]; show l.length - ((k + 1 : Nat) : Int).toNat < l.length - (k : Int).toNat; omega⟩
        rw [HQ4.out, HQ.out, List.take_succ_eq_append_getElem hlt, notesF_append, HM.out, notesF, notesF, List.append_nil]
        simp only [List.append_assoc]
    · have hkl : k = l.length := by omega
      subst hkl
      have hd1 : decide ((l.length : Int) < (l.length : Int)) = false := decide_eq_false (by omega)
      have hq := HQ.out
      rw [List.take_length] at hq
      go_wp2
      go_ret
      exact ⟨_, rfl, by rw [← hq]; exact HRQ.out, HBQ.out⟩
end Go.Proofs.YtlaihdipagejfaaG

end

section
set_option linter.unusedVariables false
set_option linter.unusedSimpArgs false
namespace Go.Proofs.YtlaihdipagejfaaG
open Go Go.RowKit Go.Proofs.YtlaihdipagejfaaR Go.Proofs.YtlaihdipagejfaaL Go.Proofs.Ytlaihdipagejfaa.P Go.Proofs.YtlaihdipagejfaaW.PrintWords
attribute [local go_sem] Oper.semAt_some run_store_fn

theorem R_one (W : World) (base : Nat) (hb : base ≤ W.heap.size) (x : Int) : Kd.R (Kd.int .u8) 5 (W.alloc (.cells #[.int .u8 x] 5)) base (fun _ => True) (.slice (some ⟨W.heap.size, 0, none⟩) 1 1) [x] := by
  refine ⟨fun k hk => trivial, [.int .u8 x], ?_, ⟨rfl, fun j p hj => ?_⟩⟩
  · have h2 := World.ownsRow_lit (base := base) (e := 5) (size := (Kd.int .u8).sz) W #[.int .u8 x] 1 hb (by decide) rfl
    exact h2
  · cases j with
    | zero =>
      simp only [List.getElem?_cons_zero, Option.some.injEq] at hj
      subst hj
      show [Value.int .u8 x] = _
      rfl
    | succ j => simp at hj
/-- The head byte of a row of one's own is written. -/
theorem R_head {W : World} {base T g n cap : Nat} {h : Int} {r : List Int} (hR : Kd.R (Kd.int .u8) T W base (fun _ => True) (.slice (some ⟨g, 0, none⟩) n cap) (h :: r)) :
    W.cell? ⟨g, 0, none⟩ = some (.int .u8 h) ∧ W.frozen? ⟨g, 0, none⟩ = false ∧ ∀ y : Int, Kd.R (Kd.int .u8) T (W.setCell ⟨g, 0, none⟩ (.int .u8 y)) base (fun _ => True) (.slice (some ⟨g, 0, none⟩) n cap) (y :: r) ∧ W.grownBy (W.setCell ⟨g, 0, none⟩ (.int .u8 y)) (some g) := by
  obtain ⟨hn, _, _⟩ := Kd.R_reads' hR
  have hn' : 0 < n := by rw [List.length_cons] at hn; omega
  obtain ⟨c, hcl, hM, hcc, hfr⟩ := Kd.R_elem hR 0 0 (Int.le_refl _) (by omega)
  have hM' : c = [.int .u8 h] := hM
  subst hM'
  refine ⟨hcc 0 _ rfl, hfr 0, fun y => ?_⟩
  have h2 := Kd.R_seg hR 0 (Int.le_refl _) (by omega) (seg := [.int .u8 y]) (j := 0) hcl hcc (by simp; exact Nat.le_refl _) (x' := y) (okp := fun k => True ∧ k ≠ g) (by show _ = _; rfl) (fun _ hk => hk)
  exact h2
abbrev eBox (A : Option Addr) (n c : Nat) (a1 a2 a3 : Int) : Obj := .cells #[.slice A n c, .int .u64 a1, .int .u64 a2, .int .u64 a3] 54
def outF (l : List MetaS) (a b c : Int) : Nat → List Int
  | 0 => [0]
  | 1 => bitF l.length 1 :: addF l
  | 2 => (bitF l.length 1 + bitF a 2) :: (addF l ++ numF a)
  | 3 => (bitF l.length 1 + bitF a 2 + bitF b 4) :: (addF l ++ (numF a ++ numF b))
  | _ => formE l a b c
theorem bitF_nn (x k : Int) (hk : 0 ≤ k) : 0 ≤ bitF x k ∧ bitF x k ≤ k := by unfold bitF; split <;> omega
theorem or_fin1 : ∀ h : Fin 1, bits .or .u8 (h.val : Int) 1 = (h.val : Int) + 1 := by decide +kernel
theorem or_fin2 : ∀ h : Fin 2, bits .or .u8 (h.val : Int) 2 = (h.val : Int) + 2 := by decide +kernel
theorem or_fin4 : ∀ h : Fin 4, bits .or .u8 (h.val : Int) 4 = (h.val : Int) + 4 := by decide +kernel
theorem or_fin8 : ∀ h : Fin 8, bits .or .u8 (h.val : Int) 8 = (h.val : Int) + 8 := by decide +kernel
theorem bitF_some {x k : Int} (h : 0 < x) : bitF x k = k := if_pos h
theorem bitF_none {x k : Int} (h : ¬ 0 < x) : bitF x k = 0 := if_neg h
theorem numF_some {x : Int} (h : 0 < x) : numF x = vint x.toNat := if_pos h
theorem numF_none {x : Int} (h : ¬ 0 < x) : numF x = [] := if_neg h
theorem numF_len {x : Int} (h : U64 x) : (numF x).length ≤ 10 := by
  unfold numF
  split
  · exact vint_len10 (by have := h.1; have := h.2; omega)
  · simp
theorem addF_len {l : List MetaS} (hl : l.length ≤ 64) (h : ∀ m ∈ l, FitM m) : (addF l).length ≤ 9700 := by
  unfold addF
  split
  · rw [List.length_append, vint_len9 hl]
    have := notesF_len l h
    omega
  · simp
theorem notesB_fit : ∀ (l : List MetaS) (p : Option Int), notesB p l = true → (∀ m ∈ l, WfM m) → ∀ m ∈ l, FitM m
  | [], _, _, _ => fun m hm => by simp at hm
  | x :: r, p, h, hw => fun m hm => by
    rw [notesB_cons] at h
    simp only [Bool.and_eq_true] at h
    rcases List.mem_cons.1 hm with rfl | hm
    · have h1 := h.1.1
      unfold noteB at h1
      simp only [Bool.and_eq_true, decide_eq_true_eq] at h1
      exact ⟨hw _ (List.mem_cons_self ..), by omega, by omega⟩
    · exact notesB_fit r _ h.2 (fun y hy => hw y (List.mem_cons_of_mem _ hy)) m hm
theorem right_fit {l : List MetaS} {a b c : Int} (h : rightB l a b c = true) (hw : WfE l a b c) : l.length ≤ 64 ∧ ∀ m ∈ l, FitM m := by
  unfold rightB at h
  simp only [Bool.and_eq_true, decide_eq_true_eq] at h
  exact ⟨h.2.1.1, notesB_fit l none h.1 hw.1⟩
theorem outF_len {l : List MetaS} {a b c : Int} (hl : l.length ≤ 64) (h : ∀ m ∈ l, FitM m) (hw : WfE l a b c) (k : Nat) : (outF l a b c k).length ≤ 10000 := by
  have h1 := addF_len hl h
  have h2 := numF_len hw.2.1
  have h3 := numF_len hw.2.2.1
  have h4 := numF_len hw.2.2.2
  unfold outF formE bodyF
  split <;> simp only [List.length_cons, List.length_append, List.length_nil] <;> omega

set_option maxRecDepth 100000 in
set_option maxHeartbeats 8000000 in
theorem bytes_yes (A : Option Addr) (cp : Nat) (l : List MetaS) (a b c : Int) (w : World) (hr : Kd.C k62 w A l.length l) (hc : l.length ≤ cp) (hw : WfE l a b c) (hy : rightB l a b c = true) :
    Calls Try.prog 34 #[aggE A l.length cp a b c] w fun e w' => ∃ v, e = .returned (.tuple #[v, .int .i64 0]) ∧ Kd.R (Kd.int .u8) 5 w' w.heap.size (fun _ => True) v (formE l a b c) ∧ Below w.heap.size w w' := by
  have hfit := right_fit hy hw
  have HR := Aside0.mk hr
  have HC := Aside0.mk hc
  have HW := Aside0.mk hw
  have HF := Aside0.mk hfit
  have hu := Try.underlying54
  have hup := Try.underlying93
  have hb0 := World.alloc_heap_new w (eBox A l.length cp a b c)
  have HB : Below w.heap.size w (w.alloc (eBox A l.length cp a b c)) := below_alloc (Below.refl _ _) _
  have hcl := right_calls A cp l a b c _ (Kd.C_below hr HB) hc hw
  rw [hy] at hcl
  have HCL := Aside0.mk hcl
  have HB' := Aside0.mk HB
  have HB0 := Aside0.mk hb0
  clear hr hc hw hfit hcl HB hy
  go_enter Try.func34, Try.ntmps34
  go_wp2_with (first | (go_at_call 33; refine HCL.out.mono ?_; rintro e w1 ⟨rfl, hd⟩; have HB1 := Aside0.mk (below_then HB'.out HB'.out.size hd); have HX1 := Aside0.mk ((hd.block _ (blk_lt HB0.out)).trans HB0.out); clear hd hb0) | (go_at_call 60; refine (parts_calls _).mono ?_; rintro e w2 ⟨g, m1, m2, m3, rfl, hP, hge, hd⟩; have HP := Aside0.mk hP; have HO := Aside0.mk (Kd.R_below (R_one w1 w.heap.size HB1.out.size 0) hd); have HX2 := Aside0.mk (((hd.block _ (Nat.lt_of_lt_of_le (blk_lt HX1.out) (by simp))).trans ((Below.heap_alloc _ _ _ (blk_lt HX1.out)).trans HX1.out))); have HB2 := Aside0.mk (below_then (below_alloc HB1.out _) (Nat.le_trans HB1.out.size (by simp)) hd); clear hP hge hd))
  have HSZ : Aside0 (w.heap.size < w2.heap.size) := ⟨blk_lt HX2.out⟩
  clear HB1 HX1 HCL
  obtain ⟨W1, hW1⟩ : ∃ x, x = w1.heap.size := ⟨_, rfl⟩
  rw [← hW1] at HO ⊢
  clear hW1
  go_loopw [4, 13] (fun v4 v13 wr => ∃ (k : Nat) (q : List Int) (Aq : Option Addr) (cq : Nat), k ≤ 4 ∧ v13 = .int .i64 k ∧ v4 = .slice Aq q.length cq ∧ Aside0 (q = outF l a b c k) ∧ Aside0 (q.length ≤ cq) ∧ Aside0 (Kd.R (Kd.int .u8) 5 wr w.heap.size (fun _ => True) (.slice Aq q.length cq) q) ∧ Aside0 (Parts g m1 m2 m3 wr) ∧ Aside0 (wr.heap[w.heap.size]? = some (eBox A l.length cp a b c)) ∧ Aside0 (Below w.heap.size w wr)) (fun _ v13 _ => 4 - (intOf v13).toNat)
  case atStart => exact ⟨0, [0], _, 1, Nat.zero_le _, rfl, rfl, ⟨rfl⟩, ⟨Nat.le_refl _⟩, HO, HP, HX2, HB2⟩
  case round =>
    obtain ⟨k, q, Aq, cq, hk, rfl, rfl, HQ, HLQ, HRr, HPr, HXr, HBr⟩ := hrel
    have HQL : Aside0 (q.length ≤ 10000) := ⟨by rw [HQ.out]; exact outF_len HF.out.1 HF.out.2 HW.out k⟩
    clear HO HP HX2 HB2
    by_cases hlt : k < 4
    · have hk' : k = 0 ∨ k = 1 ∨ k = 2 ∨ k = 3 := by omega
      rcases hk' with rfl | rfl | rfl | rfl
      · have hP := HPr.out
        have hx0 : wr.cell? ⟨g, 0, none⟩ = some (f0 90) := (blk_cell hP.1 0).trans rfl
        have hx1 : wr.cell? ⟨g, 1, none⟩ = some (f0 91) := (blk_cell hP.1 1).trans rfl
        have hx2 : wr.cell? ⟨g, 2, none⟩ = some (f0 92) := (blk_cell hP.1 2).trans rfl
        have hk4 : decide ((0 : Int) < 4) = true := rfl
        have hBa : Below wr.heap.size wr (wr.alloc (.cells #[f0 90, f0 91, f0 92] 93)) := below_alloc (Below.refl _ _) _
        have HPW := Aside0.mk (hP.below hBa (Nat.le_refl _))
        have hbx : (wr.alloc (.cells #[f0 90, f0 91, f0 92] 93)).heap[w.heap.size]? = some (eBox A l.length cp a b c) := (Below.heap_alloc _ _ _ (blk_lt HXr.out)).trans HXr.out
        have hbn := World.alloc_heap_new wr (.cells #[f0 90, f0 91, f0 92] 93)
        have HBX := Aside0.mk hbx
        have HBN := Aside0.mk hbn
        have HBA := Aside0.mk hBa
        have HBW := Aside0.mk (below_then HBr.out HBr.out.size hBa)
        have HQA := Aside0.mk (Kd.R_below HRr.out hBa)
        have hz0 : (wr.alloc (.cells #[f0 90, f0 91, f0 92] 93)).cell? ⟨w.heap.size, 0, none⟩ = some (.slice A l.length cp) := (blk_cell hbx 0).trans rfl
        have hz1 : (wr.alloc (.cells #[f0 90, f0 91, f0 92] 93)).cell? ⟨w.heap.size, 1, none⟩ = some (.int .u64 a) := (blk_cell hbx 1).trans rfl
        have hz2 : (wr.alloc (.cells #[f0 90, f0 91, f0 92] 93)).cell? ⟨w.heap.size, 2, none⟩ = some (.int .u64 b) := (blk_cell hbx 2).trans rfl
        have hz3 : (wr.alloc (.cells #[f0 90, f0 91, f0 92] 93)).cell? ⟨w.heap.size, 3, none⟩ = some (.int .u64 c) := (blk_cell hbx 3).trans rfl
        clear hP hBa hbn hbx
        by_cases hp : 0 < l.length
        · have hIS := (isA_calls A l.length cp a b c (wr.alloc (.cells #[f0 90, f0 91, f0 92] 93)))
          rw [decide_eq_true hp] at hIS
          have HIS := Aside0.mk hIS
          have HP0 := Aside0.mk hp
          clear hIS hp
          go_wp2_with (first
            | (go_at_call 90; (with_reducible refine HIS.out.mono ?_); rintro e W3 ⟨rfl, hd⟩; have HP3 := Aside0.mk (HPW.out.below hd (Nat.le_refl _)); have hbx3 := (hd.block _ (blk_lt HBX.out)).trans HBX.out; have HB3 := Aside0.mk (below_then HBW.out HBW.out.size hd); have HC3 := Aside0.mk (below_then HBA.out HBA.out.size hd); have hbn3 := (hd.block _ (blk_lt HBN.out)).trans HBN.out; have hn1 := (blk_cell hbn3 1).trans rfl; have HQ3 := Aside0.mk (Kd.R_below HQA.out hd); clear hd hz0 hz1 hz2 hz3 hbn3; have hy0 := (blk_cell hbx3 0).trans rfl; have hy1 := (blk_cell hbx3 1).trans rfl; have hy2 := (blk_cell hbx3 2).trans rfl; have hy3 := (blk_cell hbx3 3).trans rfl; clear hbx3)
            | (go_at_call 91; refine (putA_calls A cp l a b c Aq cq q W3 (Kd.C_below HR.out HB3.out) HC.out (Kd.R_reads' HQ3.out).2.2 HLQ.out (by have := HQL.out; omega) HF.out.1 HF.out.2).mono ?_; rintro e W4 ⟨v4, rfl, hv4, hd4⟩; have HV4 := Aside0.mk hv4; have HB4 := Aside0.mk (below_then HB3.out HB3.out.size hd4); have HC4 := Aside0.mk (below_then HC3.out HC3.out.size hd4); have HS3 : Aside0 (wr.heap.size ≤ W3.heap.size ∧ w.heap.size ≤ W3.heap.size) := ⟨HC3.out.size, HB3.out.size⟩; clear hv4 hd4 hy0 hy1 hy2 hy3 hn1))
          obtain ⟨hd0, hhd⟩ : ∃ x, x = (0 : Int) := ⟨_, rfl⟩
          obtain ⟨bd, hbd⟩ : ∃ x, x = ([] : List Int) := ⟨_, rfl⟩
          obtain ⟨ad, had⟩ : ∃ x, x = (vint l.length ++ notesF l) := ⟨_, rfl⟩
          have hq : q = hd0 :: bd := by rw [HQ.out, hhd, hbd]; rfl
          have hv := HV4.out
          rw [hq, List.cons_append, ← had] at hv
          obtain ⟨go, co, hve, hgb, hgl, _⟩ := Kd.R_form hv (by simp)
          subst hve
          have hb0 : 0 ≤ hd0 ∧ hd0 < 1 := by rw [hhd]; exact ⟨by omega, by omega⟩
          have hor : bits .or .u8 hd0 1 = hd0 + 1 := by
            have h5 := or_fin1 ⟨hd0.toNat, by omega⟩
            rwa [show (((⟨hd0.toNat, by omega⟩ : Fin 1).val : Nat) : Int) = hd0 from Int.toNat_of_nonneg hb0.1] at h5
          generalize hn1 : (hd0 :: (bd ++ ad)).length = n1 at *
          have hn0 : 0 < n1 := by rw [List.length_cons] at hn1; omega
          have hn0' : (0 : Int) < (n1 : Int) := by omega
          have hor' : bits .or .u8 hd0 (IntKind.u8.wrap 1) = hd0 + 1 := hor
          have hh := R_head hv
          have hcc := hh.1
          have hfz := hh.2.1
          have HH := Aside0.mk (hh.2.2 (hd0 + 1))
          have HN1 := Aside0.mk hn1
          have HGB := Aside0.mk hgb
          have HHD := Aside0.mk hhd
          have HBD := Aside0.mk hbd
          have HAD := Aside0.mk had
          have HHQ := Aside0.mk hq
          have hbb := HB4.out
          clear hv hh hn1 hgb hgl hhd hbd had hq hb0 HV4 hbb
          go_region_law (fail)
          all_goals
            go_wp2
            have hR6 := Kd.R_lower (Kd.R_drew (HH.out).1) HS3.out.2
            have hlen : ((hd0 + 1) :: (bd ++ ad)).length = n1 := by rw [← HN1.out]; simp only [List.length_cons]
            have hHB : Below wr.heap.size wr (W4.setCell ⟨go, 0, none⟩ (.int .u8 (hd0 + 1))).drew := (HC4.out.setCell (p := ⟨go, 0, none⟩) (Nat.le_trans HS3.out.1 HGB.out) _).drew
            have hHW : Below w.heap.size w (W4.setCell ⟨go, 0, none⟩ (.int .u8 (hd0 + 1))).drew := (HB4.out.setCell (p := ⟨go, 0, none⟩) (Nat.le_trans HS3.out.2 HGB.out) _).drew
            rw [← hlen] at hR6
            refine ⟨⟨1, (hd0 + 1) :: (bd ++ ad), some ⟨go, 0, none⟩, co, by omega, rfl, by rw [hlen], ⟨?_⟩, ⟨(Kd.R_reads' hR6).2.1⟩, ⟨hR6⟩, ⟨HPr.out.below hHB (Nat.le_refl _)⟩, ⟨(hHB.block _ (blk_lt HXr.out)).trans HXr.out⟩, ⟨hHW⟩⟩, by decide⟩
            have hp := HP0.out
            rw [HHD.out, HBD.out, HAD.out]
            show _ = bitF l.length 1 :: addF l
            rw [bitF_some (show (0 : Int) < (l.length : Int) by omega), addF, if_pos hp]; rfl
        · have hIS := (isA_calls A l.length cp a b c (wr.alloc (.cells #[f0 90, f0 91, f0 92] 93)))
          rw [decide_eq_false hp] at hIS
          have HIS := Aside0.mk hIS
          have HP0 := Aside0.mk hp
          clear hIS hp
          go_wp2_with (go_at_call 90; (with_reducible refine HIS.out.mono ?_); rintro e W3 ⟨rfl, hd⟩; have HP3 := Aside0.mk (HPW.out.below hd (Nat.le_refl _)); have HX3 := Aside0.mk ((hd.block _ (blk_lt HBX.out)).trans HBX.out); have HB3 := Aside0.mk (below_then HBW.out HBW.out.size hd); have HQ3 := Aside0.mk (Kd.R_below HQA.out hd); clear hd hz0 hz1 hz2 hz3)
          refine ⟨⟨1, q, Aq, cq, by omega, rfl, rfl, ⟨?_⟩, HLQ, HQ3, HP3, HX3, HB3⟩, by decide⟩
          have hp : ¬ 0 < l.length := by have := HP0.out; omega
          rw [HQ.out]
          show (0 : Int) :: ([] : List Int) = bitF l.length 1 :: addF l
          rw [bitF_none (show ¬ (0 : Int) < (l.length : Int) by omega), addF, if_neg hp]

      · have hP := HPr.out
        have hx0 : wr.cell? ⟨g, 3, none⟩ = some (fv 95 m1) := (blk_cell hP.1 3).trans rfl
        have hx1 : wr.cell? ⟨g, 4, none⟩ = some (fv 96 m1) := (blk_cell hP.1 4).trans rfl
        have hx2 : wr.cell? ⟨g, 5, none⟩ = some (fv 97 m1) := (blk_cell hP.1 5).trans rfl
        have hk4 : decide ((1 : Int) < 4) = true := rfl
        have hBa : Below wr.heap.size wr (wr.alloc (.cells #[fv 95 m1, fv 96 m1, fv 97 m1] 93)) := below_alloc (Below.refl _ _) _
        have HPW := Aside0.mk (hP.below hBa (Nat.le_refl _))
        have HMW : Aside0 ((wr.alloc (.cells #[fv 95 m1, fv 96 m1, fv 97 m1] 93)).heap[m1]? = some (.cells #[f0 83] tSel)) := ⟨(HPW.out).2.1⟩
        have hbx : (wr.alloc (.cells #[fv 95 m1, fv 96 m1, fv 97 m1] 93)).heap[w.heap.size]? = some (eBox A l.length cp a b c) := (Below.heap_alloc _ _ _ (blk_lt HXr.out)).trans HXr.out
        have hbn := World.alloc_heap_new wr (.cells #[fv 95 m1, fv 96 m1, fv 97 m1] 93)
        have HBX := Aside0.mk hbx
        have HBN := Aside0.mk hbn
        have HBA := Aside0.mk hBa
        have HBW := Aside0.mk (below_then HBr.out HBr.out.size hBa)
        have HQA := Aside0.mk (Kd.R_below HRr.out hBa)
        have hz0 : (wr.alloc (.cells #[fv 95 m1, fv 96 m1, fv 97 m1] 93)).cell? ⟨w.heap.size, 0, none⟩ = some (.slice A l.length cp) := (blk_cell hbx 0).trans rfl
        have hz1 : (wr.alloc (.cells #[fv 95 m1, fv 96 m1, fv 97 m1] 93)).cell? ⟨w.heap.size, 1, none⟩ = some (.int .u64 a) := (blk_cell hbx 1).trans rfl
        have hz2 : (wr.alloc (.cells #[fv 95 m1, fv 96 m1, fv 97 m1] 93)).cell? ⟨w.heap.size, 2, none⟩ = some (.int .u64 b) := (blk_cell hbx 2).trans rfl
        have hz3 : (wr.alloc (.cells #[fv 95 m1, fv 96 m1, fv 97 m1] 93)).cell? ⟨w.heap.size, 3, none⟩ = some (.int .u64 c) := (blk_cell hbx 3).trans rfl
        clear hP hBa hbn hbx
        by_cases hp : 0 < a
        · have hIS := is1_calls m1 A l.length cp a b c _ HMW.out
          rw [decide_eq_true hp] at hIS
          have HIS := Aside0.mk hIS
          have HP0 := Aside0.mk hp
          clear hIS hp
          go_wp2_with (first
            | (go_at_call 95; (with_reducible refine HIS.out.mono ?_); rintro e W3 ⟨rfl, hd⟩; have HP3 := Aside0.mk (HPW.out.below hd (Nat.le_refl _)); have hbx3 := (hd.block _ (blk_lt HBX.out)).trans HBX.out; have HB3 := Aside0.mk (below_then HBW.out HBW.out.size hd); have HC3 := Aside0.mk (below_then HBA.out HBA.out.size hd); have hbn3 := (hd.block _ (blk_lt HBN.out)).trans HBN.out; have hn1 := (blk_cell hbn3 1).trans rfl; have HQ3 := Aside0.mk (Kd.R_below HQA.out hd); clear hd hz0 hz1 hz2 hz3 hbn3; have hy0 := (blk_cell hbx3 0).trans rfl; have hy1 := (blk_cell hbx3 1).trans rfl; have hy2 := (blk_cell hbx3 2).trans rfl; have hy3 := (blk_cell hbx3 3).trans rfl; clear hbx3)
            | (go_at_call 96; refine (put1_calls m1 A l.length cp a b c Aq cq q W3 (HP3.out).2.1 (Kd.R_reads' HQ3.out).2.2 HLQ.out (by have := HQL.out; omega) HW.out.2.1).mono ?_; rintro e W4 ⟨v4, rfl, hv4, hd4⟩; have HV4 := Aside0.mk hv4; have HB4 := Aside0.mk (below_then HB3.out HB3.out.size hd4); have HC4 := Aside0.mk (below_then HC3.out HC3.out.size hd4); have HS3 : Aside0 (wr.heap.size ≤ W3.heap.size ∧ w.heap.size ≤ W3.heap.size) := ⟨HC3.out.size, HB3.out.size⟩; clear hv4 hd4 hy0 hy1 hy2 hy3 hn1))
          obtain ⟨hd0, hhd⟩ : ∃ x, x = (bitF l.length 1) := ⟨_, rfl⟩
          obtain ⟨bd, hbd⟩ : ∃ x, x = (addF l) := ⟨_, rfl⟩
          obtain ⟨ad, had⟩ : ∃ x, x = vint a.toNat := ⟨_, rfl⟩
          have hq : q = hd0 :: bd := by rw [HQ.out, hhd, hbd]; rfl
          have hv := HV4.out
          rw [hq, List.cons_append, ← had] at hv
          obtain ⟨go, co, hve, hgb, hgl, _⟩ := Kd.R_form hv (by simp)
          subst hve
          have hb0 : 0 ≤ hd0 ∧ hd0 < 2 := by rw [hhd]; have := bitF_nn l.length 1 (by omega); omega
          have hor : bits .or .u8 hd0 2 = hd0 + 2 := by
            have h5 := or_fin2 ⟨hd0.toNat, by omega⟩
            rwa [show (((⟨hd0.toNat, by omega⟩ : Fin 2).val : Nat) : Int) = hd0 from Int.toNat_of_nonneg hb0.1] at h5
          generalize hn1 : (hd0 :: (bd ++ ad)).length = n1 at *
          have hn0 : 0 < n1 := by rw [List.length_cons] at hn1; omega
          have hn0' : (0 : Int) < (n1 : Int) := by omega
          have hor' : bits .or .u8 hd0 (IntKind.u8.wrap 2) = hd0 + 2 := hor
          have hh := R_head hv
          have hcc := hh.1
          have hfz := hh.2.1
          have HH := Aside0.mk (hh.2.2 (hd0 + 2))
          have HN1 := Aside0.mk hn1
          have HGB := Aside0.mk hgb
          have HHD := Aside0.mk hhd
          have HBD := Aside0.mk hbd
          have HAD := Aside0.mk had
          have HHQ := Aside0.mk hq
          have hbb := HB4.out
          clear hv hh hn1 hgb hgl hhd hbd had hq hb0 HV4 hbb
          go_region_law (fail)
          all_goals
            go_wp2
            have hR6 := Kd.R_lower (Kd.R_drew (HH.out).1) HS3.out.2
            have hlen : ((hd0 + 2) :: (bd ++ ad)).length = n1 := by rw [← HN1.out]; simp only [List.length_cons]
            have hHB : Below wr.heap.size wr (W4.setCell ⟨go, 0, none⟩ (.int .u8 (hd0 + 2))).drew := (HC4.out.setCell (p := ⟨go, 0, none⟩) (Nat.le_trans HS3.out.1 HGB.out) _).drew
            have hHW : Below w.heap.size w (W4.setCell ⟨go, 0, none⟩ (.int .u8 (hd0 + 2))).drew := (HB4.out.setCell (p := ⟨go, 0, none⟩) (Nat.le_trans HS3.out.2 HGB.out) _).drew
            rw [← hlen] at hR6
            refine ⟨⟨2, (hd0 + 2) :: (bd ++ ad), some ⟨go, 0, none⟩, co, by omega, rfl, by rw [hlen], ⟨?_⟩, ⟨(Kd.R_reads' hR6).2.1⟩, ⟨hR6⟩, ⟨HPr.out.below hHB (Nat.le_refl _)⟩, ⟨(hHB.block _ (blk_lt HXr.out)).trans HXr.out⟩, ⟨hHW⟩⟩, by decide⟩
            have hp := HP0.out
            rw [HHD.out, HBD.out, HAD.out]
            show _ = (bitF l.length 1 + bitF a 2) :: (addF l ++ numF a)
            rw [bitF_some hp, numF_some hp]
        · have hIS := is1_calls m1 A l.length cp a b c _ HMW.out
          rw [decide_eq_false hp] at hIS
          have HIS := Aside0.mk hIS
          have HP0 := Aside0.mk hp
          clear hIS hp
          go_wp2_with (go_at_call 95; (with_reducible refine HIS.out.mono ?_); rintro e W3 ⟨rfl, hd⟩; have HP3 := Aside0.mk (HPW.out.below hd (Nat.le_refl _)); have HX3 := Aside0.mk ((hd.block _ (blk_lt HBX.out)).trans HBX.out); have HB3 := Aside0.mk (below_then HBW.out HBW.out.size hd); have HQ3 := Aside0.mk (Kd.R_below HQA.out hd); clear hd hz0 hz1 hz2 hz3)
          refine ⟨⟨2, q, Aq, cq, by omega, rfl, rfl, ⟨?_⟩, HLQ, HQ3, HP3, HX3, HB3⟩, by decide⟩
          have hp : ¬ 0 < a := by have := HP0.out; omega
          rw [HQ.out]
          show (bitF l.length 1) :: (addF l) = (bitF l.length 1 + bitF a 2) :: (addF l ++ numF a)
          rw [bitF_none hp, numF_none hp, Int.add_zero, List.append_nil]

      · have hP := HPr.out
        have hx0 : wr.cell? ⟨g, 6, none⟩ = some (fv 95 m2) := (blk_cell hP.1 6).trans rfl
        have hx1 : wr.cell? ⟨g, 7, none⟩ = some (fv 96 m2) := (blk_cell hP.1 7).trans rfl
        have hx2 : wr.cell? ⟨g, 8, none⟩ = some (fv 97 m2) := (blk_cell hP.1 8).trans rfl
        have hk4 : decide ((2 : Int) < 4) = true := rfl
        have hBa : Below wr.heap.size wr (wr.alloc (.cells #[fv 95 m2, fv 96 m2, fv 97 m2] 93)) := below_alloc (Below.refl _ _) _
        have HPW := Aside0.mk (hP.below hBa (Nat.le_refl _))
        have HMW : Aside0 ((wr.alloc (.cells #[fv 95 m2, fv 96 m2, fv 97 m2] 93)).heap[m2]? = some (.cells #[f0 84] tSel)) := ⟨(HPW.out).2.2.1⟩
        have hbx : (wr.alloc (.cells #[fv 95 m2, fv 96 m2, fv 97 m2] 93)).heap[w.heap.size]? = some (eBox A l.length cp a b c) := (Below.heap_alloc _ _ _ (blk_lt HXr.out)).trans HXr.out
        have hbn := World.alloc_heap_new wr (.cells #[fv 95 m2, fv 96 m2, fv 97 m2] 93)
        have HBX := Aside0.mk hbx
        have HBN := Aside0.mk hbn
        have HBA := Aside0.mk hBa
        have HBW := Aside0.mk (below_then HBr.out HBr.out.size hBa)
        have HQA := Aside0.mk (Kd.R_below HRr.out hBa)
        have hz0 : (wr.alloc (.cells #[fv 95 m2, fv 96 m2, fv 97 m2] 93)).cell? ⟨w.heap.size, 0, none⟩ = some (.slice A l.length cp) := (blk_cell hbx 0).trans rfl
        have hz1 : (wr.alloc (.cells #[fv 95 m2, fv 96 m2, fv 97 m2] 93)).cell? ⟨w.heap.size, 1, none⟩ = some (.int .u64 a) := (blk_cell hbx 1).trans rfl
        have hz2 : (wr.alloc (.cells #[fv 95 m2, fv 96 m2, fv 97 m2] 93)).cell? ⟨w.heap.size, 2, none⟩ = some (.int .u64 b) := (blk_cell hbx 2).trans rfl
        have hz3 : (wr.alloc (.cells #[fv 95 m2, fv 96 m2, fv 97 m2] 93)).cell? ⟨w.heap.size, 3, none⟩ = some (.int .u64 c) := (blk_cell hbx 3).trans rfl
        clear hP hBa hbn hbx
        by_cases hp : 0 < b
        · have hIS := is2_calls m2 A l.length cp a b c _ HMW.out
          rw [decide_eq_true hp] at hIS
          have HIS := Aside0.mk hIS
          have HP0 := Aside0.mk hp
          clear hIS hp
          go_wp2_with (first
            | (go_at_call 95; (with_reducible refine HIS.out.mono ?_); rintro e W3 ⟨rfl, hd⟩; have HP3 := Aside0.mk (HPW.out.below hd (Nat.le_refl _)); have hbx3 := (hd.block _ (blk_lt HBX.out)).trans HBX.out; have HB3 := Aside0.mk (below_then HBW.out HBW.out.size hd); have HC3 := Aside0.mk (below_then HBA.out HBA.out.size hd); have hbn3 := (hd.block _ (blk_lt HBN.out)).trans HBN.out; have hn1 := (blk_cell hbn3 1).trans rfl; have HQ3 := Aside0.mk (Kd.R_below HQA.out hd); clear hd hz0 hz1 hz2 hz3 hbn3; have hy0 := (blk_cell hbx3 0).trans rfl; have hy1 := (blk_cell hbx3 1).trans rfl; have hy2 := (blk_cell hbx3 2).trans rfl; have hy3 := (blk_cell hbx3 3).trans rfl; clear hbx3)
            | (go_at_call 96; refine (put2_calls m2 A l.length cp a b c Aq cq q W3 (HP3.out).2.2.1 (Kd.R_reads' HQ3.out).2.2 HLQ.out (by have := HQL.out; omega) HW.out.2.2.1).mono ?_; rintro e W4 ⟨v4, rfl, hv4, hd4⟩; have HV4 := Aside0.mk hv4; have HB4 := Aside0.mk (below_then HB3.out HB3.out.size hd4); have HC4 := Aside0.mk (below_then HC3.out HC3.out.size hd4); have HS3 : Aside0 (wr.heap.size ≤ W3.heap.size ∧ w.heap.size ≤ W3.heap.size) := ⟨HC3.out.size, HB3.out.size⟩; clear hv4 hd4 hy0 hy1 hy2 hy3 hn1))
          obtain ⟨hd0, hhd⟩ : ∃ x, x = (bitF l.length 1 + bitF a 2) := ⟨_, rfl⟩
          obtain ⟨bd, hbd⟩ : ∃ x, x = (addF l ++ numF a) := ⟨_, rfl⟩
          obtain ⟨ad, had⟩ : ∃ x, x = vint b.toNat := ⟨_, rfl⟩
          have hq : q = hd0 :: bd := by rw [HQ.out, hhd, hbd]; rfl
          have hv := HV4.out
          rw [hq, List.cons_append, ← had] at hv
          obtain ⟨go, co, hve, hgb, hgl, _⟩ := Kd.R_form hv (by simp)
          subst hve
          have hb0 : 0 ≤ hd0 ∧ hd0 < 4 := by rw [hhd]; have := bitF_nn l.length 1 (by omega); have := bitF_nn a 2 (by omega); omega
          have hor : bits .or .u8 hd0 4 = hd0 + 4 := by
            have h5 := or_fin4 ⟨hd0.toNat, by omega⟩
            rwa [show (((⟨hd0.toNat, by omega⟩ : Fin 4).val : Nat) : Int) = hd0 from Int.toNat_of_nonneg hb0.1] at h5
          generalize hn1 : (hd0 :: (bd ++ ad)).length = n1 at *
          have hn0 : 0 < n1 := by rw [List.length_cons] at hn1; omega
          have hn0' : (0 : Int) < (n1 : Int) := by omega
          have hor' : bits .or .u8 hd0 (IntKind.u8.wrap 4) = hd0 + 4 := hor
          have hh := R_head hv
          have hcc := hh.1
          have hfz := hh.2.1
          have HH := Aside0.mk (hh.2.2 (hd0 + 4))
          have HN1 := Aside0.mk hn1
          have HGB := Aside0.mk hgb
          have HHD := Aside0.mk hhd
          have HBD := Aside0.mk hbd
          have HAD := Aside0.mk had
          have HHQ := Aside0.mk hq
          have hbb := HB4.out
          clear hv hh hn1 hgb hgl hhd hbd had hq hb0 HV4 hbb
          go_region_law (fail)
          all_goals
            go_wp2
            have hR6 := Kd.R_lower (Kd.R_drew (HH.out).1) HS3.out.2
            have hlen : ((hd0 + 4) :: (bd ++ ad)).length = n1 := by rw [← HN1.out]; simp only [List.length_cons]
            have hHB : Below wr.heap.size wr (W4.setCell ⟨go, 0, none⟩ (.int .u8 (hd0 + 4))).drew := (HC4.out.setCell (p := ⟨go, 0, none⟩) (Nat.le_trans HS3.out.1 HGB.out) _).drew
            have hHW : Below w.heap.size w (W4.setCell ⟨go, 0, none⟩ (.int .u8 (hd0 + 4))).drew := (HB4.out.setCell (p := ⟨go, 0, none⟩) (Nat.le_trans HS3.out.2 HGB.out) _).drew
            rw [← hlen] at hR6
            refine ⟨⟨3, (hd0 + 4) :: (bd ++ ad), some ⟨go, 0, none⟩, co, by omega, rfl, by rw [hlen], ⟨?_⟩, ⟨(Kd.R_reads' hR6).2.1⟩, ⟨hR6⟩, ⟨HPr.out.below hHB (Nat.le_refl _)⟩, ⟨(hHB.block _ (blk_lt HXr.out)).trans HXr.out⟩, ⟨hHW⟩⟩, by decide⟩
            have hp := HP0.out
            rw [HHD.out, HBD.out, HAD.out]
            show _ = (bitF l.length 1 + bitF a 2 + bitF b 4) :: (addF l ++ (numF a ++ numF b))
            rw [bitF_some hp, numF_some hp, List.append_assoc]
        · have hIS := is2_calls m2 A l.length cp a b c _ HMW.out
          rw [decide_eq_false hp] at hIS
          have HIS := Aside0.mk hIS
          have HP0 := Aside0.mk hp
          clear hIS hp
          go_wp2_with (go_at_call 95; (with_reducible refine HIS.out.mono ?_); rintro e W3 ⟨rfl, hd⟩; have HP3 := Aside0.mk (HPW.out.below hd (Nat.le_refl _)); have HX3 := Aside0.mk ((hd.block _ (blk_lt HBX.out)).trans HBX.out); have HB3 := Aside0.mk (below_then HBW.out HBW.out.size hd); have HQ3 := Aside0.mk (Kd.R_below HQA.out hd); clear hd hz0 hz1 hz2 hz3)
          refine ⟨⟨3, q, Aq, cq, by omega, rfl, rfl, ⟨?_⟩, HLQ, HQ3, HP3, HX3, HB3⟩, by decide⟩
          have hp : ¬ 0 < b := by have := HP0.out; omega
          rw [HQ.out]
          show (bitF l.length 1 + bitF a 2) :: (addF l ++ numF a) = (bitF l.length 1 + bitF a 2 + bitF b 4) :: (addF l ++ (numF a ++ numF b))
          rw [bitF_none hp, numF_none hp, Int.add_zero, List.append_nil]

      · have hP := HPr.out
        have hx0 : wr.cell? ⟨g, 9, none⟩ = some (fv 95 m3) := (blk_cell hP.1 9).trans rfl
        have hx1 : wr.cell? ⟨g, 10, none⟩ = some (fv 96 m3) := (blk_cell hP.1 10).trans rfl
        have hx2 : wr.cell? ⟨g, 11, none⟩ = some (fv 97 m3) := (blk_cell hP.1 11).trans rfl
        have hk4 : decide ((3 : Int) < 4) = true := rfl
        have hBa : Below wr.heap.size wr (wr.alloc (.cells #[fv 95 m3, fv 96 m3, fv 97 m3] 93)) := below_alloc (Below.refl _ _) _
        have HPW := Aside0.mk (hP.below hBa (Nat.le_refl _))
        have HMW : Aside0 ((wr.alloc (.cells #[fv 95 m3, fv 96 m3, fv 97 m3] 93)).heap[m3]? = some (.cells #[f0 85] tSel)) := ⟨(HPW.out).2.2.2⟩
        have hbx : (wr.alloc (.cells #[fv 95 m3, fv 96 m3, fv 97 m3] 93)).heap[w.heap.size]? = some (eBox A l.length cp a b c) := (Below.heap_alloc _ _ _ (blk_lt HXr.out)).trans HXr.out
        have hbn := World.alloc_heap_new wr (.cells #[fv 95 m3, fv 96 m3, fv 97 m3] 93)
        have HBX := Aside0.mk hbx
        have HBN := Aside0.mk hbn
        have HBA := Aside0.mk hBa
        have HBW := Aside0.mk (below_then HBr.out HBr.out.size hBa)
        have HQA := Aside0.mk (Kd.R_below HRr.out hBa)
        have hz0 : (wr.alloc (.cells #[fv 95 m3, fv 96 m3, fv 97 m3] 93)).cell? ⟨w.heap.size, 0, none⟩ = some (.slice A l.length cp) := (blk_cell hbx 0).trans rfl
        have hz1 : (wr.alloc (.cells #[fv 95 m3, fv 96 m3, fv 97 m3] 93)).cell? ⟨w.heap.size, 1, none⟩ = some (.int .u64 a) := (blk_cell hbx 1).trans rfl
        have hz2 : (wr.alloc (.cells #[fv 95 m3, fv 96 m3, fv 97 m3] 93)).cell? ⟨w.heap.size, 2, none⟩ = some (.int .u64 b) := (blk_cell hbx 2).trans rfl
        have hz3 : (wr.alloc (.cells #[fv 95 m3, fv 96 m3, fv 97 m3] 93)).cell? ⟨w.heap.size, 3, none⟩ = some (.int .u64 c) := (blk_cell hbx 3).trans rfl
        clear hP hBa hbn hbx
        by_cases hp : 0 < c
        · have hIS := is3_calls m3 A l.length cp a b c _ HMW.out
          rw [decide_eq_true hp] at hIS
          have HIS := Aside0.mk hIS
          have HP0 := Aside0.mk hp
          clear hIS hp
          go_wp2_with (first
            | (go_at_call 95; (with_reducible refine HIS.out.mono ?_); rintro e W3 ⟨rfl, hd⟩; have HP3 := Aside0.mk (HPW.out.below hd (Nat.le_refl _)); have hbx3 := (hd.block _ (blk_lt HBX.out)).trans HBX.out; have HB3 := Aside0.mk (below_then HBW.out HBW.out.size hd); have HC3 := Aside0.mk (below_then HBA.out HBA.out.size hd); have hbn3 := (hd.block _ (blk_lt HBN.out)).trans HBN.out; have hn1 := (blk_cell hbn3 1).trans rfl; have HQ3 := Aside0.mk (Kd.R_below HQA.out hd); clear hd hz0 hz1 hz2 hz3 hbn3; have hy0 := (blk_cell hbx3 0).trans rfl; have hy1 := (blk_cell hbx3 1).trans rfl; have hy2 := (blk_cell hbx3 2).trans rfl; have hy3 := (blk_cell hbx3 3).trans rfl; clear hbx3)
            | (go_at_call 96; refine (put3_calls m3 A l.length cp a b c Aq cq q W3 (HP3.out).2.2.2 (Kd.R_reads' HQ3.out).2.2 HLQ.out (by have := HQL.out; omega) HW.out.2.2.2).mono ?_; rintro e W4 ⟨v4, rfl, hv4, hd4⟩; have HV4 := Aside0.mk hv4; have HB4 := Aside0.mk (below_then HB3.out HB3.out.size hd4); have HC4 := Aside0.mk (below_then HC3.out HC3.out.size hd4); have HS3 : Aside0 (wr.heap.size ≤ W3.heap.size ∧ w.heap.size ≤ W3.heap.size) := ⟨HC3.out.size, HB3.out.size⟩; clear hv4 hd4 hy0 hy1 hy2 hy3 hn1))
          obtain ⟨hd0, hhd⟩ : ∃ x, x = (bitF l.length 1 + bitF a 2 + bitF b 4) := ⟨_, rfl⟩
          obtain ⟨bd, hbd⟩ : ∃ x, x = (addF l ++ (numF a ++ numF b)) := ⟨_, rfl⟩
          obtain ⟨ad, had⟩ : ∃ x, x = vint c.toNat := ⟨_, rfl⟩
          have hq : q = hd0 :: bd := by rw [HQ.out, hhd, hbd]; rfl
          have hv := HV4.out
          rw [hq, List.cons_append, ← had] at hv
          obtain ⟨go, co, hve, hgb, hgl, _⟩ := Kd.R_form hv (by simp)
          subst hve
          have hb0 : 0 ≤ hd0 ∧ hd0 < 8 := by rw [hhd]; have := bitF_nn l.length 1 (by omega); have := bitF_nn a 2 (by omega); have := bitF_nn b 4 (by omega); omega
          have hor : bits .or .u8 hd0 8 = hd0 + 8 := by
            have h5 := or_fin8 ⟨hd0.toNat, by omega⟩
            rwa [show (((⟨hd0.toNat, by omega⟩ : Fin 8).val : Nat) : Int) = hd0 from Int.toNat_of_nonneg hb0.1] at h5
          generalize hn1 : (hd0 :: (bd ++ ad)).length = n1 at *
          have hn0 : 0 < n1 := by rw [List.length_cons] at hn1; omega
          have hn0' : (0 : Int) < (n1 : Int) := by omega
          have hor' : bits .or .u8 hd0 (IntKind.u8.wrap 8) = hd0 + 8 := hor
          have hh := R_head hv
          have hcc := hh.1
          have hfz := hh.2.1
          have HH := Aside0.mk (hh.2.2 (hd0 + 8))
          have HN1 := Aside0.mk hn1
          have HGB := Aside0.mk hgb
          have HHD := Aside0.mk hhd
          have HBD := Aside0.mk hbd
          have HAD := Aside0.mk had
          have HHQ := Aside0.mk hq
          have hbb := HB4.out
          clear hv hh hn1 hgb hgl hhd hbd had hq hb0 HV4 hbb
          go_region_law (fail)
          all_goals
            go_wp2
            have hR6 := Kd.R_lower (Kd.R_drew (HH.out).1) HS3.out.2
            have hlen : ((hd0 + 8) :: (bd ++ ad)).length = n1 := by rw [← HN1.out]; simp only [List.length_cons]
            have hHB : Below wr.heap.size wr (W4.setCell ⟨go, 0, none⟩ (.int .u8 (hd0 + 8))).drew := (HC4.out.setCell (p := ⟨go, 0, none⟩) (Nat.le_trans HS3.out.1 HGB.out) _).drew
            have hHW : Below w.heap.size w (W4.setCell ⟨go, 0, none⟩ (.int .u8 (hd0 + 8))).drew := (HB4.out.setCell (p := ⟨go, 0, none⟩) (Nat.le_trans HS3.out.2 HGB.out) _).drew
            rw [← hlen] at hR6
            refine ⟨⟨4, (hd0 + 8) :: (bd ++ ad), some ⟨go, 0, none⟩, co, by omega, rfl, by rw [hlen], ⟨?_⟩, ⟨(Kd.R_reads' hR6).2.1⟩, ⟨hR6⟩, ⟨HPr.out.below hHB (Nat.le_refl _)⟩, ⟨(hHB.block _ (blk_lt HXr.out)).trans HXr.out⟩, ⟨hHW⟩⟩, by decide⟩
            have hp := HP0.out
            rw [HHD.out, HBD.out, HAD.out]
            show _ = (bitF l.length 1 + bitF a 2 + bitF b 4 + bitF c 8) :: (addF l ++ (numF a ++ (numF b ++ numF c)))
            rw [bitF_some hp, numF_some hp]; simp only [List.append_assoc]
        · have hIS := is3_calls m3 A l.length cp a b c _ HMW.out
          rw [decide_eq_false hp] at hIS
          have HIS := Aside0.mk hIS
          have HP0 := Aside0.mk hp
          clear hIS hp
          go_wp2_with (go_at_call 95; (with_reducible refine HIS.out.mono ?_); rintro e W3 ⟨rfl, hd⟩; have HP3 := Aside0.mk (HPW.out.below hd (Nat.le_refl _)); have HX3 := Aside0.mk ((hd.block _ (blk_lt HBX.out)).trans HBX.out); have HB3 := Aside0.mk (below_then HBW.out HBW.out.size hd); have HQ3 := Aside0.mk (Kd.R_below HQA.out hd); clear hd hz0 hz1 hz2 hz3)
          refine ⟨⟨4, q, Aq, cq, by omega, rfl, rfl, ⟨?_⟩, HLQ, HQ3, HP3, HX3, HB3⟩, by decide⟩
          have hp : ¬ 0 < c := by have := HP0.out; omega
          rw [HQ.out]
          show (bitF l.length 1 + bitF a 2 + bitF b 4) :: (addF l ++ (numF a ++ numF b)) = (bitF l.length 1 + bitF a 2 + bitF b 4 + bitF c 8) :: (addF l ++ (numF a ++ (numF b ++ numF c)))
          rw [bitF_none hp, numF_none hp, Int.add_zero, List.append_nil]
    · obtain rfl : k = 4 := by omega
      have hk4 : decide ((4 : Int) < 4) = false := rfl
      go_wp2
      go_ret2
      exact ⟨_, rfl, by rw [show formE l a b c = q from HQ.out.symm]; exact HRr.out, HBr.out⟩

set_option maxRecDepth 100000 in
theorem bytes_no (A : Option Addr) (cp : Nat) (l : List MetaS) (a b c : Int) (w : World) (hr : Kd.C k62 w A l.length l) (hc : l.length ≤ cp) (hw : WfE l a b c) (hy : rightB l a b c = false) :
    Calls Try.prog 34 #[aggE A l.length cp a b c] w fun e w' => ∃ v, e = .returned (.tuple #[v, .int .i64 90]) ∧ Kd.R (Kd.int .u8) 5 w' w.heap.size (fun _ => True) v [] ∧ Below w.heap.size w w' := by
  have hu := Try.underlying54
  have hb0 := World.alloc_heap_new w (eBox A l.length cp a b c)
  have HB : Below w.heap.size w (w.alloc (eBox A l.length cp a b c)) := below_alloc (Below.refl _ _) _
  have hcl := right_calls A cp l a b c _ (Kd.C_below hr HB) hc hw
  rw [hy] at hcl
  have HCL := Aside0.mk hcl
  have HB' := Aside0.mk HB
  clear hr hc hw hcl HB hy
  go_enter Try.func34, Try.ntmps34
  go_wp2_with (go_at_call 33; refine HCL.out.mono ?_; rintro e w1 ⟨rfl, hd⟩; have HB1 := Aside0.mk (below_then HB'.out HB'.out.size hd); clear hd hb0)
  go_ret2
  exact ⟨_, rfl, Kd.R_nil _ _ _ _ _, HB1.out⟩
theorem edit_Bytes.calls (A0_0 : Option Addr) (c0_0 : Nat) (l0_0 : List MetaS) (a0_1 a0_2 a0_3 : Int) (r1 : List Int) (r2 : Int) (w : World) (hr0_0 : Kd.C k62 w A0_0 l0_0.length l0_0) (hc0_0 : l0_0.length ≤ c0_0) (h : edit_Bytes.f l0_0 a0_1 a0_2 a0_3 = some (r1, r2)) :
    Calls Try.prog 34 #[.agg #[.slice A0_0 l0_0.length c0_0, .int .u64 a0_1, .int .u64 a0_2, .int .u64 a0_3]] w fun e w' => ∃ v0_ : Value, e = .returned (.tuple #[v0_, .int .i64 r2]) ∧ Kd.R (Kd.int .u8) 5 w' w.heap.size (fun _ => True) v0_ r1 ∧ Below w.heap.size w w' := by
  unfold edit_Bytes.f at h
  by_cases hw : WfE l0_0 a0_1 a0_2 a0_3
  · rw [if_pos hw] at h
    have h := Option.some.inj h
    by_cases hy : rightB l0_0 a0_1 a0_2 a0_3 = true
    · rw [if_pos hy] at h
      simp only [Prod.mk.injEq] at h
      obtain ⟨rfl, rfl⟩ := h
      exact bytes_yes A0_0 c0_0 l0_0 a0_1 a0_2 a0_3 w hr0_0 hc0_0 hw hy
    · rw [if_neg hy] at h
      simp only [Prod.mk.injEq] at h
      obtain ⟨rfl, rfl⟩ := h
      exact bytes_no A0_0 c0_0 l0_0 a0_1 a0_2 a0_3 w hr0_0 hc0_0 hw (by simpa using hy)
  · rw [if_neg hw] at h
    cases h
end Go.Proofs.YtlaihdipagejfaaG

end

section
set_option linter.unusedVariables false
set_option linter.unusedSimpArgs false
namespace Go.Proofs.YtlaihdipagejfaaG
open Go Go.RowKit Go.Proofs.YtlaihdipagejfaaR Go.Proofs.YtlaihdipagejfaaL Go.Proofs.Ytlaihdipagejfaa.P Go.Proofs.YtlaihdipagejfaaW.PrintWords
attribute [local go_sem] Oper.semAt_some run_store_fn

def sameB (a b : List Int) : Bool := (strOfNums a).toList == (strOfNums b).toList
set_option maxRecDepth 100000 in
set_option maxHeartbeats 1000000 in
theorem equal_calls (A0 : Option Addr) (c0 : Nat) (l0 : List Int) (A1 : Option Addr) (c1 : Nat) (l1 : List Int) (w : World) (hr0 : Kd.C (Kd.int .u8) w A0 l0.length l0) (hc0 : l0.length ≤ c0) (hr1 : Kd.C (Kd.int .u8) w A1 l1.length l1) (hc1 : l1.length ≤ c1) :
    Calls Try.prog 62 #[.slice A0 l0.length c0, .slice A1 l1.length c1] w fun e w' => e = .returned (.bool (sameB l0 l1)) ∧ Below w.heap.size w w' := by
  have HR0 := Aside0.mk hr0
  have HR1 := Aside0.mk hr1
  clear hr0 hr1
  have hcv3 := Kd.C_string (P := Try.prog) (A := A0) (c := c0) Try.underlying23 Try.underlying5 Try.underlying9 HR0.out
  have hcv4 := Kd.C_string (P := Try.prog) (A := A1) (c := c1) Try.underlying23 Try.underlying5 Try.underlying9 HR1.out
  go_enter Try.func62, Try.ntmps62
  go_wp2
  go_ret
  exact ⟨rfl, Below.refl _ _⟩

abbrev PS : Type := List MetaS × Int × Int × Int × List Int × Bool
def bitB (h : Int) : Nat → Bool
  | 0 => bits .and .u8 h 1 == 1
  | 1 => bits .and .u8 (h / 2) 1 == 1
  | 2 => bits .and .u8 (h / 4) 1 == 1
  | _ => bits .and .u8 (h / 8) 1 == 1
def stepP (h : Int) : Nat → PS → Option PS
  | 0, (l, a, b, c, r, bad) => if bitB h 0 = true then (addT r bad).bind fun t => some (t.1, a, b, c, t.2.1, t.2.2) else some (l, a, b, c, r, bad)
  | 1, (l, a, b, c, r, bad) => if bitB h 1 = true then (nums_Take.f r).bind fun t => some (l, t.1, b, c, t.2.1, bad || !t.2.2) else some (l, a, b, c, r, bad)
  | 2, (l, a, b, c, r, bad) => if bitB h 2 = true then (nums_Take.f r).bind fun t => some (l, a, t.1, c, t.2.1, bad || !t.2.2) else some (l, a, b, c, r, bad)
  | _, (l, a, b, c, r, bad) => if bitB h 3 = true then (nums_Take.f r).bind fun t => some (l, a, b, t.1, t.2.1, bad || !t.2.2) else some (l, a, b, c, r, bad)
def runP (h : Int) : Nat → Nat → PS → Option PS
  | 0, _, s => some s
  | n + 1, i, s => (stepP h i s).bind fun t => runP h n (i + 1) t
def edit_Parse.f (l0 : List Int) : Option (List MetaS × Int × Int × Int × Int) := match l0 with
  | [] => some ([], 0, 0, 0, 90)
  | h :: t => (runP h 4 0 ([], 0, 0, 0, t, false)).bind fun s => (edit_Bytes.f s.1 s.2.1 s.2.2.1 s.2.2.2.1).bind fun u =>
    if s.2.2.2.2.2 = true ∨ u.2 ≠ 0 ∨ sameB u.1 (h :: t) = false then some ([], 0, 0, 0, 90) else some (s.1, s.2.1, s.2.2.1, s.2.2.2.1, 0)

/-- The state of edit.Parse. -/
structure PSt (g m1 m2 m3 ge r rb : Nat) (v : Value) (l : List MetaS) (a b c : Int) (rest : List Int) (bad : Bool) (W0 W : World) : Prop where
  rd : Rd r (fun k => k ≠ r ∧ k ≠ ge ∧ some k ≠ v.ownBlock) W rest bad
  row : Kd.R k62 62 W W0.heap.size (fun k => k ≠ r ∧ k ≠ ge) v l
  bx : W.heap[ge]? = some (eBx v a b c)
  pt : Parts g m1 m2 m3 W
  rs : W.heap[rb]? = some (eBx (.slice none 0 0) 0 0 0)
  bel : Below W0.heap.size W0 W
  lt : W0.heap.size ≤ ge ∧ W0.heap.size ≤ r ∧ ge ≠ r ∧ rb ≠ r ∧ rb ≠ ge ∧ (g ≠ r ∧ g ≠ ge) ∧ (m1 ≠ r ∧ m1 ≠ ge) ∧ (m2 ≠ r ∧ m2 ≠ ge) ∧ m3 ≠ r ∧ m3 ≠ ge
section
variable {g m1 m2 m3 ge r rb : Nat} {v v' : Value} {l l' : List MetaS} {a b c a' b' c' : Int} {rest rest' : List Int} {bad bad' : Bool} {W0 W W' : World}
theorem PSt.below (h : PSt g m1 m2 m3 ge r rb v l a b c rest bad W0 W) (hb : Below W.heap.size W W') : PSt g m1 m2 m3 ge r rb v l a b c rest bad W0 W' :=
  ⟨(h.rd.keep hb).mono (fun k hk => hk.1), Kd.R_below h.row hb, (hb.block _ (blk_lt h.bx)).trans h.bx, h.pt.below hb (Nat.le_refl _), (hb.block _ (blk_lt h.rs)).trans h.rs, below_then h.bel h.bel.size hb, h.lt⟩
theorem PSt.stays_pt (h : PSt g m1 m2 m3 ge r rb v l a b c rest bad W0 W) (hS : Stays (fun k => k = r ∨ k = ge) W W') : Parts g m1 m2 m3 W' ∧ W'.heap[rb]? = some (eBx (.slice none 0 0) 0 0 0) ∧ Below W0.heap.size W0 W' := by
  obtain ⟨p1, p2, p3, p4⟩ := h.pt
  have hl := h.lt
  refine ⟨⟨(hS.block _ (blk_lt p1) (by omega)).trans p1, (hS.block _ (blk_lt p2) (by omega)).trans p2, (hS.block _ (blk_lt p3) (by omega)).trans p3, (hS.block _ (blk_lt p4) (by omega)).trans p4⟩, (hS.block _ (blk_lt h.rs) (by omega)).trans h.rs, ⟨hS.os.trans h.bel.os, hS.tape.trans h.bel.tape, hS.output.trans h.bel.output, Nat.le_trans h.bel.size hS.size, fun k hk => (hS.block k (Nat.lt_of_lt_of_le hk h.bel.size) (by omega)).trans (h.bel.block k hk)⟩⟩
theorem PSt.num (h : PSt g m1 m2 m3 ge r rb v l a b c rest bad W0 W) (hS : Stays (fun k => k = r ∨ k = ge) W W') (hR : Rd r (orNew (fun k => k ≠ r ∧ k ≠ ge ∧ some k ≠ v.ownBlock) W) W' rest' bad') (hg : W'.heap[ge]? = some (eBx v a' b' c')) : PSt g m1 m2 m3 ge r rb v l a' b' c' rest' bad' W0 W' := by
  obtain ⟨q1, q2, q3⟩ := h.stays_pt hS
  have hr := h.rd.lt
  have hge := blk_lt h.bx
  have hv := Kd.R_lt h.row
  exact ⟨hR.mono (fun k hk => hk.elim (fun x => x) (fun x => ⟨by omega, by omega, fun e => by have := hv k e.symm; omega⟩)), Kd.R_step h.row (fun k hk hlt => hS.block k hlt (by omega)), hg, q1, q2, q3, h.lt⟩
theorem PSt.add {ok : Nat → Prop} (h : PSt g m1 m2 m3 ge r rb v l a b c rest bad W0 W) (hS : Stays (fun k => k = r ∨ k = ge) W W') (hok : ∀ k, ok k → k ≠ r ∧ k ≠ ge) (hB : Beg W.heap.size r ge ok v' l' a b c rest' bad' W') : PSt g m1 m2 m3 ge r rb v' l' a b c rest' bad' W0 W' := by
  obtain ⟨q1, q2, q3⟩ := h.stays_pt hS
  have hr := h.rd.lt
  have hge := blk_lt h.bx
  have hbs := h.bel.size
  exact ⟨hB.rd.mono (fun k hk => ⟨hk.1.elim (fun x => (hok k x).1) (fun x => by omega), hk.1.elim (fun x => (hok k x).2) (fun x => by omega), hk.2⟩), Kd.R_lower (Kd.R_mono (Kd.R_bound hB.row) (fun k hk => ⟨by have := hk.2.1; omega, by have := hk.2.1; omega⟩)) hbs, hB.bx, q1, q2, q3, h.lt⟩
end

set_option maxRecDepth 100000 in
set_option maxHeartbeats 8000000 in
theorem parse_cons (A0 : Option Addr) (c0 : Nat) (h : Int) (t : List Int) (r1 : List MetaS) (r2 r3 r4 r5 : Int) (w : World) (hr0 : Kd.C (Kd.int .u8) w A0 (h :: t).length (h :: t)) (hc0 : (h :: t).length ≤ c0) (hf : edit_Parse.f (h :: t) = some (r1, r2, r3, r4, r5)) :
    Calls Try.prog 37 #[.slice A0 (h :: t).length c0] w fun e w' => ∃ v0_ : Value, e = .returned (.tuple #[.agg #[v0_, .int .u64 r2, .int .u64 r3, .int .u64 r4], .int .i64 r5]) ∧ Kd.R k62 62 w' w.heap.size (fun _ => True) v0_ r1 ∧ Below w.heap.size w w' := by
  unfold edit_Parse.f at hf
  obtain ⟨⟨l, a, b, c, rest, bad⟩, hrun, hf⟩ := Option.bind_eq_some_iff.1 hf
  obtain ⟨⟨by_, er⟩, hby, hf⟩ := Option.bind_eq_some_iff.1 hf
  have HRUN := Aside0.mk hrun
  have HBY := Aside0.mk hby
  have HF := Aside0.mk hf
  have HC := Aside0.mk hr0
  obtain ⟨ad, e, hcc⟩ := (Kd.reads_of_C (d := (0 : Int)) hr0).2.2 (by simp)
  subst e
  have HAD := Aside0.mk hcc
  have hF0 := F_int hr0
  obtain ⟨A2, hA2⟩ : ∃ A1, A1 = (if c0 = (1 : Int).toNat then some ad else (some ad : Option Addr).map (·.add ((1 : Int).toNat * 1))) := ⟨_, rfl⟩
  have hfr : Fb w (fun k => k < w.heap.size) A2 t := by
    refine Kd.F_imp hF0 (fun W' hC' => ?_)
    have := Kd.C_drop (m := (1 : Int).toNat) (c := c0) hC' (by simp) hc0
    rw [hA2]
    exact this
  obtain ⟨i02, hi02, _, hsz02, _⟩ := info_parts info5
  have hcut := cut_from (P := Try.prog) 23 5 .i64 Try.underlying23 hi02 1 hsz02 (some ad) (h :: t).length c0 1 (by omega) (by simp; omega)
  rw [← hA2] at hcut
  obtain ⟨c2, hc2⟩ : ∃ c1, c1 = c0 - (1 : Int).toNat := ⟨_, rfl⟩
  rw [← hc2] at hcut
  rw [show (h :: t).length - (1 : Int).toNat = t.length by simp] at hcut
  have HFR := Aside0.mk hfr
  have HC2 : Aside0 (t.length ≤ c2) := ⟨by rw [hc2]; simp at hc0 ⊢; omega⟩
  have HC0 := Aside0.mk hc0
  have hu := Try.underlying54
  have hup := Try.underlying93
  have hur := Try.underlying97
  have hn0 : ((t.length + 1 : Nat) : Int) ≠ 0 := by omega
  simp only [List.length_cons] at hcut
  clear hr0 hc0 hf hrun hby hcc hF0 hA2 hfr hi02 hsz02 hc2
  go_enter Try.func37, Try.ntmps37
  go_wp2_with fail
  obtain ⟨W3, hW3⟩ : ∃ W, W = ((w.alloc (eBx (.slice none 0 0) 0 0 0)).alloc (eBx (.slice none 0 0) 0 0 0)).alloc (.cells #[.slice A2 t.length c2, .bool false] 97) := ⟨_, rfl⟩
  rw [show ((w.alloc (.cells #[.slice none 0 0, .int .u64 0, .int .u64 0, .int .u64 0] 54)).alloc (.cells #[.slice none 0 0, .int .u64 0, .int .u64 0, .int .u64 0] 54)).alloc (.cells #[.slice A2 t.length c2, .bool false] 97) = W3 from hW3.symm]
  obtain ⟨ge, hge⟩ : ∃ x, x = w.heap.size + 1 := ⟨_, rfl⟩
  obtain ⟨r, hr⟩ : ∃ x, x = w.heap.size + 1 + 1 := ⟨_, rfl⟩
  have hB3 : Below w.heap.size w W3 := by rw [hW3]; exact below_alloc (below_alloc (below_alloc (Below.refl _ _) _) _) _
  have hs3 : W3.heap.size = w.heap.size + 3 := by rw [hW3]; simp
  have hbs : W3.heap[w.heap.size]? = some (eBx (.slice none 0 0) 0 0 0) := by
    rw [hW3]
    exact (Below.heap_alloc _ _ _ (by simp; omega)).trans ((Below.heap_alloc _ _ _ (by simp)).trans (World.alloc_heap_new w _))
  have hbe : W3.heap[ge]? = some (eBx (.slice none 0 0) 0 0 0) := by
    have h7 := World.alloc_heap_new (w.alloc (eBx (.slice none 0 0) 0 0 0)) (eBx (.slice none 0 0) 0 0 0)
    rw [World.size_alloc] at h7
    rw [hW3, hge]
    exact (Below.heap_alloc _ _ _ (by simp)).trans h7
  have hbr : W3.heap[r]? = some (.cells #[.slice A2 t.length c2, .bool false] 97) := by
    have h7 := World.alloc_heap_new ((w.alloc (eBx (.slice none 0 0) 0 0 0)).alloc (eBx (.slice none 0 0) 0 0 0)) (.cells #[.slice A2 t.length c2, .bool false] 97)
    rw [World.size_alloc, World.size_alloc] at h7
    rw [hW3, hr]
    exact h7
  rw [← hr, ← hge]
  have HB3 := Aside0.mk hB3
  have HS3 := Aside0.mk hs3
  have HBS := Aside0.mk hbs
  have HBE := Aside0.mk hbe
  have HBR := Aside0.mk hbr
  have HGE := Aside0.mk hge
  have HRR := Aside0.mk hr
  have h00 : w.cell? ad = some (.int .u8 h) := by
    have h0 := HAD.out 0 (by simp)
    simp only [List.getD_cons_zero] at h0
    simpa [Addr.add] using h0
  have H00 := Aside0.mk h00
  clear hB3 hs3 hbs hbe hbr hge hr hW3 h00 HAD
  go_wp2_with (go_at_call 60; refine (parts_calls _).mono ?_; rintro e w4 ⟨g, m1, m2, m3, rfl, hP, hgg, hd⟩; have HS4 : Aside0 (PSt g m1 m2 m3 ge r w.heap.size (.slice none ([] : List MetaS).length 0) [] 0 0 0 t false w w4) := ⟨⟨⟨A2, c2, (hd.block _ (blk_lt HBR.out)).trans HBR.out, HC2.out, Kd.F_mono (Kd.F_below (Kd.F_below HFR.out HB3.out) hd) (fun k hk => ⟨by have := HRR.out; omega, by have := HGE.out; omega, by simp [Value.ownBlock]⟩)⟩, Kd.R_nil _ _ _ _ _, (hd.block _ (blk_lt HBE.out)).trans HBE.out, hP, (hd.block _ (blk_lt HBS.out)).trans HBS.out, below_then HB3.out HB3.out.size hd, by have h1 := HGE.out; have h2 := HRR.out; have h3 := HS3.out; omega⟩⟩; clear hP hgg hd)
  go_loopw [20] (fun v20 wr => ∃ (k : Nat) (l1 : List MetaS) (a1 b1 cc1 : Int) (rest1 : List Int) (bad1 : Bool) (A1 : Option Addr) (cp1 : Nat), k ≤ 4 ∧ v20 = .int .i64 k ∧ Aside0 (k = 0 → l1 = [] ∧ A1 = none ∧ cp1 = 0) ∧ Aside0 (runP h (4 - k) k (l1, a1, b1, cc1, rest1, bad1) = some (l, a, b, c, rest, bad)) ∧ Aside0 (PSt g m1 m2 m3 ge r w.heap.size (.slice A1 l1.length cp1) l1 a1 b1 cc1 rest1 bad1 w wr)) (fun v20 _ => 4 - (intOf v20).toNat)
  case atStart => exact ⟨0, [], 0, 0, 0, t, false, none, 0, by omega, rfl, ⟨fun _ => ⟨rfl, rfl, rfl⟩⟩, HRUN, HS4⟩
  case round =>
    obtain ⟨k, l1, a1, b1, cc1, rest1, bad1, A1, cp1, hk, rfl, HK0, HRN, HS⟩ := hrel
    clear HS4 HRUN HBR HBE HBS HFR
    by_cases hlt : k < 4
    · have hk' : k = 0 ∨ k = 1 ∨ k = 2 ∨ k = 3 := by omega
      rcases hk' with rfl | rfl | rfl | rfl
      · have hP := HS.out.pt
        have hx0 : wr.cell? ⟨g, 0, none⟩ = some (f0 90) := (blk_cell hP.1 0).trans rfl
        have hx1 : wr.cell? ⟨g, 1, none⟩ = some (f0 91) := (blk_cell hP.1 1).trans rfl
        have hx2 : wr.cell? ⟨g, 2, none⟩ = some (f0 92) := (blk_cell hP.1 2).trans rfl
        have hBa : Below wr.heap.size wr (wr.alloc (.cells #[f0 90, f0 91, f0 92] 93)) := below_alloc (Below.refl _ _) _
        have hcell : (wr.alloc (.cells #[f0 90, f0 91, f0 92] 93)).cell? ad = some (.int .u8 h) := pw_cell_below (below_then HS.out.bel HS.out.bel.size hBa) H00.out
        have HSA := Aside0.mk (HS.out.below hBa)
        clear hP hBa
        have h9 : (stepP h 0 (l1, a1, b1, cc1, rest1, bad1)).bind (fun t => runP h 3 1 t) = some (l, a, b, c, rest, bad) := HRN.out
        by_cases hb : (bits .and .u8 h 1 == 1) = true
        · rw [show stepP h 0 (l1, a1, b1, cc1, rest1, bad1) = ((addT rest1 bad1).bind fun t => some (t.1, a1, b1, cc1, t.2.1, t.2.2)) from if_pos (show bitB h 0 = true from hb)] at h9
          obtain ⟨s9, h8, h9⟩ := Option.bind_eq_some_iff.1 h9
          obtain ⟨⟨z1, z2, z3⟩, hz, h8⟩ := Option.bind_eq_some_iff.1 h8
          obtain rfl := Option.some.inj h8
          have H9 := Aside0.mk h9
          have HZ := Aside0.mk hz
          clear h9 h8 hz
          obtain ⟨rfl, rfl, rfl⟩ := HK0.out rfl
          go_wp2_with (go_at_call 92; refine (takeA_calls ge r a1 b1 cc1 rest1 bad1 _ (fun k hk => ⟨hk.1, hk.2.1⟩) HSA.out.lt.2.2.1 _ HSA.out.rd HSA.out.bx z1 z2 z3 HZ.out).mono ?_; rintro e w5 ⟨v5, ⟨u5, rfl⟩, hS5, hB5⟩; obtain ⟨A5, c5, e5⟩ := Kd.R_slice hB5.row; subst e5; have HS5 := Aside0.mk (HSA.out.add hS5 (fun k hk => ⟨hk.1, hk.2.1⟩) hB5); clear hS5 hB5 hcell)
          refine ⟨⟨1, z1, a1, b1, cc1, z2, z3, A5, c5, by omega, rfl, ⟨by omega⟩, ⟨H9.out⟩, HS5⟩, by decide⟩
        · rw [show stepP h 0 (l1, a1, b1, cc1, rest1, bad1) = some (l1, a1, b1, cc1, rest1, bad1) from if_neg (show ¬ bitB h 0 = true from hb)] at h9
          have hb := Bool.eq_false_iff.2 hb
          have H9 := Aside0.mk h9
          clear h9
          go_wp2
          refine ⟨⟨1, l1, a1, b1, cc1, rest1, bad1, A1, cp1, by omega, rfl, ⟨by omega⟩, ⟨H9.out⟩, HSA⟩, by decide⟩

      · have hP := HS.out.pt
        have hx0 : wr.cell? ⟨g, 3, none⟩ = some (fv 95 m1) := (blk_cell hP.1 3).trans rfl
        have hx1 : wr.cell? ⟨g, 4, none⟩ = some (fv 96 m1) := (blk_cell hP.1 4).trans rfl
        have hx2 : wr.cell? ⟨g, 5, none⟩ = some (fv 97 m1) := (blk_cell hP.1 5).trans rfl
        have hBa : Below wr.heap.size wr (wr.alloc (.cells #[fv 95 m1, fv 96 m1, fv 97 m1] 93)) := below_alloc (Below.refl _ _) _
        have hcell : (wr.alloc (.cells #[fv 95 m1, fv 96 m1, fv 97 m1] 93)).cell? ad = some (.int .u8 h) := pw_cell_below (below_then HS.out.bel HS.out.bel.size hBa) H00.out
        have HSA := Aside0.mk (HS.out.below hBa)
        clear hP hBa
        have h9 : (stepP h 1 (l1, a1, b1, cc1, rest1, bad1)).bind (fun t => runP h 2 2 t) = some (l, a, b, c, rest, bad) := HRN.out
        by_cases hb : (bits .and .u8 (h / 2) 1 == 1) = true
        · rw [show stepP h 1 (l1, a1, b1, cc1, rest1, bad1) = ((nums_Take.f rest1).bind fun t => some (l1, t.1, b1, cc1, t.2.1, bad1 || !t.2.2)) from if_pos (show bitB h 1 = true from hb)] at h9
          obtain ⟨s9, h8, h9⟩ := Option.bind_eq_some_iff.1 h9
          obtain ⟨⟨z1, z2, z3⟩, hz, h8⟩ := Option.bind_eq_some_iff.1 h8
          obtain rfl := Option.some.inj h8
          have H9 := Aside0.mk h9
          have HZ := Aside0.mk hz
          clear h9 h8 hz
          go_wp2_with (go_at_call 97; refine (take1_calls m1 ge r _ a1 b1 cc1 rest1 bad1 _ (fun k hk => ⟨hk.1, hk.2.1⟩) HSA.out.lt.2.2.1 (by have := HSA.out.lt; omega) _ HSA.out.rd HSA.out.bx HSA.out.pt.2.1 z1 z2 z3 HZ.out).mono ?_; rintro e w5 ⟨⟨u5, rfl⟩, hS5, hR5, hg5⟩; have HS5 := Aside0.mk (HSA.out.num hS5 hR5 hg5); clear hS5 hR5 hg5 hcell)
          refine ⟨⟨2, l1, z1, b1, cc1, z2, _, A1, cp1, by omega, rfl, ⟨by omega⟩, ⟨H9.out⟩, HS5⟩, by decide⟩
        · rw [show stepP h 1 (l1, a1, b1, cc1, rest1, bad1) = some (l1, a1, b1, cc1, rest1, bad1) from if_neg (show ¬ bitB h 1 = true from hb)] at h9
          have hb := Bool.eq_false_iff.2 hb
          have H9 := Aside0.mk h9
          clear h9
          go_wp2
          refine ⟨⟨2, l1, a1, b1, cc1, rest1, bad1, A1, cp1, by omega, rfl, ⟨by omega⟩, ⟨H9.out⟩, HSA⟩, by decide⟩

      · have hP := HS.out.pt
        have hx0 : wr.cell? ⟨g, 6, none⟩ = some (fv 95 m2) := (blk_cell hP.1 6).trans rfl
        have hx1 : wr.cell? ⟨g, 7, none⟩ = some (fv 96 m2) := (blk_cell hP.1 7).trans rfl
        have hx2 : wr.cell? ⟨g, 8, none⟩ = some (fv 97 m2) := (blk_cell hP.1 8).trans rfl
        have hBa : Below wr.heap.size wr (wr.alloc (.cells #[fv 95 m2, fv 96 m2, fv 97 m2] 93)) := below_alloc (Below.refl _ _) _
        have hcell : (wr.alloc (.cells #[fv 95 m2, fv 96 m2, fv 97 m2] 93)).cell? ad = some (.int .u8 h) := pw_cell_below (below_then HS.out.bel HS.out.bel.size hBa) H00.out
        have HSA := Aside0.mk (HS.out.below hBa)
        clear hP hBa
        have h9 : (stepP h 2 (l1, a1, b1, cc1, rest1, bad1)).bind (fun t => runP h 1 3 t) = some (l, a, b, c, rest, bad) := HRN.out
        by_cases hb : (bits .and .u8 (h / 4) 1 == 1) = true
        · rw [show stepP h 2 (l1, a1, b1, cc1, rest1, bad1) = ((nums_Take.f rest1).bind fun t => some (l1, a1, t.1, cc1, t.2.1, bad1 || !t.2.2)) from if_pos (show bitB h 2 = true from hb)] at h9
          obtain ⟨s9, h8, h9⟩ := Option.bind_eq_some_iff.1 h9
          obtain ⟨⟨z1, z2, z3⟩, hz, h8⟩ := Option.bind_eq_some_iff.1 h8
          obtain rfl := Option.some.inj h8
          have H9 := Aside0.mk h9
          have HZ := Aside0.mk hz
          clear h9 h8 hz
          go_wp2_with (go_at_call 97; refine (take2_calls m2 ge r _ a1 b1 cc1 rest1 bad1 _ (fun k hk => ⟨hk.1, hk.2.1⟩) HSA.out.lt.2.2.1 (by have := HSA.out.lt; omega) _ HSA.out.rd HSA.out.bx HSA.out.pt.2.2.1 z1 z2 z3 HZ.out).mono ?_; rintro e w5 ⟨⟨u5, rfl⟩, hS5, hR5, hg5⟩; have HS5 := Aside0.mk (HSA.out.num hS5 hR5 hg5); clear hS5 hR5 hg5 hcell)
          refine ⟨⟨3, l1, a1, z1, cc1, z2, _, A1, cp1, by omega, rfl, ⟨by omega⟩, ⟨H9.out⟩, HS5⟩, by decide⟩
        · rw [show stepP h 2 (l1, a1, b1, cc1, rest1, bad1) = some (l1, a1, b1, cc1, rest1, bad1) from if_neg (show ¬ bitB h 2 = true from hb)] at h9
          have hb := Bool.eq_false_iff.2 hb
          have H9 := Aside0.mk h9
          clear h9
          go_wp2
          refine ⟨⟨3, l1, a1, b1, cc1, rest1, bad1, A1, cp1, by omega, rfl, ⟨by omega⟩, ⟨H9.out⟩, HSA⟩, by decide⟩

      · have hP := HS.out.pt
        have hx0 : wr.cell? ⟨g, 9, none⟩ = some (fv 95 m3) := (blk_cell hP.1 9).trans rfl
        have hx1 : wr.cell? ⟨g, 10, none⟩ = some (fv 96 m3) := (blk_cell hP.1 10).trans rfl
        have hx2 : wr.cell? ⟨g, 11, none⟩ = some (fv 97 m3) := (blk_cell hP.1 11).trans rfl
        have hBa : Below wr.heap.size wr (wr.alloc (.cells #[fv 95 m3, fv 96 m3, fv 97 m3] 93)) := below_alloc (Below.refl _ _) _
        have hcell : (wr.alloc (.cells #[fv 95 m3, fv 96 m3, fv 97 m3] 93)).cell? ad = some (.int .u8 h) := pw_cell_below (below_then HS.out.bel HS.out.bel.size hBa) H00.out
        have HSA := Aside0.mk (HS.out.below hBa)
        clear hP hBa
        have h9 : (stepP h 3 (l1, a1, b1, cc1, rest1, bad1)).bind (fun t => runP h 0 4 t) = some (l, a, b, c, rest, bad) := HRN.out
        by_cases hb : (bits .and .u8 (h / 8) 1 == 1) = true
        · rw [show stepP h 3 (l1, a1, b1, cc1, rest1, bad1) = ((nums_Take.f rest1).bind fun t => some (l1, a1, b1, t.1, t.2.1, bad1 || !t.2.2)) from if_pos (show bitB h 3 = true from hb)] at h9
          obtain ⟨s9, h8, h9⟩ := Option.bind_eq_some_iff.1 h9
          obtain ⟨⟨z1, z2, z3⟩, hz, h8⟩ := Option.bind_eq_some_iff.1 h8
          obtain rfl := Option.some.inj h8
          have H9 := Aside0.mk h9
          have HZ := Aside0.mk hz
          clear h9 h8 hz
          go_wp2_with (go_at_call 97; refine (take3_calls m3 ge r _ a1 b1 cc1 rest1 bad1 _ (fun k hk => ⟨hk.1, hk.2.1⟩) HSA.out.lt.2.2.1 (by have := HSA.out.lt; omega) _ HSA.out.rd HSA.out.bx HSA.out.pt.2.2.2 z1 z2 z3 HZ.out).mono ?_; rintro e w5 ⟨⟨u5, rfl⟩, hS5, hR5, hg5⟩; have HS5 := Aside0.mk (HSA.out.num hS5 hR5 hg5); clear hS5 hR5 hg5 hcell)
          refine ⟨⟨4, l1, a1, b1, z1, z2, _, A1, cp1, by omega, rfl, ⟨by omega⟩, ⟨H9.out⟩, HS5⟩, by decide⟩
        · rw [show stepP h 3 (l1, a1, b1, cc1, rest1, bad1) = some (l1, a1, b1, cc1, rest1, bad1) from if_neg (show ¬ bitB h 3 = true from hb)] at h9
          have hb := Bool.eq_false_iff.2 hb
          have H9 := Aside0.mk h9
          clear h9
          go_wp2
          refine ⟨⟨4, l1, a1, b1, cc1, rest1, bad1, A1, cp1, by omega, rfl, ⟨by omega⟩, ⟨H9.out⟩, HSA⟩, by decide⟩
    · obtain rfl : k = 4 := by omega
      have h9 : some (l1, a1, b1, cc1, rest1, bad1) = some (l, a, b, c, rest, bad) := HRN.out
      simp only [Option.some.injEq, Prod.mk.injEq] at h9
      obtain ⟨rfl, rfl, rfl, rfl, rfl, rfl⟩ := h9
      have hbx := HS.out.bx
      have hy0 : wr.cell? ⟨ge, 0, none⟩ = some (.slice A1 l1.length cp1) := (blk_cell hbx 0).trans rfl
      have hy1 : wr.cell? ⟨ge, 1, none⟩ = some (.int .u64 a1) := (blk_cell hbx 1).trans rfl
      have hy2 : wr.cell? ⟨ge, 2, none⟩ = some (.int .u64 b1) := (blk_cell hbx 2).trans rfl
      have hy3 : wr.cell? ⟨ge, 3, none⟩ = some (.int .u64 cc1) := (blk_cell hbx 3).trans rfl
      have her : er = 0 ∨ er = 90 := by
        have h8 := HBY.out
        unfold edit_Bytes.f at h8
        by_cases h7 : WfE l1 a1 b1 cc1
        · rw [if_pos h7] at h8
          have h8 := Option.some.inj h8
          by_cases h6 : rightB l1 a1 b1 cc1 = true
          · rw [if_pos h6] at h8
            exact .inl (congrArg Prod.snd h8).symm
          · rw [if_neg h6] at h8
            exact .inr (congrArg Prod.snd h8).symm
        · rw [if_neg h7] at h8
          cases h8
      have hff : (if bad1 = true ∨ er ≠ 0 ∨ sameB by_ (h :: t) = false then some (([], 0, 0, 0, 90) : List MetaS × Int × Int × Int × Int) else some (l1, a1, b1, cc1, 0)) = some (r1, r2, r3, r4, r5) := HF.out
      have HFF := Aside0.mk hff
      clear hbx hff HF
      by_cases hbad : bad1 = true ∨ er ≠ 0
      · have hff := HFF.out
        rw [if_pos (hbad.elim .inl (fun x => .inr (.inl x)))] at hff
        simp only [Option.some.injEq, Prod.mk.injEq] at hff
        obtain ⟨rfl, rfl, rfl, rfl, rfl⟩ := hff
        have hcs : (bad1 = true) ∨ (bad1 = false ∧ er = 90) := by
          cases bad1 with
          | true => exact .inl rfl
          | false => exact .inr ⟨rfl, by rcases her with h1 | h1; (· exact absurd h1 (by simpa using hbad)); exact h1⟩
        clear hbad her HFF
        rcases hcs with rfl | ⟨rfl, rfl⟩
        all_goals
          go_wp2_with (go_at_call 34; refine (edit_Bytes.calls A1 cp1 l1 a1 b1 cc1 by_ _ wr (Kd.R_reads' HS.out.row).2.2 (Kd.R_reads' HS.out.row).2.1 HBY.out).mono ?_; rintro e w6 ⟨v6, rfl, hv6, hd6⟩; have HS6 := Aside0.mk (HS.out.below hd6); obtain ⟨A6, c6, e6⟩ := Kd.R_slice hv6; subst e6; have HV6 := Aside0.mk hv6; have HRR6 := Aside0.mk (below_then HS.out.bel HS.out.bel.size hd6); clear hv6 hd6 hy0 hy1 hy2 hy3; obtain ⟨A7, c7, hb7, _, _⟩ := HS6.out.rd; have hr1 := (blk_cell hb7 1).trans rfl; have hz := HS6.out.rs; have hz0 := (blk_cell hz 0).trans rfl; have hz1 := (blk_cell hz 1).trans rfl; have hz2 := (blk_cell hz 2).trans rfl; have hz3 := (blk_cell hz 3).trans rfl; have hg0 := blk_frozen hz 0; have hg1 := blk_frozen hz 1; have hg2 := blk_frozen hz 2; have hg3 := blk_frozen hz 3; clear hb7 hz)
          refine bodyPost_ret (results_ct rfl _ _ w.heap.size 54 #[.slice none 0 0, .int .u64 0, .int .u64 0, .int .u64 0] (0, 0) _ rfl (blk_put (cs' := #[.slice none 0 0, .int .u64 0, .int .u64 0, .int .u64 0]) (blk_put (cs' := #[.slice none 0 0, .int .u64 0, .int .u64 0, .int .u64 0]) (blk_put (cs' := #[.slice none 0 0, .int .u64 0, .int .u64 0, .int .u64 0]) (blk_put (cs' := #[.slice none 0 0, .int .u64 0, .int .u64 0, .int .u64 0]) HS6.out.rs 0 _ rfl) 1 _ rfl) 2 _ rfl) 3 _ rfl) hu rfl (by kernel_rfl)) rfl ?_
          exact ⟨_, rfl, Kd.R_nil _ _ _ _ _, (((HS6.out.bel.setCell (p := ⟨w.heap.size, 0, none⟩) (Nat.le_refl _) _).setCell (p := ⟨w.heap.size, 1, none⟩) (Nat.le_refl _) _).setCell (p := ⟨w.heap.size, 2, none⟩) (Nat.le_refl _) _).setCell (p := ⟨w.heap.size, 3, none⟩) (Nat.le_refl _) _⟩
      · have hbf : bad1 = false := by cases bad1 with | true => exact absurd (.inl rfl) hbad | false => rfl
        have he0 : er = 0 := by rcases her with h1 | h1; (· exact h1); exact absurd (.inr (by rw [h1]; decide)) hbad
        subst hbf
        subst he0
        clear hbad her
        have hff := HFF.out
        cases hsm : sameB by_ (h :: t) with
        | false =>
          rw [if_pos (.inr (.inr hsm))] at hff
          simp only [Option.some.injEq, Prod.mk.injEq] at hff
          obtain ⟨rfl, rfl, rfl, rfl, rfl⟩ := hff
          have HSM := Aside0.mk hsm
          clear hsm HFF
          go_wp2_with (first
            | (go_at_call 34; refine (edit_Bytes.calls A1 cp1 l1 a1 b1 cc1 by_ _ wr (Kd.R_reads' HS.out.row).2.2 (Kd.R_reads' HS.out.row).2.1 HBY.out).mono ?_; rintro e w6 ⟨v6, rfl, hv6, hd6⟩; have HS6 := Aside0.mk (HS.out.below hd6); obtain ⟨A6, c6, e6⟩ := Kd.R_slice hv6; subst e6; have HV6 := Aside0.mk hv6; have HRR6 := Aside0.mk (below_then HS.out.bel HS.out.bel.size hd6); clear hv6 hd6 hy0 hy1 hy2 hy3; obtain ⟨A7, c7, hb7, _, _⟩ := HS6.out.rd; have hr1 := (blk_cell hb7 1).trans rfl; have hz := HS6.out.rs; have hz0 := (blk_cell hz 0).trans rfl; have hz1 := (blk_cell hz 1).trans rfl; have hz2 := (blk_cell hz 2).trans rfl; have hz3 := (blk_cell hz 3).trans rfl; have hg0 := blk_frozen hz 0; have hg1 := blk_frozen hz 1; have hg2 := blk_frozen hz 2; have hg3 := blk_frozen hz 3; clear hb7 hz)
            | (go_at_call 62; refine (equal_calls A6 c6 by_ (some ad) c0 (h :: t) w6 (Kd.R_reads' HV6.out).2.2 (Kd.R_reads' HV6.out).2.1 (Kd.C_below HC.out HRR6.out) HC0.out).mono ?_; rw [HSM.out]; rintro e w8 ⟨rfl, hd8⟩; have hS8 := HS6.out.below hd8; clear hz0 hz1 hz2 hz3 hg0 hg1 hg2 hg3 hr1; have hz := hS8.rs; have hz0 := (blk_cell hz 0).trans rfl; have hz1 := (blk_cell hz 1).trans rfl; have hz2 := (blk_cell hz 2).trans rfl; have hz3 := (blk_cell hz 3).trans rfl; have hg0 := blk_frozen hz 0; have hg1 := blk_frozen hz 1; have hg2 := blk_frozen hz 2; have hg3 := blk_frozen hz 3; have HS8 := Aside0.mk hS8; clear hz hS8 hd8))
          refine bodyPost_ret (results_ct rfl _ _ w.heap.size 54 #[.slice none 0 0, .int .u64 0, .int .u64 0, .int .u64 0] (0, 0) _ rfl (blk_put (cs' := #[.slice none 0 0, .int .u64 0, .int .u64 0, .int .u64 0]) (blk_put (cs' := #[.slice none 0 0, .int .u64 0, .int .u64 0, .int .u64 0]) (blk_put (cs' := #[.slice none 0 0, .int .u64 0, .int .u64 0, .int .u64 0]) (blk_put (cs' := #[.slice none 0 0, .int .u64 0, .int .u64 0, .int .u64 0]) HS8.out.rs 0 _ rfl) 1 _ rfl) 2 _ rfl) 3 _ rfl) hu rfl (by kernel_rfl)) rfl ?_
          exact ⟨_, rfl, Kd.R_nil _ _ _ _ _, (((HS8.out.bel.setCell (p := ⟨w.heap.size, 0, none⟩) (Nat.le_refl _) _).setCell (p := ⟨w.heap.size, 1, none⟩) (Nat.le_refl _) _).setCell (p := ⟨w.heap.size, 2, none⟩) (Nat.le_refl _) _).setCell (p := ⟨w.heap.size, 3, none⟩) (Nat.le_refl _) _⟩
        | true =>
          rw [if_neg (by rintro (h1 | h1 | h1); (· cases h1); (· exact h1 rfl); rw [hsm] at h1; cases h1)] at hff
          simp only [Option.some.injEq, Prod.mk.injEq] at hff
          obtain ⟨rfl, rfl, rfl, rfl, rfl⟩ := hff
          have HSM := Aside0.mk hsm
          clear hsm HFF
          go_wp2_with (first
            | (go_at_call 34; refine (edit_Bytes.calls A1 cp1 l1 a1 b1 cc1 by_ _ wr (Kd.R_reads' HS.out.row).2.2 (Kd.R_reads' HS.out.row).2.1 HBY.out).mono ?_; rintro e w6 ⟨v6, rfl, hv6, hd6⟩; have HS6 := Aside0.mk (HS.out.below hd6); obtain ⟨A6, c6, e6⟩ := Kd.R_slice hv6; subst e6; have HV6 := Aside0.mk hv6; have HRR6 := Aside0.mk (below_then HS.out.bel HS.out.bel.size hd6); clear hv6 hd6 hy0 hy1 hy2 hy3; obtain ⟨A7, c7, hb7, _, _⟩ := HS6.out.rd; have hr1 := (blk_cell hb7 1).trans rfl; have hz := HS6.out.rs; have hz0 := (blk_cell hz 0).trans rfl; have hz1 := (blk_cell hz 1).trans rfl; have hz2 := (blk_cell hz 2).trans rfl; have hz3 := (blk_cell hz 3).trans rfl; have hg0 := blk_frozen hz 0; have hg1 := blk_frozen hz 1; have hg2 := blk_frozen hz 2; have hg3 := blk_frozen hz 3; clear hb7 hz)
            | (go_at_call 62; refine (equal_calls A6 c6 by_ (some ad) c0 (h :: t) w6 (Kd.R_reads' HV6.out).2.2 (Kd.R_reads' HV6.out).2.1 (Kd.C_below HC.out HRR6.out) HC0.out).mono ?_; rw [HSM.out]; rintro e w8 ⟨rfl, hd8⟩; have hS8 := HS6.out.below hd8; clear hz0 hz1 hz2 hz3 hg0 hg1 hg2 hg3 hr1; have hz := hS8.rs; have hz0 := (blk_cell hz 0).trans rfl; have hz1 := (blk_cell hz 1).trans rfl; have hz2 := (blk_cell hz 2).trans rfl; have hz3 := (blk_cell hz 3).trans rfl; have hg0 := blk_frozen hz 0; have hg1 := blk_frozen hz 1; have hg2 := blk_frozen hz 2; have hg3 := blk_frozen hz 3; have hx := hS8.bx; have hy0 := (blk_cell hx 0).trans rfl; have hy1 := (blk_cell hx 1).trans rfl; have hy2 := (blk_cell hx 2).trans rfl; have hy3 := (blk_cell hx 3).trans rfl; have hne : (ge = w.heap.size) = False := eq_false (by have := HGE.out; omega); have HS8 := Aside0.mk hS8; clear hz hS8 hd8 hx))
          refine bodyPost_ret (results_ct rfl _ _ w.heap.size 54 #[.slice A1 l1.length cp1, .int .u64 a1, .int .u64 b1, .int .u64 cc1] (0, 0) _ rfl (blk_put (cs' := #[.slice A1 l1.length cp1, .int .u64 a1, .int .u64 b1, .int .u64 cc1]) (blk_put (cs' := #[.slice A1 l1.length cp1, .int .u64 a1, .int .u64 b1, .int .u64 0]) (blk_put (cs' := #[.slice A1 l1.length cp1, .int .u64 a1, .int .u64 0, .int .u64 0]) (blk_put (cs' := #[.slice A1 l1.length cp1, .int .u64 0, .int .u64 0, .int .u64 0]) HS8.out.rs 0 _ rfl) 1 _ rfl) 2 _ rfl) 3 _ rfl) hu rfl (by kernel_rfl)) rfl ?_
          exact ⟨_, rfl, Kd.R_mono (Kd.R_far (p := ⟨w.heap.size, 3, none⟩) (Kd.R_far (p := ⟨w.heap.size, 2, none⟩) (Kd.R_far (p := ⟨w.heap.size, 1, none⟩) (Kd.R_far (p := ⟨w.heap.size, 0, none⟩) (Kd.R_types HS8.out.row HS8.out.rs (by decide)) (fun k hk => hk.2) _) (fun k hk => hk.2) _) (fun k hk => hk.2) _) (fun k hk => hk.2) _) (fun _ _ => trivial), (((HS8.out.bel.setCell (p := ⟨w.heap.size, 0, none⟩) (Nat.le_refl _) _).setCell (p := ⟨w.heap.size, 1, none⟩) (Nat.le_refl _) _).setCell (p := ⟨w.heap.size, 2, none⟩) (Nat.le_refl _) _).setCell (p := ⟨w.heap.size, 3, none⟩) (Nat.le_refl _) _⟩

theorem edit_Parse.calls (A0 : Option Addr) (c0 : Nat) (l0 : List Int) (r1 : List MetaS) (r2 r3 r4 r5 : Int) (w : World) (hr0 : Kd.C (Kd.int .u8) w A0 l0.length l0) (hc0 : l0.length ≤ c0) (hf : edit_Parse.f l0 = some (r1, r2, r3, r4, r5)) :
    Calls Try.prog 37 #[.slice A0 l0.length c0] w fun e w' => ∃ v0_ : Value, e = .returned (.tuple #[.agg #[v0_, .int .u64 r2, .int .u64 r3, .int .u64 r4], .int .i64 r5]) ∧ Kd.R k62 62 w' w.heap.size (fun _ => True) v0_ r1 ∧ Below w.heap.size w w' := by
  cases l0 with
  | cons h t => exact parse_cons A0 c0 h t r1 r2 r3 r4 r5 w hr0 hc0 hf
  | nil =>
    unfold edit_Parse.f at hf
    simp only [Option.some.injEq, Prod.mk.injEq] at hf
    obtain ⟨rfl, rfl, rfl, rfl, rfl⟩ := hf
    have hu := Try.underlying54
    clear hr0 hc0
    go_enter Try.func37, Try.ntmps37
    go_wp2
    refine bodyPost_ret (results_ct rfl _ _ w.heap.size 54 #[.slice none 0 0, .int .u64 0, .int .u64 0, .int .u64 0] (0, 0) _ rfl (World.alloc_heap_new w _) hu rfl (by kernel_rfl)) rfl ?_
    exact ⟨_, rfl, Kd.R_nil _ _ _ _ _, below_alloc (Below.refl _ _) _⟩
end Go.Proofs.YtlaihdipagejfaaG

end

section
namespace Go.Proofs.Ytlaihdipagejfaa.P
open Go.RowKit Go.Proofs.YtlaihdipagejfaaG Go.Proofs.YtlaihdipagejfaaW.PrintWords Go.Proofs.YtlaihdipagejfaaW.PrintLast Go.Proofs.YtlaihdipagejfaaW.PrintMore
attribute [local go_sem] str_gtr str_geq str_leq max2_int min2_int max_two min_two max_three min_three max_four min_four   -- for this text's walks alone
set_option linter.unusedVariables false
set_option linter.unusedSimpArgs false

def ratlinelaw02_Same.f (l0 : List Int) (l1 : List Int) : Option (Bool) := some ((strOfNums l0).toList == (strOfNums l1).toList)
set_option maxHeartbeats 8000000 in
set_option maxRecDepth 100000 in
theorem ratlinelaw02_Same.calls (A0 : Option Addr) (c0 : Nat) (l0 : List Int) (A1 : Option Addr) (c1 : Nat) (l1 : List Int) (r : Bool) (w : World) (hr0 : Kd.C (Kd.int .u8) w A0 l0.length l0) (hc0 : l0.length ≤ c0) (hr1 : Kd.C (Kd.int .u8) w A1 l1.length l1) (hc1 : l1.length ≤ c1) (h : ratlinelaw02_Same.f l0 l1 = some r) :
    Calls Try.prog 19 #[.slice A0 l0.length c0, .slice A1 l1.length c1] w fun e w' => e = .returned (.bool r) ∧ Drawn0 w w' := by
  have HR0 := Aside0.mk hr0
  have HC0 := Aside0.mk hc0
  clear hr0 hc0
  have HR1 := Aside0.mk hr1
  have HC1 := Aside0.mk hc1
  clear hr1 hc1
  have H : (some ((strOfNums l0).toList == (strOfNums l1).toList)) = some r := h
  clear h
  obtain rfl := Option.some.inj H
  have hcv3 := Kd.C_string (P := Try.prog) (A := A0) (c := c0) Try.underlying23 Try.underlying5 Try.underlying9 HR0.out
  have hcvd_ := fun n_ => Kd.C_string (P := Try.prog) (A := A0) (c := c0) Try.underlying23 Try.underlying5 Try.underlying9 (Kd.C_below (HR0.out) (pw_below_drewN (Below.refl _ _) n_))
  (try simp only [List.length_take, Int.toNat_natCast] at hcvd_)
  have hcv4 := Kd.C_string (P := Try.prog) (A := A1) (c := c1) Try.underlying23 Try.underlying5 Try.underlying9 HR1.out
  have hcvd_ := fun n_ => Kd.C_string (P := Try.prog) (A := A1) (c := c1) Try.underlying23 Try.underlying5 Try.underlying9 (Kd.C_below (HR1.out) (pw_below_drewN (Below.refl _ _) n_))
  (try simp only [List.length_take, Int.toNat_natCast] at hcvd_)
  go_enter Try.func19, Try.ntmps19
  go_wp2
  go_ret
  exact ⟨by first | rfl | (simp; done) | (simp [*]; done), by repeat (first | exact Drawn0.refl _ | apply Drawn0.step)⟩

end Go.Proofs.Ytlaihdipagejfaa.P

end

section
set_option linter.unusedVariables false
set_option linter.unusedSimpArgs false
namespace Go.Proofs.YtlaihdipagejfaaG
open Go Go.RowKit Go.Proofs.YtlaihdipagejfaaR Go.Proofs.YtlaihdipagejfaaL Go.Proofs.Ytlaihdipagejfaa.P Go.Proofs.YtlaihdipagejfaaW.PrintWords Go.Proofs.YtlaihdipagejfaaW.PrintMore
attribute [local go_sem] Oper.semAt_some

def awM : MetaS := ⟨2, 48, ⟨#[97]⟩, ⟨#[99]⟩⟩
theorem vint_at {x : Nat} (h : x ≤ 127) : vint x = [(x : Int)] := by rw [vint, dif_neg (by omega)]
theorem aw_wf : WfE [awM] 3 9 0 ∧ WfE [] 3 9 0 ∧ WfE [] 2 0 0 ∧ WfE [] 0 0 0 := by decide
theorem aw_by1 : edit_Bytes.f [] 3 9 0 = some ([6, 3, 9], 0) := by
  unfold edit_Bytes.f
  rw [if_pos aw_wf.2.1, if_pos (show rightB [] 3 9 0 = true by kernel_rfl), formE, bodyF, numF, numF, numF, if_pos (by decide), if_pos (by decide), if_neg (by decide)]
  show some ((headF [] 3 9 0 :: (addF [] ++ (vint 3 ++ (vint 9 ++ [])))), (0 : Int)) = _
  rw [vint_at (x := 3) (by omega), vint_at (x := 9) (by omega)]
  rfl
theorem aw_by2 : edit_Bytes.f [awM] 3 9 0 = some ([7, 1, 2, 48, 1, 97, 1, 99, 3, 9], 0) := by
  unfold edit_Bytes.f
  rw [if_pos aw_wf.1, if_pos (show rightB [awM] 3 9 0 = true by kernel_rfl), formE, bodyF, numF, numF, numF, if_pos (by decide), if_pos (by decide), if_neg (by decide), addF, if_pos (by decide)]
  show some ((headF [awM] 3 9 0 :: ((vint 1 ++ ((vint 2 ++ (vint 48 ++ (vint 1 ++ (bytesOf awM.f2 ++ (vint 1 ++ bytesOf awM.f3))))) ++ [])) ++ (vint 3 ++ (vint 9 ++ [])))), (0 : Int)) = _
  rw [vint_at (x := 1) (by omega), vint_at (x := 2) (by omega), vint_at (x := 48) (by omega), vint_at (x := 3) (by omega), vint_at (x := 9) (by omega)]
  rfl
theorem aw_ap1 : edit_Apply.f [] 0 0 0 [awM] 3 9 0 = some ([awM], 3, 9, 0, 0) := by
  unfold edit_Apply.f
  rw [if_pos ⟨aw_wf.1, by decide⟩, if_pos (show okB [] 0 0 0 [awM] 3 9 0 = true by kernel_rfl)]
  rfl
theorem aw_ap2 : edit_Apply.f [awM] 3 9 0 [awM] 3 9 0 = some ([awM], 3, 9, 0, 90) := by
  unfold edit_Apply.f
  rw [if_pos ⟨aw_wf.1, by decide⟩, show okB [awM] 3 9 0 [awM] 3 9 0 = false by kernel_rfl, if_neg (by decide)]
theorem aw_ap3 : edit_Apply.f [awM] 3 9 0 [] 2 0 0 = some ([awM], 3, 9, 0, 90) := by
  unfold edit_Apply.f
  rw [if_pos ⟨aw_wf.2.2.1, by decide⟩, show okB [awM] 3 9 0 [] 2 0 0 = false by kernel_rfl, if_neg (by decide)]
theorem aw_zero : edit_Bytes.f [] 0 0 0 = some ([], 90) := by
  unfold edit_Bytes.f
  rw [if_pos aw_wf.2.2.2, show rightB [] 0 0 0 = false by kernel_rfl, if_neg (by decide)]
theorem aw_pa1 : edit_Parse.f [0] = some ([], 0, 0, 0, 90) := by
  have h1 : runP 0 4 0 ([], 0, 0, 0, [], false) = some ([], 0, 0, 0, [], false) := by kernel_rfl
  unfold edit_Parse.f
  dsimp only
  rw [h1, Option.bind_some, aw_zero, Option.bind_some, if_pos (.inr (.inl (by decide)))]
theorem aw_pa2 : edit_Parse.f [2, 0] = some ([], 0, 0, 0, 90) := by
  have h1 : runP 2 4 0 ([], 0, 0, 0, [0], false) = some ([], 0, 0, 0, [], false) := by kernel_rfl
  unfold edit_Parse.f
  dsimp only
  rw [h1, Option.bind_some, aw_zero, Option.bind_some, if_pos (.inr (.inl (by decide)))]
def ratlinelaw09_awake.f : Option Bool := some true
theorem R_bytes (l : List Int) (W : World) (base : Nat) (hb : base ≤ W.heap.size) (hl : l.length ≤ 1000) : Kd.R (Kd.int .u8) 5 (W.alloc (.cells (l.map (Value.int .u8)).toArray 5)) base (fun _ => True) (.slice (some ⟨W.heap.size, 0, none⟩) l.length l.length) l := by
  refine ⟨fun k hk => trivial, l.map (Value.int .u8), ?_, ⟨by rw [List.length_map]; exact (Nat.mul_one _).symm, fun j p hj => ?_⟩⟩
  · have h2 := World.ownsRow_lit (base := base) (e := 5) (size := (Kd.int .u8).sz) W (l.map (Value.int .u8)).toArray l.length hb (by simp only [maxLen]; omega) (by rw [List.size_toArray, List.length_map]; exact (Nat.mul_one _).symm)
    exact h2
  · have hjl : j < l.length := by
      rcases Nat.lt_or_ge j l.length with h | h
      · exact h
      · rw [List.getElem?_eq_none h] at hj; cases hj
    rw [List.getElem?_eq_getElem hjl] at hj
    obtain rfl := Option.some.inj hj
    show ((l.map (Value.int .u8)).drop (j * 1)).take 1 = [Value.int .u8 l[j]]
    rw [Nat.mul_one, List.drop_eq_getElem_cons (by rw [List.length_map]; exact hjl)]
    simp
theorem C_bytes (l : List Int) (W : World) (hl : l.length ≤ 1000) : Kd.C (Kd.int .u8) (W.alloc (.cells (l.map (Value.int .u8)).toArray 5)) (some ⟨W.heap.size, 0, none⟩) l.length l := (Kd.R_reads' (R_bytes l W 0 (Nat.zero_le _) hl)).2.2
theorem R_note (W : World) (base : Nat) (hb : base ≤ W.heap.size) : Kd.R k62 62 (W.alloc (.cells #[.int .u64 2, .int .u64 48, .string ⟨#[97]⟩, .string ⟨#[99]⟩] 62)) base (fun _ => True) (.slice (some ⟨W.heap.size, 0, none⟩) 1 1) [awM] := by
  refine ⟨fun k hk => trivial, [.int .u64 2, .int .u64 48, .string ⟨#[97]⟩, .string ⟨#[99]⟩], ?_, ⟨rfl, fun j p hj => ?_⟩⟩
  · have h2 := World.ownsRow_lit (base := base) (e := 62) (size := k62.sz) W #[.int .u64 2, .int .u64 48, .string ⟨#[97]⟩, .string ⟨#[99]⟩] 1 hb (by decide) rfl
    exact h2
  · cases j with
    | zero =>
      simp only [List.getElem?_cons_zero, Option.some.injEq] at hj
      subst hj
      exact k62_mkM _ _ _ awM
    | succ j => simp at hj
theorem aw_c1 (W : World) : Calls Try.prog 34 #[.agg #[.slice none 0 0, .int .u64 3, .int .u64 9, .int .u64 0]] W fun e w' => ∃ v0_ : Value, e = .returned (.tuple #[v0_, .int .i64 0]) ∧ Kd.R (Kd.int .u8) 5 w' W.heap.size (fun _ => True) v0_ [6, 3, 9] ∧ Below W.heap.size W w' := edit_Bytes.calls none 0 [] 3 9 0 _ _ W (Kd.C_nil _ _) (Nat.le_refl _) aw_by1
theorem aw_c2 (W : World) (A : Option Addr) (h : Kd.C k62 W A 1 [awM]) : Calls Try.prog 34 #[.agg #[.slice A 1 1, .int .u64 3, .int .u64 9, .int .u64 0]] W fun e w' => ∃ v0_ : Value, e = .returned (.tuple #[v0_, .int .i64 0]) ∧ Kd.R (Kd.int .u8) 5 w' W.heap.size (fun _ => True) v0_ [7, 1, 2, 48, 1, 97, 1, 99, 3, 9] ∧ Below W.heap.size W w' := edit_Bytes.calls A 1 [awM] 3 9 0 _ _ W h (Nat.le_refl _) aw_by2
theorem aw_a1 (W : World) (A : Option Addr) (h : Kd.C k62 W A 1 [awM]) : Calls Try.prog 32 #[.agg #[.slice none 0 0, .int .u64 0, .int .u64 0, .int .u64 0], .agg #[.slice A 1 1, .int .u64 3, .int .u64 9, .int .u64 0]] W fun e w' => ∃ v0_ : Value, e = .returned (.tuple #[.agg #[v0_, .int .u64 3, .int .u64 9, .int .u64 0], .int .i64 0]) ∧ Kd.R k62 62 w' W.heap.size (fun _ => True) v0_ [awM] ∧ Below W.heap.size W w' := edit_Apply.calls none 0 [] 0 0 0 A 1 [awM] 3 9 0 _ _ _ _ _ W (Kd.C_nil _ _) (Nat.le_refl _) h (Nat.le_refl _) aw_ap1
theorem aw_a2 (W : World) (A : Option Addr) (c : Nat) (hc : 1 ≤ c) (h : Kd.C k62 W A 1 [awM]) (A' : Option Addr) (h' : Kd.C k62 W A' 1 [awM]) : Calls Try.prog 32 #[.agg #[.slice A 1 c, .int .u64 3, .int .u64 9, .int .u64 0], .agg #[.slice A' 1 1, .int .u64 3, .int .u64 9, .int .u64 0]] W fun e w' => ∃ v0_ : Value, e = .returned (.tuple #[.agg #[v0_, .int .u64 3, .int .u64 9, .int .u64 0], .int .i64 90]) ∧ Kd.R k62 62 w' W.heap.size (fun _ => True) v0_ [awM] ∧ Below W.heap.size W w' := edit_Apply.calls A c [awM] 3 9 0 A' 1 [awM] 3 9 0 _ _ _ _ _ W h hc h' (Nat.le_refl _) aw_ap2
theorem aw_a3 (W : World) (A : Option Addr) (c : Nat) (hc : 1 ≤ c) (h : Kd.C k62 W A 1 [awM]) : Calls Try.prog 32 #[.agg #[.slice A 1 c, .int .u64 3, .int .u64 9, .int .u64 0], .agg #[.slice none 0 0, .int .u64 2, .int .u64 0, .int .u64 0]] W fun e w' => ∃ v0_ : Value, e = .returned (.tuple #[.agg #[v0_, .int .u64 3, .int .u64 9, .int .u64 0], .int .i64 90]) ∧ Kd.R k62 62 w' W.heap.size (fun _ => True) v0_ [awM] ∧ Below W.heap.size W w' := edit_Apply.calls A c [awM] 3 9 0 none 0 [] 2 0 0 _ _ _ _ _ W h hc (Kd.C_nil _ _) (Nat.le_refl _) aw_ap3
theorem aw_p1 (W : World) (A : Option Addr) (h : Kd.C (Kd.int .u8) W A 1 [0]) : Calls Try.prog 37 #[.slice A 1 1] W fun e w' => ∃ v0_ : Value, e = .returned (.tuple #[.agg #[v0_, .int .u64 0, .int .u64 0, .int .u64 0], .int .i64 90]) ∧ Kd.R k62 62 w' W.heap.size (fun _ => True) v0_ [] ∧ Below W.heap.size W w' := edit_Parse.calls A 1 [0] _ _ _ _ _ W h (Nat.le_refl _) aw_pa1
theorem aw_p2 (W : World) (A : Option Addr) (h : Kd.C (Kd.int .u8) W A 2 [2, 0]) : Calls Try.prog 37 #[.slice A 2 2] W fun e w' => ∃ v0_ : Value, e = .returned (.tuple #[.agg #[v0_, .int .u64 0, .int .u64 0, .int .u64 0], .int .i64 90]) ∧ Kd.R k62 62 w' W.heap.size (fun _ => True) v0_ [] ∧ Below W.heap.size W w' := edit_Parse.calls A 2 [2, 0] _ _ _ _ _ W h (Nat.le_refl _) aw_pa2
theorem aw_same (l : List Int) (A : Option Addr) (c : Nat) (A' : Option Addr) (c' : Nat) (W : World) (h : Kd.C (Kd.int .u8) W A l.length l) (hc : l.length ≤ c) (h' : Kd.C (Kd.int .u8) W A' l.length l) (hc' : l.length ≤ c') : Calls Try.prog 19 #[.slice A l.length c, .slice A' l.length c'] W fun e w' => e = .returned (.bool true) ∧ Drawn0 W w' := ratlinelaw02_Same.calls A c l A' c' l true W h hc h' hc' (by unfold ratlinelaw02_Same.f; rw [beq_self_eq_true])
structure AwS (w : World) (g : Nat) (A : Option Addr) (W : World) : Prop where
  two : W.heap[g]? = some (eBx' A 1 1 3 9 0)
  row : Kd.C k62 W A 1 [awM]
  bel : Below w.heap.size w W
theorem AwS.below {w W W' : World} {g : Nat} {A : Option Addr} (h : AwS w g A W) (hr : Kd.C k62 W A 1 [awM]) (hb : Below W.heap.size W W') : AwS w g A W' :=
  ⟨(hb.block _ (blk_lt h.two)).trans h.two, Kd.C_below h.row hb, below_then h.bel h.bel.size hb⟩
set_option maxRecDepth 100000 in
set_option maxHeartbeats 8000000 in
theorem awake_calls (w : World) : Calls Try.prog 31 #[] w fun e w' => e = .returned (.bool true) ∧ Below w.heap.size w w' := by
  have hue := Try.underlying54
  have huv := Try.underlying57
  have hum := Try.underlying62
  go_enter Try.func31, Try.ntmps31
  go_wp2_with fail
  obtain ⟨W0, hW0⟩ : ∃ W, W = ((w.alloc (eBx' none 0 0 3 9 0)).alloc (eBx' (some ⟨w.heap.size + 1 + 1, 0, none⟩) 1 1 3 9 0)).alloc (.cells #[.int .u64 2, .int .u64 48, .string ⟨#[97]⟩, .string ⟨#[99]⟩] 62) := ⟨_, rfl⟩
  rw [show ((w.alloc (.cells #[.slice none 0 0, .int .u64 3, .int .u64 9, .int .u64 0] 54)).alloc (.cells #[.slice (some ⟨w.heap.size + 1 + 1, 0, none⟩) 1 1, .int .u64 3, .int .u64 9, .int .u64 0] 54)).alloc (.cells #[.int .u64 2, .int .u64 48, .string ⟨#[97]⟩, .string ⟨#[99]⟩] 62) = W0 from hW0.symm]
  have hs0 : AwS w (w.heap.size + 1) (some ⟨w.heap.size + 1 + 1, 0, none⟩) W0 := by
    refine ⟨?_, ?_, ?_⟩
    · have h7 := World.alloc_heap_new (w.alloc (eBx' none 0 0 3 9 0)) (eBx' (some ⟨w.heap.size + 1 + 1, 0, none⟩) 1 1 3 9 0)
      rw [World.size_alloc] at h7
      rw [hW0]
      exact (Below.heap_alloc _ _ _ (by simp)).trans h7
    · have h7 := (Kd.R_reads' (R_note ((w.alloc (eBx' none 0 0 3 9 0)).alloc (eBx' (some ⟨w.heap.size + 1 + 1, 0, none⟩) 1 1 3 9 0)) 0 (Nat.zero_le _))).2.2
      rw [World.size_alloc, World.size_alloc] at h7
      rw [hW0]
      exact h7
    · rw [hW0]
      exact below_alloc (below_alloc (below_alloc (Below.refl _ _) _) _) _
  have HS0 := Aside0.mk hs0
  clear hs0 hW0
  refine (aw_c1 W0).mono ?_
  rintro e w1 ⟨v1, rfl, hv1, hd1⟩
  have HS1 := Aside0.mk (HS0.out.below HS0.out.row hd1)
  have HV1 := Aside0.mk (Kd.R_lower hv1 HS0.out.bel.size)
  have hy0 := (blk_cell HS1.out.two 0).trans rfl
  have hy1 := (blk_cell HS1.out.two 1).trans rfl
  have hy2 := (blk_cell HS1.out.two 2).trans rfl
  have hy3 := (blk_cell HS1.out.two 3).trans rfl
  clear hv1 hd1
  go_wp2_with fail
  refine (aw_c2 w1 _ HS1.out.row).mono ?_
  rintro e w2 ⟨v2, rfl, hv2, hd2⟩
  have HS2 := Aside0.mk (HS1.out.below HS1.out.row hd2)
  have HV1' := Aside0.mk (Kd.R_below HV1.out hd2)
  have HV2 := Aside0.mk (Kd.R_lower hv2 HS1.out.bel.size)
  clear hy0 hy1 hy2 hy3 hv2 hd2
  have hy0 := (blk_cell HS2.out.two 0).trans rfl
  have hy1 := (blk_cell HS2.out.two 1).trans rfl
  have hy2 := (blk_cell HS2.out.two 2).trans rfl
  have hy3 := (blk_cell HS2.out.two 3).trans rfl
  go_wp2_with fail
  refine (aw_a1 w2 _ HS2.out.row).mono ?_
  rintro e w3 ⟨v3, rfl, hv3, hd3⟩
  obtain ⟨A3, c3, e3⟩ := Kd.R_slice hv3
  subst e3
  have hb3 : Below w3.heap.size w3 (w3.alloc (vBx (.slice A3 1 c3) 3 9 0)) := below_alloc (Below.refl _ _) _
  have HS3 := Aside0.mk ((HS2.out.below HS2.out.row hd3).below (Kd.C_below HS2.out.row hd3) hb3)
  have HV1 := Aside0.mk (Kd.R_below (Kd.R_below HV1'.out hd3) hb3)
  have HV2' := Aside0.mk (Kd.R_below (Kd.R_below HV2.out hd3) hb3)
  have HV3 := Aside0.mk (Kd.R_below hv3 hb3)
  have HX3 := Aside0.mk (World.alloc_heap_new w3 (vBx (.slice A3 1 c3) 3 9 0))
  clear hy0 hy1 hy2 hy3 hv3 hd3 hb3 HV1' HV2
  have hy0 := (blk_cell HS3.out.two 0).trans rfl
  have hy1 := (blk_cell HS3.out.two 1).trans rfl
  have hy2 := (blk_cell HS3.out.two 2).trans rfl
  have hy3 := (blk_cell HS3.out.two 3).trans rfl
  have hx0 := (blk_cell HX3.out 0).trans rfl
  have hx1 := (blk_cell HX3.out 1).trans rfl
  have hx2 := (blk_cell HX3.out 2).trans rfl
  have hx3 := (blk_cell HX3.out 3).trans rfl
  go_wp2_with fail
  refine (aw_a2 _ A3 c3 (Kd.R_reads' HV3.out).2.1 (Kd.R_reads' HV3.out).2.2 _ HS3.out.row).mono ?_
  rintro e w4 ⟨v4, rfl, hv4, hd4⟩
  obtain ⟨A14, c14, e4⟩ := Kd.R_slice hv4
  subst e4
  have hb4 : Below w4.heap.size w4 (w4.alloc (vBx (.slice A14 1 c14) 3 9 0)) := below_alloc (Below.refl _ _) _
  have hd4' := below_then hd4 hd4.size hb4
  have HX4 := Aside0.mk ((hd4'.block _ (blk_lt HX3.out)).trans HX3.out)
  have HV14 := Aside0.mk (Kd.R_below HV1.out hd4')
  have HV24 := Aside0.mk (Kd.R_below HV2'.out hd4')
  have HV34 := Aside0.mk (Kd.R_below HV3.out hd4')
  have HB4 := Aside0.mk (below_then HS3.out.bel HS3.out.bel.size hd4')
  clear hy0 hy1 hy2 hy3 hx0 hx1 hx2 hx3 hb4 hd4 hv4 hd4'
  have hx0 := (blk_cell HX4.out 0).trans rfl
  have hx1 := (blk_cell HX4.out 1).trans rfl
  have hx2 := (blk_cell HX4.out 2).trans rfl
  have hx3 := (blk_cell HX4.out 3).trans rfl
  go_wp2_with fail
  refine (aw_a3 _ A3 c3 (Kd.R_reads' HV34.out).2.1 (Kd.R_reads' HV34.out).2.2).mono ?_
  rintro e w5 ⟨v5, rfl, hv5, hd5⟩
  obtain ⟨A15, c15, e5⟩ := Kd.R_slice hv5
  subst e5
  have hd5' := below_then (below_then hd5 hd5.size (below_alloc (Below.refl _ _) (vBx (.slice A15 1 c15) 3 9 0))) (by have := hd5.size; simp at this ⊢; omega) (below_alloc (Below.refl _ _) (.cells #[.int .u8 0] 5))
  have HX5 := Aside0.mk ((hd5'.block _ (blk_lt HX4.out)).trans HX4.out)
  have HV15 := Aside0.mk (Kd.R_below HV14.out hd5')
  have HV25 := Aside0.mk (Kd.R_below HV24.out hd5')
  have HB5 := Aside0.mk (below_then HB4.out HB4.out.size hd5')
  have hC5 := C_bytes [0] (w5.alloc (vBx (.slice A15 1 c15) 3 9 0)) (by decide)
  rw [World.size_alloc] at hC5
  have HC5 := Aside0.mk hC5
  clear hC5
  clear hx0 hx1 hx2 hx3 hd5 hv5 hd5'
  go_wp2_with fail
  refine (aw_p1 _ _ HC5.out).mono ?_
  rintro e w6 ⟨v6, rfl, hv6, hd6⟩
  obtain ⟨A16, c16, e6⟩ := Kd.R_slice hv6
  subst e6
  have hd6' := below_then (below_then hd6 hd6.size (below_alloc (Below.refl _ _) (.cells #[.slice A16 0 c16, .int .u64 0, .int .u64 0, .int .u64 0] 54))) (by have := hd6.size; simp at this ⊢; omega) (below_alloc (Below.refl _ _) (.cells #[.int .u8 2, .int .u8 0] 5))
  have HX6 := Aside0.mk ((hd6'.block _ (blk_lt HX5.out)).trans HX5.out)
  have HV16 := Aside0.mk (Kd.R_below HV15.out hd6')
  have HV26 := Aside0.mk (Kd.R_below HV25.out hd6')
  have HB6 := Aside0.mk (below_then HB5.out HB5.out.size hd6')
  have hC6 := C_bytes [2, 0] (w6.alloc (.cells #[.slice A16 0 c16, .int .u64 0, .int .u64 0, .int .u64 0] 54)) (by decide)
  rw [World.size_alloc] at hC6
  have HC6 := Aside0.mk hC6
  clear hC6
  clear hd6 hv6 hd6'
  go_wp2_with fail
  refine (aw_p2 _ _ HC6.out).mono ?_
  rintro e w7 ⟨v7, rfl, hv7, hd7⟩
  obtain ⟨A17, c17, e7⟩ := Kd.R_slice hv7
  subst e7
  have hd7' := below_then (below_then hd7 hd7.size (below_alloc (Below.refl _ _) (.cells #[.slice A17 0 c17, .int .u64 0, .int .u64 0, .int .u64 0] 54))) (by have := hd7.size; simp at this ⊢; omega) (below_alloc (Below.refl _ _) (.cells #[.int .u8 6, .int .u8 3, .int .u8 9] 5))
  have HX7 := Aside0.mk ((hd7'.block _ (blk_lt HX6.out)).trans HX6.out)
  have HV17 := Aside0.mk (Kd.R_below HV16.out hd7')
  have HV27 := Aside0.mk (Kd.R_below HV26.out hd7')
  have HB7 := Aside0.mk (below_then HB6.out HB6.out.size hd7')
  have hC7 := C_bytes [6, 3, 9] (w7.alloc (.cells #[.slice A17 0 c17, .int .u64 0, .int .u64 0, .int .u64 0] 54)) (by decide)
  rw [World.size_alloc] at hC7
  have HC7 := Aside0.mk hC7
  clear hC7
  clear hd7 hv7 hd7'
  obtain ⟨A1, c1, e1⟩ := Kd.R_slice HV17.out
  obtain ⟨A2, c2, e2⟩ := Kd.R_slice HV27.out
  subst e1
  subst e2
  go_wp2_with fail
  refine (aw_same [6, 3, 9] A1 c1 _ 3 _ (Kd.R_reads' HV17.out).2.2 (Kd.R_reads' HV17.out).2.1 HC7.out (Nat.le_refl _)).mono ?_
  rintro e w8 ⟨rfl, hd8⟩
  have hb8 := hd8.below
  have hd8' := below_then hb8 hb8.size (below_alloc (Below.refl _ _) (.cells #[.int .u8 7, .int .u8 1, .int .u8 2, .int .u8 48, .int .u8 1, .int .u8 97, .int .u8 1, .int .u8 99, .int .u8 3, .int .u8 9] 5))
  have HX8 := Aside0.mk ((hd8'.block _ (blk_lt HX7.out)).trans HX7.out)
  have HV28 := Aside0.mk (Kd.R_below HV27.out hd8')
  have HB8 := Aside0.mk (below_then HB7.out HB7.out.size hd8')
  have HC8 := Aside0.mk (C_bytes [7, 1, 2, 48, 1, 97, 1, 99, 3, 9] w8 (by decide))
  clear hd8 hb8 hd8'
  go_wp2_with fail
  refine (aw_same [7, 1, 2, 48, 1, 97, 1, 99, 3, 9] A2 c2 _ 10 _ (Kd.R_reads' HV28.out).2.2 (Kd.R_reads' HV28.out).2.1 HC8.out (Nat.le_refl _)).mono ?_
  rintro e w9 ⟨rfl, hd9⟩
  have hb9 := hd9.below
  have HX9 := Aside0.mk ((hb9.block _ (blk_lt HX8.out)).trans HX8.out)
  have HB9 := Aside0.mk (below_then HB8.out HB8.out.size hb9)
  clear hd9 hb9
  have hx0 := (blk_cell HX9.out 0).trans rfl
  have hx1 := (blk_cell HX9.out 1).trans rfl
  have hx2 := (blk_cell HX9.out 2).trans rfl
  have hx3 := (blk_cell HX9.out 3).trans rfl
  go_wp2
  go_ret
  exact ⟨rfl, HB9.out⟩
theorem ratlinelaw09_awake.calls (r : Bool) (w : World) (h : ratlinelaw09_awake.f = some r) : Calls Try.prog 31 #[] w fun e w' => e = .returned (.bool r) ∧ Below w.heap.size w w' := by
  obtain rfl : true = r := Option.some.inj h
  exact awake_calls w
end Go.Proofs.YtlaihdipagejfaaG

end
