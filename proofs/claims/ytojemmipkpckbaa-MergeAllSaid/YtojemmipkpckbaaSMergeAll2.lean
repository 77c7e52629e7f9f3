/- Proved here: what the row of MergeAll needs, part 2. Conditions: those of each theorem. Written for this claim by programs; what the claim does not use is left out. -/
import Derived.Shelf.RegionOpen
import Derived.OwnWalkIn
import Derived.TacticsInMore
import Derived.LoopNIn
import Derived.LoopIn
import Derived.Sort.QuietTacIn
import Derived.Test.YtojemmipkpckbaaSMergeAll1
section
set_option linter.unusedVariables false
set_option linter.unusedSimpArgs false
namespace Go.Proofs.YtojemmipkpckbaaG
open Go Go.RowKit Go.Proofs.YtojemmipkpckbaaR Go.Proofs.YtojemmipkpckbaaL Go.Proofs.Ytojemmipkpckbaa.P Go.Proofs.YtojemmipkpckbaaW.PrintWords
attribute [local go_sem] Oper.semAt_some

/-- An entry, as a value. -/
def enV (e : MEn) : Value := .agg #[.string e.f0.f0, .int .u64 e.f0.f1, .int .u8 e.f0.f2, .string e.f1]
/-- 'left': a block of slices; the entries' rows lie in blocks that are ok. -/
def Lf (W : World) (ok : Nat → Prop) (g : Nat) (ls : List (List MEn)) : Prop :=
  ∃ cs : Array Value, W.heap[g]? = some (.cells cs 29) ∧ ls.length ≤ cs.size ∧ ∀ (i : Nat) (l : List MEn), ls[i]? = some l → ∃ A c, cs[i]? = some (.slice A l.length c) ∧ l.length ≤ c ∧ Kd.F k41 W ok A l.length l
section
variable {W W' : World} {ok : Nat → Prop} {g : Nat} {ls : List (List MEn)}
theorem Lf.lt (h : Lf W ok g ls) : g < W.heap.size := by obtain ⟨cs, h1, _⟩ := h; exact blk_lt h1
theorem Lf.keep (h : Lf W ok g ls) (hg : W'.heap[g]? = W.heap[g]?) (hb : ∀ k, ok k → k < W.heap.size → W'.heap[k]? = W.heap[k]?) : Lf W' ok g ls := by
  obtain ⟨cs, h1, h2, h3⟩ := h
  refine ⟨cs, hg.trans h1, h2, fun i l hl => ?_⟩
  obtain ⟨A, c, e1, e2, e3⟩ := h3 i l hl
  exact ⟨A, c, e1, e2, Kd.F_step e3 hb⟩
theorem Lf.below (h : Lf W ok g ls) (hb : Below W.heap.size W W') : Lf W' ok g ls := h.keep (hb.block g h.lt) (fun k _ hk => hb.block k hk)
theorem Lf.C (h : Lf W ok g ls) (hm : ls.length ≤ 9223372036854775807) : Kd.C (Kd.slice 41 k41) W (some ⟨g, 0, none⟩) ls.length ls := by
  obtain ⟨cs, h1, h2, h3⟩ := h
  refine ⟨rfl, hm, fun _ => ⟨_, rfl, fun j p hp => ?_⟩⟩
  obtain ⟨A, c, e1, e2, e3⟩ := h3 j p hp
  refine ⟨[.slice A p.length c], rfl, ⟨A, c, rfl, e2, Kd.F_now e3⟩, fun i u hu => ?_⟩
  have hi : i = 0 := by
    have := (List.getElem?_eq_some_iff.1 hu).1
    simpa using this
  subst hi
  simp only [List.getElem?_cons_zero, Option.some.injEq] at hu
  subst hu
  rw [add_plain, blk_cell h1]
  show cs[j * 1 + 0]? = _
  rw [Nat.mul_one, Nat.add_zero]
  exact e1
theorem Lf.at_ (h : Lf W ok g ls) {i : Nat} {l : List MEn} (hl : ls[i]? = some l) : ∃ A c, W.cell? ⟨g, i, none⟩ = some (.slice A l.length c) ∧ W.frozen? ⟨g, i, none⟩ = false ∧ l.length ≤ c ∧ Kd.F k41 W ok A l.length l := by
  obtain ⟨cs, h1, h2, h3⟩ := h
  obtain ⟨A, c, e1, e2, e3⟩ := h3 i l hl
  exact ⟨A, c, by rw [blk_cell h1]; exact e1, blk_frozen h1 i, e2, e3⟩
theorem Lf.set (h : Lf W ok g ls) (hg : ∀ k, ok k → k ≠ g) {i : Nat} {l : List MEn} {A : Option Addr} {c : Nat} (hi : i < ls.length) (hc : l.length ≤ c) (hF : Kd.F k41 W ok A l.length l) : Lf (W.setCell ⟨g, i, none⟩ (.slice A l.length c)) ok g (ls.set i l) := by
  obtain ⟨cs, h1, h2, h3⟩ := h
  refine ⟨cs.setIfInBounds i (.slice A l.length c), blk_set h1 i _, by simpa using h2, fun j q hq => ?_⟩
  by_cases hj : j = i
  · subst hj
    rw [List.getElem?_set_self hi] at hq
    obtain rfl := Option.some.inj hq
    exact ⟨A, c, by rw [Array.getElem?_setIfInBounds_self_of_lt (by omega)], hc, Kd.F_far (p := ⟨g, j, none⟩) hF hg _⟩
  · rw [List.getElem?_set_ne (fun e => hj e.symm)] at hq
    obtain ⟨A', c', e1, e2, e3⟩ := h3 j q hq
    exact ⟨A', c', by rw [Array.getElem?_setIfInBounds_ne (fun e => hj e.symm)]; exact e1, e2, Kd.F_far (p := ⟨g, i, none⟩) e3 hg _⟩
/-- An own row of shared rows, as such a block. -/
theorem Lf.of_N {base : Nat} {v : Value} (h : Kd.N (Kd.slice 41 k41) 29 W base ok v ls) (hp : 0 < ls.length) : ∃ g c, v = .slice (some ⟨g, 0, none⟩) ls.length c ∧ ls.length ≤ c ∧ base ≤ g ∧ g < W.heap.size ∧ Lf W (fun k => ok k ∧ k ≠ g) g ls := by
  obtain ⟨g, c, rfl, hb, hlt, cells, hcells⟩ := Kd.N_form h hp
  have hc := (Kd.N_reads' h).2.1
  refine ⟨g, c, rfl, hc, hb, hlt, cells, hcells, ?_, ?_⟩
  · obtain ⟨x, _, _, hcell, _⟩ := Kd.N_elem h [] ((ls.length - 1 : Nat) : Int) (by omega) (by omega)
    have hx : 0 < x.length := by have : x.length = 1 := by assumption
                                 omega
    have h1 := hcell 0 _ (List.getElem?_eq_getElem hx)
    rw [blk_cell hcells] at h1
    have := (Array.getElem?_eq_some_iff.1 h1).1
    rw [Int.toNat_natCast] at this
    have e : (Kd.slice 41 k41).sz = 1 := rfl
    rw [e] at this
    omega
  · intro i l hl
    obtain ⟨hi, hie⟩ := List.getElem?_eq_some_iff.1 hl
    obtain ⟨x, hxl, hFK, hcell, _⟩ := Kd.N_elem h [] (i : Int) (by omega) (by omega)
    rw [Int.toNat_natCast, List.getD_eq_getElem?_getD, hl] at hFK
    have hx : 0 < x.length := by have : x.length = 1 := hxl
                                 omega
    have h1 := hcell 0 _ (List.getElem?_eq_getElem hx)
    rw [blk_cell hcells, Int.toNat_natCast, show i * (Kd.slice 41 k41).sz + 0 = i from by show i * 1 + 0 = i; omega] at h1
    obtain ⟨A, cc, hxe, hle, _⟩ := Kd.FK_now hFK
    subst hxe
    refine ⟨A, cc, h1, hle, fun W' hW => ?_⟩
    obtain ⟨A', cc', he, _, hC⟩ := hFK W' hW
    simp only [List.cons.injEq, Value.slice.injEq, and_true] at he
    obtain ⟨rfl, _, _⟩ := he
    exact hC
end
theorem Lf.bound {W : World} {ok : Nat → Prop} {g : Nat} {ls : List (List MEn)} (h : Lf W ok g ls) : Lf W (fun k => ok k ∧ k < W.heap.size) g ls := by
  obtain ⟨cs, h1, h2, h3⟩ := h
  refine ⟨cs, h1, h2, fun i l hl => ?_⟩
  obtain ⟨A, c, e1, e2, e3⟩ := h3 i l hl
  exact ⟨A, c, e1, e2, Kd.F_bound e3⟩
theorem blk_alloc_new (W : World) (o : Obj) : (W.alloc o).heap[W.heap.size]? = some o := World.alloc_heap_new W o
theorem mAll_none {ls : List (List MEn)} (h : mLeast ls 0 none = none) : ∀ n, mAll n ls = []
  | 0 => rfl
  | n + 1 => by rw [mAll, h]
theorem mSize_pos {ls : List (List MEn)} {i : Nat} {e : MEn} {r : List MEn} (h : ls[i]? = some (e :: r)) : 0 < mSize ls := by
  have : (e :: r).length ∈ ls.map List.length := List.mem_map.2 ⟨_, List.mem_of_getElem? h, rfl⟩
  unfold mSize
  have h2 : (e :: r).length ≤ (ls.map List.length).sum := by
    generalize ls.map List.length = q at *
    clear h
    induction q with
    | nil => cases this
    | cons x q ih =>
      rcases List.mem_cons.1 this with h | h
      · rw [List.sum_cons, ← h]; omega
      · rw [List.sum_cons]; have := ih h; omega
  rw [List.length_cons] at h2
  omega
theorem N_lit (W : World) (e : TypeId) {α : Type} (d : Kd α) (hd : d.sz = 1) (ok : Nat → Prop) (hok : ok W.heap.size) : Kd.N d e (W.alloc (.cells #[] e)) W.heap.size ok (.slice (some ⟨W.heap.size, 0, none⟩) 0 0) ([] : List α) := by
  refine Kd.R_N ⟨fun k hk => ?_, [], ?_, ⟨by simp, fun j p hj => by simp at hj⟩⟩
  · have : W.heap.size = k := by simpa [Value.ownBlock] using hk
    rw [← this]
    exact hok
  · rw [hd]
    exact own_lit W W.heap.size e .u8 [] (Nat.le_refl _) (by decide)
theorem eqK (d : Nat) (w : World) (x0 y0 : ByteArray) (x1 y1 : Int) (x2 y2 : Int) :
    (Op.equalIn (d + 2) 39 (.agg #[.string x0, .int .u64 x1, .int .u8 x2]) (.agg #[.string y0, .int .u64 y1, .int .u8 y2])).run Try.prog w = .ok (x0.toList == y0.toList && (x1 == y1 && (x2 == y2))) w := by
  refine eqA_of Try.underlying39 (by kernel_rfl) ?_
  refine eqf_cons (by rfl) (by go_simp; rfl) (by go_simp; rfl) (by go_simp) ?_
  refine eqf_cons (by rfl) (by go_simp; rfl) (by go_simp; rfl) (by go_simp) ?_
  exact eqf_last (by rfl) (by go_simp; rfl) (by go_simp; rfl) (by go_simp)
def dropOne (k : MIk) : List MEn → List MEn
  | [] => []
  | e :: r => if mSame e.f0 k = true then r else e :: r
theorem mDrop_eq (k : MIk) (ls : List (List MEn)) : mDrop k ls = ls.map (dropOne k) := by
  unfold mDrop
  congr 1
theorem step_list {α : Type} (f : α → α) : ∀ (l : List α) (j : Nat) (x : α), l[j]? = some x → ((l.take j).map f ++ l.drop j)[j]? = some x ∧ (l.take (j + 1)).map f ++ l.drop (j + 1) = ((l.take j).map f ++ l.drop j).set j (f x)
  | [], j, x, h => by simp at h
  | a :: l, 0, x, h => by
    simp at h
    subst h
    simp
  | a :: l, j + 1, x, h => by
    have := step_list f l j x (by simpa using h)
    refine ⟨by simpa using this.1, ?_⟩
    simp only [List.take_succ_cons, List.map_cons, List.cons_append, List.drop_succ_cons, List.set_cons_succ]
    rw [this.2]
theorem step_same {α : Type} {l : List α} {j : Nat} {x : α} (h : l[j]? = some x) : l.set j x = l := by
  apply List.ext_getElem?
  intro n
  by_cases hn : n = j
  · subst hn
    rw [List.getElem?_set_self (List.getElem?_eq_some_iff.1 h).1, h]
  · rw [List.getElem?_set_ne (fun e => hn e.symm)]
theorem F_drop1 {W : World} {ok : Nat → Prop} {A : Option Addr} {c : Nat} {x : MEn} {r : List MEn} (hF : Kd.F k41 W ok A (x :: r).length (x :: r)) (hc : (x :: r).length ≤ c) : Kd.F k41 W ok (if c = 1 then A else A.map (·.add (1 * k41.sz))) r.length r :=
  fun W' hW => Kd.C_drop (m := 1) (hF W' hW) (by simp) hc
theorem dropOne_len (k : MIk) (l : List MEn) : (dropOne k l).length ≤ l.length := by
  cases l with
  | nil => exact Nat.le_refl _
  | cons e r => rw [dropOne]; split <;> simp
theorem mSame_self (k : MIk) : mSame k k = true := by simp [mSame]
theorem mDrop_less {ls : List (List MEn)} {i : Nat} {e : MEn} {r : List MEn} (h : ls[i]? = some (e :: r)) : mSize (mDrop e.f0 ls) < mSize ls := by
  rw [mDrop_eq]
  unfold mSize
  induction ls generalizing i with
  | nil => simp at h
  | cons a q ih =>
    have hq : ((q.map (dropOne e.f0)).map List.length).sum ≤ (q.map List.length).sum := by
      clear ih h
      induction q with
      | nil => exact Nat.le_refl _
      | cons x q ih => have := dropOne_len e.f0 x; simp only [List.map_cons, List.sum_cons]; omega
    have ha := dropOne_len e.f0 a
    cases i with
    | zero =>
      simp at h
      subst h
      simp only [List.map_cons, List.sum_cons, dropOne, if_pos (mSame_self e.f0), List.length_cons]
      omega
    | succ i =>
      have := ih (by simpa using h)
      simp only [List.map_cons, List.sum_cons]
      omega
theorem mAll_cons {ls : List (List MEn)} {i : Nat} {e : MEn} (n : Nat) (h : mLeast ls 0 none = some (i, e)) : mAll (n + 1) ls = e :: mAll n (mDrop e.f0 ls) := by rw [mAll, h]
attribute [local go_sem high] eqK
set_option maxRecDepth 100000 in
set_option maxHeartbeats 2000000 in
theorem entries_iter (b n₀ : Nat) (A0 : Option Addr) (c0 : Nat) (ls : List (List MEn)) (w : World) (hfit : mFits ls) (hn : n₀ ≤ b) (hbox : w.heap[b]? = some (.cells #[.slice A0 ls.length c0] 22)) (hc0 : ls.length ≤ c0) (hF : Kd.F (Kd.slice 41 k41) w (fun k => k < n₀) A0 ls.length ls) :
    Iter Try.prog 56 #[.pointer (some ⟨b, 0, none⟩)] (fun e : MEn => #[enV e]) (fun xs => xs = mAll (mSize ls) ls) (fun pre => pre <+: mAll (mSize ls) ls) (mAll (mSize ls) ls).length n₀ (· = b) w := by
  intro l J Jx W hJ hJx hsz hH hB hlt hY h0
  have hcell := box_cell (blk_alloc ((hH b rfl).trans hbox) (.cells #[] 29))
  have HBOX := Aside0.mk ((hH b rfl).trans hbox)
  have HF := Aside0.mk (Kd.F_step hF (fun k hk _ => hB.block k hk))
  have HFIT := Aside0.mk hfit
  have HN := Aside0.mk hn
  have HC0 := Aside0.mk hc0
  have HY := Aside0.mk hY
  have H0 := Aside0.mk h0
  have HLT := Aside0.mk (hlt b rfl)
  have HL : Aside0 (ls.length * 24 ≤ 140737488355328) := ⟨by have := hfit.1; omega⟩
  clear hbox hF hfit hn hc0 hY h0 hsz hH hB hlt
  have hinfo : (Try.prog.info? 29).map (fun i => (i.zero, i.size, i.bytes)) = some (some (.slice none 0 0), 1, 24) := by kernel_rfl
  go_enter Try.func56, Try.ntmps56
  go_wp2_with (first | ((with_reducible refine gate_builtin (b := .append) (xs := #[.tmp 8, .tmp 9]) rfl ?_); at_builtin; refine Kd.N_append_rows (Kd.slice 41 k41) (w0 := W) W.heap.size rfl (.tmp 8) (.tmp 9) 22 29 (.slice none 0 0) 24 rfl Try.underlying22 hinfo rfl (by decide) (by decide) (.slice (some ⟨W.heap.size, 0, none⟩) 0 0) ([] : List (List MEn)) ls A0 ls.length c0 (fun k => k < n₀ ∨ W.heap.size ≤ k) (fun k => k < n₀) rfl rfl ?aO ?aR ?aP ?aF ?aB ?aS ?aL ?_; (case aO => exact N_lit W _ _ rfl _ (.inr (Nat.le_refl _))); (case aR => exact Kd.F_alloc HF.out _); (case aP => exact fun k hk => ⟨.inl hk, fun e => by have := HN.out; have := HLT.out; simp [Value.ownBlock] at e; omega⟩); (case aF => exact fun k hk => .inr (by simp at hk; omega)); (case aB => exact below_alloc (Below.refl _ _) _); (case aS => simp); (case aL => have := HL.out; simpa using this); intro v1 w1 hN hb1 hg1 hat1; have HN1 := Aside0.mk hN; have HB1 := Aside0.mk hb1; clear hN hb1 hg1 hat1) | fail)
  have hfit := HFIT.out
  by_cases hpos : 0 < ls.length
  rotate_left
  · have hls : ls = [] := List.eq_nil_of_length_eq_zero (by omega)
    subst hls
    obtain ⟨A1, c1, hv1, _, hC1⟩ := Kd.N_reads HN1.out
    obtain ⟨kl, hkl⟩ := least_ev [] (by simp)
    have HCL := Aside0.mk (merge_least.calls kl A1 c1 ([] : List (List MEn)) _ w1 hC1 (Nat.zero_le _) hkl)
    subst hv1
    refine HCL.out.mono ?_
    rintro e w2 ⟨rfl, hb2⟩
    have HB2 := Aside0.mk hb2
    clear hb2 HCL hC1 hkl
    obtain ⟨C, hC⟩ : ∃ C : Nat → Prop, C = fun k => k = b := ⟨_, rfl⟩
    have HJ : Aside0 (J C [] w2) := ⟨hJ _ C _ W w2 H0.out (Stays.of_below (below_then HB1.out HB1.out.size HB2.out)) (fun k hk => by rw [hC] at hk; exact .inl hk)⟩
    clear H0 hC HY
    rw [show mAt (mLeast ([] : List (List MEn)) 0 none) = -1 from rfl]
    dsimp only
    go_wp2
    go_loopg [4] 0 (fun kq v4 wr => v4 = .int .i64 (-1) ∧ Aside0 (J C [] wr))
    case atStart => exact ⟨rfl, HJ⟩
    case round =>
      clear HJ
      obtain ⟨rfl, HJ⟩ := hrel
      go_wp2
      go_end0
      exact ⟨⟨_, rfl⟩, .inl ⟨_, C, rfl, HJ.out⟩⟩
  · rw [List.nil_append] at HN1
    obtain ⟨g, c1, rfl, hc1, hgb, hglt, hLf⟩ := Lf.of_N HN1.out hpos
    obtain ⟨kl, hkl⟩ := least_ev ls (by have := hfit.1; omega)
    have hcl := merge_least.calls kl (some ⟨g, 0, none⟩) c1 ls _ w1 (Lf.C hLf (by have := hfit.1; omega)) hc1 hkl
    have HCL := Aside0.mk hcl
    have HLF := Aside0.mk hLf
    have HG := Aside0.mk (And.intro hgb hglt)
    have HC1 := Aside0.mk hc1
    have HP := Aside0.mk hpos
    clear hcl hLf hgb hglt hc1 hpos hkl hcell HN1 hfit
    go_wp2_with (go_at_call 57; refine HCL.out.mono ?_; rintro e w2 ⟨rfl, hb2⟩; have HB2 := Aside0.mk hb2; clear hb2)
    obtain ⟨OK, hOK⟩ : ∃ OK : Nat → Prop, OK = fun k => ((k < n₀ ∨ W.heap.size ≤ k) ∧ k ≠ g) ∧ k < w1.heap.size := ⟨_, rfl⟩
    obtain ⟨C, hC⟩ : ∃ C : Nat → Prop, C = fun k => k = b ∨ (W.heap.size ≤ k ∧ k < w1.heap.size) := ⟨_, rfl⟩
    have hlf0 := HLF.out.bound
    rw [← hOK] at hlf0
    have HOKG : Aside0 (∀ k, OK k → k ≠ g) := ⟨fun k hk => by rw [hOK] at hk; exact hk.1.2⟩
    have HOKC : Aside0 (∀ k, OK k → k < n₀ ∨ C k) := ⟨fun k hk => by rw [hOK] at hk; rw [hC]; exact hk.1.1.elim .inl (fun h => .inr (.inr ⟨h, hk.2⟩))⟩
    have HCG : Aside0 (C g) := ⟨by rw [hC]; exact .inr HG.out⟩
    have HCLT : Aside0 (∀ k, C k → k < w1.heap.size) := ⟨fun k hk => by rw [hC] at hk; have := HB1.out.size; have := HLT.out; rcases hk with hk | hk <;> omega⟩
    have HCN : Aside0 (∀ k, C k → n₀ ≤ k) := ⟨fun k hk => by rw [hC] at hk; have := HN.out; have := HLT.out; rcases hk with hk | hk <;> omega⟩
    have hj2 : J C [] w2 := hJ _ C _ W w2 H0.out (Stays.of_below (below_then HB1.out HB1.out.size HB2.out)) (fun k hk => by rw [hC] at hk; exact hk.elim .inl (fun h => .inr h.1))
    have HJ2 := Aside0.mk hj2
    have HLF2 := Aside0.mk (hlf0.below HB2.out)
    have HSZ2 := Aside0.mk HB2.out.size
    clear hOK hC hlf0 hj2 HLF HCL H0
    go_loopg [4] (mSize ls) (fun kq v4 wr => ∃ (cur : List (List MEn)) (pre : List MEn), v4 = .int .i64 (mAt (mLeast cur 0 none)) ∧ Aside0 (cur.length = ls.length ∧ mSize cur ≤ kq ∧ pre ++ mAll kq cur = mAll (mSize ls) ls) ∧ Aside0 (Lf wr OK g cur) ∧ Aside0 (J C pre wr) ∧ Aside0 (w1.heap.size ≤ wr.heap.size))
    case atStart => exact ⟨ls, [], rfl, ⟨rfl, Nat.le_refl _, rfl⟩, HLF2, HJ2, HSZ2⟩
    case round =>
      clear HLF2 HJ2 HSZ2
      obtain ⟨cur, pre, rfl, HR, HLF, HJ, HSZ⟩ := hrel
      cases hL : mLeast cur 0 none with
      | none =>
        have hm : mAt (none : Option (Nat × MEn)) = -1 := rfl
        rw [hm]
        clear hm
        go_wp2
        go_end0
        exact ⟨⟨_, rfl⟩, .inl ⟨pre, C, by have := HR.out.2.2; rw [mAll_none hL, List.append_nil] at this; exact this, HJ.out⟩⟩
      | some ie =>
        obtain ⟨i, e⟩ := ie
        have hm : mAt (some (i, e)) = (i : Int) := rfl
        rw [hm]
        clear hm
        obtain ⟨r, hi⟩ := mLeast_some hL
        have hpos := mSize_pos hi
        cases gk with
        | zero => exact absurd HR.out.2.1 (by omega)
        | succ k1 =>
          obtain ⟨A, c, hcell, hfr, hc, hF⟩ := HLF.out.at_ hi
          obtain ⟨ad, he, h0, h1, h2, h3⟩ := at_T41 (Kd.F_now hF) 0 (by omega) (by rw [List.length_cons]; omega)
          subst he
          rw [show rd_T41 (e :: r) 0 = e from rfl] at h0 h1 h2 h3
          simp only [show (0 : Int).toNat = 0 from rfl, Nat.zero_mul, Addr.add_zero'] at h0 h1 h2 h3
          have hil : i < ls.length := by rw [← HR.out.1]; exact (List.getElem?_eq_some_iff.1 hi).1
          have hib : decide ((i : Int) < (ls.length : Int)) = true := decide_eq_true (by omega)
          have HI := Aside0.mk hi
          have HL2 := Aside0.mk hL
          have HFF := Aside0.mk hF
          have HCC := Aside0.mk hc
          have HPOS := Aside0.mk hpos
          clear hi hL hF hc hpos
          rw [List.length_cons] at hcell
          go_wp2_with fail
          obtain ⟨wo, rfl⟩ : ∃ wo, wo = wr := ⟨_, rfl⟩
          have hnew := blk_alloc_new wo (.cells #[.string e.f0.f0, .int .u64 e.f0.f1, .int .u8 e.f0.f2, .string e.f1] 41)
          obtain ⟨box, hbx⟩ : ∃ box, box = wo.heap.size := ⟨_, rfl⟩
          rw [← hbx] at hnew ⊢
          obtain ⟨wb, hwb⟩ : ∃ wb, wb = wo.alloc (.cells #[.string e.f0.f0, .int .u64 e.f0.f1, .int .u8 e.f0.f2, .string e.f1] 41) := ⟨_, rfl⟩
          rw [← hwb] at hnew ⊢
          have HBOXE := Aside0.mk hnew
          have HLFB : Aside0 (Lf wb OK g cur) := ⟨by rw [hwb]; exact HLF.out.below (below_alloc (Below.refl _ _) _)⟩
          have HJB : Aside0 (J C pre wb) := ⟨by rw [hwb]; exact hJ.stay HJ.out (Stays.alloc C _ _)⟩
          have HSB : Aside0 (w1.heap.size ≤ wb.heap.size) := ⟨by rw [hwb]; have := HSZ.out; simp; omega⟩
          have HBL : Aside0 (w1.heap.size ≤ box ∧ box < wb.heap.size) := ⟨by rw [hwb, hbx]; have := HSZ.out; simp; omega⟩
          clear hcell hfr h0 h1 h2 h3 hil hib hwb hbx hnew HLF HJ HSZ HFF HCC
          go_loopg [25] ls.length (fun kq v25 wr => ∃ j : Nat, v25 = .int .i64 (j : Int) ∧ Aside0 (j + kq = ls.length) ∧ Aside0 (Lf wr OK g (mDrop e.f0 (cur.take j) ++ cur.drop j)) ∧ Aside0 (wr.heap[box]? = some (.cells #[.string e.f0.f0, .int .u64 e.f0.f1, .int .u8 e.f0.f2, .string e.f1] 41)) ∧ Aside0 (J C pre wr) ∧ Aside0 (wr.heap.size = wb.heap.size))
          case atStart => exact ⟨0, rfl, ⟨by omega⟩, by rw [List.take_zero, List.drop_zero]; exact HLFB, HBOXE, HJB, ⟨rfl⟩⟩
          case round =>
            clear HBOXE HLFB HJB
            obtain ⟨j, rfl, HJK, HLF, HBOXE, HJ, HSZ⟩ := hrel
            by_cases hj : j < ls.length
            rotate_left
            · have hjb : decide ((j : Int) < (ls.length : Int)) = false := decide_eq_false (by omega)
              have hjl : j = ls.length := by have := HJK.out; omega
              subst hjl
              have HLFD : Aside0 (Lf wr OK g (mDrop e.f0 cur)) := ⟨by have := HLF.out; rw [← HR.out.1, List.take_length, List.drop_length, List.append_nil] at this; exact this⟩
              have hb0 : wr.cell? ⟨box, 0, none⟩ = some (.string e.f0.f0) := blk_cell HBOXE.out 0
              have hb1 : wr.cell? ⟨box, 1, none⟩ = some (.int .u64 e.f0.f1) := blk_cell HBOXE.out 1
              have hb2 : wr.cell? ⟨box, 2, none⟩ = some (.int .u8 e.f0.f2) := blk_cell HBOXE.out 2
              have hb3 : wr.cell? ⟨box, 3, none⟩ = some (.string e.f1) := blk_cell HBOXE.out 3
              clear hj HLF
              have hall : mAll (mSize ls) ls = pre ++ e :: mAll k1 (mDrop e.f0 cur) := by rw [← HR.out.2.2, mAll_cons k1 HL2.out]
              obtain ⟨fn, tmps, assign, body, hyy, hR⟩ := HY.out C pre e wr (fun k hk => by have := HCLT.out k hk; have := HSB.out; have := HSZ.out; omega) HJ.out (by rw [hall]; simp)
              unfold enV at hyy
              have HYY := Aside0.mk hyy
              have HRR := Aside0.mk hR
              clear hyy hR
              rename ∀ a w, Code.wp _ (Code.seq (Code.region 11 _ _) _) _ a w → _ => hK
              have HK := Aside0.mk (fun a w h => hK a w ((wpIn_wide (n := 1)).1 h))
              clear hK
              go_wp2_with fail
              refine HK.out _ _ ?_
              have hyy := HYY.out
              gi_wp2
              refine HRR.out.mono ?_
              rintro e2 W3 (⟨rfl, hJ3, hH3, hB3⟩ | ⟨rfl, hJx3, _⟩)
              · have hlf3 : Lf W3 OK g (mDrop e.f0 cur) := HLFD.out.keep (hH3 g HCG.out) (fun k hk _ => (HOKC.out k hk).elim (fun h => hB3.block k h) (fun h => hH3 k h))
                have hlen : (mDrop e.f0 cur).length = ls.length := by rw [mDrop_eq, List.length_map]; exact HR.out.1
                have hmx := HFIT.out.1
                obtain ⟨kl2, hkl2⟩ := least_ev (mDrop e.f0 cur) (by omega)
                have hcl := merge_least.calls kl2 (some ⟨g, 0, none⟩) c1 (mDrop e.f0 cur) _ W3 (hlf3.C (by omega)) (by rw [hlen]; exact HC1.out) hkl2
                rw [hlen] at hcl
                have HCL := Aside0.mk hcl
                have HLF3 := Aside0.mk hlf3
                have HJ3 := Aside0.mk hJ3
                have HB3 := Aside0.mk hB3
                have HSZ3 := Aside0.mk (Nat.le_trans (by have := HSB.out; have := HSZ.out; omega : w1.heap.size ≤ wr.heap.size) hB3.size)
                clear hcl hlf3 hJ3 hB3 hH3 hyy HYY HRR hmx hkl2
                gi_wp2
                go_wp2_with (go_at_call 57; refine HCL.out.mono ?_; rintro e4 w4 ⟨rfl, hb4⟩; have HB4 := Aside0.mk hb4; clear hb4)
                go_roundg k1
                case measure => exact Nat.lt_succ_self _
                case rel => exact ⟨mDrop e.f0 cur, pre ++ [e], rfl, ⟨hlen, by have := mDrop_less HI.out; have := HR.out.2.1; omega, by rw [hall, List.append_assoc]; rfl⟩, ⟨HLF3.out.below HB4.out⟩, ⟨hJ.stay HJ3.out (Stays.of_below HB4.out)⟩, ⟨by have := HB4.out.size; have := HSZ3.out; omega⟩⟩
              · gi_wp2
                refine bodyPost_ret (results_none rfl _ _ _) rfl ?_
                exact ⟨⟨_, rfl⟩, .inr ⟨pre ++ [e], C, ⟨mAll k1 (mDrop e.f0 cur), by rw [hall, List.append_assoc]; rfl⟩, hJx3⟩⟩
            · have hjb : decide ((j : Int) < (ls.length : Int)) = true := decide_eq_true (by omega)
              have hjn : decide (j < ls.length) = true := decide_eq_true (by omega)
              cases gk with
              | zero => exact absurd HJK.out (by omega)
              | succ q =>
                obtain ⟨lj, hlj⟩ : ∃ lj, cur[j]? = some lj := ⟨_, List.getElem?_eq_getElem (by rw [HR.out.1]; exact hj)⟩
                obtain ⟨hs1, hs2⟩ := step_list (dropOne e.f0) cur j lj hlj
                rw [← mDrop_eq] at hs1 hs2
                rw [← mDrop_eq] at hs2
                obtain ⟨A, c, hcell, hfr, hc, hF⟩ := HLF.out.at_ hs1
                have HS2 := Aside0.mk hs2
                have HS1 := Aside0.mk hs1
                have HLJ := Aside0.mk hlj
                have HFJ := Aside0.mk hF
                have HCJ := Aside0.mk hc
                clear hs1 hs2 hlj hF hc
                have hb0 : wr.cell? ⟨box, 0, none⟩ = some (.string e.f0.f0) := blk_cell HBOXE.out 0
                have hb1 : wr.cell? ⟨box, 1, none⟩ = some (.int .u64 e.f0.f1) := blk_cell HBOXE.out 1
                have hb2 : wr.cell? ⟨box, 2, none⟩ = some (.int .u8 e.f0.f2) := blk_cell HBOXE.out 2
                cases lj with
                | nil =>
                  have hlb : decide ((0 : Int) < (([] : List MEn).length : Int)) = false := rfl
                  go_wp2
                  go_quiet (fail)
                  go_wp2
                  go_roundg q
                  case measure => exact Nat.lt_succ_self _
                  case rel => exact ⟨j + 1, by rw [Value.int.injEq]; exact ⟨rfl, by unfold wrap64; have := HFIT.out.1; omega⟩, ⟨by have := HJK.out; omega⟩, ⟨by rw [HS2.out, show dropOne e.f0 [] = [] from rfl, step_same HS1.out]; exact HLF.out.keep rfl (fun _ _ _ => rfl)⟩, ⟨HBOXE.out⟩, ⟨hJ.stay HJ.out (Stays.drewN C _ _)⟩, ⟨HSZ.out⟩⟩
                | cons x y =>
                  obtain ⟨ax, he, h0, h1, h2, h3⟩ := at_T41 (Kd.F_now HFJ.out) 0 (by omega) (by rw [List.length_cons]; omega)
                  subst he
                  rw [show rd_T41 (x :: y) 0 = x from rfl] at h0 h1 h2 h3
                  simp only [show (0 : Int).toNat = 0 from rfl, Nat.zero_mul, Addr.add_zero'] at h0 h1 h2 h3
                  rw [List.length_cons] at hcell
                  have hlb : decide ((0 : Int) < ((y.length + 1 : Nat) : Int)) = true := decide_eq_true (by omega)
                  obtain ⟨i02, hi02, _, hsz02, _⟩ := info_parts info41
                  have hcut := cut_from (P := Try.prog) 29 41 .i64 Try.underlying29 hi02 4 hsz02 (some ax) (y.length + 1) c 1 (by omega) (by omega)
                  obtain ⟨A2, hA2⟩ : ∃ A1, A1 = (if c = (1 : Int).toNat then some ax else (some ax : Option Addr).map (·.add ((1 : Int).toNat * 4))) := ⟨_, rfl⟩
                  have hF2 : Kd.F k41 wr OK A2 y.length y := by rw [hA2]; exact F_drop1 HFJ.out HCJ.out
                  rw [← hA2, show y.length + 1 - (1 : Int).toNat = y.length from by omega] at hcut
                  obtain ⟨c2, hc2⟩ : ∃ c1, c1 = c - (1 : Int).toNat := ⟨_, rfl⟩
                  rw [← hc2] at hcut
                  have HF2 := Aside0.mk hF2
                  have HC2 : Aside0 (y.length ≤ c2) := ⟨by rw [hc2]; have := HCJ.out; rw [List.length_cons] at this; omega⟩
                  clear hA2 hF2 hc2 hi02 hsz02
                  obtain ⟨sm, hsm⟩ : ∃ sm, sm = (x.f0.f0.toList == e.f0.f0.toList && (x.f0.f1 == e.f0.f1 && (x.f0.f2 == e.f0.f2))) := ⟨_, rfl⟩
                  go_wp2
                  go_quiet (fail)
                  rw [← hsm]
                  cases sm with
                  | false =>
                    have hms : dropOne e.f0 (x :: y) = x :: y := by rw [dropOne, if_neg]; rw [mSame, ← hsm]; decide
                    clear hsm
                    go_wp2
                    go_roundg q
                    case measure => exact Nat.lt_succ_self _
                    case rel => exact ⟨j + 1, by rw [Value.int.injEq]; exact ⟨rfl, by unfold wrap64; have := HFIT.out.1; omega⟩, ⟨by have := HJK.out; omega⟩, ⟨by rw [HS2.out, hms, step_same HS1.out]; exact HLF.out.keep rfl (fun _ _ _ => rfl)⟩, ⟨HBOXE.out⟩, ⟨hJ.stay HJ.out (Stays.drewN C _ _)⟩, ⟨HSZ.out⟩⟩
                  | true =>
                    have hms : dropOne e.f0 (x :: y) = y := by rw [dropOne, if_pos]; rw [mSame, ← hsm]
                    clear hsm
                    go_wp2
                    go_roundg q
                    case measure => exact Nat.lt_succ_self _
                    case rel =>
                      refine ⟨j + 1, by rw [Value.int.injEq]; exact ⟨rfl, by unfold wrap64; have := HFIT.out.1; omega⟩, ⟨by have := HJK.out; omega⟩, ⟨?_⟩, ⟨(Below.heap_setCell _ ⟨g, j, none⟩ _ box (fun e => ?_)).trans HBOXE.out⟩, ⟨hJ.stay (hJ.stay HJ.out (Stays.drewN C _ _)) (Stays.setCell (C := C) (p := ⟨g, j, none⟩) HCG.out _)⟩, ⟨by simpa [World.setCell] using HSZ.out⟩⟩
                      · rw [HS2.out, hms]
                        exact Lf.set (W := wr.drewN nq) (HLF.out.keep rfl (fun _ _ _ => rfl)) HOKG.out (List.getElem?_eq_some_iff.1 HS1.out).1 HC2.out (Kd.F_step HF2.out (fun _ _ _ => rfl))
                      · have := HBL.out
                        have := HG.out
                        simp at e
                        omega
end Go.Proofs.YtojemmipkpckbaaG

end

section
set_option linter.unusedVariables false
set_option linter.unusedSimpArgs false
namespace Go.Proofs.YtojemmipkpckbaaG
open Go Go.RowKit Go.Proofs.YtojemmipkpckbaaR Go.Proofs.YtojemmipkpckbaaL Go.Proofs.Ytojemmipkpckbaa.P Go.Proofs.YtojemmipkpckbaaW.PrintWords
attribute [local go_sem] Oper.semAt_some

theorem entries_new (A0 : Option Addr) (n c0 : Nat) (w : World) : Calls Try.prog 44 #[.slice A0 n c0] w fun e w' => e = .returned (.func (.func 56) #[] #[.pointer (some ⟨w.heap.size, 0, none⟩)]) ∧ w.alloc (.cells #[.slice A0 n c0] 22) = w' := by
  go_enter Try.func44, Try.ntmps44
  go_wp2
  go_ret
  exact ⟨rfl, rfl⟩
theorem heapL : Kd.Heap (Kd.slice 41 k41) := by
  unfold k41 k39
  repeat (first | apply Kd.heap_slice | apply Kd.heap_iso | apply Kd.heap_pair | exact Kd.heap_string | exact Kd.heap_int _)
theorem mAll_len : ∀ (n : Nat) (ls : List (List MEn)), (mAll n ls).length ≤ n
  | 0, _ => Nat.zero_le _
  | n + 1, ls => by
    rw [mAll]
    split
    · exact Nat.zero_le _
    · rw [List.length_cons]
      exact Nat.succ_le_succ (mAll_len n _)
theorem roundIn_any {m m' : Nat} {P : Program} {l l' : Nat} {f : FuncId} {tmps : Array Value} {assign body : Code} {w : World} {R : Ending → World → Prop} (h : RoundIn Fence.wide m P l f tmps assign body w R) : RoundIn (Fence.wide.inRound l') m' P l f tmps assign body w R :=
  ⟨h.1, fun c cs _ => h.2 c cs (room_wide _)⟩
def skipB (lo : ByteArray) (seq : Int) (last : Option ByteArray) (e : MEn) : Bool := Op.bytesLess e.f0.f0.toList lo.toList || decide (seq < e.f0.f1) || (match last with | none => false | some k => e.f0.f0.toList == k.toList)
def stepL (lo : ByteArray) (seq : Int) (last : Option ByteArray) (e : MEn) : Option ByteArray := if skipB lo seq last e = true then last else some e.f0.f0
def lastOf (lo : ByteArray) (seq : Int) (last : Option ByteArray) (l : List MEn) : Option ByteArray := l.foldl (stepL lo seq) last
theorem mSeen_cons (lo : ByteArray) (seq : Int) (last : Option ByteArray) (e : MEn) (r : List MEn) : mSeen lo seq last (e :: r) = (if skipB lo seq last e = true then [] else [e]) ++ mSeen lo seq (stepL lo seq last e) r := by
  have h0 : mSeen lo seq last (e :: r) = if skipB lo seq last e = true then mSeen lo seq last r else e :: mSeen lo seq (some e.f0.f0) r := rfl
  rw [h0]
  unfold stepL
  by_cases h : skipB lo seq last e = true
  · rw [if_pos h, if_pos h, if_pos h]; rfl
  · rw [if_neg h, if_neg h, if_neg h]; rfl
theorem mSeen_append (lo : ByteArray) (seq : Int) : ∀ (a : List MEn) (last : Option ByteArray) (b : List MEn), mSeen lo seq last (a ++ b) = mSeen lo seq last a ++ mSeen lo seq (lastOf lo seq last a) b
  | [], _, _ => rfl
  | e :: a, last, b => by
    rw [List.cons_append, mSeen_cons, mSeen_cons, mSeen_append lo seq a, List.append_assoc]
    rfl
theorem mSeen_snoc (lo : ByteArray) (seq : Int) (a : List MEn) (e : MEn) : mSeen lo seq none (a ++ [e]) = mSeen lo seq none a ++ (if skipB lo seq (lastOf lo seq none a) e = true then [] else [e]) := by
  rw [mSeen_append, mSeen_cons]
  simp [mSeen]
theorem lastOf_snoc (lo : ByteArray) (seq : Int) (a : List MEn) (e : MEn) : lastOf lo seq none (a ++ [e]) = stepL lo seq (lastOf lo seq none a) e := by
  unfold lastOf
  rw [List.foldl_append]
  rfl
theorem mSeen_prefix (lo : ByteArray) (seq : Int) {a b : List MEn} (h : a <+: b) : mSeen lo seq none a <+: mSeen lo seq none b := by
  obtain ⟨c, rfl⟩ := h
  rw [mSeen_append]
  exact List.prefix_append _ _
theorem seen_new (A0 : Option Addr) (n c0 : Nat) (lo : ByteArray) (seq : Int) (w : World) : Calls Try.prog 43 #[.slice A0 n c0, .string lo, .int .u64 seq] w fun e w' => e = .returned (.func (.func 55) #[] #[.pointer (some ⟨w.heap.size, 0, none⟩), .pointer (some ⟨w.heap.size + 1, 0, none⟩), .pointer (some ⟨w.heap.size + 2, 0, none⟩)]) ∧ ((w.alloc (.cells #[.slice A0 n c0] 22)).alloc (.cells #[.string lo] 9)).alloc (.cells #[.int .u64 seq] 23) = w' := by
  go_enter Try.func43, Try.ntmps43
  go_wp2
  go_ret
  exact ⟨rfl, rfl⟩
theorem mSeen_len (lo : ByteArray) (seq : Int) : ∀ (l : List MEn) (last : Option ByteArray), (mSeen lo seq last l).length ≤ l.length
  | [], _ => Nat.le_refl _
  | e :: l, last => by
    rw [mSeen_cons, List.length_append, List.length_cons]
    have := mSeen_len lo seq l (stepL lo seq last e)
    split <;> simp <;> omega
/-- The blocks that seen's iterator keeps. -/
def sP (b y : Nat) (k : Nat) : Prop := k = b ∨ k = b + 1 ∨ k = b + 2 ∨ k = y ∨ k = y + 1 ∨ k = y + 2
def seenI (lo : ByteArray) (seq : Int) (b y l n₀ : Nat) (J : (Nat → Prop) → List MEn → World → Prop) (C : Nat → Prop) (pre : List MEn) (W : World) : Prop :=
  J (fun k => C k ∨ sP b y k) (mSeen lo seq none pre) W ∧ (¬ C (b + 1) ∧ W.heap[b + 1]? = some (.cells #[.string lo] 9)) ∧ (¬ C (b + 2) ∧ W.heap[b + 2]? = some (.cells #[.int .u64 seq] 23)) ∧ (¬ C y ∧ W.heap[y]? = some (.cells #[.func (.yield l) #[] #[]] 61)) ∧ (¬ C (y + 1) ∧ W.heap[y + 1]? = some (.cells #[.string ((lastOf lo seq none pre).getD ⟨#[]⟩)] 9)) ∧ (¬ C (y + 2) ∧ W.heap[y + 2]? = some (.cells #[.bool (lastOf lo seq none pre).isSome] 4))
def seenX (lo : ByteArray) (seq : Int) (b y : Nat) (Jx : (Nat → Prop) → List MEn → World → Prop) (c : Code) (C : Nat → Prop) (pre : List MEn) (W : World) : Prop := c = .ret ∧ Jx (fun k => C k ∨ sP b y k) (mSeen lo seq none pre) W
theorem fits_in {J : (Nat → Prop) → List MEn → World → Prop} (hJ : Fits J) (P : Nat → Prop) (f : List MEn → List MEn) : Fits (fun C pre W => J (fun k => C k ∨ P k) (f pre) W) :=
  fun C C' s W W' hj hs hc => hJ _ _ (f s) W W' hj (hs.mono (fun _ h => .inl h)) (fun k hk => hk.elim (fun h => (hc k h).elim (fun h => .inl (.inl h)) .inr) (fun h => .inl (.inr h)))
theorem seenI_fits (lo : ByteArray) (seq : Int) (b y l n₀ : Nat) {J : (Nat → Prop) → List MEn → World → Prop} (hJ : Fits J) : Fits (seenI lo seq b y l n₀ J) :=
  (fits_in hJ (sP b y) (mSeen lo seq none)).and ((Fits.block (fun _ => b + 1) (fun _ => .cells #[.string lo] 9)).and ((Fits.block (fun _ => b + 2) (fun _ => .cells #[.int .u64 seq] 23)).and ((Fits.block (fun _ => y) (fun _ => .cells #[.func (.yield l) #[] #[]] 61)).and ((Fits.block (fun _ => y + 1) (fun pre : List MEn => .cells #[.string ((lastOf lo seq none pre).getD ⟨#[]⟩)] 9)).and (Fits.block (fun _ => y + 2) (fun pre : List MEn => .cells #[.bool (lastOf lo seq none pre).isSome] 4))))))
theorem seenX_fits (lo : ByteArray) (seq : Int) (b y : Nat) {Jx : (Nat → Prop) → List MEn → World → Prop} (hJ : Fits Jx) (c : Code) : Fits (seenX lo seq b y Jx c) :=
  (Fits.pure (fun _ : List MEn => c = .ret)).and (fits_in hJ (sP b y) (mSeen lo seq none))
theorem seenI_skip {lo : ByteArray} {seq : Int} {b y l n₀ : Nat} {J : (Nat → Prop) → List MEn → World → Prop} {C : Nat → Prop} {pre : List MEn} {x : MEn} {W : World} (h : seenI lo seq b y l n₀ J C pre W) (hs : skipB lo seq (lastOf lo seq none pre) x = true) : seenI lo seq b y l n₀ J C (pre ++ [x]) W := by
  unfold seenI at h ⊢
  rw [mSeen_snoc, lastOf_snoc, stepL, if_pos hs, if_pos hs, List.append_nil]
  exact h
/-- The world in which an entry is handed on: its key is remembered. -/
def seenW (y : Nat) (c : MEn) (W : World) : World := (W.setCell ⟨y + 1, 0, none⟩ (.string c.f0.f0)).setCell ⟨y + 2, 0, none⟩ (.bool true)
theorem seenW_hold {y : Nat} {c : MEn} {W : World} {C : Nat → Prop} (h1 : ¬ C (y + 1)) (h2 : ¬ C (y + 2)) : Hold C W (seenW y c W) := (Hold.setCell (p := ⟨y + 1, 0, none⟩) h1 _).trans (Hold.setCell (p := ⟨y + 2, 0, none⟩) h2 _)
theorem seenW_below {y n₀ : Nat} {c : MEn} {W : World} (h : n₀ ≤ y) : Below n₀ W (seenW y c W) := ((Below.refl _ _).setCell (p := ⟨y + 1, 0, none⟩) (by show n₀ ≤ y + 1; omega) _).setCell (p := ⟨y + 2, 0, none⟩) (by show n₀ ≤ y + 2; omega) _
theorem seenW_other {y : Nat} {c : MEn} {W : World} {k : Nat} (h1 : k ≠ y + 1) (h2 : k ≠ y + 2) : (seenW y c W).heap[k]? = W.heap[k]? :=
  (Below.heap_setCell _ ⟨y + 2, 0, none⟩ _ k (fun e => h2 e)).trans (Below.heap_setCell _ ⟨y + 1, 0, none⟩ _ k (fun e => h1 e))
theorem seen_after {lo : ByteArray} {seq : Int} {b y l n₀ : Nat} {J : (Nat → Prop) → List MEn → World → Prop} {C : Nat → Prop} {pre : List MEn} {c : MEn} {W W4 : World} (h : seenI lo seq b y l n₀ J C pre W) (hns : skipB lo seq (lastOf lo seq none pre) c = false) (hby : b + 2 < y)
    (hJ : J (fun k => C k ∨ sP b y k) (mSeen lo seq none pre ++ [c]) W4) (hH : Hold (fun k => C k ∨ sP b y k) (seenW y c W) W4) : seenI lo seq b y l n₀ J C (pre ++ [c]) W4 := by
  obtain ⟨_, h1, h2, h3, h4, h5⟩ := h
  have hP : ∀ k, sP b y k → W4.heap[k]? = (seenW y c W).heap[k]? := fun k hk => hH k (.inr hk)
  have hsn : mSeen lo seq none (pre ++ [c]) = mSeen lo seq none pre ++ [c] := by rw [mSeen_snoc, if_neg (by rw [hns]; decide)]
  have hla : lastOf lo seq none (pre ++ [c]) = some c.f0.f0 := by rw [lastOf_snoc, stepL, if_neg (by rw [hns]; decide)]
  unfold seenI
  rw [hsn, hla]
  refine ⟨hJ, ⟨h1.1, ?_⟩, ⟨h2.1, ?_⟩, ⟨h3.1, ?_⟩, ⟨h4.1, ?_⟩, ⟨h5.1, ?_⟩⟩
  · exact (hP _ (by unfold sP; omega)).trans ((seenW_other (by omega) (by omega)).trans h1.2)
  · exact (hP _ (by unfold sP; omega)).trans ((seenW_other (by omega) (by omega)).trans h2.2)
  · exact (hP _ (by unfold sP; omega)).trans ((seenW_other (by omega) (by omega)).trans h3.2)
  · refine (hP _ (by unfold sP; omega)).trans ((Below.heap_setCell _ ⟨y + 2, 0, none⟩ _ (y + 1) (fun e => ?_)).trans (box_set h4.2 _))
    simp at e
  · refine (hP _ (by unfold sP; omega)).trans (box_set (v := .bool (lastOf lo seq none pre).isSome) ?_ _)
    exact (Below.heap_setCell _ ⟨y + 1, 0, none⟩ _ (y + 2) (fun e => by simp at e)).trans h5.2
set_option maxRecDepth 100000 in
set_option maxHeartbeats 2000000 in
theorem seen_iter (b n₀ : Nat) (A0 : Option Addr) (c0 : Nat) (ls : List (List MEn)) (lo : ByteArray) (seq : Int) (w : World) (hfit : mFits ls) (hn : n₀ ≤ b) (hb0 : w.heap[b]? = some (.cells #[.slice A0 ls.length c0] 22)) (hb1 : w.heap[b + 1]? = some (.cells #[.string lo] 9)) (hb2 : w.heap[b + 2]? = some (.cells #[.int .u64 seq] 23)) (hc0 : ls.length ≤ c0) (hF : Kd.F (Kd.slice 41 k41) w (fun k => k < n₀) A0 ls.length ls) :
    Iter Try.prog 55 #[.pointer (some ⟨b, 0, none⟩), .pointer (some ⟨b + 1, 0, none⟩), .pointer (some ⟨b + 2, 0, none⟩)] (fun e : MEn => #[enV e]) (fun xs => xs = mSeen lo seq none (mAll (mSize ls) ls)) (fun pre => pre <+: mSeen lo seq none (mAll (mSize ls) ls)) (mAll (mSize ls) ls).length n₀ (fun k => k = b ∨ k = b + 1 ∨ k = b + 2) w := by
  intro l J Jx W hJ hJx hsz hH hB hlt hY h0
  have HB0 := Aside0.mk ((hH b (.inl rfl)).trans hb0)
  have HB1 := Aside0.mk ((hH (b + 1) (.inr (.inl rfl))).trans hb1)
  have HB2 := Aside0.mk ((hH (b + 2) (.inr (.inr rfl))).trans hb2)
  have HF := Aside0.mk (Kd.F_step hF (fun k hk _ => hB.block k hk))
  have HFIT := Aside0.mk hfit
  have HN := Aside0.mk hn
  have HC0 := Aside0.mk hc0
  have HY := Aside0.mk hY
  have H0 := Aside0.mk h0
  have HLT : Aside0 (b + 2 < W.heap.size) := ⟨hlt (b + 2) (.inr (.inr rfl))⟩
  clear hb0 hb1 hb2 hF hfit hn hc0 hY h0 hsz hH hB hlt
  have hx0 := box_cell (blk_alloc (blk_alloc (blk_alloc HB0.out (.cells #[.func (.yield l) #[] #[]] 61)) (.cells #[.string ⟨#[]⟩] 9)) (.cells #[.bool false] 4))
  refine (callsIn_wide (n := 4)).1 ?_
  refine callsIn_of_wp_marks Try.func55 rfl trivial ?_ rfl
  simp only [Try.ntmps55, List.size_toArray, List.length_cons, List.length_nil, Nat.reduceAdd, Nat.reduceSub, Array.replicate_succ, Array.replicate_zero, List.push_toArray, List.append_toArray, List.nil_append, List.cons_append]
  gi_wp2_with (first | (refine ⟨trivial, ?_⟩; gi_at_call 44; refine (callsIn_wide.2 (entries_new _ _ _ _)).mono ?_; rintro e w2 ⟨rfl, rfl⟩))
  obtain ⟨y, hy⟩ : ∃ y, y = W.heap.size := ⟨_, rfl⟩
  obtain ⟨w1, hw1⟩ : ∃ w1, w1 = (((W.alloc (.cells #[.func (.yield l) #[] #[]] 61)).alloc (.cells #[.string ⟨#[]⟩] 9)).alloc (.cells #[.bool false] 4)).alloc (.cells #[.slice A0 ls.length c0] 22) := ⟨_, rfl⟩
  rw [← hw1, ← hy]
  have hs1 : w1.heap.size = y + 4 := by rw [hw1, hy]; simp
  have hBB : Below W.heap.size W w1 := by rw [hw1]; exact below_alloc (below_alloc (below_alloc (below_alloc (Below.refl _ _) _) _) _) _
  have hy0 : w1.heap[y]? = some (.cells #[.func (.yield l) #[] #[]] 61) := by
    rw [hw1, hy]
    exact blk_alloc (blk_alloc (blk_alloc (box_new W _ _) _) _) _
  have hy1 : w1.heap[y + 1]? = some (.cells #[.string ⟨#[]⟩] 9) := by
    rw [hw1, hy]
    have := box_new (W.alloc (.cells #[.func (.yield l) #[] #[]] 61)) (.string ⟨#[]⟩) 9
    rw [World.size_alloc] at this
    exact blk_alloc (blk_alloc this _) _
  have hy2 : w1.heap[y + 2]? = some (.cells #[.bool false] 4) := by
    rw [hw1, hy]
    have := box_new ((W.alloc (.cells #[.func (.yield l) #[] #[]] 61)).alloc (.cells #[.string ⟨#[]⟩] 9)) (.bool false) 4
    rw [World.size_alloc, World.size_alloc] at this
    exact blk_alloc this _
  have hy3 : w1.heap[y + 3]? = some (.cells #[.slice A0 ls.length c0] 22) := by
    rw [hw1, hy]
    have := box_new (((W.alloc (.cells #[.func (.yield l) #[] #[]] 61)).alloc (.cells #[.string ⟨#[]⟩] 9)).alloc (.cells #[.bool false] 4)) (.slice A0 ls.length c0) 22
    rwa [World.size_alloc, World.size_alloc, World.size_alloc] at this
  have hny : n₀ ≤ y := by have := HN.out; have := HLT.out; omega
  have HI : Aside0 (Iter Try.prog 56 #[.pointer (some ⟨y + 3, 0, none⟩)] (fun e : MEn => #[enV e]) (fun xs => xs = mAll (mSize ls) ls) (fun pre => pre <+: mAll (mSize ls) ls) (mAll (mSize ls) ls).length n₀ (· = y + 3) w1) :=
    ⟨entries_iter (y + 3) n₀ A0 c0 ls w1 HFIT.out (by omega) hy3 HC0.out (Kd.F_step HF.out (fun k hk _ => hBB.block k (by omega)))⟩
  have hb1 : w1.heap[b + 1]? = some (.cells #[.string lo] 9) := (hBB.block _ (by have := HLT.out; omega)).trans HB1.out
  have hb2 : w1.heap[b + 2]? = some (.cells #[.int .u64 seq] 23) := (hBB.block _ (by have := HLT.out; omega)).trans HB2.out
  have hLT : b + 2 < y := by rw [hy]; exact HLT.out
  have hjw : J (fun k => k = y + 3 ∨ sP b y k) [] w1 := hJ _ _ [] W w1 H0.out (Stays.of_below hBB) (fun k hk => by unfold sP at hk; omega)
  have HI0 : Aside0 (seenI lo seq b y l n₀ J (· = y + 3) [] w1) := ⟨hjw, ⟨by omega, hb1⟩, ⟨by omega, hb2⟩, ⟨by omega, hy0⟩, ⟨by omega, hy1⟩, ⟨by omega, hy2⟩⟩
  have HNY := Aside0.mk hny
  have HLY := Aside0.mk hLT
  have HS1 := Aside0.mk hs1
  clear hw1 hs1 hBB hy0 hy1 hy2 hy3 hny hb1 hb2 hLT hjw HB0 HB1 HB2 HF H0 HC0 hx0 hy HLT HN
  refine range_law (gf := 56) (lb := #[.pointer (some ⟨y + 3, 0, none⟩)]) rfl (enters_of Try.func56 (by kernel_rfl) rfl)
    HI.out (fun k hk => by subst hk; rw [HS1.out]; omega) (by rw [HS1.out]; have := HNY.out; omega) (fun _ => rfl)
    (seenI lo seq b y l n₀ J) (seenX lo seq b y Jx) (seenI_fits lo seq b y l n₀ hJ) (seenX_fits lo seq b y hJx) HI0.out ?round ?done ?stop
  case round =>
    intro l' C pre c W hlt hle hi hlen
    clear HI HI0 HFIT
    have hyW : y + 4 ≤ W.heap.size := by rw [HS1.out] at hle; exact hle
    clear hle HS1
    unfold enV
    gi_wp2
    obtain ⟨W1, hW1⟩ : ∃ W1, W1 = W.alloc (.cells #[.string c.f0.f0, .int .u64 c.f0.f1, .int .u8 c.f0.f2, .string c.f1] 41) := ⟨_, rfl⟩
    have hnew := blk_alloc_new W (.cells #[.string c.f0.f0, .int .u64 c.f0.f1, .int .u8 c.f0.f2, .string c.f1] 41)
    have hS : Stays C W W1 := by rw [hW1]; exact Stays.alloc _ _ _
    have hBW : Below W.heap.size W W1 := by rw [hW1]; exact below_alloc (Below.refl _ _) _
    have hsz1 : W1.heap.size = W.heap.size + 1 := by rw [hW1]; simp
    rw [← hW1] at hnew ⊢
    clear hW1
    refine ⟨Hold.of_below hBW hlt, hBW.mono (by have := HNY.out; omega), fun W'' hst hlt2 hb2 hsz2 => ?_⟩
    have hi2 := (seenI_fits lo seq b y l n₀ hJ).stay ((seenI_fits lo seq b y l n₀ hJ).stay hi hS) hst
    have hbx : W''.heap[W.heap.size]? = some (.cells #[.string c.f0.f0, .int .u64 c.f0.f1, .int .u8 c.f0.f2, .string c.f1] 41) := (hst.block _ (by omega) (fun h => by have := hlt _ h; omega)).trans hnew
    have hx0 : W''.cell? ⟨W.heap.size, 0, none⟩ = some (.string c.f0.f0) := blk_cell hbx 0
    have hx1 : W''.cell? ⟨W.heap.size, 1, none⟩ = some (.int .u64 c.f0.f1) := blk_cell hbx 1
    have hx2 : W''.cell? ⟨W.heap.size, 2, none⟩ = some (.int .u8 c.f0.f2) := blk_cell hbx 2
    have hx3 : W''.cell? ⟨W.heap.size, 3, none⟩ = some (.string c.f1) := blk_cell hbx 3
    have hr1 := box_cell hi2.2.1.2
    have hr2 := box_cell hi2.2.2.1.2
    have hr3 := box_cell hi2.2.2.2.1.2
    have hr4 := box_cell hi2.2.2.2.2.1.2
    have hr5 := box_cell hi2.2.2.2.2.2.2
    have hf4 := box_frozen hi2.2.2.2.2.1.2
    have hf5 := box_frozen hi2.2.2.2.2.2.2
    have HI2 := Aside0.mk hi2
    have HLT2 := Aside0.mk hlt2
    have HBX := Aside0.mk hbx
    have HLEN := Aside0.mk hlen
    have HSZ : Aside0 (y + 4 < W''.heap.size) := ⟨by omega⟩
    have hn1 : (y + 1 = W.heap.size) = False := eq_false (by omega)
    have hn2 : (y + 2 = W.heap.size) = False := eq_false (by omega)
    have hn3 : (W.heap.size = y + 1) = False := eq_false (by omega)
    have hn4 : (W.heap.size = y + 2) = False := eq_false (by omega)
    clear hi2 hi hst hlt2 hb2 hlt hsz2 hS hBW hsz1 hnew hbx hyW hlen
    rw [show y + 1 + 1 = y + 2 from rfl] at *
    obtain ⟨o, ho⟩ : ∃ o, o = lastOf lo seq none pre := ⟨_, rfl⟩
    rw [← ho] at hr4 hr5
    have HO := Aside0.mk ho
    clear ho
    have fin : ∀ {e : Exit} {a : Act}, skipB lo seq o c = true → bodyEnd C n₀ (seenI lo seq b y l n₀ J) (seenX lo seq b y Jx) (pre ++ [c]) W'' .normal a W'' := fun h => ⟨Hold.refl _ _, Below.refl _ _, seenI_skip HI2.out (by rw [← HO.out]; exact h)⟩
    have FIN := Aside0.mk @fin
    clear fin
    obtain ⟨p1, hp1⟩ : ∃ p, Op.bytesLess c.f0.f0.toList lo.toList = p := ⟨_, rfl⟩
    obtain ⟨p2, hp2⟩ : ∃ p, decide (seq < c.f0.f1) = p := ⟨_, rfl⟩
    cases p1 with
    | true =>
      gi_wp2
      exact FIN.out (e := .normal) (by unfold skipB; rw [hp1]; rfl)
    | false =>
      cases p2 with
      | true =>
        gi_wp2
        exact FIN.out (e := .normal) (by unfold skipB; rw [hp1, hp2]; rfl)
      | false =>
        cases o with
        | none =>
          change W''.cell? ⟨y + 1, 0, none⟩ = some (.string ⟨#[]⟩) at hr4
          change W''.cell? ⟨y + 2, 0, none⟩ = some (.bool false) at hr5
          have hns : skipB lo seq (lastOf lo seq none pre) c = false := by rw [← HO.out]; unfold skipB; rw [hp1, hp2]; rfl
          have HNS := Aside0.mk hns
          clear hns
          have hW3s : ∀ i : Nat, ((W''.setCell ⟨y + 1, 0, none⟩ (.string c.f0.f0)).setCell ⟨y + 2, 0, none⟩ (.bool true)).heap.size = W''.heap.size := fun _ => by simp [World.setCell]
          obtain ⟨fn, tmps, assign, body, hyy, hR⟩ := HY.out (fun k => C k ∨ sP b y k) (mSeen lo seq none pre) c ((W''.setCell ⟨y + 1, 0, none⟩ (.string c.f0.f0)).setCell ⟨y + 2, 0, none⟩ (.bool true))
            (fun k hk => by rw [hW3s 0]; exact hk.elim (HLT2.out k) (fun h => by have := HLY.out; have := HSZ.out; unfold sP at h; omega))
            (hJ.stay (hJ.stay HI2.out.1 (Stays.setCell (C := fun k => C k ∨ sP b y k) (p := ⟨y + 1, 0, none⟩) (.inr (by unfold sP; simp)) _)) (Stays.setCell (C := fun k => C k ∨ sP b y k) (p := ⟨y + 2, 0, none⟩) (.inr (by unfold sP; simp)) _))
            (Nat.lt_of_le_of_lt (mSeen_len _ _ _ _) HLEN.out)
          clear hW3s
          unfold enV at hyy
          have HRR := Aside0.mk hR
          clear hR
          gi_wp2
          refine RoundIn.mono (roundIn_any (l' := l') HRR.out) ?_
          rintro e4 W4 (⟨rfl, hJ4, hH4, hB4⟩ | ⟨rfl, hJx4, hH4⟩)
          · gi_wp2
            exact ⟨(seenW_hold HI2.out.2.2.2.2.1.1 HI2.out.2.2.2.2.2.1).trans (hH4.mono (fun _ h => .inl h)), (seenW_below HNY.out).trans hB4, seen_after HI2.out HNS.out HLY.out hJ4 hH4⟩
          · gi_wp2
            refine ⟨(seenW_hold HI2.out.2.2.2.2.1.1 HI2.out.2.2.2.2.2.1).trans (hH4.mono (fun _ h => .inl h)), rfl, ?_⟩
            rw [mSeen_snoc, if_neg (by rw [HNS.out]; decide)]
            exact hJx4
        | some k =>
          change W''.cell? ⟨y + 1, 0, none⟩ = some (.string k) at hr4
          change W''.cell? ⟨y + 2, 0, none⟩ = some (.bool true) at hr5
          obtain ⟨p4, hp4⟩ : ∃ p, (c.f0.f0.toList == k.toList) = p := ⟨_, rfl⟩
          cases p4 with
          | true =>
            gi_wp2
            exact FIN.out (e := .normal) (by unfold skipB; rw [hp1, hp2]; exact hp4)
          | false =>
            have hns : skipB lo seq (lastOf lo seq none pre) c = false := by rw [← HO.out]; unfold skipB; rw [hp1, hp2]; exact hp4
            have HNS := Aside0.mk hns
            clear hns
            have hW3s : ∀ i : Nat, ((W''.setCell ⟨y + 1, 0, none⟩ (.string c.f0.f0)).setCell ⟨y + 2, 0, none⟩ (.bool true)).heap.size = W''.heap.size := fun _ => by simp [World.setCell]
            obtain ⟨fn, tmps, assign, body, hyy, hR⟩ := HY.out (fun k => C k ∨ sP b y k) (mSeen lo seq none pre) c ((W''.setCell ⟨y + 1, 0, none⟩ (.string c.f0.f0)).setCell ⟨y + 2, 0, none⟩ (.bool true))
              (fun k hk => by rw [hW3s 0]; exact hk.elim (HLT2.out k) (fun h => by have := HLY.out; have := HSZ.out; unfold sP at h; omega))
              (hJ.stay (hJ.stay HI2.out.1 (Stays.setCell (C := fun k => C k ∨ sP b y k) (p := ⟨y + 1, 0, none⟩) (.inr (by unfold sP; simp)) _)) (Stays.setCell (C := fun k => C k ∨ sP b y k) (p := ⟨y + 2, 0, none⟩) (.inr (by unfold sP; simp)) _))
              (Nat.lt_of_le_of_lt (mSeen_len _ _ _ _) HLEN.out)
            clear hW3s
            unfold enV at hyy
            have HRR := Aside0.mk hR
            clear hR
            gi_wp2
            refine RoundIn.mono (roundIn_any (l' := l') HRR.out) ?_
            rintro e4 W4 (⟨rfl, hJ4, hH4, hB4⟩ | ⟨rfl, hJx4, hH4⟩)
            · gi_wp2
              exact ⟨(seenW_hold HI2.out.2.2.2.2.1.1 HI2.out.2.2.2.2.2.1).trans (hH4.mono (fun _ h => .inl h)), (seenW_below HNY.out).trans hB4, seen_after HI2.out HNS.out HLY.out hJ4 hH4⟩
            · gi_wp2
              refine ⟨(seenW_hold HI2.out.2.2.2.2.1.1 HI2.out.2.2.2.2.2.1).trans (hH4.mono (fun _ h => .inl h)), rfl, ?_⟩
              rw [mSeen_snoc, if_neg (by rw [HNS.out]; decide)]
              exact hJx4
  case done =>
    rintro D C xs W hCD hD rfl ⟨hj, _⟩ hK
    have HJ := Aside0.mk hj
    have HK := Aside0.mk hK
    clear hj hK HI HI0 HFIT HS1 HNY HLY HY hD
    gi_wp2
    refine ⟨by simp, .inl ⟨_, _, rfl, run_takeDeferred HK.out, ?_⟩⟩
    exact ⟨_, results_none rfl _ _ _, ⟨_, rfl⟩, .inl ⟨_, _, rfl, hJ.stay HJ.out (Stays.putObj (.inl hCD) _)⟩⟩
  case stop =>
    rintro D C c pre W hCD hD hpre ⟨rfl, hj⟩ hK
    have HJ := Aside0.mk hj
    have HK := Aside0.mk hK
    clear hj hK HI HI0 HFIT HS1 HNY HLY HY hD
    gi_wp2
    refine ⟨by simp, .inl ⟨_, _, rfl, run_takeDeferred HK.out, ?_⟩⟩
    exact ⟨_, results_none rfl _ _ _, ⟨_, rfl⟩, .inr ⟨_, _, mSeen_prefix lo seq hpre, hJx.stay HJ.out (Stays.putObj (.inl hCD) _)⟩⟩
end Go.Proofs.YtojemmipkpckbaaG

end

section
set_option linter.unusedVariables false
set_option linter.unusedSimpArgs false
namespace Go.Proofs.YtojemmipkpckbaaG
open Go Go.RowKit Go.Proofs.YtojemmipkpckbaaR Go.Proofs.YtojemmipkpckbaaL Go.Proofs.Ytojemmipkpckbaa.P Go.Proofs.YtojemmipkpckbaaW.PrintWords
attribute [local go_sem] Oper.semAt_some str_geq

theorem six_boxes (w : World) (v0 v1 v2 v3 v4 v5 : Value) (t0 t1 t2 t3 t4 t5 : TypeId) (w1 : World) (z : Nat) (hz : z = w.heap.size) (hw1 : w1 = (((((w.alloc (.cells #[v0] t0)).alloc (.cells #[v1] t1)).alloc (.cells #[v2] t2)).alloc (.cells #[v3] t3)).alloc (.cells #[v4] t4)).alloc (.cells #[v5] t5)) :
    w1.heap.size = z + 6 ∧ Below w.heap.size w w1 ∧ w1.heap[z]? = some (.cells #[v0] t0) ∧ w1.heap[z + 1]? = some (.cells #[v1] t1) ∧ w1.heap[z + 2]? = some (.cells #[v2] t2) ∧ w1.heap[z + 3]? = some (.cells #[v3] t3) ∧ w1.heap[z + 3 + 1]? = some (.cells #[v4] t4) ∧ w1.heap[z + 3 + 2]? = some (.cells #[v5] t5) := by
  subst hz
  subst hw1
  refine ⟨by simp, below_alloc (below_alloc (below_alloc (below_alloc (below_alloc (below_alloc (Below.refl _ _) _) _) _) _) _) _, ?_, ?_, ?_, ?_, ?_, ?_⟩
  · exact blk_alloc (blk_alloc (blk_alloc (blk_alloc (blk_alloc (box_new w _ _) _) _) _) _) _
  · have := box_new (w.alloc (.cells #[v0] t0)) v1 t1
    rw [World.size_alloc] at this
    exact blk_alloc (blk_alloc (blk_alloc (blk_alloc this _) _) _) _
  · have := box_new ((w.alloc (.cells #[v0] t0)).alloc (.cells #[v1] t1)) v2 t2
    rw [World.size_alloc, World.size_alloc] at this
    exact blk_alloc (blk_alloc (blk_alloc this _) _) _
  · have := box_new (((w.alloc (.cells #[v0] t0)).alloc (.cells #[v1] t1)).alloc (.cells #[v2] t2)) v3 t3
    rw [World.size_alloc, World.size_alloc, World.size_alloc] at this
    exact blk_alloc (blk_alloc this _) _
  · have := box_new ((((w.alloc (.cells #[v0] t0)).alloc (.cells #[v1] t1)).alloc (.cells #[v2] t2)).alloc (.cells #[v3] t3)) v4 t4
    rw [World.size_alloc, World.size_alloc, World.size_alloc, World.size_alloc] at this
    exact blk_alloc this _
  · have := box_new (((((w.alloc (.cells #[v0] t0)).alloc (.cells #[v1] t1)).alloc (.cells #[v2] t2)).alloc (.cells #[v3] t3)).alloc (.cells #[v4] t4)) v5 t5
    rw [World.size_alloc, World.size_alloc, World.size_alloc, World.size_alloc, World.size_alloc] at this
    exact this
/-- Behind the entries pre: the box bo holds a row of the call's own. -/
def allI (w : World) (bo : Nat) (C : Nat → Prop) (pre : List MEn) (W : World) : Prop :=
  ∃ v, (¬ C bo ∧ W.heap[bo]? = some (.cells #[v] 29)) ∧ Kd.R k41 41 W w.heap.size (fun k => ¬ C k ∧ k ≠ bo) v pre ∧ ((∀ k, C k → w.heap.size ≤ k) ∧ Below w.heap.size w W)
theorem allI_fits (w : World) (bo : Nat) : Fits (allI w bo) :=
  Fits.ex fun v => (Fits.block (fun _ => bo) (fun _ => .cells #[v] 29)).and ((fits_R k41 41 w.heap.size (· ≠ bo) (fun _ => v) (fun pre => pre)).and (Fits.below _ w (Nat.le_refl _)))
set_option maxRecDepth 100000 in
set_option maxHeartbeats 2000000 in
theorem merge_All.calls (A0 : Option Addr) (c0 : Nat) (l0 : List (List MEn)) (r : List MEn) (w : World) (hr0 : Kd.C (Kd.slice 41 k41) w A0 l0.length l0) (hc0 : l0.length ≤ c0) (h : merge_All.f l0 = some r) :
    Calls Try.prog 19 #[.slice A0 l0.length c0] w fun e w' => ∃ v0_ : Value, e = .returned (v0_) ∧ Kd.R k41 41 w' w.heap.size (fun _ => True) v0_ r ∧ Below w.heap.size w w' := by
  unfold merge_All.f at h
  by_cases hc : mFits l0
  · rw [if_pos hc] at h
    obtain rfl := Option.some.inj h
    clear h
    have HFIT := Aside0.mk hc
    have HR0 := Aside0.mk hr0
    have HC0 := Aside0.mk hc0
    clear hc hr0 hc0
    refine (callsIn_wide (n := 3)).1 ?_
    refine callsIn_of_wp_marks Try.func19 rfl trivial ?_ rfl
    simp only [Try.ntmps19, List.size_toArray, List.length_cons, List.length_nil, Nat.reduceAdd, Nat.reduceSub, Array.replicate_succ, Array.replicate_zero, List.push_toArray, List.append_toArray, List.nil_append, List.cons_append]
    gi_wp2_with (first | (refine ⟨trivial, ?_⟩; gi_at_call 44; refine (callsIn_wide.2 (entries_new _ _ _ _)).mono ?_; rintro e w2 ⟨rfl, rfl⟩))
    obtain ⟨w1, hw1⟩ : ∃ w1, w1 = (w.alloc (.cells #[.slice none 0 0] 29)).alloc (.cells #[.slice A0 l0.length c0] 22) := ⟨_, rfl⟩
    rw [← hw1]
    have hs1 : w1.heap.size = w.heap.size + 2 := by rw [hw1]; simp
    have hbo : w1.heap[w.heap.size]? = some (.cells #[.slice none 0 0] 29) := by
      rw [hw1]
      exact (Below.heap_alloc _ _ _ (by simp)).trans (box_new w _ _)
    have hbe : w1.heap[w.heap.size + 1]? = some (.cells #[.slice A0 l0.length c0] 22) := by
      rw [hw1]
      have := box_new (w.alloc (.cells #[.slice none 0 0] 29)) (.slice A0 l0.length c0) 22
      rwa [World.size_alloc] at this
    have hB1 : Below w.heap.size w w1 := by rw [hw1]; exact ((Below.refl _ _).alloc (Nat.le_refl _) _).alloc (by simp) _
    have HI : Aside0 (Iter Try.prog 56 #[.pointer (some ⟨w.heap.size + 1, 0, none⟩)] (fun e : MEn => #[enV e]) (fun xs => xs = mAll (mSize l0) l0) (fun pre => pre <+: mAll (mSize l0) l0) (mAll (mSize l0) l0).length w.heap.size (· = w.heap.size + 1) w1) :=
      ⟨entries_iter (w.heap.size + 1) w.heap.size A0 c0 l0 w1 HFIT.out (by omega) hbe HC0.out (Kd.F_step (Kd.C_F heapL HR0.out) (fun k hk _ => hB1.block k hk))⟩
    have HB1 := Aside0.mk hB1
    have HS1 := Aside0.mk hs1
    have H0 : Aside0 (allI w w.heap.size (· = w.heap.size + 1) [] w1) := ⟨_, ⟨by omega, hbo⟩, Kd.R_nil _ _ _ _ _, fun k hk => by omega, hB1⟩
    clear hw1 hs1 hbo hbe hB1
    refine range_law (gf := 56) (lb := #[.pointer (some ⟨w.heap.size + 1, 0, none⟩)]) rfl (enters_of Try.func56 (by kernel_rfl) rfl)
      HI.out (fun k hk => by subst hk; rw [HS1.out]; omega) (by rw [HS1.out]; omega) (fun _ => rfl)
      (allI w w.heap.size) (fun _ _ _ _ => False) (allI_fits w w.heap.size) (fun _ => Fits.false) H0.out ?round ?done ?stop
    case round =>
      intro l C pre c W hlt hle hi hlen
      clear HI H0
      unfold enV
      have HLen : Aside0 ((pre.length + 1) * 48 ≤ 140737488355328) := ⟨by have := mAll_len (mSize l0) l0; have := HFIT.out.2; omega⟩
      have hwW : w.heap.size ≤ W.heap.size := by rw [HS1.out] at hle; omega
      clear hlen hle HFIT HR0 HC0 HB1
      gi_wp2
      obtain ⟨W1, hW1⟩ : ∃ W1, W1 = W.alloc (.cells #[.string c.f0.f0, .int .u64 c.f0.f1, .int .u8 c.f0.f2, .string c.f1] 41) := ⟨_, rfl⟩
      have hnew := blk_alloc_new W (.cells #[.string c.f0.f0, .int .u64 c.f0.f1, .int .u8 c.f0.f2, .string c.f1] 41)
      have hS : Stays C W W1 := by rw [hW1]; exact Stays.alloc _ _ _
      have hBW : Below W.heap.size W W1 := by rw [hW1]; exact below_alloc (Below.refl _ _) _
      have hsz1 : W1.heap.size = W.heap.size + 1 := by rw [hW1]; simp
      rw [← hW1] at hnew ⊢
      clear hW1
      refine ⟨Hold.of_below hBW hlt, hBW.mono hwW, fun W'' hst hlt2 hb2 hsz2 => ?_⟩
      obtain ⟨v, ⟨hnb, hbb⟩, hr, hcn, hB⟩ := (allI_fits w w.heap.size).stay ((allI_fits w w.heap.size).stay hi hS) hst
      have hbx : W''.heap[W.heap.size]? = some (.cells #[.string c.f0.f0, .int .u64 c.f0.f1, .int .u8 c.f0.f2, .string c.f1] 41) := (hst.block _ (by omega) (fun h => by have := hlt _ h; omega)).trans hnew
      have hx0 : W''.cell? ⟨W.heap.size, 0, none⟩ = some (.string c.f0.f0) := blk_cell hbx 0
      have hx1 : W''.cell? ⟨W.heap.size, 1, none⟩ = some (.int .u64 c.f0.f1) := blk_cell hbx 1
      have hx2 : W''.cell? ⟨W.heap.size, 2, none⟩ = some (.int .u8 c.f0.f2) := blk_cell hbx 2
      have hx3 : W''.cell? ⟨W.heap.size, 3, none⟩ = some (.string c.f1) := blk_cell hbx 3
      have hc1 := box_cell hbb
      have Hbb := Aside0.mk hbb
      have HR := Aside0.mk hr
      have HBW := Aside0.mk hB
      have Hcn := Aside0.mk hcn
      have Hlt2 := Aside0.mk hlt2
      have hbs : w.heap.size ≤ W''.heap.size := hB.size
      clear hbb hr hB hcn hi hst hlt2 hb2 hlt hsz2 hS hBW hsz1 hnew hbx hwW
      gi_wp2_with (gi_at_builtin; refine appendIn k41 w.heap.size rfl (.tmp 8) (.tmp 10) 29 41 (.agg #[.string ⟨#[]⟩, .int .u64 0, .int .u8 0, .string ⟨#[]⟩]) 48 rfl Try.underlying29 info41 rfl (by decide) (by decide) v pre c [.string c.f0.f0, .int .u64 c.f0.f1, .int .u8 c.f0.f2, .string c.f1] _ (fun _ => False) rfl rfl ?aP (fun _ h => h.elim) ?aF HR.out hbs ?aL ?_; (case aP => exact k41_mkM _ _ _ c); (case aF => exact fun k hk => ⟨fun h => by have := Hlt2.out k h; omega, by have := blk_lt Hbb.out; omega⟩); (case aL => have := HLen.out; omega); intro v4 w4 hr4 hg4 hf4; obtain ⟨g, cap, hv4⟩ := hf4; subst hv4; have hb4 : w4.heap[w.heap.size]? = some (.cells #[v] 29) := (hg4.block _ (blk_lt Hbb.out) (fun e => (HR.out.1 _ e.symm).2 rfl)).trans Hbb.out; have hc4 := box_cell hb4; have hf4 := box_frozen hb4; have HR4 := Aside0.mk hr4; have HG4 := Aside0.mk hg4; have Hb4 := Aside0.mk hb4; clear hr4 hg4 hb4)
      refine ⟨(Hold.of_grownBy HG4.out Hlt2.out (fun k hk => (HR.out.1 k hk).1)).trans (Hold.setCell hnb _), ((Below.refl _ _).grown HG4.out hbs (fun k hk => Kd.R_base HR.out k hk)).setCell (p := ⟨w.heap.size, 0, none⟩) (Nat.le_refl _) _, _, ⟨hnb, box_set Hb4.out _⟩, ?_, Hcn.out, (HBW.out.grown HG4.out hbs (fun k hk => Kd.R_base HR.out k hk)).setCell (p := ⟨w.heap.size, 0, none⟩) (Nat.le_refl _) _⟩
      have := R_setCell (p := ⟨w.heap.size, 0, none⟩) HR4.out (fun h => h.2 rfl) (.slice (some ⟨g, 0, none⟩) (pre.length + 1) cap)
      simpa using this
    case done =>
      rintro D C xs W hCD hD rfl ⟨v, ⟨hnb, hbb⟩, hr, hcn, hB⟩ hK
      have hc1 := box_cell hbb
      have Hr := Aside0.mk hr
      have HBW := Aside0.mk hB
      have HK := Aside0.mk hK
      have HD : Aside0 (w.heap.size ≤ D) := ⟨by have := HS1.out; omega⟩
      clear hr hB hK hbb hcn HI H0 HR0 HC0 HFIT HB1 HS1 hD
      gi_wp2
      refine ⟨by simp, .inl ⟨_, _, rfl, run_takeDeferred HK.out, ?_⟩⟩
      exact ⟨_, results_tmp rfl _ _ _, v, rfl, R_putObj Hr.out (fun h => h.1 hCD) _, HBW.out.trans (below_putObj HD.out _)⟩
    case stop =>
      intro D C c pre W _ _ _ h _
      exact h.elim
  · rw [if_neg hc] at h
    cases h
def getB (key : ByteArray) (z : Nat) (v : ByteArray × Bool) (w : World) (C : Nat → Prop) (W : World) : Prop :=
  (¬ C z ∧ W.heap[z]? = some (.cells #[.string key] 9)) ∧ (¬ C (z + 1) ∧ W.heap[z + 1]? = some (.cells #[.string v.1] 9)) ∧ (¬ C (z + 2) ∧ W.heap[z + 2]? = some (.cells #[.bool v.2] 4)) ∧ ((∀ k, C k → z ≤ k) ∧ Below z w W)
def getI (key : ByteArray) (z : Nat) (w : World) (C : Nat → Prop) (pre : List MEn) (W : World) : Prop := pre = [] ∧ getB key z (⟨#[]⟩, false) w C W
def getX (key : ByteArray) (z : Nat) (w : World) (c : Code) (C : Nat → Prop) (pre : List MEn) (W : World) : Prop := (pre ≠ [] ∧ ((c = .exit 0 ∧ mGet key pre = (⟨#[]⟩, false)) ∨ c = .ret)) ∧ getB key z (mGet key pre) w C W
theorem getB_fits (key : ByteArray) (z : Nat) (v : List MEn → ByteArray × Bool) (w : World) (hz : z = w.heap.size) : Fits (fun C (pre : List MEn) W => getB key z (v pre) w C W) :=
  (Fits.block (fun _ => z) (fun _ => .cells #[.string key] 9)).and ((Fits.block (fun _ => z + 1) (fun pre => .cells #[.string (v pre).1] 9)).and ((Fits.block (fun _ => z + 2) (fun pre => .cells #[.bool (v pre).2] 4)).and (Fits.below z w (by omega))))
theorem getI_fits (key : ByteArray) (z : Nat) (w : World) (hz : z = w.heap.size) : Fits (getI key z w) := (Fits.pure (fun pre : List MEn => pre = [])).and (getB_fits key z (fun _ => (⟨#[]⟩, false)) w hz)
theorem getX_fits (key : ByteArray) (z : Nat) (w : World) (hz : z = w.heap.size) (c : Code) : Fits (getX key z w c) := (Fits.pure (fun pre : List MEn => pre ≠ [] ∧ ((c = .exit 0 ∧ mGet key pre = (⟨#[]⟩, false)) ∨ c = .ret))).and (getB_fits key z (mGet key) w hz)
theorem mGet_front {key : ByteArray} {pre xs : List MEn} (h : pre <+: xs) (hp : pre ≠ []) : mGet key xs = mGet key pre := by
  obtain ⟨r, rfl⟩ := h
  cases pre with
  | nil => exact absurd rfl hp
  | cons x q => rfl
theorem get_res (tmps : Array Value) (W : World) (z : Nat) (s : ByteArray) (t : Bool) (hp : tmps.getD 6 undef = .pointer (some ⟨z + 1, 0, none⟩)) (hp' : tmps.getD 7 undef = .pointer (some ⟨z + 2, 0, none⟩))
    (h1 : W.heap[z + 1]? = some (.cells #[.string s] 9)) (h2 : W.heap[z + 2]? = some (.cells #[.bool t] 4)) : (results Try.f16 tmps).run Try.prog W = .ok (.tuple #[.string s, .bool t]) W := by
  have c1 := box_cell h1
  have c2 := box_cell h2
  have hr : Try.f16.results = #[.cell 6 9, .cell 7 4] := rfl
  have e1 : tmps[6]?.getD undef = .pointer (some ⟨z + 1, 0, none⟩) := by simpa using hp
  have e2 : tmps[7]?.getD undef = .pointer (some ⟨z + 2, 0, none⟩) := by simpa using hp'
  simp [results, hr, e1, e2, asAddr]
  go_simp
set_option maxRecDepth 100000 in
set_option maxHeartbeats 2000000 in
theorem merge_Get.calls (A0 : Option Addr) (c0 : Nat) (l0 : List (List MEn)) (a1 : ByteArray) (a2 : Int) (r1 : ByteArray) (r2 : Bool) (w : World) (hr0 : Kd.C (Kd.slice 41 k41) w A0 l0.length l0) (hc0 : l0.length ≤ c0) (h : merge_Get.f l0 a1 a2 = some (r1, r2)) :
    Calls Try.prog 16 #[.slice A0 l0.length c0, .string a1, .int .u64 a2] w fun e w' => e = .returned (.tuple #[.string r1, .bool r2]) ∧ Below w.heap.size w w' := by
  unfold merge_Get.f at h
  by_cases hc : mFits l0
  · rw [if_pos hc] at h
    have hres := Option.some.inj h
    clear h
    have HFIT := Aside0.mk hc
    have HR0 := Aside0.mk hr0
    have HC0 := Aside0.mk hc0
    have HRES := Aside0.mk hres
    clear hc hr0 hc0 hres
    refine (callsIn_wide (n := 4)).1 ?_
    refine callsIn_of_wp_marks Try.func16 rfl trivial ?_ rfl
    simp only [Try.ntmps16, List.size_toArray, List.length_cons, List.length_nil, Nat.reduceAdd, Nat.reduceSub, Array.replicate_succ, Array.replicate_zero, List.push_toArray, List.append_toArray, List.nil_append, List.cons_append]
    gi_wp2_with (first | (refine ⟨trivial, ?_⟩; gi_at_call 43; refine (callsIn_wide.2 (seen_new _ _ _ _ _ _)).mono ?_; rintro e w2 ⟨rfl, rfl⟩))
    obtain ⟨z, hz⟩ : ∃ z, z = w.heap.size := ⟨_, rfl⟩
    obtain ⟨w1, hw1⟩ : ∃ w1, w1 = (((((w.alloc (.cells #[.string a1] 9)).alloc (.cells #[.string ⟨#[]⟩] 9)).alloc (.cells #[.bool false] 4)).alloc (.cells #[.slice A0 l0.length c0] 22)).alloc (.cells #[.string a1] 9)).alloc (.cells #[.int .u64 a2] 23) := ⟨_, rfl⟩
    rw [← hw1, ← hz]
    obtain ⟨hs1, hBB, hc0, hc1, hc2, hc3, hc4, hc5⟩ := six_boxes w (.string a1) (.string ⟨#[]⟩) (.bool false) (.slice A0 l0.length c0) (.string a1) (.int .u64 a2) 9 9 4 22 9 23 w1 z hz hw1
    have HI : Aside0 (Iter Try.prog 55 #[.pointer (some ⟨z + 3, 0, none⟩), .pointer (some ⟨z + 3 + 1, 0, none⟩), .pointer (some ⟨z + 3 + 2, 0, none⟩)] (fun e : MEn => #[enV e]) (fun xs => xs = mSeen a1 a2 none (mAll (mSize l0) l0)) (fun pre => pre <+: mSeen a1 a2 none (mAll (mSize l0) l0)) (mAll (mSize l0) l0).length z (fun k => k = z + 3 ∨ k = z + 3 + 1 ∨ k = z + 3 + 2) w1) :=
      ⟨seen_iter (z + 3) z A0 c0 l0 a1 a2 w1 HFIT.out (by omega) hc3 hc4 hc5 HC0.out (Kd.F_step (Kd.F_mono (Kd.C_F heapL HR0.out) (fun k hk => by rw [hz]; exact hk)) (fun k hk _ => hBB.block k (by rw [← hz]; exact hk)))⟩
    have HB1 : Aside0 (Below z w w1) := ⟨by rw [hz]; exact hBB⟩
    have HS1 := Aside0.mk hs1
    have H0 : Aside0 (getI a1 z w (fun k => k = z + 3 ∨ k = z + 3 + 1 ∨ k = z + 3 + 2) [] w1) := ⟨rfl, ⟨by omega, hc0⟩, ⟨by show ¬ _; omega, hc1⟩, ⟨by show ¬ _; omega, hc2⟩, fun k hk => by omega, HB1.out⟩
    have HZ := Aside0.mk hz
    clear hw1 hs1 hBB hc0 hc1 hc2 hc3 hc4 hc5 hz
    refine range_law (gf := 55) (lb := #[.pointer (some ⟨z + 3, 0, none⟩), .pointer (some ⟨z + 3 + 1, 0, none⟩), .pointer (some ⟨z + 3 + 2, 0, none⟩)]) rfl (enters_of Try.func55 (by kernel_rfl) rfl)
      HI.out (fun k hk => by rw [HS1.out]; omega) (by rw [HS1.out]; omega) (fun _ => rfl)
      (getI a1 z w) (getX a1 z w) (getI_fits a1 z w HZ.out) (getX_fits a1 z w HZ.out) H0.out ?round ?done ?stop
    case round =>
      intro l' C pre c W hlt hle hi hlen
      have hzW : z + 6 ≤ W.heap.size := by rw [HS1.out] at hle; exact hle
      clear HI HB1 HS1 H0 HR0 HC0 HFIT HRES hle hlen
      unfold enV
      gi_wp2
      obtain ⟨W1, hW1⟩ : ∃ W1, W1 = W.alloc (.cells #[.string c.f0.f0, .int .u64 c.f0.f1, .int .u8 c.f0.f2, .string c.f1] 41) := ⟨_, rfl⟩
      have hnew := blk_alloc_new W (.cells #[.string c.f0.f0, .int .u64 c.f0.f1, .int .u8 c.f0.f2, .string c.f1] 41)
      have hS : Stays C W W1 := by rw [hW1]; exact Stays.alloc _ _ _
      have hBW : Below W.heap.size W W1 := by rw [hW1]; exact below_alloc (Below.refl _ _) _
      have hsz1 : W1.heap.size = W.heap.size + 1 := by rw [hW1]; simp
      rw [← hW1] at hnew ⊢
      clear hW1
      refine ⟨Hold.of_below hBW hlt, hBW.mono (by omega), fun W'' hst hlt2 hb2 hsz2 => ?_⟩
      obtain ⟨rfl, hk0, hk1, hk2, hcn, hB⟩ := (getI_fits a1 z w HZ.out).stay ((getI_fits a1 z w HZ.out).stay hi hS) hst
      have hbx : W''.heap[W.heap.size]? = some (.cells #[.string c.f0.f0, .int .u64 c.f0.f1, .int .u8 c.f0.f2, .string c.f1] 41) := (hst.block _ (by omega) (fun h => by have := hlt _ h; omega)).trans hnew
      have hx0 : W''.cell? ⟨W.heap.size, 0, none⟩ = some (.string c.f0.f0) := blk_cell hbx 0
      have hx1 : W''.cell? ⟨W.heap.size, 1, none⟩ = some (.int .u64 c.f0.f1) := blk_cell hbx 1
      have hx2 : W''.cell? ⟨W.heap.size, 2, none⟩ = some (.int .u8 c.f0.f2) := blk_cell hbx 2
      have hx3 : W''.cell? ⟨W.heap.size, 3, none⟩ = some (.string c.f1) := blk_cell hbx 3
      have hr0 := box_cell hk0.2
      have hr1 := box_cell hk1.2
      have hr2 := box_cell hk2.2
      have hf1 := box_frozen hk1.2
      have hf2 := box_frozen hk2.2
      have HK0 := Aside0.mk hk0
      have HK1 := Aside0.mk hk1
      have HK2 := Aside0.mk hk2
      have HCN := Aside0.mk hcn
      have HBW := Aside0.mk hB
      rw [show z + 1 + 1 = z + 2 from rfl] at *
      clear hk0 hk1 hk2 hcn hB hi hst hlt2 hb2 hlt hsz2 hS hBW hsz1 hnew hbx hzW
      obtain ⟨p1, hp1⟩ : ∃ p, (c.f0.f0.toList == a1.toList) = p := ⟨_, rfl⟩
      obtain ⟨p2, hp2⟩ : ∃ p, (c.f0.f2 == 1) = p := ⟨_, rfl⟩
      cases p1 with
      | false =>
        have hm : mGet a1 [c] = (⟨#[]⟩, false) := by rw [mGet, hp1]; rfl
        have HM := Aside0.mk hm
        clear hm
        gi_wp2
        refine ⟨Hold.refl _ _, ⟨by simp, .inl ⟨rfl, HM.out⟩⟩, ?_⟩
        rw [HM.out]
        exact ⟨HK0.out, HK1.out, HK2.out, HCN.out, HBW.out⟩
      | true =>
        cases p2 with
        | false =>
          have hm : mGet a1 [c] = (⟨#[]⟩, false) := by rw [mGet, hp1, hp2]; rfl
          have HM := Aside0.mk hm
          clear hm
          gi_wp2
          refine ⟨Hold.refl _ _, ⟨by simp, .inl ⟨rfl, HM.out⟩⟩, ?_⟩
          rw [HM.out]
          exact ⟨HK0.out, HK1.out, HK2.out, HCN.out, HBW.out⟩
        | true =>
          have hm : mGet a1 [c] = (c.f1, true) := by rw [mGet, hp1, hp2]; rfl
          have HM := Aside0.mk hm
          clear hm
          gi_wp2
          refine ⟨(Hold.setCell (p := ⟨z + 1, 0, none⟩) HK1.out.1 _).trans (Hold.setCell (p := ⟨z + 2, 0, none⟩) HK2.out.1 _), ⟨by simp, .inr rfl⟩, ?_⟩
          rw [HM.out]
          refine ⟨⟨HK0.out.1, (Below.heap_setCell _ ⟨z + 2, 0, none⟩ _ z (fun e => by simp at e)).trans ((Below.heap_setCell _ ⟨z + 1, 0, none⟩ _ z (fun e => by simp at e)).trans HK0.out.2)⟩, ⟨HK1.out.1, (Below.heap_setCell _ ⟨z + 2, 0, none⟩ _ (z + 1) (fun e => by simp at e)).trans (box_set HK1.out.2 _)⟩, ⟨HK2.out.1, box_set ((Below.heap_setCell _ ⟨z + 1, 0, none⟩ _ (z + 2) (fun e => by simp at e)).trans HK2.out.2) _⟩, HCN.out, ?_⟩
          exact (HBW.out.setCell (p := ⟨z + 1, 0, none⟩) (by show z ≤ z + 1; omega) _).setCell (p := ⟨z + 2, 0, none⟩) (by show z ≤ z + 2; omega) _
    case done =>
      rintro D C xs W hCD hD rfl ⟨hx, hk0, hk1, hk2, hcn, hB⟩ hK
      have hc1 := box_cell hk1.2
      have hc2 := box_cell hk2.2
      have hf1 := box_frozen hk1.2
      have hf2 := box_frozen hk2.2
      have HBW := Aside0.mk hB
      have HK := Aside0.mk hK
      have HX := Aside0.mk hx
      have HD : Aside0 (z ≤ D) := ⟨hcn D hCD⟩
      have hnD : Aside0 (D ≠ z + 1 ∧ D ≠ z + 2) := ⟨fun e => hk1.1 (e ▸ hCD), fun e => hk2.1 (e ▸ hCD)⟩
      have HK1 := Aside0.mk hk1.2
      have HK2 := Aside0.mk hk2.2
      have HWB : Aside0 (Below w.heap.size w W) := ⟨by rw [← HZ.out]; exact hB⟩
      have hrr : r1 = ⟨#[]⟩ ∧ r2 = false := by
        have := HRES.out
        rw [hx] at this
        simp only [mGet, Prod.mk.injEq] at this
        exact ⟨this.1.symm, this.2.symm⟩
      obtain ⟨rfl, rfl⟩ := hrr
      clear HI HB1 HS1 H0 hK hB hx hk0 hk1 hk2 hcn hD HR0 HC0 HFIT HX
      gi_wp2
      refine ⟨by simp, .inl ⟨_, _, rfl, run_takeDeferred ((Below.heap_setCell _ ⟨z + 2, 0, none⟩ _ D (fun e => hnD.out.2 e)).trans ((Below.heap_setCell _ ⟨z + 1, 0, none⟩ _ D (fun e => hnD.out.1 e)).trans HK.out)), ?_⟩⟩
      refine ⟨_, get_res _ _ z ⟨#[]⟩ false rfl rfl ?_ ?_, rfl, ?_⟩
      · rw [World.putObj_heap_other (by have := hnD.out; omega)]
        exact (Below.heap_setCell _ ⟨z + 2, 0, none⟩ _ (z + 1) (fun e => by simp at e)).trans (box_set HK1.out _)
      · rw [World.putObj_heap_other (by have := hnD.out; omega)]
        exact box_set ((Below.heap_setCell _ ⟨z + 1, 0, none⟩ _ (z + 2) (fun e => by simp at e)).trans HK2.out) _
      · exact ((HWB.out.setCell (p := ⟨z + 1, 0, none⟩) (by rw [← HZ.out]; show z ≤ z + 1; omega) _).setCell (p := ⟨z + 2, 0, none⟩) (by rw [← HZ.out]; show z ≤ z + 2; omega) _).trans (below_putObj (by rw [← HZ.out]; exact HD.out) _)
    case stop =>
      rintro D C c pre W hCD hD hpre ⟨⟨hne, hcc⟩, hk0, hk1, hk2, hcn, hB⟩ hK
      have hmf := mGet_front (key := a1) hpre hne
      rw [HRES.out] at hmf
      rw [← hmf] at hcc hk1 hk2
      have hc1 := box_cell hk1.2
      have hc2 := box_cell hk2.2
      have hf1 := box_frozen hk1.2
      have hf2 := box_frozen hk2.2
      have HBW := Aside0.mk hB
      have HK := Aside0.mk hK
      have HD : Aside0 (z ≤ D) := ⟨hcn D hCD⟩
      have hnD : Aside0 (D ≠ z + 1 ∧ D ≠ z + 2) := ⟨fun e => hk1.1 (e ▸ hCD), fun e => hk2.1 (e ▸ hCD)⟩
      have HK1 := Aside0.mk hk1.2
      have HK2 := Aside0.mk hk2.2
      have HWB : Aside0 (Below w.heap.size w W) := ⟨by rw [← HZ.out]; exact hB⟩
      rcases hcc with ⟨rfl, hcc⟩ | rfl
      · obtain ⟨rfl, rfl⟩ : r1 = ⟨#[]⟩ ∧ r2 = false := by simpa using hcc
        clear HI HB1 HS1 H0 hK hB hk0 hk1 hk2 hcn hD HR0 HC0 HFIT hmf hcc hne hpre
        gi_wp2
        refine ⟨by simp, .inl ⟨_, _, rfl, run_takeDeferred ((Below.heap_setCell _ ⟨z + 2, 0, none⟩ _ D (fun e => hnD.out.2 e)).trans ((Below.heap_setCell _ ⟨z + 1, 0, none⟩ _ D (fun e => hnD.out.1 e)).trans HK.out)), ?_⟩⟩
        refine ⟨_, get_res _ _ z ⟨#[]⟩ false rfl rfl ?_ ?_, rfl, ?_⟩
        · rw [World.putObj_heap_other (by have := hnD.out; omega)]
          exact (Below.heap_setCell _ ⟨z + 2, 0, none⟩ _ (z + 1) (fun e => by simp at e)).trans (box_set HK1.out _)
        · rw [World.putObj_heap_other (by have := hnD.out; omega)]
          exact box_set ((Below.heap_setCell _ ⟨z + 1, 0, none⟩ _ (z + 2) (fun e => by simp at e)).trans HK2.out) _
        · exact ((HWB.out.setCell (p := ⟨z + 1, 0, none⟩) (by rw [← HZ.out]; show z ≤ z + 1; omega) _).setCell (p := ⟨z + 2, 0, none⟩) (by rw [← HZ.out]; show z ≤ z + 2; omega) _).trans (below_putObj (by rw [← HZ.out]; exact HD.out) _)
      · clear HI HB1 HS1 H0 hK hB hk0 hk1 hk2 hcn hD HR0 HC0 HFIT hmf hne hpre
        gi_wp2
        refine ⟨by simp, .inl ⟨_, _, rfl, run_takeDeferred HK.out, ?_⟩⟩
        refine ⟨_, get_res _ _ z r1 r2 rfl rfl ?_ ?_, rfl, ?_⟩
        · rw [World.putObj_heap_other (by have := hnD.out; omega)]
          exact HK1.out
        · rw [World.putObj_heap_other (by have := hnD.out; omega)]
          exact HK2.out
        · exact HWB.out.trans (below_putObj (by rw [← HZ.out]; exact HD.out) _)
  · rw [if_neg hc] at h
    cases h
def scanB (P : List MPr → List MEn → Prop) (hi : ByteArray) (limit : Int) (z : Nat) (w : World) (C : Nat → Prop) (pre : List MEn) (W : World) : Prop :=
  ∃ (out : List MPr) (v : Value), P out pre ∧ (¬ C z ∧ W.heap[z]? = some (.cells #[.string hi] 9)) ∧ (¬ C (z + 1) ∧ W.heap[z + 1]? = some (.cells #[.int .i64 limit] 3)) ∧ (¬ C (z + 2) ∧ W.heap[z + 2]? = some (.cells #[v] 32)) ∧ Kd.R k37 37 W z (fun k => ¬ C k ∧ (k ≠ z ∧ k ≠ z + 1 ∧ k ≠ z + 2)) v out ∧ ((∀ k, C k → z ≤ k) ∧ Below z w W)
theorem scanB_fits (P : List MPr → List MEn → Prop) (hi : ByteArray) (limit : Int) (z : Nat) (w : World) (hz : z = w.heap.size) : Fits (scanB P hi limit z w) :=
  Fits.ex fun out => Fits.ex fun v => (Fits.pure (fun pre => P out pre)).and ((Fits.block (fun _ => z) (fun _ => .cells #[.string hi] 9)).and ((Fits.block (fun _ => z + 1) (fun _ => .cells #[.int .i64 limit] 3)).and ((Fits.block (fun _ => z + 2) (fun _ => .cells #[v] 32)).and ((fits_R k37 37 z (fun k => k ≠ z ∧ k ≠ z + 1 ∧ k ≠ z + 2) (fun _ => v) (fun _ => out)).and (Fits.below z w (by omega))))))
def scanP (hi : ByteArray) (limit : Int) (out : List MPr) (pre : List MEn) : Prop := (∀ xs, mScan hi limit [] (pre ++ xs) = mScan hi limit out xs) ∧ out.length ≤ pre.length
def scanQ (hi : ByteArray) (limit : Int) (c : Code) (out : List MPr) (pre : List MEn) : Prop := c = .exit 0 ∧ ∀ xs, mScan hi limit [] (pre ++ xs) = out
theorem scanP_go {hi : ByteArray} {limit : Int} {out : List MPr} {pre : List MEn} {e : MEn} (h : scanP hi limit out pre) (ho : mOver hi limit out e = false) : scanP hi limit (mStep out e) (pre ++ [e]) := by
  refine ⟨fun xs => ?_, ?_⟩
  · rw [List.append_assoc, h.1, List.singleton_append, mScan, if_neg (by rw [ho]; decide)]
  · have := h.2
    unfold mStep
    split <;> simp <;> omega
theorem scanP_end {hi : ByteArray} {limit : Int} {out : List MPr} {pre : List MEn} {e : MEn} (h : scanP hi limit out pre) (ho : mOver hi limit out e = true) : scanQ hi limit (.exit 0) out (pre ++ [e]) :=
  ⟨rfl, fun xs => by rw [List.append_assoc, h.1, List.singleton_append, mScan, if_pos ho]⟩
set_option maxRecDepth 100000 in
set_option maxHeartbeats 2000000 in
theorem merge_Scan.calls (A0 : Option Addr) (c0 : Nat) (l0 : List (List MEn)) (a1 a2 : ByteArray) (a3 a4 : Int) (r : List MPr) (w : World) (hr0 : Kd.C (Kd.slice 41 k41) w A0 l0.length l0) (hc0 : l0.length ≤ c0) (h : merge_Scan.f l0 a1 a2 a3 a4 = some r) :
    Calls Try.prog 22 #[.slice A0 l0.length c0, .string a1, .string a2, .int .u64 a3, .int .i64 a4] w fun e w' => ∃ v0_ : Value, e = .returned (v0_) ∧ Kd.R k37 37 w' w.heap.size (fun _ => True) v0_ r ∧ Below w.heap.size w w' := by
  unfold merge_Scan.f at h
  by_cases hc : mFits l0
  · rw [if_pos hc] at h
    obtain rfl := Option.some.inj h
    clear h
    have HFIT := Aside0.mk hc
    have HR0 := Aside0.mk hr0
    have HC0 := Aside0.mk hc0
    clear hc hr0 hc0
    refine (callsIn_wide (n := 4)).1 ?_
    refine callsIn_of_wp_marks Try.func22 rfl trivial ?_ rfl
    simp only [Try.ntmps22, List.size_toArray, List.length_cons, List.length_nil, Nat.reduceAdd, Nat.reduceSub, Array.replicate_succ, Array.replicate_zero, List.push_toArray, List.append_toArray, List.nil_append, List.cons_append]
    gi_wp2_with (first | (refine ⟨trivial, ?_⟩; gi_at_call 43; refine (callsIn_wide.2 (seen_new _ _ _ _ _ _)).mono ?_; rintro e w2 ⟨rfl, rfl⟩))
    obtain ⟨z, hz⟩ : ∃ z, z = w.heap.size := ⟨_, rfl⟩
    obtain ⟨w1, hw1⟩ : ∃ w1, w1 = (((((w.alloc (.cells #[.string a2] 9)).alloc (.cells #[.int .i64 a4] 3)).alloc (.cells #[.slice none 0 0] 32)).alloc (.cells #[.slice A0 l0.length c0] 22)).alloc (.cells #[.string a1] 9)).alloc (.cells #[.int .u64 a3] 23) := ⟨_, rfl⟩
    rw [← hw1, ← hz]
    obtain ⟨hs1, hBB, hc0, hc1, hc2, hc3, hc4, hc5⟩ := six_boxes w (.string a2) (.int .i64 a4) (.slice none 0 0) (.slice A0 l0.length c0) (.string a1) (.int .u64 a3) 9 3 32 22 9 23 w1 z hz hw1
    have HI : Aside0 (Iter Try.prog 55 #[.pointer (some ⟨z + 3, 0, none⟩), .pointer (some ⟨z + 3 + 1, 0, none⟩), .pointer (some ⟨z + 3 + 2, 0, none⟩)] (fun e : MEn => #[enV e]) (fun xs => xs = mSeen a1 a3 none (mAll (mSize l0) l0)) (fun pre => pre <+: mSeen a1 a3 none (mAll (mSize l0) l0)) (mAll (mSize l0) l0).length z (fun k => k = z + 3 ∨ k = z + 3 + 1 ∨ k = z + 3 + 2) w1) :=
      ⟨seen_iter (z + 3) z A0 c0 l0 a1 a3 w1 HFIT.out (by omega) hc3 hc4 hc5 HC0.out (Kd.F_step (Kd.F_mono (Kd.C_F heapL HR0.out) (fun k hk => by rw [hz]; exact hk)) (fun k hk _ => hBB.block k (by rw [← hz]; exact hk)))⟩
    have HB1 : Aside0 (Below z w w1) := ⟨by rw [hz]; exact hBB⟩
    have HS1 := Aside0.mk hs1
    have H0 : Aside0 (scanB (scanP a2 a4) a2 a4 z w (fun k => k = z + 3 ∨ k = z + 3 + 1 ∨ k = z + 3 + 2) [] w1) := ⟨[], .slice none 0 0, ⟨fun _ => rfl, Nat.le_refl _⟩, ⟨by omega, hc0⟩, ⟨by show ¬ _; omega, hc1⟩, ⟨by show ¬ _; omega, hc2⟩, Kd.R_nil _ _ _ _ _, fun k hk => by omega, HB1.out⟩
    have HZ := Aside0.mk hz
    clear hw1 hs1 hBB hc0 hc1 hc2 hc3 hc4 hc5 hz
    refine range_law (gf := 55) (lb := #[.pointer (some ⟨z + 3, 0, none⟩), .pointer (some ⟨z + 3 + 1, 0, none⟩), .pointer (some ⟨z + 3 + 2, 0, none⟩)]) rfl (enters_of Try.func55 (by kernel_rfl) rfl)
      HI.out (fun k hk => by rw [HS1.out]; omega) (by rw [HS1.out]; omega) (fun _ => rfl)
      (scanB (scanP a2 a4) a2 a4 z w) (fun c => scanB (scanQ a2 a4 c) a2 a4 z w) (scanB_fits _ _ _ _ _ HZ.out) (fun c => scanB_fits _ _ _ _ _ HZ.out) H0.out ?round ?done ?stop
    case round =>
      intro l' C pre c W hlt hle hi hlen
      have hzW : z + 6 ≤ W.heap.size := by rw [HS1.out] at hle; exact hle
      have HLen : Aside0 ((pre.length + 1) * 32 ≤ 140737488355328) := ⟨by have := mAll_len (mSize l0) l0; have := HFIT.out.2; omega⟩
      clear HI HB1 HS1 H0 HR0 HC0 HFIT hle hlen
      unfold enV
      gi_wp2
      obtain ⟨W1, hW1⟩ : ∃ W1, W1 = W.alloc (.cells #[.string c.f0.f0, .int .u64 c.f0.f1, .int .u8 c.f0.f2, .string c.f1] 41) := ⟨_, rfl⟩
      have hnew := blk_alloc_new W (.cells #[.string c.f0.f0, .int .u64 c.f0.f1, .int .u8 c.f0.f2, .string c.f1] 41)
      have hS : Stays C W W1 := by rw [hW1]; exact Stays.alloc _ _ _
      have hBW : Below W.heap.size W W1 := by rw [hW1]; exact below_alloc (Below.refl _ _) _
      have hsz1 : W1.heap.size = W.heap.size + 1 := by rw [hW1]; simp
      rw [← hW1] at hnew ⊢
      clear hW1
      refine ⟨Hold.of_below hBW hlt, hBW.mono (by omega), fun W'' hst hlt2 hb2 hsz2 => ?_⟩
      obtain ⟨out, v, hP, hk0, hk1, hk2, hr, hcn, hB⟩ := (scanB_fits _ _ _ _ _ HZ.out).stay ((scanB_fits _ _ _ _ _ HZ.out).stay hi hS) hst
      have hbx : W''.heap[W.heap.size]? = some (.cells #[.string c.f0.f0, .int .u64 c.f0.f1, .int .u8 c.f0.f2, .string c.f1] 41) := (hst.block _ (by omega) (fun h => by have := hlt _ h; omega)).trans hnew
      have hx0 : W''.cell? ⟨W.heap.size, 0, none⟩ = some (.string c.f0.f0) := blk_cell hbx 0
      have hx1 : W''.cell? ⟨W.heap.size, 1, none⟩ = some (.int .u64 c.f0.f1) := blk_cell hbx 1
      have hx2 : W''.cell? ⟨W.heap.size, 2, none⟩ = some (.int .u8 c.f0.f2) := blk_cell hbx 2
      have hx3 : W''.cell? ⟨W.heap.size, 3, none⟩ = some (.string c.f1) := blk_cell hbx 3
      obtain ⟨A1, c1, hv1, hl1, _⟩ := Kd.R_reads hr
      subst hv1
      have hr0 := box_cell hk0.2
      have hr1 := box_cell hk1.2
      have hr2 := box_cell hk2.2
      have hf2 := box_frozen hk2.2
      have HP := Aside0.mk hP
      have HK0 := Aside0.mk hk0
      have HK1 := Aside0.mk hk1
      have HK2 := Aside0.mk hk2
      have HCN := Aside0.mk hcn
      have HBW := Aside0.mk hB
      have HR := Aside0.mk hr
      have Hlt2 := Aside0.mk hlt2
      have HSZ : Aside0 (z + 6 < W''.heap.size) := ⟨by omega⟩
      rw [show z + 1 + 1 = z + 2 from rfl] at *
      clear hP hk0 hk1 hk2 hr hcn hB hi hst hlt2 hb2 hlt hsz2 hS hBW hsz1 hnew hbx hzW hl1
      have fin : ∀ {a : Act}, mOver a2 a4 out c = true → bodyEnd C z (scanB (scanP a2 a4) a2 a4 z w) (fun c => scanB (scanQ a2 a4 c) a2 a4 z w) (pre ++ [c]) W'' (.exit 0) a W'' := fun h => ⟨Hold.refl _ _, _, _, scanP_end HP.out h, HK0.out, HK1.out, HK2.out, HR.out, HCN.out, HBW.out⟩
      have FIN := Aside0.mk @fin
      clear fin
      obtain ⟨p1, hp1⟩ : ∃ p, decide (a4 ≤ (out.length : Int)) = p := ⟨_, rfl⟩
      obtain ⟨p2, hp2⟩ : ∃ p, (a2.toList == ([] : List UInt8)) = p := ⟨_, rfl⟩
      obtain ⟨p3, hp3⟩ : ∃ p, Op.bytesLess c.f0.f0.toList a2.toList = p := ⟨_, rfl⟩
      cases p1 with
      | true =>
        gi_wp2
        exact FIN.out (by unfold mOver; rw [hp1]; rfl)
      | false =>
        cases p2 with
        | true =>
          have HNO : Aside0 (mOver a2 a4 out c = false) := ⟨by unfold mOver; rw [hp1, hp2]; rfl⟩
          obtain ⟨p4, hp4⟩ : ∃ p, (c.f0.f2 == 1) = p := ⟨_, rfl⟩
          cases p4 with
          | true =>
            have hms : mStep out c = out ++ [⟨c.f0.f0, c.f1⟩] := by rw [mStep, if_pos (by simpa using hp4)]
            have HMS := Aside0.mk hms
            clear hms
            have hbs : z ≤ W''.heap.size := by have := HSZ.out; omega
            gi_wp2_with (gi_at_builtin; refine appendIn k37 z rfl (.tmp 37) (.tmp 44) 32 37 (.agg #[.string ⟨#[]⟩, .string ⟨#[]⟩]) 32 rfl Try.underlying32 info37 rfl (by decide) (by decide) (.slice A1 out.length c1) out ⟨c.f0.f0, c.f1⟩ [.string c.f0.f0, .string c.f1] _ (fun _ => False) rfl rfl ?aP (fun _ h => h.elim) ?aF HR.out hbs ?aL ?_; (case aP => exact k37_mkM _ _ _ (⟨c.f0.f0, c.f1⟩ : MPr)); (case aF => exact fun k hk => ⟨fun h => by have := Hlt2.out k h; omega, by have := HSZ.out; omega⟩); (case aL => have := HLen.out; have := HP.out.2; omega); intro v4 w4 hr4 hg4 hf4; obtain ⟨g, cap, hv4⟩ := hf4; subst hv4; have hb4 : w4.heap[z + 2]? = some (.cells #[.slice A1 out.length c1] 32) := (hg4.block _ (by have := HSZ.out; omega) (fun e => (HR.out.1 _ e.symm).2.2.2 rfl)).trans HK2.out.2; have hb5 : w4.heap[z]? = _ := (hg4.block _ (by have := HSZ.out; omega) (fun e => (HR.out.1 _ e.symm).2.1 rfl)).trans HK0.out.2; have hb6 : w4.heap[z + 1]? = _ := (hg4.block _ (by have := HSZ.out; omega) (fun e => (HR.out.1 _ e.symm).2.2.1 rfl)).trans HK1.out.2; have hc4 := box_cell hb4; have hf4 := box_frozen hb4; have HR4 := Aside0.mk hr4; have HG4 := Aside0.mk hg4; have Hb4 := Aside0.mk hb4; have Hb5 := Aside0.mk hb5; have Hb6 := Aside0.mk hb6; clear hr4 hg4 hb4 hb5 hb6)
            refine ⟨(Hold.of_grownBy HG4.out Hlt2.out (fun k hk => (HR.out.1 k hk).1)).trans (Hold.setCell (p := ⟨z + 2, 0, none⟩) HK2.out.1 _), ((Below.refl _ _).grown HG4.out hbs (fun k hk => Kd.R_base HR.out k hk)).setCell (p := ⟨z + 2, 0, none⟩) (by show z ≤ z + 2; omega) _, _, _, scanP_go HP.out HNO.out, ⟨HK0.out.1, (Below.heap_setCell _ ⟨z + 2, 0, none⟩ _ z (fun e => by simp at e)).trans Hb5.out⟩, ⟨HK1.out.1, (Below.heap_setCell _ ⟨z + 2, 0, none⟩ _ (z + 1) (fun e => by simp at e)).trans Hb6.out⟩, ⟨HK2.out.1, box_set Hb4.out _⟩, ?_, HCN.out, (HBW.out.grown HG4.out hbs (fun k hk => Kd.R_base HR.out k hk)).setCell (p := ⟨z + 2, 0, none⟩) (by show z ≤ z + 2; omega) _⟩
            rw [HMS.out]
            exact R_setCell (p := ⟨z + 2, 0, none⟩) HR4.out (fun h => h.2.2.2 rfl) _
          | false =>
            have hms : mStep out c = out := by rw [mStep, if_neg (by simpa using hp4)]
            have HMS := Aside0.mk hms
            clear hms
            gi_wp2
            exact ⟨Hold.refl _ _, Below.refl _ _, _, _, by have := scanP_go HP.out HNO.out; rw [HMS.out] at this; exact this, HK0.out, HK1.out, HK2.out, HR.out, HCN.out, HBW.out⟩
        | false =>
          cases p3 with
          | false =>
            gi_wp2
            exact FIN.out (by unfold mOver; rw [hp1, hp2, hp3]; rfl)
          | true =>
            have HNO : Aside0 (mOver a2 a4 out c = false) := ⟨by unfold mOver; rw [hp1, hp2, hp3]; rfl⟩
            obtain ⟨p4, hp4⟩ : ∃ p, (c.f0.f2 == 1) = p := ⟨_, rfl⟩
            cases p4 with
            | true =>
              have hms : mStep out c = out ++ [⟨c.f0.f0, c.f1⟩] := by rw [mStep, if_pos (by simpa using hp4)]
              have HMS := Aside0.mk hms
              clear hms
              have hbs : z ≤ W''.heap.size := by have := HSZ.out; omega
              gi_wp2_with (gi_at_builtin; refine appendIn k37 z rfl (.tmp 37) (.tmp 44) 32 37 (.agg #[.string ⟨#[]⟩, .string ⟨#[]⟩]) 32 rfl Try.underlying32 info37 rfl (by decide) (by decide) (.slice A1 out.length c1) out ⟨c.f0.f0, c.f1⟩ [.string c.f0.f0, .string c.f1] _ (fun _ => False) rfl rfl ?aP (fun _ h => h.elim) ?aF HR.out hbs ?aL ?_; (case aP => exact k37_mkM _ _ _ (⟨c.f0.f0, c.f1⟩ : MPr)); (case aF => exact fun k hk => ⟨fun h => by have := Hlt2.out k h; omega, by have := HSZ.out; omega⟩); (case aL => have := HLen.out; have := HP.out.2; omega); intro v4 w4 hr4 hg4 hf4; obtain ⟨g, cap, hv4⟩ := hf4; subst hv4; have hb4 : w4.heap[z + 2]? = some (.cells #[.slice A1 out.length c1] 32) := (hg4.block _ (by have := HSZ.out; omega) (fun e => (HR.out.1 _ e.symm).2.2.2 rfl)).trans HK2.out.2; have hb5 : w4.heap[z]? = _ := (hg4.block _ (by have := HSZ.out; omega) (fun e => (HR.out.1 _ e.symm).2.1 rfl)).trans HK0.out.2; have hb6 : w4.heap[z + 1]? = _ := (hg4.block _ (by have := HSZ.out; omega) (fun e => (HR.out.1 _ e.symm).2.2.1 rfl)).trans HK1.out.2; have hc4 := box_cell hb4; have hf4 := box_frozen hb4; have HR4 := Aside0.mk hr4; have HG4 := Aside0.mk hg4; have Hb4 := Aside0.mk hb4; have Hb5 := Aside0.mk hb5; have Hb6 := Aside0.mk hb6; clear hr4 hg4 hb4 hb5 hb6)
              refine ⟨(Hold.of_grownBy HG4.out Hlt2.out (fun k hk => (HR.out.1 k hk).1)).trans (Hold.setCell (p := ⟨z + 2, 0, none⟩) HK2.out.1 _), ((Below.refl _ _).grown HG4.out hbs (fun k hk => Kd.R_base HR.out k hk)).setCell (p := ⟨z + 2, 0, none⟩) (by show z ≤ z + 2; omega) _, _, _, scanP_go HP.out HNO.out, ⟨HK0.out.1, (Below.heap_setCell _ ⟨z + 2, 0, none⟩ _ z (fun e => by simp at e)).trans Hb5.out⟩, ⟨HK1.out.1, (Below.heap_setCell _ ⟨z + 2, 0, none⟩ _ (z + 1) (fun e => by simp at e)).trans Hb6.out⟩, ⟨HK2.out.1, box_set Hb4.out _⟩, ?_, HCN.out, (HBW.out.grown HG4.out hbs (fun k hk => Kd.R_base HR.out k hk)).setCell (p := ⟨z + 2, 0, none⟩) (by show z ≤ z + 2; omega) _⟩
              rw [HMS.out]
              exact R_setCell (p := ⟨z + 2, 0, none⟩) HR4.out (fun h => h.2.2.2 rfl) _
            | false =>
              have hms : mStep out c = out := by rw [mStep, if_neg (by simpa using hp4)]
              have HMS := Aside0.mk hms
              clear hms
              gi_wp2
              exact ⟨Hold.refl _ _, Below.refl _ _, _, _, by have := scanP_go HP.out HNO.out; rw [HMS.out] at this; exact this, HK0.out, HK1.out, HK2.out, HR.out, HCN.out, HBW.out⟩
    case done =>
      rintro D C xs W hCD hD rfl ⟨out, v, hP, hk0, hk1, hk2, hr, hcn, hB⟩ hK
      have hc1 := box_cell hk2.2
      have HK2 := Aside0.mk hk2
      have Hr := Aside0.mk hr
      have HK := Aside0.mk hK
      have HD : Aside0 (z ≤ D) := ⟨hcn D hCD⟩
      have HWB : Aside0 (Below w.heap.size w W) := ⟨by rw [← HZ.out]; exact hB⟩
      have hres : mScan a2 a4 [] (mSeen a1 a3 none (mAll (mSize l0) l0)) = out := by have := hP.1 []; rw [List.append_nil] at this; exact this
      have HRES := Aside0.mk hres
      clear hr hB hK hk0 hk1 hk2 hcn HI H0 HR0 HC0 HFIT HB1 HS1 hD hP hres
      gi_wp2
      refine ⟨by simp, .inl ⟨_, _, rfl, run_takeDeferred HK.out, ?_⟩⟩
      refine ⟨_, results_tmp rfl _ _ _, v, rfl, ?_, HWB.out.trans (below_putObj (by rw [← HZ.out]; exact HD.out) _)⟩
      rw [HRES.out, ← HZ.out]
      exact R_putObj Hr.out (fun h => h.1 hCD) _
    case stop =>
      rintro D C c pre W hCD hD hpre ⟨out, v, ⟨rfl, hP⟩, hk0, hk1, hk2, hr, hcn, hB⟩ hK
      have hc1 := box_cell hk2.2
      have HK2 := Aside0.mk hk2
      have Hr := Aside0.mk hr
      have HK := Aside0.mk hK
      have HD : Aside0 (z ≤ D) := ⟨hcn D hCD⟩
      have HWB : Aside0 (Below w.heap.size w W) := ⟨by rw [← HZ.out]; exact hB⟩
      have hres : mScan a2 a4 [] (mSeen a1 a3 none (mAll (mSize l0) l0)) = out := by obtain ⟨q, hq⟩ := hpre; rw [← hq]; exact hP q
      have HRES := Aside0.mk hres
      clear hr hB hK hk0 hk1 hk2 hcn HI H0 HR0 HC0 HFIT HB1 HS1 hD hP hres
      gi_wp2
      refine ⟨by simp, .inl ⟨_, _, rfl, run_takeDeferred HK.out, ?_⟩⟩
      refine ⟨_, results_tmp rfl _ _ _, v, rfl, ?_, HWB.out.trans (below_putObj (by rw [← HZ.out]; exact HD.out) _)⟩
      rw [HRES.out, ← HZ.out]
      exact R_putObj Hr.out (fun h => h.1 hCD) _
  · rw [if_neg hc] at h
    cases h
end Go.Proofs.YtojemmipkpckbaaG

end

section
namespace Go.Proofs.Ytojemmipkpckbaa.P
open Go.RowKit Go.Proofs.YtojemmipkpckbaaG Go.Proofs.YtojemmipkpckbaaW.PrintWords Go.Proofs.YtojemmipkpckbaaW.PrintLast Go.Proofs.YtojemmipkpckbaaW.PrintMore
attribute [local go_sem] str_gtr str_geq str_leq max2_int min2_int max_two min_two max_three min_three max_four min_four   -- for this text's walks alone
set_option linter.unusedVariables false
set_option linter.unusedSimpArgs false

def ratlineref03_Compare.f (a0_0 : ByteArray) (a0_1 : Int) (a0_2 : Int) (a1_0 : ByteArray) (a1_1 : Int) (a1_2 : Int) : Option (Int) := if (Op.bytesLess a0_0.toList a1_0.toList) = true then (some (-1)) else (if (Op.bytesLess a1_0.toList a0_0.toList) = true then (some 1) else (if a0_1 > a1_1 then (some (-1)) else (if a0_1 < a1_1 then (some 1) else (if a0_2 > a1_2 then (some (-1)) else (if a0_2 < a1_2 then (some 1) else (some 0))))))
set_option maxHeartbeats 8000000 in
set_option maxRecDepth 100000 in
theorem ratlineref03_Compare.calls (a0_0 : ByteArray) (a0_1 : Int) (a0_2 : Int) (a1_0 : ByteArray) (a1_1 : Int) (a1_2 : Int) (r : Int) (w : World) (h : ratlineref03_Compare.f a0_0 a0_1 a0_2 a1_0 a1_1 a1_2 = some r) :
    Calls Try.prog 38 #[.agg #[.string a0_0, .int .u64 a0_1, .int .u8 a0_2], .agg #[.string a1_0, .int .u64 a1_1, .int .u8 a1_2]] w fun e w' => e = .returned (.int .i64 r) ∧ Below w.heap.size w w' := by
  have hu39 := Try.underlying39
  have HB := Aside0.mk (Below.refl w.heap.size w)
  have H : (if (Op.bytesLess a0_0.toList a1_0.toList) = true then (some (-1)) else (if (Op.bytesLess a1_0.toList a0_0.toList) = true then (some 1) else (if a0_1 > a1_1 then (some (-1)) else (if a0_1 < a1_1 then (some 1) else (if a0_2 > a1_2 then (some (-1)) else (if a0_2 < a1_2 then (some 1) else (some 0))))))) = some r := h
  clear h
  by_cases c3 : (Op.bytesLess a0_0.toList a1_0.toList) = true
  · rw [if_pos c3] at H
    have c3b0 : (Op.bytesLess a0_0.toList a1_0.toList) = true := c3
    clear c3
    obtain rfl := Option.some.inj H
    go_enter Try.func38, Try.ntmps38
    go_wp2_with (first | ((with_reducible refine gate_dst (N := 2) rfl ?_); refine box_event ?hg (N := 2) ?hd (cs := #[.string a0_0, .int .u64 a0_1, .int .u8 a0_2]) (t := 39) ?hr ?_; (case hd => rfl); (case hg => rfl); (case hr => first | (go_simp; done) | (go_simp; rfl)); intro gb103 hg w4 hbox hb; have n0_ := Aside0.mk (below_step (by repeat (first | (with_reducible first | exact HB.out | apply below_alloc | apply pw_below_drewN | apply below_drew1) | exact HB.out)) hb); have n1_ := Aside0.mk (hbox); have n2_ := Aside0.mk ((by rw [hg]; exact (below_size (by repeat (first | (with_reducible first | exact HB.out | apply below_alloc | apply pw_below_drewN | apply below_drew1) | exact HB.out))) : w.heap.size ≤ gb103)); have n3_ := Aside0.mk ((by rw [hg]; exact (below_size (by repeat (first | (with_reducible first | exact HB.out | apply below_alloc | apply pw_below_drewN | apply below_drew1) | exact HB.out))) : w.heap.size ≤ gb103)); clear HB; have HB := n0_; have BK103 := n1_; have GW103 := n2_; have GE103 := n3_; clear n0_ n1_ n2_ n3_; clear hb hbox hg) | ((with_reducible refine gate_dst (N := 3) rfl ?_); refine box_event ?hg (N := 3) ?hd (cs := #[.string a1_0, .int .u64 a1_1, .int .u8 a1_2]) (t := 39) ?hr ?_; (case hd => rfl); (case hg => rfl); (case hr => first | (go_simp; done) | (go_simp; rfl)); intro gb104 hg w5 hbox hb; have n0_ := Aside0.mk (blk_below (g := gb103) (o := .cells #[.string a0_0, .int .u64 a0_1, .int .u8 a0_2] 39 (0, 0)) (by (with_reducible repeat (first | refine blk_drewN ?_ _ | refine blk_drew ?_ | refine blk_alloc ?_ _)); exact BK103.out) hb); have n1_ := Aside0.mk (below_step (by repeat (first | (with_reducible first | exact HB.out | apply below_alloc | apply pw_below_drewN | apply below_drew1 | refine below_set ?_ GE103.out) | exact HB.out)) hb); have n2_ := Aside0.mk (hbox); have n3_ := Aside0.mk ((by rw [hg]; exact (below_size (by repeat (first | (with_reducible first | exact HB.out | apply below_alloc | apply pw_below_drewN | apply below_drew1 | refine below_set ?_ GE103.out) | exact HB.out))) : w.heap.size ≤ gb104)); have n4_ := Aside0.mk ((by rw [hg]; exact (below_size (by repeat (first | (with_reducible first | exact HB.out | apply below_alloc | apply pw_below_drewN | apply below_drew1 | refine below_set ?_ GE103.out) | exact HB.out))) : w.heap.size ≤ gb104)); have n5_ := Aside0.mk ((by rw [hg]; exact Nat.ne_of_lt (blk_lt (g := gb103) (o := .cells #[.string a0_0, .int .u64 a0_1, .int .u8 a0_2] 39 (0, 0)) (by (with_reducible repeat (first | refine blk_drewN ?_ _ | refine blk_drew ?_ | refine blk_alloc ?_ _)); exact BK103.out)) : gb103 ≠ gb104)); have n6_ := Aside0.mk ((by rw [hg]; exact Nat.ne_of_gt (blk_lt (g := gb103) (o := .cells #[.string a0_0, .int .u64 a0_1, .int .u8 a0_2] 39 (0, 0)) (by (with_reducible repeat (first | refine blk_drewN ?_ _ | refine blk_drew ?_ | refine blk_alloc ?_ _)); exact BK103.out)) : gb104 ≠ gb103)); clear BK103; clear HB; have BK103 := n0_; have HB := n1_; have BK104 := n2_; have GW104 := n3_; have GE104 := n4_; have NB103_104 := n5_; have NB104_103 := n6_; clear n0_ n1_ n2_ n3_ n4_ n5_ n6_; clear hb hbox hg; have hnb6 := NB103_104.out; have hnc6 := NB104_103.out; have hcz7_0 : w5.cell? ⟨gb103, 0, none⟩ = some (.string a0_0) := (blk_cell BK103.out 0).trans rfl; have hcz7_1 : w5.cell? ⟨gb103, 1, none⟩ = some (.int .u64 a0_1) := (blk_cell BK103.out 1).trans rfl; have hcz7_2 : w5.cell? ⟨gb103, 2, none⟩ = some (.int .u8 a0_2) := (blk_cell BK103.out 2).trans rfl; have hfz7_0 := blk_frozen BK103.out 0; have hfz7_1 := blk_frozen BK103.out 1; have hfz7_2 := blk_frozen BK103.out 2; have hcz8_0 : w5.cell? ⟨gb104, 0, none⟩ = some (.string a1_0) := (blk_cell BK104.out 0).trans rfl; have hcz8_1 : w5.cell? ⟨gb104, 1, none⟩ = some (.int .u64 a1_1) := (blk_cell BK104.out 1).trans rfl; have hcz8_2 : w5.cell? ⟨gb104, 2, none⟩ = some (.int .u8 a1_2) := (blk_cell BK104.out 2).trans rfl; have hfz8_0 := blk_frozen BK104.out 0; have hfz8_1 := blk_frozen BK104.out 1; have hfz8_2 := blk_frozen BK104.out 2))
    go_ret
    exact ⟨by first | rfl | (simp [errW_none, errW_some] <;> rfl) | (simp [*, errW_none, errW_some] <;> rfl), by repeat (first | (with_reducible first | exact HB.out | apply below_alloc | apply pw_below_drewN | apply below_drew1 | refine below_set ?_ GE103.out | refine below_set ?_ GE104.out) | exact HB.out)⟩
  · rw [if_neg c3] at H
    have c3b0 : (Op.bytesLess a0_0.toList a1_0.toList) = false := by simpa using c3
    clear c3
    by_cases c9 : (Op.bytesLess a1_0.toList a0_0.toList) = true
    · rw [if_pos c9] at H
      have c9b0 : (Op.bytesLess a1_0.toList a0_0.toList) = true := c9
      clear c9
      obtain rfl := Option.some.inj H
      go_enter Try.func38, Try.ntmps38
      go_wp2_with (first | ((with_reducible refine gate_dst (N := 2) rfl ?_); refine box_event ?hg (N := 2) ?hd (cs := #[.string a0_0, .int .u64 a0_1, .int .u8 a0_2]) (t := 39) ?hr ?_; (case hd => rfl); (case hg => rfl); (case hr => first | (go_simp; done) | (go_simp; rfl)); intro gb103 hg w10 hbox hb; have n0_ := Aside0.mk (below_step (by repeat (first | (with_reducible first | exact HB.out | apply below_alloc | apply pw_below_drewN | apply below_drew1) | exact HB.out)) hb); have n1_ := Aside0.mk (hbox); have n2_ := Aside0.mk ((by rw [hg]; exact (below_size (by repeat (first | (with_reducible first | exact HB.out | apply below_alloc | apply pw_below_drewN | apply below_drew1) | exact HB.out))) : w.heap.size ≤ gb103)); have n3_ := Aside0.mk ((by rw [hg]; exact (below_size (by repeat (first | (with_reducible first | exact HB.out | apply below_alloc | apply pw_below_drewN | apply below_drew1) | exact HB.out))) : w.heap.size ≤ gb103)); clear HB; have HB := n0_; have BK103 := n1_; have GW103 := n2_; have GE103 := n3_; clear n0_ n1_ n2_ n3_; clear hb hbox hg) | ((with_reducible refine gate_dst (N := 3) rfl ?_); refine box_event ?hg (N := 3) ?hd (cs := #[.string a1_0, .int .u64 a1_1, .int .u8 a1_2]) (t := 39) ?hr ?_; (case hd => rfl); (case hg => rfl); (case hr => first | (go_simp; done) | (go_simp; rfl)); intro gb104 hg w11 hbox hb; have n0_ := Aside0.mk (blk_below (g := gb103) (o := .cells #[.string a0_0, .int .u64 a0_1, .int .u8 a0_2] 39 (0, 0)) (by (with_reducible repeat (first | refine blk_drewN ?_ _ | refine blk_drew ?_ | refine blk_alloc ?_ _)); exact BK103.out) hb); have n1_ := Aside0.mk (below_step (by repeat (first | (with_reducible first | exact HB.out | apply below_alloc | apply pw_below_drewN | apply below_drew1 | refine below_set ?_ GE103.out) | exact HB.out)) hb); have n2_ := Aside0.mk (hbox); have n3_ := Aside0.mk ((by rw [hg]; exact (below_size (by repeat (first | (with_reducible first | exact HB.out | apply below_alloc | apply pw_below_drewN | apply below_drew1 | refine below_set ?_ GE103.out) | exact HB.out))) : w.heap.size ≤ gb104)); have n4_ := Aside0.mk ((by rw [hg]; exact (below_size (by repeat (first | (with_reducible first | exact HB.out | apply below_alloc | apply pw_below_drewN | apply below_drew1 | refine below_set ?_ GE103.out) | exact HB.out))) : w.heap.size ≤ gb104)); have n5_ := Aside0.mk ((by rw [hg]; exact Nat.ne_of_lt (blk_lt (g := gb103) (o := .cells #[.string a0_0, .int .u64 a0_1, .int .u8 a0_2] 39 (0, 0)) (by (with_reducible repeat (first | refine blk_drewN ?_ _ | refine blk_drew ?_ | refine blk_alloc ?_ _)); exact BK103.out)) : gb103 ≠ gb104)); have n6_ := Aside0.mk ((by rw [hg]; exact Nat.ne_of_gt (blk_lt (g := gb103) (o := .cells #[.string a0_0, .int .u64 a0_1, .int .u8 a0_2] 39 (0, 0)) (by (with_reducible repeat (first | refine blk_drewN ?_ _ | refine blk_drew ?_ | refine blk_alloc ?_ _)); exact BK103.out)) : gb104 ≠ gb103)); clear BK103; clear HB; have BK103 := n0_; have HB := n1_; have BK104 := n2_; have GW104 := n3_; have GE104 := n4_; have NB103_104 := n5_; have NB104_103 := n6_; clear n0_ n1_ n2_ n3_ n4_ n5_ n6_; clear hb hbox hg; have hnb12 := NB103_104.out; have hnc12 := NB104_103.out; have hcz13_0 : w11.cell? ⟨gb103, 0, none⟩ = some (.string a0_0) := (blk_cell BK103.out 0).trans rfl; have hcz13_1 : w11.cell? ⟨gb103, 1, none⟩ = some (.int .u64 a0_1) := (blk_cell BK103.out 1).trans rfl; have hcz13_2 : w11.cell? ⟨gb103, 2, none⟩ = some (.int .u8 a0_2) := (blk_cell BK103.out 2).trans rfl; have hfz13_0 := blk_frozen BK103.out 0; have hfz13_1 := blk_frozen BK103.out 1; have hfz13_2 := blk_frozen BK103.out 2; have hcz14_0 : w11.cell? ⟨gb104, 0, none⟩ = some (.string a1_0) := (blk_cell BK104.out 0).trans rfl; have hcz14_1 : w11.cell? ⟨gb104, 1, none⟩ = some (.int .u64 a1_1) := (blk_cell BK104.out 1).trans rfl; have hcz14_2 : w11.cell? ⟨gb104, 2, none⟩ = some (.int .u8 a1_2) := (blk_cell BK104.out 2).trans rfl; have hfz14_0 := blk_frozen BK104.out 0; have hfz14_1 := blk_frozen BK104.out 1; have hfz14_2 := blk_frozen BK104.out 2))
      go_ret
      exact ⟨by first | rfl | (simp [errW_none, errW_some] <;> rfl) | (simp [*, errW_none, errW_some] <;> rfl), by repeat (first | (with_reducible first | exact HB.out | apply below_alloc | apply pw_below_drewN | apply below_drew1 | refine below_set ?_ GE103.out | refine below_set ?_ GE104.out) | exact HB.out)⟩
    · rw [if_neg c9] at H
      have c9b0 : (Op.bytesLess a1_0.toList a0_0.toList) = false := by simpa using c9
      clear c9
      by_cases c15 : a0_1 > a1_1
      · rw [if_pos c15] at H
        have c15b0 : decide (a1_1 < a0_1) = true := decide_eq_true c15
        clear c15
        obtain rfl := Option.some.inj H
        go_enter Try.func38, Try.ntmps38
        go_wp2_with (first | ((with_reducible refine gate_dst (N := 2) rfl ?_); refine box_event ?hg (N := 2) ?hd (cs := #[.string a0_0, .int .u64 a0_1, .int .u8 a0_2]) (t := 39) ?hr ?_; (case hd => rfl); (case hg => rfl); (case hr => first | (go_simp; done) | (go_simp; rfl)); intro gb103 hg w16 hbox hb; have n0_ := Aside0.mk (below_step (by repeat (first | (with_reducible first | exact HB.out | apply below_alloc | apply pw_below_drewN | apply below_drew1) | exact HB.out)) hb); have n1_ := Aside0.mk (hbox); have n2_ := Aside0.mk ((by rw [hg]; exact (below_size (by repeat (first | (with_reducible first | exact HB.out | apply below_alloc | apply pw_below_drewN | apply below_drew1) | exact HB.out))) : w.heap.size ≤ gb103)); have n3_ := Aside0.mk ((by rw [hg]; exact (below_size (by repeat (first | (with_reducible first | exact HB.out | apply below_alloc | apply pw_below_drewN | apply below_drew1) | exact HB.out))) : w.heap.size ≤ gb103)); clear HB; have HB := n0_; have BK103 := n1_; have GW103 := n2_; have GE103 := n3_; clear n0_ n1_ n2_ n3_; clear hb hbox hg) | ((with_reducible refine gate_dst (N := 3) rfl ?_); refine box_event ?hg (N := 3) ?hd (cs := #[.string a1_0, .int .u64 a1_1, .int .u8 a1_2]) (t := 39) ?hr ?_; (case hd => rfl); (case hg => rfl); (case hr => first | (go_simp; done) | (go_simp; rfl)); intro gb104 hg w17 hbox hb; have n0_ := Aside0.mk (blk_below (g := gb103) (o := .cells #[.string a0_0, .int .u64 a0_1, .int .u8 a0_2] 39 (0, 0)) (by (with_reducible repeat (first | refine blk_drewN ?_ _ | refine blk_drew ?_ | refine blk_alloc ?_ _)); exact BK103.out) hb); have n1_ := Aside0.mk (below_step (by repeat (first | (with_reducible first | exact HB.out | apply below_alloc | apply pw_below_drewN | apply below_drew1 | refine below_set ?_ GE103.out) | exact HB.out)) hb); have n2_ := Aside0.mk (hbox); have n3_ := Aside0.mk ((by rw [hg]; exact (below_size (by repeat (first | (with_reducible first | exact HB.out | apply below_alloc | apply pw_below_drewN | apply below_drew1 | refine below_set ?_ GE103.out) | exact HB.out))) : w.heap.size ≤ gb104)); have n4_ := Aside0.mk ((by rw [hg]; exact (below_size (by repeat (first | (with_reducible first | exact HB.out | apply below_alloc | apply pw_below_drewN | apply below_drew1 | refine below_set ?_ GE103.out) | exact HB.out))) : w.heap.size ≤ gb104)); have n5_ := Aside0.mk ((by rw [hg]; exact Nat.ne_of_lt (blk_lt (g := gb103) (o := .cells #[.string a0_0, .int .u64 a0_1, .int .u8 a0_2] 39 (0, 0)) (by (with_reducible repeat (first | refine blk_drewN ?_ _ | refine blk_drew ?_ | refine blk_alloc ?_ _)); exact BK103.out)) : gb103 ≠ gb104)); have n6_ := Aside0.mk ((by rw [hg]; exact Nat.ne_of_gt (blk_lt (g := gb103) (o := .cells #[.string a0_0, .int .u64 a0_1, .int .u8 a0_2] 39 (0, 0)) (by (with_reducible repeat (first | refine blk_drewN ?_ _ | refine blk_drew ?_ | refine blk_alloc ?_ _)); exact BK103.out)) : gb104 ≠ gb103)); clear BK103; clear HB; have BK103 := n0_; have HB := n1_; have BK104 := n2_; have GW104 := n3_; have GE104 := n4_; have NB103_104 := n5_; have NB104_103 := n6_; clear n0_ n1_ n2_ n3_ n4_ n5_ n6_; clear hb hbox hg; have hnb18 := NB103_104.out; have hnc18 := NB104_103.out; have hcz19_0 : w17.cell? ⟨gb103, 0, none⟩ = some (.string a0_0) := (blk_cell BK103.out 0).trans rfl; have hcz19_1 : w17.cell? ⟨gb103, 1, none⟩ = some (.int .u64 a0_1) := (blk_cell BK103.out 1).trans rfl; have hcz19_2 : w17.cell? ⟨gb103, 2, none⟩ = some (.int .u8 a0_2) := (blk_cell BK103.out 2).trans rfl; have hfz19_0 := blk_frozen BK103.out 0; have hfz19_1 := blk_frozen BK103.out 1; have hfz19_2 := blk_frozen BK103.out 2; have hcz20_0 : w17.cell? ⟨gb104, 0, none⟩ = some (.string a1_0) := (blk_cell BK104.out 0).trans rfl; have hcz20_1 : w17.cell? ⟨gb104, 1, none⟩ = some (.int .u64 a1_1) := (blk_cell BK104.out 1).trans rfl; have hcz20_2 : w17.cell? ⟨gb104, 2, none⟩ = some (.int .u8 a1_2) := (blk_cell BK104.out 2).trans rfl; have hfz20_0 := blk_frozen BK104.out 0; have hfz20_1 := blk_frozen BK104.out 1; have hfz20_2 := blk_frozen BK104.out 2))
        go_ret
        exact ⟨by first | rfl | (simp [errW_none, errW_some] <;> rfl) | (simp [*, errW_none, errW_some] <;> rfl), by repeat (first | (with_reducible first | exact HB.out | apply below_alloc | apply pw_below_drewN | apply below_drew1 | refine below_set ?_ GE103.out | refine below_set ?_ GE104.out) | exact HB.out)⟩
      · rw [if_neg c15] at H
        have c15b0 : decide (a1_1 < a0_1) = false := decide_eq_false c15
        clear c15
        by_cases c21 : a0_1 < a1_1
        · rw [if_pos c21] at H
          have c21b0 : decide (a0_1 < a1_1) = true := decide_eq_true c21
          clear c21
          obtain rfl := Option.some.inj H
          go_enter Try.func38, Try.ntmps38
          go_wp2_with (first | ((with_reducible refine gate_dst (N := 2) rfl ?_); refine box_event ?hg (N := 2) ?hd (cs := #[.string a0_0, .int .u64 a0_1, .int .u8 a0_2]) (t := 39) ?hr ?_; (case hd => rfl); (case hg => rfl); (case hr => first | (go_simp; done) | (go_simp; rfl)); intro gb103 hg w22 hbox hb; have n0_ := Aside0.mk (below_step (by repeat (first | (with_reducible first | exact HB.out | apply below_alloc | apply pw_below_drewN | apply below_drew1) | exact HB.out)) hb); have n1_ := Aside0.mk (hbox); have n2_ := Aside0.mk ((by rw [hg]; exact (below_size (by repeat (first | (with_reducible first | exact HB.out | apply below_alloc | apply pw_below_drewN | apply below_drew1) | exact HB.out))) : w.heap.size ≤ gb103)); have n3_ := Aside0.mk ((by rw [hg]; exact (below_size (by repeat (first | (with_reducible first | exact HB.out | apply below_alloc | apply pw_below_drewN | apply below_drew1) | exact HB.out))) : w.heap.size ≤ gb103)); clear HB; have HB := n0_; have BK103 := n1_; have GW103 := n2_; have GE103 := n3_; clear n0_ n1_ n2_ n3_; clear hb hbox hg) | ((with_reducible refine gate_dst (N := 3) rfl ?_); refine box_event ?hg (N := 3) ?hd (cs := #[.string a1_0, .int .u64 a1_1, .int .u8 a1_2]) (t := 39) ?hr ?_; (case hd => rfl); (case hg => rfl); (case hr => first | (go_simp; done) | (go_simp; rfl)); intro gb104 hg w23 hbox hb; have n0_ := Aside0.mk (blk_below (g := gb103) (o := .cells #[.string a0_0, .int .u64 a0_1, .int .u8 a0_2] 39 (0, 0)) (by (with_reducible repeat (first | refine blk_drewN ?_ _ | refine blk_drew ?_ | refine blk_alloc ?_ _)); exact BK103.out) hb); have n1_ := Aside0.mk (below_step (by repeat (first | (with_reducible first | exact HB.out | apply below_alloc | apply pw_below_drewN | apply below_drew1 | refine below_set ?_ GE103.out) | exact HB.out)) hb); have n2_ := Aside0.mk (hbox); have n3_ := Aside0.mk ((by rw [hg]; exact (below_size (by repeat (first | (with_reducible first | exact HB.out | apply below_alloc | apply pw_below_drewN | apply below_drew1 | refine below_set ?_ GE103.out) | exact HB.out))) : w.heap.size ≤ gb104)); have n4_ := Aside0.mk ((by rw [hg]; exact (below_size (by repeat (first | (with_reducible first | exact HB.out | apply below_alloc | apply pw_below_drewN | apply below_drew1 | refine below_set ?_ GE103.out) | exact HB.out))) : w.heap.size ≤ gb104)); have n5_ := Aside0.mk ((by rw [hg]; exact Nat.ne_of_lt (blk_lt (g := gb103) (o := .cells #[.string a0_0, .int .u64 a0_1, .int .u8 a0_2] 39 (0, 0)) (by (with_reducible repeat (first | refine blk_drewN ?_ _ | refine blk_drew ?_ | refine blk_alloc ?_ _)); exact BK103.out)) : gb103 ≠ gb104)); have n6_ := Aside0.mk ((by rw [hg]; exact Nat.ne_of_gt (blk_lt (g := gb103) (o := .cells #[.string a0_0, .int .u64 a0_1, .int .u8 a0_2] 39 (0, 0)) (by (with_reducible repeat (first | refine blk_drewN ?_ _ | refine blk_drew ?_ | refine blk_alloc ?_ _)); exact BK103.out)) : gb104 ≠ gb103)); clear BK103; clear HB; have BK103 := n0_; have HB := n1_; have BK104 := n2_; have GW104 := n3_; have GE104 := n4_; have NB103_104 := n5_; have NB104_103 := n6_; clear n0_ n1_ n2_ n3_ n4_ n5_ n6_; clear hb hbox hg; have hnb24 := NB103_104.out; have hnc24 := NB104_103.out; have hcz25_0 : w23.cell? ⟨gb103, 0, none⟩ = some (.string a0_0) := (blk_cell BK103.out 0).trans rfl; have hcz25_1 : w23.cell? ⟨gb103, 1, none⟩ = some (.int .u64 a0_1) := (blk_cell BK103.out 1).trans rfl; have hcz25_2 : w23.cell? ⟨gb103, 2, none⟩ = some (.int .u8 a0_2) := (blk_cell BK103.out 2).trans rfl; have hfz25_0 := blk_frozen BK103.out 0; have hfz25_1 := blk_frozen BK103.out 1; have hfz25_2 := blk_frozen BK103.out 2; have hcz26_0 : w23.cell? ⟨gb104, 0, none⟩ = some (.string a1_0) := (blk_cell BK104.out 0).trans rfl; have hcz26_1 : w23.cell? ⟨gb104, 1, none⟩ = some (.int .u64 a1_1) := (blk_cell BK104.out 1).trans rfl; have hcz26_2 : w23.cell? ⟨gb104, 2, none⟩ = some (.int .u8 a1_2) := (blk_cell BK104.out 2).trans rfl; have hfz26_0 := blk_frozen BK104.out 0; have hfz26_1 := blk_frozen BK104.out 1; have hfz26_2 := blk_frozen BK104.out 2))
          go_ret
          exact ⟨by first | rfl | (simp [errW_none, errW_some] <;> rfl) | (simp [*, errW_none, errW_some] <;> rfl), by repeat (first | (with_reducible first | exact HB.out | apply below_alloc | apply pw_below_drewN | apply below_drew1 | refine below_set ?_ GE103.out | refine below_set ?_ GE104.out) | exact HB.out)⟩
        · rw [if_neg c21] at H
          have c21b0 : decide (a0_1 < a1_1) = false := decide_eq_false c21
          clear c21
          by_cases c27 : a0_2 > a1_2
          · rw [if_pos c27] at H
            have c27b0 : decide (a1_2 < a0_2) = true := decide_eq_true c27
            clear c27
            obtain rfl := Option.some.inj H
            go_enter Try.func38, Try.ntmps38
            go_wp2_with (first | ((with_reducible refine gate_dst (N := 2) rfl ?_); refine box_event ?hg (N := 2) ?hd (cs := #[.string a0_0, .int .u64 a0_1, .int .u8 a0_2]) (t := 39) ?hr ?_; (case hd => rfl); (case hg => rfl); (case hr => first | (go_simp; done) | (go_simp; rfl)); intro gb103 hg w28 hbox hb; have n0_ := Aside0.mk (below_step (by repeat (first | (with_reducible first | exact HB.out | apply below_alloc | apply pw_below_drewN | apply below_drew1) | exact HB.out)) hb); have n1_ := Aside0.mk (hbox); have n2_ := Aside0.mk ((by rw [hg]; exact (below_size (by repeat (first | (with_reducible first | exact HB.out | apply below_alloc | apply pw_below_drewN | apply below_drew1) | exact HB.out))) : w.heap.size ≤ gb103)); have n3_ := Aside0.mk ((by rw [hg]; exact (below_size (by repeat (first | (with_reducible first | exact HB.out | apply below_alloc | apply pw_below_drewN | apply below_drew1) | exact HB.out))) : w.heap.size ≤ gb103)); clear HB; have HB := n0_; have BK103 := n1_; have GW103 := n2_; have GE103 := n3_; clear n0_ n1_ n2_ n3_; clear hb hbox hg) | ((with_reducible refine gate_dst (N := 3) rfl ?_); refine box_event ?hg (N := 3) ?hd (cs := #[.string a1_0, .int .u64 a1_1, .int .u8 a1_2]) (t := 39) ?hr ?_; (case hd => rfl); (case hg => rfl); (case hr => first | (go_simp; done) | (go_simp; rfl)); intro gb104 hg w29 hbox hb; have n0_ := Aside0.mk (blk_below (g := gb103) (o := .cells #[.string a0_0, .int .u64 a0_1, .int .u8 a0_2] 39 (0, 0)) (by (with_reducible repeat (first | refine blk_drewN ?_ _ | refine blk_drew ?_ | refine blk_alloc ?_ _)); exact BK103.out) hb); have n1_ := Aside0.mk (below_step (by repeat (first | (with_reducible first | exact HB.out | apply below_alloc | apply pw_below_drewN | apply below_drew1 | refine below_set ?_ GE103.out) | exact HB.out)) hb); have n2_ := Aside0.mk (hbox); have n3_ := Aside0.mk ((by rw [hg]; exact (below_size (by repeat (first | (with_reducible first | exact HB.out | apply below_alloc | apply pw_below_drewN | apply below_drew1 | refine below_set ?_ GE103.out) | exact HB.out))) : w.heap.size ≤ gb104)); have n4_ := Aside0.mk ((by rw [hg]; exact (below_size (by repeat (first | (with_reducible first | exact HB.out | apply below_alloc | apply pw_below_drewN | apply below_drew1 | refine below_set ?_ GE103.out) | exact HB.out))) : w.heap.size ≤ gb104)); have n5_ := Aside0.mk ((by rw [hg]; exact Nat.ne_of_lt (blk_lt (g := gb103) (o := .cells #[.string a0_0, .int .u64 a0_1, .int .u8 a0_2] 39 (0, 0)) (by (with_reducible repeat (first | refine blk_drewN ?_ _ | refine blk_drew ?_ | refine blk_alloc ?_ _)); exact BK103.out)) : gb103 ≠ gb104)); have n6_ := Aside0.mk ((by rw [hg]; exact Nat.ne_of_gt (blk_lt (g := gb103) (o := .cells #[.string a0_0, .int .u64 a0_1, .int .u8 a0_2] 39 (0, 0)) (by (with_reducible repeat (first | refine blk_drewN ?_ _ | refine blk_drew ?_ | refine blk_alloc ?_ _)); exact BK103.out)) : gb104 ≠ gb103)); clear BK103; clear HB; have BK103 := n0_; have HB := n1_; have BK104 := n2_; have GW104 := n3_; have GE104 := n4_; have NB103_104 := n5_; have NB104_103 := n6_; clear n0_ n1_ n2_ n3_ n4_ n5_ n6_; clear hb hbox hg; have hnb30 := NB103_104.out; have hnc30 := NB104_103.out; have hcz31_0 : w29.cell? ⟨gb103, 0, none⟩ = some (.string a0_0) := (blk_cell BK103.out 0).trans rfl; have hcz31_1 : w29.cell? ⟨gb103, 1, none⟩ = some (.int .u64 a0_1) := (blk_cell BK103.out 1).trans rfl; have hcz31_2 : w29.cell? ⟨gb103, 2, none⟩ = some (.int .u8 a0_2) := (blk_cell BK103.out 2).trans rfl; have hfz31_0 := blk_frozen BK103.out 0; have hfz31_1 := blk_frozen BK103.out 1; have hfz31_2 := blk_frozen BK103.out 2; have hcz32_0 : w29.cell? ⟨gb104, 0, none⟩ = some (.string a1_0) := (blk_cell BK104.out 0).trans rfl; have hcz32_1 : w29.cell? ⟨gb104, 1, none⟩ = some (.int .u64 a1_1) := (blk_cell BK104.out 1).trans rfl; have hcz32_2 : w29.cell? ⟨gb104, 2, none⟩ = some (.int .u8 a1_2) := (blk_cell BK104.out 2).trans rfl; have hfz32_0 := blk_frozen BK104.out 0; have hfz32_1 := blk_frozen BK104.out 1; have hfz32_2 := blk_frozen BK104.out 2))
            go_ret
            exact ⟨by first | rfl | (simp [errW_none, errW_some] <;> rfl) | (simp [*, errW_none, errW_some] <;> rfl), by repeat (first | (with_reducible first | exact HB.out | apply below_alloc | apply pw_below_drewN | apply below_drew1 | refine below_set ?_ GE103.out | refine below_set ?_ GE104.out) | exact HB.out)⟩
          · rw [if_neg c27] at H
            have c27b0 : decide (a1_2 < a0_2) = false := decide_eq_false c27
            clear c27
            by_cases c33 : a0_2 < a1_2
            · rw [if_pos c33] at H
              have c33b0 : decide (a0_2 < a1_2) = true := decide_eq_true c33
              clear c33
              obtain rfl := Option.some.inj H
              go_enter Try.func38, Try.ntmps38
              go_wp2_with (first | ((with_reducible refine gate_dst (N := 2) rfl ?_); refine box_event ?hg (N := 2) ?hd (cs := #[.string a0_0, .int .u64 a0_1, .int .u8 a0_2]) (t := 39) ?hr ?_; (case hd => rfl); (case hg => rfl); (case hr => first | (go_simp; done) | (go_simp; rfl)); intro gb103 hg w34 hbox hb; have n0_ := Aside0.mk (below_step (by repeat (first | (with_reducible first | exact HB.out | apply below_alloc | apply pw_below_drewN | apply below_drew1) | exact HB.out)) hb); have n1_ := Aside0.mk (hbox); have n2_ := Aside0.mk ((by rw [hg]; exact (below_size (by repeat (first | (with_reducible first | exact HB.out | apply below_alloc | apply pw_below_drewN | apply below_drew1) | exact HB.out))) : w.heap.size ≤ gb103)); have n3_ := Aside0.mk ((by rw [hg]; exact (below_size (by repeat (first | (with_reducible first | exact HB.out | apply below_alloc | apply pw_below_drewN | apply below_drew1) | exact HB.out))) : w.heap.size ≤ gb103)); clear HB; have HB := n0_; have BK103 := n1_; have GW103 := n2_; have GE103 := n3_; clear n0_ n1_ n2_ n3_; clear hb hbox hg) | ((with_reducible refine gate_dst (N := 3) rfl ?_); refine box_event ?hg (N := 3) ?hd (cs := #[.string a1_0, .int .u64 a1_1, .int .u8 a1_2]) (t := 39) ?hr ?_; (case hd => rfl); (case hg => rfl); (case hr => first | (go_simp; done) | (go_simp; rfl)); intro gb104 hg w35 hbox hb; have n0_ := Aside0.mk (blk_below (g := gb103) (o := .cells #[.string a0_0, .int .u64 a0_1, .int .u8 a0_2] 39 (0, 0)) (by (with_reducible repeat (first | refine blk_drewN ?_ _ | refine blk_drew ?_ | refine blk_alloc ?_ _)); exact BK103.out) hb); have n1_ := Aside0.mk (below_step (by repeat (first | (with_reducible first | exact HB.out | apply below_alloc | apply pw_below_drewN | apply below_drew1 | refine below_set ?_ GE103.out) | exact HB.out)) hb); have n2_ := Aside0.mk (hbox); have n3_ := Aside0.mk ((by rw [hg]; exact (below_size (by repeat (first | (with_reducible first | exact HB.out | apply below_alloc | apply pw_below_drewN | apply below_drew1 | refine below_set ?_ GE103.out) | exact HB.out))) : w.heap.size ≤ gb104)); have n4_ := Aside0.mk ((by rw [hg]; exact (below_size (by repeat (first | (with_reducible first | exact HB.out | apply below_alloc | apply pw_below_drewN | apply below_drew1 | refine below_set ?_ GE103.out) | exact HB.out))) : w.heap.size ≤ gb104)); have n5_ := Aside0.mk ((by rw [hg]; exact Nat.ne_of_lt (blk_lt (g := gb103) (o := .cells #[.string a0_0, .int .u64 a0_1, .int .u8 a0_2] 39 (0, 0)) (by (with_reducible repeat (first | refine blk_drewN ?_ _ | refine blk_drew ?_ | refine blk_alloc ?_ _)); exact BK103.out)) : gb103 ≠ gb104)); have n6_ := Aside0.mk ((by rw [hg]; exact Nat.ne_of_gt (blk_lt (g := gb103) (o := .cells #[.string a0_0, .int .u64 a0_1, .int .u8 a0_2] 39 (0, 0)) (by (with_reducible repeat (first | refine blk_drewN ?_ _ | refine blk_drew ?_ | refine blk_alloc ?_ _)); exact BK103.out)) : gb104 ≠ gb103)); clear BK103; clear HB; have BK103 := n0_; have HB := n1_; have BK104 := n2_; have GW104 := n3_; have GE104 := n4_; have NB103_104 := n5_; have NB104_103 := n6_; clear n0_ n1_ n2_ n3_ n4_ n5_ n6_; clear hb hbox hg; have hnb36 := NB103_104.out; have hnc36 := NB104_103.out; have hcz37_0 : w35.cell? ⟨gb103, 0, none⟩ = some (.string a0_0) := (blk_cell BK103.out 0).trans rfl; have hcz37_1 : w35.cell? ⟨gb103, 1, none⟩ = some (.int .u64 a0_1) := (blk_cell BK103.out 1).trans rfl; have hcz37_2 : w35.cell? ⟨gb103, 2, none⟩ = some (.int .u8 a0_2) := (blk_cell BK103.out 2).trans rfl; have hfz37_0 := blk_frozen BK103.out 0; have hfz37_1 := blk_frozen BK103.out 1; have hfz37_2 := blk_frozen BK103.out 2; have hcz38_0 : w35.cell? ⟨gb104, 0, none⟩ = some (.string a1_0) := (blk_cell BK104.out 0).trans rfl; have hcz38_1 : w35.cell? ⟨gb104, 1, none⟩ = some (.int .u64 a1_1) := (blk_cell BK104.out 1).trans rfl; have hcz38_2 : w35.cell? ⟨gb104, 2, none⟩ = some (.int .u8 a1_2) := (blk_cell BK104.out 2).trans rfl; have hfz38_0 := blk_frozen BK104.out 0; have hfz38_1 := blk_frozen BK104.out 1; have hfz38_2 := blk_frozen BK104.out 2))
              go_ret
              exact ⟨by first | rfl | (simp [errW_none, errW_some] <;> rfl) | (simp [*, errW_none, errW_some] <;> rfl), by repeat (first | (with_reducible first | exact HB.out | apply below_alloc | apply pw_below_drewN | apply below_drew1 | refine below_set ?_ GE103.out | refine below_set ?_ GE104.out) | exact HB.out)⟩
            · rw [if_neg c33] at H
              have c33b0 : decide (a0_2 < a1_2) = false := decide_eq_false c33
              clear c33
              obtain rfl := Option.some.inj H
              go_enter Try.func38, Try.ntmps38
              go_wp2_with (first | ((with_reducible refine gate_dst (N := 2) rfl ?_); refine box_event ?hg (N := 2) ?hd (cs := #[.string a0_0, .int .u64 a0_1, .int .u8 a0_2]) (t := 39) ?hr ?_; (case hd => rfl); (case hg => rfl); (case hr => first | (go_simp; done) | (go_simp; rfl)); intro gb103 hg w39 hbox hb; have n0_ := Aside0.mk (below_step (by repeat (first | (with_reducible first | exact HB.out | apply below_alloc | apply pw_below_drewN | apply below_drew1) | exact HB.out)) hb); have n1_ := Aside0.mk (hbox); have n2_ := Aside0.mk ((by rw [hg]; exact (below_size (by repeat (first | (with_reducible first | exact HB.out | apply below_alloc | apply pw_below_drewN | apply below_drew1) | exact HB.out))) : w.heap.size ≤ gb103)); have n3_ := Aside0.mk ((by rw [hg]; exact (below_size (by repeat (first | (with_reducible first | exact HB.out | apply below_alloc | apply pw_below_drewN | apply below_drew1) | exact HB.out))) : w.heap.size ≤ gb103)); clear HB; have HB := n0_; have BK103 := n1_; have GW103 := n2_; have GE103 := n3_; clear n0_ n1_ n2_ n3_; clear hb hbox hg) | ((with_reducible refine gate_dst (N := 3) rfl ?_); refine box_event ?hg (N := 3) ?hd (cs := #[.string a1_0, .int .u64 a1_1, .int .u8 a1_2]) (t := 39) ?hr ?_; (case hd => rfl); (case hg => rfl); (case hr => first | (go_simp; done) | (go_simp; rfl)); intro gb104 hg w40 hbox hb; have n0_ := Aside0.mk (blk_below (g := gb103) (o := .cells #[.string a0_0, .int .u64 a0_1, .int .u8 a0_2] 39 (0, 0)) (by (with_reducible repeat (first | refine blk_drewN ?_ _ | refine blk_drew ?_ | refine blk_alloc ?_ _)); exact BK103.out) hb); have n1_ := Aside0.mk (below_step (by repeat (first | (with_reducible first | exact HB.out | apply below_alloc | apply pw_below_drewN | apply below_drew1 | refine below_set ?_ GE103.out) | exact HB.out)) hb); have n2_ := Aside0.mk (hbox); have n3_ := Aside0.mk ((by rw [hg]; exact (below_size (by repeat (first | (with_reducible first | exact HB.out | apply below_alloc | apply pw_below_drewN | apply below_drew1 | refine below_set ?_ GE103.out) | exact HB.out))) : w.heap.size ≤ gb104)); have n4_ := Aside0.mk ((by rw [hg]; exact (below_size (by repeat (first | (with_reducible first | exact HB.out | apply below_alloc | apply pw_below_drewN | apply below_drew1 | refine below_set ?_ GE103.out) | exact HB.out))) : w.heap.size ≤ gb104)); have n5_ := Aside0.mk ((by rw [hg]; exact Nat.ne_of_lt (blk_lt (g := gb103) (o := .cells #[.string a0_0, .int .u64 a0_1, .int .u8 a0_2] 39 (0, 0)) (by (with_reducible repeat (first | refine blk_drewN ?_ _ | refine blk_drew ?_ | refine blk_alloc ?_ _)); exact BK103.out)) : gb103 ≠ gb104)); have n6_ := Aside0.mk ((by rw [hg]; exact Nat.ne_of_gt (blk_lt (g := gb103) (o := .cells #[.string a0_0, .int .u64 a0_1, .int .u8 a0_2] 39 (0, 0)) (by (with_reducible repeat (first | refine blk_drewN ?_ _ | refine blk_drew ?_ | refine blk_alloc ?_ _)); exact BK103.out)) : gb104 ≠ gb103)); clear BK103; clear HB; have BK103 := n0_; have HB := n1_; have BK104 := n2_; have GW104 := n3_; have GE104 := n4_; have NB103_104 := n5_; have NB104_103 := n6_; clear n0_ n1_ n2_ n3_ n4_ n5_ n6_; clear hb hbox hg; have hnb41 := NB103_104.out; have hnc41 := NB104_103.out; have hcz42_0 : w40.cell? ⟨gb103, 0, none⟩ = some (.string a0_0) := (blk_cell BK103.out 0).trans rfl; have hcz42_1 : w40.cell? ⟨gb103, 1, none⟩ = some (.int .u64 a0_1) := (blk_cell BK103.out 1).trans rfl; have hcz42_2 : w40.cell? ⟨gb103, 2, none⟩ = some (.int .u8 a0_2) := (blk_cell BK103.out 2).trans rfl; have hfz42_0 := blk_frozen BK103.out 0; have hfz42_1 := blk_frozen BK103.out 1; have hfz42_2 := blk_frozen BK103.out 2; have hcz43_0 : w40.cell? ⟨gb104, 0, none⟩ = some (.string a1_0) := (blk_cell BK104.out 0).trans rfl; have hcz43_1 : w40.cell? ⟨gb104, 1, none⟩ = some (.int .u64 a1_1) := (blk_cell BK104.out 1).trans rfl; have hcz43_2 : w40.cell? ⟨gb104, 2, none⟩ = some (.int .u8 a1_2) := (blk_cell BK104.out 2).trans rfl; have hfz43_0 := blk_frozen BK104.out 0; have hfz43_1 := blk_frozen BK104.out 1; have hfz43_2 := blk_frozen BK104.out 2))
              go_ret
              exact ⟨by first | rfl | (simp [errW_none, errW_some] <;> rfl) | (simp [*, errW_none, errW_some] <;> rfl), by repeat (first | (with_reducible first | exact HB.out | apply below_alloc | apply pw_below_drewN | apply below_drew1 | refine below_set ?_ GE103.out | refine below_set ?_ GE104.out) | exact HB.out)⟩

end Go.Proofs.Ytojemmipkpckbaa.P

end

section
namespace Go.Proofs.Ytojemmipkpckbaa.P
open Go.RowKit Go.Proofs.YtojemmipkpckbaaG Go.Proofs.YtojemmipkpckbaaW.PrintWords Go.Proofs.YtojemmipkpckbaaW.PrintLast Go.Proofs.YtojemmipkpckbaaW.PrintMore
attribute [local go_sem] str_gtr str_geq str_leq max2_int min2_int max_two min_two max_three min_three max_four min_four   -- for this text's walks alone
set_option linter.unusedVariables false
set_option linter.unusedSimpArgs false

def ratlineref03_Rising.l0 : Nat → List (S41) → Int → Option (Bool)
  | 0, _, _ => none
  | k + 1, x0, x3 => if x3 < (x0.length : Int) then (if 0 ≤ (wrap64 (x3 - 1)) then (if (wrap64 (x3 - 1)) < (x0.length : Int) then (if 0 ≤ x3 then ((ratlineref03_Compare.f ((rd_T41 x0 (wrap64 (x3 - 1))).f0.f0) ((rd_T41 x0 (wrap64 (x3 - 1))).f0.f1) ((rd_T41 x0 (wrap64 (x3 - 1))).f0.f2) ((rd_T41 x0 x3).f0.f0) ((rd_T41 x0 x3).f0.f1) ((rd_T41 x0 x3).f0.f2)).bind fun t107 => (if t107 ≥ 0 then (some false) else (ratlineref03_Rising.l0 k x0 (wrap64 (x3 + 1))))) else (none)) else (none)) else (none)) else (some true)
def ratlineref03_Rising.f (k : Nat) (l0 : List (S41)) : Option (Bool) := ratlineref03_Rising.l0 k l0 1
def ratlineref03_Rising.T4 : Bool × List (List Nat × List Nat) := (true, [([], []), ([], []), ([1], [1]), ([0, 2], [0, 2]), ([3], [3]), ([4], [4]), ([], []), ([], []), ([6, 7], [6, 7]), ([8], [8]), ([9], [9]), ([5, 10], [5, 10]), ([11], [11])])
def ratlineref03_Rising.B4 : List Nat := [0, 0, 2, 7, 15, 31, 0, 0, 192, 448, 960, 2047, 4095]
theorem ratlineref03_Rising.tab4 : rtab .any (opsOf Try.f39 4) = ratlineref03_Rising.T4 := by kernel_rfl
theorem ratlineref03_Rising.bits4 : waitsOk ratlineref03_Rising.T4.2 ratlineref03_Rising.B4 = true := by kernel_rfl
set_option maxHeartbeats 8000000 in
set_option maxRecDepth 100000 in
theorem ratlineref03_Rising.calls (k : Nat) (A0 : Option Addr) (c0 : Nat) (l0 : List (S41)) (r : Bool) (w : World) (hr0 : Kd.C k41 w A0 l0.length l0) (hc0 : l0.length ≤ c0) (h : ratlineref03_Rising.f k l0 = some r) :
    Calls Try.prog 39 #[.slice A0 l0.length c0] w fun e w' => e = .returned (.bool r) ∧ Below w.heap.size w w' := by
  have hu39 := Try.underlying39
  have HR0 := Aside0.mk hr0
  have HC0 := Aside0.mk hc0
  clear hr0 hc0
  have HB := Aside0.mk (Below.refl w.heap.size w)
  have H : (ratlineref03_Rising.l0 k l0 1) = some r := h
  clear h
  have H' := Aside0.mk H
  clear H
  go_enter Try.func39, Try.ntmps39
  go_wp2
  go_loopg [3] k (fun kq v3 w' => ∃ (x3_1 : Int), v3 = .int .i64 x3_1 ∧ Aside0 (ratlineref03_Rising.l0 kq l0 x3_1 = some r) ∧ Aside0 (kq ≤ k) ∧ Aside0 (Below w.heap.size w w'))
  case atStart => exact ⟨(1), (by first | rfl | (simp; done) | (simp [*]; done)), H', ⟨Nat.le_refl _⟩, ⟨by repeat (first | (with_reducible first | exact HB.out | apply below_alloc | apply pw_below_drewN | apply below_drew1) | exact HB.out)⟩⟩
  case round =>
    clear H'
    obtain ⟨x3_1, rfl, HA, HK1, HB⟩ := hrel
    cases gk with
    | zero => exact absurd HA.out (by simp [ratlineref03_Rising.l0])
    | succ k1 =>
      have H := HA.out
      clear HA
      simp only [ratlineref03_Rising.l0] at H
      by_cases c2 : x3_1 < (l0.length : Int)
      · rw [if_pos c2] at H
        have c2b0 : decide (x3_1 < (l0.length : Int)) = true := decide_eq_true c2
        clear c2
        obtain ⟨ji3, hji3⟩ : ∃ j_ : Int, (wrap64 (x3_1 - 1)) = j_ := ⟨_, rfl⟩
        replace H : (if 0 ≤ (ji3) then (if (ji3) < (l0.length : Int) then (if 0 ≤ x3_1 then ((ratlineref03_Compare.f ((rd_T41 l0 (ji3)).f0.f0) ((rd_T41 l0 (ji3)).f0.f1) ((rd_T41 l0 (ji3)).f0.f2) ((rd_T41 l0 x3_1).f0.f0) ((rd_T41 l0 x3_1).f0.f1) ((rd_T41 l0 x3_1).f0.f2)).bind fun t107 => (if t107 ≥ 0 then (some false) else (ratlineref03_Rising.l0 k1 l0 (wrap64 (x3_1 + 1))))) else (none)) else (none)) else (none)) = some r := by first | (rw [hji3] at H; exact H) | (simp only [hji3] at H ⊢; exact H)
        have hji3w : (IntKind.i64.wrap (x3_1 - 1)) = ji3 := (i64_w _).trans hji3
        by_cases c4 : 0 ≤ (ji3)
        · rw [if_pos c4] at H
          have c4b0 : decide (0 ≤ (ji3)) = true := decide_eq_true c4
          clear c4
          by_cases c5 : (ji3) < (l0.length : Int)
          · rw [if_pos c5] at H
            have c5b0 : decide ((ji3) < (l0.length : Int)) = true := decide_eq_true c5
            clear c5
            by_cases c6 : 0 ≤ x3_1
            · rw [if_pos c6] at H
              have c6b0 : decide (0 ≤ x3_1) = true := decide_eq_true c6
              clear c6
              replace H := Option.bind_eq_some_iff.mp H
              obtain ⟨t107, A70, H⟩ := H
              replace H : (if t107 ≥ 0 then (some false) else (ratlineref03_Rising.l0 k1 l0 (wrap64 (x3_1 + 1)))) = some r := H
              have A7 := Aside0.mk A70
              clear A70
              by_cases c8 : t107 ≥ 0
              · rw [if_pos c8] at H
                have c8b0 : decide (0 ≤ t107) = true := decide_eq_true c8
                clear c8
                obtain rfl := Option.some.inj H
                try go_wp2
                have n0_ := Aside0.mk (below_drew1 HB.out)
                clear HB
                have HB := n0_
                clear n0_
                have p105 : 0 ≤ ((ji3) : Int) := of_decide_eq_true (by first | (with_reducible assumption) | assumption)
                have q105 : (ji3) < (l0.length : Int) := of_decide_eq_true (by first | (with_reducible assumption) | assumption)
                obtain ⟨ad105, e105, hx105_0, hx105_1, hx105_2, hx105_3⟩ := at_T41 HR0.out (ji3) p105 q105
                have hw105_3 := hx105_3
                have hw105_2 := hx105_2
                have hw105_1 := hx105_1
                have hw105_0 := hx105_0
                cases e105
                replace hx105_0 := (HB.out.cell (World.block_lt_of_cell? w _ hx105_0)).trans hx105_0
                replace hx105_1 := (HB.out.cell (World.block_lt_of_cell? w _ hx105_1)).trans hx105_1
                replace hx105_2 := (HB.out.cell (World.block_lt_of_cell? w _ hx105_2)).trans hx105_2
                replace hx105_3 := (HB.out.cell (World.block_lt_of_cell? w _ hx105_3)).trans hx105_3
                replace p105 := eq_true p105
                replace q105 := eq_true q105
                have p106 : 0 ≤ (x3_1 : Int) := of_decide_eq_true (by first | (with_reducible assumption) | assumption)
                have q106 : x3_1 < (l0.length : Int) := of_decide_eq_true (by first | (with_reducible assumption) | assumption)
                obtain ⟨ad106, e106, hx106_0, hx106_1, hx106_2, hx106_3⟩ := at_T41 HR0.out x3_1 p106 q106
                have hw106_3 := hx106_3
                have hw106_2 := hx106_2
                have hw106_1 := hx106_1
                have hw106_0 := hx106_0
                obtain rfl : ad105 = ad106 := (by injection e106)
                replace hx106_0 := (HB.out.cell (World.block_lt_of_cell? w _ hx106_0)).trans hx106_0
                replace hx106_1 := (HB.out.cell (World.block_lt_of_cell? w _ hx106_1)).trans hx106_1
                replace hx106_2 := (HB.out.cell (World.block_lt_of_cell? w _ hx106_2)).trans hx106_2
                replace hx106_3 := (HB.out.cell (World.block_lt_of_cell? w _ hx106_3)).trans hx106_3
                replace p106 := eq_true p106
                replace q106 := eq_true q106
                refine start_ (n := 13) (S := fun w' => w'.cell? (ad105.add (((ji3)).toNat * 4)) = some (.string ((rd_T41 l0 (ji3)).f0.f0)) ∧ w'.cell? ⟨(ad105.add (((ji3)).toNat * 4)).block, (ad105.add (((ji3)).toNat * 4)).off + 1, none⟩ = some (.int .u64 ((rd_T41 l0 (ji3)).f0.f1)) ∧ w'.cell? ⟨(ad105.add (((ji3)).toNat * 4)).block, (ad105.add (((ji3)).toNat * 4)).off + 2, none⟩ = some (.int .u8 ((rd_T41 l0 (ji3)).f0.f2)) ∧ w'.cell? ⟨(ad105.add (((ji3)).toNat * 4)).block, (ad105.add (((ji3)).toNat * 4)).off + 3, none⟩ = some (.string ((rd_T41 l0 (ji3)).f1)) ∧ w'.cell? (ad105.add ((x3_1).toNat * 4)) = some (.string ((rd_T41 l0 x3_1).f0.f0)) ∧ w'.cell? ⟨(ad105.add ((x3_1).toNat * 4)).block, (ad105.add ((x3_1).toNat * 4)).off + 1, none⟩ = some (.int .u64 ((rd_T41 l0 x3_1).f0.f1)) ∧ w'.cell? ⟨(ad105.add ((x3_1).toNat * 4)).block, (ad105.add ((x3_1).toNat * 4)).off + 2, none⟩ = some (.int .u8 ((rd_T41 l0 x3_1).f0.f2)) ∧ w'.cell? ⟨(ad105.add ((x3_1).toNat * 4)).block, (ad105.add ((x3_1).toNat * 4)).off + 3, none⟩ = some (.string ((rd_T41 l0 x3_1).f1))) (ds := []) #[false, false, false, false, false, false, false, false, false, false, false, false, false] (by kernel_rfl) rfl rfl ⟨((HB.out.cell (World.block_lt_of_cell? w _ hw105_0)).trans hw105_0), ((HB.out.cell (World.block_lt_of_cell? w _ hw105_1)).trans hw105_1), ((HB.out.cell (World.block_lt_of_cell? w _ hw105_2)).trans hw105_2), ((HB.out.cell (World.block_lt_of_cell? w _ hw105_3)).trans hw105_3), ((HB.out.cell (World.block_lt_of_cell? w _ hw106_0)).trans hw106_0), ((HB.out.cell (World.block_lt_of_cell? w _ hw106_1)).trans hw106_1), ((HB.out.cell (World.block_lt_of_cell? w _ hw106_2)).trans hw106_2), ((HB.out.cell (World.block_lt_of_cell? w _ hw106_3)).trans hw106_3)⟩ (fun hHeld => ?_); refine with_tabW ratlineref03_Rising.tab4 ratlineref03_Rising.bits4 (fun HT_ HW_ => ?_)
                generalize wr.drew = w9 at HB hx105_0 hx105_1 hx105_2 hx105_3 hx106_0 hx106_1 hx106_2 hx106_3 hHeld ⊢
                refine pure_ (i := 0) (N := some 10) (v := ?_) (a' := ?_) #[true, false, false, false, false, false, false, false, false, false, false, false, false] rfl rfl (any_of HT_.out (by kernel_rfl)) (fun _ _ _ h => h) (Or.inl ⟨by rfl, ?_⟩) ?_ ?_
                rotate_left
                · intro w'
                  go_simp
                  with_reducible rfl
                rotate_left
                · simp only [Act.put, List.setIfInBounds_toArray, List.set_cons_zero, List.set_cons_succ, i64_w, i32_w]
                  rfl
                refine pure_ (i := 1) (N := some 11) (v := ?_) (a' := ?_) #[true, true, false, false, false, false, false, false, false, false, false, false, false] rfl rfl (any_of HT_.out (by kernel_rfl)) (fun _ _ _ h => h) (Or.inl ⟨by rfl, ?_⟩) ?_ ?_
                rotate_left
                · intro w'
                  go_simp
                  with_reducible rfl
                rotate_left
                · simp only [Act.put, List.setIfInBounds_toArray, List.set_cons_zero, List.set_cons_succ, i64_w, i32_w]
                  rfl
                refine pure_ (i := 2) (N := some 12) (v := ?_) (a' := ?_) #[true, true, true, false, false, false, false, false, false, false, false, false, false] rfl rfl (any_of HT_.out (by kernel_rfl)) (fun _ _ _ h => h) (Or.inl ⟨by rfl, ?_⟩) ?_ ?_
                rotate_left
                · intro w'
                  go_simp
                  with_reducible rfl
                rotate_left
                · simp only [Act.put, List.setIfInBounds_toArray, List.set_cons_zero, List.set_cons_succ, i64_w, i32_w]
                  rfl
                refine pure_ (i := 3) (N := some 13) (v := ?_) (a' := ?_) #[true, true, true, true, false, false, false, false, false, false, false, false, false] rfl rfl (any_of HT_.out (by kernel_rfl)) (fun _ _ _ h => h) (Or.inl ⟨by rfl, ?_⟩) ?_ ?_
                rotate_left
                · intro w'
                  go_simp
                  with_reducible rfl
                rotate_left
                · simp only [Act.put, List.setIfInBounds_toArray, List.set_cons_zero, List.set_cons_succ, i64_w, i32_w]
                  rfl
                refine pure_ (i := 4) (N := some 14) (v := ?_) (a' := ?_) #[true, true, true, true, true, false, false, false, false, false, false, false, false] rfl rfl (any_of HT_.out (by kernel_rfl)) (fun _ _ _ h => h) (Or.inl ⟨by rfl, ?_⟩) ?_ ?_
                rotate_left
                · intro w'
                  go_simp
                  with_reducible rfl
                rotate_left
                · simp only [Act.put, List.setIfInBounds_toArray, List.set_cons_zero, List.set_cons_succ, i64_w, i32_w]
                  rfl
                refine pure_ (i := 6) (N := some 16) (v := ?_) (a' := ?_) #[true, true, true, true, true, false, true, false, false, false, false, false, false] rfl rfl (any_of HT_.out (by kernel_rfl)) (fun _ _ _ h => h) (Or.inl ⟨by rfl, ?_⟩) ?_ ?_
                rotate_left
                · intro w'
                  go_simp
                  with_reducible rfl
                rotate_left
                · simp only [Act.put, List.setIfInBounds_toArray, List.set_cons_zero, List.set_cons_succ, i64_w, i32_w]
                  rfl
                refine pure_ (i := 7) (N := some 17) (v := ?_) (a' := ?_) #[true, true, true, true, true, false, true, true, false, false, false, false, false] rfl rfl (any_of HT_.out (by kernel_rfl)) (fun _ _ _ h => h) (Or.inl ⟨by rfl, ?_⟩) ?_ ?_
                rotate_left
                · intro w'
                  go_simp
                  with_reducible rfl
                rotate_left
                · simp only [Act.put, List.setIfInBounds_toArray, List.set_cons_zero, List.set_cons_succ, i64_w, i32_w]
                  rfl
                refine pure_ (i := 8) (N := some 18) (v := ?_) (a' := ?_) #[true, true, true, true, true, false, true, true, true, false, false, false, false] rfl rfl (any_of HT_.out (by kernel_rfl)) (fun _ _ _ h => h) (Or.inl ⟨by rfl, ?_⟩) ?_ ?_
                rotate_left
                · intro w'
                  go_simp
                  with_reducible rfl
                rotate_left
                · simp only [Act.put, List.setIfInBounds_toArray, List.set_cons_zero, List.set_cons_succ, i64_w, i32_w]
                  rfl
                refine pure_ (i := 9) (N := some 19) (v := ?_) (a' := ?_) #[true, true, true, true, true, false, true, true, true, true, false, false, false] rfl rfl (any_of HT_.out (by kernel_rfl)) (fun _ _ _ h => h) (Or.inl ⟨by rfl, ?_⟩) ?_ ?_
                rotate_left
                · intro w'
                  go_simp
                  with_reducible rfl
                rotate_left
                · simp only [Act.put, List.setIfInBounds_toArray, List.set_cons_zero, List.set_cons_succ, i64_w, i32_w]
                  rfl
                refine take_ (i := 5) (N := some 15) (v := ?_) (a' := ?_) #[true, true, true, true, true, true, true, true, true, true, false, false, false] rfl rfl (take_ofW HT_.out HW_.out (by kernel_rfl)) (fun _ _ _ h => h) (Or.inl ⟨by rfl, ?_⟩) hHeld ?_ ?_
                rotate_left
                · rintro w' ⟨s0, s1, s2, s3, s4, s5, s6, s7⟩
                  go_simp
                  with_reducible rfl
                rotate_left
                · simp only [Act.put, List.setIfInBounds_toArray, List.set_cons_zero, List.set_cons_succ, i64_w, i32_w]
                  rfl
                refine take_ (i := 10) (N := some 20) (v := ?_) (a' := ?_) #[true, true, true, true, true, true, true, true, true, true, true, false, false] rfl rfl (take_ofW HT_.out HW_.out (by kernel_rfl)) (fun _ _ _ h => h) (Or.inl ⟨by rfl, ?_⟩) hHeld ?_ ?_
                rotate_left
                · rintro w' ⟨s0, s1, s2, s3, s4, s5, s6, s7⟩
                  go_simp
                  with_reducible rfl
                rotate_left
                · simp only [Act.put, List.setIfInBounds_toArray, List.set_cons_zero, List.set_cons_succ, i64_w, i32_w]
                  rfl
                refine one_ (i := 11) (N := some 21) #[true, true, true, true, true, true, true, true, true, true, true, true, false] rfl rfl (one_of HT_.out (by kernel_rfl)) (by decide) (fun K hK => ?_)
                refine goes_ Try.func38 (by kernel_rfl) rfl #[.agg #[.string ((rd_T41 l0 (ji3)).f0.f0), .int .u64 ((rd_T41 l0 (ji3)).f0.f1), .int .u8 ((rd_T41 l0 (ji3)).f0.f2)], .agg #[.string ((rd_T41 l0 x3_1).f0.f0), .int .u64 ((rd_T41 l0 x3_1).f0.f1), .int .u8 ((rd_T41 l0 x3_1).f0.f2)]] (by rfl) rfl rfl (by (try simp only [List.map_toArray, List.map_cons, List.map_nil]); first | done | (simp only [hji3]; rfl) | rfl | (simp only [List.length_drop, List.length_take]; rfl)) ?_
                with_reducible refine (ratlineref03_Compare.calls ((rd_T41 l0 (ji3)).f0.f0) ((rd_T41 l0 (ji3)).f0.f1) ((rd_T41 l0 (ji3)).f0.f2) ((rd_T41 l0 x3_1).f0.f0) ((rd_T41 l0 x3_1).f0.f1) ((rd_T41 l0 x3_1).f0.f2) t107 _ A7.out).mono ?_
                rintro e w10 ⟨rfl, hb⟩
                refine ⟨_, rfl, ?_⟩
                have n0_ := Aside0.mk (below_step (by repeat (first | (with_reducible first | exact HB.out | apply below_alloc | apply pw_below_drewN | apply below_drew1) | exact HB.out)) hb)
                clear HB
                have HB := n0_
                clear n0_
                (try clear hb)
                (try clear hb2)
                (try clear hk)
                (try clear hi)
                refine hK.out _ _ ⟨((HB.out.cell (World.block_lt_of_cell? w _ hw105_0)).trans hw105_0), ((HB.out.cell (World.block_lt_of_cell? w _ hw105_1)).trans hw105_1), ((HB.out.cell (World.block_lt_of_cell? w _ hw105_2)).trans hw105_2), ((HB.out.cell (World.block_lt_of_cell? w _ hw105_3)).trans hw105_3), ((HB.out.cell (World.block_lt_of_cell? w _ hw106_0)).trans hw106_0), ((HB.out.cell (World.block_lt_of_cell? w _ hw106_1)).trans hw106_1), ((HB.out.cell (World.block_lt_of_cell? w _ hw106_2)).trans hw106_2), ((HB.out.cell (World.block_lt_of_cell? w _ hw106_3)).trans hw106_3)⟩ (fun hHeld => ?_)
                clear hK K
                refine norm_ (a' := ?_) ?_ ?_
                rotate_left
                · show Act.put _ (some 21) _ = _
                  simp only [Act.put, List.setIfInBounds_toArray, List.set_cons_zero, List.set_cons_succ, i64_w, i32_w]
                  rfl
                refine pure_ (i := 12) (N := some 22) (v := ?_) (a' := ?_) #[true, true, true, true, true, true, true, true, true, true, true, true, true] rfl rfl (any_of HT_.out (by kernel_rfl)) (fun _ _ _ h => h) (Or.inl ⟨by rfl, ?_⟩) ?_ ?_
                rotate_left
                · intro w'
                  go_simp
                  with_reducible rfl
                rotate_left
                · simp only [Act.put, List.setIfInBounds_toArray, List.set_cons_zero, List.set_cons_succ, i64_w, i32_w]
                  rfl
                refine done_ (done_of HT_.out (by kernel_rfl)) ?_
                try go_wp2
                go_ret
                exact ⟨by first | rfl | (simp [errW_none, errW_some] <;> rfl) | (simp only [← hji3]; first | rfl | (simp [errW_none, errW_some] <;> rfl)) | (simp [*, errW_none, errW_some] <;> rfl), by repeat (first | (with_reducible first | exact HB.out | apply below_alloc | apply pw_below_drewN | apply below_drew1) | exact HB.out)⟩
              · rw [if_neg c8] at H
                have c8b0 : decide (0 ≤ t107) = false := decide_eq_false c8
                clear c8
                have H' := Aside0.mk H
                clear H
                try go_wp2
                have n0_ := Aside0.mk (below_drew1 HB.out)
                clear HB
                have HB := n0_
                clear n0_
                have p105 : 0 ≤ ((ji3) : Int) := of_decide_eq_true (by first | (with_reducible assumption) | assumption)
                have q105 : (ji3) < (l0.length : Int) := of_decide_eq_true (by first | (with_reducible assumption) | assumption)
                obtain ⟨ad105, e105, hx105_0, hx105_1, hx105_2, hx105_3⟩ := at_T41 HR0.out (ji3) p105 q105
                have hw105_3 := hx105_3
                have hw105_2 := hx105_2
                have hw105_1 := hx105_1
                have hw105_0 := hx105_0
                cases e105
                replace hx105_0 := (HB.out.cell (World.block_lt_of_cell? w _ hx105_0)).trans hx105_0
                replace hx105_1 := (HB.out.cell (World.block_lt_of_cell? w _ hx105_1)).trans hx105_1
                replace hx105_2 := (HB.out.cell (World.block_lt_of_cell? w _ hx105_2)).trans hx105_2
                replace hx105_3 := (HB.out.cell (World.block_lt_of_cell? w _ hx105_3)).trans hx105_3
                replace p105 := eq_true p105
                replace q105 := eq_true q105
                have p106 : 0 ≤ (x3_1 : Int) := of_decide_eq_true (by first | (with_reducible assumption) | assumption)
                have q106 : x3_1 < (l0.length : Int) := of_decide_eq_true (by first | (with_reducible assumption) | assumption)
                obtain ⟨ad106, e106, hx106_0, hx106_1, hx106_2, hx106_3⟩ := at_T41 HR0.out x3_1 p106 q106
                have hw106_3 := hx106_3
                have hw106_2 := hx106_2
                have hw106_1 := hx106_1
                have hw106_0 := hx106_0
                obtain rfl : ad105 = ad106 := (by injection e106)
                replace hx106_0 := (HB.out.cell (World.block_lt_of_cell? w _ hx106_0)).trans hx106_0
                replace hx106_1 := (HB.out.cell (World.block_lt_of_cell? w _ hx106_1)).trans hx106_1
                replace hx106_2 := (HB.out.cell (World.block_lt_of_cell? w _ hx106_2)).trans hx106_2
                replace hx106_3 := (HB.out.cell (World.block_lt_of_cell? w _ hx106_3)).trans hx106_3
                replace p106 := eq_true p106
                replace q106 := eq_true q106
                refine start_ (n := 13) (S := fun w' => w'.cell? (ad105.add (((ji3)).toNat * 4)) = some (.string ((rd_T41 l0 (ji3)).f0.f0)) ∧ w'.cell? ⟨(ad105.add (((ji3)).toNat * 4)).block, (ad105.add (((ji3)).toNat * 4)).off + 1, none⟩ = some (.int .u64 ((rd_T41 l0 (ji3)).f0.f1)) ∧ w'.cell? ⟨(ad105.add (((ji3)).toNat * 4)).block, (ad105.add (((ji3)).toNat * 4)).off + 2, none⟩ = some (.int .u8 ((rd_T41 l0 (ji3)).f0.f2)) ∧ w'.cell? ⟨(ad105.add (((ji3)).toNat * 4)).block, (ad105.add (((ji3)).toNat * 4)).off + 3, none⟩ = some (.string ((rd_T41 l0 (ji3)).f1)) ∧ w'.cell? (ad105.add ((x3_1).toNat * 4)) = some (.string ((rd_T41 l0 x3_1).f0.f0)) ∧ w'.cell? ⟨(ad105.add ((x3_1).toNat * 4)).block, (ad105.add ((x3_1).toNat * 4)).off + 1, none⟩ = some (.int .u64 ((rd_T41 l0 x3_1).f0.f1)) ∧ w'.cell? ⟨(ad105.add ((x3_1).toNat * 4)).block, (ad105.add ((x3_1).toNat * 4)).off + 2, none⟩ = some (.int .u8 ((rd_T41 l0 x3_1).f0.f2)) ∧ w'.cell? ⟨(ad105.add ((x3_1).toNat * 4)).block, (ad105.add ((x3_1).toNat * 4)).off + 3, none⟩ = some (.string ((rd_T41 l0 x3_1).f1))) (ds := []) #[false, false, false, false, false, false, false, false, false, false, false, false, false] (by kernel_rfl) rfl rfl ⟨((HB.out.cell (World.block_lt_of_cell? w _ hw105_0)).trans hw105_0), ((HB.out.cell (World.block_lt_of_cell? w _ hw105_1)).trans hw105_1), ((HB.out.cell (World.block_lt_of_cell? w _ hw105_2)).trans hw105_2), ((HB.out.cell (World.block_lt_of_cell? w _ hw105_3)).trans hw105_3), ((HB.out.cell (World.block_lt_of_cell? w _ hw106_0)).trans hw106_0), ((HB.out.cell (World.block_lt_of_cell? w _ hw106_1)).trans hw106_1), ((HB.out.cell (World.block_lt_of_cell? w _ hw106_2)).trans hw106_2), ((HB.out.cell (World.block_lt_of_cell? w _ hw106_3)).trans hw106_3)⟩ (fun hHeld => ?_); refine with_tabW ratlineref03_Rising.tab4 ratlineref03_Rising.bits4 (fun HT_ HW_ => ?_)
                generalize wr.drew = w11 at HB hx105_0 hx105_1 hx105_2 hx105_3 hx106_0 hx106_1 hx106_2 hx106_3 hHeld ⊢
                refine pure_ (i := 0) (N := some 10) (v := ?_) (a' := ?_) #[true, false, false, false, false, false, false, false, false, false, false, false, false] rfl rfl (any_of HT_.out (by kernel_rfl)) (fun _ _ _ h => h) (Or.inl ⟨by rfl, ?_⟩) ?_ ?_
                rotate_left
                · intro w'
                  go_simp
                  with_reducible rfl
                rotate_left
                · simp only [Act.put, List.setIfInBounds_toArray, List.set_cons_zero, List.set_cons_succ, i64_w, i32_w]
                  rfl
                refine pure_ (i := 1) (N := some 11) (v := ?_) (a' := ?_) #[true, true, false, false, false, false, false, false, false, false, false, false, false] rfl rfl (any_of HT_.out (by kernel_rfl)) (fun _ _ _ h => h) (Or.inl ⟨by rfl, ?_⟩) ?_ ?_
                rotate_left
                · intro w'
                  go_simp
                  with_reducible rfl
                rotate_left
                · simp only [Act.put, List.setIfInBounds_toArray, List.set_cons_zero, List.set_cons_succ, i64_w, i32_w]
                  rfl
                refine pure_ (i := 2) (N := some 12) (v := ?_) (a' := ?_) #[true, true, true, false, false, false, false, false, false, false, false, false, false] rfl rfl (any_of HT_.out (by kernel_rfl)) (fun _ _ _ h => h) (Or.inl ⟨by rfl, ?_⟩) ?_ ?_
                rotate_left
                · intro w'
                  go_simp
                  with_reducible rfl
                rotate_left
                · simp only [Act.put, List.setIfInBounds_toArray, List.set_cons_zero, List.set_cons_succ, i64_w, i32_w]
                  rfl
                refine pure_ (i := 3) (N := some 13) (v := ?_) (a' := ?_) #[true, true, true, true, false, false, false, false, false, false, false, false, false] rfl rfl (any_of HT_.out (by kernel_rfl)) (fun _ _ _ h => h) (Or.inl ⟨by rfl, ?_⟩) ?_ ?_
                rotate_left
                · intro w'
                  go_simp
                  with_reducible rfl
                rotate_left
                · simp only [Act.put, List.setIfInBounds_toArray, List.set_cons_zero, List.set_cons_succ, i64_w, i32_w]
                  rfl
                refine pure_ (i := 4) (N := some 14) (v := ?_) (a' := ?_) #[true, true, true, true, true, false, false, false, false, false, false, false, false] rfl rfl (any_of HT_.out (by kernel_rfl)) (fun _ _ _ h => h) (Or.inl ⟨by rfl, ?_⟩) ?_ ?_
                rotate_left
                · intro w'
                  go_simp
                  with_reducible rfl
                rotate_left
                · simp only [Act.put, List.setIfInBounds_toArray, List.set_cons_zero, List.set_cons_succ, i64_w, i32_w]
                  rfl
                refine pure_ (i := 6) (N := some 16) (v := ?_) (a' := ?_) #[true, true, true, true, true, false, true, false, false, false, false, false, false] rfl rfl (any_of HT_.out (by kernel_rfl)) (fun _ _ _ h => h) (Or.inl ⟨by rfl, ?_⟩) ?_ ?_
                rotate_left
                · intro w'
                  go_simp
                  with_reducible rfl
                rotate_left
                · simp only [Act.put, List.setIfInBounds_toArray, List.set_cons_zero, List.set_cons_succ, i64_w, i32_w]
                  rfl
                refine pure_ (i := 7) (N := some 17) (v := ?_) (a' := ?_) #[true, true, true, true, true, false, true, true, false, false, false, false, false] rfl rfl (any_of HT_.out (by kernel_rfl)) (fun _ _ _ h => h) (Or.inl ⟨by rfl, ?_⟩) ?_ ?_
                rotate_left
                · intro w'
                  go_simp
                  with_reducible rfl
                rotate_left
                · simp only [Act.put, List.setIfInBounds_toArray, List.set_cons_zero, List.set_cons_succ, i64_w, i32_w]
                  rfl
                refine pure_ (i := 8) (N := some 18) (v := ?_) (a' := ?_) #[true, true, true, true, true, false, true, true, true, false, false, false, false] rfl rfl (any_of HT_.out (by kernel_rfl)) (fun _ _ _ h => h) (Or.inl ⟨by rfl, ?_⟩) ?_ ?_
                rotate_left
                · intro w'
                  go_simp
                  with_reducible rfl
                rotate_left
                · simp only [Act.put, List.setIfInBounds_toArray, List.set_cons_zero, List.set_cons_succ, i64_w, i32_w]
                  rfl
                refine pure_ (i := 9) (N := some 19) (v := ?_) (a' := ?_) #[true, true, true, true, true, false, true, true, true, true, false, false, false] rfl rfl (any_of HT_.out (by kernel_rfl)) (fun _ _ _ h => h) (Or.inl ⟨by rfl, ?_⟩) ?_ ?_
                rotate_left
                · intro w'
                  go_simp
                  with_reducible rfl
                rotate_left
                · simp only [Act.put, List.setIfInBounds_toArray, List.set_cons_zero, List.set_cons_succ, i64_w, i32_w]
                  rfl
                refine take_ (i := 5) (N := some 15) (v := ?_) (a' := ?_) #[true, true, true, true, true, true, true, true, true, true, false, false, false] rfl rfl (take_ofW HT_.out HW_.out (by kernel_rfl)) (fun _ _ _ h => h) (Or.inl ⟨by rfl, ?_⟩) hHeld ?_ ?_
                rotate_left
                · rintro w' ⟨s0, s1, s2, s3, s4, s5, s6, s7⟩
                  go_simp
                  with_reducible rfl
                rotate_left
                · simp only [Act.put, List.setIfInBounds_toArray, List.set_cons_zero, List.set_cons_succ, i64_w, i32_w]
                  rfl
                refine take_ (i := 10) (N := some 20) (v := ?_) (a' := ?_) #[true, true, true, true, true, true, true, true, true, true, true, false, false] rfl rfl (take_ofW HT_.out HW_.out (by kernel_rfl)) (fun _ _ _ h => h) (Or.inl ⟨by rfl, ?_⟩) hHeld ?_ ?_
                rotate_left
                · rintro w' ⟨s0, s1, s2, s3, s4, s5, s6, s7⟩
                  go_simp
                  with_reducible rfl
                rotate_left
                · simp only [Act.put, List.setIfInBounds_toArray, List.set_cons_zero, List.set_cons_succ, i64_w, i32_w]
                  rfl
                refine one_ (i := 11) (N := some 21) #[true, true, true, true, true, true, true, true, true, true, true, true, false] rfl rfl (one_of HT_.out (by kernel_rfl)) (by decide) (fun K hK => ?_)
                refine goes_ Try.func38 (by kernel_rfl) rfl #[.agg #[.string ((rd_T41 l0 (ji3)).f0.f0), .int .u64 ((rd_T41 l0 (ji3)).f0.f1), .int .u8 ((rd_T41 l0 (ji3)).f0.f2)], .agg #[.string ((rd_T41 l0 x3_1).f0.f0), .int .u64 ((rd_T41 l0 x3_1).f0.f1), .int .u8 ((rd_T41 l0 x3_1).f0.f2)]] (by rfl) rfl rfl (by (try simp only [List.map_toArray, List.map_cons, List.map_nil]); first | done | (simp only [hji3]; rfl) | rfl | (simp only [List.length_drop, List.length_take]; rfl)) ?_
                with_reducible refine (ratlineref03_Compare.calls ((rd_T41 l0 (ji3)).f0.f0) ((rd_T41 l0 (ji3)).f0.f1) ((rd_T41 l0 (ji3)).f0.f2) ((rd_T41 l0 x3_1).f0.f0) ((rd_T41 l0 x3_1).f0.f1) ((rd_T41 l0 x3_1).f0.f2) t107 _ A7.out).mono ?_
                rintro e w12 ⟨rfl, hb⟩
                refine ⟨_, rfl, ?_⟩
                have n0_ := Aside0.mk (below_step (by repeat (first | (with_reducible first | exact HB.out | apply below_alloc | apply pw_below_drewN | apply below_drew1) | exact HB.out)) hb)
                clear HB
                have HB := n0_
                clear n0_
                (try clear hb)
                (try clear hb2)
                (try clear hk)
                (try clear hi)
                refine hK.out _ _ ⟨((HB.out.cell (World.block_lt_of_cell? w _ hw105_0)).trans hw105_0), ((HB.out.cell (World.block_lt_of_cell? w _ hw105_1)).trans hw105_1), ((HB.out.cell (World.block_lt_of_cell? w _ hw105_2)).trans hw105_2), ((HB.out.cell (World.block_lt_of_cell? w _ hw105_3)).trans hw105_3), ((HB.out.cell (World.block_lt_of_cell? w _ hw106_0)).trans hw106_0), ((HB.out.cell (World.block_lt_of_cell? w _ hw106_1)).trans hw106_1), ((HB.out.cell (World.block_lt_of_cell? w _ hw106_2)).trans hw106_2), ((HB.out.cell (World.block_lt_of_cell? w _ hw106_3)).trans hw106_3)⟩ (fun hHeld => ?_)
                clear hK K
                refine norm_ (a' := ?_) ?_ ?_
                rotate_left
                · show Act.put _ (some 21) _ = _
                  simp only [Act.put, List.setIfInBounds_toArray, List.set_cons_zero, List.set_cons_succ, i64_w, i32_w]
                  rfl
                refine pure_ (i := 12) (N := some 22) (v := ?_) (a' := ?_) #[true, true, true, true, true, true, true, true, true, true, true, true, true] rfl rfl (any_of HT_.out (by kernel_rfl)) (fun _ _ _ h => h) (Or.inl ⟨by rfl, ?_⟩) ?_ ?_
                rotate_left
                · intro w'
                  go_simp
                  with_reducible rfl
                rotate_left
                · simp only [Act.put, List.setIfInBounds_toArray, List.set_cons_zero, List.set_cons_succ, i64_w, i32_w]
                  rfl
                refine done_ (done_of HT_.out (by kernel_rfl)) ?_
                try go_wp2
                go_roundg k1
                case measure => have := HK1.out; omega
                case rel => exact ⟨(wrap64 (x3_1 + 1)), (by first | rfl | (simp; done) | (simp [*]; done)), H', ⟨by have := HK1.out; omega⟩, ⟨by repeat (first | (with_reducible first | exact HB.out | apply below_alloc | apply pw_below_drewN | apply below_drew1) | exact HB.out)⟩⟩
            · rw [if_neg c6] at H
              exact absurd H (by simp)
          · rw [if_neg c5] at H
            exact absurd H (by simp)
        · rw [if_neg c4] at H
          exact absurd H (by simp)
      · rw [if_neg c2] at H
        have c2b0 : decide (x3_1 < (l0.length : Int)) = false := decide_eq_false c2
        clear c2
        obtain rfl := Option.some.inj H
        go_wp2
        go_ret
        exact ⟨by first | rfl | (simp [errW_none, errW_some] <;> rfl) | (simp [*, errW_none, errW_some] <;> rfl), by repeat (first | (with_reducible first | exact HB.out | apply below_alloc | apply pw_below_drewN | apply below_drew1) | exact HB.out)⟩

end Go.Proofs.Ytojemmipkpckbaa.P

end

section
namespace Go.Proofs.Ytojemmipkpckbaa.P
open Go.RowKit Go.Proofs.YtojemmipkpckbaaG Go.Proofs.YtojemmipkpckbaaW.PrintWords Go.Proofs.YtojemmipkpckbaaW.PrintLast Go.Proofs.YtojemmipkpckbaaW.PrintMore
attribute [local go_sem] str_gtr str_geq str_leq max2_int min2_int max_two min_two max_three min_three max_four min_four   -- for this text's walks alone
set_option linter.unusedVariables false
set_option linter.unusedSimpArgs false

def ratlinelaw03_Few.l0 : Nat → List (S41) → Int → List (S41) → Int → Int → Option (Bool)
  | 0, _, _, _, _, _ => none
  | k + 1, x0, x1, x7, x8, x9 => if x9 < x8 then (if 0 ≤ x9 then (if x9 < (x7.length : Int) then (if (((rd_T41 x7 x9).f0.f0).size : Int) > 70 then (some false) else (if (((rd_T41 x7 x9).f1).size : Int) > 300 then (some false) else (ratlinelaw03_Few.l0 k x0 x1 x7 x8 (wrap64 (x9 + 1))))) else (none)) else (none)) else (some (decide ((x0.length : Int) ≤ x1)))
def ratlinelaw03_Few.f (k : Nat) (l0 : List (S41)) (a1 : Int) : Option (Bool) := ratlinelaw03_Few.l0 k l0 a1 l0 (l0.length : Int) 0
set_option maxHeartbeats 8000000 in
set_option maxRecDepth 100000 in
theorem ratlinelaw03_Few.calls (k : Nat) (A0 : Option Addr) (c0 : Nat) (l0 : List (S41)) (a1 : Int) (r : Bool) (w : World) (hr0 : Kd.C k41 w A0 l0.length l0) (hc0 : l0.length ≤ c0) (h : ratlinelaw03_Few.f k l0 a1 = some r) :
    Calls Try.prog 25 #[.slice A0 l0.length c0, .int .i64 a1] w fun e w' => e = .returned (.bool r) ∧ Below w.heap.size w w' := by
  have hu41 := Try.underlying41
  have HR0 := Aside0.mk hr0
  have HC0 := Aside0.mk hc0
  clear hr0 hc0
  have HB := Aside0.mk (Below.refl w.heap.size w)
  have H : (ratlinelaw03_Few.l0 k l0 a1 l0 (l0.length : Int) 0) = some r := h
  clear h
  have H' := Aside0.mk H
  clear H
  go_enter Try.func25, Try.ntmps25
  go_wp2
  go_loopg [9] k (fun kq v9 w' => ∃ (x9_1 : Int), v9 = .int .i64 x9_1 ∧ Aside0 (ratlinelaw03_Few.l0 kq l0 a1 l0 (l0.length : Int) x9_1 = some r) ∧ Aside0 (kq ≤ k) ∧ Aside0 (Below w.heap.size w w'))
  case atStart => exact ⟨(0), (by first | rfl | (simp; done) | (simp [*]; done)), H', ⟨Nat.le_refl _⟩, ⟨by repeat (first | (with_reducible first | exact HB.out | apply below_alloc | apply pw_below_drewN | apply below_drew1) | exact HB.out)⟩⟩
  case round =>
    clear H'
    try clear c2
    try clear p2
    obtain ⟨x9_1, rfl, HA, HK1, HB⟩ := hrel
    cases gk with
    | zero => exact absurd HA.out (by simp [ratlinelaw03_Few.l0])
    | succ k1 =>
      have H := HA.out
      clear HA
      simp only [ratlinelaw03_Few.l0] at H
      by_cases c3 : x9_1 < (l0.length : Int)
      · rw [if_pos c3] at H
        have c3b0 : decide (x9_1 < (l0.length : Int)) = true := decide_eq_true c3
        clear c3
        by_cases c4 : 0 ≤ x9_1
        · rw [if_pos c4] at H
          have c4b0 : decide (0 ≤ x9_1) = true := decide_eq_true c4
          clear c4
          by_cases c5 : x9_1 < (l0.length : Int)
          · rw [if_pos c5] at H
            have c5b0 : decide (x9_1 < (l0.length : Int)) = true := decide_eq_true c5
            clear c5
            by_cases c6 : (((rd_T41 l0 x9_1).f0.f0).size : Int) > 70
            · rw [if_pos c6] at H
              have c6b0 : decide (70 < (((rd_T41 l0 x9_1).f0.f0).size : Int)) = true := decide_eq_true c6
              have c6b1 : decide (70 < ((rd_T41 l0 x9_1).f0.f0).size) = true := decide_eq_true (by omega)
              clear c6
              obtain rfl := Option.some.inj H
              have p101 : 0 ≤ (x9_1 : Int) := of_decide_eq_true (by first | (with_reducible assumption) | assumption)
              have q101 : x9_1 < (l0.length : Int) := of_decide_eq_true (by first | (with_reducible assumption) | assumption)
              obtain ⟨ad101, e101, hx101_0, hx101_1, hx101_2, hx101_3⟩ := at_T41 HR0.out x9_1 p101 q101
              cases e101
              replace hx101_0 := (HB.out.cell (World.block_lt_of_cell? w _ hx101_0)).trans hx101_0
              replace hx101_1 := (HB.out.cell (World.block_lt_of_cell? w _ hx101_1)).trans hx101_1
              replace hx101_2 := (HB.out.cell (World.block_lt_of_cell? w _ hx101_2)).trans hx101_2
              replace hx101_3 := (HB.out.cell (World.block_lt_of_cell? w _ hx101_3)).trans hx101_3
              replace p101 := eq_true p101
              replace q101 := eq_true q101
              go_wp2_with (first | ((with_reducible refine gate_dst (N := 6) rfl ?_); (try (refine gate_guard (by rfl) ?_; dsimp only)); refine box_event ?hg (N := 6) ?hd (cs := #[.string (⟨#[]⟩ : ByteArray), .int .u64 0, .int .u8 0, .string (⟨#[]⟩ : ByteArray)]) (t := 41) ?hr ?_; (case hd => rfl); (case hg => rfl); (case hr => first | (go_simp; done) | (go_simp; rfl)); intro gb102 hg w7 hbox hb; have n0_ := Aside0.mk (below_step (by repeat (first | (with_reducible first | exact HB.out | apply below_alloc | apply pw_below_drewN | apply below_drew1) | exact HB.out)) hb); have n1_ := Aside0.mk (hbox); have n2_ := Aside0.mk ((by rw [hg]; exact (below_size (by repeat (first | (with_reducible first | exact HB.out | apply below_alloc | apply pw_below_drewN | apply below_drew1) | exact HB.out))) : w.heap.size ≤ gb102)); have n3_ := Aside0.mk ((by rw [hg]; exact (below_size (by repeat (first | (with_reducible first | exact HB.out | apply below_alloc | apply pw_below_drewN | apply below_drew1) | exact HB.out))) : w.heap.size ≤ gb102)); clear HB; have HB := n0_; have BK102 := n1_; have GW102 := n2_; have GE102 := n3_; clear n0_ n1_ n2_ n3_; clear hb hbox hg; have hcz8_0 : w7.cell? ⟨gb102, 0, none⟩ = some (.string (⟨#[]⟩ : ByteArray)) := (blk_cell BK102.out 0).trans rfl; have hcz8_1 : w7.cell? ⟨gb102, 1, none⟩ = some (.int .u64 0) := (blk_cell BK102.out 1).trans rfl; have hcz8_2 : w7.cell? ⟨gb102, 2, none⟩ = some (.int .u8 0) := (blk_cell BK102.out 2).trans rfl; have hcz8_3 : w7.cell? ⟨gb102, 3, none⟩ = some (.string (⟨#[]⟩ : ByteArray)) := (blk_cell BK102.out 3).trans rfl; have hfz8_0 := blk_frozen BK102.out 0; have hfz8_1 := blk_frozen BK102.out 1; have hfz8_2 := blk_frozen BK102.out 2; have hfz8_3 := blk_frozen BK102.out 3))
              go_ret
              exact ⟨by first | rfl | (simp [errW_none, errW_some] <;> rfl) | (simp [*, errW_none, errW_some] <;> rfl), by repeat (first | (with_reducible first | exact HB.out | apply below_alloc | apply pw_below_drewN | apply below_drew1 | refine below_set ?_ GE102.out) | exact HB.out)⟩
            · rw [if_neg c6] at H
              have c6b0 : decide (70 < (((rd_T41 l0 x9_1).f0.f0).size : Int)) = false := decide_eq_false c6
              have c6b1 : decide (70 < ((rd_T41 l0 x9_1).f0.f0).size) = false := decide_eq_false (by omega)
              clear c6
              by_cases c9 : (((rd_T41 l0 x9_1).f1).size : Int) > 300
              · rw [if_pos c9] at H
                have c9b0 : decide (300 < (((rd_T41 l0 x9_1).f1).size : Int)) = true := decide_eq_true c9
                have c9b1 : decide (300 < ((rd_T41 l0 x9_1).f1).size) = true := decide_eq_true (by omega)
                clear c9
                obtain rfl := Option.some.inj H
                have p101 : 0 ≤ (x9_1 : Int) := of_decide_eq_true (by first | (with_reducible assumption) | assumption)
                have q101 : x9_1 < (l0.length : Int) := of_decide_eq_true (by first | (with_reducible assumption) | assumption)
                obtain ⟨ad101, e101, hx101_0, hx101_1, hx101_2, hx101_3⟩ := at_T41 HR0.out x9_1 p101 q101
                cases e101
                replace hx101_0 := (HB.out.cell (World.block_lt_of_cell? w _ hx101_0)).trans hx101_0
                replace hx101_1 := (HB.out.cell (World.block_lt_of_cell? w _ hx101_1)).trans hx101_1
                replace hx101_2 := (HB.out.cell (World.block_lt_of_cell? w _ hx101_2)).trans hx101_2
                replace hx101_3 := (HB.out.cell (World.block_lt_of_cell? w _ hx101_3)).trans hx101_3
                replace p101 := eq_true p101
                replace q101 := eq_true q101
                go_wp2_with (first | ((with_reducible refine gate_dst (N := 6) rfl ?_); (try (refine gate_guard (by rfl) ?_; dsimp only)); refine box_event ?hg (N := 6) ?hd (cs := #[.string (⟨#[]⟩ : ByteArray), .int .u64 0, .int .u8 0, .string (⟨#[]⟩ : ByteArray)]) (t := 41) ?hr ?_; (case hd => rfl); (case hg => rfl); (case hr => first | (go_simp; done) | (go_simp; rfl)); intro gb102 hg w10 hbox hb; have n0_ := Aside0.mk (below_step (by repeat (first | (with_reducible first | exact HB.out | apply below_alloc | apply pw_below_drewN | apply below_drew1) | exact HB.out)) hb); have n1_ := Aside0.mk (hbox); have n2_ := Aside0.mk ((by rw [hg]; exact (below_size (by repeat (first | (with_reducible first | exact HB.out | apply below_alloc | apply pw_below_drewN | apply below_drew1) | exact HB.out))) : w.heap.size ≤ gb102)); have n3_ := Aside0.mk ((by rw [hg]; exact (below_size (by repeat (first | (with_reducible first | exact HB.out | apply below_alloc | apply pw_below_drewN | apply below_drew1) | exact HB.out))) : w.heap.size ≤ gb102)); clear HB; have HB := n0_; have BK102 := n1_; have GW102 := n2_; have GE102 := n3_; clear n0_ n1_ n2_ n3_; clear hb hbox hg; have hcz11_0 : w10.cell? ⟨gb102, 0, none⟩ = some (.string (⟨#[]⟩ : ByteArray)) := (blk_cell BK102.out 0).trans rfl; have hcz11_1 : w10.cell? ⟨gb102, 1, none⟩ = some (.int .u64 0) := (blk_cell BK102.out 1).trans rfl; have hcz11_2 : w10.cell? ⟨gb102, 2, none⟩ = some (.int .u8 0) := (blk_cell BK102.out 2).trans rfl; have hcz11_3 : w10.cell? ⟨gb102, 3, none⟩ = some (.string (⟨#[]⟩ : ByteArray)) := (blk_cell BK102.out 3).trans rfl; have hfz11_0 := blk_frozen BK102.out 0; have hfz11_1 := blk_frozen BK102.out 1; have hfz11_2 := blk_frozen BK102.out 2; have hfz11_3 := blk_frozen BK102.out 3))
                go_ret
                exact ⟨by first | rfl | (simp [errW_none, errW_some] <;> rfl) | (simp [*, errW_none, errW_some] <;> rfl), by repeat (first | (with_reducible first | exact HB.out | apply below_alloc | apply pw_below_drewN | apply below_drew1 | refine below_set ?_ GE102.out) | exact HB.out)⟩
              · rw [if_neg c9] at H
                have c9b0 : decide (300 < (((rd_T41 l0 x9_1).f1).size : Int)) = false := decide_eq_false c9
                have c9b1 : decide (300 < ((rd_T41 l0 x9_1).f1).size) = false := decide_eq_false (by omega)
                clear c9
                have H' := Aside0.mk H
                clear H
                have p101 : 0 ≤ (x9_1 : Int) := of_decide_eq_true (by first | (with_reducible assumption) | assumption)
                have q101 : x9_1 < (l0.length : Int) := of_decide_eq_true (by first | (with_reducible assumption) | assumption)
                obtain ⟨ad101, e101, hx101_0, hx101_1, hx101_2, hx101_3⟩ := at_T41 HR0.out x9_1 p101 q101
                cases e101
                replace hx101_0 := (HB.out.cell (World.block_lt_of_cell? w _ hx101_0)).trans hx101_0
                replace hx101_1 := (HB.out.cell (World.block_lt_of_cell? w _ hx101_1)).trans hx101_1
                replace hx101_2 := (HB.out.cell (World.block_lt_of_cell? w _ hx101_2)).trans hx101_2
                replace hx101_3 := (HB.out.cell (World.block_lt_of_cell? w _ hx101_3)).trans hx101_3
                replace p101 := eq_true p101
                replace q101 := eq_true q101
                go_wp2_with (first | ((with_reducible refine gate_dst (N := 6) rfl ?_); (try (refine gate_guard (by rfl) ?_; dsimp only)); refine box_event ?hg (N := 6) ?hd (cs := #[.string (⟨#[]⟩ : ByteArray), .int .u64 0, .int .u8 0, .string (⟨#[]⟩ : ByteArray)]) (t := 41) ?hr ?_; (case hd => rfl); (case hg => rfl); (case hr => first | (go_simp; done) | (go_simp; rfl)); intro gb102 hg w12 hbox hb; have n0_ := Aside0.mk (below_step (by repeat (first | (with_reducible first | exact HB.out | apply below_alloc | apply pw_below_drewN | apply below_drew1) | exact HB.out)) hb); have n1_ := Aside0.mk (hbox); have n2_ := Aside0.mk ((by rw [hg]; exact (below_size (by repeat (first | (with_reducible first | exact HB.out | apply below_alloc | apply pw_below_drewN | apply below_drew1) | exact HB.out))) : w.heap.size ≤ gb102)); have n3_ := Aside0.mk ((by rw [hg]; exact (below_size (by repeat (first | (with_reducible first | exact HB.out | apply below_alloc | apply pw_below_drewN | apply below_drew1) | exact HB.out))) : w.heap.size ≤ gb102)); clear HB; have HB := n0_; have BK102 := n1_; have GW102 := n2_; have GE102 := n3_; clear n0_ n1_ n2_ n3_; clear hb hbox hg; have hcz13_0 : w12.cell? ⟨gb102, 0, none⟩ = some (.string (⟨#[]⟩ : ByteArray)) := (blk_cell BK102.out 0).trans rfl; have hcz13_1 : w12.cell? ⟨gb102, 1, none⟩ = some (.int .u64 0) := (blk_cell BK102.out 1).trans rfl; have hcz13_2 : w12.cell? ⟨gb102, 2, none⟩ = some (.int .u8 0) := (blk_cell BK102.out 2).trans rfl; have hcz13_3 : w12.cell? ⟨gb102, 3, none⟩ = some (.string (⟨#[]⟩ : ByteArray)) := (blk_cell BK102.out 3).trans rfl; have hfz13_0 := blk_frozen BK102.out 0; have hfz13_1 := blk_frozen BK102.out 1; have hfz13_2 := blk_frozen BK102.out 2; have hfz13_3 := blk_frozen BK102.out 3))
                go_roundg k1
                case measure => have := HK1.out; omega
                case rel => exact ⟨(wrap64 (x9_1 + 1)), (by first | rfl | (simp; done) | (simp [*]; done)), H', ⟨by have := HK1.out; omega⟩, ⟨by repeat (first | (with_reducible first | exact HB.out | apply below_alloc | apply pw_below_drewN | apply below_drew1 | refine below_set ?_ GE102.out) | exact HB.out)⟩⟩
          · rw [if_neg c5] at H
            exact absurd H (by simp)
        · rw [if_neg c4] at H
          exact absurd H (by simp)
      · rw [if_neg c3] at H
        have c3b0 : decide (x9_1 < (l0.length : Int)) = false := decide_eq_false c3
        clear c3
        obtain rfl := Option.some.inj H
        go_wp2
        go_ret
        exact ⟨by first | rfl | (simp [errW_none, errW_some] <;> rfl) | (simp [*, errW_none, errW_some] <;> rfl), by repeat (first | (with_reducible first | exact HB.out | apply below_alloc | apply pw_below_drewN | apply below_drew1) | exact HB.out)⟩

end Go.Proofs.Ytojemmipkpckbaa.P

end

section
set_option linter.unusedVariables false
namespace Go.Proofs.YtojemmipkpckbaaL
open Go Go.RowKit Go.Proofs.YtojemmipkpckbaaG Go.Proofs.Ytojemmipkpckbaa.P Go.Proofs.YtojemmipkpckbaaW.PrintWords Go.Proofs.YtojemmipkpckbaaW.PrintMore

def Short (e : En) : Prop := e.f0.f0.size ≤ 70 ∧ e.f1.size ≤ 300
instance (e : En) : Decidable (Short e) := inferInstanceAs (Decidable (_ ∧ _))
theorem rd_en (l : List En) {j : Nat} (h : j < l.length) : rd_T41 l (j : Int) = l[j] := by
  show l.getD ((j : Int)).toNat _ = _
  rw [Int.toNat_natCast, List.getD_eq_getElem?_getD, List.getElem?_eq_getElem h]
  rfl
theorem few_succ' {a : Nat} (h : a < 9223372036854775807) : wrap64 ((a : Int) + 1) = ((a + 1 : Nat) : Int) := by unfold wrap64; omega
theorem few_succ {a : Nat} (h : a < 9223372036854775800) : wrap64 ((a : Int) + 1) = ((a + 1 : Nat) : Int) := by unfold wrap64; omega
theorem few_loop (l : List En) (most : Int) (hl : l.length ≤ 9223372036854775807) (k : Nat) :
    ∀ (m j : Nat), j + m = l.length → ratlinelaw03_Few.l0 (m + k + 1) l most l (l.length : Int) (j : Int) = some (decide (∀ e ∈ l.drop j, Short e) && decide ((l.length : Int) ≤ most)) := by
  intro m
  induction m with
  | zero =>
    intro j hj
    obtain rfl : j = l.length := by omega
    simp only [ratlinelaw03_Few.l0]
    rw [if_neg (by omega), List.drop_length]
    simp
  | succ m ih =>
    intro j hj
    have hlt : j < l.length := by omega
    generalize hk : m + 1 + k = q
    have hj1 : j < 9223372036854775807 := by omega
    simp only [ratlinelaw03_Few.l0, few_succ' hj1]
    rw [if_pos (by omega), if_pos (by omega), if_pos (by omega), rd_en l hlt, ← hk, show m + 1 + k = m + k + 1 from by omega, ih (j + 1) (by omega), List.drop_eq_getElem_cons hlt]
    by_cases h1 : ((l[j].f0.f0.size : Nat) : Int) > 70
    · rw [if_pos h1, decide_eq_false (fun h => by have := (h l[j] (List.mem_cons_self ..)).1; omega)]
      rfl
    · rw [if_neg h1]
      by_cases h2 : ((l[j].f1.size : Nat) : Int) > 300
      · rw [if_pos h2, decide_eq_false (fun h => by have := (h l[j] (List.mem_cons_self ..)).2; omega)]
        rfl
      · rw [if_neg h2]
        congr 2
        refine decide_eq_decide.2 ⟨fun h e he => ?_, fun h e he => h e (List.mem_cons_of_mem _ he)⟩
        rcases List.mem_cons.1 he with rfl | he
        · exact ⟨by omega, by omega⟩
        · exact h e he
theorem few_f' (l : List En) (most : Int) (hl : l.length ≤ 9223372036854775807) (k : Nat) : ratlinelaw03_Few.f (l.length + k + 1) l most = some (decide (∀ e ∈ l, Short e) && decide ((l.length : Int) ≤ most)) := by
  have := few_loop l most hl k l.length 0 (by omega)
  rwa [List.drop_zero] at this
end Go.Proofs.YtojemmipkpckbaaL

end

section
set_option linter.unusedVariables false
namespace Go.Proofs.YtojemmipkpckbaaL
open Go Go.RowKit Go.Proofs.YtojemmipkpckbaaG Go.Proofs.Ytojemmipkpckbaa.P Go.Proofs.YtojemmipkpckbaaW.PrintWords Go.Proofs.YtojemmipkpckbaaW.PrintMore

def risesB : List En → Bool
  | a :: b :: r => decide (cmpI a.f0 b.f0 < 0) && risesB (b :: r)
  | _ => true
theorem rises_two (a b : En) (r : List En) : risesB (a :: b :: r) = (decide (cmpI a.f0 b.f0 < 0) && risesB (b :: r)) := rfl
theorem rcompare_f (x y : Ik) : ratlineref03_Compare.f x.f0 x.f1 x.f2 y.f0 y.f1 y.f2 = some (cmpI x y) := by
  unfold ratlineref03_Compare.f cmpI
  by_cases c1 : lt x.f0 y.f0
  · rw [if_pos c1, if_pos (show Op.bytesLess x.f0.toList y.f0.toList = true from c1)]
  · rw [if_neg c1, if_neg (show ¬ Op.bytesLess x.f0.toList y.f0.toList = true from c1)]
    by_cases c2 : lt y.f0 x.f0
    · rw [if_pos c2, if_pos (show Op.bytesLess y.f0.toList x.f0.toList = true from c2)]
    · rw [if_neg c2, if_neg (show ¬ Op.bytesLess y.f0.toList x.f0.toList = true from c2)]
      repeat' split
      all_goals rfl
theorem rrising_loop (l : List En) (hl : l.length < 9223372036854775800) (q : Nat) :
    ∀ (m j : Nat), j + m + 1 = l.length → ratlineref03_Rising.l0 (m + q + 1) l ((j + 1 : Nat) : Int) = some (risesB (l.drop j)) := by
  intro m
  induction m with
  | zero =>
    intro j hj
    simp only [ratlineref03_Rising.l0]
    rw [if_neg (by omega)]
    have : l.drop j = [l[j]'(by omega)] := by rw [List.drop_eq_getElem_cons (by omega), List.drop_of_length_le (by omega)]
    rw [this]
    rfl
  | succ m ih =>
    intro j hj
    have hlt : j < l.length := by omega
    have hlt2 : j + 1 < l.length := by omega
    generalize hk : m + 1 + q = k
    have hj1 : j + 1 < 9223372036854775800 := by omega
    have hm : wrap64 (((j + 1 : Nat) : Int) - 1) = (j : Int) := by unfold wrap64; omega
    simp only [ratlineref03_Rising.l0, few_succ hj1, hm]
    rw [if_pos (by omega), if_pos (by omega), if_pos (by omega), if_pos (by omega), rd_en l hlt, rd_en l hlt2]
    refine bind1 (rcompare_f _ _) ?_
    rw [List.drop_eq_getElem_cons hlt, List.drop_eq_getElem_cons hlt2, rises_two]
    by_cases h : cmpI l[j].f0 l[j + 1].f0 ≥ 0
    · rw [if_pos h, decide_eq_false (by omega), Bool.false_and]
    · rw [if_neg h, decide_eq_true (by omega), Bool.true_and, ← hk, show m + 1 + q = m + q + 1 from by omega, ih (j + 1) (by omega), List.drop_eq_getElem_cons hlt2]
theorem rrising_k {l : List En} (h : l.length ≤ 150) (k : Nat) : ratlineref03_Rising.f (k + 200) l = some (risesB l) := by
  unfold ratlineref03_Rising.f
  by_cases h0 : l.length = 0
  · obtain rfl : l = [] := List.eq_nil_of_length_eq_zero h0
    rw [show k + 200 = (k + 199) + 1 from rfl]
    generalize k + 199 = z
    simp only [ratlineref03_Rising.l0]
    rw [if_neg (by decide)]
    rfl
  · have := rrising_loop l (by omega) (k + 200 - l.length) (l.length - 1) 0 (by omega)
    rw [show l.length - 1 + (k + 200 - l.length) + 1 = k + 200 from by omega, List.drop_zero] at this
    exact this
end Go.Proofs.YtojemmipkpckbaaL

end

section
namespace Go.Proofs.Ytojemmipkpckbaa.P
open Go.RowKit Go.Proofs.YtojemmipkpckbaaG Go.Proofs.YtojemmipkpckbaaW.PrintWords Go.Proofs.YtojemmipkpckbaaW.PrintLast Go.Proofs.YtojemmipkpckbaaW.PrintMore
attribute [local go_sem] str_gtr str_geq str_leq max2_int min2_int max_two min_two max_three min_three max_four min_four   -- for this text's walks alone
set_option linter.unusedVariables false
set_option linter.unusedSimpArgs false

attribute [local go_sem high] eqA39
mutual
def ratlineref11_All.l0 : Nat → List (List (S41)) → List (S41) → List Int → Option ((List (S41)))
 | 0,_,_,_ => none
 | k + 1,x0,x3,x4 => ratlineref11_All.l1 k x0 x3 x4 (-1) 0
def ratlineref11_All.l1 : Nat → List (List (S41)) → List (S41) → List Int → Int → Int → Option ((List (S41)))
 | 0,_,_,_,_,_ => none
 | k + 1,x0,x3,x4,x5,x6 => if x6 < (x0.length : Int) then (if 0 ≤ x6 then (if x6 < (x4.length : Int) then (if (rd x4 x6) < ((rd_L5 x0 x6).length : Int) then (if x5 < 0 then (ratlineref11_All.l1 k x0 x3 x4 x6 (wrap64 (x6 + 1))) else (if 0 ≤ (rd x4 x6) then (if 0 ≤ x5 then (if x5 < (x0.length : Int) then (if x5 < (x4.length : Int) then (if 0 ≤ (rd x4 x5) then (if (rd x4 x5) < ((rd_L5 x0 x5).length : Int) then ((ratlineref03_Compare.f ((rd_T41 (rd_L5 x0 x6) (rd x4 x6)).f0.f0) ((rd_T41 (rd_L5 x0 x6) (rd x4 x6)).f0.f1) ((rd_T41 (rd_L5 x0 x6) (rd x4 x6)).f0.f2) ((rd_T41 (rd_L5 x0 x5) (rd x4 x5)).f0.f0) ((rd_T41 (rd_L5 x0 x5) (rd x4 x5)).f0.f1) ((rd_T41 (rd_L5 x0 x5) (rd x4 x5)).f0.f2)).bind fun t221 => (if t221 < 0 then (ratlineref11_All.l1 k x0 x3 x4 x6 (wrap64 (x6 + 1))) else (ratlineref11_All.l1 k x0 x3 x4 x5 (wrap64 (x6 + 1))))) else (none)) else (none)) else (none)) else (none)) else (none)) else (none))) else (ratlineref11_All.l1 k x0 x3 x4 x5 (wrap64 (x6 + 1)))) else (none)) else (none)) else (if x5 < 0 then (some x3) else (if 0 ≤ x5 then (if x5 < (x0.length : Int) then (if x5 < (x4.length : Int) then (if 0 ≤ (rd x4 x5) then (if (rd x4 x5) < ((rd_L5 x0 x5).length : Int) then ((some (x4.set (x5 : Int).toNat (wrap64 ((rd x4 x5) + 1)) : List Int)).bind fun y227 => (if (x3.length : Int) = 0 then (if x3.length < 2932031007402 then (ratlineref11_All.l0 k x0 (x3 ++ [(⟨(⟨(rd_T41 (rd_L5 x0 x5) (rd x4 x5)).f0.f0,(rd_T41 (rd_L5 x0 x5) (rd x4 x5)).f0.f1,(rd_T41 (rd_L5 x0 x5) (rd x4 x5)).f0.f2⟩ : S39),(rd_T41 (rd_L5 x0 x5) (rd x4 x5)).f1⟩ : S41)]) y227) else (none)) else (if 0 ≤ (wrap64 ((x3.length : Int) - 1)) then (if (wrap64 ((x3.length : Int) - 1)) < (x3.length : Int) then (if (!((((rd_T41 x3 (wrap64 ((x3.length : Int) - 1))).f0.f0).toList) == (((rd_T41 (rd_L5 x0 x5) (rd x4 x5)).f0.f0).toList)) || (!(((rd_T41 x3 (wrap64 ((x3.length : Int) - 1))).f0.f1) == ((rd_T41 (rd_L5 x0 x5) (rd x4 x5)).f0.f1)) || (!(((rd_T41 x3 (wrap64 ((x3.length : Int) - 1))).f0.f2) == ((rd_T41 (rd_L5 x0 x5) (rd x4 x5)).f0.f2))))) = true then (if x3.length < 2932031007402 then (ratlineref11_All.l0 k x0 (x3 ++ [(⟨(⟨(rd_T41 (rd_L5 x0 x5) (rd x4 x5)).f0.f0,(rd_T41 (rd_L5 x0 x5) (rd x4 x5)).f0.f1,(rd_T41 (rd_L5 x0 x5) (rd x4 x5)).f0.f2⟩ : S39),(rd_T41 (rd_L5 x0 x5) (rd x4 x5)).f1⟩ : S41)]) y227) else (none)) else (ratlineref11_All.l0 k x0 x3 y227)) else (none)) else (none)))) else (none)) else (none)) else (none)) else (none)) else (none)))
end
def ratlineref11_All.f (k : Nat) (l0 : List (List (S41))) : Option ((List (S41))):=if 0 ≤ (l0.length : Int) then (if ((l0.length : Int) : Int).toNat ≤ 35184372088832 then (ratlineref11_All.l0 k l0 ([] : List (S41)) (List.replicate ((l0.length : Int) : Int).toNat 0)) else (none)) else (none)
end Go.Proofs.Ytojemmipkpckbaa.P

end

section
set_option linter.unusedVariables false
namespace Go.Proofs.YtojemmipkpckbaaL
open Go Go.RowKit Go.Proofs.YtojemmipkpckbaaG Go.Proofs.Ytojemmipkpckbaa.P Go.Proofs.YtojemmipkpckbaaW.PrintWords Go.Proofs.YtojemmipkpckbaaW.PrintMore

theorem mLess_no {x y : Ik} (h : ¬ mLess x y = true) : cmpI y x ≤ 0 := by
  have h1 := cmpI_neg y x
  have h2 : ¬ cmpI x y < 0 := fun z => h ((mLess_iff x y).2 z)
  omega
theorem mLeast_min : ∀ (rest : List (List MEn)) (i : Nat) (best : Option (Nat × MEn)) (j : Nat) (b : MEn), mLeast rest i best = some (j, b) →
    (∀ e r, (e :: r) ∈ rest → cmpI b.f0 e.f0 ≤ 0) ∧ (∀ i0 b0, best = some (i0, b0) → cmpI b.f0 b0.f0 ≤ 0)
  | [], i, best, j, b, h => by
    refine ⟨fun e r he => by simp at he, fun i0 b0 hb => ?_⟩
    rw [mLeast] at h
    rw [h] at hb
    obtain ⟨_, rfl⟩ := Prod.mk.inj (Option.some.inj hb)
    exact Int.le_of_eq ((cmpI_zero _ _).2 ⟨rfl, rfl, rfl⟩)
  | [] :: r, i, best, j, b, h => by
    have ih := mLeast_min r (i + 1) best j b h
    refine ⟨fun e q he => ?_, ih.2⟩
    rcases List.mem_cons.1 he with h0 | h0
    · cases h0
    · exact ih.1 e q h0
  | (x :: l) :: r, i, best, j, b, h => by
    have ih := mLeast_min r (i + 1) _ j b h
    cases best with
    | none =>
      have hx := ih.2 i x rfl
      refine ⟨fun e q he => ?_, fun i0 b0 hb => by cases hb⟩
      rcases List.mem_cons.1 he with h0 | h0
      · obtain ⟨rfl, _⟩ := List.cons.inj h0
        exact hx
      · exact ih.1 e q h0
    | some p =>
      obtain ⟨i1, b1⟩ := p
      by_cases hl : mLess x.f0 b1.f0 = true
      · have hx := ih.2 i x (if_pos hl)
        refine ⟨fun e q he => ?_, fun i0 b0 hb => ?_⟩
        · rcases List.mem_cons.1 he with h0 | h0
          · obtain ⟨rfl, _⟩ := List.cons.inj h0
            exact hx
          · exact ih.1 e q h0
        · obtain ⟨_, rfl⟩ := Prod.mk.inj (Option.some.inj hb)
          exact cmpI_trans hx (Int.le_of_lt ((mLess_iff _ _).1 hl))
      · have hx := ih.2 i1 b1 (if_neg hl)
        refine ⟨fun e q he => ?_, fun i0 b0 hb => ?_⟩
        · rcases List.mem_cons.1 he with h0 | h0
          · obtain ⟨rfl, _⟩ := List.cons.inj h0
            exact cmpI_trans hx (mLess_no hl)
          · exact ih.1 e q h0
        · obtain ⟨_, rfl⟩ := Prod.mk.inj (Option.some.inj hb)
          exact hx
theorem mLeast_none : ∀ (rest : List (List MEn)) (i : Nat) (best : Option (Nat × MEn)), mLeast rest i best = none → best = none ∧ ∀ l ∈ rest, l = []
  | [], i, best, h => ⟨by rw [mLeast] at h; exact h, fun l hl => by simp at hl⟩
  | [] :: r, i, best, h => by
    have ih := mLeast_none r (i + 1) best h
    refine ⟨ih.1, fun l hl => ?_⟩
    rcases List.mem_cons.1 hl with rfl | hl
    · rfl
    · exact ih.2 l hl
  | (x :: l) :: r, i, best, h => by
    have ih := (mLeast_none r (i + 1) _ h).1
    cases best with
    | none => cases ih
    | some p =>
      obtain ⟨i1, b1⟩ := p
      simp only at ih
      split at ih <;> cases ih
def Rises (cur : List (List MEn)) : Prop := ∀ l ∈ cur, risesB l = true
theorem mSame_iff {x y : Ik} : mSame x y = true ↔ x = y := by
  unfold mSame
  rw [Bool.and_eq_true, Bool.and_eq_true, beq_iff_eq, beq_iff_eq, beq_iff_eq, ba_eq_iff]
  constructor
  · rintro ⟨h1, h2, h3⟩
    cases x
    cases y
    simp_all
  · rintro rfl
    exact ⟨rfl, rfl, rfl⟩
theorem rises_tail {e : MEn} {r : List MEn} (h : risesB (e :: r) = true) : risesB r = true ∧ ∀ x q, r = x :: q → cmpI e.f0 x.f0 < 0 := by
  cases r with
  | nil => exact ⟨rfl, fun x q h => by cases h⟩
  | cons x q =>
    rw [rises_two, Bool.and_eq_true] at h
    refine ⟨h.2, fun y z hy => ?_⟩
    obtain ⟨rfl, _⟩ := List.cons.inj hy
    exact of_decide_eq_true h.1
end Go.Proofs.YtojemmipkpckbaaL

end

section
set_option linter.unusedVariables false
end

section
set_option linter.unusedVariables false
namespace Go.Proofs.YtojemmipkpckbaaL
open Go Go.RowKit Go.Proofs.YtojemmipkpckbaaG Go.Proofs.Ytojemmipkpckbaa.P Go.Proofs.YtojemmipkpckbaaW.PrintWords Go.Proofs.YtojemmipkpckbaaW.PrintMore

def Up (l : List MEn) : Prop := l.Pairwise fun a b => cmpI a.f0 b.f0 < 0
theorem cmpI_lt_trans {x y z : Ik} (h : cmpI x y < 0) (h2 : cmpI y z ≤ 0) : cmpI x z < 0 := by
  have h3 := cmpI_trans (Int.le_of_lt h) h2
  refine Int.lt_iff_le_and_ne.2 ⟨h3, fun e => ?_⟩
  have := (cmpI_zero x z).1 e
  have hxz : x = z := mSame_iff.1 (by unfold mSame; rw [this.1, this.2.1, this.2.2]; simp)
  subst hxz
  have := cmpI_neg y x
  omega
theorem drop_rises {cur : List (List MEn)} (h : Rises cur) (k : Ik) : Rises (mDrop k cur) := by
  rw [mDrop_eq]
  intro l hl
  obtain ⟨q, hq, rfl⟩ := List.mem_map.1 hl
  have := h q hq
  cases q with
  | nil => exact this
  | cons e r =>
    rw [dropOne]
    split
    · exact (rises_tail this).1
    · exact this
theorem drop_heads {cur : List (List MEn)} {i : Nat} {e : MEn} (hr : Rises cur) (hl : mLeast cur 0 none = some (i, e)) : ∀ x q, (x :: q) ∈ mDrop e.f0 cur → cmpI e.f0 x.f0 < 0 := by
  rw [mDrop_eq]
  intro x q hx
  have hmin := (mLeast_min _ _ _ _ _ hl).1
  obtain ⟨l, hm, hd⟩ := List.mem_map.1 hx
  cases l with
  | nil => cases hd
  | cons y z =>
    rw [dropOne] at hd
    split at hd
    · rename_i hs
      rw [← mSame_iff.1 hs]
      exact (rises_tail (hr _ hm)).2 x q hd
    · rename_i hs
      obtain ⟨rfl, rfl⟩ := List.cons.inj hd
      refine Int.lt_iff_le_and_ne.2 ⟨hmin y z hm, fun h0 => hs ?_⟩
      have := (cmpI_zero _ _).1 h0
      unfold mSame
      rw [this.1, this.2.1, this.2.2]
      simp
theorem mAll_up : ∀ (n : Nat) (cur : List (List MEn)), Rises cur → Up (mAll n cur) ∧ ∀ k : Ik, (∀ x q, (x :: q) ∈ cur → cmpI k x.f0 < 0) → ∀ y ∈ mAll n cur, cmpI k y.f0 < 0
  | 0, cur, hr => ⟨List.Pairwise.nil, fun k _ y hy => by simp [mAll] at hy⟩
  | n + 1, cur, hr => by
    cases hl : mLeast cur 0 none with
    | none => rw [mAll_none hl]; exact ⟨List.Pairwise.nil, fun k _ y hy => by simp at hy⟩
    | some p =>
      obtain ⟨i, e⟩ := p
      obtain ⟨r, hi⟩ := mLeast_some hl
      have ih := mAll_up n (mDrop e.f0 cur) (drop_rises hr _)
      have hh := ih.2 e.f0 (drop_heads hr hl)
      rw [mAll_cons n hl]
      refine ⟨List.Pairwise.cons hh ih.1, fun k hk y hy => ?_⟩
      have hke := hk e r (List.mem_of_getElem? hi)
      rcases List.mem_cons.1 hy with rfl | hy
      · exact hke
      · exact cmpI_lt_trans hke (Int.le_of_lt (hh y hy))
end Go.Proofs.YtojemmipkpckbaaL

end

section
namespace Go.Proofs.Ytojemmipkpckbaa.P
open Go.RowKit Go.Proofs.YtojemmipkpckbaaG Go.Proofs.YtojemmipkpckbaaW.PrintWords Go.Proofs.YtojemmipkpckbaaW.PrintLast Go.Proofs.YtojemmipkpckbaaW.PrintMore
attribute [local go_sem] str_gtr str_geq str_leq max2_int min2_int max_two min_two max_three min_three max_four min_four   -- for this text's walks alone
set_option linter.unusedVariables false
set_option linter.unusedSimpArgs false

def ratlinelaw11_Fine.l0 : Nat → List (List (S41)) → Int → List (List (S41)) → Int → Int → Option (Bool)
  | 0, _, _, _, _, _ => none
  | k + 1, x0, x3, x6, x7, x8 => if x8 < x7 then (if 0 ≤ x8 then (if x8 < (x6.length : Int) then ((ratlinelaw03_Few.f k (rd_L5 x6 x8) 60).bind fun t109 => (if t109 = true then ((ratlineref03_Rising.f k (rd_L5 x6 x8)).bind fun t110 => (if t110 = true then (ratlinelaw11_Fine.l0 k x0 (wrap64 (x3 + ((rd_L5 x6 x8).length : Int))) x6 x7 (wrap64 (x8 + 1))) else (some false))) else (some false))) else (none)) else (none)) else (if (x0.length : Int) ≤ 12 then (some (decide (x3 ≤ 120))) else (some false))
def ratlinelaw11_Fine.f (k : Nat) (l0 : List (List (S41))) : Option (Bool) := ratlinelaw11_Fine.l0 k l0 0 l0 (l0.length : Int) 0
set_option maxHeartbeats 8000000 in
set_option maxRecDepth 100000 in
theorem ratlinelaw11_Fine.calls (k : Nat) (A0 : Option Addr) (c0 : Nat) (l0 : List (List (S41))) (r : Bool) (w : World) (hr0 : Kd.C (Kd.slice 41 k41) w A0 l0.length l0) (hc0 : l0.length ≤ c0) (h : ratlinelaw11_Fine.f k l0 = some r) :
    Calls Try.prog 14 #[.slice A0 l0.length c0] w fun e w' => e = .returned (.bool r) ∧ Below w.heap.size w w' := by
  have HR0 := Aside0.mk hr0
  have HC0 := Aside0.mk hc0
  clear hr0 hc0
  have HB := Aside0.mk (Below.refl w.heap.size w)
  have H : (ratlinelaw11_Fine.l0 k l0 0 l0 (l0.length : Int) 0) = some r := h
  clear h
  have H' := Aside0.mk H
  clear H
  go_enter Try.func14, Try.ntmps14
  go_wp2
  go_loopg [3, 8] k (fun kq v3 v8 w' => ∃ (x3_1 : Int) (x8_1 : Int), v3 = .int .i64 x3_1 ∧ v8 = .int .i64 x8_1 ∧ Aside0 (ratlinelaw11_Fine.l0 kq l0 x3_1 l0 (l0.length : Int) x8_1 = some r) ∧ Aside0 (kq ≤ k) ∧ Aside0 (Below w.heap.size w w'))
  case atStart => exact ⟨(0), (0), (by first | rfl | (simp; done) | (simp [*]; done)), (by first | rfl | (simp; done) | (simp [*]; done)), H', ⟨Nat.le_refl _⟩, ⟨by repeat (first | (with_reducible first | exact HB.out | apply below_alloc | apply pw_below_drewN | apply below_drew1) | exact HB.out)⟩⟩
  case round =>
    clear H'
    try clear c1
    obtain ⟨x3_1, x8_1, rfl, rfl, HA, HK1, HB⟩ := hrel
    cases gk with
    | zero => exact absurd HA.out (by simp [ratlinelaw11_Fine.l0])
    | succ k1 =>
      have H := HA.out
      clear HA
      simp only [ratlinelaw11_Fine.l0] at H
      by_cases c2 : x8_1 < (l0.length : Int)
      · rw [if_pos c2] at H
        have c2b0 : decide (x8_1 < (l0.length : Int)) = true := decide_eq_true c2
        clear c2
        by_cases c3 : 0 ≤ x8_1
        · rw [if_pos c3] at H
          have c3b0 : decide (0 ≤ x8_1) = true := decide_eq_true c3
          clear c3
          by_cases c4 : x8_1 < (l0.length : Int)
          · rw [if_pos c4] at H
            have c4b0 : decide (x8_1 < (l0.length : Int)) = true := decide_eq_true c4
            clear c4
            replace H := Option.bind_eq_some_iff.mp H
            obtain ⟨t109, A50, H⟩ := H
            replace H : (if t109 = true then ((ratlineref03_Rising.f k1 (rd_L5 l0 x8_1)).bind fun t110 => (if t110 = true then (ratlinelaw11_Fine.l0 k1 l0 (wrap64 (x3_1 + ((rd_L5 l0 x8_1).length : Int))) l0 (l0.length : Int) (wrap64 (x8_1 + 1))) else (some false))) else (some false)) = some r := H
            have A5 := Aside0.mk A50
            clear A50
            by_cases c6 : t109 = true
            · subst c6
              have H1 : ((ratlineref03_Rising.f k1 (rd_L5 l0 x8_1)).bind fun t110 => (if t110 = true then (ratlinelaw11_Fine.l0 k1 l0 (wrap64 (x3_1 + ((rd_L5 l0 x8_1).length : Int))) l0 (l0.length : Int) (wrap64 (x8_1 + 1))) else (some false))) = some r := by rw [if_pos rfl] at H; exact H
              clear H
              have H := H1
              clear H1
              replace H := Option.bind_eq_some_iff.mp H
              obtain ⟨t110, A70, H⟩ := H
              replace H : (if t110 = true then (ratlinelaw11_Fine.l0 k1 l0 (wrap64 (x3_1 + ((rd_L5 l0 x8_1).length : Int))) l0 (l0.length : Int) (wrap64 (x8_1 + 1))) else (some false)) = some r := H
              have A7 := Aside0.mk A70
              clear A70
              by_cases c8 : t110 = true
              · subst c8
                have H1 : (ratlinelaw11_Fine.l0 k1 l0 (wrap64 (x3_1 + ((rd_L5 l0 x8_1).length : Int))) l0 (l0.length : Int) (wrap64 (x8_1 + 1))) = some r := by rw [if_pos rfl] at H; exact H
                clear H
                have H := H1
                clear H1
                have H' := Aside0.mk H
                clear H
                have p108 : 0 ≤ (x8_1 : Int) := of_decide_eq_true (by first | (with_reducible assumption) | assumption)
                have q108 : x8_1 < (l0.length : Int) := of_decide_eq_true (by first | (with_reducible assumption) | assumption)
                obtain ⟨ad108, A108_0, c108_0, e108, hx108_0, hl108_0, hi108_0⟩ := at_L5 HR0.out x8_1 p108 q108
                cases e108
                replace hx108_0 := (HB.out.cell (World.block_lt_of_cell? w _ hx108_0)).trans hx108_0
                have HR108_0 := Aside0.mk hi108_0
                have HC108_0 := Aside0.mk hl108_0
                clear hi108_0 hl108_0
                replace p108 := eq_true p108
                replace q108 := eq_true q108
                go_wp2_with (first | ((with_reducible refine gate_callee (f := 25) rfl ?_); refine goesL_ (some 17) rfl rfl Try.func25 (by kernel_rfl) rfl #[.slice A108_0 (rd_L5 l0 x8_1).length c108_0, .int .i64 60] rfl (by (try simp only [List.map_toArray, List.map_cons, List.map_nil]); first | done | rfl | (simp only [List.length_drop, List.length_take]; rfl)) ?_; (with_reducible refine (ratlinelaw03_Few.calls k1 _ _ (rd_L5 l0 x8_1) 60 true _ ?side1 ?side2 A5.out).mono ?_); (case side1 => repeat (first | exact (Kd.C_below HR108_0.out HB.out) | (with_reducible refine Kd.C_alloc ?_ _) | (with_reducible refine Kd.C_drewN ?_ _) | (with_reducible refine Kd.C_drew ?_))); (case side2 => exact HC108_0.out); rintro e w9 ⟨rfl, hb⟩; refine ⟨_, rfl, ?_⟩; have n0_ := Aside0.mk (below_step (by repeat (first | (with_reducible first | exact HB.out | apply below_alloc | apply pw_below_drewN | apply below_drew1) | exact HB.out)) hb); clear HB; have HB := n0_; clear n0_; (try clear hb); (try clear hb2); (try clear hk); (try clear hi)) | (go_at_call 39; (with_reducible refine (ratlineref03_Rising.calls k1 _ _ (rd_L5 l0 x8_1) true _ ?side1 ?side2 A7.out).mono ?_); (case side1 => repeat (first | exact (Kd.C_below HR108_0.out HB.out) | (with_reducible refine Kd.C_alloc ?_ _) | (with_reducible refine Kd.C_drewN ?_ _) | (with_reducible refine Kd.C_drew ?_))); (case side2 => exact HC108_0.out); rintro e w10 ⟨rfl, hb⟩; have n0_ := Aside0.mk (below_step (by repeat (first | (with_reducible first | exact HB.out | apply below_alloc | apply pw_below_drewN | apply below_drew1) | exact HB.out)) hb); clear HB; have HB := n0_; clear n0_; (try clear hb); (try clear hb2); (try clear hk); (try clear hi)))
                go_roundg k1
                case measure => have := HK1.out; omega
                case rel => exact ⟨(wrap64 (x3_1 + ((rd_L5 l0 x8_1).length : Int))), (wrap64 (x8_1 + 1)), (by first | rfl | (simp; done) | (simp [*]; done)), (by first | rfl | (simp; done) | (simp [*]; done)), H', ⟨by have := HK1.out; omega⟩, ⟨by repeat (first | (with_reducible first | exact HB.out | apply below_alloc | apply pw_below_drewN | apply below_drew1) | exact HB.out)⟩⟩
              · replace c8 := Bool.eq_false_iff.mpr c8
                subst c8
                have H1 : (some false) = some r := by rw [if_neg (show ¬ (false = true) by decide)] at H; exact H
                clear H
                have H := H1
                clear H1
                obtain rfl := Option.some.inj H
                have p108 : 0 ≤ (x8_1 : Int) := of_decide_eq_true (by first | (with_reducible assumption) | assumption)
                have q108 : x8_1 < (l0.length : Int) := of_decide_eq_true (by first | (with_reducible assumption) | assumption)
                obtain ⟨ad108, A108_0, c108_0, e108, hx108_0, hl108_0, hi108_0⟩ := at_L5 HR0.out x8_1 p108 q108
                cases e108
                replace hx108_0 := (HB.out.cell (World.block_lt_of_cell? w _ hx108_0)).trans hx108_0
                have HR108_0 := Aside0.mk hi108_0
                have HC108_0 := Aside0.mk hl108_0
                clear hi108_0 hl108_0
                replace p108 := eq_true p108
                replace q108 := eq_true q108
                go_wp2_with (first | ((with_reducible refine gate_callee (f := 25) rfl ?_); refine goesL_ (some 17) rfl rfl Try.func25 (by kernel_rfl) rfl #[.slice A108_0 (rd_L5 l0 x8_1).length c108_0, .int .i64 60] rfl (by (try simp only [List.map_toArray, List.map_cons, List.map_nil]); first | done | rfl | (simp only [List.length_drop, List.length_take]; rfl)) ?_; (with_reducible refine (ratlinelaw03_Few.calls k1 _ _ (rd_L5 l0 x8_1) 60 true _ ?side1 ?side2 A5.out).mono ?_); (case side1 => repeat (first | exact (Kd.C_below HR108_0.out HB.out) | (with_reducible refine Kd.C_alloc ?_ _) | (with_reducible refine Kd.C_drewN ?_ _) | (with_reducible refine Kd.C_drew ?_))); (case side2 => exact HC108_0.out); rintro e w11 ⟨rfl, hb⟩; refine ⟨_, rfl, ?_⟩; have n0_ := Aside0.mk (below_step (by repeat (first | (with_reducible first | exact HB.out | apply below_alloc | apply pw_below_drewN | apply below_drew1) | exact HB.out)) hb); clear HB; have HB := n0_; clear n0_; (try clear hb); (try clear hb2); (try clear hk); (try clear hi)) | (go_at_call 39; (with_reducible refine (ratlineref03_Rising.calls k1 _ _ (rd_L5 l0 x8_1) false _ ?side1 ?side2 A7.out).mono ?_); (case side1 => repeat (first | exact (Kd.C_below HR108_0.out HB.out) | (with_reducible refine Kd.C_alloc ?_ _) | (with_reducible refine Kd.C_drewN ?_ _) | (with_reducible refine Kd.C_drew ?_))); (case side2 => exact HC108_0.out); rintro e w12 ⟨rfl, hb⟩; have n0_ := Aside0.mk (below_step (by repeat (first | (with_reducible first | exact HB.out | apply below_alloc | apply pw_below_drewN | apply below_drew1) | exact HB.out)) hb); clear HB; have HB := n0_; clear n0_; (try clear hb); (try clear hb2); (try clear hk); (try clear hi)))
                go_ret
                exact ⟨by first | rfl | (simp [errW_none, errW_some] <;> rfl) | (simp [*, errW_none, errW_some] <;> rfl), by repeat (first | (with_reducible first | exact HB.out | apply below_alloc | apply pw_below_drewN | apply below_drew1) | exact HB.out)⟩
            · replace c6 := Bool.eq_false_iff.mpr c6
              subst c6
              have H1 : (some false) = some r := by rw [if_neg (show ¬ (false = true) by decide)] at H; exact H
              clear H
              have H := H1
              clear H1
              obtain rfl := Option.some.inj H
              have p108 : 0 ≤ (x8_1 : Int) := of_decide_eq_true (by first | (with_reducible assumption) | assumption)
              have q108 : x8_1 < (l0.length : Int) := of_decide_eq_true (by first | (with_reducible assumption) | assumption)
              obtain ⟨ad108, A108_0, c108_0, e108, hx108_0, hl108_0, hi108_0⟩ := at_L5 HR0.out x8_1 p108 q108
              cases e108
              replace hx108_0 := (HB.out.cell (World.block_lt_of_cell? w _ hx108_0)).trans hx108_0
              have HR108_0 := Aside0.mk hi108_0
              have HC108_0 := Aside0.mk hl108_0
              clear hi108_0 hl108_0
              replace p108 := eq_true p108
              replace q108 := eq_true q108
              go_wp2_with (first | ((with_reducible refine gate_callee (f := 25) rfl ?_); refine goesL_ (some 17) rfl rfl Try.func25 (by kernel_rfl) rfl #[.slice A108_0 (rd_L5 l0 x8_1).length c108_0, .int .i64 60] rfl (by (try simp only [List.map_toArray, List.map_cons, List.map_nil]); first | done | rfl | (simp only [List.length_drop, List.length_take]; rfl)) ?_; (with_reducible refine (ratlinelaw03_Few.calls k1 _ _ (rd_L5 l0 x8_1) 60 false _ ?side1 ?side2 A5.out).mono ?_); (case side1 => repeat (first | exact (Kd.C_below HR108_0.out HB.out) | (with_reducible refine Kd.C_alloc ?_ _) | (with_reducible refine Kd.C_drewN ?_ _) | (with_reducible refine Kd.C_drew ?_))); (case side2 => exact HC108_0.out); rintro e w13 ⟨rfl, hb⟩; refine ⟨_, rfl, ?_⟩; have n0_ := Aside0.mk (below_step (by repeat (first | (with_reducible first | exact HB.out | apply below_alloc | apply pw_below_drewN | apply below_drew1) | exact HB.out)) hb); clear HB; have HB := n0_; clear n0_; (try clear hb); (try clear hb2); (try clear hk); (try clear hi)))
              go_ret
              exact ⟨by first | rfl | (simp [errW_none, errW_some] <;> rfl) | (simp [*, errW_none, errW_some] <;> rfl), by repeat (first | (with_reducible first | exact HB.out | apply below_alloc | apply pw_below_drewN | apply below_drew1) | exact HB.out)⟩
          · rw [if_neg c4] at H
            exact absurd H (by simp)
        · rw [if_neg c3] at H
          exact absurd H (by simp)
      · rw [if_neg c2] at H
        have c2b0 : decide (x8_1 < (l0.length : Int)) = false := decide_eq_false c2
        clear c2
        by_cases c14 : (l0.length : Int) ≤ 12
        · rw [if_pos c14] at H
          have c14b0 : decide ((l0.length : Int) ≤ 12) = true := decide_eq_true c14
          have c14b1 : decide (l0.length ≤ 12) = true := decide_eq_true (by omega)
          clear c14
          obtain rfl := Option.some.inj H
          go_wp2
          go_ret
          exact ⟨by first | rfl | (simp [errW_none, errW_some] <;> rfl) | (simp [*, errW_none, errW_some] <;> rfl), by repeat (first | (with_reducible first | exact HB.out | apply below_alloc | apply pw_below_drewN | apply below_drew1) | exact HB.out)⟩
        · rw [if_neg c14] at H
          have c14b0 : decide ((l0.length : Int) ≤ 12) = false := decide_eq_false c14
          have c14b1 : decide (l0.length ≤ 12) = false := decide_eq_false (by omega)
          clear c14
          obtain rfl := Option.some.inj H
          go_wp2
          go_ret
          exact ⟨by first | rfl | (simp [errW_none, errW_some] <;> rfl) | (simp [*, errW_none, errW_some] <;> rfl), by repeat (first | (with_reducible first | exact HB.out | apply below_alloc | apply pw_below_drewN | apply below_drew1) | exact HB.out)⟩

end Go.Proofs.Ytojemmipkpckbaa.P

end

section
namespace Go.Proofs.Ytojemmipkpckbaa.P
open Go.RowKit Go.Proofs.YtojemmipkpckbaaG Go.Proofs.YtojemmipkpckbaaW.PrintWords Go.Proofs.YtojemmipkpckbaaW.PrintLast Go.Proofs.YtojemmipkpckbaaW.PrintMore
attribute [local go_sem] str_gtr str_geq str_leq max2_int min2_int max_two min_two max_three min_three max_four min_four   -- for this text's walks alone
set_option linter.unusedVariables false
set_option linter.unusedSimpArgs false

mutual
def ratlineref11_Get.l0 : Nat → ByteArray → Int → List (S41) → Int → Option (ByteArray × Bool)
  | 0, _, _, _, _ => none
  | k + 1, x1, x2, x8, x9 => if x9 < (x8.length : Int) then (if 0 ≤ x9 then (if ((rd_T41 x8 x9).f0.f0).toList = x1.toList then (ratlineref11_Get.j1 k x1 x2 x8 x9 (decide (((rd_T41 x8 x9).f0.f1) ≤ x2))) else (ratlineref11_Get.j1 k x1 x2 x8 x9 false)) else (none)) else (some ((⟨#[]⟩ : ByteArray), false))
def ratlineref11_Get.j1 : Nat → ByteArray → Int → List (S41) → Int → Bool → Option (ByteArray × Bool)
  | 0, _, _, _, _, _ => none
  | k + 1, x1, x2, x8, x9, x35 => if x35 = true then (if 0 ≤ x9 then (if x9 < (x8.length : Int) then (if ((rd_T41 x8 x9).f0.f2) = 1 then (some ((rd_T41 x8 x9).f1, true)) else (some ((⟨#[]⟩ : ByteArray), false))) else (none)) else (none)) else (ratlineref11_Get.l0 k x1 x2 x8 (wrap64 (x9 + 1)))
end
def ratlineref11_Get.f (k : Nat) (l0 : List (List (S41))) (a1 : ByteArray) (a2 : Int) : Option (ByteArray × Bool) := (ratlineref11_All.f k l0).bind fun t235 => (ratlineref11_Get.l0 k a1 a2 t235 0)
end Go.Proofs.Ytojemmipkpckbaa.P

end

section
namespace Go.Proofs.Ytojemmipkpckbaa.P
open Go.RowKit Go.Proofs.YtojemmipkpckbaaG Go.Proofs.YtojemmipkpckbaaW.PrintWords Go.Proofs.YtojemmipkpckbaaW.PrintLast Go.Proofs.YtojemmipkpckbaaW.PrintMore
attribute [local go_sem] str_gtr str_geq str_leq max2_int min2_int max_two min_two max_three min_three max_four min_four   -- for this text's walks alone
set_option linter.unusedVariables false
set_option linter.unusedSimpArgs false

mutual
def ratlineref11_Scan.l0 : Nat → List (List (S41)) → ByteArray → ByteArray → Int → Int → List (S37) → List (S41) → Int → Option ((List (S37)))
  | 0, _, _, _, _, _, _, _, _ => none
  | k + 1, x0, x1, x2, x3, x4, x11, x12, x13 => if x13 < (x12.length : Int) then (ratlineref11_Scan.j1 k x0 x1 x2 x3 x4 x11 x12 x13 (decide ((x11.length : Int) < x4))) else (ratlineref11_Scan.j1 k x0 x1 x2 x3 x4 x11 x12 x13 false)
def ratlineref11_Scan.j1 : Nat → List (List (S41)) → ByteArray → ByteArray → Int → Int → List (S37) → List (S41) → Int → Bool → Option ((List (S37)))
  | 0, _, _, _, _, _, _, _, _, _ => none
  | k + 1, x0, x1, x2, x3, x4, x11, x12, x13, x28 => if x28 = true then (if 0 ≤ x13 then (if x13 < (x12.length : Int) then (if x13 > 0 then (if 0 ≤ (wrap64 (x13 - 1)) then (if (wrap64 (x13 - 1)) < (x12.length : Int) then (if ((rd_T41 x12 (wrap64 (x13 - 1))).f0.f0).toList = ((rd_T41 x12 x13).f0.f0).toList then (ratlineref11_Scan.j2 k x0 x1 x2 x3 x4 x11 x12 x13 ((rd_T41 x12 x13).f0.f0) true) else (if (Op.bytesLess (((rd_T41 x12 x13).f0.f0).toList) x1.toList) = true then (ratlineref11_Scan.j2 k x0 x1 x2 x3 x4 x11 x12 x13 ((rd_T41 x12 x13).f0.f0) true) else (if x2.toList = ([] : List UInt8) then (ratlineref11_Scan.j2 k x0 x1 x2 x3 x4 x11 x12 x13 ((rd_T41 x12 x13).f0.f0) false) else (ratlineref11_Scan.j2 k x0 x1 x2 x3 x4 x11 x12 x13 ((rd_T41 x12 x13).f0.f0) (!(Op.bytesLess (((rd_T41 x12 x13).f0.f0).toList) x2.toList)))))) else (none)) else (none)) else (if (Op.bytesLess (((rd_T41 x12 x13).f0.f0).toList) x1.toList) = true then (ratlineref11_Scan.j2 k x0 x1 x2 x3 x4 x11 x12 x13 ((rd_T41 x12 x13).f0.f0) true) else (if x2.toList = ([] : List UInt8) then (ratlineref11_Scan.j2 k x0 x1 x2 x3 x4 x11 x12 x13 ((rd_T41 x12 x13).f0.f0) false) else (ratlineref11_Scan.j2 k x0 x1 x2 x3 x4 x11 x12 x13 ((rd_T41 x12 x13).f0.f0) (!(Op.bytesLess (((rd_T41 x12 x13).f0.f0).toList) x2.toList)))))) else (none)) else (none)) else (some x11)
def ratlineref11_Scan.j2 : Nat → List (List (S41)) → ByteArray → ByteArray → Int → Int → List (S37) → List (S41) → Int → ByteArray → Bool → Option ((List (S37)))
  | 0, _, _, _, _, _, _, _, _, _, _ => none
  | k + 1, x0, x1, x2, x3, x4, x11, x12, x13, x14, x63 => if x63 = true then (ratlineref11_Scan.l0 k x0 x1 x2 x3 x4 x11 x12 (wrap64 (x13 + 1))) else ((ratlineref11_Get.f k x0 x14 x3).bind fun bt247 => (if bt247.2 = true then (if x11.length < 4398046511104 then (ratlineref11_Scan.l0 k x0 x1 x2 x3 x4 (x11 ++ [(⟨x14, bt247.1⟩ : S37)]) x12 (wrap64 (x13 + 1))) else (none)) else (ratlineref11_Scan.l0 k x0 x1 x2 x3 x4 x11 x12 (wrap64 (x13 + 1)))))
end
def ratlineref11_Scan.f (k : Nat) (l0 : List (List (S41))) (a1 : ByteArray) (a2 : ByteArray) (a3 : Int) (a4 : Int) : Option ((List (S37))) := (ratlineref11_All.f k l0).bind fun t242 => (ratlineref11_Scan.l0 k l0 a1 a2 a3 a4 ([] : List (S37)) t242 0)
end Go.Proofs.Ytojemmipkpckbaa.P

end

section
namespace Go.Proofs.Ytojemmipkpckbaa.P
open Go.RowKit Go.Proofs.YtojemmipkpckbaaG Go.Proofs.YtojemmipkpckbaaW.PrintWords Go.Proofs.YtojemmipkpckbaaW.PrintLast Go.Proofs.YtojemmipkpckbaaW.PrintMore
attribute [local go_sem] str_gtr str_geq str_leq max2_int min2_int max_two min_two max_three min_three max_four min_four   -- for this text's walks alone
set_option linter.unusedVariables false
set_option linter.unusedSimpArgs false

theorem eqA37 (d : Nat) (w : World) (x0 y0 : ByteArray) (x1 y1 : ByteArray) :
    (Op.equalIn (d + 2) 37 (.agg #[.string x0, .string x1]) (.agg #[.string y0, .string y1])).run Try.prog w = .ok (x0.toList == y0.toList && (x1.toList == y1.toList)) w := by
  refine eqA_of Try.underlying37 (by kernel_rfl) ?_
  refine eqf_cons (by rfl) (by go_simp; rfl) (by go_simp; rfl) (by go_simp) ?_
  exact eqf_last (by rfl) (by go_simp; rfl) (by go_simp; rfl) (by go_simp)
end Go.Proofs.Ytojemmipkpckbaa.P

end

section
namespace Go.Proofs.Ytojemmipkpckbaa.P
open Go.RowKit Go.Proofs.YtojemmipkpckbaaG Go.Proofs.YtojemmipkpckbaaW.PrintWords Go.Proofs.YtojemmipkpckbaaW.PrintLast Go.Proofs.YtojemmipkpckbaaW.PrintMore
attribute [local go_sem] str_gtr str_geq str_leq max2_int min2_int max_two min_two max_three min_three max_four min_four   -- for this text's walks alone
set_option linter.unusedVariables false
set_option linter.unusedSimpArgs false

attribute [local go_sem high] eqA37
def ratlinelaw11_Pairs.l0 : Nat → List (S37) → List (S37) → Int → Int → Option (Bool)
  | 0, _, _, _, _ => none
  | k + 1, x0, x1, x12, x13 => if x13 < x12 then (if 0 ≤ x13 then (if x13 < (x0.length : Int) then (if x13 < (x1.length : Int) then (if (!((((rd_T37 x0 x13).f0).toList) == (((rd_T37 x1 x13).f0).toList)) || (!((((rd_T37 x0 x13).f1).toList) == (((rd_T37 x1 x13).f1).toList)))) = true then (some false) else (ratlinelaw11_Pairs.l0 k x0 x1 x12 (wrap64 (x13 + 1)))) else (none)) else (none)) else (none)) else (some true)
def ratlinelaw11_Pairs.f (k : Nat) (l0 : List (S37)) (l1 : List (S37)) : Option (Bool) := if (l0.length : Int) = (l1.length : Int) then (ratlinelaw11_Pairs.l0 k l0 l1 (l0.length : Int) 0) else (some false)
set_option maxHeartbeats 8000000 in
set_option maxRecDepth 100000 in
theorem ratlinelaw11_Pairs.calls (k : Nat) (A0 : Option Addr) (c0 : Nat) (l0 : List (S37)) (A1 : Option Addr) (c1 : Nat) (l1 : List (S37)) (r : Bool) (w : World) (hr0 : Kd.C k37 w A0 l0.length l0) (hc0 : l0.length ≤ c0) (hr1 : Kd.C k37 w A1 l1.length l1) (hc1 : l1.length ≤ c1) (h : ratlinelaw11_Pairs.f k l0 l1 = some r) :
    Calls Try.prog 21 #[.slice A0 l0.length c0, .slice A1 l1.length c1] w fun e w' => e = .returned (.bool r) ∧ Drawn0 w w' := by
  have hu37 := Try.underlying37
  have HR0 := Aside0.mk hr0
  have HC0 := Aside0.mk hc0
  clear hr0 hc0
  have HR1 := Aside0.mk hr1
  have HC1 := Aside0.mk hc1
  clear hr1 hc1
  have H : (if (l0.length : Int) = (l1.length : Int) then (ratlinelaw11_Pairs.l0 k l0 l1 (l0.length : Int) 0) else (some false)) = some r := h
  clear h
  by_cases c3 : (l0.length : Int) = (l1.length : Int)
  · rw [if_pos c3] at H
    have c3b0 : ((l0.length : Int) == (l1.length : Int)) = true := beq_iff_eq.mpr c3
    have c3b1 : ((l0.length : Int) != (l1.length : Int)) = false := bne_eq_false_iff_eq.mpr c3
    have c3b2 : (l0.length == l1.length) = true := by first | simpa using c3 | (simp at c3 ⊢; omega)
    clear c3
    have H' := Aside0.mk H
    clear H
    go_enter Try.func21, Try.ntmps21
    go_wp2
    repeat (go_quiet (fail); try go_wp2)
    go_loopg [13] k (fun kq v13 w' => ∃ (x13_1 : Int), v13 = .int .i64 x13_1 ∧ Aside0 (ratlinelaw11_Pairs.l0 kq l0 l1 (l0.length : Int) x13_1 = some r) ∧ Aside0 (kq ≤ k) ∧ Drawn0 w w')
    case atStart => exact ⟨(0), (by first | rfl | (simp; done) | (simp [*]; done)), H', ⟨Nat.le_refl _⟩, by repeat (first | exact Drawn0.refl _ | apply Drawn0.step)⟩
    case round =>
      clear H'
      try clear c1
      try clear c2
      try clear p2
      try clear c3
      try clear c3b0
      try clear c3b1
      try clear c3b2
      obtain ⟨x13_1, rfl, HA, HK1, ⟨m1, rfl⟩⟩ := hrel
      cases gk with
      | zero => exact absurd HA.out (by simp [ratlinelaw11_Pairs.l0])
      | succ k1 =>
        have H := HA.out
        clear HA
        simp only [ratlinelaw11_Pairs.l0] at H
        by_cases c4 : x13_1 < (l0.length : Int)
        · rw [if_pos c4] at H
          have c4b0 : decide (x13_1 < (l0.length : Int)) = true := decide_eq_true c4
          clear c4
          by_cases c5 : 0 ≤ x13_1
          · rw [if_pos c5] at H
            have c5b0 : decide (0 ≤ x13_1) = true := decide_eq_true c5
            clear c5
            by_cases c6 : x13_1 < (l0.length : Int)
            · rw [if_pos c6] at H
              have c6b0 : decide (x13_1 < (l0.length : Int)) = true := decide_eq_true c6
              clear c6
              by_cases c7 : x13_1 < (l1.length : Int)
              · rw [if_pos c7] at H
                have c7b0 : decide (x13_1 < (l1.length : Int)) = true := decide_eq_true c7
                clear c7
                by_cases c8 : (!((((rd_T37 l0 x13_1).f0).toList) == (((rd_T37 l1 x13_1).f0).toList)) || (!((((rd_T37 l0 x13_1).f1).toList) == (((rd_T37 l1 x13_1).f1).toList)))) = true
                · rw [if_pos c8] at H
                  have c8b0 : (!((((rd_T37 l0 x13_1).f0).toList) == (((rd_T37 l1 x13_1).f0).toList)) || (!((((rd_T37 l0 x13_1).f1).toList) == (((rd_T37 l1 x13_1).f1).toList)))) = true := c8
                  clear c8
                  obtain rfl := Option.some.inj H
                  have p137 : 0 ≤ (x13_1 : Int) := of_decide_eq_true (by first | (with_reducible assumption) | assumption)
                  have q137 : x13_1 < (l0.length : Int) := of_decide_eq_true (by first | (with_reducible assumption) | assumption)
                  obtain ⟨ad137, e137, hx137_0, hx137_1⟩ := at_T37 HR0.out x13_1 p137 q137
                  cases e137
                  replace p137 := eq_true p137
                  replace q137 := eq_true q137
                  have p138 : 0 ≤ (x13_1 : Int) := of_decide_eq_true (by first | (with_reducible assumption) | assumption)
                  have q138 : x13_1 < (l1.length : Int) := of_decide_eq_true (by first | (with_reducible assumption) | assumption)
                  obtain ⟨ad138, e138, hx138_0, hx138_1⟩ := at_T37 HR1.out x13_1 p138 q138
                  cases e138
                  replace p138 := eq_true p138
                  replace q138 := eq_true q138
                  go_wp2
                  repeat (go_quiet (fail); try go_wp2)
                  go_ret
                  exact ⟨by first | rfl | (simp; done) | (simp [*]; done), by repeat (first | exact Drawn0.refl _ | apply Drawn0.step)⟩
                · rw [if_neg c8] at H
                  have c8b0 : (!((((rd_T37 l0 x13_1).f0).toList) == (((rd_T37 l1 x13_1).f0).toList)) || (!((((rd_T37 l0 x13_1).f1).toList) == (((rd_T37 l1 x13_1).f1).toList)))) = false := by simpa using c8
                  clear c8
                  have H' := Aside0.mk H
                  clear H
                  have p137 : 0 ≤ (x13_1 : Int) := of_decide_eq_true (by first | (with_reducible assumption) | assumption)
                  have q137 : x13_1 < (l0.length : Int) := of_decide_eq_true (by first | (with_reducible assumption) | assumption)
                  obtain ⟨ad137, e137, hx137_0, hx137_1⟩ := at_T37 HR0.out x13_1 p137 q137
                  cases e137
                  replace p137 := eq_true p137
                  replace q137 := eq_true q137
                  have p138 : 0 ≤ (x13_1 : Int) := of_decide_eq_true (by first | (with_reducible assumption) | assumption)
                  have q138 : x13_1 < (l1.length : Int) := of_decide_eq_true (by first | (with_reducible assumption) | assumption)
                  obtain ⟨ad138, e138, hx138_0, hx138_1⟩ := at_T37 HR1.out x13_1 p138 q138
                  cases e138
                  replace p138 := eq_true p138
                  replace q138 := eq_true q138
                  go_wp2
                  repeat (go_quiet (fail); try go_wp2)
                  go_roundg k1
                  case measure => have := HK1.out; omega
                  case rel => exact ⟨(wrap64 (x13_1 + 1)), (by first | rfl | (simp; done) | (simp [*]; done)), H', ⟨by have := HK1.out; omega⟩, by repeat (first | exact Drawn0.refl _ | apply Drawn0.step)⟩
              · rw [if_neg c7] at H
                exact absurd H (by simp)
            · rw [if_neg c6] at H
              exact absurd H (by simp)
          · rw [if_neg c5] at H
            exact absurd H (by simp)
        · rw [if_neg c4] at H
          have c4b0 : decide (x13_1 < (l0.length : Int)) = false := decide_eq_false c4
          clear c4
          obtain rfl := Option.some.inj H
          go_wp2
          repeat (go_quiet (fail); try go_wp2)
          go_ret
          exact ⟨by first | rfl | (simp; done) | (simp [*]; done), by repeat (first | exact Drawn0.refl _ | apply Drawn0.step)⟩
  · rw [if_neg c3] at H
    have c3b0 : ((l0.length : Int) == (l1.length : Int)) = false := beq_eq_false_iff_ne.mpr c3
    have c3b1 : ((l0.length : Int) != (l1.length : Int)) = true := bne_iff_ne.mpr c3
    have c3b2 : (l0.length == l1.length) = false := by first | simpa using c3 | (simp at c3 ⊢; omega)
    obtain rfl := Option.some.inj H
    go_enter Try.func21, Try.ntmps21
    go_wp2
    repeat (go_quiet (fail); try go_wp2)
    go_ret
    exact ⟨by first | rfl | (simp; done) | (simp [*]; done), by repeat (first | exact Drawn0.refl _ | apply Drawn0.step)⟩

end Go.Proofs.Ytojemmipkpckbaa.P

end

section
set_option linter.unusedVariables false
namespace Go.Proofs.YtojemmipkpckbaaL
open Go Go.RowKit Go.Proofs.YtojemmipkpckbaaG Go.Proofs.Ytojemmipkpckbaa.P Go.Proofs.YtojemmipkpckbaaW.PrintWords Go.Proofs.YtojemmipkpckbaaW.PrintMore

def okL (l : List MEn) : Bool := (decide (∀ e ∈ l, Short e) && decide ((l.length : Int) ≤ 60)) && risesB l
def fineB (L : List (List MEn)) : Bool := L.all okL && (decide (L.length ≤ 12) && decide (mSize L ≤ 120))
theorem fine_loop (L : List (List MEn)) (hl : L.length ≤ 10000000000000) (hin : ∀ l ∈ L, l.length ≤ 9223372036854775807) : ∀ (m j n : Nat), j + m = L.length → n ≤ 60 * j →
    Ev (fun k => ratlinelaw11_Fine.l0 k L (n : Int) L (L.length : Int) (j : Int)) ((L.drop j).all okL && (decide (L.length ≤ 12) && decide (n + mSize (L.drop j) ≤ 120))) := by
  intro m
  induction m with
  | zero =>
    intro j n hj hn
    obtain rfl : j = L.length := by omega
    refine ev_step (fun k => by rw [ratlinelaw11_Fine.l0, if_neg (Int.lt_irrefl _)]) ?_
    rw [List.drop_length]
    show Ev _ (decide (L.length ≤ 12) && decide (n + 0 ≤ 120))
    by_cases h : L.length ≤ 12
    · refine ev_pos (by omega) ?_
      rw [decide_eq_true h, Bool.true_and, show decide ((n : Int) ≤ 120) = decide (n + 0 ≤ 120) from decide_eq_decide.2 (by omega)]
      exact ev_some _
    · refine ev_neg (by omega) ?_
      rw [decide_eq_false h, Bool.false_and]
      exact ev_some _
  | succ m ih =>
    intro j n hj hn
    have hlt : j < L.length := by omega
    obtain ⟨l, hat⟩ : ∃ l, L[j]? = some l := ⟨_, List.getElem?_eq_getElem hlt⟩
    have hd : L.drop j = l :: L.drop (j + 1) := by
      rw [List.drop_eq_getElem_cons hlt]
      congr 1
      rw [List.getElem?_eq_getElem hlt] at hat
      exact Option.some.inj hat
    have hll := hin l (List.mem_of_getElem? hat)
    refine ev_step (fun k => by rw [ratlinelaw11_Fine.l0, if_pos (by omega), if_pos (by omega), if_pos (by omega), rd_ls L hat, up1 (by omega)]) ?_
    rw [hd, List.all_cons, show mSize (l :: L.drop (j + 1)) = l.length + mSize (L.drop (j + 1)) from rfl]
    refine ev_call (ev_of (l.length + 1) (fun k => by rw [show k + (l.length + 1) = l.length + k + 1 from by omega]; exact few_f' l 60 hll k)) ?_
    unfold okL
    by_cases hf : (decide (∀ e ∈ l, Short e) && decide ((l.length : Int) ≤ 60)) = true
    · rw [hf]
      have hs : l.length ≤ 60 := by
        have := (Bool.and_eq_true _ _ ▸ hf).2
        have := of_decide_eq_true this
        omega
      refine ev_pos rfl (ev_call (ev_of 200 (fun k => rrising_k (by omega) k)) ?_)
      by_cases hr : risesB l = true
      · rw [hr]
        refine ev_pos rfl ?_
        have hw : wrap64 ((n : Int) + (l.length : Int)) = ((n + l.length : Nat) : Int) := by unfold wrap64; omega
        rw [hw]
        have := ih (j + 1) (n + l.length) (by omega) (by omega)
        rw [Nat.add_assoc] at this
        exact this
      · rw [Bool.eq_false_iff.2 hr]
        exact ev_neg (by decide) (ev_some _)
    · rw [Bool.eq_false_iff.2 hf]
      exact ev_neg (by decide) (ev_some _)
theorem fine_ev (L : List (List MEn)) (hl : L.length ≤ 10000000000000) (hin : ∀ l ∈ L, l.length ≤ 9223372036854775807) : Ev (fun k => ratlinelaw11_Fine.f k L) (fineB L) := by
  have := fine_loop L hl hin L.length 0 0 (by omega) (by omega)
  rw [List.drop_zero, Nat.zero_add] at this
  exact this
theorem fine_fits {L : List (List MEn)} (h : fineB L = true) : Rises L ∧ L.length ≤ 12 ∧ mSize L ≤ 120 ∧ mFits L := by
  unfold fineB at h
  rw [Bool.and_eq_true, Bool.and_eq_true] at h
  obtain ⟨h1, h2, h3⟩ := h
  have h2 := of_decide_eq_true h2
  have h3 := of_decide_eq_true h3
  refine ⟨fun l hl => ?_, h2, h3, ⟨by omega, by omega⟩⟩
  have := List.all_eq_true.1 h1 l hl
  unfold okL at this
  rw [Bool.and_eq_true] at this
  exact this.2
theorem entries_loop (l : List MEn) (hl : l.length < 1000000000) : ∀ (m j : Nat), j + m = l.length → Ev (fun k => ratlinelaw04_Entries.l0 k l l (l.length : Int) (j : Int)) true := by
  intro m
  induction m with
  | zero =>
    intro j hj
    obtain rfl : j = l.length := by omega
    exact ev_step (fun k => by rw [ratlinelaw04_Entries.l0, if_neg (Int.lt_irrefl _)]) (ev_some _)
  | succ m ih =>
    intro j hj
    refine ev_step (fun k => by rw [ratlinelaw04_Entries.l0, if_pos (by omega), if_pos (by omega), if_pos (by omega), if_pos (by omega), up1 (by omega)]) ?_
    exact ev_neg (by simp) (ih (j + 1) (by omega))
theorem entries_same (l : List MEn) (hl : l.length < 1000000000) : Ev (fun k => ratlinelaw04_Entries.f k l l) true := by
  unfold ratlinelaw04_Entries.f
  exact ev_pos rfl (entries_loop l hl l.length 0 (by omega))
theorem pairs_loop (l : List MPr) (hl : l.length < 1000000000) : ∀ (m j : Nat), j + m = l.length → Ev (fun k => ratlinelaw11_Pairs.l0 k l l (l.length : Int) (j : Int)) true := by
  intro m
  induction m with
  | zero =>
    intro j hj
    obtain rfl : j = l.length := by omega
    exact ev_step (fun k => by rw [ratlinelaw11_Pairs.l0, if_neg (Int.lt_irrefl _)]) (ev_some _)
  | succ m ih =>
    intro j hj
    refine ev_step (fun k => by rw [ratlinelaw11_Pairs.l0, if_pos (by omega), if_pos (by omega), if_pos (by omega), if_pos (by omega), up1 (by omega)]) ?_
    exact ev_neg (by simp) (ih (j + 1) (by omega))
theorem pairs_same (l : List MPr) (hl : l.length < 1000000000) : Ev (fun k => ratlinelaw11_Pairs.f k l l) true := by
  unfold ratlinelaw11_Pairs.f
  exact ev_pos rfl (pairs_loop l hl l.length 0 (by omega))
end Go.Proofs.YtojemmipkpckbaaL

end

section
namespace Go.Proofs.Ytojemmipkpckbaa.P
open Go.RowKit Go.Proofs.YtojemmipkpckbaaG Go.Proofs.YtojemmipkpckbaaW.PrintWords Go.Proofs.YtojemmipkpckbaaW.PrintLast Go.Proofs.YtojemmipkpckbaaW.PrintMore
attribute [local go_sem] str_gtr str_geq str_leq max2_int min2_int max_two min_two max_three min_three max_four min_four   -- for this text's walks alone
set_option linter.unusedVariables false
set_option linter.unusedSimpArgs false

-- GIVEN: function 22 (merge_Scan)

def ratlinelaw11_entry.f (a0 : ByteArray) (a1 : Int) (a2 : Int) (a3 : ByteArray) : Option (ByteArray × Int × Int × ByteArray) := some (a0, a1, a2, a3)
set_option maxHeartbeats 8000000 in
set_option maxRecDepth 100000 in
theorem ratlinelaw11_entry.calls (a0 : ByteArray) (a1 : Int) (a2 : Int) (a3 : ByteArray) (r1 : ByteArray) (r2 : Int) (r3 : Int) (r4 : ByteArray) (w : World) (h : ratlinelaw11_entry.f a0 a1 a2 a3 = some (r1, r2, r3, r4)) :
    Calls Try.prog 42 #[.string a0, .int .u64 a1, .int .u8 a2, .string a3] w fun e w' => e = .returned (.agg #[.string r1, .int .u64 r2, .int .u8 r3, .string r4]) ∧ Below w.heap.size w w' := by
  have hu41 := Try.underlying41
  have hu39 := Try.underlying39
  have HB := Aside0.mk (Below.refl w.heap.size w)
  have H : (some (a0, a1, a2, a3)) = some (r1, r2, r3, r4) := h
  clear h
  simp only [Option.some.injEq, Prod.mk.injEq] at H
  obtain ⟨rfl, rfl, rfl, rfl⟩ := H
  go_enter Try.func42, Try.ntmps42
  go_wp2_with (first | ((with_reducible refine gate_dst (N := 8) rfl ?_); refine box_event ?hg (N := 8) ?hd (cs := #[.string (⟨#[]⟩ : ByteArray), .int .u64 0, .int .u8 0, .string (⟨#[]⟩ : ByteArray)]) (t := 41) ?hr ?_; (case hd => rfl); (case hg => rfl); (case hr => first | (go_simp; done) | (go_simp; rfl)); intro gb139 hg w5 hbox hb; have n0_ := Aside0.mk (below_step (by repeat (first | (with_reducible first | exact HB.out | apply below_alloc | apply pw_below_drewN | apply below_drew1) | exact HB.out)) hb); have n1_ := Aside0.mk (hbox); have n2_ := Aside0.mk ((by rw [hg]; exact (below_size (by repeat (first | (with_reducible first | exact HB.out | apply below_alloc | apply pw_below_drewN | apply below_drew1) | exact HB.out))) : w.heap.size ≤ gb139)); have n3_ := Aside0.mk ((by rw [hg]; exact (below_size (by repeat (first | (with_reducible first | exact HB.out | apply below_alloc | apply pw_below_drewN | apply below_drew1) | exact HB.out))) : w.heap.size ≤ gb139)); clear HB; have HB := n0_; have BK139 := n1_; have GW139 := n2_; have GE139 := n3_; clear n0_ n1_ n2_ n3_; clear hb hbox hg; have hcz6_0 : w5.cell? ⟨gb139, 0, none⟩ = some (.string (⟨#[]⟩ : ByteArray)) := (blk_cell BK139.out 0).trans rfl; have hcz6_1 : w5.cell? ⟨gb139, 1, none⟩ = some (.int .u64 0) := (blk_cell BK139.out 1).trans rfl; have hcz6_2 : w5.cell? ⟨gb139, 2, none⟩ = some (.int .u8 0) := (blk_cell BK139.out 2).trans rfl; have hcz6_3 : w5.cell? ⟨gb139, 3, none⟩ = some (.string (⟨#[]⟩ : ByteArray)) := (blk_cell BK139.out 3).trans rfl; have hfz6_0 := blk_frozen BK139.out 0; have hfz6_1 := blk_frozen BK139.out 1; have hfz6_2 := blk_frozen BK139.out 2; have hfz6_3 := blk_frozen BK139.out 3))
  refine bodyPost_ret (results_cell_row rfl _ _ gb139 41 #[.string a0, .int .u64 a1, .int .u8 a2, .string a3] (0, 0) _ rfl (by (with_reducible repeat (first | refine blk_drewN ?_ _ | refine blk_drew ?_ | refine blk_alloc ?_ _)); refine blk_put (cs := #[.string a0, .int .u64 a1, .int .u8 a2, .string (⟨#[]⟩ : ByteArray)]) ?_ 3 _ rfl; (with_reducible repeat (first | refine blk_drewN ?_ _ | refine blk_drew ?_ | refine blk_alloc ?_ _)); refine blk_put (cs := #[.string a0, .int .u64 a1, .int .u8 0, .string (⟨#[]⟩ : ByteArray)]) ?_ 2 _ rfl; (with_reducible repeat (first | refine blk_drewN ?_ _ | refine blk_drew ?_ | refine blk_alloc ?_ _)); refine blk_put (cs := #[.string a0, .int .u64 0, .int .u8 0, .string (⟨#[]⟩ : ByteArray)]) ?_ 1 _ rfl; (with_reducible repeat (first | refine blk_drewN ?_ _ | refine blk_drew ?_ | refine blk_alloc ?_ _)); refine blk_put (cs := #[.string (⟨#[]⟩ : ByteArray), .int .u64 0, .int .u8 0, .string (⟨#[]⟩ : ByteArray)]) ?_ 0 _ rfl; (with_reducible repeat (first | refine blk_drewN ?_ _ | refine blk_drew ?_ | refine blk_alloc ?_ _)); exact BK139.out) Try.underlying41 rfl (by kernel_rfl)) rfl ?_
  exact ⟨by first | rfl | (simp [errW_none, errW_some] <;> rfl) | (simp [*, errW_none, errW_some] <;> rfl), by repeat (first | (with_reducible first | exact HB.out | apply below_alloc | apply pw_below_drewN | apply below_drew1 | refine below_set ?_ GE139.out) | exact HB.out)⟩

end Go.Proofs.Ytojemmipkpckbaa.P

end
