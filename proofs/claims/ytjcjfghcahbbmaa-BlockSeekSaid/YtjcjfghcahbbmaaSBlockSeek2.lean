/- Proved here: what the row of BlockSeek needs, part 2. Conditions: those of each theorem. Written for this claim by programs; what the claim does not use is left out. -/
import Derived.Lib.Strings
import Derived.Deep.RegionLaw
import Derived.Test.YtjcjfghcahbbmaaSBlockSeek1
section
namespace Go.Proofs.Ytjcjfghcahbbmaa.P
open Go.RowKit Go.Proofs.YtjcjfghcahbbmaaG Go.Proofs.YtjcjfghcahbbmaaW.PrintWords Go.Proofs.YtjcjfghcahbbmaaW.PrintLast Go.Proofs.YtjcjfghcahbbmaaW.PrintMore
attribute [local go_sem] str_gtr str_geq str_leq max2_int min2_int max_two min_two max_three min_three max_four min_four   -- for this text's walks alone
set_option linter.unusedVariables false
set_option linter.unusedSimpArgs false

mutual
def block_entries.l0 : Nat → List Int → List (S59) → ByteArray → Option ((List (S59)) × Bool)
  | 0, _, _, _ => none
  | k + 1, x0, x4, x5 => if (x0.length : Int) > 0 then (block_entries.j1 k x0 x4 x5 (decide ((x4.length : Int) ≤ 64))) else (block_entries.j1 k x0 x4 x5 false)
def block_entries.j1 : Nat → List Int → List (S59) → ByteArray → Bool → Option ((List (S59)) × Bool)
  | 0, _, _, _, _ => none
  | k + 1, x0, x4, x5, x21 => if x21 = true then (if ((x4.length : Int) % 4) = 0 then (block_entries.j2 k x0 x4 (⟨#[]⟩ : ByteArray)) else (block_entries.j2 k x0 x4 x5)) else (some (x4, true))
def block_entries.j2 : Nat → List Int → List (S59) → ByteArray → Option ((List (S59)) × Bool)
  | 0, _, _, _ => none
  | k + 1, x0, x4, x5 => (nums_Take.f x0).bind fun bt176 => ((nums_TakeText.f bt176.2.1 64).bind fun bt181 => ((nums_Take.f bt181.2.1).bind fun bt186 => (if bt176.2.2 = true then (if bt181.2.2 = true then (if bt186.2.2 = true then (block_entries.j3 k x4 x5 bt176.1 bt186.2.1 bt181.1 bt186.1 (decide (bt176.1 > (IntKind.u64.wrap ((x5.size : Int)))))) else (block_entries.j3 k x4 x5 bt176.1 bt186.2.1 bt181.1 bt186.1 true)) else (block_entries.j3 k x4 x5 bt176.1 bt186.2.1 bt181.1 bt186.1 true)) else (block_entries.j3 k x4 x5 bt176.1 bt186.2.1 bt181.1 bt186.1 true))))
def block_entries.j3 : Nat → List (S59) → ByteArray → Int → List Int → ByteArray → Int → Bool → Option ((List (S59)) × Bool)
  | 0, _, _, _, _, _, _, _ => none
  | k + 1, x4, x5, x6, x7, x9, x11, x60 => if x60 = true then (some (([] : List (S59)), false)) else (if 0 ≤ x6 then (if x6 ≤ (x5.size : Int) then (if (x5.extract 0 (x6 : Int).toNat).size + x9.size ≤ 9223372036854775807 then (if ((Go.bits .and .u64 x11 1) % 256) = 1 then ((nums_TakeText.f x7 256).bind fun bt192 => (if bt192.2.2 = true then (if x4.length < 2932031007402 then (block_entries.l0 k bt192.2.1 (x4 ++ [(⟨(⟨(x5.extract 0 (x6 : Int).toNat) ++ x9, x11 / 2, (Go.bits .and .u64 x11 1) % 256⟩ : S50), bt192.1⟩ : S59)]) ((x5.extract 0 (x6 : Int).toNat) ++ x9)) else (none)) else (some (([] : List (S59)), false)))) else (if x4.length < 2932031007402 then (block_entries.l0 k x7 (x4 ++ [(⟨(⟨(x5.extract 0 (x6 : Int).toNat) ++ x9, x11 / 2, (Go.bits .and .u64 x11 1) % 256⟩ : S50), (⟨#[]⟩ : ByteArray)⟩ : S59)]) ((x5.extract 0 (x6 : Int).toNat) ++ x9)) else (none))) else (none)) else (none)) else (none))
end
def block_entries.f (k : Nat) (l0 : List Int) : Option ((List (S59)) × Bool) := block_entries.l0 k l0 ([] : List (S59)) (⟨#[]⟩ : ByteArray)
theorem block_entries.mono_l : ∀ k, (∀ y0 y1 y2, LeO (block_entries.l0 k y0 y1 y2) (block_entries.l0 (k + 1) y0 y1 y2)) ∧ (∀ y0 y1 y2 y3, LeO (block_entries.j1 k y0 y1 y2 y3) (block_entries.j1 (k + 1) y0 y1 y2 y3)) ∧ (∀ y0 y1 y2, LeO (block_entries.j2 k y0 y1 y2) (block_entries.j2 (k + 1) y0 y1 y2)) ∧ (∀ y0 y1 y2 y3 y4 y5 y6, LeO (block_entries.j3 k y0 y1 y2 y3 y4 y5 y6) (block_entries.j3 (k + 1) y0 y1 y2 y3 y4 y5 y6))
  | 0 => ⟨fun _ _ _ r h => by simp [block_entries.l0] at h, fun _ _ _ _ r h => by simp [block_entries.j1] at h, fun _ _ _ r h => by simp [block_entries.j2] at h, fun _ _ _ _ _ _ _ r h => by simp [block_entries.j3] at h⟩
  | k + 1 => by
    obtain ⟨ih0, ih1, ih2, ih3⟩ := block_entries.mono_l k
    refine ⟨?_, ?_, ?_, ?_⟩
    · intro y0 y1 y2
      unfold block_entries.l0
      repeat' first
      | (with_reducible exact ih0 _ _ _)
      | (with_reducible exact ih1 _ _ _ _)
      | (with_reducible exact ih2 _ _ _)
      | (with_reducible exact ih3 _ _ _ _ _ _ _)
      | (with_reducible exact LeO.refl _)
      | (with_reducible exact LeO.none _)
      | (with_reducible refine LeO.ite ?_ ?_)
      | (with_reducible refine LeO.bind ?_ (fun _ => ?_))
      | exact ih0 _ _ _
      | exact ih1 _ _ _ _
      | exact ih2 _ _ _
      | exact ih3 _ _ _ _ _ _ _
      | exact LeO.none _
      | refine LeO.ite ?_ ?_
      | refine LeO.bind ?_ (fun _ => ?_)
    · intro y0 y1 y2 y3
      unfold block_entries.j1
      repeat' first
      | (with_reducible exact ih0 _ _ _)
      | (with_reducible exact ih1 _ _ _ _)
      | (with_reducible exact ih2 _ _ _)
      | (with_reducible exact ih3 _ _ _ _ _ _ _)
      | (with_reducible exact LeO.refl _)
      | (with_reducible exact LeO.none _)
      | (with_reducible refine LeO.ite ?_ ?_)
      | (with_reducible refine LeO.bind ?_ (fun _ => ?_))
      | exact ih0 _ _ _
      | exact ih1 _ _ _ _
      | exact ih2 _ _ _
      | exact ih3 _ _ _ _ _ _ _
      | exact LeO.none _
      | refine LeO.ite ?_ ?_
      | refine LeO.bind ?_ (fun _ => ?_)
    · intro y0 y1 y2
      unfold block_entries.j2
      repeat' first
      | (with_reducible exact ih0 _ _ _)
      | (with_reducible exact ih1 _ _ _ _)
      | (with_reducible exact ih2 _ _ _)
      | (with_reducible exact ih3 _ _ _ _ _ _ _)
      | (with_reducible exact LeO.refl _)
      | (with_reducible exact LeO.none _)
      | (with_reducible refine LeO.ite ?_ ?_)
      | (with_reducible refine LeO.bind ?_ (fun _ => ?_))
      | exact ih0 _ _ _
      | exact ih1 _ _ _ _
      | exact ih2 _ _ _
      | exact ih3 _ _ _ _ _ _ _
      | exact LeO.none _
      | refine LeO.ite ?_ ?_
      | refine LeO.bind ?_ (fun _ => ?_)
    · intro y0 y1 y2 y3 y4 y5 y6
      unfold block_entries.j3
      repeat' first
      | (with_reducible exact ih0 _ _ _)
      | (with_reducible exact ih1 _ _ _ _)
      | (with_reducible exact ih2 _ _ _)
      | (with_reducible exact ih3 _ _ _ _ _ _ _)
      | (with_reducible exact LeO.refl _)
      | (with_reducible exact LeO.none _)
      | (with_reducible refine LeO.ite ?_ ?_)
      | (with_reducible refine LeO.bind ?_ (fun _ => ?_))
      | exact ih0 _ _ _
      | exact ih1 _ _ _ _
      | exact ih2 _ _ _
      | exact ih3 _ _ _ _ _ _ _
      | exact LeO.none _
      | refine LeO.ite ?_ ?_
      | refine LeO.bind ?_ (fun _ => ?_)
theorem block_entries.mono : ∀ a0 k, LeO (block_entries.f k a0) (block_entries.f (k + 1) a0) := by
  intro a0 k
  obtain ⟨ih0, ih1, ih2, ih3⟩ := block_entries.mono_l k
  unfold block_entries.f
  repeat' first
      | (with_reducible exact ih0 _ _ _)
      | (with_reducible exact ih1 _ _ _ _)
      | (with_reducible exact ih2 _ _ _)
      | (with_reducible exact ih3 _ _ _ _ _ _ _)
      | (with_reducible exact LeO.refl _)
      | (with_reducible exact LeO.none _)
      | (with_reducible refine LeO.ite ?_ ?_)
      | (with_reducible refine LeO.bind ?_ (fun _ => ?_))
      | exact ih0 _ _ _
      | exact ih1 _ _ _ _
      | exact ih2 _ _ _
      | exact ih3 _ _ _ _ _ _ _
      | exact LeO.none _
      | refine LeO.ite ?_ ?_
      | refine LeO.bind ?_ (fun _ => ?_)
def block_entries.T16 : Bool × List (List Nat × List Nat) := (true, [([], []), ([], []), ([1], [1]), ([0, 2], [0, 2]), ([], []), ([], []), ([5], [5]), ([6], [6]), ([3, 3, 0, 1, 2, 3], [0, 3]), ([4, 8, 0, 1, 2, 3, 4, 8], [4]), ([7, 9, 0, 1, 2, 3, 4, 5, 6, 7, 8, 9], [7])])
def block_entries.B16 : List Nat := [0, 0, 2, 7, 0, 0, 32, 96, 15, 287, 1023]
theorem block_entries.tab16 : rtab .any (opsOf Try.f58 16) = block_entries.T16 := by kernel_rfl
theorem block_entries.bits16 : waitsOk block_entries.T16.2 block_entries.B16 = true := by kernel_rfl
set_option maxHeartbeats 8000000 in
set_option maxRecDepth 100000 in
theorem block_entries.calls (k : Nat) (P0_ : Nat → Prop) (A0 : Option Addr) (c0 : Nat) (l0 : List Int) (r1 : List (S59)) (r2 : Bool) (w : World) (hs0 : Kd.V (Kd.int .u8) 5 w w.heap.size (fun k_ => P0_ k_) (.slice A0 l0.length c0) l0) (h : block_entries.f k l0 = some (r1, r2)) :
    Calls Try.prog 58 #[.slice A0 l0.length c0] w fun e w' => ∃ v0_ : Value, e = .returned (.tuple #[v0_, .bool r2]) ∧ Kd.R k59 59 w' w.heap.size (fun k_ => (w.heap.size ≤ k_)) v0_ r1 ∧ Below w.heap.size w w' := by
  have hu50 := Try.underlying50
  have hu59 := Try.underlying59
  have HO0 := Aside0.mk (show Kd.V (Kd.int .u8) 5 w w.heap.size (fun k_ => (P0_ k_ ∨ w.heap.size ≤ k_)) (.slice A0 l0.length c0) l0 from Kd.V_mono hs0 (fun k_ hk => .inl hk))
  have HB := Aside0.mk (Below.refl w.heap.size w)
  have H : (block_entries.l0 k l0 ([] : List (S59)) (⟨#[]⟩ : ByteArray)) = some (r1, r2) := h
  clear h
  have H' := Aside0.mk H
  clear H
  go_enter Try.func58, Try.ntmps58
  go_wp2
  go_loopg [0, 4, 5] k (fun kq v0 v4 v5 w' => ∃ (x0_1 : List Int) (x4_1 : List (S59)) (x5_1 : ByteArray), v5 = .string x5_1 ∧ Aside0 (block_entries.l0 kq x0_1 x4_1 x5_1 = some (r1, r2)) ∧ Aside0 (kq ≤ k) ∧ Aside0 (Kd.V (Kd.int .u8) 5 w' w.heap.size (fun k_ => (P0_ k_ ∨ w.heap.size ≤ k_) ∧ some k_ ≠ (v4 : Value).ownBlock) v0 x0_1) ∧ Aside0 (Kd.R k59 59 w' w.heap.size (fun k_ => (w.heap.size ≤ k_)) v4 x4_1) ∧ Aside0 (Below w.heap.size w w'))
  case atStart => exact ⟨(l0), (([] : List (S59))), ((⟨#[]⟩ : ByteArray)), (by first | rfl | (simp; done) | (simp [*]; done)), H', ⟨Nat.le_refl _⟩, ⟨by (with_reducible repeat (first | apply Kd.V_alloc | apply Kd.V_drewN | apply Kd.V_drew)); exact Kd.V_mono HO0.out (fun _ hk => ⟨hk, (by simp [Value.ownBlock])⟩)⟩, ⟨by first | exact Kd.R_nil _ _ _ _ _ | exact Kd.N_nil _ _ _ _ _ | exact Kd.V_nil _ _ _ _ _ | exact Kd.Q_nil _ _ _ _ _ | exact Kd.S_nil _ _ _ _ _⟩, ⟨by repeat (first | (with_reducible first | exact HB.out | apply below_alloc | apply pw_below_drewN | apply below_drew1) | exact HB.out)⟩⟩
  case round =>
    clear H'
    obtain ⟨x0_1, x4_1, x5_1, rfl, HA, HK1, HO_0, HO_4, HB⟩ := hrel
    cases gk with
    | zero => exact absurd HA.out (by simp [block_entries.l0])
    | succ k1 =>
      have H := HA.out
      clear HA
      simp only [block_entries.l0] at H
      have HC2 := Aside0.mk H
      clear H
      go_upto_region 3 with (fail)
      go_cut [21] (fun v21 wc => ∃ (kq : Nat) (x21_1 : Bool), v21 = .bool x21_1 ∧ Aside0 (block_entries.j1 kq x0_1 x4_1 x5_1 x21_1 = some (r1, r2)) ∧ Aside0 (kq ≤ k1) ∧ Aside0 (Kd.V (Kd.int .u8) 5 wc w.heap.size (fun k_ => (P0_ k_ ∨ w.heap.size ≤ k_) ∧ some k_ ≠ (u4 : Value).ownBlock) u0 x0_1) ∧ Aside0 (Kd.R k59 59 wc w.heap.size (fun k_ => (w.heap.size ≤ k_)) u4 x4_1) ∧ Aside0 (Below w.heap.size w wc))
      case first =>
        have H := HC2.out
        clear HC2
        by_cases c3 : (x0_1.length : Int) > 0
        · rw [if_pos c3] at H
          have c3b0 : decide (0 < (x0_1.length : Int)) = true := decide_eq_true c3
          have c3b1 : decide (0 < x0_1.length) = true := decide_eq_true (by omega)
          clear c3
          (first | rw [c3b0] | (simp only [i64_w, i32_w]; rw [c3b0]) | skip)
          have H' := Aside0.mk H
          clear H
          obtain ⟨Ao4, co4, eo4⟩ := Kd.V_slice HO_0.out
          subst eo4
          obtain ⟨Ao5, co5, eo5⟩ := Kd.R_slice HO_4.out
          subst eo5
          go_wp2
          go_meet
          case rel => exact ⟨_, (decide ((x4_1.length : Int) ≤ 64)), (by first | rfl | (simp; done) | (simp [*]; done)), H', ⟨by have := HK1.out; first | omega | exact Nat.le_refl _⟩, ⟨by (with_reducible repeat (first | apply Kd.V_alloc | apply Kd.V_drewN | apply Kd.V_drew)); exact HO_0.out⟩, ⟨by (with_reducible repeat (first | apply Kd.R_alloc | apply Kd.R_drewN | apply Kd.R_drew)); exact HO_4.out⟩, ⟨by repeat (first | (with_reducible first | exact HB.out | apply below_alloc | apply pw_below_drewN | apply below_drew1) | exact HB.out)⟩⟩
        · rw [if_neg c3] at H
          have c3b0 : decide (0 < (x0_1.length : Int)) = false := decide_eq_false c3
          have c3b1 : decide (0 < x0_1.length) = false := decide_eq_false (by omega)
          clear c3
          (first | rw [c3b0] | (simp only [i64_w, i32_w]; rw [c3b0]) | skip)
          have H' := Aside0.mk H
          clear H
          obtain ⟨Ao6, co6, eo6⟩ := Kd.V_slice HO_0.out
          subst eo6
          go_wp2
          go_meet
          case rel => exact ⟨_, (false), (by first | rfl | (simp; done) | (simp [*]; done)), H', ⟨by have := HK1.out; first | omega | exact Nat.le_refl _⟩, ⟨by (with_reducible repeat (first | apply Kd.V_alloc | apply Kd.V_drewN | apply Kd.V_drew)); exact HO_0.out⟩, ⟨by (with_reducible repeat (first | apply Kd.R_alloc | apply Kd.R_drewN | apply Kd.R_drew)); exact HO_4.out⟩, ⟨by repeat (first | (with_reducible first | exact HB.out | apply below_alloc | apply pw_below_drewN | apply below_drew1) | exact HB.out)⟩⟩
      case rest =>
        clear HC2
        try clear p2
        try clear c3
        try clear c3b0
        try clear c3b1
        try clear c5
        obtain ⟨kq, x21_1, rfl, HA, HJ1, HO_0, HO_4, HB⟩ := hcut
        cases kq with
        | zero => exact absurd HA.out (by simp [block_entries.j1])
        | succ kj1 =>
          have H := HA.out
          clear HA
          simp only [block_entries.j1] at H
          by_cases c7 : x21_1 = true
          · subst c7
            have H1 : (if ((x4_1.length : Int) % 4) = 0 then (block_entries.j2 kj1 x0_1 x4_1 (⟨#[]⟩ : ByteArray)) else (block_entries.j2 kj1 x0_1 x4_1 x5_1)) = some (r1, r2) := by rw [if_pos rfl] at H; exact H
            clear H
            have H := H1
            clear H1
            have HC8 := Aside0.mk H
            clear H
            obtain ⟨Ao9, co9, eo9⟩ := Kd.R_slice HO_4.out
            subst eo9
            go_upto_if 25 with (fail)
            go_cut [5] (fun v5 wc => ∃ (kq : Nat) (x5_7 : ByteArray), v5 = .string x5_7 ∧ Aside0 (block_entries.j2 kq x0_1 x4_1 x5_7 = some (r1, r2)) ∧ Aside0 (kq ≤ kj1) ∧ Aside0 (Kd.V (Kd.int .u8) 5 wc w.heap.size (fun k_ => (P0_ k_ ∨ w.heap.size ≤ k_) ∧ some k_ ≠ ((.slice Ao9 x4_1.length co9) : Value).ownBlock) u0 x0_1) ∧ Aside0 (Kd.R k59 59 wc w.heap.size (fun k_ => (w.heap.size ≤ k_)) (.slice Ao9 x4_1.length co9) x4_1) ∧ Aside0 (Below w.heap.size w wc))
            case first =>
              have H := HC8.out
              clear HC8
              by_cases c10 : ((x4_1.length : Int) % 4) = 0
              · rw [if_pos c10] at H
                have c10b0 : (((x4_1.length : Int) % 4) == 0) = true := beq_iff_eq.mpr c10
                have c10b1 : (((x4_1.length : Int) % 4) != 0) = false := bne_eq_false_iff_eq.mpr c10
                clear c10
                (first | rw [c10b0] | (simp only [i64_w, i32_w]; rw [c10b0]) | skip)
                have H' := Aside0.mk H
                clear H
                go_wp2
                go_meet
                case rel => exact ⟨_, ((⟨#[]⟩ : ByteArray)), (by first | rfl | (simp; done) | (simp [*]; done)), H', ⟨by have := HK1.out; have := HJ1.out; first | omega | exact Nat.le_refl _⟩, ⟨by (with_reducible repeat (first | apply Kd.V_alloc | apply Kd.V_drewN | apply Kd.V_drew)); exact HO_0.out⟩, ⟨by (with_reducible repeat (first | apply Kd.R_alloc | apply Kd.R_drewN | apply Kd.R_drew)); exact HO_4.out⟩, ⟨by repeat (first | (with_reducible first | exact HB.out | apply below_alloc | apply pw_below_drewN | apply below_drew1) | exact HB.out)⟩⟩
              · rw [if_neg c10] at H
                have c10b0 : (((x4_1.length : Int) % 4) == 0) = false := beq_eq_false_iff_ne.mpr c10
                have c10b1 : (((x4_1.length : Int) % 4) != 0) = true := bne_iff_ne.mpr c10
                (first | rw [c10b0] | (simp only [i64_w, i32_w]; rw [c10b0]) | skip)
                have H' := Aside0.mk H
                clear H
                go_wp2
                go_meet
                case rel => exact ⟨_, (x5_1), (by first | rfl | (simp; done) | (simp [*]; done)), H', ⟨by have := HK1.out; have := HJ1.out; first | omega | exact Nat.le_refl _⟩, ⟨by (with_reducible repeat (first | apply Kd.V_alloc | apply Kd.V_drewN | apply Kd.V_drew)); exact HO_0.out⟩, ⟨by (with_reducible repeat (first | apply Kd.R_alloc | apply Kd.R_drewN | apply Kd.R_drew)); exact HO_4.out⟩, ⟨by repeat (first | (with_reducible first | exact HB.out | apply below_alloc | apply pw_below_drewN | apply below_drew1) | exact HB.out)⟩⟩
            case rest =>
              clear HC8
              try clear c1
              try clear p2
              try clear c3
              try clear c3b0
              try clear c3b1
              try clear c5
              try clear c7
              try clear c10
              try clear c10b0
              try clear c10b1
              try clear p2
              obtain ⟨kq, x5_7, rfl, HA, HJ7, HO_0, HO_4, HB⟩ := hcut
              cases kq with
              | zero => exact absurd HA.out (by simp [block_entries.j2])
              | succ kj7 =>
                have H := HA.out
                clear HA
                simp only [block_entries.j2] at H
                replace H := Option.bind_eq_some_iff.mp H
                obtain ⟨⟨t176, t177, t178⟩, A110, H⟩ := H
                replace H : ((nums_TakeText.f t177 64).bind fun bt181 => ((nums_Take.f bt181.2.1).bind fun bt186 => (if t178 = true then (if bt181.2.2 = true then (if bt186.2.2 = true then (block_entries.j3 kj7 x4_1 x5_7 t176 bt186.2.1 bt181.1 bt186.1 (decide (t176 > (IntKind.u64.wrap ((x5_7.size : Int)))))) else (block_entries.j3 kj7 x4_1 x5_7 t176 bt186.2.1 bt181.1 bt186.1 true)) else (block_entries.j3 kj7 x4_1 x5_7 t176 bt186.2.1 bt181.1 bt186.1 true)) else (block_entries.j3 kj7 x4_1 x5_7 t176 bt186.2.1 bt181.1 bt186.1 true)))) = some (r1, r2) := H
                have A11 := Aside0.mk A110
                clear A110
                replace H := Option.bind_eq_some_iff.mp H
                obtain ⟨⟨t181, t182, t183⟩, A120, H⟩ := H
                replace H : ((nums_Take.f t182).bind fun bt186 => (if t178 = true then (if t183 = true then (if bt186.2.2 = true then (block_entries.j3 kj7 x4_1 x5_7 t176 bt186.2.1 t181 bt186.1 (decide (t176 > (IntKind.u64.wrap ((x5_7.size : Int)))))) else (block_entries.j3 kj7 x4_1 x5_7 t176 bt186.2.1 t181 bt186.1 true)) else (block_entries.j3 kj7 x4_1 x5_7 t176 bt186.2.1 t181 bt186.1 true)) else (block_entries.j3 kj7 x4_1 x5_7 t176 bt186.2.1 t181 bt186.1 true))) = some (r1, r2) := H
                have A12 := Aside0.mk A120
                clear A120
                replace H := Option.bind_eq_some_iff.mp H
                obtain ⟨⟨t186, t187, t188⟩, A130, H⟩ := H
                replace H : (if t178 = true then (if t183 = true then (if t188 = true then (block_entries.j3 kj7 x4_1 x5_7 t176 t187 t181 t186 (decide (t176 > (IntKind.u64.wrap ((x5_7.size : Int)))))) else (block_entries.j3 kj7 x4_1 x5_7 t176 t187 t181 t186 true)) else (block_entries.j3 kj7 x4_1 x5_7 t176 t187 t181 t186 true)) else (block_entries.j3 kj7 x4_1 x5_7 t176 t187 t181 t186 true)) = some (r1, r2) := H
                have A13 := Aside0.mk A130
                clear A130
                have HC14 := Aside0.mk H
                clear H
                obtain ⟨Ao15, co15, eo15⟩ := Kd.V_slice HO_0.out
                subst eo15
                go_upto_region 9 with (first | ((with_reducible refine gate_callee (f := 86) rfl ?_); refine goesL_ (some 28) rfl rfl Try.func86 (by kernel_rfl) rfl #[.slice Ao15 x0_1.length co15] rfl (by (try simp only [List.map_toArray, List.map_cons, List.map_nil]); first | done | rfl | (simp only [List.length_drop, List.length_take]; rfl)) ?_; (with_reducible refine (nums_Take.calls _ _ x0_1 t176 t177 t178 _ ?side1 ?side2 A11.out).mono ?_); (case side1 => repeat (first | exact (Kd.V_reads' HO_0.out).2.2 | (with_reducible refine Kd.C_alloc ?_ _) | (with_reducible refine Kd.C_drewN ?_ _) | (with_reducible refine Kd.C_drew ?_))); (case side2 => exact (Kd.V_reads' HO_0.out).2.1); rintro e w16 ⟨v179, rfl, ho0, hb⟩; refine ⟨_, rfl, ?_⟩; have n0_ := Aside0.mk (Kd.V_elder' (by (with_reducible repeat (first | apply Kd.V_alloc | apply Kd.V_drewN | apply Kd.V_drew)); exact HO_0.out) (Kd.R_base ho0) hb); have n1_ := Aside0.mk (Kd.R_below (by (with_reducible repeat (first | apply Kd.R_alloc | apply Kd.R_drewN | apply Kd.R_drew)); exact HO_4.out) hb); have n2_ := Aside0.mk (Kd.R_lower (Kd.R_newM (M := fun k_ => (w.heap.size ≤ k_)) ho0 (below_size (by repeat (first | (with_reducible first | exact HB.out | apply below_alloc | apply pw_below_drewN | apply below_drew1) | exact HB.out))) (fun k_ h_ => h_)) (below_size (by repeat (first | (with_reducible first | exact HB.out | apply below_alloc | apply pw_below_drewN | apply below_drew1) | exact HB.out)))); have n3_ := Aside0.mk (below_step (by repeat (first | (with_reducible first | exact HB.out | apply below_alloc | apply pw_below_drewN | apply below_drew1) | exact HB.out)) hb); clear HO_0; clear HO_4; clear HB; have HO_0 := n0_; have HO_4 := n1_; have HO180 := n2_; have HB := n3_; clear n0_ n1_ n2_ n3_; (try clear hb); (try clear hb2); (try clear hk); (try clear hi); (try clear ho0); obtain ⟨Ao17, co17, eo17⟩ := Kd.R_slice HO180.out; subst eo17) | ((with_reducible refine gate_callee (f := 87) rfl ?_); refine goesL_ (some 34) rfl rfl Try.func87 (by kernel_rfl) rfl #[.slice Ao17 t177.length co17, .int .i64 64] rfl (by (try simp only [List.map_toArray, List.map_cons, List.map_nil]); first | done | rfl | (simp only [List.length_drop, List.length_take]; rfl)) ?_; (with_reducible refine (nums_TakeText.calls _ _ t177 64 t181 t182 t183 _ ?side1 ?side2 A12.out).mono ?_); (case side1 => repeat (first | exact (Kd.R_reads' HO180.out).2.2 | (with_reducible refine Kd.C_alloc ?_ _) | (with_reducible refine Kd.C_drewN ?_ _) | (with_reducible refine Kd.C_drew ?_))); (case side2 => exact (Kd.R_reads' HO180.out).2.1); rintro e w18 ⟨v184, rfl, ho0, hb⟩; refine ⟨_, rfl, ?_⟩; have n0_ := Aside0.mk (Kd.V_elder' (by (with_reducible repeat (first | apply Kd.V_alloc | apply Kd.V_drewN | apply Kd.V_drew)); exact HO_0.out) (Kd.R_base ho0) hb); have n1_ := Aside0.mk (Kd.R_below (by (with_reducible repeat (first | apply Kd.R_alloc | apply Kd.R_drewN | apply Kd.R_drew)); exact HO_4.out) hb); have n2_ := Aside0.mk (Kd.R_elder' (by (with_reducible repeat (first | apply Kd.R_alloc | apply Kd.R_drewN | apply Kd.R_drew)); exact HO180.out) (Kd.R_base ho0) hb); have n3_ := Aside0.mk (Kd.R_lower (Kd.R_new' (Kd.R_newM (M := fun k_ => (w.heap.size ≤ k_)) ho0 (below_size (by repeat (first | (with_reducible first | exact HB.out | apply below_alloc | apply pw_below_drewN | apply below_drew1) | exact HB.out))) (fun k_ h_ => h_)) (Kd.R_lt (by (with_reducible repeat (first | apply Kd.R_alloc | apply Kd.R_drewN | apply Kd.R_drew)); exact HO180.out))) (below_size (by repeat (first | (with_reducible first | exact HB.out | apply below_alloc | apply pw_below_drewN | apply below_drew1) | exact HB.out)))); have n4_ := Aside0.mk (below_step (by repeat (first | (with_reducible first | exact HB.out | apply below_alloc | apply pw_below_drewN | apply below_drew1) | exact HB.out)) hb); clear HO_0; clear HO_4; clear HO180; clear HB; have HO_0 := n0_; have HO_4 := n1_; have HO180 := n2_; have HO185 := n3_; have HB := n4_; clear n0_ n1_ n2_ n3_ n4_; (try clear hb); (try clear hb2); (try clear hk); (try clear hi); (try clear ho0); obtain ⟨Ao19, co19, eo19⟩ := Kd.R_slice HO185.out; subst eo19) | ((with_reducible refine gate_callee (f := 86) rfl ?_); refine goesL_ (some 40) rfl rfl Try.func86 (by kernel_rfl) rfl #[.slice Ao19 t182.length co19] rfl (by (try simp only [List.map_toArray, List.map_cons, List.map_nil]); first | done | rfl | (simp only [List.length_drop, List.length_take]; rfl)) ?_; (with_reducible refine (nums_Take.calls _ _ t182 t186 t187 t188 _ ?side1 ?side2 A13.out).mono ?_); (case side1 => repeat (first | exact (Kd.R_reads' HO185.out).2.2 | (with_reducible refine Kd.C_alloc ?_ _) | (with_reducible refine Kd.C_drewN ?_ _) | (with_reducible refine Kd.C_drew ?_))); (case side2 => exact (Kd.R_reads' HO185.out).2.1); rintro e w20 ⟨v189, rfl, ho0, hb⟩; refine ⟨_, rfl, ?_⟩; have n0_ := Aside0.mk (Kd.V_elder' (by (with_reducible repeat (first | apply Kd.V_alloc | apply Kd.V_drewN | apply Kd.V_drew)); exact HO_0.out) (Kd.R_base ho0) hb); have n1_ := Aside0.mk (Kd.R_below (by (with_reducible repeat (first | apply Kd.R_alloc | apply Kd.R_drewN | apply Kd.R_drew)); exact HO_4.out) hb); have n2_ := Aside0.mk (Kd.R_elder' (by (with_reducible repeat (first | apply Kd.R_alloc | apply Kd.R_drewN | apply Kd.R_drew)); exact HO180.out) (Kd.R_base ho0) hb); have n3_ := Aside0.mk (Kd.R_elder' (by (with_reducible repeat (first | apply Kd.R_alloc | apply Kd.R_drewN | apply Kd.R_drew)); exact HO185.out) (Kd.R_base ho0) hb); have n4_ := Aside0.mk (Kd.R_lower (Kd.R_new' (Kd.R_new' (Kd.R_newM (M := fun k_ => (w.heap.size ≤ k_)) ho0 (below_size (by repeat (first | (with_reducible first | exact HB.out | apply below_alloc | apply pw_below_drewN | apply below_drew1) | exact HB.out))) (fun k_ h_ => h_)) (Kd.R_lt (by (with_reducible repeat (first | apply Kd.R_alloc | apply Kd.R_drewN | apply Kd.R_drew)); exact HO180.out))) (Kd.R_lt (by (with_reducible repeat (first | apply Kd.R_alloc | apply Kd.R_drewN | apply Kd.R_drew)); exact HO185.out))) (below_size (by repeat (first | (with_reducible first | exact HB.out | apply below_alloc | apply pw_below_drewN | apply below_drew1) | exact HB.out)))); have n5_ := Aside0.mk (below_step (by repeat (first | (with_reducible first | exact HB.out | apply below_alloc | apply pw_below_drewN | apply below_drew1) | exact HB.out)) hb); clear HO_0; clear HO_4; clear HO180; clear HO185; clear HB; have HO_0 := n0_; have HO_4 := n1_; have HO180 := n2_; have HO185 := n3_; have HO190 := n4_; have HB := n5_; clear n0_ n1_ n2_ n3_ n4_ n5_; (try clear hb); (try clear hb2); (try clear hk); (try clear hi); (try clear ho0)))
                (try simp only [Act.put, List.setIfInBounds_toArray, List.set_cons_zero, List.set_cons_succ])
                go_cut [60] (fun v60 wc => ∃ (kq : Nat) (x60_13 : Bool), v60 = .bool x60_13 ∧ Aside0 (block_entries.j3 kq x4_1 x5_7 t176 t187 t181 t186 x60_13 = some (r1, r2)) ∧ Aside0 (kq ≤ kj7) ∧ Aside0 (Kd.R k59 59 wc w.heap.size (fun k_ => (w.heap.size ≤ k_)) (.slice Ao9 x4_1.length co9) x4_1) ∧ Aside0 (Kd.R (Kd.int .u8) 5 wc w.heap.size (fun k_ => (w.heap.size ≤ k_)) v189 t187) ∧ Aside0 (Below w.heap.size w wc))
                case first =>
                  have H := HC14.out
                  clear HC14
                  by_cases c21 : t178 = true
                  · subst c21
                    have H1 : (if t183 = true then (if t188 = true then (block_entries.j3 kj7 x4_1 x5_7 t176 t187 t181 t186 (decide (t176 > (IntKind.u64.wrap ((x5_7.size : Int)))))) else (block_entries.j3 kj7 x4_1 x5_7 t176 t187 t181 t186 true)) else (block_entries.j3 kj7 x4_1 x5_7 t176 t187 t181 t186 true)) = some (r1, r2) := by rw [if_pos rfl] at H; exact H
                    clear H
                    have H := H1
                    clear H1
                    by_cases c22 : t183 = true
                    · subst c22
                      have H1 : (if t188 = true then (block_entries.j3 kj7 x4_1 x5_7 t176 t187 t181 t186 (decide (t176 > (IntKind.u64.wrap ((x5_7.size : Int)))))) else (block_entries.j3 kj7 x4_1 x5_7 t176 t187 t181 t186 true)) = some (r1, r2) := by rw [if_pos rfl] at H; exact H
                      clear H
                      have H := H1
                      clear H1
                      by_cases c23 : t188 = true
                      · subst c23
                        have H1 : (block_entries.j3 kj7 x4_1 x5_7 t176 t187 t181 t186 (decide (t176 > (IntKind.u64.wrap ((x5_7.size : Int)))))) = some (r1, r2) := by rw [if_pos rfl] at H; exact H
                        clear H
                        have H := H1
                        clear H1
                        have H' := Aside0.mk H
                        clear H
                        go_wp2
                        go_meet
                        case rel => exact ⟨_, (decide (t176 > (IntKind.u64.wrap ((x5_7.size : Int))))), (by first | rfl | (simp; done) | (simp [*]; done)), H', ⟨by have := HK1.out; have := HJ1.out; have := HJ7.out; first | omega | exact Nat.le_refl _⟩, ⟨by (with_reducible repeat (first | apply Kd.R_alloc | apply Kd.R_drewN | apply Kd.R_drew)); exact HO_4.out⟩, ⟨by (with_reducible repeat (first | apply Kd.R_alloc | apply Kd.R_drewN | apply Kd.R_drew)); exact Kd.R_mono HO190.out (fun _ hk => hk.1.1.1)⟩, ⟨by repeat (first | (with_reducible first | exact HB.out | apply below_alloc | apply pw_below_drewN | apply below_drew1) | exact HB.out)⟩⟩
                      · replace c23 := Bool.eq_false_iff.mpr c23
                        subst c23
                        have H1 : (block_entries.j3 kj7 x4_1 x5_7 t176 t187 t181 t186 true) = some (r1, r2) := by rw [if_neg (show ¬ (false = true) by decide)] at H; exact H
                        clear H
                        have H := H1
                        clear H1
                        have H' := Aside0.mk H
                        clear H
                        go_wp2
                        go_meet
                        case rel => exact ⟨_, (true), (by first | rfl | (simp; done) | (simp [*]; done)), H', ⟨by have := HK1.out; have := HJ1.out; have := HJ7.out; first | omega | exact Nat.le_refl _⟩, ⟨by (with_reducible repeat (first | apply Kd.R_alloc | apply Kd.R_drewN | apply Kd.R_drew)); exact HO_4.out⟩, ⟨by (with_reducible repeat (first | apply Kd.R_alloc | apply Kd.R_drewN | apply Kd.R_drew)); exact Kd.R_mono HO190.out (fun _ hk => hk.1.1.1)⟩, ⟨by repeat (first | (with_reducible first | exact HB.out | apply below_alloc | apply pw_below_drewN | apply below_drew1) | exact HB.out)⟩⟩
                    · replace c22 := Bool.eq_false_iff.mpr c22
                      subst c22
                      have H1 : (block_entries.j3 kj7 x4_1 x5_7 t176 t187 t181 t186 true) = some (r1, r2) := by rw [if_neg (show ¬ (false = true) by decide)] at H; exact H
                      clear H
                      have H := H1
                      clear H1
                      have H' := Aside0.mk H
                      clear H
                      go_wp2
                      go_meet
                      case rel => exact ⟨_, (true), (by first | rfl | (simp; done) | (simp [*]; done)), H', ⟨by have := HK1.out; have := HJ1.out; have := HJ7.out; first | omega | exact Nat.le_refl _⟩, ⟨by (with_reducible repeat (first | apply Kd.R_alloc | apply Kd.R_drewN | apply Kd.R_drew)); exact HO_4.out⟩, ⟨by (with_reducible repeat (first | apply Kd.R_alloc | apply Kd.R_drewN | apply Kd.R_drew)); exact Kd.R_mono HO190.out (fun _ hk => hk.1.1.1)⟩, ⟨by repeat (first | (with_reducible first | exact HB.out | apply below_alloc | apply pw_below_drewN | apply below_drew1) | exact HB.out)⟩⟩
                  · replace c21 := Bool.eq_false_iff.mpr c21
                    subst c21
                    have H1 : (block_entries.j3 kj7 x4_1 x5_7 t176 t187 t181 t186 true) = some (r1, r2) := by rw [if_neg (show ¬ (false = true) by decide)] at H; exact H
                    clear H
                    have H := H1
                    clear H1
                    have H' := Aside0.mk H
                    clear H
                    go_wp2
                    go_meet
                    case rel => exact ⟨_, (true), (by first | rfl | (simp; done) | (simp [*]; done)), H', ⟨by have := HK1.out; have := HJ1.out; have := HJ7.out; first | omega | exact Nat.le_refl _⟩, ⟨by (with_reducible repeat (first | apply Kd.R_alloc | apply Kd.R_drewN | apply Kd.R_drew)); exact HO_4.out⟩, ⟨by (with_reducible repeat (first | apply Kd.R_alloc | apply Kd.R_drewN | apply Kd.R_drew)); exact Kd.R_mono HO190.out (fun _ hk => hk.1.1.1)⟩, ⟨by repeat (first | (with_reducible first | exact HB.out | apply below_alloc | apply pw_below_drewN | apply below_drew1) | exact HB.out)⟩⟩
                case rest =>
                  clear HC14
                  try clear c1
                  try clear c2
                  try clear p2
                  try clear c3
                  try clear c3b0
                  try clear c3b1
                  try clear c5
                  try clear c7
                  try clear c8
                  try clear c10
                  try clear c10b0
                  try clear c10b1
                  try clear c21
                  try clear c22
                  try clear c23
                  try clear p2
                  obtain ⟨kq, x60_13, rfl, HA, HJ13, HO_4, HO_7, HB⟩ := hcut
                  cases kq with
                  | zero => exact absurd HA.out (by simp [block_entries.j3])
                  | succ kj13 =>
                    have H := HA.out
                    clear HA
                    simp only [block_entries.j3] at H
                    by_cases c24 : x60_13 = true
                    · subst c24
                      have H1 : (some (([] : List (S59)), false)) = some (r1, r2) := by rw [if_pos rfl] at H; exact H
                      clear H
                      have H := H1
                      clear H1
                      simp only [Option.some.injEq, Prod.mk.injEq] at H
                      obtain ⟨rfl, rfl⟩ := H
                      go_wp2
                      go_ret2
                      exact ⟨_, by first | rfl | (simp [errW_none, errW_some] <;> rfl) | (simp [*, errW_none, errW_some] <;> rfl), by first | exact Kd.R_nil _ _ _ _ _ | exact Kd.N_nil _ _ _ _ _ | exact Kd.V_nil _ _ _ _ _ | exact Kd.Q_nil _ _ _ _ _ | exact Kd.S_nil _ _ _ _ _, by repeat (first | (with_reducible first | exact HB.out | apply below_alloc | apply pw_below_drewN | apply below_drew1) | exact HB.out)⟩
                    · replace c24 := Bool.eq_false_iff.mpr c24
                      subst c24
                      have H1 : (if 0 ≤ t176 then (if t176 ≤ (x5_7.size : Int) then (if (x5_7.extract 0 (t176 : Int).toNat).size + t181.size ≤ 9223372036854775807 then (if ((Go.bits .and .u64 t186 1) % 256) = 1 then ((nums_TakeText.f t187 256).bind fun bt192 => (if bt192.2.2 = true then (if x4_1.length < 2932031007402 then (block_entries.l0 kj13 bt192.2.1 (x4_1 ++ [(⟨(⟨(x5_7.extract 0 (t176 : Int).toNat) ++ t181, t186 / 2, (Go.bits .and .u64 t186 1) % 256⟩ : S50), bt192.1⟩ : S59)]) ((x5_7.extract 0 (t176 : Int).toNat) ++ t181)) else (none)) else (some (([] : List (S59)), false)))) else (if x4_1.length < 2932031007402 then (block_entries.l0 kj13 t187 (x4_1 ++ [(⟨(⟨(x5_7.extract 0 (t176 : Int).toNat) ++ t181, t186 / 2, (Go.bits .and .u64 t186 1) % 256⟩ : S50), (⟨#[]⟩ : ByteArray)⟩ : S59)]) ((x5_7.extract 0 (t176 : Int).toNat) ++ t181)) else (none))) else (none)) else (none)) else (none)) = some (r1, r2) := by rw [if_neg (show ¬ (false = true) by decide)] at H; exact H
                      clear H
                      have H := H1
                      clear H1
                      by_cases c25 : 0 ≤ t176
                      · rw [if_pos c25] at H
                        have c25b0 := eq_true c25
                        have c25b1 : decide (0 ≤ t176) = true := decide_eq_true c25
                        clear c25
                        by_cases c26 : t176 ≤ (x5_7.size : Int)
                        · rw [if_pos c26] at H
                          have c26b0 := eq_true c26
                          have c26b1 : decide (t176 ≤ (x5_7.size : Int)) = true := decide_eq_true c26
                          clear c26
                          by_cases c27 : (x5_7.extract 0 (t176 : Int).toNat).size + t181.size ≤ 9223372036854775807
                          · rw [if_pos c27] at H
                            have c27b0 := eq_true c27
                            have c27b1 : decide ((x5_7.extract 0 (t176 : Int).toNat).size + t181.size ≤ 9223372036854775807) = true := decide_eq_true c27
                            try have c27b2 : (9223372036854775807 < (x5_7.extract 0 (t176 : Int).toNat).size + t181.size) = False := eq_false (Nat.not_lt.2 c27)
                            by_cases c28 : ((Go.bits .and .u64 t186 1) % 256) = 1
                            · rw [if_pos c28] at H
                              have c28b0 : (((Go.bits .and .u64 t186 1) % 256) == 1) = true := beq_iff_eq.mpr c28
                              have c28b1 : (((Go.bits .and .u64 t186 1) % 256) != 1) = false := bne_eq_false_iff_eq.mpr c28
                              clear c28
                              replace H := Option.bind_eq_some_iff.mp H
                              obtain ⟨⟨t192, t193, t194⟩, A290, H⟩ := H
                              replace H : (if t194 = true then (if x4_1.length < 2932031007402 then (block_entries.l0 kj13 t193 (x4_1 ++ [(⟨(⟨(x5_7.extract 0 (t176 : Int).toNat) ++ t181, t186 / 2, (Go.bits .and .u64 t186 1) % 256⟩ : S50), t192⟩ : S59)]) ((x5_7.extract 0 (t176 : Int).toNat) ++ t181)) else (none)) else (some (([] : List (S59)), false))) = some (r1, r2) := H
                              have A29 := Aside0.mk A290
                              clear A290
                              by_cases c30 : t194 = true
                              · subst c30
                                have H1 : (if x4_1.length < 2932031007402 then (block_entries.l0 kj13 t193 (x4_1 ++ [(⟨(⟨(x5_7.extract 0 (t176 : Int).toNat) ++ t181, t186 / 2, (Go.bits .and .u64 t186 1) % 256⟩ : S50), t192⟩ : S59)]) ((x5_7.extract 0 (t176 : Int).toNat) ++ t181)) else (none)) = some (r1, r2) := by rw [if_pos rfl] at H; exact H
                                clear H
                                have H := H1
                                clear H1
                                by_cases c31 : x4_1.length < 2932031007402
                                · rw [if_pos c31] at H
                                  have LMc31 := Aside0.mk c31
                                  clear c31
                                  obtain ⟨y197, hy197⟩ : ∃ y_ : List (S59), y_ = (x4_1 ++ [(⟨(⟨(x5_7.extract 0 (t176 : Int).toNat) ++ t181, t186 / 2, (Go.bits .and .u64 t186 1) % 256⟩ : S50), t192⟩ : S59)]) := ⟨_, rfl⟩
                                  replace H : (block_entries.l0 kj13 t193 y197 ((x5_7.extract 0 (t176 : Int).toNat) ++ t181)) = some (r1, r2) := by first | (rw [hy197]; with_reducible exact H) | (have H2_ := (Option.bind_some _ _).symm.trans H; rw [hy197]; with_reducible exact H2_) | (have H2_ := (Option.bind_some _ _).symm.trans H; with_reducible exact H2_) | with_reducible exact H | (rw [hy197]; exact H) | exact H
                                  have Ny197 := Aside0.mk hy197
                                  clear hy197
                                  have H' := Aside0.mk H
                                  clear H
                                  try go_wp2_with (first | ((with_reducible refine gate_dst (N := 13) rfl ?_); (try (refine gate_guard (by rfl) ?_; dsimp only)); refine box_event ?hg (N := 13) ?hd (cs := #[.string (⟨#[]⟩ : ByteArray), .int .u64 0, .int .u8 0, .string (⟨#[]⟩ : ByteArray)]) (t := 59) ?hr ?_; (case hd => rfl); (case hg => rfl); (case hr => first | (go_simp; done) | (go_simp; rfl)); intro gb191 hg w32 hbox hb; have n0_ := Aside0.mk (Kd.R_below (Kd.R_elderB (by (with_reducible repeat (first | apply Kd.R_alloc | apply Kd.R_drewN | apply Kd.R_drew)); exact HO_4.out) gb191 (Nat.le_of_eq hg.symm)) hb); have n1_ := Aside0.mk (Kd.R_below (by (with_reducible repeat (first | apply Kd.R_alloc | apply Kd.R_drewN | apply Kd.R_drew)); exact HO_7.out) hb); have n2_ := Aside0.mk (below_step (by repeat (first | (with_reducible first | exact HB.out | apply below_alloc | apply pw_below_drewN | apply below_drew1) | exact HB.out)) hb); have n3_ := Aside0.mk (hbox); have n4_ := Aside0.mk ((by rw [hg]; exact (below_size (by repeat (first | (with_reducible first | exact HB.out | apply below_alloc | apply pw_below_drewN | apply below_drew1) | exact HB.out))) : w.heap.size ≤ gb191)); have n5_ := Aside0.mk ((by rw [hg]; exact (below_size (by repeat (first | (with_reducible first | exact HB.out | apply below_alloc | apply pw_below_drewN | apply below_drew1) | exact HB.out))) : w.heap.size ≤ gb191)); clear HO_4; clear HO_7; clear HB; have HO_4 := n0_; have HO_7 := n1_; have HB := n2_; have BK191 := n3_; have GW191 := n4_; have GE191 := n5_; clear n0_ n1_ n2_ n3_ n4_ n5_; clear hb hbox hg; have hcz33_0 : w32.cell? ⟨gb191, 0, none⟩ = some (.string (⟨#[]⟩ : ByteArray)) := (blk_cell BK191.out 0).trans rfl; have hcz33_1 : w32.cell? ⟨gb191, 1, none⟩ = some (.int .u64 0) := (blk_cell BK191.out 1).trans rfl; have hcz33_2 : w32.cell? ⟨gb191, 2, none⟩ = some (.int .u8 0) := (blk_cell BK191.out 2).trans rfl; have hcz33_3 : w32.cell? ⟨gb191, 3, none⟩ = some (.string (⟨#[]⟩ : ByteArray)) := (blk_cell BK191.out 3).trans rfl; have hfz33_0 := blk_frozen BK191.out 0; have hfz33_1 := blk_frozen BK191.out 1; have hfz33_2 := blk_frozen BK191.out 2; have hfz33_3 := blk_frozen BK191.out 3; obtain ⟨Ao34, co34, eo34⟩ := Kd.R_slice HO_7.out; subst eo34) | ((with_reducible refine gate_callee (f := 87) rfl ?_); refine goesL_ (some 79) rfl rfl Try.func87 (by kernel_rfl) rfl #[.slice Ao34 t187.length co34, .int .i64 256] rfl (by (try simp only [List.map_toArray, List.map_cons, List.map_nil]); first | done | rfl | (simp only [List.length_drop, List.length_take]; rfl)) ?_; (with_reducible refine (nums_TakeText.calls _ _ t187 256 t192 t193 true _ ?side1 ?side2 A29.out).mono ?_); (case side1 => refine (Kd.R_reads' (e := 5) (base := w.heap.size) (ok := fun k_ => (w.heap.size ≤ k_)) (n := t187.length) (c := co34) ?_).2.2; exact (by (with_reducible repeat (first | apply Kd.R_alloc | apply Kd.R_drewN | apply Kd.R_drew)); exact (Kd.R_mono (Kd.R_far (p := ⟨gb191, 3, none⟩) (Kd.R_far (p := ⟨gb191, 2, none⟩) (Kd.R_far (p := ⟨gb191, 1, none⟩) (Kd.R_far (p := ⟨gb191, 0, none⟩) (Kd.R_types HO_7.out BK191.out (by decide)) (fun _ hk => hk.2) (.string ((x5_7.extract 0 (t176 : Int).toNat) ++ t181))) (fun _ hk => hk.2) (.int .u64 (t186 / 2))) (fun _ hk => hk.2) (.int .u8 ((Go.bits .and .u64 t186 1) % 256))) (fun _ hk => hk.2) (.string (⟨#[]⟩ : ByteArray))) (fun _ h_ => h_.1)))); (case side2 => exact (Kd.R_reads' HO_7.out).2.1); rintro e w35 ⟨v195, rfl, ho0, hb⟩; refine ⟨_, rfl, ?_⟩; have n0_ := Aside0.mk (Kd.R_below (by (with_reducible repeat (first | apply Kd.R_alloc | apply Kd.R_drewN | apply Kd.R_drew)); exact (Kd.R_mono (Kd.R_far (p := ⟨gb191, 3, none⟩) (Kd.R_far (p := ⟨gb191, 2, none⟩) (Kd.R_far (p := ⟨gb191, 1, none⟩) (Kd.R_far (p := ⟨gb191, 0, none⟩) (Kd.R_mono HO_4.out (fun k_ hk => (⟨hk, hk.2⟩ : _ ∧ k_ ≠ gb191))) (fun _ hk => hk.2) (.string ((x5_7.extract 0 (t176 : Int).toNat) ++ t181))) (fun _ hk => hk.2) (.int .u64 (t186 / 2))) (fun _ hk => hk.2) (.int .u8 ((Go.bits .and .u64 t186 1) % 256))) (fun _ hk => hk.2) (.string (⟨#[]⟩ : ByteArray))) (fun _ h_ => h_.1))) hb); have n1_ := Aside0.mk (Kd.R_elder' (by (with_reducible repeat (first | apply Kd.R_alloc | apply Kd.R_drewN | apply Kd.R_drew)); exact (Kd.R_mono (Kd.R_far (p := ⟨gb191, 3, none⟩) (Kd.R_far (p := ⟨gb191, 2, none⟩) (Kd.R_far (p := ⟨gb191, 1, none⟩) (Kd.R_far (p := ⟨gb191, 0, none⟩) (Kd.R_types HO_7.out BK191.out (by decide)) (fun _ hk => hk.2) (.string ((x5_7.extract 0 (t176 : Int).toNat) ++ t181))) (fun _ hk => hk.2) (.int .u64 (t186 / 2))) (fun _ hk => hk.2) (.int .u8 ((Go.bits .and .u64 t186 1) % 256))) (fun _ hk => hk.2) (.string (⟨#[]⟩ : ByteArray))) (fun _ h_ => h_.1))) (Kd.R_base ho0) hb); have n2_ := Aside0.mk (Kd.R_lower (Kd.R_new' (Kd.R_newM (M := fun k_ => (w.heap.size ≤ k_)) ho0 (below_size (by repeat (first | (with_reducible first | exact HB.out | apply below_alloc | apply pw_below_drewN | apply below_drew1 | refine below_set ?_ GE191.out) | exact HB.out))) (fun k_ h_ => h_)) (Kd.R_lt (by (with_reducible repeat (first | apply Kd.R_alloc | apply Kd.R_drewN | apply Kd.R_drew)); exact (Kd.R_mono (Kd.R_far (p := ⟨gb191, 3, none⟩) (Kd.R_far (p := ⟨gb191, 2, none⟩) (Kd.R_far (p := ⟨gb191, 1, none⟩) (Kd.R_far (p := ⟨gb191, 0, none⟩) (Kd.R_types HO_7.out BK191.out (by decide)) (fun _ hk => hk.2) (.string ((x5_7.extract 0 (t176 : Int).toNat) ++ t181))) (fun _ hk => hk.2) (.int .u64 (t186 / 2))) (fun _ hk => hk.2) (.int .u8 ((Go.bits .and .u64 t186 1) % 256))) (fun _ hk => hk.2) (.string (⟨#[]⟩ : ByteArray))) (fun _ h_ => h_.1))))) (below_size (by repeat (first | (with_reducible first | exact HB.out | apply below_alloc | apply pw_below_drewN | apply below_drew1 | refine below_set ?_ GE191.out) | exact HB.out)))); have n3_ := Aside0.mk (blk_below (g := gb191) (o := .cells #[.string ((x5_7.extract 0 (t176 : Int).toNat) ++ t181), .int .u64 (t186 / 2), .int .u8 ((Go.bits .and .u64 t186 1) % 256), .string (⟨#[]⟩ : ByteArray)] 59 (0, 0)) (by (with_reducible repeat (first | refine blk_drewN ?_ _ | refine blk_drew ?_ | refine blk_alloc ?_ _)); refine blk_put (cs := #[.string ((x5_7.extract 0 (t176 : Int).toNat) ++ t181), .int .u64 (t186 / 2), .int .u8 ((Go.bits .and .u64 t186 1) % 256), .string (⟨#[]⟩ : ByteArray)]) ?_ 3 _ rfl; (with_reducible repeat (first | refine blk_drewN ?_ _ | refine blk_drew ?_ | refine blk_alloc ?_ _)); refine blk_put (cs := #[.string ((x5_7.extract 0 (t176 : Int).toNat) ++ t181), .int .u64 (t186 / 2), .int .u8 0, .string (⟨#[]⟩ : ByteArray)]) ?_ 2 _ rfl; (with_reducible repeat (first | refine blk_drewN ?_ _ | refine blk_drew ?_ | refine blk_alloc ?_ _)); refine blk_put (cs := #[.string ((x5_7.extract 0 (t176 : Int).toNat) ++ t181), .int .u64 0, .int .u8 0, .string (⟨#[]⟩ : ByteArray)]) ?_ 1 _ rfl; (with_reducible repeat (first | refine blk_drewN ?_ _ | refine blk_drew ?_ | refine blk_alloc ?_ _)); refine blk_put (cs := #[.string (⟨#[]⟩ : ByteArray), .int .u64 0, .int .u8 0, .string (⟨#[]⟩ : ByteArray)]) ?_ 0 _ rfl; (with_reducible repeat (first | refine blk_drewN ?_ _ | refine blk_drew ?_ | refine blk_alloc ?_ _)); exact BK191.out) hb); have n4_ := Aside0.mk (below_step (by repeat (first | (with_reducible first | exact HB.out | apply below_alloc | apply pw_below_drewN | apply below_drew1 | refine below_set ?_ GE191.out) | exact HB.out)) hb); clear HO_4; clear HO_7; clear BK191; clear HB; have HO_4 := n0_; have HO_7 := n1_; have HO196 := n2_; have BK191 := n3_; have HB := n4_; clear n0_ n1_ n2_ n3_ n4_; (try clear hb); (try clear hb2); (try clear hk); (try clear hi); (try clear ho0); have hcz36_0 : w35.cell? ⟨gb191, 0, none⟩ = some (.string ((x5_7.extract 0 (t176 : Int).toNat) ++ t181)) := (blk_cell BK191.out 0).trans rfl; have hcz36_1 : w35.cell? ⟨gb191, 1, none⟩ = some (.int .u64 (t186 / 2)) := (blk_cell BK191.out 1).trans rfl; have hcz36_2 : w35.cell? ⟨gb191, 2, none⟩ = some (.int .u8 ((Go.bits .and .u64 t186 1) % 256)) := (blk_cell BK191.out 2).trans rfl; have hcz36_3 : w35.cell? ⟨gb191, 3, none⟩ = some (.string (⟨#[]⟩ : ByteArray)) := (blk_cell BK191.out 3).trans rfl; have hfz36_0 := blk_frozen BK191.out 0; have hfz36_1 := blk_frozen BK191.out 1; have hfz36_2 := blk_frozen BK191.out 2; have hfz36_3 := blk_frozen BK191.out 3))
                                  have n0_ : Aside0 (Kd.R k59 59 (w35.setCell ⟨gb191, 3, none⟩ (.string t192)) w.heap.size (fun k_ => (w.heap.size ≤ k_) ∧ k_ ≠ gb191) (.slice Ao9 x4_1.length co9) x4_1) := ⟨by (with_reducible repeat (first | apply Kd.R_alloc | apply Kd.R_drewN | apply Kd.R_drew)); exact Kd.R_mono (Kd.R_far (p := ⟨gb191, 3, none⟩) (Kd.R_mono HO_4.out (fun k_ hk => (⟨hk, hk.2⟩ : _ ∧ k_ ≠ gb191))) (fun _ hk => hk.2) (.string t192)) (fun _ hk => ⟨hk.1.1, hk.1.2⟩)⟩
                                  have n1_ : Aside0 (Kd.R (Kd.int .u8) 5 (w35.setCell ⟨gb191, 3, none⟩ (.string t192)) w.heap.size (fun k_ => (w.heap.size ≤ k_) ∧ some k_ ≠ (v195 : Value).ownBlock) (.slice Ao34 t187.length co34) t187) := ⟨by (with_reducible repeat (first | apply Kd.R_alloc | apply Kd.R_drewN | apply Kd.R_drew)); exact Kd.R_mono (Kd.R_far (p := ⟨gb191, 3, none⟩) (Kd.R_types HO_7.out BK191.out (by decide)) (fun _ hk => hk.2) (.string t192)) (fun _ hk => ⟨hk.1.1, hk.1.2⟩)⟩
                                  have n2_ : Aside0 (Kd.R (Kd.int .u8) 5 (w35.setCell ⟨gb191, 3, none⟩ (.string t192)) w.heap.size (fun k_ => (w.heap.size ≤ k_) ∧ some k_ ≠ (.slice Ao34 t187.length co34 : Value).ownBlock) v195 t193) := ⟨by (with_reducible repeat (first | apply Kd.R_alloc | apply Kd.R_drewN | apply Kd.R_drew)); exact Kd.R_mono (Kd.R_far (p := ⟨gb191, 3, none⟩) (Kd.R_types HO196.out BK191.out (by decide)) (fun _ hk => hk.2) (.string t192)) (fun _ hk => ⟨hk.1.1.1, hk.1.2⟩)⟩
                                  have n3_ : Aside0 ((w35.setCell ⟨gb191, 3, none⟩ (.string t192)).heap[gb191]? = some (.cells #[.string ((x5_7.extract 0 (t176 : Int).toNat) ++ t181), .int .u64 (t186 / 2), .int .u8 ((Go.bits .and .u64 t186 1) % 256), .string t192] 59 (0, 0))) := ⟨by (with_reducible repeat (first | refine blk_drewN ?_ _ | refine blk_drew ?_ | refine blk_alloc ?_ _)); refine blk_put (cs := #[.string ((x5_7.extract 0 (t176 : Int).toNat) ++ t181), .int .u64 (t186 / 2), .int .u8 ((Go.bits .and .u64 t186 1) % 256), .string (⟨#[]⟩ : ByteArray)]) ?_ 3 _ rfl; (with_reducible repeat (first | refine blk_drewN ?_ _ | refine blk_drew ?_ | refine blk_alloc ?_ _)); exact BK191.out⟩
                                  have n4_ : Aside0 (Below w.heap.size w (w35.setCell ⟨gb191, 3, none⟩ (.string t192))) := ⟨by repeat (first | (with_reducible first | exact HB.out | apply below_alloc | apply pw_below_drewN | apply below_drew1 | refine below_set ?_ GE191.out) | exact HB.out)⟩
                                  (try clear HO_4)
                                  (try clear HO_7)
                                  (try clear HO196)
                                  (try clear BK191)
                                  (try clear HB)
                                  generalize (w35.setCell ⟨gb191, 3, none⟩ (.string t192)) = w37 at n0_ n1_ n2_ n3_ n4_ ⊢
                                  have HO_4 := n0_
                                  have HO_7 := n1_
                                  have HO196 := n2_
                                  have BK191 := n3_
                                  have HB := n4_
                                  clear n0_ n1_ n2_ n3_ n4_
                                  have n0_ := Aside0.mk (Kd.R_drew HO_4.out)
                                  have n1_ := Aside0.mk (Kd.R_drew HO_7.out)
                                  have n2_ := Aside0.mk (Kd.R_drew HO196.out)
                                  have n3_ := Aside0.mk (blk_drew BK191.out)
                                  have n4_ := Aside0.mk (below_drew1 HB.out)
                                  clear HO_4
                                  clear HO_7
                                  clear HO196
                                  clear BK191
                                  clear HB
                                  have HO_4 := n0_
                                  have HO_7 := n1_
                                  have HO196 := n2_
                                  have BK191 := n3_
                                  have HB := n4_
                                  clear n0_ n1_ n2_ n3_ n4_
                                  refine start_ (n := 11) (S := fun w' => w'.cell? ⟨gb191, 0, none⟩ = some (.string ((x5_7.extract 0 (t176 : Int).toNat) ++ t181)) ∧ w'.cell? ⟨gb191, 1, none⟩ = some (.int .u64 (t186 / 2)) ∧ w'.cell? ⟨gb191, 2, none⟩ = some (.int .u8 ((Go.bits .and .u64 t186 1) % 256)) ∧ w'.cell? ⟨gb191, 3, none⟩ = some (.string t192)) (ds := []) #[false, false, false, false, false, false, false, false, false, false, false] (by kernel_rfl) rfl rfl ⟨(blk_cell BK191.out 0).trans rfl, (blk_cell BK191.out 1).trans rfl, (blk_cell BK191.out 2).trans rfl, (blk_cell BK191.out 3).trans rfl⟩ (fun hHeld => ?_); refine with_tabW block_entries.tab16 block_entries.bits16 (fun HT_ HW_ => ?_)
                                  generalize w37.drew = w38 at HO_4 HO_7 HO196 BK191 HB hHeld ⊢
                                  refine pure_ (i := 0) (N := some 86) (v := ?_) (a' := ?_) #[true, false, false, false, false, false, false, false, false, false, false] rfl rfl (any_of HT_.out (by kernel_rfl)) (fun _ _ _ h => h) (Or.inl ⟨by rfl, ?_⟩) ?_ ?_
                                  rotate_left
                                  · intro w'
                                    go_simp
                                    with_reducible rfl
                                  rotate_left
                                  · simp only [Act.put, List.setIfInBounds_toArray, List.set_cons_zero, List.set_cons_succ, i64_w, i32_w]
                                    rfl
                                  refine pure_ (i := 4) (N := some 90) (v := ?_) (a' := ?_) #[true, false, false, false, true, false, false, false, false, false, false] rfl rfl (any_of HT_.out (by kernel_rfl)) (fun _ _ _ h => h) (Or.inl ⟨by rfl, ?_⟩) ?_ ?_
                                  rotate_left
                                  · intro w'
                                    go_simp
                                    with_reducible rfl
                                  rotate_left
                                  · simp only [Act.put, List.setIfInBounds_toArray, List.set_cons_zero, List.set_cons_succ, i64_w, i32_w]
                                    rfl
                                  refine pure_ (i := 5) (N := some 91) (v := ?_) (a' := ?_) #[true, false, false, false, true, true, false, false, false, false, false] rfl rfl (any_of HT_.out (by kernel_rfl)) (fun _ _ _ h => h) (Or.inl ⟨by rfl, ?_⟩) ?_ ?_
                                  rotate_left
                                  · intro w'
                                    go_simp
                                    with_reducible rfl
                                  rotate_left
                                  · simp only [Act.put, List.setIfInBounds_toArray, List.set_cons_zero, List.set_cons_succ, i64_w, i32_w]
                                    rfl
                                  refine pure_ (i := 6) (N := some 92) (v := ?_) (a' := ?_) #[true, false, false, false, true, true, true, false, false, false, false] rfl rfl (any_of HT_.out (by kernel_rfl)) (fun _ _ _ h => h) (Or.inl ⟨by rfl, ?_⟩) ?_ ?_
                                  rotate_left
                                  · intro w'
                                    go_simp
                                    with_reducible rfl
                                  rotate_left
                                  · simp only [Act.put, List.setIfInBounds_toArray, List.set_cons_zero, List.set_cons_succ, i64_w, i32_w]
                                    rfl
                                  refine take_ (i := 1) (N := some 87) (v := ?_) (a' := ?_) #[true, true, false, false, true, true, true, false, false, false, false] rfl rfl (take_ofW HT_.out HW_.out (by kernel_rfl)) (fun _ _ _ h => h) (Or.inl ⟨by rfl, ?_⟩) hHeld ?_ ?_
                                  rotate_left
                                  · rintro w' ⟨s0, s1, s2, s3⟩
                                    go_simp
                                    with_reducible rfl
                                  rotate_left
                                  · simp only [Act.put, List.setIfInBounds_toArray, List.set_cons_zero, List.set_cons_succ, i64_w, i32_w]
                                    rfl
                                  refine take_ (i := 7) (N := some 93) (v := ?_) (a' := ?_) #[true, true, false, false, true, true, true, true, false, false, false] rfl rfl (take_ofW HT_.out HW_.out (by kernel_rfl)) (fun _ _ _ h => h) (Or.inl ⟨by rfl, ?_⟩) hHeld ?_ ?_
                                  rotate_left
                                  · rintro w' ⟨s0, s1, s2, s3⟩
                                    go_simp
                                    with_reducible rfl
                                  rotate_left
                                  · simp only [Act.put, List.setIfInBounds_toArray, List.set_cons_zero, List.set_cons_succ, i64_w, i32_w]
                                    rfl
                                  refine one_ (i := 2) (N := some 88) #[true, true, true, false, true, true, true, true, false, false, false] rfl rfl (one_of HT_.out (by kernel_rfl)) (by decide) (fun K hK => ?_)
                                  refine value_ (w1 := ?_) (v := ?_) (by rfl) rfl ?_ ?_
                                  rotate_left 2
                                  · go_simp
                                    constructor
                                    · rfl
                                    · rfl
                                  refine hK.out _ _ ⟨(blk_cell (blk_alloc BK191.out _) 0).trans rfl, (blk_cell (blk_alloc BK191.out _) 1).trans rfl, (blk_cell (blk_alloc BK191.out _) 2).trans rfl, (blk_cell (blk_alloc BK191.out _) 3).trans rfl⟩ (fun hHeld => ?_)
                                  clear hK K
                                  refine norm_ (a' := ?_) ?_ ?_
                                  rotate_left
                                  · show Act.put _ (some 88) _ = _
                                    simp only [Act.put, List.setIfInBounds_toArray, List.set_cons_zero, List.set_cons_succ, i64_w, i32_w]
                                    rfl
                                  refine one_ (i := 3) (N := some 89) #[true, true, true, true, true, true, true, true, false, false, false] rfl rfl (one_of HT_.out (by kernel_rfl)) (by decide) (fun K hK => ?_)
                                  refine Kd.R_append_step k59 (w0 := w) w.heap.size (by rfl) (.tmp 86) (.tmp 88) 48 59 (.agg #[(.string ⟨#[]⟩), (.int .u64 0), (.int .u8 0), (.string ⟨#[]⟩)]) 48 rfl Try.underlying48 info59 rfl (by decide) (by omega) (.slice Ao9 x4_1.length co9) x4_1 (⟨(⟨(x5_7.extract 0 (t176 : Int).toNat) ++ t181, t186 / 2, (Go.bits .and .u64 t186 1) % 256⟩ : S50), t192⟩ : S59) [.string ((x5_7.extract 0 (t176 : Int).toNat) ++ t181), .int .u64 (t186 / 2), .int .u8 ((Go.bits .and .u64 t186 1) % 256), .string t192] (fun k_ => (w.heap.size ≤ k_) ∧ k_ ≠ gb191) (fun _ => False) rfl rfl ?aP (fun _ hk => hk.elim) ?aF ?aO ?aB ?aS ?aL ?_
                                  (case aP => exact k59_mkM _ _ _ (⟨(⟨(x5_7.extract 0 (t176 : Int).toNat) ++ t181, t186 / 2, (Go.bits .and .u64 t186 1) % 256⟩ : S50), t192⟩ : S59))
                                  (case aB => exact (by repeat (first | (with_reducible first | exact HB.out | apply below_alloc | apply pw_below_drewN | apply below_drew1 | refine below_set ?_ GE191.out) | exact HB.out)))
                                  (case aF => exact (fun k_ hk => ⟨(Nat.le_trans (below_size (by repeat (first | (with_reducible first | exact HB.out | apply below_alloc | apply pw_below_drewN | apply below_drew1 | refine below_set ?_ GE191.out) | exact HB.out))) hk), Kd.freshB (g := gb191) (o := .cells #[.string ((x5_7.extract 0 (t176 : Int).toNat) ++ t181), .int .u64 (t186 / 2), .int .u8 ((Go.bits .and .u64 t186 1) % 256), .string t192] 59 (0, 0)) (by (with_reducible repeat (first | refine blk_drewN ?_ _ | refine blk_drew ?_ | refine blk_alloc ?_ _)); exact BK191.out) k_ hk⟩))
                                  (case aO => exact (by (with_reducible repeat (first | apply Kd.R_alloc | apply Kd.R_drewN | apply Kd.R_drew)); exact HO_4.out))
                                  (case aS => exact (below_size (by repeat (first | (with_reducible first | exact HB.out | apply below_alloc | apply pw_below_drewN | apply below_drew1 | refine below_set ?_ GE191.out) | exact HB.out))))
                                  (case aL => have := LMc31.out; omega)
                                  intro v198 w39 ho hb hg hat
                                  rw [← Ny197.out] at ho
                                  have n0_ := Aside0.mk (Kd.R_over' (by (with_reducible repeat (first | apply Kd.R_alloc | apply Kd.R_drewN | apply Kd.R_drew)); exact HO_7.out) (Kd.R_typed (by (with_reducible repeat (first | apply Kd.R_alloc | apply Kd.R_drewN | apply Kd.R_drew)); exact HO_4.out)) (by decide) hg)
                                  have n1_ := Aside0.mk (blk_grown (g := gb191) (o := .cells #[.string ((x5_7.extract 0 (t176 : Int).toNat) ++ t181), .int .u64 (t186 / 2), .int .u8 ((Go.bits .and .u64 t186 1) % 256), .string t192] 59 (0, 0)) (by (with_reducible repeat (first | refine blk_drewN ?_ _ | refine blk_drew ?_ | refine blk_alloc ?_ _)); exact BK191.out) hg (Kd.R_away HO_4.out (fun _ hk => hk.2)))
                                  have n2_ := Aside0.mk (Kd.R_over' (by (with_reducible repeat (first | apply Kd.R_alloc | apply Kd.R_drewN | apply Kd.R_drew)); exact HO196.out) (Kd.R_typed (by (with_reducible repeat (first | apply Kd.R_alloc | apply Kd.R_drewN | apply Kd.R_drew)); exact HO_4.out)) (by decide) hg)
                                  have n3_ := Aside0.mk (hb)
                                  have n4_ := Aside0.mk (ho)
                                  clear HO_7
                                  clear BK191
                                  clear HO196
                                  clear HB
                                  clear HO_4
                                  have HO_7 := n0_
                                  have BK191 := n1_
                                  have HO196 := n2_
                                  have HB := n3_
                                  have HO199 := n4_
                                  clear n0_ n1_ n2_ n3_ n4_
                                  clear ho hb hg hat
                                  refine hK.out _ _ ⟨(blk_cell BK191.out 0).trans rfl, (blk_cell BK191.out 1).trans rfl, (blk_cell BK191.out 2).trans rfl, (blk_cell BK191.out 3).trans rfl⟩ (fun hHeld => ?_)
                                  clear hK K
                                  refine norm_ (a' := ?_) ?_ ?_
                                  rotate_left
                                  · show Act.put _ (some 89) _ = _
                                    simp only [Act.put, List.setIfInBounds_toArray, List.set_cons_zero, List.set_cons_succ, i64_w, i32_w]
                                    rfl
                                  refine pure_ (i := 8) (N := some 4) (v := ?_) (a' := ?_) #[true, true, true, true, true, true, true, true, true, false, false] rfl rfl (any_of HT_.out (by kernel_rfl)) (fun _ _ _ h => h) (Or.inl ⟨by rfl, ?_⟩) ?_ ?_
                                  rotate_left
                                  · intro w'
                                    go_simp
                                    with_reducible rfl
                                  rotate_left
                                  · simp only [Act.put, List.setIfInBounds_toArray, List.set_cons_zero, List.set_cons_succ, i64_w, i32_w]
                                    rfl
                                  refine pure_ (i := 9) (N := some 0) (v := ?_) (a' := ?_) #[true, true, true, true, true, true, true, true, true, true, false] rfl rfl (any_of HT_.out (by kernel_rfl)) (fun _ _ _ h => h) (Or.inl ⟨by rfl, ?_⟩) ?_ ?_
                                  rotate_left
                                  · intro w'
                                    go_simp
                                    with_reducible rfl
                                  rotate_left
                                  · simp only [Act.put, List.setIfInBounds_toArray, List.set_cons_zero, List.set_cons_succ, i64_w, i32_w]
                                    rfl
                                  refine pure_ (i := 10) (N := some 5) (v := ?_) (a' := ?_) #[true, true, true, true, true, true, true, true, true, true, true] rfl rfl (any_of HT_.out (by kernel_rfl)) (fun _ _ _ h => h) (Or.inl ⟨by rfl, ?_⟩) ?_ ?_
                                  rotate_left
                                  · intro w'
                                    go_simp
                                    with_reducible rfl
                                  rotate_left
                                  · simp only [Act.put, List.setIfInBounds_toArray, List.set_cons_zero, List.set_cons_succ, i64_w, i32_w]
                                    rfl
                                  refine done_ (done_of HT_.out (by kernel_rfl)) ?_
                                  try go_wp2
                                  go_roundg kj13
                                  case measure => have := HK1.out; have := HJ1.out; have := HJ7.out; have := HJ13.out; omega
                                  case rel => exact ⟨(t193), (y197), ((x5_7.extract 0 (t176 : Int).toNat) ++ t181), (by first | rfl | (simp; done) | (simp [*]; done)), H', ⟨by have := HK1.out; have := HJ1.out; have := HJ7.out; have := HJ13.out; omega⟩, ⟨Kd.V_mono (Kd.R_V (by (with_reducible repeat (first | apply Kd.R_alloc | apply Kd.R_drewN | apply Kd.R_drew)); exact Kd.R_apart' HO196.out (Kd.R_typed HO199.out) (by decide))) (fun k_ hk => by first | exact ⟨(.inr (hk.1.1)), hk.2⟩ | exact ⟨(.inr (hk.1)), hk.2⟩ | exact (.inr (hk)))⟩, ⟨by (with_reducible repeat (first | apply Kd.R_alloc | apply Kd.R_drewN | apply Kd.R_drew)); exact Kd.R_mono HO199.out (fun _ hk => hk.1)⟩, ⟨by repeat (first | (with_reducible first | exact HB.out | apply below_alloc | apply pw_below_drewN | apply below_drew1 | refine below_set ?_ GE191.out) | exact HB.out)⟩⟩
                                · rw [if_neg c31] at H
                                  exact absurd H (by simp)
                              · replace c30 := Bool.eq_false_iff.mpr c30
                                subst c30
                                have H1 : (some (([] : List (S59)), false)) = some (r1, r2) := by rw [if_neg (show ¬ (false = true) by decide)] at H; exact H
                                clear H
                                have H := H1
                                clear H1
                                simp only [Option.some.injEq, Prod.mk.injEq] at H
                                obtain ⟨rfl, rfl⟩ := H
                                go_wp2_with (first | ((with_reducible refine gate_dst (N := 13) rfl ?_); (try (refine gate_guard (by rfl) ?_; dsimp only)); refine box_event ?hg (N := 13) ?hd (cs := #[.string (⟨#[]⟩ : ByteArray), .int .u64 0, .int .u8 0, .string (⟨#[]⟩ : ByteArray)]) (t := 59) ?hr ?_; (case hd => rfl); (case hg => rfl); (case hr => first | (go_simp; done) | (go_simp; rfl)); intro gb191 hg w40 hbox hb; have n0_ := Aside0.mk (Kd.R_below (Kd.R_elderB (by (with_reducible repeat (first | apply Kd.R_alloc | apply Kd.R_drewN | apply Kd.R_drew)); exact HO_4.out) gb191 (Nat.le_of_eq hg.symm)) hb); have n1_ := Aside0.mk (Kd.R_below (by (with_reducible repeat (first | apply Kd.R_alloc | apply Kd.R_drewN | apply Kd.R_drew)); exact HO_7.out) hb); have n2_ := Aside0.mk (below_step (by repeat (first | (with_reducible first | exact HB.out | apply below_alloc | apply pw_below_drewN | apply below_drew1) | exact HB.out)) hb); have n3_ := Aside0.mk (hbox); have n4_ := Aside0.mk ((by rw [hg]; exact (below_size (by repeat (first | (with_reducible first | exact HB.out | apply below_alloc | apply pw_below_drewN | apply below_drew1) | exact HB.out))) : w.heap.size ≤ gb191)); have n5_ := Aside0.mk ((by rw [hg]; exact (below_size (by repeat (first | (with_reducible first | exact HB.out | apply below_alloc | apply pw_below_drewN | apply below_drew1) | exact HB.out))) : w.heap.size ≤ gb191)); clear HO_4; clear HO_7; clear HB; have HO_4 := n0_; have HO_7 := n1_; have HB := n2_; have BK191 := n3_; have GW191 := n4_; have GE191 := n5_; clear n0_ n1_ n2_ n3_ n4_ n5_; clear hb hbox hg; have hcz41_0 : w40.cell? ⟨gb191, 0, none⟩ = some (.string (⟨#[]⟩ : ByteArray)) := (blk_cell BK191.out 0).trans rfl; have hcz41_1 : w40.cell? ⟨gb191, 1, none⟩ = some (.int .u64 0) := (blk_cell BK191.out 1).trans rfl; have hcz41_2 : w40.cell? ⟨gb191, 2, none⟩ = some (.int .u8 0) := (blk_cell BK191.out 2).trans rfl; have hcz41_3 : w40.cell? ⟨gb191, 3, none⟩ = some (.string (⟨#[]⟩ : ByteArray)) := (blk_cell BK191.out 3).trans rfl; have hfz41_0 := blk_frozen BK191.out 0; have hfz41_1 := blk_frozen BK191.out 1; have hfz41_2 := blk_frozen BK191.out 2; have hfz41_3 := blk_frozen BK191.out 3; obtain ⟨Ao42, co42, eo42⟩ := Kd.R_slice HO_7.out; subst eo42) | ((with_reducible refine gate_callee (f := 87) rfl ?_); refine goesL_ (some 79) rfl rfl Try.func87 (by kernel_rfl) rfl #[.slice Ao42 t187.length co42, .int .i64 256] rfl (by (try simp only [List.map_toArray, List.map_cons, List.map_nil]); first | done | rfl | (simp only [List.length_drop, List.length_take]; rfl)) ?_; (with_reducible refine (nums_TakeText.calls _ _ t187 256 t192 t193 false _ ?side1 ?side2 A29.out).mono ?_); (case side1 => refine (Kd.R_reads' (e := 5) (base := w.heap.size) (ok := fun k_ => (w.heap.size ≤ k_)) (n := t187.length) (c := co42) ?_).2.2; exact (by (with_reducible repeat (first | apply Kd.R_alloc | apply Kd.R_drewN | apply Kd.R_drew)); exact (Kd.R_mono (Kd.R_far (p := ⟨gb191, 3, none⟩) (Kd.R_far (p := ⟨gb191, 2, none⟩) (Kd.R_far (p := ⟨gb191, 1, none⟩) (Kd.R_far (p := ⟨gb191, 0, none⟩) (Kd.R_types HO_7.out BK191.out (by decide)) (fun _ hk => hk.2) (.string ((x5_7.extract 0 (t176 : Int).toNat) ++ t181))) (fun _ hk => hk.2) (.int .u64 (t186 / 2))) (fun _ hk => hk.2) (.int .u8 ((Go.bits .and .u64 t186 1) % 256))) (fun _ hk => hk.2) (.string (⟨#[]⟩ : ByteArray))) (fun _ h_ => h_.1)))); (case side2 => exact (Kd.R_reads' HO_7.out).2.1); rintro e w43 ⟨v195, rfl, ho0, hb⟩; refine ⟨_, rfl, ?_⟩; have n0_ := Aside0.mk (Kd.R_below (by (with_reducible repeat (first | apply Kd.R_alloc | apply Kd.R_drewN | apply Kd.R_drew)); exact (Kd.R_mono (Kd.R_far (p := ⟨gb191, 3, none⟩) (Kd.R_far (p := ⟨gb191, 2, none⟩) (Kd.R_far (p := ⟨gb191, 1, none⟩) (Kd.R_far (p := ⟨gb191, 0, none⟩) (Kd.R_mono HO_4.out (fun k_ hk => (⟨hk, hk.2⟩ : _ ∧ k_ ≠ gb191))) (fun _ hk => hk.2) (.string ((x5_7.extract 0 (t176 : Int).toNat) ++ t181))) (fun _ hk => hk.2) (.int .u64 (t186 / 2))) (fun _ hk => hk.2) (.int .u8 ((Go.bits .and .u64 t186 1) % 256))) (fun _ hk => hk.2) (.string (⟨#[]⟩ : ByteArray))) (fun _ h_ => h_.1))) hb); have n1_ := Aside0.mk (Kd.R_elder' (by (with_reducible repeat (first | apply Kd.R_alloc | apply Kd.R_drewN | apply Kd.R_drew)); exact (Kd.R_mono (Kd.R_far (p := ⟨gb191, 3, none⟩) (Kd.R_far (p := ⟨gb191, 2, none⟩) (Kd.R_far (p := ⟨gb191, 1, none⟩) (Kd.R_far (p := ⟨gb191, 0, none⟩) (Kd.R_types HO_7.out BK191.out (by decide)) (fun _ hk => hk.2) (.string ((x5_7.extract 0 (t176 : Int).toNat) ++ t181))) (fun _ hk => hk.2) (.int .u64 (t186 / 2))) (fun _ hk => hk.2) (.int .u8 ((Go.bits .and .u64 t186 1) % 256))) (fun _ hk => hk.2) (.string (⟨#[]⟩ : ByteArray))) (fun _ h_ => h_.1))) (Kd.R_base ho0) hb); have n2_ := Aside0.mk (Kd.R_lower (Kd.R_new' (Kd.R_newM (M := fun k_ => (w.heap.size ≤ k_)) ho0 (below_size (by repeat (first | (with_reducible first | exact HB.out | apply below_alloc | apply pw_below_drewN | apply below_drew1 | refine below_set ?_ GE191.out) | exact HB.out))) (fun k_ h_ => h_)) (Kd.R_lt (by (with_reducible repeat (first | apply Kd.R_alloc | apply Kd.R_drewN | apply Kd.R_drew)); exact (Kd.R_mono (Kd.R_far (p := ⟨gb191, 3, none⟩) (Kd.R_far (p := ⟨gb191, 2, none⟩) (Kd.R_far (p := ⟨gb191, 1, none⟩) (Kd.R_far (p := ⟨gb191, 0, none⟩) (Kd.R_types HO_7.out BK191.out (by decide)) (fun _ hk => hk.2) (.string ((x5_7.extract 0 (t176 : Int).toNat) ++ t181))) (fun _ hk => hk.2) (.int .u64 (t186 / 2))) (fun _ hk => hk.2) (.int .u8 ((Go.bits .and .u64 t186 1) % 256))) (fun _ hk => hk.2) (.string (⟨#[]⟩ : ByteArray))) (fun _ h_ => h_.1))))) (below_size (by repeat (first | (with_reducible first | exact HB.out | apply below_alloc | apply pw_below_drewN | apply below_drew1 | refine below_set ?_ GE191.out) | exact HB.out)))); have n3_ := Aside0.mk (blk_below (g := gb191) (o := .cells #[.string ((x5_7.extract 0 (t176 : Int).toNat) ++ t181), .int .u64 (t186 / 2), .int .u8 ((Go.bits .and .u64 t186 1) % 256), .string (⟨#[]⟩ : ByteArray)] 59 (0, 0)) (by (with_reducible repeat (first | refine blk_drewN ?_ _ | refine blk_drew ?_ | refine blk_alloc ?_ _)); refine blk_put (cs := #[.string ((x5_7.extract 0 (t176 : Int).toNat) ++ t181), .int .u64 (t186 / 2), .int .u8 ((Go.bits .and .u64 t186 1) % 256), .string (⟨#[]⟩ : ByteArray)]) ?_ 3 _ rfl; (with_reducible repeat (first | refine blk_drewN ?_ _ | refine blk_drew ?_ | refine blk_alloc ?_ _)); refine blk_put (cs := #[.string ((x5_7.extract 0 (t176 : Int).toNat) ++ t181), .int .u64 (t186 / 2), .int .u8 0, .string (⟨#[]⟩ : ByteArray)]) ?_ 2 _ rfl; (with_reducible repeat (first | refine blk_drewN ?_ _ | refine blk_drew ?_ | refine blk_alloc ?_ _)); refine blk_put (cs := #[.string ((x5_7.extract 0 (t176 : Int).toNat) ++ t181), .int .u64 0, .int .u8 0, .string (⟨#[]⟩ : ByteArray)]) ?_ 1 _ rfl; (with_reducible repeat (first | refine blk_drewN ?_ _ | refine blk_drew ?_ | refine blk_alloc ?_ _)); refine blk_put (cs := #[.string (⟨#[]⟩ : ByteArray), .int .u64 0, .int .u8 0, .string (⟨#[]⟩ : ByteArray)]) ?_ 0 _ rfl; (with_reducible repeat (first | refine blk_drewN ?_ _ | refine blk_drew ?_ | refine blk_alloc ?_ _)); exact BK191.out) hb); have n4_ := Aside0.mk (below_step (by repeat (first | (with_reducible first | exact HB.out | apply below_alloc | apply pw_below_drewN | apply below_drew1 | refine below_set ?_ GE191.out) | exact HB.out)) hb); clear HO_4; clear HO_7; clear BK191; clear HB; have HO_4 := n0_; have HO_7 := n1_; have HO196 := n2_; have BK191 := n3_; have HB := n4_; clear n0_ n1_ n2_ n3_ n4_; (try clear hb); (try clear hb2); (try clear hk); (try clear hi); (try clear ho0); have hcz44_0 : w43.cell? ⟨gb191, 0, none⟩ = some (.string ((x5_7.extract 0 (t176 : Int).toNat) ++ t181)) := (blk_cell BK191.out 0).trans rfl; have hcz44_1 : w43.cell? ⟨gb191, 1, none⟩ = some (.int .u64 (t186 / 2)) := (blk_cell BK191.out 1).trans rfl; have hcz44_2 : w43.cell? ⟨gb191, 2, none⟩ = some (.int .u8 ((Go.bits .and .u64 t186 1) % 256)) := (blk_cell BK191.out 2).trans rfl; have hcz44_3 : w43.cell? ⟨gb191, 3, none⟩ = some (.string (⟨#[]⟩ : ByteArray)) := (blk_cell BK191.out 3).trans rfl; have hfz44_0 := blk_frozen BK191.out 0; have hfz44_1 := blk_frozen BK191.out 1; have hfz44_2 := blk_frozen BK191.out 2; have hfz44_3 := blk_frozen BK191.out 3))
                                go_ret2
                                exact ⟨_, by first | rfl | (simp [errW_none, errW_some] <;> rfl) | (simp [*, errW_none, errW_some] <;> rfl), by first | exact Kd.R_nil _ _ _ _ _ | exact Kd.N_nil _ _ _ _ _ | exact Kd.V_nil _ _ _ _ _ | exact Kd.Q_nil _ _ _ _ _ | exact Kd.S_nil _ _ _ _ _, by repeat (first | (with_reducible first | exact HB.out | apply below_alloc | apply pw_below_drewN | apply below_drew1 | refine below_set ?_ GE191.out) | exact HB.out)⟩
                            · rw [if_neg c28] at H
                              have c28b0 : (((Go.bits .and .u64 t186 1) % 256) == 1) = false := beq_eq_false_iff_ne.mpr c28
                              have c28b1 : (((Go.bits .and .u64 t186 1) % 256) != 1) = true := bne_iff_ne.mpr c28
                              by_cases c45 : x4_1.length < 2932031007402
                              · rw [if_pos c45] at H
                                have LMc45 := Aside0.mk c45
                                clear c45
                                obtain ⟨y200, hy200⟩ : ∃ y_ : List (S59), y_ = (x4_1 ++ [(⟨(⟨(x5_7.extract 0 (t176 : Int).toNat) ++ t181, t186 / 2, (Go.bits .and .u64 t186 1) % 256⟩ : S50), (⟨#[]⟩ : ByteArray)⟩ : S59)]) := ⟨_, rfl⟩
                                replace H : (block_entries.l0 kj13 t187 y200 ((x5_7.extract 0 (t176 : Int).toNat) ++ t181)) = some (r1, r2) := by first | (rw [hy200]; with_reducible exact H) | (have H2_ := (Option.bind_some _ _).symm.trans H; rw [hy200]; with_reducible exact H2_) | (have H2_ := (Option.bind_some _ _).symm.trans H; with_reducible exact H2_) | with_reducible exact H | (rw [hy200]; exact H) | exact H
                                have Ny200 := Aside0.mk hy200
                                clear hy200
                                have H' := Aside0.mk H
                                clear H
                                try go_wp2_with (first | ((with_reducible refine gate_dst (N := 13) rfl ?_); (try (refine gate_guard (by rfl) ?_; dsimp only)); refine box_event ?hg (N := 13) ?hd (cs := #[.string (⟨#[]⟩ : ByteArray), .int .u64 0, .int .u8 0, .string (⟨#[]⟩ : ByteArray)]) (t := 59) ?hr ?_; (case hd => rfl); (case hg => rfl); (case hr => first | (go_simp; done) | (go_simp; rfl)); intro gb191 hg w46 hbox hb; have n0_ := Aside0.mk (Kd.R_below (Kd.R_elderB (by (with_reducible repeat (first | apply Kd.R_alloc | apply Kd.R_drewN | apply Kd.R_drew)); exact HO_4.out) gb191 (Nat.le_of_eq hg.symm)) hb); have n1_ := Aside0.mk (Kd.R_below (by (with_reducible repeat (first | apply Kd.R_alloc | apply Kd.R_drewN | apply Kd.R_drew)); exact HO_7.out) hb); have n2_ := Aside0.mk (below_step (by repeat (first | (with_reducible first | exact HB.out | apply below_alloc | apply pw_below_drewN | apply below_drew1) | exact HB.out)) hb); have n3_ := Aside0.mk (hbox); have n4_ := Aside0.mk ((by rw [hg]; exact (below_size (by repeat (first | (with_reducible first | exact HB.out | apply below_alloc | apply pw_below_drewN | apply below_drew1) | exact HB.out))) : w.heap.size ≤ gb191)); have n5_ := Aside0.mk ((by rw [hg]; exact (below_size (by repeat (first | (with_reducible first | exact HB.out | apply below_alloc | apply pw_below_drewN | apply below_drew1) | exact HB.out))) : w.heap.size ≤ gb191)); clear HO_4; clear HO_7; clear HB; have HO_4 := n0_; have HO_7 := n1_; have HB := n2_; have BK191 := n3_; have GW191 := n4_; have GE191 := n5_; clear n0_ n1_ n2_ n3_ n4_ n5_; clear hb hbox hg; have hcz47_0 : w46.cell? ⟨gb191, 0, none⟩ = some (.string (⟨#[]⟩ : ByteArray)) := (blk_cell BK191.out 0).trans rfl; have hcz47_1 : w46.cell? ⟨gb191, 1, none⟩ = some (.int .u64 0) := (blk_cell BK191.out 1).trans rfl; have hcz47_2 : w46.cell? ⟨gb191, 2, none⟩ = some (.int .u8 0) := (blk_cell BK191.out 2).trans rfl; have hcz47_3 : w46.cell? ⟨gb191, 3, none⟩ = some (.string (⟨#[]⟩ : ByteArray)) := (blk_cell BK191.out 3).trans rfl; have hfz47_0 := blk_frozen BK191.out 0; have hfz47_1 := blk_frozen BK191.out 1; have hfz47_2 := blk_frozen BK191.out 2; have hfz47_3 := blk_frozen BK191.out 3))
                                have n0_ : Aside0 (Kd.R k59 59 ((((w46.setCell ⟨gb191, 0, none⟩ (.string ((x5_7.extract 0 (t176 : Int).toNat) ++ t181))).setCell ⟨gb191, 1, none⟩ (.int .u64 (t186 / 2))).setCell ⟨gb191, 2, none⟩ (.int .u8 ((Go.bits .and .u64 t186 1) % 256))).setCell ⟨gb191, 3, none⟩ (.string (⟨#[]⟩ : ByteArray))) w.heap.size (fun k_ => (w.heap.size ≤ k_) ∧ k_ ≠ gb191) (.slice Ao9 x4_1.length co9) x4_1) := ⟨by (with_reducible repeat (first | apply Kd.R_alloc | apply Kd.R_drewN | apply Kd.R_drew)); exact Kd.R_mono (Kd.R_far (p := ⟨gb191, 3, none⟩) (Kd.R_far (p := ⟨gb191, 2, none⟩) (Kd.R_far (p := ⟨gb191, 1, none⟩) (Kd.R_far (p := ⟨gb191, 0, none⟩) (Kd.R_mono HO_4.out (fun k_ hk => (⟨hk, hk.2⟩ : _ ∧ k_ ≠ gb191))) (fun _ hk => hk.2) (.string ((x5_7.extract 0 (t176 : Int).toNat) ++ t181))) (fun _ hk => hk.2) (.int .u64 (t186 / 2))) (fun _ hk => hk.2) (.int .u8 ((Go.bits .and .u64 t186 1) % 256))) (fun _ hk => hk.2) (.string (⟨#[]⟩ : ByteArray))) (fun _ hk => ⟨hk.1.1, hk.1.2⟩)⟩
                                have n1_ : Aside0 (Kd.R (Kd.int .u8) 5 ((((w46.setCell ⟨gb191, 0, none⟩ (.string ((x5_7.extract 0 (t176 : Int).toNat) ++ t181))).setCell ⟨gb191, 1, none⟩ (.int .u64 (t186 / 2))).setCell ⟨gb191, 2, none⟩ (.int .u8 ((Go.bits .and .u64 t186 1) % 256))).setCell ⟨gb191, 3, none⟩ (.string (⟨#[]⟩ : ByteArray))) w.heap.size (fun k_ => (w.heap.size ≤ k_)) v189 t187) := ⟨by (with_reducible repeat (first | apply Kd.R_alloc | apply Kd.R_drewN | apply Kd.R_drew)); exact Kd.R_mono (Kd.R_far (p := ⟨gb191, 3, none⟩) (Kd.R_far (p := ⟨gb191, 2, none⟩) (Kd.R_far (p := ⟨gb191, 1, none⟩) (Kd.R_far (p := ⟨gb191, 0, none⟩) (Kd.R_types HO_7.out BK191.out (by decide)) (fun _ hk => hk.2) (.string ((x5_7.extract 0 (t176 : Int).toNat) ++ t181))) (fun _ hk => hk.2) (.int .u64 (t186 / 2))) (fun _ hk => hk.2) (.int .u8 ((Go.bits .and .u64 t186 1) % 256))) (fun _ hk => hk.2) (.string (⟨#[]⟩ : ByteArray))) (fun _ hk => hk.1)⟩
                                have n2_ : Aside0 (((((w46.setCell ⟨gb191, 0, none⟩ (.string ((x5_7.extract 0 (t176 : Int).toNat) ++ t181))).setCell ⟨gb191, 1, none⟩ (.int .u64 (t186 / 2))).setCell ⟨gb191, 2, none⟩ (.int .u8 ((Go.bits .and .u64 t186 1) % 256))).setCell ⟨gb191, 3, none⟩ (.string (⟨#[]⟩ : ByteArray))).heap[gb191]? = some (.cells #[.string ((x5_7.extract 0 (t176 : Int).toNat) ++ t181), .int .u64 (t186 / 2), .int .u8 ((Go.bits .and .u64 t186 1) % 256), .string (⟨#[]⟩ : ByteArray)] 59 (0, 0))) := ⟨by (with_reducible repeat (first | refine blk_drewN ?_ _ | refine blk_drew ?_ | refine blk_alloc ?_ _)); refine blk_put (cs := #[.string ((x5_7.extract 0 (t176 : Int).toNat) ++ t181), .int .u64 (t186 / 2), .int .u8 ((Go.bits .and .u64 t186 1) % 256), .string (⟨#[]⟩ : ByteArray)]) ?_ 3 _ rfl; (with_reducible repeat (first | refine blk_drewN ?_ _ | refine blk_drew ?_ | refine blk_alloc ?_ _)); refine blk_put (cs := #[.string ((x5_7.extract 0 (t176 : Int).toNat) ++ t181), .int .u64 (t186 / 2), .int .u8 0, .string (⟨#[]⟩ : ByteArray)]) ?_ 2 _ rfl; (with_reducible repeat (first | refine blk_drewN ?_ _ | refine blk_drew ?_ | refine blk_alloc ?_ _)); refine blk_put (cs := #[.string ((x5_7.extract 0 (t176 : Int).toNat) ++ t181), .int .u64 0, .int .u8 0, .string (⟨#[]⟩ : ByteArray)]) ?_ 1 _ rfl; (with_reducible repeat (first | refine blk_drewN ?_ _ | refine blk_drew ?_ | refine blk_alloc ?_ _)); refine blk_put (cs := #[.string (⟨#[]⟩ : ByteArray), .int .u64 0, .int .u8 0, .string (⟨#[]⟩ : ByteArray)]) ?_ 0 _ rfl; (with_reducible repeat (first | refine blk_drewN ?_ _ | refine blk_drew ?_ | refine blk_alloc ?_ _)); exact BK191.out⟩
                                have n3_ : Aside0 (Below w.heap.size w ((((w46.setCell ⟨gb191, 0, none⟩ (.string ((x5_7.extract 0 (t176 : Int).toNat) ++ t181))).setCell ⟨gb191, 1, none⟩ (.int .u64 (t186 / 2))).setCell ⟨gb191, 2, none⟩ (.int .u8 ((Go.bits .and .u64 t186 1) % 256))).setCell ⟨gb191, 3, none⟩ (.string (⟨#[]⟩ : ByteArray)))) := ⟨by repeat (first | (with_reducible first | exact HB.out | apply below_alloc | apply pw_below_drewN | apply below_drew1 | refine below_set ?_ GE191.out) | exact HB.out)⟩
                                (try clear HO_4)
                                (try clear HO_7)
                                (try clear BK191)
                                (try clear HB)
                                generalize ((((w46.setCell ⟨gb191, 0, none⟩ (.string ((x5_7.extract 0 (t176 : Int).toNat) ++ t181))).setCell ⟨gb191, 1, none⟩ (.int .u64 (t186 / 2))).setCell ⟨gb191, 2, none⟩ (.int .u8 ((Go.bits .and .u64 t186 1) % 256))).setCell ⟨gb191, 3, none⟩ (.string (⟨#[]⟩ : ByteArray))) = w48 at n0_ n1_ n2_ n3_ ⊢
                                have HO_4 := n0_
                                have HO_7 := n1_
                                have BK191 := n2_
                                have HB := n3_
                                clear n0_ n1_ n2_ n3_
                                have n0_ := Aside0.mk (Kd.R_drew HO_4.out)
                                have n1_ := Aside0.mk (Kd.R_drew HO_7.out)
                                have n2_ := Aside0.mk (blk_drew BK191.out)
                                have n3_ := Aside0.mk (below_drew1 HB.out)
                                clear HO_4
                                clear HO_7
                                clear BK191
                                clear HB
                                have HO_4 := n0_
                                have HO_7 := n1_
                                have BK191 := n2_
                                have HB := n3_
                                clear n0_ n1_ n2_ n3_
                                refine start_ (n := 11) (S := fun w' => w'.cell? ⟨gb191, 0, none⟩ = some (.string ((x5_7.extract 0 (t176 : Int).toNat) ++ t181)) ∧ w'.cell? ⟨gb191, 1, none⟩ = some (.int .u64 (t186 / 2)) ∧ w'.cell? ⟨gb191, 2, none⟩ = some (.int .u8 ((Go.bits .and .u64 t186 1) % 256)) ∧ w'.cell? ⟨gb191, 3, none⟩ = some (.string (⟨#[]⟩ : ByteArray))) (ds := []) #[false, false, false, false, false, false, false, false, false, false, false] (by kernel_rfl) rfl rfl ⟨(blk_cell BK191.out 0).trans rfl, (blk_cell BK191.out 1).trans rfl, (blk_cell BK191.out 2).trans rfl, (blk_cell BK191.out 3).trans rfl⟩ (fun hHeld => ?_); refine with_tabW block_entries.tab16 block_entries.bits16 (fun HT_ HW_ => ?_)
                                generalize w48.drew = w49 at HO_4 HO_7 BK191 HB hHeld ⊢
                                refine pure_ (i := 0) (N := some 86) (v := ?_) (a' := ?_) #[true, false, false, false, false, false, false, false, false, false, false] rfl rfl (any_of HT_.out (by kernel_rfl)) (fun _ _ _ h => h) (Or.inl ⟨by rfl, ?_⟩) ?_ ?_
                                rotate_left
                                · intro w'
                                  go_simp
                                  with_reducible rfl
                                rotate_left
                                · simp only [Act.put, List.setIfInBounds_toArray, List.set_cons_zero, List.set_cons_succ, i64_w, i32_w]
                                  rfl
                                refine pure_ (i := 4) (N := some 90) (v := ?_) (a' := ?_) #[true, false, false, false, true, false, false, false, false, false, false] rfl rfl (any_of HT_.out (by kernel_rfl)) (fun _ _ _ h => h) (Or.inl ⟨by rfl, ?_⟩) ?_ ?_
                                rotate_left
                                · intro w'
                                  go_simp
                                  with_reducible rfl
                                rotate_left
                                · simp only [Act.put, List.setIfInBounds_toArray, List.set_cons_zero, List.set_cons_succ, i64_w, i32_w]
                                  rfl
                                refine pure_ (i := 5) (N := some 91) (v := ?_) (a' := ?_) #[true, false, false, false, true, true, false, false, false, false, false] rfl rfl (any_of HT_.out (by kernel_rfl)) (fun _ _ _ h => h) (Or.inl ⟨by rfl, ?_⟩) ?_ ?_
                                rotate_left
                                · intro w'
                                  go_simp
                                  with_reducible rfl
                                rotate_left
                                · simp only [Act.put, List.setIfInBounds_toArray, List.set_cons_zero, List.set_cons_succ, i64_w, i32_w]
                                  rfl
                                refine pure_ (i := 6) (N := some 92) (v := ?_) (a' := ?_) #[true, false, false, false, true, true, true, false, false, false, false] rfl rfl (any_of HT_.out (by kernel_rfl)) (fun _ _ _ h => h) (Or.inl ⟨by rfl, ?_⟩) ?_ ?_
                                rotate_left
                                · intro w'
                                  go_simp
                                  with_reducible rfl
                                rotate_left
                                · simp only [Act.put, List.setIfInBounds_toArray, List.set_cons_zero, List.set_cons_succ, i64_w, i32_w]
                                  rfl
                                refine take_ (i := 1) (N := some 87) (v := ?_) (a' := ?_) #[true, true, false, false, true, true, true, false, false, false, false] rfl rfl (take_ofW HT_.out HW_.out (by kernel_rfl)) (fun _ _ _ h => h) (Or.inl ⟨by rfl, ?_⟩) hHeld ?_ ?_
                                rotate_left
                                · rintro w' ⟨s0, s1, s2, s3⟩
                                  go_simp
                                  with_reducible rfl
                                rotate_left
                                · simp only [Act.put, List.setIfInBounds_toArray, List.set_cons_zero, List.set_cons_succ, i64_w, i32_w]
                                  rfl
                                refine take_ (i := 7) (N := some 93) (v := ?_) (a' := ?_) #[true, true, false, false, true, true, true, true, false, false, false] rfl rfl (take_ofW HT_.out HW_.out (by kernel_rfl)) (fun _ _ _ h => h) (Or.inl ⟨by rfl, ?_⟩) hHeld ?_ ?_
                                rotate_left
                                · rintro w' ⟨s0, s1, s2, s3⟩
                                  go_simp
                                  with_reducible rfl
                                rotate_left
                                · simp only [Act.put, List.setIfInBounds_toArray, List.set_cons_zero, List.set_cons_succ, i64_w, i32_w]
                                  rfl
                                refine one_ (i := 2) (N := some 88) #[true, true, true, false, true, true, true, true, false, false, false] rfl rfl (one_of HT_.out (by kernel_rfl)) (by decide) (fun K hK => ?_)
                                refine value_ (w1 := ?_) (v := ?_) (by rfl) rfl ?_ ?_
                                rotate_left 2
                                · go_simp
                                  constructor
                                  · rfl
                                  · rfl
                                refine hK.out _ _ ⟨(blk_cell (blk_alloc BK191.out _) 0).trans rfl, (blk_cell (blk_alloc BK191.out _) 1).trans rfl, (blk_cell (blk_alloc BK191.out _) 2).trans rfl, (blk_cell (blk_alloc BK191.out _) 3).trans rfl⟩ (fun hHeld => ?_)
                                clear hK K
                                refine norm_ (a' := ?_) ?_ ?_
                                rotate_left
                                · show Act.put _ (some 88) _ = _
                                  simp only [Act.put, List.setIfInBounds_toArray, List.set_cons_zero, List.set_cons_succ, i64_w, i32_w]
                                  rfl
                                refine one_ (i := 3) (N := some 89) #[true, true, true, true, true, true, true, true, false, false, false] rfl rfl (one_of HT_.out (by kernel_rfl)) (by decide) (fun K hK => ?_)
                                refine Kd.R_append_step k59 (w0 := w) w.heap.size (by rfl) (.tmp 86) (.tmp 88) 48 59 (.agg #[(.string ⟨#[]⟩), (.int .u64 0), (.int .u8 0), (.string ⟨#[]⟩)]) 48 rfl Try.underlying48 info59 rfl (by decide) (by omega) (.slice Ao9 x4_1.length co9) x4_1 (⟨(⟨(x5_7.extract 0 (t176 : Int).toNat) ++ t181, t186 / 2, (Go.bits .and .u64 t186 1) % 256⟩ : S50), (⟨#[]⟩ : ByteArray)⟩ : S59) [.string ((x5_7.extract 0 (t176 : Int).toNat) ++ t181), .int .u64 (t186 / 2), .int .u8 ((Go.bits .and .u64 t186 1) % 256), .string (⟨#[]⟩ : ByteArray)] (fun k_ => (w.heap.size ≤ k_) ∧ k_ ≠ gb191) (fun _ => False) rfl rfl ?aP (fun _ hk => hk.elim) ?aF ?aO ?aB ?aS ?aL ?_
                                (case aP => exact k59_mkM _ _ _ (⟨(⟨(x5_7.extract 0 (t176 : Int).toNat) ++ t181, t186 / 2, (Go.bits .and .u64 t186 1) % 256⟩ : S50), (⟨#[]⟩ : ByteArray)⟩ : S59))
                                (case aB => exact (by repeat (first | (with_reducible first | exact HB.out | apply below_alloc | apply pw_below_drewN | apply below_drew1 | refine below_set ?_ GE191.out) | exact HB.out)))
                                (case aF => exact (fun k_ hk => ⟨(Nat.le_trans (below_size (by repeat (first | (with_reducible first | exact HB.out | apply below_alloc | apply pw_below_drewN | apply below_drew1 | refine below_set ?_ GE191.out) | exact HB.out))) hk), Kd.freshB (g := gb191) (o := .cells #[.string ((x5_7.extract 0 (t176 : Int).toNat) ++ t181), .int .u64 (t186 / 2), .int .u8 ((Go.bits .and .u64 t186 1) % 256), .string (⟨#[]⟩ : ByteArray)] 59 (0, 0)) (by (with_reducible repeat (first | refine blk_drewN ?_ _ | refine blk_drew ?_ | refine blk_alloc ?_ _)); exact BK191.out) k_ hk⟩))
                                (case aO => exact (by (with_reducible repeat (first | apply Kd.R_alloc | apply Kd.R_drewN | apply Kd.R_drew)); exact HO_4.out))
                                (case aS => exact (below_size (by repeat (first | (with_reducible first | exact HB.out | apply below_alloc | apply pw_below_drewN | apply below_drew1 | refine below_set ?_ GE191.out) | exact HB.out))))
                                (case aL => have := LMc45.out; omega)
                                intro v201 w50 ho hb hg hat
                                rw [← Ny200.out] at ho
                                have n0_ := Aside0.mk (Kd.R_over' (by (with_reducible repeat (first | apply Kd.R_alloc | apply Kd.R_drewN | apply Kd.R_drew)); exact HO_7.out) (Kd.R_typed (by (with_reducible repeat (first | apply Kd.R_alloc | apply Kd.R_drewN | apply Kd.R_drew)); exact HO_4.out)) (by decide) hg)
                                have n1_ := Aside0.mk (blk_grown (g := gb191) (o := .cells #[.string ((x5_7.extract 0 (t176 : Int).toNat) ++ t181), .int .u64 (t186 / 2), .int .u8 ((Go.bits .and .u64 t186 1) % 256), .string (⟨#[]⟩ : ByteArray)] 59 (0, 0)) (by (with_reducible repeat (first | refine blk_drewN ?_ _ | refine blk_drew ?_ | refine blk_alloc ?_ _)); exact BK191.out) hg (Kd.R_away HO_4.out (fun _ hk => hk.2)))
                                have n2_ := Aside0.mk (hb)
                                have n3_ := Aside0.mk (ho)
                                clear HO_7
                                clear BK191
                                clear HB
                                clear HO_4
                                have HO_7 := n0_
                                have BK191 := n1_
                                have HB := n2_
                                have HO202 := n3_
                                clear n0_ n1_ n2_ n3_
                                clear ho hb hg hat
                                refine hK.out _ _ ⟨(blk_cell BK191.out 0).trans rfl, (blk_cell BK191.out 1).trans rfl, (blk_cell BK191.out 2).trans rfl, (blk_cell BK191.out 3).trans rfl⟩ (fun hHeld => ?_)
                                clear hK K
                                refine norm_ (a' := ?_) ?_ ?_
                                rotate_left
                                · show Act.put _ (some 89) _ = _
                                  simp only [Act.put, List.setIfInBounds_toArray, List.set_cons_zero, List.set_cons_succ, i64_w, i32_w]
                                  rfl
                                refine pure_ (i := 8) (N := some 4) (v := ?_) (a' := ?_) #[true, true, true, true, true, true, true, true, true, false, false] rfl rfl (any_of HT_.out (by kernel_rfl)) (fun _ _ _ h => h) (Or.inl ⟨by rfl, ?_⟩) ?_ ?_
                                rotate_left
                                · intro w'
                                  go_simp
                                  with_reducible rfl
                                rotate_left
                                · simp only [Act.put, List.setIfInBounds_toArray, List.set_cons_zero, List.set_cons_succ, i64_w, i32_w]
                                  rfl
                                refine pure_ (i := 9) (N := some 0) (v := ?_) (a' := ?_) #[true, true, true, true, true, true, true, true, true, true, false] rfl rfl (any_of HT_.out (by kernel_rfl)) (fun _ _ _ h => h) (Or.inl ⟨by rfl, ?_⟩) ?_ ?_
                                rotate_left
                                · intro w'
                                  go_simp
                                  with_reducible rfl
                                rotate_left
                                · simp only [Act.put, List.setIfInBounds_toArray, List.set_cons_zero, List.set_cons_succ, i64_w, i32_w]
                                  rfl
                                refine pure_ (i := 10) (N := some 5) (v := ?_) (a' := ?_) #[true, true, true, true, true, true, true, true, true, true, true] rfl rfl (any_of HT_.out (by kernel_rfl)) (fun _ _ _ h => h) (Or.inl ⟨by rfl, ?_⟩) ?_ ?_
                                rotate_left
                                · intro w'
                                  go_simp
                                  with_reducible rfl
                                rotate_left
                                · simp only [Act.put, List.setIfInBounds_toArray, List.set_cons_zero, List.set_cons_succ, i64_w, i32_w]
                                  rfl
                                refine done_ (done_of HT_.out (by kernel_rfl)) ?_
                                try go_wp2
                                go_roundg kj13
                                case measure => have := HK1.out; have := HJ1.out; have := HJ7.out; have := HJ13.out; omega
                                case rel => exact ⟨(t187), (y200), ((x5_7.extract 0 (t176 : Int).toNat) ++ t181), (by first | rfl | (simp; done) | (simp [*]; done)), H', ⟨by have := HK1.out; have := HJ1.out; have := HJ7.out; have := HJ13.out; omega⟩, ⟨Kd.V_mono (Kd.R_V (by (with_reducible repeat (first | apply Kd.R_alloc | apply Kd.R_drewN | apply Kd.R_drew)); exact (Kd.R_apart' HO_7.out (Kd.R_typed HO202.out) (by decide)))) (fun k_ hk => by first | exact ⟨(.inr (hk.1)), hk.2⟩ | exact (.inr (hk)))⟩, ⟨by (with_reducible repeat (first | apply Kd.R_alloc | apply Kd.R_drewN | apply Kd.R_drew)); exact Kd.R_mono HO202.out (fun _ hk => hk.1)⟩, ⟨by repeat (first | (with_reducible first | exact HB.out | apply below_alloc | apply pw_below_drewN | apply below_drew1 | refine below_set ?_ GE191.out) | exact HB.out)⟩⟩
                              · rw [if_neg c45] at H
                                exact absurd H (by simp)
                          · rw [if_neg c27] at H
                            exact absurd H (by simp)
                        · rw [if_neg c26] at H
                          exact absurd H (by simp)
                      · rw [if_neg c25] at H
                        exact absurd H (by simp)
          · replace c7 := Bool.eq_false_iff.mpr c7
            subst c7
            have H1 : (some (x4_1, true)) = some (r1, r2) := by rw [if_neg (show ¬ (false = true) by decide)] at H; exact H
            clear H
            have H := H1
            clear H1
            simp only [Option.some.injEq, Prod.mk.injEq] at H
            obtain ⟨rfl, rfl⟩ := H
            go_wp2
            go_ret2
            exact ⟨_, by first | rfl | (simp [errW_none, errW_some] <;> rfl) | (simp [*, errW_none, errW_some] <;> rfl), by (with_reducible repeat (first | apply Kd.R_alloc | apply Kd.R_drewN | apply Kd.R_drew)); exact HO_4.out, by repeat (first | (with_reducible first | exact HB.out | apply below_alloc | apply pw_below_drewN | apply below_drew1) | exact HB.out)⟩

end Go.Proofs.Ytjcjfghcahbbmaa.P

end

section
namespace Go.Proofs.Ytjcjfghcahbbmaa.P
open Go.RowKit Go.Proofs.YtjcjfghcahbbmaaG Go.Proofs.YtjcjfghcahbbmaaW.PrintWords Go.Proofs.YtjcjfghcahbbmaaW.PrintLast Go.Proofs.YtjcjfghcahbbmaaW.PrintMore
attribute [local go_sem] str_gtr str_geq str_leq max2_int min2_int max_two min_two max_three min_three max_four min_four   -- for this text's walks alone
set_option linter.unusedVariables false
set_option linter.unusedSimpArgs false

def bytes_Equal.f (l0 : List Int) (l1 : List Int) : Option (Bool) := some ((strOfNums l0).toList == (strOfNums l1).toList)
set_option maxHeartbeats 8000000 in
set_option maxRecDepth 100000 in
theorem bytes_Equal.calls (A0 : Option Addr) (c0 : Nat) (l0 : List Int) (A1 : Option Addr) (c1 : Nat) (l1 : List Int) (r : Bool) (w : World) (hr0 : Kd.C (Kd.int .u8) w A0 l0.length l0) (hc0 : l0.length ≤ c0) (hr1 : Kd.C (Kd.int .u8) w A1 l1.length l1) (hc1 : l1.length ≤ c1) (h : bytes_Equal.f l0 l1 = some r) :
    Calls Try.prog 59 #[.slice A0 l0.length c0, .slice A1 l1.length c1] w fun e w' => e = .returned (.bool r) ∧ Drawn0 w w' := by
  have HR0 := Aside0.mk hr0
  have HC0 := Aside0.mk hc0
  clear hr0 hc0
  have HR1 := Aside0.mk hr1
  have HC1 := Aside0.mk hc1
  clear hr1 hc1
  have H : (some ((strOfNums l0).toList == (strOfNums l1).toList)) = some r := h
  clear h
  obtain rfl := Option.some.inj H
  have hcv3 := Kd.C_string (P := Try.prog) (A := A0) (c := c0) Try.underlying26 Try.underlying5 Try.underlying9 HR0.out
  have hcvd_ := fun n_ => Kd.C_string (P := Try.prog) (A := A0) (c := c0) Try.underlying26 Try.underlying5 Try.underlying9 (Kd.C_below (HR0.out) (pw_below_drewN (Below.refl _ _) n_))
  (try simp only [List.length_take, Int.toNat_natCast] at hcvd_)
  have hcv4 := Kd.C_string (P := Try.prog) (A := A1) (c := c1) Try.underlying26 Try.underlying5 Try.underlying9 HR1.out
  have hcvd_ := fun n_ => Kd.C_string (P := Try.prog) (A := A1) (c := c1) Try.underlying26 Try.underlying5 Try.underlying9 (Kd.C_below (HR1.out) (pw_below_drewN (Below.refl _ _) n_))
  (try simp only [List.length_take, Int.toNat_natCast] at hcvd_)
  go_enter Try.func59, Try.ntmps59
  go_wp2
  go_ret
  exact ⟨by first | rfl | (simp; done) | (simp [*]; done), by repeat (first | exact Drawn0.refl _ | apply Drawn0.step)⟩

end Go.Proofs.Ytjcjfghcahbbmaa.P

end

section
set_option linter.unusedVariables false
namespace Go.Proofs.YtjcjfghcahbbmaaL
open Go Go.RowKit Go.Proofs.YtjcjfghcahbbmaaW.PrintWords
section
variable {α β γ δ ε ζ : Type} {r : α}
theorem ev_some (r : α) : Ev (fun _ => some r) r := Ev.now r
theorem ev_bind {o : Option β} {a : β} {f : Nat → β → Option α} (h : o = some a) (k : Ev (fun n => f n a) r) : Ev (fun n => o.bind (f n)) r := Ev.bind (g := fun _ => o) (by rw [h]; exact Ev.now a) k
theorem ev_call {g : Nat → Option β} {a : β} {f : Nat → β → Option α} (h : Ev g a) (k : Ev (fun n => f n a) r) : Ev (fun n => (g n).bind (f n)) r := Ev.bind h k
theorem ev_call2 {g : Nat → Option (β × γ)} {a : β} {b : γ} {f : Nat → β × γ → Option α} (h : Ev g (a, b)) (k : ∀ t, t.1 = a → t.2 = b → Ev (fun n => f n t) r) : Ev (fun n => (g n).bind (f n)) r := Ev.bind h (k _ rfl rfl)
theorem ev_bind3 {o : Option (β × γ × δ)} {a : β} {b : γ} {c : δ} {f : Nat → β × γ × δ → Option α} (h : o = some (a, b, c)) (k : ∀ t, t.1 = a → t.2.1 = b → t.2.2 = c → Ev (fun n => f n t) r) : Ev (fun n => o.bind (f n)) r := ev_bind h (k _ rfl rfl rfl)
theorem ev_pos {c : Prop} [Decidable c] {a b : Nat → Option α} (h : c) (k : Ev a r) : Ev (fun n => if c then a n else b n) r := k.congr (fun n => if_pos h)
theorem ev_neg {c : Prop} [Decidable c] {a b : Nat → Option α} (h : ¬ c) (k : Ev b r) : Ev (fun n => if c then a n else b n) r := k.congr (fun n => if_neg h)
/-- One round of what has rounds. -/
theorem ev_step {g f : Nat → Option α} (h : ∀ k, g (k + 1) = f k) (k : Ev f r) : Ev g r := Ev.step h k
theorem ev_of {g : Nat → Option α} (N : Nat) (h : ∀ k, g (k + N) = some r) : Ev g r := ⟨N, fun k hk => by rw [show k = (k - N) + N from by omega]; exact h _⟩
end
theorem up1 {a : Nat} (h : a < 9223372036854775800) : wrap64 ((a : Int) + 1) = ((a + 1 : Nat) : Int) := by unfold wrap64; omega
theorem getD_at {α : Type} {l : List α} {z : α} {j : Nat} (h : j < l.length) : l.getD ((j : Int)).toNat z = l[j] := by
  rw [Int.toNat_natCast, List.getD_eq_getElem?_getD, List.getElem?_eq_getElem h]
  rfl
end Go.Proofs.YtjcjfghcahbbmaaL

end

section
set_option linter.unusedVariables false
namespace Go.Proofs.YtjcjfghcahbbmaaL
open Go Go.RowKit Go.Proofs.YtjcjfghcahbbmaaW.PrintWords

theorem bind1 {α δ : Type} {o : Option α} {a : α} {f : α → Option δ} {r : Option δ} (h : o = some a) (k : f a = r) : o.bind f = r := by
  rw [h]
  exact k
/-- Bytes. -/
def By (l : List Int) : Prop := ∀ c ∈ l, 0 ≤ c ∧ c < 256
theorem By.nil : By [] := fun c h => by cases h
theorem By.cons {c : Int} {l : List Int} (h0 : 0 ≤ c) (h1 : c < 256) (h : By l) : By (c :: l) := fun d hd => by
  rcases List.mem_cons.1 hd with rfl | hd
  · exact ⟨h0, h1⟩
  · exact h d hd
theorem By.append {a b : List Int} (ha : By a) (hb : By b) : By (a ++ b) := fun c h => (List.mem_append.1 h).elim (ha c) (hb c)
theorem By.right {a b : List Int} (h : By (a ++ b)) : By b := fun c hc => h c (List.mem_append_right _ hc)
theorem By.take {l : List Int} (h : By l) (n : Nat) : By (l.take n) := fun c hc => h c (List.mem_of_mem_take hc)
theorem By.drop {l : List Int} (h : By l) (n : Nat) : By (l.drop n) := fun c hc => h c (List.mem_of_mem_drop hc)
theorem By.tail {c : Int} {l : List Int} (h : By (c :: l)) : By l := fun d hd => h d (List.mem_cons_of_mem _ hd)
theorem By.head {c : Int} {l : List Int} (h : By (c :: l)) : 0 ≤ c ∧ c < 256 := h c (List.mem_cons_self ..)
theorem toList_data (s : ByteArray) : s.toList = s.data.toList := Lib.toList_data s
theorem ba_ext {s t : ByteArray} (h : s.toList = t.toList) : s = t := by
  rw [toList_data, toList_data] at h
  cases s; cases t
  simpa using h
theorem str_bytes (s : ByteArray) : strOfNums (bytesOf s) = s := by
  refine ba_ext ?_
  rw [toList_data, strOfNums_data, bytesOf, List.map_map, toList_data]
  conv => rhs; rw [← List.map_id s.data.toList]
  refine List.map_congr_left (fun b _ => ?_)
  simp
theorem bytes_str {l : List Int} (h : By l) : bytesOf (strOfNums l) = l := by
  rw [bytesOf, strOfNums_data, List.map_map]
  conv => rhs; rw [← List.map_id l]
  refine List.map_congr_left (fun c hc => ?_)
  have := h c hc
  simp only [Function.comp, UInt8.toNat_ofNat', id]
  omega
theorem bytesOf_by (s : ByteArray) : By (bytesOf s) := by
  intro c hc
  obtain ⟨b, _, rfl⟩ := List.mem_map.1 hc
  have := b.toNat_lt
  omega
theorem str_inj {a b : List Int} (ha : By a) (hb : By b) (h : strOfNums a = strOfNums b) : a = b := by rw [← bytes_str ha, h, bytes_str hb]

end Go.Proofs.YtjcjfghcahbbmaaL

end

section
set_option linter.unusedVariables false
namespace Go.Proofs.YtjcjfghcahbbmaaL
open Go Go.RowKit Go.Proofs.YtjcjfghcahbbmaaG Go.Proofs.YtjcjfghcahbbmaaW.PrintWords

theorem vint_small {x : Nat} (h : ¬ 127 < x) : vint x = [(x : Int)] := by rw [vint, dif_neg h]
theorem vint_big {x : Nat} (h : 127 < x) : vint x = ((x % 128 + 128 : Nat) : Int) :: vint (x / 128) := by rw [vint, dif_pos h]
theorem vint_pos (x : Nat) : 0 < (vint x).length := by
  by_cases h : 127 < x
  · rw [vint_big h]; simp
  · rw [vint_small h]; simp
theorem vint_by (x : Nat) : By (vint x) := by
  induction x using Nat.strongRecOn with
  | ind x ih =>
    by_cases h : 127 < x
    · rw [vint_big h]
      exact .cons (by omega) (by omega) (ih _ (by omega))
    · rw [vint_small h]
      exact .cons (by omega) (by omega) .nil
theorem val7_vint (x : Nat) : val7 (vint x) = x := by
  induction x using Nat.strongRecOn with
  | ind x ih =>
    by_cases h : 127 < x
    · rw [vint_big h, val7, ih _ (by omega)]; omega
    · rw [vint_small h, val7, val7]; omega
theorem vint_inj {x y : Nat} (h : vint x = vint y) : x = y := by rw [← val7_vint x, h, val7_vint]
theorem findIdx_vint (x : Nat) (rest : List Int) : (vint x ++ rest).findIdx (· < 128) = (vint x).length - 1 := by
  induction x using Nat.strongRecOn with
  | ind x ih =>
    by_cases h : 127 < x
    · have hp := vint_pos (x / 128)
      rw [vint_big h, List.cons_append, List.findIdx_cons, ih _ (by omega)]
      have : decide ((((x % 128 + 128 : Nat) : Int)) < 128) = false := decide_eq_false (by omega)
      rw [this]
      simp only [cond_false, List.length_cons]
      omega
    · rw [vint_small h, List.cons_append, List.findIdx_cons]
      have : decide ((x : Int) < 128) = true := decide_eq_true (by omega)
      rw [this]
      simp
theorem vint_last (x : Nat) (rest : List Int) (hx : 0 < x) : (vint x ++ rest).getD ((vint x).length - 1) 0 ≠ 0 := by
  induction x using Nat.strongRecOn with
  | ind x ih =>
    by_cases h : 127 < x
    · have hp := vint_pos (x / 128)
      have := ih (x / 128) (by omega) (by omega)
      rw [vint_big h, List.cons_append, List.length_cons]
      obtain ⟨m, hm⟩ : ∃ m, (vint (x / 128)).length = m + 1 := ⟨_, (Nat.succ_pred_eq_of_pos hp).symm⟩
      rw [hm] at this ⊢
      simpa using this
    · rw [vint_small h]; simp; omega
theorem vint_top (m : Nat) (hm : m ≤ 128) (rest : List Int) : ∀ n x, x < 128 ^ n * m → (vint x).length = n + 1 → (vint x ++ rest).getD n 0 < m := by
  intro n
  induction n with
  | zero =>
    intro x hx hl
    have h : ¬ 127 < x := by simp at hx; omega
    rw [vint_small h]
    simp at hx ⊢
    omega
  | succ n ih =>
    intro x hx hl
    by_cases h : 127 < x
    · rw [vint_big h] at hl ⊢
      have hl' : (vint (x / 128)).length = n + 1 := by simpa using hl
      have := ih (x / 128) (by rw [Nat.pow_succ] at hx; rw [Nat.div_lt_iff_lt_mul (by omega)]; calc x < 128 ^ n * 128 * m := hx
        _ = 128 ^ n * m * 128 := by rw [Nat.mul_assoc, Nat.mul_comm 128 m, ← Nat.mul_assoc]) hl'
      simpa using this
    · rw [vint_small h] at hl
      simp at hl
theorem takeOk_vint (x : Nat) (rest : List Int) (hx : x < 18446744073709551616) : takeOk (vint x ++ rest) = true := by
  have hp := vint_pos x
  have hl := vint_len10 hx
  unfold takeOk
  rw [findIdx_vint]
  have h1 : (vint x).length - 1 < (vint x ++ rest).length := by rw [List.length_append]; omega
  have h3 : ¬ (0 < (vint x).length - 1 ∧ (vint x ++ rest).getD ((vint x).length - 1) 0 = 0) := by
    rintro ⟨h0, h⟩
    refine vint_last x rest ?_ h
    rcases Nat.eq_zero_or_pos x with rfl | h'
    · rw [vint_small (by omega)] at h0; simp at h0
    · exact h'
  have h4 : ¬ ((vint x).length - 1 = 9 ∧ 1 < (vint x ++ rest).getD 9 0) := by
    rintro ⟨h0, h⟩
    have := vint_top 2 (by omega) rest 9 x (by have : (128 : Nat) ^ 9 * 2 = 18446744073709551616 := by decide
                                               omega) (by omega)
    omega
  simp only [h1, decide_true, Bool.true_and, Bool.and_eq_true, Bool.not_eq_true', Bool.and_eq_false_iff, decide_eq_false_iff_not, decide_eq_true_eq]
  refine ⟨⟨by omega, ?_⟩, ?_⟩
  · by_cases h0 : 0 < (vint x).length - 1
    · exact .inr (fun h => h3 ⟨h0, h⟩)
    · exact .inl h0
  · by_cases h0 : (vint x).length - 1 = 9
    · exact .inr (fun h => h4 ⟨h0, h⟩)
    · exact .inl h0

/-- What is put is taken. -/
theorem take_vint (x : Nat) (rest : List Int) (hx : x < 18446744073709551616) (hr : By rest) (hl : rest.length + 10 < 140737488355328) :
    nums_Take.f (vint x ++ rest) = some ((x : Int), rest, true) := by
  have hp := vint_pos x
  have hl10 := vint_len10 hx
  unfold nums_Take.f
  rw [if_pos ⟨(vint_by x).append hr, by rw [List.length_append]; omega⟩, if_pos (takeOk_vint x rest hx), findIdx_vint]
  have e : (vint x).length - 1 + 1 = (vint x).length := by omega
  rw [e, List.take_left, List.drop_left, val7_vint]

theorem val7_pos : ∀ (l : List Int) (i : Nat), By l → l.findIdx (· < 128) = i → i < l.length → l.getD i 0 ≠ 0 → 0 < val7 (l.take (i + 1))
  | [], i, _, _, hl, _ => by simp at hl
  | c :: cs, i, hb, hi, hl, h0 => by
    have hc := hb.head
    rw [List.findIdx_cons] at hi
    by_cases h : c < 128
    · rw [decide_eq_true h] at hi
      simp at hi
      subst hi
      simp at h0
      simp [val7]
      omega
    · rw [decide_eq_false h] at hi
      simp at hi
      subst hi
      have := val7_pos cs _ hb.tail rfl (by simpa using hl) (by simpa using h0)
      rw [List.take_succ_cons, val7]
      omega
theorem vint_back : ∀ (l : List Int) (i : Nat), By l → l.findIdx (· < 128) = i → i < l.length → (0 < i → l.getD i 0 ≠ 0) → vint (val7 (l.take (i + 1))) = l.take (i + 1)
  | [], i, _, _, hl, _ => by simp at hl
  | c :: cs, i, hb, hi, hl, h0 => by
    have hc := hb.head
    rw [List.findIdx_cons] at hi
    by_cases h : c < 128
    · rw [decide_eq_true h] at hi
      simp at hi
      subst hi
      have e : val7 (List.take (0 + 1) (c :: cs)) = c.toNat := by simp [val7]; omega
      rw [e, vint_small (by omega)]
      simp
      omega
    · rw [decide_eq_false h] at hi
      simp at hi
      subst hi
      have hl' : cs.findIdx (· < 128) < cs.length := by simpa using hl
      have h0' : cs.getD (cs.findIdx (· < 128)) 0 ≠ 0 := by simpa using h0 (by omega)
      have ih := vint_back cs _ hb.tail rfl hl' (fun _ => h0')
      have hp := val7_pos cs _ hb.tail rfl hl' h0'
      rw [List.take_succ_cons, val7]
      rw [vint_big (by omega)]
      have e1 : ((c % 128).toNat + 128 * val7 (cs.take (cs.findIdx (· < 128) + 1))) / 128 = val7 (cs.take (cs.findIdx (· < 128) + 1)) := by omega
      have e2 : ((((c % 128).toNat + 128 * val7 (cs.take (cs.findIdx (· < 128) + 1))) % 128 + 128 : Nat) : Int) = c := by omega
      rw [e1, ih, e2]

/-- What is taken is put as it stood; or nothing is taken. -/
theorem take_cases (l : List Int) (hb : By l) (hl : l.length < 140737488355328) :
    (∃ (x : Nat) (rest : List Int), x < 18446744073709551616 ∧ l = vint x ++ rest ∧ nums_Take.f l = some ((x : Int), rest, true)) ∨
    (nums_Take.f l = some (0, [], false) ∧ ∀ (x : Nat) (rest : List Int), x < 18446744073709551616 → l ≠ vint x ++ rest) := by
  have hf : nums_Take.f l = some (if takeOk l = true then ((val7 (l.take (l.findIdx (· < 128) + 1)) : Int), l.drop (l.findIdx (· < 128) + 1), true) else (0, [], false)) := by
    unfold nums_Take.f
    rw [if_pos ⟨hb, hl⟩]
  by_cases ho : takeOk l = true
  · left
    rw [hf, if_pos ho]
    simp only [takeOk, Bool.and_eq_true, decide_eq_true_eq, Bool.not_eq_true', Bool.and_eq_false_iff, decide_eq_false_iff_not] at ho
    obtain ⟨⟨⟨h1, h2⟩, h3⟩, h4⟩ := ho
    have hback := vint_back l _ hb rfl h1 (fun h => by rcases h3 with h' | h'; exact absurd h h'; exact h')
    refine ⟨_, _, ?_, ?_, rfl⟩
    · have e1 : l.take (l.findIdx (· < 128) + 1) = l.take (l.findIdx (· < 128)) ++ [l.getD (l.findIdx (· < 128)) 0] := by
        rw [List.take_succ_eq_append_getElem h1, List.getD_eq_getElem?_getD, List.getElem?_eq_getElem h1]; rfl
      have hlen : (l.take (l.findIdx (· < 128))).length = l.findIdx (· < 128) := by rw [List.length_take]; omega
      have hlt := val7_lt (l.take (l.findIdx (· < 128)))
      rw [e1, val7_snoc, hlen]
      rw [hlen] at hlt
      generalize l.findIdx (· < 128) = i at *
      have hi9 : i ≤ 9 := by omega
      have e9 : (128 : Nat) ^ 9 * 2 = 18446744073709551616 := by decide
      by_cases hi : i = 9
      · subst hi
        have hm : l.getD 9 0 ∈ l := by rw [List.getD_eq_getElem?_getD, List.getElem?_eq_getElem h1]; exact List.getElem_mem h1
        have hm0 := (hb _ hm).1
        have hd : (l.getD 9 0 % 128).toNat ≤ 1 := by
          rcases h4 with h' | h'
          · exact absurd rfl h'
          · omega
        have : (l.getD 9 0 % 128).toNat * 128 ^ 9 ≤ 1 * 128 ^ 9 := Nat.mul_le_mul hd (Nat.le_refl _)
        omega
      · have hd : (l.getD i 0 % 128).toNat ≤ 127 := by omega
        have : (l.getD i 0 % 128).toNat * 128 ^ i ≤ 127 * 128 ^ i := Nat.mul_le_mul hd (Nat.le_refl _)
        have h8 : (128 : Nat) ^ i ≤ 128 ^ 8 := Nat.pow_le_pow_right (by omega) (by omega)
        have e8 : (128 : Nat) ^ 8 = 72057594037927936 := by decide
        omega
    · rw [hback, List.take_append_drop]
  · right
    rw [hf, if_neg ho]
    refine ⟨rfl, fun x rest hx e => ho ?_⟩
    rw [e]
    exact takeOk_vint x rest hx
theorem vint_append_inj {x y : Nat} {a b : List Int} (hx : x < 18446744073709551616) (hy : y < 18446744073709551616) (h : vint x ++ a = vint y ++ b) : x = y ∧ a = b := by
  have h1 := findIdx_vint x a
  have h2 := findIdx_vint y b
  rw [h] at h1
  have hp := vint_pos x
  have hq := vint_pos y
  have hl : (vint x).length = (vint y).length := by omega
  have h3 := List.append_inj h hl
  exact ⟨vint_inj h3.1, h3.2⟩
end Go.Proofs.YtjcjfghcahbbmaaL

end

section

end

section
namespace Go.Proofs.Ytjcjfghcahbbmaa.P
open Go.RowKit Go.Proofs.YtjcjfghcahbbmaaG Go.Proofs.YtjcjfghcahbbmaaW.PrintWords Go.Proofs.YtjcjfghcahbbmaaW.PrintLast Go.Proofs.YtjcjfghcahbbmaaW.PrintMore
attribute [local go_sem] str_gtr str_geq str_leq max2_int min2_int max_two min_two max_three min_three max_four min_four   -- for this text's walks alone
set_option linter.unusedVariables false
set_option linter.unusedSimpArgs false

def ratlinelaw02_Same.f (l0 : List Int) (l1 : List Int) : Option (Bool) := some ((strOfNums l0).toList == (strOfNums l1).toList)
set_option maxHeartbeats 8000000 in
set_option maxRecDepth 100000 in
theorem ratlinelaw02_Same.calls (A0 : Option Addr) (c0 : Nat) (l0 : List Int) (A1 : Option Addr) (c1 : Nat) (l1 : List Int) (r : Bool) (w : World) (hr0 : Kd.C (Kd.int .u8) w A0 l0.length l0) (hc0 : l0.length ≤ c0) (hr1 : Kd.C (Kd.int .u8) w A1 l1.length l1) (hc1 : l1.length ≤ c1) (h : ratlinelaw02_Same.f l0 l1 = some r) :
    Calls Try.prog 26 #[.slice A0 l0.length c0, .slice A1 l1.length c1] w fun e w' => e = .returned (.bool r) ∧ Drawn0 w w' := by
  have HR0 := Aside0.mk hr0
  have HC0 := Aside0.mk hc0
  clear hr0 hc0
  have HR1 := Aside0.mk hr1
  have HC1 := Aside0.mk hc1
  clear hr1 hc1
  have H : (some ((strOfNums l0).toList == (strOfNums l1).toList)) = some r := h
  clear h
  obtain rfl := Option.some.inj H
  have hcv3 := Kd.C_string (P := Try.prog) (A := A0) (c := c0) Try.underlying26 Try.underlying5 Try.underlying9 HR0.out
  have hcvd_ := fun n_ => Kd.C_string (P := Try.prog) (A := A0) (c := c0) Try.underlying26 Try.underlying5 Try.underlying9 (Kd.C_below (HR0.out) (pw_below_drewN (Below.refl _ _) n_))
  (try simp only [List.length_take, Int.toNat_natCast] at hcvd_)
  have hcv4 := Kd.C_string (P := Try.prog) (A := A1) (c := c1) Try.underlying26 Try.underlying5 Try.underlying9 HR1.out
  have hcvd_ := fun n_ => Kd.C_string (P := Try.prog) (A := A1) (c := c1) Try.underlying26 Try.underlying5 Try.underlying9 (Kd.C_below (HR1.out) (pw_below_drewN (Below.refl _ _) n_))
  (try simp only [List.length_take, Int.toNat_natCast] at hcvd_)
  go_enter Try.func26, Try.ntmps26
  go_wp2
  go_ret
  exact ⟨by first | rfl | (simp; done) | (simp [*]; done), by repeat (first | exact Drawn0.refl _ | apply Drawn0.step)⟩

end Go.Proofs.Ytjcjfghcahbbmaa.P

end

section
namespace Go.Proofs.Ytjcjfghcahbbmaa.P
open Go.RowKit Go.Proofs.YtjcjfghcahbbmaaG Go.Proofs.YtjcjfghcahbbmaaW.PrintWords Go.Proofs.YtjcjfghcahbbmaaW.PrintLast Go.Proofs.YtjcjfghcahbbmaaW.PrintMore
attribute [local go_sem] str_gtr str_geq str_leq max2_int min2_int max_two min_two max_three min_three max_four min_four   -- for this text's walks alone
set_option linter.unusedVariables false
set_option linter.unusedSimpArgs false

-- GIVEN: function 81 (nums_Put)

def nums_PutText.f (l0 : List Int) (a1 : ByteArray) : Option (List Int) := (nums_Put.f l0 (IntKind.u64.wrap ((a1.size : Int)))).bind fun t112 => (if t112.length + a1.size < 140737488355328 then (some (t112 ++ bytesOf a1)) else (none))
set_option maxHeartbeats 8000000 in
set_option maxRecDepth 100000 in
theorem nums_PutText.calls (A0 : Option Addr) (c0 : Nat) (l0 : List Int) (a1 : ByteArray) (r : List Int) (w : World) (hr0 : Kd.C (Kd.int .u8) w A0 l0.length l0) (hc0 : l0.length ≤ c0) (h : nums_PutText.f l0 a1 = some r) :
    Calls Try.prog 80 #[.slice A0 l0.length c0, .string a1] w fun e w' => ∃ v0_ : Value, e = .returned (v0_) ∧ Kd.R (Kd.int .u8) 5 w' w.heap.size (fun _ => True) v0_ r ∧ Below w.heap.size w w' := by
  have HR0 := Aside0.mk hr0
  have HC0 := Aside0.mk hc0
  clear hr0 hc0
  have HB := Aside0.mk (Below.refl w.heap.size w)
  have H : ((nums_Put.f l0 (IntKind.u64.wrap ((a1.size : Int)))).bind fun t112 => (if t112.length + a1.size < 140737488355328 then (some (t112 ++ bytesOf a1)) else (none))) = some r := h
  clear h
  replace H := Option.bind_eq_some_iff.mp H
  obtain ⟨t112, A30, H⟩ := H
  replace H : (if t112.length + a1.size < 140737488355328 then (some (t112 ++ bytesOf a1)) else (none)) = some r := H
  have A3 := Aside0.mk A30
  clear A30
  by_cases c4 : t112.length + a1.size < 140737488355328
  · rw [if_pos c4] at H
    have LMc4 := Aside0.mk c4
    clear c4
    obtain ⟨y115, hy115⟩ : ∃ y_ : List Int, y_ = (t112 ++ bytesOf a1) := ⟨_, rfl⟩
    replace H : (some y115) = some r := by first | (rw [hy115]; with_reducible exact H) | (have H2_ := (Option.bind_some _ _).symm.trans H; rw [hy115]; with_reducible exact H2_) | (have H2_ := (Option.bind_some _ _).symm.trans H; with_reducible exact H2_) | with_reducible exact H | (rw [hy115]; exact H) | exact H
    have Ny115 := Aside0.mk hy115
    clear hy115
    obtain rfl := Option.some.inj H
    go_enter Try.func80, Try.ntmps80
    go_wp2_with (first | ((with_reducible refine gate_callee (f := 81) rfl ?_); refine goesL_ (some 9) rfl rfl Try.func81 (by kernel_rfl) rfl #[.slice A0 l0.length c0, .int .u64 (IntKind.u64.wrap ((a1.size : Int)))] rfl (by (try simp only [List.map_toArray, List.map_cons, List.map_nil]); first | done | rfl | (simp only [List.length_drop, List.length_take]; rfl)) ?_; (with_reducible refine (nums_Put.calls _ _ l0 (IntKind.u64.wrap ((a1.size : Int))) t112 _ ?side1 ?side2 A3.out).mono ?_); (case side1 => repeat (first | exact HR0.out | (with_reducible refine Kd.C_alloc ?_ _) | (with_reducible refine Kd.C_drewN ?_ _) | (with_reducible refine Kd.C_drew ?_))); (case side2 => exact HC0.out); rintro e w5 ⟨v113, rfl, ho0, hb⟩; refine ⟨_, rfl, ?_⟩; have n0_ := Aside0.mk (Kd.R_lower ho0 (below_size (by repeat (first | (with_reducible first | exact HB.out | apply below_alloc | apply pw_below_drewN | apply below_drew1) | exact HB.out)))); have n1_ := Aside0.mk (below_step (by repeat (first | (with_reducible first | exact HB.out | apply below_alloc | apply pw_below_drewN | apply below_drew1) | exact HB.out)) hb); clear HB; have HO114 := n0_; have HB := n1_; clear n0_ n1_; (try clear hb); (try clear hb2); (try clear hk); (try clear hi); (try clear ho0)) | (at_builtin; refine print_append_str (w0 := w) w.heap.size rfl (.tmp 9) _ 26 9 5 rfl Try.underlying26 Try.underlying9 info5 v113 t112 a1 rfl rfl ?aO ?aB ?aS ?aL ?_; (case aB => exact (by repeat (first | (with_reducible first | exact HB.out | apply below_alloc | apply pw_below_drewN | apply below_drew1) | exact HB.out))); (case aO => exact (Kd.own_of_R (by (with_reducible repeat (first | apply Kd.R_alloc | apply Kd.R_drewN | apply Kd.R_drew)); exact HO114.out))); (case aS => exact (below_size (by repeat (first | (with_reducible first | exact HB.out | apply below_alloc | apply pw_below_drewN | apply below_drew1) | exact HB.out)))); (case aL => have := LMc4.out; omega); intro v116 w6 ho0 hb hg; have ho := Kd.R_of_own (h1 := fun _ => rfl) (ok := fun _ => True) ho0 (fun _ _ => trivial); clear ho0; have hat := True.intro; rw [← Ny115.out] at ho; change Kd.R (Kd.int .u8) 5 w6 w.heap.size (fun _ => True) v116 y115 at ho; have n0_ := Aside0.mk (hb); have n1_ := Aside0.mk (ho); clear HB; clear HO114; have HB := n0_; have HO117 := n1_; clear n0_ n1_; clear ho hb hg hat))
    go_ret
    exact ⟨_, by first | rfl | (simp [errW_none, errW_some] <;> rfl) | (simp [*, errW_none, errW_some] <;> rfl), by (with_reducible repeat (first | apply Kd.R_alloc | apply Kd.R_drewN | apply Kd.R_drew)); exact HO117.out, by repeat (first | (with_reducible first | exact HB.out | apply below_alloc | apply pw_below_drewN | apply below_drew1) | exact HB.out)⟩
  · rw [if_neg c4] at H
    exact absurd H (by simp)

-- NOT PRINTED: function 49 (block_maker_put)

def ikey_Right.f (a0_0 : ByteArray) (a0_1 : Int) (a0_2 : Int) : Option (Bool) := if a0_0.toList = ([] : List UInt8) then (some false) else (if (a0_0.size : Int) ≤ 64 then (if a0_1 ≤ 72057594037927935 then (some (decide (a0_2 ≤ 1))) else (some false)) else (some false))
set_option maxHeartbeats 8000000 in
set_option maxRecDepth 100000 in
theorem ikey_Right.calls (a0_0 : ByteArray) (a0_1 : Int) (a0_2 : Int) (r : Bool) (w : World) (h : ikey_Right.f a0_0 a0_1 a0_2 = some r) :
    Calls Try.prog 90 #[.agg #[.string a0_0, .int .u64 a0_1, .int .u8 a0_2]] w fun e w' => e = .returned (.bool r) ∧ Below w.heap.size w w' := by
  have hu50 := Try.underlying50
  have HB := Aside0.mk (Below.refl w.heap.size w)
  have H : (if a0_0.toList = ([] : List UInt8) then (some false) else (if (a0_0.size : Int) ≤ 64 then (if a0_1 ≤ 72057594037927935 then (some (decide (a0_2 ≤ 1))) else (some false)) else (some false))) = some r := h
  clear h
  by_cases c2 : a0_0.toList = ([] : List UInt8)
  · rw [if_pos c2] at H
    have c2b0 : (a0_0.toList == ([] : List UInt8)) = true := beq_iff_eq.mpr c2
    have c2b1 : (a0_0.toList != ([] : List UInt8)) = false := bne_eq_false_iff_eq.mpr c2
    clear c2
    obtain rfl := Option.some.inj H
    go_enter Try.func90, Try.ntmps90
    go_wp2_with (first | ((with_reducible refine gate_dst (N := 1) rfl ?_); (try (refine gate_guard (by rfl) ?_; dsimp only)); refine box_event ?hg (N := 1) ?hd (cs := #[.string a0_0, .int .u64 a0_1, .int .u8 a0_2]) (t := 50) ?hr ?_; (case hd => rfl); (case hg => rfl); (case hr => first | (go_simp; done) | (go_simp; rfl)); intro gb122 hg w3 hbox hb; have n0_ := Aside0.mk (below_step (by repeat (first | (with_reducible first | exact HB.out | apply below_alloc | apply pw_below_drewN | apply below_drew1) | exact HB.out)) hb); have n1_ := Aside0.mk (hbox); have n2_ := Aside0.mk ((by rw [hg]; exact (below_size (by repeat (first | (with_reducible first | exact HB.out | apply below_alloc | apply pw_below_drewN | apply below_drew1) | exact HB.out))) : w.heap.size ≤ gb122)); have n3_ := Aside0.mk ((by rw [hg]; exact (below_size (by repeat (first | (with_reducible first | exact HB.out | apply below_alloc | apply pw_below_drewN | apply below_drew1) | exact HB.out))) : w.heap.size ≤ gb122)); clear HB; have HB := n0_; have BK122 := n1_; have GW122 := n2_; have GE122 := n3_; clear n0_ n1_ n2_ n3_; clear hb hbox hg; have hcz4_0 : w3.cell? ⟨gb122, 0, none⟩ = some (.string a0_0) := (blk_cell BK122.out 0).trans rfl; have hcz4_1 : w3.cell? ⟨gb122, 1, none⟩ = some (.int .u64 a0_1) := (blk_cell BK122.out 1).trans rfl; have hcz4_2 : w3.cell? ⟨gb122, 2, none⟩ = some (.int .u8 a0_2) := (blk_cell BK122.out 2).trans rfl; have hfz4_0 := blk_frozen BK122.out 0; have hfz4_1 := blk_frozen BK122.out 1; have hfz4_2 := blk_frozen BK122.out 2))
    go_ret
    exact ⟨by first | rfl | (simp [errW_none, errW_some] <;> rfl) | (simp [*, errW_none, errW_some] <;> rfl), by repeat (first | (with_reducible first | exact HB.out | apply below_alloc | apply pw_below_drewN | apply below_drew1 | refine below_set ?_ GE122.out) | exact HB.out)⟩
  · rw [if_neg c2] at H
    have c2b0 : (a0_0.toList == ([] : List UInt8)) = false := beq_eq_false_iff_ne.mpr c2
    have c2b1 : (a0_0.toList != ([] : List UInt8)) = true := bne_iff_ne.mpr c2
    by_cases c5 : (a0_0.size : Int) ≤ 64
    · rw [if_pos c5] at H
      have c5b0 : decide ((a0_0.size : Int) ≤ 64) = true := decide_eq_true c5
      have c5b1 : decide (a0_0.size ≤ 64) = true := decide_eq_true (by omega)
      clear c5
      by_cases c6 : a0_1 ≤ 72057594037927935
      · rw [if_pos c6] at H
        have c6b0 : decide (a0_1 ≤ 72057594037927935) = true := decide_eq_true c6
        clear c6
        obtain rfl := Option.some.inj H
        go_enter Try.func90, Try.ntmps90
        go_wp2_with (first | ((with_reducible refine gate_dst (N := 1) rfl ?_); (try (refine gate_guard (by rfl) ?_; dsimp only)); refine box_event ?hg (N := 1) ?hd (cs := #[.string a0_0, .int .u64 a0_1, .int .u8 a0_2]) (t := 50) ?hr ?_; (case hd => rfl); (case hg => rfl); (case hr => first | (go_simp; done) | (go_simp; rfl)); intro gb122 hg w7 hbox hb; have n0_ := Aside0.mk (below_step (by repeat (first | (with_reducible first | exact HB.out | apply below_alloc | apply pw_below_drewN | apply below_drew1) | exact HB.out)) hb); have n1_ := Aside0.mk (hbox); have n2_ := Aside0.mk ((by rw [hg]; exact (below_size (by repeat (first | (with_reducible first | exact HB.out | apply below_alloc | apply pw_below_drewN | apply below_drew1) | exact HB.out))) : w.heap.size ≤ gb122)); have n3_ := Aside0.mk ((by rw [hg]; exact (below_size (by repeat (first | (with_reducible first | exact HB.out | apply below_alloc | apply pw_below_drewN | apply below_drew1) | exact HB.out))) : w.heap.size ≤ gb122)); clear HB; have HB := n0_; have BK122 := n1_; have GW122 := n2_; have GE122 := n3_; clear n0_ n1_ n2_ n3_; clear hb hbox hg; have hcz8_0 : w7.cell? ⟨gb122, 0, none⟩ = some (.string a0_0) := (blk_cell BK122.out 0).trans rfl; have hcz8_1 : w7.cell? ⟨gb122, 1, none⟩ = some (.int .u64 a0_1) := (blk_cell BK122.out 1).trans rfl; have hcz8_2 : w7.cell? ⟨gb122, 2, none⟩ = some (.int .u8 a0_2) := (blk_cell BK122.out 2).trans rfl; have hfz8_0 := blk_frozen BK122.out 0; have hfz8_1 := blk_frozen BK122.out 1; have hfz8_2 := blk_frozen BK122.out 2))
        go_ret
        exact ⟨by first | rfl | (simp [errW_none, errW_some] <;> rfl) | (simp [*, errW_none, errW_some] <;> rfl), by repeat (first | (with_reducible first | exact HB.out | apply below_alloc | apply pw_below_drewN | apply below_drew1 | refine below_set ?_ GE122.out) | exact HB.out)⟩
      · rw [if_neg c6] at H
        have c6b0 : decide (a0_1 ≤ 72057594037927935) = false := decide_eq_false c6
        clear c6
        obtain rfl := Option.some.inj H
        go_enter Try.func90, Try.ntmps90
        go_wp2_with (first | ((with_reducible refine gate_dst (N := 1) rfl ?_); (try (refine gate_guard (by rfl) ?_; dsimp only)); refine box_event ?hg (N := 1) ?hd (cs := #[.string a0_0, .int .u64 a0_1, .int .u8 a0_2]) (t := 50) ?hr ?_; (case hd => rfl); (case hg => rfl); (case hr => first | (go_simp; done) | (go_simp; rfl)); intro gb122 hg w9 hbox hb; have n0_ := Aside0.mk (below_step (by repeat (first | (with_reducible first | exact HB.out | apply below_alloc | apply pw_below_drewN | apply below_drew1) | exact HB.out)) hb); have n1_ := Aside0.mk (hbox); have n2_ := Aside0.mk ((by rw [hg]; exact (below_size (by repeat (first | (with_reducible first | exact HB.out | apply below_alloc | apply pw_below_drewN | apply below_drew1) | exact HB.out))) : w.heap.size ≤ gb122)); have n3_ := Aside0.mk ((by rw [hg]; exact (below_size (by repeat (first | (with_reducible first | exact HB.out | apply below_alloc | apply pw_below_drewN | apply below_drew1) | exact HB.out))) : w.heap.size ≤ gb122)); clear HB; have HB := n0_; have BK122 := n1_; have GW122 := n2_; have GE122 := n3_; clear n0_ n1_ n2_ n3_; clear hb hbox hg; have hcz10_0 : w9.cell? ⟨gb122, 0, none⟩ = some (.string a0_0) := (blk_cell BK122.out 0).trans rfl; have hcz10_1 : w9.cell? ⟨gb122, 1, none⟩ = some (.int .u64 a0_1) := (blk_cell BK122.out 1).trans rfl; have hcz10_2 : w9.cell? ⟨gb122, 2, none⟩ = some (.int .u8 a0_2) := (blk_cell BK122.out 2).trans rfl; have hfz10_0 := blk_frozen BK122.out 0; have hfz10_1 := blk_frozen BK122.out 1; have hfz10_2 := blk_frozen BK122.out 2))
        go_ret
        exact ⟨by first | rfl | (simp [errW_none, errW_some] <;> rfl) | (simp [*, errW_none, errW_some] <;> rfl), by repeat (first | (with_reducible first | exact HB.out | apply below_alloc | apply pw_below_drewN | apply below_drew1 | refine below_set ?_ GE122.out) | exact HB.out)⟩
    · rw [if_neg c5] at H
      have c5b0 : decide ((a0_0.size : Int) ≤ 64) = false := decide_eq_false c5
      have c5b1 : decide (a0_0.size ≤ 64) = false := decide_eq_false (by omega)
      clear c5
      obtain rfl := Option.some.inj H
      go_enter Try.func90, Try.ntmps90
      go_wp2_with (first | ((with_reducible refine gate_dst (N := 1) rfl ?_); (try (refine gate_guard (by rfl) ?_; dsimp only)); refine box_event ?hg (N := 1) ?hd (cs := #[.string a0_0, .int .u64 a0_1, .int .u8 a0_2]) (t := 50) ?hr ?_; (case hd => rfl); (case hg => rfl); (case hr => first | (go_simp; done) | (go_simp; rfl)); intro gb122 hg w11 hbox hb; have n0_ := Aside0.mk (below_step (by repeat (first | (with_reducible first | exact HB.out | apply below_alloc | apply pw_below_drewN | apply below_drew1) | exact HB.out)) hb); have n1_ := Aside0.mk (hbox); have n2_ := Aside0.mk ((by rw [hg]; exact (below_size (by repeat (first | (with_reducible first | exact HB.out | apply below_alloc | apply pw_below_drewN | apply below_drew1) | exact HB.out))) : w.heap.size ≤ gb122)); have n3_ := Aside0.mk ((by rw [hg]; exact (below_size (by repeat (first | (with_reducible first | exact HB.out | apply below_alloc | apply pw_below_drewN | apply below_drew1) | exact HB.out))) : w.heap.size ≤ gb122)); clear HB; have HB := n0_; have BK122 := n1_; have GW122 := n2_; have GE122 := n3_; clear n0_ n1_ n2_ n3_; clear hb hbox hg; have hcz12_0 : w11.cell? ⟨gb122, 0, none⟩ = some (.string a0_0) := (blk_cell BK122.out 0).trans rfl; have hcz12_1 : w11.cell? ⟨gb122, 1, none⟩ = some (.int .u64 a0_1) := (blk_cell BK122.out 1).trans rfl; have hcz12_2 : w11.cell? ⟨gb122, 2, none⟩ = some (.int .u8 a0_2) := (blk_cell BK122.out 2).trans rfl; have hfz12_0 := blk_frozen BK122.out 0; have hfz12_1 := blk_frozen BK122.out 1; have hfz12_2 := blk_frozen BK122.out 2))
      go_ret
      exact ⟨by first | rfl | (simp [errW_none, errW_some] <;> rfl) | (simp [*, errW_none, errW_some] <;> rfl), by repeat (first | (with_reducible first | exact HB.out | apply below_alloc | apply pw_below_drewN | apply below_drew1 | refine below_set ?_ GE122.out) | exact HB.out)⟩

end Go.Proofs.Ytjcjfghcahbbmaa.P

end

section
namespace Go.Proofs.Ytjcjfghcahbbmaa.P
open Go.RowKit Go.Proofs.YtjcjfghcahbbmaaG Go.Proofs.YtjcjfghcahbbmaaW.PrintWords Go.Proofs.YtjcjfghcahbbmaaW.PrintLast Go.Proofs.YtjcjfghcahbbmaaW.PrintMore
attribute [local go_sem] str_gtr str_geq str_leq max2_int min2_int max_two min_two max_three min_three max_four min_four   -- for this text's walks alone
set_option linter.unusedVariables false
set_option linter.unusedSimpArgs false

-- GIVEN: function 82 (slices_Clone_byte_byte)

def nums_PutFour.f (l0 : List Int) (a1 : Int) : Option (List Int) := (slices_Clone_byte_byte.f l0).bind fun t103 => ((some (([(a1) % 256, (a1 / 256) % 256, (a1 / 65536) % 256, (a1 / 16777216) % 256] : List Int) : List Int)).bind fun y106 => (if t103.length + y106.length < 140737488355328 then (some (t103 ++ y106)) else (none)))
set_option maxHeartbeats 8000000 in
set_option maxRecDepth 100000 in
theorem nums_PutFour.calls (A0 : Option Addr) (c0 : Nat) (l0 : List Int) (a1 : Int) (r : List Int) (w : World) (hr0 : Kd.C (Kd.int .u8) w A0 l0.length l0) (hc0 : l0.length ≤ c0) (h : nums_PutFour.f l0 a1 = some r) :
    Calls Try.prog 50 #[.slice A0 l0.length c0, .int .u32 a1] w fun e w' => ∃ v0_ : Value, e = .returned (v0_) ∧ Kd.R (Kd.int .u8) 5 w' w.heap.size (fun _ => True) v0_ r ∧ Below w.heap.size w w' := by
  have HR0 := Aside0.mk hr0
  have HC0 := Aside0.mk hc0
  clear hr0 hc0
  have HB := Aside0.mk (Below.refl w.heap.size w)
  have H : ((slices_Clone_byte_byte.f l0).bind fun t103 => ((some (([(a1) % 256, (a1 / 256) % 256, (a1 / 65536) % 256, (a1 / 16777216) % 256] : List Int) : List Int)).bind fun y106 => (if t103.length + y106.length < 140737488355328 then (some (t103 ++ y106)) else (none)))) = some r := h
  clear h
  replace H := Option.bind_eq_some_iff.mp H
  obtain ⟨t103, A30, H⟩ := H
  replace H : ((some (([(a1) % 256, (a1 / 256) % 256, (a1 / 65536) % 256, (a1 / 16777216) % 256] : List Int) : List Int)).bind fun y106 => (if t103.length + y106.length < 140737488355328 then (some (t103 ++ y106)) else (none))) = some r := H
  have A3 := Aside0.mk A30
  clear A30
  obtain ⟨y106, hy106⟩ : ∃ y_ : List Int, y_ = (([(a1) % 256, (a1 / 256) % 256, (a1 / 65536) % 256, (a1 / 16777216) % 256] : List Int)) := ⟨_, rfl⟩
  replace H : (if t103.length + y106.length < 140737488355328 then (some (t103 ++ y106)) else (none)) = some r := by first | (rw [hy106]; with_reducible exact H) | (have H2_ := (Option.bind_some _ _).symm.trans H; rw [hy106]; with_reducible exact H2_) | (have H2_ := (Option.bind_some _ _).symm.trans H; with_reducible exact H2_) | with_reducible exact H | (rw [hy106]; exact H) | exact H
  have Ny106 := Aside0.mk hy106
  clear hy106
  by_cases c4 : t103.length + y106.length < 140737488355328
  · rw [if_pos c4] at H
    have LMc4 := Aside0.mk c4
    clear c4
    obtain ⟨y109, hy109⟩ : ∃ y_ : List Int, y_ = (t103 ++ y106) := ⟨_, rfl⟩
    replace H : (some y109) = some r := by first | (rw [hy109]; with_reducible exact H) | (have H2_ := (Option.bind_some _ _).symm.trans H; rw [hy109]; with_reducible exact H2_) | (have H2_ := (Option.bind_some _ _).symm.trans H; with_reducible exact H2_) | with_reducible exact H | (rw [hy109]; exact H) | exact H
    have Ny109 := Aside0.mk hy109
    clear hy109
    obtain rfl := Option.some.inj H
    go_enter Try.func50, Try.ntmps50
    go_wp2_with (first | ((with_reducible refine gate_callee (f := 82) rfl ?_); refine goesL_ (some 6) rfl rfl Try.func82 (by kernel_rfl) rfl #[.slice A0 l0.length c0] rfl (by (try simp only [List.map_toArray, List.map_cons, List.map_nil]); first | done | rfl | (simp only [List.length_drop, List.length_take]; rfl)) ?_; (with_reducible refine (slices_Clone_byte_byte.calls _ _ l0 t103 _ ?side1 ?side2 A3.out).mono ?_); (case side1 => repeat (first | exact HR0.out | (with_reducible refine Kd.C_alloc ?_ _) | (with_reducible refine Kd.C_drewN ?_ _) | (with_reducible refine Kd.C_drew ?_))); (case side2 => exact HC0.out); rintro e w5 ⟨v104, rfl, ho0, hb⟩; refine ⟨_, rfl, ?_⟩; have n0_ := Aside0.mk (Kd.R_lower ho0 (below_size (by repeat (first | (with_reducible first | exact HB.out | apply below_alloc | apply pw_below_drewN | apply below_drew1) | exact HB.out)))); have n1_ := Aside0.mk (below_step (by repeat (first | (with_reducible first | exact HB.out | apply below_alloc | apply pw_below_drewN | apply below_drew1) | exact HB.out)) hb); clear HB; have HO105 := n0_; have HB := n1_; clear n0_ n1_; (try clear hb); (try clear hb2); (try clear hk); (try clear hi); (try clear ho0)) | ((with_reducible refine gate_dst (N := 18) rfl ?_); refine Kd.R_lit (Kd.int .u8) _ 5 ?hg (N := 18) ?hd (xs := ([(a1) % 256, (a1 / 256) % 256, (a1 / 65536) % 256, (a1 / 16777216) % 256] : List Int)) (inner := [.int .u8 ((a1) % 256), .int .u8 ((a1 / 256) % 256), .int .u8 ((a1 / 65536) % 256), .int .u8 ((a1 / 16777216) % 256)]) (ok := fun _ => True) (okp := fun _ => True) ?hr ?hp (fun _ hk => hk) trivial (Below.refl _ _) (Nat.le_refl _) (by simp) ?_; (case hd => rfl); (case hg => rfl); (case hr => first | (go_simp; done) | (go_simp; rfl)); (case hp => exact (Reps.one (show Kd.M (Kd.int .u8) _ _ _ ((a1) % 256) [.int .u8 ((a1) % 256)] from rfl) (Reps.one (show Kd.M (Kd.int .u8) _ _ _ ((a1 / 256) % 256) [.int .u8 ((a1 / 256) % 256)] from rfl) (Reps.one (show Kd.M (Kd.int .u8) _ _ _ ((a1 / 65536) % 256) [.int .u8 ((a1 / 65536) % 256)] from rfl) (Reps.one (show Kd.M (Kd.int .u8) _ _ _ ((a1 / 16777216) % 256) [.int .u8 ((a1 / 16777216) % 256)] from rfl) (Reps.none _ _)))))); intro v107 w6 ho7 hb hg_ hnew_; clear hg_ hnew_; (first | rw [← Ny106.out] at ho7 | (simp only [Int.reduceToNat] at ho7; rw [← Ny106.out] at ho7)); have n0_ := Aside0.mk (Kd.R_elder' (by (with_reducible repeat (first | apply Kd.R_alloc | apply Kd.R_drewN | apply Kd.R_drew)); exact HO105.out) (Kd.R_base ho7) hb); have n1_ := Aside0.mk (Kd.R_lower (Kd.R_new' ho7 (Kd.R_lt (by (with_reducible repeat (first | apply Kd.R_alloc | apply Kd.R_drewN | apply Kd.R_drew)); exact HO105.out))) (below_size (by repeat (first | (with_reducible first | exact HB.out | apply below_alloc | apply pw_below_drewN | apply below_drew1) | exact HB.out)))); have n2_ := Aside0.mk (below_step (by repeat (first | (with_reducible first | exact HB.out | apply below_alloc | apply pw_below_drewN | apply below_drew1) | exact HB.out)) hb); clear HO105; clear HB; have HO105 := n0_; have HO108 := n1_; have HB := n2_; clear n0_ n1_ n2_; clear hb ho7; obtain ⟨Ao9, co9, eo9⟩ := Kd.R_slice HO108.out; subst eo9) | ((with_reducible refine gate_builtin (b := .append) (xs := #[.tmp 6, .tmp 18]) rfl ?_); at_builtin; refine Kd.R_append_rows (Kd.int .u8) (w0 := w) w.heap.size rfl (.tmp 6) (.tmp 18) 26 5 (.int .u8 0) 1 rfl Try.underlying26 info5 rfl (by decide) (by omega) v104 t103 y106 _ _ _ (fun k_ => some k_ ≠ (.slice Ao9 y106.length co9 : Value).ownBlock) (fun _ => False) rfl rfl ?aO ?aR (fun _ _ h => h) (fun _ h => h.elim) ?aF ?aB ?aS ?aL ?_; (case aR => repeat (first | exact (Kd.R_reads' HO108.out).2.2 | (with_reducible refine Kd.C_alloc ?_ _) | (with_reducible refine Kd.C_drewN ?_ _) | (with_reducible refine Kd.C_drew ?_))); (case aB => exact (by repeat (first | (with_reducible first | exact HB.out | apply below_alloc | apply pw_below_drewN | apply below_drew1) | exact HB.out))); (case aF => exact (fun k_ hk => Kd.fresh' (Kd.R_lt (by (with_reducible repeat (first | apply Kd.R_alloc | apply Kd.R_drewN | apply Kd.R_drew)); exact HO108.out)) k_ hk)); (case aO => exact (by (with_reducible repeat (first | apply Kd.R_alloc | apply Kd.R_drewN | apply Kd.R_drew)); exact Kd.R_mono HO105.out (fun _ hk => hk.2))); (case aS => exact (below_size (by repeat (first | (with_reducible first | exact HB.out | apply below_alloc | apply pw_below_drewN | apply below_drew1) | exact HB.out)))); (case aL => have := LMc4.out; omega); intro v110 w8 ho hb hg hat; rw [← Ny109.out] at ho; have n0_ := Aside0.mk (Kd.R_after (ok := (fun _ => True)) (by (with_reducible repeat (first | apply Kd.R_alloc | apply Kd.R_drewN | apply Kd.R_drew)); exact HO108.out) hg hat); have n1_ := Aside0.mk (hb); have n2_ := Aside0.mk (ho); clear HO108; clear HB; clear HO105; have HO108 := n0_; have HB := n1_; have HO111 := n2_; clear n0_ n1_ n2_; clear ho hb hg hat))
    go_ret
    exact ⟨_, by first | rfl | (simp [errW_none, errW_some] <;> rfl) | (simp [*, errW_none, errW_some] <;> rfl), by (with_reducible repeat (first | apply Kd.R_alloc | apply Kd.R_drewN | apply Kd.R_drew)); exact Kd.R_mono HO111.out (fun _ hk => trivial), by repeat (first | (with_reducible first | exact HB.out | apply below_alloc | apply pw_below_drewN | apply below_drew1) | exact HB.out)⟩
  · rw [if_neg c4] at H
    exact absurd H (by simp)

end Go.Proofs.Ytjcjfghcahbbmaa.P

end

section
set_option linter.unusedVariables false
namespace Go.Proofs.YtjcjfghcahbbmaaL
open Go Go.RowKit Go.Proofs.YtjcjfghcahbbmaaG Go.Proofs.Ytjcjfghcahbbmaa.P Go.Proofs.YtjcjfghcahbbmaaW.PrintWords Go.Proofs.YtjcjfghcahbbmaaW.PrintMore

theorem same_f {a b : List Int} (ha : By a) (hb : By b) : ratlinelaw02_Same.f a b = some (decide (a = b)) := by
  unfold ratlinelaw02_Same.f
  by_cases h : a = b
  · subst h; simp
  · have : (strOfNums a).toList ≠ (strOfNums b).toList := fun e => h (str_inj ha hb (ba_ext e))
    rw [decide_eq_false h, beq_eq_false_iff_ne.2 this]
theorem put_f {l : List Int} {x : Nat} (hx : x < 18446744073709551616) (hl : l.length + 10 < 140737488355328) : nums_Put.f l (x : Int) = some (l ++ vint x) := by
  unfold nums_Put.f
  rw [if_pos ⟨by omega, by omega, hl⟩, Int.toNat_natCast]
theorem wrap_u64_nat {x : Nat} (hx : x < 18446744073709551616) : IntKind.u64.wrap (x : Int) = (x : Int) := by rw [IntKind.wrap_u64]; omega
theorem putText_f {l : List Int} {s : ByteArray} (hl : l.length + 10 + s.size < 140737488355328) : nums_PutText.f l s = some (l ++ vint s.size ++ bytesOf s) := by
  have := vint_len10 (x := s.size) (by omega)
  unfold nums_PutText.f
  rw [wrap_u64_nat (by omega), put_f (by omega) (by omega)]
  simp only [Option.bind_some]
  rw [if_pos (by rw [List.length_append]; omega)]
theorem clone_f {l : List Int} (hl : l.length < 140737488355328) : slices_Clone_byte_byte.f l = some l := by
  unfold slices_Clone_byte_byte.f
  rw [if_pos hl]
theorem mx_eq (a b : Int) : mx a b = max a b := by unfold mx; split <;> omega

/-- The text that bytes say. -/
theorem takeText_yes (s : ByteArray) (rest : List Int) (most : Int) (hm : most ≤ 9223372036854775807) (hr : By rest) (hl : s.size + rest.length + 20 < 140737488355328) (h : (s.size : Int) ≤ most) :
    nums_TakeText.f (vint s.size ++ (bytesOf s ++ rest)) most = some (s, rest, true) := by
  have hbl := bytesOf_length s
  unfold nums_TakeText.f
  rw [take_vint s.size _ (by omega) ((bytesOf_by s).append hr) (by rw [List.length_append]; omega)]
  simp only [Option.bind_some, if_true]
  have e1 : IntKind.u64.wrap (mx most 0) = most := by rw [mx_eq, IntKind.wrap_u64]; omega
  have e2 : IntKind.u64.wrap (((bytesOf s ++ rest).length : Nat) : Int) = ((s.size + rest.length : Nat) : Int) := by rw [List.length_append, hbl]; exact wrap_u64_nat (by omega)
  rw [e1, e2, if_neg (by omega), if_neg (by omega), if_neg (by omega), if_pos (by omega), if_pos (by rw [List.length_append]; omega), Int.toNat_natCast]
  have e3 : (bytesOf s ++ rest).drop s.size = rest := by rw [← hbl, List.drop_left]
  have e4 : (bytesOf s ++ rest).take s.size = bytesOf s := by rw [← hbl, List.take_left]
  rw [e3, e4, clone_f (by omega)]
  simp only [Option.bind_some, str_bytes]
theorem takeText_cases (l : List Int) (most : Int) (hm : most ≤ 9223372036854775807) (hb : By l) (hl : l.length + 20 < 140737488355328) :
    (∃ (s : ByteArray) (rest : List Int), (s.size : Int) ≤ most ∧ l = vint s.size ++ (bytesOf s ++ rest) ∧ nums_TakeText.f l most = some (s, rest, true)) ∨
    (nums_TakeText.f l most = some (⟨#[]⟩, [], false) ∧ ∀ (s : ByteArray) (rest : List Int), (s.size : Int) ≤ most → l ≠ vint s.size ++ (bytesOf s ++ rest)) := by
  rcases take_cases l hb (by omega) with ⟨x, rest, hx, he, hf⟩ | ⟨hf, hno⟩
  · by_cases h : (x : Int) ≤ most ∧ x ≤ rest.length
    · left
      have hr : By rest := By.right (he ▸ hb)
      have hsz : (strOfNums (rest.take x)).size = x := by rw [strOfNums_size, List.length_take]; omega
      have hl2 : l.length = (vint x).length + rest.length := by rw [he, List.length_append]
      have e0 : rest = bytesOf (strOfNums (rest.take x)) ++ rest.drop x := by rw [bytes_str (hr.take x), List.take_append_drop]
      have e1 : l = vint (strOfNums (rest.take x)).size ++ (bytesOf (strOfNums (rest.take x)) ++ rest.drop x) := by rw [hsz, ← e0]; exact he
      refine ⟨strOfNums (rest.take x), rest.drop x, by rw [hsz]; exact h.1, e1, ?_⟩
      have := takeText_yes (strOfNums (rest.take x)) (rest.drop x) most hm (hr.drop x) (by rw [hsz, List.length_drop]; omega) (by rw [hsz]; exact h.1)
      rw [← e1] at this
      exact this
    · right
      refine ⟨?_, fun s rest' hs e => h ?_⟩
      · have hl2 : l.length = (vint x).length + rest.length := by rw [he, List.length_append]
        unfold nums_TakeText.f
        rw [hf]
        simp only [Option.bind_some, if_true]
        have e2 : IntKind.u64.wrap ((rest.length : Nat) : Int) = (rest.length : Int) := wrap_u64_nat (by omega)
        have e1 : IntKind.u64.wrap (mx most 0) = max most 0 := by rw [mx_eq, IntKind.wrap_u64]; omega
        rw [e1, e2]
        by_cases c1 : (x : Int) > max most 0
        · rw [if_pos c1]
        · rw [if_neg c1]
          by_cases c2 : most < 0
          · rw [if_pos c2]
          · rw [if_neg c2, if_pos (by omega)]
      · rw [he] at e
        obtain ⟨rfl, rfl⟩ := vint_append_inj hx (by have : l.length = (vint s.size).length + (s.size + rest'.length) := by rw [he, e, List.length_append, List.length_append, bytesOf_length]
                                                    omega) e
        exact ⟨hs, by rw [List.length_append, bytesOf_length]; omega⟩
  · right
    refine ⟨?_, fun s rest' hs e => hno s.size (bytesOf s ++ rest') ?_ e⟩
    · unfold nums_TakeText.f
      rw [hf]
      simp
    · have : l.length = (vint s.size).length + (s.size + rest'.length) := by rw [e, List.length_append, List.length_append, bytesOf_length]
      omega
end Go.Proofs.YtjcjfghcahbbmaaL

end

section
set_option linter.unusedVariables false
namespace Go.Proofs.YtjcjfghcahbbmaaL
open Go Go.RowKit Go.Proofs.YtjcjfghcahbbmaaG Go.Proofs.Ytjcjfghcahbbmaa.P Go.Proofs.YtjcjfghcahbbmaaW.PrintWords Go.Proofs.YtjcjfghcahbbmaaW.PrintMore

def lt (a b : ByteArray) : Prop := Op.bytesLess a.toList b.toList = true
instance (a b : ByteArray) : Decidable (lt a b) := inferInstanceAs (Decidable (_ = true))
theorem bl_trans : ∀ x y z : List UInt8, Op.bytesLess x y = true → Op.bytesLess y z = true → Op.bytesLess x z = true
  | _, [], _ => fun h => by simp [Op.bytesLess] at h
  | _, _ :: _, [] => fun _ h => by simp [Op.bytesLess] at h
  | [], b :: y, c :: z => fun _ _ => rfl
  | a :: x, b :: y, c :: z => fun h1 h2 => by
    have ih := bl_trans x y z
    simp only [Op.bytesLess, Bool.or_eq_true, decide_eq_true_eq, Bool.and_eq_true, beq_iff_eq] at *
    rcases h1 with h1 | ⟨rfl, h1⟩
    · rcases h2 with h2 | ⟨rfl, h2⟩
      · exact .inl (UInt8.lt_trans h1 h2)
      · exact .inl h1
    · rcases h2 with h2 | ⟨rfl, h2⟩
      · exact .inl h2
      · exact .inr ⟨rfl, ih h1 h2⟩
theorem lt_trans {a b c : ByteArray} (h : lt a b) (h2 : lt b c) : lt a c := bl_trans _ _ _ h h2
theorem lt_asymm {a b : ByteArray} (h : lt a b) : ¬ lt b a := by
  unfold lt at *
  rw [← bytesLess_gtr, h]
  simp
theorem lt_irrefl (a : ByteArray) : ¬ lt a a := fun h => lt_asymm h h
theorem lt_tri (a b : ByteArray) : lt a b ∨ a = b ∨ lt b a := by
  by_cases h : lt a b
  · exact .inl h
  · by_cases h2 : a = b
    · exact .inr (.inl h2)
    · refine .inr (.inr ?_)
      unfold lt at *
      rw [← bytesLess_gtr]
      have h3 : ¬ a.toList = b.toList := fun e => h2 (ba_ext e)
      simp [h, h3]
theorem ba_eq_iff {a b : ByteArray} : a.toList = b.toList ↔ a = b := ⟨ba_ext, fun h => by rw [h]⟩
theorem ba_nil_iff {a : ByteArray} : a.toList = [] ↔ a.size = 0 := by
  rw [toList_data]
  exact ⟨fun h => by show a.data.size = 0; rw [← Array.length_toList, h]; rfl, fun h => List.eq_nil_of_length_eq_zero (by rw [Array.length_toList]; exact h)⟩

end Go.Proofs.YtjcjfghcahbbmaaL

end

section
set_option linter.unusedVariables false
namespace Go.Proofs.YtjcjfghcahbbmaaL
open Go Go.RowKit Go.Proofs.YtjcjfghcahbbmaaG Go.Proofs.Ytjcjfghcahbbmaa.P
abbrev Ik := S50
abbrev En := S59
end Go.Proofs.YtjcjfghcahbbmaaL

end

section
namespace Go.Proofs.Ytjcjfghcahbbmaa.P
open Go.RowKit Go.Proofs.YtjcjfghcahbbmaaG Go.Proofs.YtjcjfghcahbbmaaW.PrintWords Go.Proofs.YtjcjfghcahbbmaaW.PrintLast Go.Proofs.YtjcjfghcahbbmaaW.PrintMore
attribute [local go_sem] str_gtr str_geq str_leq max2_int min2_int max_two min_two max_three min_three max_four min_four   -- for this text's walks alone
set_option linter.unusedVariables false
set_option linter.unusedSimpArgs false

def ikey_Entry.f (a0_0 : ByteArray) (a0_1 : Int) (a0_2 : Int) (a0_3 : ByteArray) : Option (Bool) := if a0_2 = 0 then ((ikey_Right.f a0_0 a0_1 a0_2).bind fun t124 => (if t124 = true then (some (decide ((a0_3.size : Int) ≤ 0))) else (some false))) else ((ikey_Right.f a0_0 a0_1 a0_2).bind fun t125 => (if t125 = true then (some (decide ((a0_3.size : Int) ≤ 256))) else (some false)))
set_option maxHeartbeats 8000000 in
set_option maxRecDepth 100000 in
theorem ikey_Entry.calls (a0_0 : ByteArray) (a0_1 : Int) (a0_2 : Int) (a0_3 : ByteArray) (r : Bool) (w : World) (h : ikey_Entry.f a0_0 a0_1 a0_2 a0_3 = some r) :
    Calls Try.prog 64 #[.agg #[.string a0_0, .int .u64 a0_1, .int .u8 a0_2, .string a0_3]] w fun e w' => e = .returned (.bool r) ∧ Below w.heap.size w w' := by
  have hu59 := Try.underlying59
  have hu50 := Try.underlying50
  have HB := Aside0.mk (Below.refl w.heap.size w)
  have H : (if a0_2 = 0 then ((ikey_Right.f a0_0 a0_1 a0_2).bind fun t124 => (if t124 = true then (some (decide ((a0_3.size : Int) ≤ 0))) else (some false))) else ((ikey_Right.f a0_0 a0_1 a0_2).bind fun t125 => (if t125 = true then (some (decide ((a0_3.size : Int) ≤ 256))) else (some false)))) = some r := h
  clear h
  by_cases c2 : a0_2 = 0
  · rw [if_pos c2] at H
    have c2b0 : (a0_2 == 0) = true := beq_iff_eq.mpr c2
    have c2b1 : (a0_2 != 0) = false := bne_eq_false_iff_eq.mpr c2
    clear c2
    replace H := Option.bind_eq_some_iff.mp H
    obtain ⟨t124, A30, H⟩ := H
    replace H : (if t124 = true then (some (decide ((a0_3.size : Int) ≤ 0))) else (some false)) = some r := H
    have A3 := Aside0.mk A30
    clear A30
    by_cases c4 : t124 = true
    · subst c4
      have H1 : (some (decide ((a0_3.size : Int) ≤ 0))) = some r := by rw [if_pos rfl] at H; exact H
      clear H
      have H := H1
      clear H1
      obtain rfl := Option.some.inj H
      go_enter Try.func64, Try.ntmps64
      go_wp2_with (first | ((with_reducible refine gate_dst (N := 1) rfl ?_); (try (refine gate_guard (by rfl) ?_; dsimp only)); refine box_event ?hg (N := 1) ?hd (cs := #[.string a0_0, .int .u64 a0_1, .int .u8 a0_2, .string a0_3]) (t := 59) ?hr ?_; (case hd => rfl); (case hg => rfl); (case hr => first | (go_simp; done) | (go_simp; rfl)); intro gb123 hg w5 hbox hb; have n0_ := Aside0.mk (below_step (by repeat (first | (with_reducible first | exact HB.out | apply below_alloc | apply pw_below_drewN | apply below_drew1) | exact HB.out)) hb); have n1_ := Aside0.mk (hbox); have n2_ := Aside0.mk ((by rw [hg]; exact (below_size (by repeat (first | (with_reducible first | exact HB.out | apply below_alloc | apply pw_below_drewN | apply below_drew1) | exact HB.out))) : w.heap.size ≤ gb123)); have n3_ := Aside0.mk ((by rw [hg]; exact (below_size (by repeat (first | (with_reducible first | exact HB.out | apply below_alloc | apply pw_below_drewN | apply below_drew1) | exact HB.out))) : w.heap.size ≤ gb123)); clear HB; have HB := n0_; have BK123 := n1_; have GW123 := n2_; have GE123 := n3_; clear n0_ n1_ n2_ n3_; clear hb hbox hg; have hcz6_0 : w5.cell? ⟨gb123, 0, none⟩ = some (.string a0_0) := (blk_cell BK123.out 0).trans rfl; have hcz6_1 : w5.cell? ⟨gb123, 1, none⟩ = some (.int .u64 a0_1) := (blk_cell BK123.out 1).trans rfl; have hcz6_2 : w5.cell? ⟨gb123, 2, none⟩ = some (.int .u8 a0_2) := (blk_cell BK123.out 2).trans rfl; have hcz6_3 : w5.cell? ⟨gb123, 3, none⟩ = some (.string a0_3) := (blk_cell BK123.out 3).trans rfl; have hfz6_0 := blk_frozen BK123.out 0; have hfz6_1 := blk_frozen BK123.out 1; have hfz6_2 := blk_frozen BK123.out 2; have hfz6_3 := blk_frozen BK123.out 3) | ((with_reducible refine gate_callee (f := 90) rfl ?_); refine goesL_ (some 10) rfl rfl Try.func90 (by kernel_rfl) rfl #[.agg #[.string a0_0, .int .u64 a0_1, .int .u8 a0_2]] rfl (by (try simp only [List.map_toArray, List.map_cons, List.map_nil]); first | done | rfl | (simp only [List.length_drop, List.length_take]; rfl)) ?_; (with_reducible refine (ikey_Right.calls a0_0 a0_1 a0_2 true _ A3.out).mono ?_); rintro e w7 ⟨rfl, hb⟩; refine ⟨_, rfl, ?_⟩; have n0_ := Aside0.mk (blk_below (g := gb123) (o := .cells #[.string a0_0, .int .u64 a0_1, .int .u8 a0_2, .string a0_3] 59 (0, 0)) (by (with_reducible repeat (first | refine blk_drewN ?_ _ | refine blk_drew ?_ | refine blk_alloc ?_ _)); exact BK123.out) hb); have n1_ := Aside0.mk (below_step (by repeat (first | (with_reducible first | exact HB.out | apply below_alloc | apply pw_below_drewN | apply below_drew1 | refine below_set ?_ GE123.out) | exact HB.out)) hb); clear BK123; clear HB; have BK123 := n0_; have HB := n1_; clear n0_ n1_; (try clear hb); (try clear hb2); (try clear hk); (try clear hi); have hcz8_0 : w7.cell? ⟨gb123, 0, none⟩ = some (.string a0_0) := (blk_cell BK123.out 0).trans rfl; have hcz8_1 : w7.cell? ⟨gb123, 1, none⟩ = some (.int .u64 a0_1) := (blk_cell BK123.out 1).trans rfl; have hcz8_2 : w7.cell? ⟨gb123, 2, none⟩ = some (.int .u8 a0_2) := (blk_cell BK123.out 2).trans rfl; have hcz8_3 : w7.cell? ⟨gb123, 3, none⟩ = some (.string a0_3) := (blk_cell BK123.out 3).trans rfl; have hfz8_0 := blk_frozen BK123.out 0; have hfz8_1 := blk_frozen BK123.out 1; have hfz8_2 := blk_frozen BK123.out 2; have hfz8_3 := blk_frozen BK123.out 3))
      go_ret
      exact ⟨by first | rfl | (simp [errW_none, errW_some] <;> rfl) | (simp [*, errW_none, errW_some] <;> rfl), by repeat (first | (with_reducible first | exact HB.out | apply below_alloc | apply pw_below_drewN | apply below_drew1 | refine below_set ?_ GE123.out) | exact HB.out)⟩
    · replace c4 := Bool.eq_false_iff.mpr c4
      subst c4
      have H1 : (some false) = some r := by rw [if_neg (show ¬ (false = true) by decide)] at H; exact H
      clear H
      have H := H1
      clear H1
      obtain rfl := Option.some.inj H
      go_enter Try.func64, Try.ntmps64
      go_wp2_with (first | ((with_reducible refine gate_dst (N := 1) rfl ?_); (try (refine gate_guard (by rfl) ?_; dsimp only)); refine box_event ?hg (N := 1) ?hd (cs := #[.string a0_0, .int .u64 a0_1, .int .u8 a0_2, .string a0_3]) (t := 59) ?hr ?_; (case hd => rfl); (case hg => rfl); (case hr => first | (go_simp; done) | (go_simp; rfl)); intro gb123 hg w9 hbox hb; have n0_ := Aside0.mk (below_step (by repeat (first | (with_reducible first | exact HB.out | apply below_alloc | apply pw_below_drewN | apply below_drew1) | exact HB.out)) hb); have n1_ := Aside0.mk (hbox); have n2_ := Aside0.mk ((by rw [hg]; exact (below_size (by repeat (first | (with_reducible first | exact HB.out | apply below_alloc | apply pw_below_drewN | apply below_drew1) | exact HB.out))) : w.heap.size ≤ gb123)); have n3_ := Aside0.mk ((by rw [hg]; exact (below_size (by repeat (first | (with_reducible first | exact HB.out | apply below_alloc | apply pw_below_drewN | apply below_drew1) | exact HB.out))) : w.heap.size ≤ gb123)); clear HB; have HB := n0_; have BK123 := n1_; have GW123 := n2_; have GE123 := n3_; clear n0_ n1_ n2_ n3_; clear hb hbox hg; have hcz10_0 : w9.cell? ⟨gb123, 0, none⟩ = some (.string a0_0) := (blk_cell BK123.out 0).trans rfl; have hcz10_1 : w9.cell? ⟨gb123, 1, none⟩ = some (.int .u64 a0_1) := (blk_cell BK123.out 1).trans rfl; have hcz10_2 : w9.cell? ⟨gb123, 2, none⟩ = some (.int .u8 a0_2) := (blk_cell BK123.out 2).trans rfl; have hcz10_3 : w9.cell? ⟨gb123, 3, none⟩ = some (.string a0_3) := (blk_cell BK123.out 3).trans rfl; have hfz10_0 := blk_frozen BK123.out 0; have hfz10_1 := blk_frozen BK123.out 1; have hfz10_2 := blk_frozen BK123.out 2; have hfz10_3 := blk_frozen BK123.out 3) | ((with_reducible refine gate_callee (f := 90) rfl ?_); refine goesL_ (some 10) rfl rfl Try.func90 (by kernel_rfl) rfl #[.agg #[.string a0_0, .int .u64 a0_1, .int .u8 a0_2]] rfl (by (try simp only [List.map_toArray, List.map_cons, List.map_nil]); first | done | rfl | (simp only [List.length_drop, List.length_take]; rfl)) ?_; (with_reducible refine (ikey_Right.calls a0_0 a0_1 a0_2 false _ A3.out).mono ?_); rintro e w11 ⟨rfl, hb⟩; refine ⟨_, rfl, ?_⟩; have n0_ := Aside0.mk (blk_below (g := gb123) (o := .cells #[.string a0_0, .int .u64 a0_1, .int .u8 a0_2, .string a0_3] 59 (0, 0)) (by (with_reducible repeat (first | refine blk_drewN ?_ _ | refine blk_drew ?_ | refine blk_alloc ?_ _)); exact BK123.out) hb); have n1_ := Aside0.mk (below_step (by repeat (first | (with_reducible first | exact HB.out | apply below_alloc | apply pw_below_drewN | apply below_drew1 | refine below_set ?_ GE123.out) | exact HB.out)) hb); clear BK123; clear HB; have BK123 := n0_; have HB := n1_; clear n0_ n1_; (try clear hb); (try clear hb2); (try clear hk); (try clear hi)))
      go_ret
      exact ⟨by first | rfl | (simp [errW_none, errW_some] <;> rfl) | (simp [*, errW_none, errW_some] <;> rfl), by repeat (first | (with_reducible first | exact HB.out | apply below_alloc | apply pw_below_drewN | apply below_drew1 | refine below_set ?_ GE123.out) | exact HB.out)⟩
  · rw [if_neg c2] at H
    have c2b0 : (a0_2 == 0) = false := beq_eq_false_iff_ne.mpr c2
    have c2b1 : (a0_2 != 0) = true := bne_iff_ne.mpr c2
    replace H := Option.bind_eq_some_iff.mp H
    obtain ⟨t125, A120, H⟩ := H
    replace H : (if t125 = true then (some (decide ((a0_3.size : Int) ≤ 256))) else (some false)) = some r := H
    have A12 := Aside0.mk A120
    clear A120
    by_cases c13 : t125 = true
    · subst c13
      have H1 : (some (decide ((a0_3.size : Int) ≤ 256))) = some r := by rw [if_pos rfl] at H; exact H
      clear H
      have H := H1
      clear H1
      obtain rfl := Option.some.inj H
      go_enter Try.func64, Try.ntmps64
      go_wp2_with (first | ((with_reducible refine gate_dst (N := 1) rfl ?_); (try (refine gate_guard (by rfl) ?_; dsimp only)); refine box_event ?hg (N := 1) ?hd (cs := #[.string a0_0, .int .u64 a0_1, .int .u8 a0_2, .string a0_3]) (t := 59) ?hr ?_; (case hd => rfl); (case hg => rfl); (case hr => first | (go_simp; done) | (go_simp; rfl)); intro gb123 hg w14 hbox hb; have n0_ := Aside0.mk (below_step (by repeat (first | (with_reducible first | exact HB.out | apply below_alloc | apply pw_below_drewN | apply below_drew1) | exact HB.out)) hb); have n1_ := Aside0.mk (hbox); have n2_ := Aside0.mk ((by rw [hg]; exact (below_size (by repeat (first | (with_reducible first | exact HB.out | apply below_alloc | apply pw_below_drewN | apply below_drew1) | exact HB.out))) : w.heap.size ≤ gb123)); have n3_ := Aside0.mk ((by rw [hg]; exact (below_size (by repeat (first | (with_reducible first | exact HB.out | apply below_alloc | apply pw_below_drewN | apply below_drew1) | exact HB.out))) : w.heap.size ≤ gb123)); clear HB; have HB := n0_; have BK123 := n1_; have GW123 := n2_; have GE123 := n3_; clear n0_ n1_ n2_ n3_; clear hb hbox hg; have hcz15_0 : w14.cell? ⟨gb123, 0, none⟩ = some (.string a0_0) := (blk_cell BK123.out 0).trans rfl; have hcz15_1 : w14.cell? ⟨gb123, 1, none⟩ = some (.int .u64 a0_1) := (blk_cell BK123.out 1).trans rfl; have hcz15_2 : w14.cell? ⟨gb123, 2, none⟩ = some (.int .u8 a0_2) := (blk_cell BK123.out 2).trans rfl; have hcz15_3 : w14.cell? ⟨gb123, 3, none⟩ = some (.string a0_3) := (blk_cell BK123.out 3).trans rfl; have hfz15_0 := blk_frozen BK123.out 0; have hfz15_1 := blk_frozen BK123.out 1; have hfz15_2 := blk_frozen BK123.out 2; have hfz15_3 := blk_frozen BK123.out 3) | ((with_reducible refine gate_callee (f := 90) rfl ?_); refine goesL_ (some 10) rfl rfl Try.func90 (by kernel_rfl) rfl #[.agg #[.string a0_0, .int .u64 a0_1, .int .u8 a0_2]] rfl (by (try simp only [List.map_toArray, List.map_cons, List.map_nil]); first | done | rfl | (simp only [List.length_drop, List.length_take]; rfl)) ?_; (with_reducible refine (ikey_Right.calls a0_0 a0_1 a0_2 true _ A12.out).mono ?_); rintro e w16 ⟨rfl, hb⟩; refine ⟨_, rfl, ?_⟩; have n0_ := Aside0.mk (blk_below (g := gb123) (o := .cells #[.string a0_0, .int .u64 a0_1, .int .u8 a0_2, .string a0_3] 59 (0, 0)) (by (with_reducible repeat (first | refine blk_drewN ?_ _ | refine blk_drew ?_ | refine blk_alloc ?_ _)); exact BK123.out) hb); have n1_ := Aside0.mk (below_step (by repeat (first | (with_reducible first | exact HB.out | apply below_alloc | apply pw_below_drewN | apply below_drew1 | refine below_set ?_ GE123.out) | exact HB.out)) hb); clear BK123; clear HB; have BK123 := n0_; have HB := n1_; clear n0_ n1_; (try clear hb); (try clear hb2); (try clear hk); (try clear hi); have hcz17_0 : w16.cell? ⟨gb123, 0, none⟩ = some (.string a0_0) := (blk_cell BK123.out 0).trans rfl; have hcz17_1 : w16.cell? ⟨gb123, 1, none⟩ = some (.int .u64 a0_1) := (blk_cell BK123.out 1).trans rfl; have hcz17_2 : w16.cell? ⟨gb123, 2, none⟩ = some (.int .u8 a0_2) := (blk_cell BK123.out 2).trans rfl; have hcz17_3 : w16.cell? ⟨gb123, 3, none⟩ = some (.string a0_3) := (blk_cell BK123.out 3).trans rfl; have hfz17_0 := blk_frozen BK123.out 0; have hfz17_1 := blk_frozen BK123.out 1; have hfz17_2 := blk_frozen BK123.out 2; have hfz17_3 := blk_frozen BK123.out 3))
      go_ret
      exact ⟨by first | rfl | (simp [errW_none, errW_some] <;> rfl) | (simp [*, errW_none, errW_some] <;> rfl), by repeat (first | (with_reducible first | exact HB.out | apply below_alloc | apply pw_below_drewN | apply below_drew1 | refine below_set ?_ GE123.out) | exact HB.out)⟩
    · replace c13 := Bool.eq_false_iff.mpr c13
      subst c13
      have H1 : (some false) = some r := by rw [if_neg (show ¬ (false = true) by decide)] at H; exact H
      clear H
      have H := H1
      clear H1
      obtain rfl := Option.some.inj H
      go_enter Try.func64, Try.ntmps64
      go_wp2_with (first | ((with_reducible refine gate_dst (N := 1) rfl ?_); (try (refine gate_guard (by rfl) ?_; dsimp only)); refine box_event ?hg (N := 1) ?hd (cs := #[.string a0_0, .int .u64 a0_1, .int .u8 a0_2, .string a0_3]) (t := 59) ?hr ?_; (case hd => rfl); (case hg => rfl); (case hr => first | (go_simp; done) | (go_simp; rfl)); intro gb123 hg w18 hbox hb; have n0_ := Aside0.mk (below_step (by repeat (first | (with_reducible first | exact HB.out | apply below_alloc | apply pw_below_drewN | apply below_drew1) | exact HB.out)) hb); have n1_ := Aside0.mk (hbox); have n2_ := Aside0.mk ((by rw [hg]; exact (below_size (by repeat (first | (with_reducible first | exact HB.out | apply below_alloc | apply pw_below_drewN | apply below_drew1) | exact HB.out))) : w.heap.size ≤ gb123)); have n3_ := Aside0.mk ((by rw [hg]; exact (below_size (by repeat (first | (with_reducible first | exact HB.out | apply below_alloc | apply pw_below_drewN | apply below_drew1) | exact HB.out))) : w.heap.size ≤ gb123)); clear HB; have HB := n0_; have BK123 := n1_; have GW123 := n2_; have GE123 := n3_; clear n0_ n1_ n2_ n3_; clear hb hbox hg; have hcz19_0 : w18.cell? ⟨gb123, 0, none⟩ = some (.string a0_0) := (blk_cell BK123.out 0).trans rfl; have hcz19_1 : w18.cell? ⟨gb123, 1, none⟩ = some (.int .u64 a0_1) := (blk_cell BK123.out 1).trans rfl; have hcz19_2 : w18.cell? ⟨gb123, 2, none⟩ = some (.int .u8 a0_2) := (blk_cell BK123.out 2).trans rfl; have hcz19_3 : w18.cell? ⟨gb123, 3, none⟩ = some (.string a0_3) := (blk_cell BK123.out 3).trans rfl; have hfz19_0 := blk_frozen BK123.out 0; have hfz19_1 := blk_frozen BK123.out 1; have hfz19_2 := blk_frozen BK123.out 2; have hfz19_3 := blk_frozen BK123.out 3) | ((with_reducible refine gate_callee (f := 90) rfl ?_); refine goesL_ (some 10) rfl rfl Try.func90 (by kernel_rfl) rfl #[.agg #[.string a0_0, .int .u64 a0_1, .int .u8 a0_2]] rfl (by (try simp only [List.map_toArray, List.map_cons, List.map_nil]); first | done | rfl | (simp only [List.length_drop, List.length_take]; rfl)) ?_; (with_reducible refine (ikey_Right.calls a0_0 a0_1 a0_2 false _ A12.out).mono ?_); rintro e w20 ⟨rfl, hb⟩; refine ⟨_, rfl, ?_⟩; have n0_ := Aside0.mk (blk_below (g := gb123) (o := .cells #[.string a0_0, .int .u64 a0_1, .int .u8 a0_2, .string a0_3] 59 (0, 0)) (by (with_reducible repeat (first | refine blk_drewN ?_ _ | refine blk_drew ?_ | refine blk_alloc ?_ _)); exact BK123.out) hb); have n1_ := Aside0.mk (below_step (by repeat (first | (with_reducible first | exact HB.out | apply below_alloc | apply pw_below_drewN | apply below_drew1 | refine below_set ?_ GE123.out) | exact HB.out)) hb); clear BK123; clear HB; have BK123 := n0_; have HB := n1_; clear n0_ n1_; (try clear hb); (try clear hb2); (try clear hk); (try clear hi)))
      go_ret
      exact ⟨by first | rfl | (simp [errW_none, errW_some] <;> rfl) | (simp [*, errW_none, errW_some] <;> rfl), by repeat (first | (with_reducible first | exact HB.out | apply below_alloc | apply pw_below_drewN | apply below_drew1 | refine below_set ?_ GE123.out) | exact HB.out)⟩

end Go.Proofs.Ytjcjfghcahbbmaa.P

end

section
set_option linter.unusedVariables false
namespace Go.Proofs.YtjcjfghcahbbmaaL
open Go Go.RowKit Go.Proofs.YtjcjfghcahbbmaaG Go.Proofs.Ytjcjfghcahbbmaa.P Go.Proofs.YtjcjfghcahbbmaaW.PrintWords Go.Proofs.YtjcjfghcahbbmaaW.PrintMore

def RightI (x : Ik) : Prop := 1 ≤ x.f0.size ∧ x.f0.size ≤ 64 ∧ x.f1 ≤ 72057594037927935 ∧ x.f2 ≤ 1
instance (x : Ik) : Decidable (RightI x) := inferInstanceAs (Decidable (_ ∧ _))
theorem right_f (x : Ik) : ikey_Right.f x.f0 x.f1 x.f2 = some (decide (RightI x)) := by
  unfold ikey_Right.f
  by_cases h0 : x.f0.size = 0
  · rw [if_pos (ba_nil_iff.2 h0), decide_eq_false (show ¬ RightI x from fun h => by have := h.1; omega)]
  · rw [if_neg (fun h => h0 (ba_nil_iff.1 h))]
    by_cases h1 : (x.f0.size : Int) ≤ 64
    · rw [if_pos h1]
      by_cases h2 : x.f1 ≤ 72057594037927935
      · rw [if_pos h2]
        congr 1
        exact decide_eq_decide.2 ⟨fun h => ⟨by omega, by omega, h2, h⟩, fun h => h.2.2.2⟩
      · rw [if_neg h2, decide_eq_false (show ¬ RightI x from fun h => h2 h.2.2.1)]
    · rw [if_neg h1, decide_eq_false (show ¬ RightI x from fun h => h1 (by have := h.2.1; omega))]
def EntryI (x : Ik) (v : ByteArray) : Prop := RightI x ∧ (v.size : Int) ≤ (if x.f2 = 0 then 0 else 256)
theorem entry_f (x : Ik) (v : ByteArray) : ikey_Entry.f x.f0 x.f1 x.f2 v = some (decide (RightI x) && decide ((v.size : Int) ≤ (if x.f2 = 0 then 0 else 256))) := by
  unfold ikey_Entry.f
  rw [right_f]
  by_cases h : RightI x
  · by_cases h2 : x.f2 = 0
    · simp [h, h2]
    · simp [h, h2]
  · by_cases h2 : x.f2 = 0
    · simp [h, h2]
    · simp [h, h2]

end Go.Proofs.YtjcjfghcahbbmaaL

end

section
namespace Go.Proofs.Ytjcjfghcahbbmaa.P
open Go.RowKit Go.Proofs.YtjcjfghcahbbmaaG Go.Proofs.YtjcjfghcahbbmaaW.PrintWords Go.Proofs.YtjcjfghcahbbmaaW.PrintLast Go.Proofs.YtjcjfghcahbbmaaW.PrintMore
attribute [local go_sem] str_gtr str_geq str_leq max2_int min2_int max_two min_two max_three min_three max_four min_four   -- for this text's walks alone
set_option linter.unusedVariables false
set_option linter.unusedSimpArgs false

def ikey_Rising.l0 : Nat → List (S59) → Int → Int → Option (Bool)
  | 0, _, _, _ => none
  | k + 1, x0, x9, x10 => if x10 < x9 then (if 0 ≤ x10 then (if x10 < (x0.length : Int) then (if 0 ≤ (wrap64 (x10 + 1)) then (if (wrap64 (x10 + 1)) < (x0.length : Int) then ((ikey_Compare.f k ((rd_T59 x0 x10).f0.f0) ((rd_T59 x0 x10).f0.f1) ((rd_T59 x0 x10).f0.f2) ((rd_T59 x0 (wrap64 (x10 + 1))).f0.f0) ((rd_T59 x0 (wrap64 (x10 + 1))).f0.f1) ((rd_T59 x0 (wrap64 (x10 + 1))).f0.f2)).bind fun t151 => (if t151 ≥ 0 then (some false) else (ikey_Rising.l0 k x0 x9 (wrap64 (x10 + 1))))) else (none)) else (none)) else (none)) else (none)) else (some true)
def ikey_Rising.f (k : Nat) (l0 : List (S59)) : Option (Bool) := if 0 ≤ (mn (l0.length : Int) 1) then (if (mn (l0.length : Int) 1) ≤ (l0.length : Int) then (ikey_Rising.l0 k l0 ((l0.drop ((mn (l0.length : Int) 1) : Int).toNat).length : Int) 0) else (none)) else (none)
def ikey_Rising.T4 : Bool × List (List Nat × List Nat) := (true, [([], []), ([], []), ([0, 1], [0, 1]), ([2], [2]), ([3], [3]), ([], []), ([], []), ([6], [6]), ([5, 7], [5, 7]), ([8], [8]), ([9], [9]), ([4, 10], [4, 10]), ([11], [11])])
def ikey_Rising.B4 : List Nat := [0, 0, 3, 7, 15, 0, 0, 64, 224, 480, 992, 2047, 4095]
theorem ikey_Rising.tab4 : rtab .any (opsOf Try.f31 4) = ikey_Rising.T4 := by kernel_rfl
theorem ikey_Rising.bits4 : waitsOk ikey_Rising.T4.2 ikey_Rising.B4 = true := by kernel_rfl
set_option maxHeartbeats 8000000 in
set_option maxRecDepth 100000 in
theorem ikey_Rising.calls (k : Nat) (A0 : Option Addr) (c0 : Nat) (l0 : List (S59)) (r : Bool) (w : World) (hr0 : Kd.C k59 w A0 l0.length l0) (hc0 : l0.length ≤ c0) (h : ikey_Rising.f k l0 = some r) :
    Calls Try.prog 31 #[.slice A0 l0.length c0] w fun e w' => e = .returned (.bool r) ∧ Below w.heap.size w w' := by
  have hu50 := Try.underlying50
  have HR0 := Aside0.mk hr0
  have HC0 := Aside0.mk hc0
  clear hr0 hc0
  have HB := Aside0.mk (Below.refl w.heap.size w)
  have H : (if 0 ≤ (mn (l0.length : Int) 1) then (if (mn (l0.length : Int) 1) ≤ (l0.length : Int) then (ikey_Rising.l0 k l0 ((l0.drop ((mn (l0.length : Int) 1) : Int).toNat).length : Int) 0) else (none)) else (none)) = some r := h
  clear h
  obtain ⟨ji2, hji2⟩ : ∃ j_ : Int, (mn (l0.length : Int) 1) = j_ := ⟨_, rfl⟩
  replace H : (if 0 ≤ (ji2) then (if (ji2) ≤ (l0.length : Int) then (ikey_Rising.l0 k l0 ((l0.drop ((ji2) : Int).toNat).length : Int) 0) else (none)) else (none)) = some r := by first | (rw [hji2] at H; exact H) | (simp only [hji2] at H ⊢; exact H)
  (try (have hji2h : ji2 ≤ 1 := by (rw [← hji2]; unfold mn; (repeat' split) <;> omega)))
  (try (have hji2g : ji2 ≤ 64 := by omega))
  (try (have hji2l : 0 ≤ ji2 := by (rw [← hji2]; unfold mn; (repeat' split) <;> omega)))
  (try (have hji2m : 0 ≤ ji2 := by omega))
  have hji2_ : (if 1 < (l0.length : Int) then 1 else (l0.length : Int)) = ji2 := hji2
  by_cases c3 : 0 ≤ (ji2)
  · rw [if_pos c3] at H
    have c3b0 := eq_true c3
    have c3b1 : decide (0 ≤ (ji2)) = true := decide_eq_true c3
    clear c3
    by_cases c4 : (ji2) ≤ (l0.length : Int)
    · rw [if_pos c4] at H
      have c4b0 := eq_true c4
      have c4b1 : decide ((ji2) ≤ (l0.length : Int)) = true := decide_eq_true c4
      clear c4
      obtain ⟨y145, hy145⟩ : ∃ y_ : List (S59), y_ = (l0.drop ((ji2) : Int).toNat) := ⟨_, rfl⟩
      replace H : (ikey_Rising.l0 k l0 (y145.length : Int) 0) = some r := by first | (rw [hy145]; with_reducible exact H) | (have H2_ := (Option.bind_some _ _).symm.trans H; rw [hy145]; with_reducible exact H2_) | (have H2_ := (Option.bind_some _ _).symm.trans H; with_reducible exact H2_) | with_reducible exact H | (rw [hy145]; exact H) | exact H
      have Ny145 := Aside0.mk hy145
      clear hy145
      have H' := Aside0.mk H
      clear H
      have q5 : ((ji2) : Int) ≤ ((l0.length : Int) : Int) := of_decide_eq_true (by first | (with_reducible assumption) | assumption)
      obtain ⟨i05, hi05, _, hsz5, _⟩ := info_parts info59
      have hroom5 : l0.length ≤ c0 := HC0.out
      have hC5 : Kd.C k59 _ A0 l0.length l0 := HR0.out
      have q05 : (0 : Int) ≤ ((ji2) : Int) := of_decide_eq_true (by first | (with_reducible assumption) | assumption)
      have hcut5 := cut_from (P := Try.prog) 48 59 .i64 Try.underlying48 hi05 4 hsz5 A0 l0.length c0 (ji2) q05 q5
      have hr5 := Kd.C_drop (m := ((ji2) : Int).toNat) (c := c0) hC5 (by omega) hroom5
      obtain ⟨A5, hA5⟩ : ∃ A1, A1 = (if c0 = ((ji2) : Int).toNat then A0 else (A0 : Option Addr).map (·.add (((ji2) : Int).toNat * 4))) := ⟨_, rfl⟩
      obtain ⟨c5, hc5⟩ : ∃ c1, c1 = c0 - ((ji2) : Int).toNat := ⟨_, rfl⟩
      have hy5 : y145.length = l0.length - ((ji2) : Int).toNat := (by rw [Ny145.out, List.length_drop] <;> omega)
      rw [show (l0).drop ((ji2) : Int).toNat = y145 from Ny145.out.symm] at hr5
      replace hr5 : Kd.C k59 _ A5 y145.length y145 := (by rw [hA5]; exact hr5)
      rw [← hy5, ← hA5, ← hc5] at hcut5
      have HR148 := Aside0.mk hr5
      have HC148 := Aside0.mk (show y145.length ≤ c5 from by rw [hy5, hc5]; exact Nat.sub_le_sub_right hroom5 _)
      clear hr5 hC5 hroom5 hi05 hsz5 hc5
      have KY5 := Aside0.mk hy5
      have KA5 := Aside0.mk hA5
      clear hy5 hA5
      replace q5 := eq_true q5
      go_enter Try.func31, Try.ntmps31
      go_wp2
      go_loopg [10] k (fun kq v10 w' => ∃ (x10_1 : Int), v10 = .int .i64 x10_1 ∧ Aside0 (ikey_Rising.l0 kq l0 (y145.length : Int) x10_1 = some r) ∧ Aside0 (kq ≤ k) ∧ Aside0 (Below w.heap.size w w'))
      case atStart => exact ⟨(0), (by first | rfl | (simp; done) | (simp [*]; done)), H', ⟨Nat.le_refl _⟩, ⟨by repeat (first | (with_reducible first | exact HB.out | apply below_alloc | apply pw_below_drewN | apply below_drew1) | exact HB.out)⟩⟩
      case round =>
        clear H'
        try clear c1
        try clear p2
        try clear c3
        try clear c3b0
        try clear c3b1
        try clear c4
        try clear c4b0
        try clear c4b1
        try clear c5
        try clear q5
        try clear q05
        try clear q5
        obtain ⟨x10_1, rfl, HA, HK1, HB⟩ := hrel
        cases gk with
        | zero => exact absurd HA.out (by simp [ikey_Rising.l0])
        | succ k1 =>
          have H := HA.out
          clear HA
          simp only [ikey_Rising.l0] at H
          by_cases c6 : x10_1 < (y145.length : Int)
          · rw [if_pos c6] at H
            have c6b0 : decide (x10_1 < (y145.length : Int)) = true := decide_eq_true c6
            clear c6
            by_cases c7 : 0 ≤ x10_1
            · rw [if_pos c7] at H
              have c7b0 : decide (0 ≤ x10_1) = true := decide_eq_true c7
              clear c7
              by_cases c8 : x10_1 < (l0.length : Int)
              · rw [if_pos c8] at H
                have c8b0 : decide (x10_1 < (l0.length : Int)) = true := decide_eq_true c8
                clear c8
                obtain ⟨ji9, hji9⟩ : ∃ j_ : Int, (wrap64 (x10_1 + 1)) = j_ := ⟨_, rfl⟩
                replace H : (if 0 ≤ (ji9) then (if (ji9) < (l0.length : Int) then ((ikey_Compare.f k1 ((rd_T59 l0 x10_1).f0.f0) ((rd_T59 l0 x10_1).f0.f1) ((rd_T59 l0 x10_1).f0.f2) ((rd_T59 l0 (ji9)).f0.f0) ((rd_T59 l0 (ji9)).f0.f1) ((rd_T59 l0 (ji9)).f0.f2)).bind fun t151 => (if t151 ≥ 0 then (some false) else (ikey_Rising.l0 k1 l0 (y145.length : Int) ji9))) else (none)) else (none)) = some r := by first | (rw [hji9] at H; exact H) | (simp only [hji9] at H ⊢; exact H)
                have hji9w : (IntKind.i64.wrap (x10_1 + 1)) = ji9 := (i64_w _).trans hji9
                by_cases c10 : 0 ≤ (ji9)
                · rw [if_pos c10] at H
                  have c10b0 : decide (0 ≤ (ji9)) = true := decide_eq_true c10
                  clear c10
                  by_cases c11 : (ji9) < (l0.length : Int)
                  · rw [if_pos c11] at H
                    have c11b0 : decide ((ji9) < (l0.length : Int)) = true := decide_eq_true c11
                    clear c11
                    replace H := Option.bind_eq_some_iff.mp H
                    obtain ⟨t151, A120, H⟩ := H
                    replace H : (if t151 ≥ 0 then (some false) else (ikey_Rising.l0 k1 l0 (y145.length : Int) ji9)) = some r := H
                    have A12 := Aside0.mk A120
                    clear A120
                    by_cases c13 : t151 ≥ 0
                    · rw [if_pos c13] at H
                      have c13b0 : decide (0 ≤ t151) = true := decide_eq_true c13
                      clear c13
                      obtain rfl := Option.some.inj H
                      try go_wp2
                      have n0_ := Aside0.mk (below_drew1 HB.out)
                      clear HB
                      have HB := n0_
                      clear n0_
                      have p149 : 0 ≤ (x10_1 : Int) := of_decide_eq_true (by first | (with_reducible assumption) | assumption)
                      have q149 : x10_1 < (l0.length : Int) := of_decide_eq_true (by first | (with_reducible assumption) | assumption)
                      obtain ⟨ad149, e149, hx149_0, hx149_1, hx149_2, hx149_3⟩ := at_T59 HR0.out x10_1 p149 q149
                      have hw149_3 := hx149_3
                      have hw149_2 := hx149_2
                      have hw149_1 := hx149_1
                      have hw149_0 := hx149_0
                      cases e149
                      replace hx149_0 := (HB.out.cell (World.block_lt_of_cell? w _ hx149_0)).trans hx149_0
                      replace hx149_1 := (HB.out.cell (World.block_lt_of_cell? w _ hx149_1)).trans hx149_1
                      replace hx149_2 := (HB.out.cell (World.block_lt_of_cell? w _ hx149_2)).trans hx149_2
                      replace hx149_3 := (HB.out.cell (World.block_lt_of_cell? w _ hx149_3)).trans hx149_3
                      replace p149 := eq_true p149
                      replace q149 := eq_true q149
                      have p150 : 0 ≤ ((ji9) : Int) := of_decide_eq_true (by first | (with_reducible assumption) | assumption)
                      have q150 : (ji9) < (l0.length : Int) := of_decide_eq_true (by first | (with_reducible assumption) | assumption)
                      obtain ⟨ad150, e150, hx150_0, hx150_1, hx150_2, hx150_3⟩ := at_T59 HR0.out (ji9) p150 q150
                      have hw150_3 := hx150_3
                      have hw150_2 := hx150_2
                      have hw150_1 := hx150_1
                      have hw150_0 := hx150_0
                      obtain rfl : ad149 = ad150 := (by injection e150)
                      replace hx150_0 := (HB.out.cell (World.block_lt_of_cell? w _ hx150_0)).trans hx150_0
                      replace hx150_1 := (HB.out.cell (World.block_lt_of_cell? w _ hx150_1)).trans hx150_1
                      replace hx150_2 := (HB.out.cell (World.block_lt_of_cell? w _ hx150_2)).trans hx150_2
                      replace hx150_3 := (HB.out.cell (World.block_lt_of_cell? w _ hx150_3)).trans hx150_3
                      replace p150 := eq_true p150
                      replace q150 := eq_true q150
                      refine start_ (n := 13) (S := fun w' => w'.cell? (ad149.add ((x10_1).toNat * 4)) = some (.string ((rd_T59 l0 x10_1).f0.f0)) ∧ w'.cell? ⟨(ad149.add ((x10_1).toNat * 4)).block, (ad149.add ((x10_1).toNat * 4)).off + 1, none⟩ = some (.int .u64 ((rd_T59 l0 x10_1).f0.f1)) ∧ w'.cell? ⟨(ad149.add ((x10_1).toNat * 4)).block, (ad149.add ((x10_1).toNat * 4)).off + 2, none⟩ = some (.int .u8 ((rd_T59 l0 x10_1).f0.f2)) ∧ w'.cell? ⟨(ad149.add ((x10_1).toNat * 4)).block, (ad149.add ((x10_1).toNat * 4)).off + 3, none⟩ = some (.string ((rd_T59 l0 x10_1).f1)) ∧ w'.cell? (ad149.add (((ji9)).toNat * 4)) = some (.string ((rd_T59 l0 (ji9)).f0.f0)) ∧ w'.cell? ⟨(ad149.add (((ji9)).toNat * 4)).block, (ad149.add (((ji9)).toNat * 4)).off + 1, none⟩ = some (.int .u64 ((rd_T59 l0 (ji9)).f0.f1)) ∧ w'.cell? ⟨(ad149.add (((ji9)).toNat * 4)).block, (ad149.add (((ji9)).toNat * 4)).off + 2, none⟩ = some (.int .u8 ((rd_T59 l0 (ji9)).f0.f2)) ∧ w'.cell? ⟨(ad149.add (((ji9)).toNat * 4)).block, (ad149.add (((ji9)).toNat * 4)).off + 3, none⟩ = some (.string ((rd_T59 l0 (ji9)).f1))) (ds := []) #[false, false, false, false, false, false, false, false, false, false, false, false, false] (by kernel_rfl) rfl rfl ⟨((HB.out.cell (World.block_lt_of_cell? w _ hw149_0)).trans hw149_0), ((HB.out.cell (World.block_lt_of_cell? w _ hw149_1)).trans hw149_1), ((HB.out.cell (World.block_lt_of_cell? w _ hw149_2)).trans hw149_2), ((HB.out.cell (World.block_lt_of_cell? w _ hw149_3)).trans hw149_3), ((HB.out.cell (World.block_lt_of_cell? w _ hw150_0)).trans hw150_0), ((HB.out.cell (World.block_lt_of_cell? w _ hw150_1)).trans hw150_1), ((HB.out.cell (World.block_lt_of_cell? w _ hw150_2)).trans hw150_2), ((HB.out.cell (World.block_lt_of_cell? w _ hw150_3)).trans hw150_3)⟩ (fun hHeld => ?_); refine with_tabW ikey_Rising.tab4 ikey_Rising.bits4 (fun HT_ HW_ => ?_)
                      generalize wr.drew = w14 at HB hx149_0 hx149_1 hx149_2 hx149_3 hx150_0 hx150_1 hx150_2 hx150_3 hHeld ⊢
                      refine pure_ (i := 0) (N := some 13) (v := ?_) (a' := ?_) #[true, false, false, false, false, false, false, false, false, false, false, false, false] rfl rfl (any_of HT_.out (by kernel_rfl)) (fun _ _ _ h => h) (Or.inl ⟨by rfl, ?_⟩) ?_ ?_
                      rotate_left
                      · intro w'
                        go_simp
                        with_reducible rfl
                      rotate_left
                      · simp only [Act.put, List.setIfInBounds_toArray, List.set_cons_zero, List.set_cons_succ, i64_w, i32_w]
                        rfl
                      refine pure_ (i := 1) (N := some 14) (v := ?_) (a' := ?_) #[true, true, false, false, false, false, false, false, false, false, false, false, false] rfl rfl (any_of HT_.out (by kernel_rfl)) (fun _ _ _ h => h) (Or.inl ⟨by rfl, ?_⟩) ?_ ?_
                      rotate_left
                      · intro w'
                        go_simp
                        with_reducible rfl
                      rotate_left
                      · simp only [Act.put, List.setIfInBounds_toArray, List.set_cons_zero, List.set_cons_succ, i64_w, i32_w]
                        rfl
                      refine pure_ (i := 2) (N := some 15) (v := ?_) (a' := ?_) #[true, true, true, false, false, false, false, false, false, false, false, false, false] rfl rfl (any_of HT_.out (by kernel_rfl)) (fun _ _ _ h => h) (Or.inl ⟨by rfl, ?_⟩) ?_ ?_
                      rotate_left
                      · intro w'
                        go_simp
                        with_reducible rfl
                      rotate_left
                      · simp only [Act.put, List.setIfInBounds_toArray, List.set_cons_zero, List.set_cons_succ, i64_w, i32_w]
                        rfl
                      refine pure_ (i := 3) (N := some 16) (v := ?_) (a' := ?_) #[true, true, true, true, false, false, false, false, false, false, false, false, false] rfl rfl (any_of HT_.out (by kernel_rfl)) (fun _ _ _ h => h) (Or.inl ⟨by rfl, ?_⟩) ?_ ?_
                      rotate_left
                      · intro w'
                        go_simp
                        with_reducible rfl
                      rotate_left
                      · simp only [Act.put, List.setIfInBounds_toArray, List.set_cons_zero, List.set_cons_succ, i64_w, i32_w]
                        rfl
                      refine pure_ (i := 5) (N := some 18) (v := ?_) (a' := ?_) #[true, true, true, true, false, true, false, false, false, false, false, false, false] rfl rfl (any_of HT_.out (by kernel_rfl)) (fun _ _ _ h => h) (Or.inl ⟨by rfl, ?_⟩) ?_ ?_
                      rotate_left
                      · intro w'
                        go_simp
                        with_reducible rfl
                      rotate_left
                      · simp only [Act.put, List.setIfInBounds_toArray, List.set_cons_zero, List.set_cons_succ, i64_w, i32_w]
                        rfl
                      refine pure_ (i := 6) (N := some 19) (v := ?_) (a' := ?_) #[true, true, true, true, false, true, true, false, false, false, false, false, false] rfl rfl (any_of HT_.out (by kernel_rfl)) (fun _ _ _ h => h) (Or.inl ⟨by rfl, ?_⟩) ?_ ?_
                      rotate_left
                      · intro w'
                        go_simp
                        with_reducible rfl
                      rotate_left
                      · simp only [Act.put, List.setIfInBounds_toArray, List.set_cons_zero, List.set_cons_succ, i64_w, i32_w]
                        rfl
                      refine pure_ (i := 7) (N := some 20) (v := ?_) (a' := ?_) #[true, true, true, true, false, true, true, true, false, false, false, false, false] rfl rfl (any_of HT_.out (by kernel_rfl)) (fun _ _ _ h => h) (Or.inl ⟨by rfl, ?_⟩) ?_ ?_
                      rotate_left
                      · intro w'
                        go_simp
                        with_reducible rfl
                      rotate_left
                      · simp only [Act.put, List.setIfInBounds_toArray, List.set_cons_zero, List.set_cons_succ, i64_w, i32_w]
                        rfl
                      refine pure_ (i := 8) (N := some 21) (v := ?_) (a' := ?_) #[true, true, true, true, false, true, true, true, true, false, false, false, false] rfl rfl (any_of HT_.out (by kernel_rfl)) (fun _ _ _ h => h) (Or.inl ⟨by rfl, ?_⟩) ?_ ?_
                      rotate_left
                      · intro w'
                        go_simp
                        with_reducible rfl
                      rotate_left
                      · simp only [Act.put, List.setIfInBounds_toArray, List.set_cons_zero, List.set_cons_succ, i64_w, i32_w]
                        rfl
                      refine pure_ (i := 9) (N := some 22) (v := ?_) (a' := ?_) #[true, true, true, true, false, true, true, true, true, true, false, false, false] rfl rfl (any_of HT_.out (by kernel_rfl)) (fun _ _ _ h => h) (Or.inl ⟨by rfl, ?_⟩) ?_ ?_
                      rotate_left
                      · intro w'
                        go_simp
                        with_reducible rfl
                      rotate_left
                      · simp only [Act.put, List.setIfInBounds_toArray, List.set_cons_zero, List.set_cons_succ, i64_w, i32_w]
                        rfl
                      refine take_ (i := 4) (N := some 17) (v := ?_) (a' := ?_) #[true, true, true, true, true, true, true, true, true, true, false, false, false] rfl rfl (take_ofW HT_.out HW_.out (by kernel_rfl)) (fun _ _ _ h => h) (Or.inl ⟨by rfl, ?_⟩) hHeld ?_ ?_
                      rotate_left
                      · rintro w' ⟨s0, s1, s2, s3, s4, s5, s6, s7⟩
                        go_simp
                        with_reducible rfl
                      rotate_left
                      · simp only [Act.put, List.setIfInBounds_toArray, List.set_cons_zero, List.set_cons_succ, i64_w, i32_w]
                        rfl
                      refine take_ (i := 10) (N := some 23) (v := ?_) (a' := ?_) #[true, true, true, true, true, true, true, true, true, true, true, false, false] rfl rfl (take_ofW HT_.out HW_.out (by kernel_rfl)) (fun _ _ _ h => h) (Or.inl ⟨by rfl, ?_⟩) hHeld ?_ ?_
                      rotate_left
                      · rintro w' ⟨s0, s1, s2, s3, s4, s5, s6, s7⟩
                        go_simp
                        with_reducible rfl
                      rotate_left
                      · simp only [Act.put, List.setIfInBounds_toArray, List.set_cons_zero, List.set_cons_succ, i64_w, i32_w]
                        rfl
                      refine one_ (i := 11) (N := some 24) #[true, true, true, true, true, true, true, true, true, true, true, true, false] rfl rfl (one_of HT_.out (by kernel_rfl)) (by decide) (fun K hK => ?_)
                      refine goes_ Try.func32 (by kernel_rfl) rfl #[.agg #[.string ((rd_T59 l0 x10_1).f0.f0), .int .u64 ((rd_T59 l0 x10_1).f0.f1), .int .u8 ((rd_T59 l0 x10_1).f0.f2)], .agg #[.string ((rd_T59 l0 (ji9)).f0.f0), .int .u64 ((rd_T59 l0 (ji9)).f0.f1), .int .u8 ((rd_T59 l0 (ji9)).f0.f2)]] (by rfl) rfl rfl (by (try simp only [List.map_toArray, List.map_cons, List.map_nil]); first | done | (simp only [hji9]; rfl) | rfl | (simp only [List.length_drop, List.length_take]; rfl)) ?_
                      with_reducible refine (ikey_Compare.calls k1 ((rd_T59 l0 x10_1).f0.f0) ((rd_T59 l0 x10_1).f0.f1) ((rd_T59 l0 x10_1).f0.f2) ((rd_T59 l0 (ji9)).f0.f0) ((rd_T59 l0 (ji9)).f0.f1) ((rd_T59 l0 (ji9)).f0.f2) t151 _ A12.out).mono ?_
                      rintro e w15 ⟨rfl, hb⟩
                      refine ⟨_, rfl, ?_⟩
                      have n0_ := Aside0.mk (below_step (by repeat (first | (with_reducible first | exact HB.out | apply below_alloc | apply pw_below_drewN | apply below_drew1) | exact HB.out)) hb)
                      clear HB
                      have HB := n0_
                      clear n0_
                      (try clear hb)
                      (try clear hb2)
                      (try clear hk)
                      (try clear hi)
                      refine hK.out _ _ ⟨((HB.out.cell (World.block_lt_of_cell? w _ hw149_0)).trans hw149_0), ((HB.out.cell (World.block_lt_of_cell? w _ hw149_1)).trans hw149_1), ((HB.out.cell (World.block_lt_of_cell? w _ hw149_2)).trans hw149_2), ((HB.out.cell (World.block_lt_of_cell? w _ hw149_3)).trans hw149_3), ((HB.out.cell (World.block_lt_of_cell? w _ hw150_0)).trans hw150_0), ((HB.out.cell (World.block_lt_of_cell? w _ hw150_1)).trans hw150_1), ((HB.out.cell (World.block_lt_of_cell? w _ hw150_2)).trans hw150_2), ((HB.out.cell (World.block_lt_of_cell? w _ hw150_3)).trans hw150_3)⟩ (fun hHeld => ?_)
                      clear hK K
                      refine norm_ (a' := ?_) ?_ ?_
                      rotate_left
                      · show Act.put _ (some 24) _ = _
                        simp only [Act.put, List.setIfInBounds_toArray, List.set_cons_zero, List.set_cons_succ, i64_w, i32_w]
                        rfl
                      refine pure_ (i := 12) (N := some 25) (v := ?_) (a' := ?_) #[true, true, true, true, true, true, true, true, true, true, true, true, true] rfl rfl (any_of HT_.out (by kernel_rfl)) (fun _ _ _ h => h) (Or.inl ⟨by rfl, ?_⟩) ?_ ?_
                      rotate_left
                      · intro w'
                        go_simp
                        with_reducible rfl
                      rotate_left
                      · simp only [Act.put, List.setIfInBounds_toArray, List.set_cons_zero, List.set_cons_succ, i64_w, i32_w]
                        rfl
                      refine done_ (done_of HT_.out (by kernel_rfl)) ?_
                      try go_wp2
                      go_ret
                      exact ⟨by first | rfl | (simp [errW_none, errW_some] <;> rfl) | (simp only [← hji2, ← hji9]; first | rfl | (simp [errW_none, errW_some] <;> rfl)) | (simp [*, errW_none, errW_some] <;> rfl), by repeat (first | (with_reducible first | exact HB.out | apply below_alloc | apply pw_below_drewN | apply below_drew1) | exact HB.out)⟩
                    · rw [if_neg c13] at H
                      have c13b0 : decide (0 ≤ t151) = false := decide_eq_false c13
                      clear c13
                      have H' := Aside0.mk H
                      clear H
                      try go_wp2
                      have n0_ := Aside0.mk (below_drew1 HB.out)
                      clear HB
                      have HB := n0_
                      clear n0_
                      have p149 : 0 ≤ (x10_1 : Int) := of_decide_eq_true (by first | (with_reducible assumption) | assumption)
                      have q149 : x10_1 < (l0.length : Int) := of_decide_eq_true (by first | (with_reducible assumption) | assumption)
                      obtain ⟨ad149, e149, hx149_0, hx149_1, hx149_2, hx149_3⟩ := at_T59 HR0.out x10_1 p149 q149
                      have hw149_3 := hx149_3
                      have hw149_2 := hx149_2
                      have hw149_1 := hx149_1
                      have hw149_0 := hx149_0
                      cases e149
                      replace hx149_0 := (HB.out.cell (World.block_lt_of_cell? w _ hx149_0)).trans hx149_0
                      replace hx149_1 := (HB.out.cell (World.block_lt_of_cell? w _ hx149_1)).trans hx149_1
                      replace hx149_2 := (HB.out.cell (World.block_lt_of_cell? w _ hx149_2)).trans hx149_2
                      replace hx149_3 := (HB.out.cell (World.block_lt_of_cell? w _ hx149_3)).trans hx149_3
                      replace p149 := eq_true p149
                      replace q149 := eq_true q149
                      have p150 : 0 ≤ ((ji9) : Int) := of_decide_eq_true (by first | (with_reducible assumption) | assumption)
                      have q150 : (ji9) < (l0.length : Int) := of_decide_eq_true (by first | (with_reducible assumption) | assumption)
                      obtain ⟨ad150, e150, hx150_0, hx150_1, hx150_2, hx150_3⟩ := at_T59 HR0.out (ji9) p150 q150
                      have hw150_3 := hx150_3
                      have hw150_2 := hx150_2
                      have hw150_1 := hx150_1
                      have hw150_0 := hx150_0
                      obtain rfl : ad149 = ad150 := (by injection e150)
                      replace hx150_0 := (HB.out.cell (World.block_lt_of_cell? w _ hx150_0)).trans hx150_0
                      replace hx150_1 := (HB.out.cell (World.block_lt_of_cell? w _ hx150_1)).trans hx150_1
                      replace hx150_2 := (HB.out.cell (World.block_lt_of_cell? w _ hx150_2)).trans hx150_2
                      replace hx150_3 := (HB.out.cell (World.block_lt_of_cell? w _ hx150_3)).trans hx150_3
                      replace p150 := eq_true p150
                      replace q150 := eq_true q150
                      refine start_ (n := 13) (S := fun w' => w'.cell? (ad149.add ((x10_1).toNat * 4)) = some (.string ((rd_T59 l0 x10_1).f0.f0)) ∧ w'.cell? ⟨(ad149.add ((x10_1).toNat * 4)).block, (ad149.add ((x10_1).toNat * 4)).off + 1, none⟩ = some (.int .u64 ((rd_T59 l0 x10_1).f0.f1)) ∧ w'.cell? ⟨(ad149.add ((x10_1).toNat * 4)).block, (ad149.add ((x10_1).toNat * 4)).off + 2, none⟩ = some (.int .u8 ((rd_T59 l0 x10_1).f0.f2)) ∧ w'.cell? ⟨(ad149.add ((x10_1).toNat * 4)).block, (ad149.add ((x10_1).toNat * 4)).off + 3, none⟩ = some (.string ((rd_T59 l0 x10_1).f1)) ∧ w'.cell? (ad149.add (((ji9)).toNat * 4)) = some (.string ((rd_T59 l0 (ji9)).f0.f0)) ∧ w'.cell? ⟨(ad149.add (((ji9)).toNat * 4)).block, (ad149.add (((ji9)).toNat * 4)).off + 1, none⟩ = some (.int .u64 ((rd_T59 l0 (ji9)).f0.f1)) ∧ w'.cell? ⟨(ad149.add (((ji9)).toNat * 4)).block, (ad149.add (((ji9)).toNat * 4)).off + 2, none⟩ = some (.int .u8 ((rd_T59 l0 (ji9)).f0.f2)) ∧ w'.cell? ⟨(ad149.add (((ji9)).toNat * 4)).block, (ad149.add (((ji9)).toNat * 4)).off + 3, none⟩ = some (.string ((rd_T59 l0 (ji9)).f1))) (ds := []) #[false, false, false, false, false, false, false, false, false, false, false, false, false] (by kernel_rfl) rfl rfl ⟨((HB.out.cell (World.block_lt_of_cell? w _ hw149_0)).trans hw149_0), ((HB.out.cell (World.block_lt_of_cell? w _ hw149_1)).trans hw149_1), ((HB.out.cell (World.block_lt_of_cell? w _ hw149_2)).trans hw149_2), ((HB.out.cell (World.block_lt_of_cell? w _ hw149_3)).trans hw149_3), ((HB.out.cell (World.block_lt_of_cell? w _ hw150_0)).trans hw150_0), ((HB.out.cell (World.block_lt_of_cell? w _ hw150_1)).trans hw150_1), ((HB.out.cell (World.block_lt_of_cell? w _ hw150_2)).trans hw150_2), ((HB.out.cell (World.block_lt_of_cell? w _ hw150_3)).trans hw150_3)⟩ (fun hHeld => ?_); refine with_tabW ikey_Rising.tab4 ikey_Rising.bits4 (fun HT_ HW_ => ?_)
                      generalize wr.drew = w16 at HB hx149_0 hx149_1 hx149_2 hx149_3 hx150_0 hx150_1 hx150_2 hx150_3 hHeld ⊢
                      refine pure_ (i := 0) (N := some 13) (v := ?_) (a' := ?_) #[true, false, false, false, false, false, false, false, false, false, false, false, false] rfl rfl (any_of HT_.out (by kernel_rfl)) (fun _ _ _ h => h) (Or.inl ⟨by rfl, ?_⟩) ?_ ?_
                      rotate_left
                      · intro w'
                        go_simp
                        with_reducible rfl
                      rotate_left
                      · simp only [Act.put, List.setIfInBounds_toArray, List.set_cons_zero, List.set_cons_succ, i64_w, i32_w]
                        rfl
                      refine pure_ (i := 1) (N := some 14) (v := ?_) (a' := ?_) #[true, true, false, false, false, false, false, false, false, false, false, false, false] rfl rfl (any_of HT_.out (by kernel_rfl)) (fun _ _ _ h => h) (Or.inl ⟨by rfl, ?_⟩) ?_ ?_
                      rotate_left
                      · intro w'
                        go_simp
                        with_reducible rfl
                      rotate_left
                      · simp only [Act.put, List.setIfInBounds_toArray, List.set_cons_zero, List.set_cons_succ, i64_w, i32_w]
                        rfl
                      refine pure_ (i := 2) (N := some 15) (v := ?_) (a' := ?_) #[true, true, true, false, false, false, false, false, false, false, false, false, false] rfl rfl (any_of HT_.out (by kernel_rfl)) (fun _ _ _ h => h) (Or.inl ⟨by rfl, ?_⟩) ?_ ?_
                      rotate_left
                      · intro w'
                        go_simp
                        with_reducible rfl
                      rotate_left
                      · simp only [Act.put, List.setIfInBounds_toArray, List.set_cons_zero, List.set_cons_succ, i64_w, i32_w]
                        rfl
                      refine pure_ (i := 3) (N := some 16) (v := ?_) (a' := ?_) #[true, true, true, true, false, false, false, false, false, false, false, false, false] rfl rfl (any_of HT_.out (by kernel_rfl)) (fun _ _ _ h => h) (Or.inl ⟨by rfl, ?_⟩) ?_ ?_
                      rotate_left
                      · intro w'
                        go_simp
                        with_reducible rfl
                      rotate_left
                      · simp only [Act.put, List.setIfInBounds_toArray, List.set_cons_zero, List.set_cons_succ, i64_w, i32_w]
                        rfl
                      refine pure_ (i := 5) (N := some 18) (v := ?_) (a' := ?_) #[true, true, true, true, false, true, false, false, false, false, false, false, false] rfl rfl (any_of HT_.out (by kernel_rfl)) (fun _ _ _ h => h) (Or.inl ⟨by rfl, ?_⟩) ?_ ?_
                      rotate_left
                      · intro w'
                        go_simp
                        with_reducible rfl
                      rotate_left
                      · simp only [Act.put, List.setIfInBounds_toArray, List.set_cons_zero, List.set_cons_succ, i64_w, i32_w]
                        rfl
                      refine pure_ (i := 6) (N := some 19) (v := ?_) (a' := ?_) #[true, true, true, true, false, true, true, false, false, false, false, false, false] rfl rfl (any_of HT_.out (by kernel_rfl)) (fun _ _ _ h => h) (Or.inl ⟨by rfl, ?_⟩) ?_ ?_
                      rotate_left
                      · intro w'
                        go_simp
                        with_reducible rfl
                      rotate_left
                      · simp only [Act.put, List.setIfInBounds_toArray, List.set_cons_zero, List.set_cons_succ, i64_w, i32_w]
                        rfl
                      refine pure_ (i := 7) (N := some 20) (v := ?_) (a' := ?_) #[true, true, true, true, false, true, true, true, false, false, false, false, false] rfl rfl (any_of HT_.out (by kernel_rfl)) (fun _ _ _ h => h) (Or.inl ⟨by rfl, ?_⟩) ?_ ?_
                      rotate_left
                      · intro w'
                        go_simp
                        with_reducible rfl
                      rotate_left
                      · simp only [Act.put, List.setIfInBounds_toArray, List.set_cons_zero, List.set_cons_succ, i64_w, i32_w]
                        rfl
                      refine pure_ (i := 8) (N := some 21) (v := ?_) (a' := ?_) #[true, true, true, true, false, true, true, true, true, false, false, false, false] rfl rfl (any_of HT_.out (by kernel_rfl)) (fun _ _ _ h => h) (Or.inl ⟨by rfl, ?_⟩) ?_ ?_
                      rotate_left
                      · intro w'
                        go_simp
                        with_reducible rfl
                      rotate_left
                      · simp only [Act.put, List.setIfInBounds_toArray, List.set_cons_zero, List.set_cons_succ, i64_w, i32_w]
                        rfl
                      refine pure_ (i := 9) (N := some 22) (v := ?_) (a' := ?_) #[true, true, true, true, false, true, true, true, true, true, false, false, false] rfl rfl (any_of HT_.out (by kernel_rfl)) (fun _ _ _ h => h) (Or.inl ⟨by rfl, ?_⟩) ?_ ?_
                      rotate_left
                      · intro w'
                        go_simp
                        with_reducible rfl
                      rotate_left
                      · simp only [Act.put, List.setIfInBounds_toArray, List.set_cons_zero, List.set_cons_succ, i64_w, i32_w]
                        rfl
                      refine take_ (i := 4) (N := some 17) (v := ?_) (a' := ?_) #[true, true, true, true, true, true, true, true, true, true, false, false, false] rfl rfl (take_ofW HT_.out HW_.out (by kernel_rfl)) (fun _ _ _ h => h) (Or.inl ⟨by rfl, ?_⟩) hHeld ?_ ?_
                      rotate_left
                      · rintro w' ⟨s0, s1, s2, s3, s4, s5, s6, s7⟩
                        go_simp
                        with_reducible rfl
                      rotate_left
                      · simp only [Act.put, List.setIfInBounds_toArray, List.set_cons_zero, List.set_cons_succ, i64_w, i32_w]
                        rfl
                      refine take_ (i := 10) (N := some 23) (v := ?_) (a' := ?_) #[true, true, true, true, true, true, true, true, true, true, true, false, false] rfl rfl (take_ofW HT_.out HW_.out (by kernel_rfl)) (fun _ _ _ h => h) (Or.inl ⟨by rfl, ?_⟩) hHeld ?_ ?_
                      rotate_left
                      · rintro w' ⟨s0, s1, s2, s3, s4, s5, s6, s7⟩
                        go_simp
                        with_reducible rfl
                      rotate_left
                      · simp only [Act.put, List.setIfInBounds_toArray, List.set_cons_zero, List.set_cons_succ, i64_w, i32_w]
                        rfl
                      refine one_ (i := 11) (N := some 24) #[true, true, true, true, true, true, true, true, true, true, true, true, false] rfl rfl (one_of HT_.out (by kernel_rfl)) (by decide) (fun K hK => ?_)
                      refine goes_ Try.func32 (by kernel_rfl) rfl #[.agg #[.string ((rd_T59 l0 x10_1).f0.f0), .int .u64 ((rd_T59 l0 x10_1).f0.f1), .int .u8 ((rd_T59 l0 x10_1).f0.f2)], .agg #[.string ((rd_T59 l0 (ji9)).f0.f0), .int .u64 ((rd_T59 l0 (ji9)).f0.f1), .int .u8 ((rd_T59 l0 (ji9)).f0.f2)]] (by rfl) rfl rfl (by (try simp only [List.map_toArray, List.map_cons, List.map_nil]); first | done | (simp only [hji9]; rfl) | rfl | (simp only [List.length_drop, List.length_take]; rfl)) ?_
                      with_reducible refine (ikey_Compare.calls k1 ((rd_T59 l0 x10_1).f0.f0) ((rd_T59 l0 x10_1).f0.f1) ((rd_T59 l0 x10_1).f0.f2) ((rd_T59 l0 (ji9)).f0.f0) ((rd_T59 l0 (ji9)).f0.f1) ((rd_T59 l0 (ji9)).f0.f2) t151 _ A12.out).mono ?_
                      rintro e w17 ⟨rfl, hb⟩
                      refine ⟨_, rfl, ?_⟩
                      have n0_ := Aside0.mk (below_step (by repeat (first | (with_reducible first | exact HB.out | apply below_alloc | apply pw_below_drewN | apply below_drew1) | exact HB.out)) hb)
                      clear HB
                      have HB := n0_
                      clear n0_
                      (try clear hb)
                      (try clear hb2)
                      (try clear hk)
                      (try clear hi)
                      refine hK.out _ _ ⟨((HB.out.cell (World.block_lt_of_cell? w _ hw149_0)).trans hw149_0), ((HB.out.cell (World.block_lt_of_cell? w _ hw149_1)).trans hw149_1), ((HB.out.cell (World.block_lt_of_cell? w _ hw149_2)).trans hw149_2), ((HB.out.cell (World.block_lt_of_cell? w _ hw149_3)).trans hw149_3), ((HB.out.cell (World.block_lt_of_cell? w _ hw150_0)).trans hw150_0), ((HB.out.cell (World.block_lt_of_cell? w _ hw150_1)).trans hw150_1), ((HB.out.cell (World.block_lt_of_cell? w _ hw150_2)).trans hw150_2), ((HB.out.cell (World.block_lt_of_cell? w _ hw150_3)).trans hw150_3)⟩ (fun hHeld => ?_)
                      clear hK K
                      refine norm_ (a' := ?_) ?_ ?_
                      rotate_left
                      · show Act.put _ (some 24) _ = _
                        simp only [Act.put, List.setIfInBounds_toArray, List.set_cons_zero, List.set_cons_succ, i64_w, i32_w]
                        rfl
                      refine pure_ (i := 12) (N := some 25) (v := ?_) (a' := ?_) #[true, true, true, true, true, true, true, true, true, true, true, true, true] rfl rfl (any_of HT_.out (by kernel_rfl)) (fun _ _ _ h => h) (Or.inl ⟨by rfl, ?_⟩) ?_ ?_
                      rotate_left
                      · intro w'
                        go_simp
                        with_reducible rfl
                      rotate_left
                      · simp only [Act.put, List.setIfInBounds_toArray, List.set_cons_zero, List.set_cons_succ, i64_w, i32_w]
                        rfl
                      refine done_ (done_of HT_.out (by kernel_rfl)) ?_
                      try go_wp2
                      go_roundg k1
                      case measure => have := HK1.out; omega
                      case rel => exact ⟨(ji9), (by first | rfl | (simp; done) | (simp only [← hji9] <;> (first | rfl | simp)) | (simp [*]; done)), H', ⟨by have := HK1.out; omega⟩, ⟨by repeat (first | (with_reducible first | exact HB.out | apply below_alloc | apply pw_below_drewN | apply below_drew1) | exact HB.out)⟩⟩
                  · rw [if_neg c11] at H
                    exact absurd H (by simp)
                · rw [if_neg c10] at H
                  exact absurd H (by simp)
              · rw [if_neg c8] at H
                exact absurd H (by simp)
            · rw [if_neg c7] at H
              exact absurd H (by simp)
          · rw [if_neg c6] at H
            have c6b0 : decide (x10_1 < (y145.length : Int)) = false := decide_eq_false c6
            clear c6
            obtain rfl := Option.some.inj H
            go_wp2
            go_ret
            exact ⟨by first | rfl | (simp [errW_none, errW_some] <;> rfl) | (simp only [← hji2]; first | rfl | (simp [errW_none, errW_some] <;> rfl)) | (simp [*, errW_none, errW_some] <;> rfl), by repeat (first | (with_reducible first | exact HB.out | apply below_alloc | apply pw_below_drewN | apply below_drew1) | exact HB.out)⟩
    · rw [if_neg c4] at H
      exact absurd H (by simp)
  · rw [if_neg c3] at H
    exact absurd H (by simp)

end Go.Proofs.Ytjcjfghcahbbmaa.P

end

section
namespace Go.Proofs.Ytjcjfghcahbbmaa.P
open Go.RowKit Go.Proofs.YtjcjfghcahbbmaaG Go.Proofs.YtjcjfghcahbbmaaW.PrintWords Go.Proofs.YtjcjfghcahbbmaaW.PrintLast Go.Proofs.YtjcjfghcahbbmaaW.PrintMore
attribute [local go_sem] str_gtr str_geq str_leq max2_int min2_int max_two min_two max_three min_three max_four min_four   -- for this text's walks alone
set_option linter.unusedVariables false
set_option linter.unusedSimpArgs false

def ratlineref03_Compare.f (a0_0 : ByteArray) (a0_1 : Int) (a0_2 : Int) (a1_0 : ByteArray) (a1_1 : Int) (a1_2 : Int) : Option (Int) := if (Op.bytesLess a0_0.toList a1_0.toList) = true then (some (-1)) else (if (Op.bytesLess a1_0.toList a0_0.toList) = true then (some 1) else (if a0_1 > a1_1 then (some (-1)) else (if a0_1 < a1_1 then (some 1) else (if a0_2 > a1_2 then (some (-1)) else (if a0_2 < a1_2 then (some 1) else (some 0))))))
end Go.Proofs.Ytjcjfghcahbbmaa.P

end

section
namespace Go.Proofs.Ytjcjfghcahbbmaa.P
open Go.RowKit Go.Proofs.YtjcjfghcahbbmaaG Go.Proofs.YtjcjfghcahbbmaaW.PrintWords Go.Proofs.YtjcjfghcahbbmaaW.PrintLast Go.Proofs.YtjcjfghcahbbmaaW.PrintMore
attribute [local go_sem] str_gtr str_geq str_leq max2_int min2_int max_two min_two max_three min_three max_four min_four   -- for this text's walks alone
set_option linter.unusedVariables false
set_option linter.unusedSimpArgs false

def ratlineref03_Rising.l0 : Nat → List (S59) → Int → Option (Bool)
  | 0, _, _ => none
  | k + 1, x0, x3 => if x3 < (x0.length : Int) then (if 0 ≤ (wrap64 (x3 - 1)) then (if (wrap64 (x3 - 1)) < (x0.length : Int) then (if 0 ≤ x3 then ((ratlineref03_Compare.f ((rd_T59 x0 (wrap64 (x3 - 1))).f0.f0) ((rd_T59 x0 (wrap64 (x3 - 1))).f0.f1) ((rd_T59 x0 (wrap64 (x3 - 1))).f0.f2) ((rd_T59 x0 x3).f0.f0) ((rd_T59 x0 x3).f0.f1) ((rd_T59 x0 x3).f0.f2)).bind fun t294 => (if t294 ≥ 0 then (some false) else (ratlineref03_Rising.l0 k x0 (wrap64 (x3 + 1))))) else (none)) else (none)) else (none)) else (some true)
def ratlineref03_Rising.f (k : Nat) (l0 : List (S59)) : Option (Bool) := ratlineref03_Rising.l0 k l0 1
end Go.Proofs.Ytjcjfghcahbbmaa.P

end

section
set_option linter.unusedVariables false
namespace Go.Proofs.YtjcjfghcahbbmaaL
open Go Go.RowKit Go.Proofs.YtjcjfghcahbbmaaG Go.Proofs.Ytjcjfghcahbbmaa.P Go.Proofs.YtjcjfghcahbbmaaW.PrintWords Go.Proofs.YtjcjfghcahbbmaaW.PrintMore

def Short (e : En) : Prop := e.f0.f0.size ≤ 70 ∧ e.f1.size ≤ 300
instance (e : En) : Decidable (Short e) := inferInstanceAs (Decidable (_ ∧ _))
theorem rd_en (l : List En) {j : Nat} (h : j < l.length) : rd_T59 l (j : Int) = l[j] := by
  show l.getD ((j : Int)).toNat _ = _
  rw [Int.toNat_natCast, List.getD_eq_getElem?_getD, List.getElem?_eq_getElem h]
  rfl
theorem few_succ' {a : Nat} (h : a < 9223372036854775807) : wrap64 ((a : Int) + 1) = ((a + 1 : Nat) : Int) := by unfold wrap64; omega
theorem few_succ {a : Nat} (h : a < 9223372036854775800) : wrap64 ((a : Int) + 1) = ((a + 1 : Nat) : Int) := by unfold wrap64; omega
theorem few_loop (l : List En) (most : Int) (hl : l.length ≤ 9223372036854775807) (k : Nat) :
    ∀ (m j : Nat), j + m = l.length → ratlinelaw03_Few.l0 (m + k + 1) l most l (l.length : Int) (j : Int) = some (decide (∀ e ∈ l.drop j, Short e) && decide ((l.length : Int) ≤ most)) := by
  intro m
  induction m with
  | zero =>
    intro j hj
    obtain rfl : j = l.length := by omega
    simp only [ratlinelaw03_Few.l0]
    rw [if_neg (by omega), List.drop_length]
    simp
  | succ m ih =>
    intro j hj
    have hlt : j < l.length := by omega
    generalize hk : m + 1 + k = q
    have hj1 : j < 9223372036854775807 := by omega
    simp only [ratlinelaw03_Few.l0, few_succ' hj1]
    rw [if_pos (by omega), if_pos (by omega), if_pos (by omega), rd_en l hlt, ← hk, show m + 1 + k = m + k + 1 from by omega, ih (j + 1) (by omega), List.drop_eq_getElem_cons hlt]
    by_cases h1 : ((l[j].f0.f0.size : Nat) : Int) > 70
    · rw [if_pos h1, decide_eq_false (fun h => by have := (h l[j] (List.mem_cons_self ..)).1; omega)]
      rfl
    · rw [if_neg h1]
      by_cases h2 : ((l[j].f1.size : Nat) : Int) > 300
      · rw [if_pos h2, decide_eq_false (fun h => by have := (h l[j] (List.mem_cons_self ..)).2; omega)]
        rfl
      · rw [if_neg h2]
        congr 2
        refine decide_eq_decide.2 ⟨fun h e he => ?_, fun h e he => h e (List.mem_cons_of_mem _ he)⟩
        rcases List.mem_cons.1 he with rfl | he
        · exact ⟨by omega, by omega⟩
        · exact h e he
theorem few_f' (l : List En) (most : Int) (hl : l.length ≤ 9223372036854775807) (k : Nat) : ratlinelaw03_Few.f (l.length + k + 1) l most = some (decide (∀ e ∈ l, Short e) && decide ((l.length : Int) ≤ most)) := by
  have := few_loop l most hl k l.length 0 (by omega)
  rwa [List.drop_zero] at this
end Go.Proofs.YtjcjfghcahbbmaaL

end

section
set_option linter.unusedVariables false
namespace Go.Proofs.YtjcjfghcahbbmaaL
open Go Go.RowKit Go.Proofs.YtjcjfghcahbbmaaG Go.Proofs.Ytjcjfghcahbbmaa.P Go.Proofs.YtjcjfghcahbbmaaW.PrintWords Go.Proofs.YtjcjfghcahbbmaaW.PrintMore

def cmpI (x y : Ik) : Int := if lt x.f0 y.f0 then -1 else if lt y.f0 x.f0 then 1 else if x.f1 > y.f1 then -1 else if x.f1 < y.f1 then 1 else if x.f2 > y.f2 then -1 else if x.f2 < y.f2 then 1 else 0
theorem or_f (k : Nat) (a b c : Int) : cmp_Or_int.f (k + 4) [a, b, c] = some (if a = 0 then (if b = 0 then (if c = 0 then 0 else c) else b) else a) := by
  unfold cmp_Or_int.f
  have e : ∀ n : Nat, n < 100 → wrap64 ((n : Int) + 1) = ((n + 1 : Nat) : Int) := fun n h => by unfold wrap64; omega
  have e0 : wrap64 (0 + 1) = 1 := e 0 (by omega)
  have e1 : wrap64 (1 + 1) = 2 := e 1 (by omega)
  have e2 : wrap64 (2 + 1) = 3 := e 2 (by omega)
  have l3 : (([a, b, c] : List Int).length : Int) = 3 := rfl
  simp only [cmp_Or_int.l0, l3, e0, e1, e2, rd]
  simp only [show (0 : Int) < 3 from by omega, show (1 : Int) < 3 from by omega, show (2 : Int) < 3 from by omega, show (0 : Int) ≤ 0 from by omega, show (0 : Int) ≤ 1 from by omega, show (0 : Int) ≤ 2 from by omega, show ¬ (3 : Int) < 3 from by omega, if_true, if_false]
  show (if a = 0 then (if b = 0 then (if c = 0 then some 0 else some c) else some b) else some a) = _
  split
  · split
    · split <;> rfl
    · rfl
  · rfl
theorem compare_f (k : Nat) (x y : Ik) : ikey_Compare.f (k + 4) x.f0 x.f1 x.f2 y.f0 y.f1 y.f2 = some (cmpI x y) := by
  have h1 : cmp_Compare_string.f x.f0 y.f0 = some (if lt x.f0 y.f0 then -1 else if lt y.f0 x.f0 then 1 else 0) := by
    unfold cmp_Compare_string.f cmp_isNaN_string.f lt
    simp only [bne_self_eq_false, Option.bind_some, Bool.false_eq_true, if_false]
    by_cases c1 : Op.bytesLess x.f0.toList y.f0.toList = true
    · simp [c1]
    · by_cases c2 : Op.bytesLess y.f0.toList x.f0.toList = true
      · simp [c1, c2]
      · simp [c1, c2]
  have h2 : ∀ a b : Int, cmp_Compare_uint64.f a b = some (if a < b then -1 else if b < a then 1 else 0) := fun a b => by
    unfold cmp_Compare_uint64.f cmp_isNaN_uint64.f
    simp only [bne_self_eq_false, Option.bind_some, Bool.false_eq_true, if_false]
    split
    · rfl
    · split <;> rfl
  have h3 : ∀ a b : Int, cmp_Compare_uint8.f a b = some (if a < b then -1 else if b < a then 1 else 0) := fun a b => by
    unfold cmp_Compare_uint8.f cmp_isNaN_uint8.f
    simp only [bne_self_eq_false, Option.bind_some, Bool.false_eq_true, if_false]
    split
    · rfl
    · split <;> rfl
  unfold ikey_Compare.f ikey_key_to.f
  rw [h1, h2, h3]
  simp only [Option.bind_some, or_f]
  congr 1
  unfold cmpI
  by_cases c1 : lt x.f0 y.f0
  · simp [c1]
  · by_cases c2 : lt y.f0 x.f0
    · simp [c1, c2]
    · simp only [if_neg c1, if_neg c2]
      by_cases c3 : x.f1 > y.f1
      · simp [c3]
      · by_cases c4 : x.f1 < y.f1
        · simp [c4, show ¬ y.f1 < x.f1 from by omega]
        · by_cases c5 : x.f2 > y.f2
          · simp [c4, c5, show ¬ y.f1 < x.f1 from by omega]
          · by_cases c6 : x.f2 < y.f2
            · simp [c4, c6, show ¬ y.f1 < x.f1 from by omega, show ¬ y.f2 < x.f2 from by omega]
            · simp [c4, c6, show ¬ y.f1 < x.f1 from by omega, show ¬ y.f2 < x.f2 from by omega]
theorem cmpI_le (x y : Ik) : cmpI x y ≤ 0 ↔ lt x.f0 y.f0 ∨ (x.f0 = y.f0 ∧ (y.f1 < x.f1 ∨ (x.f1 = y.f1 ∧ y.f2 ≤ x.f2))) := by
  unfold cmpI
  rcases lt_tri x.f0 y.f0 with h | h | h
  · simp [h]
  · rw [h]
    simp only [lt_irrefl, if_false, false_or, true_and, eq_self]
    repeat' split
    all_goals omega
  · have h2 := lt_asymm h
    have h3 : ¬ x.f0 = y.f0 := fun e => lt_irrefl _ (e ▸ h)
    rw [if_neg h2, if_pos h]
    simp [h2, h3]
theorem cmpI_neg (x y : Ik) : cmpI y x = -cmpI x y := by
  unfold cmpI
  rcases lt_tri x.f0 y.f0 with h | h | h
  · rw [if_neg (lt_asymm h), if_pos h, if_pos h]; rfl
  · rw [h]
    simp only [lt_irrefl, if_false]
    repeat' split
    all_goals omega
  · rw [if_pos h, if_neg (lt_asymm h), if_pos h]
theorem cmpI_zero (x y : Ik) : cmpI x y = 0 ↔ x.f0 = y.f0 ∧ x.f1 = y.f1 ∧ x.f2 = y.f2 := by
  have h1 := cmpI_le x y
  have h2 := cmpI_le y x
  rw [cmpI_neg x y] at h2
  constructor
  · intro h
    rcases h1.1 (by omega) with a | ⟨a, b⟩
    · rcases h2.1 (by omega) with c | ⟨c, d⟩
      · exact absurd c (lt_asymm a)
      · rw [c] at a; exact absurd a (lt_irrefl _)
    · rcases h2.1 (by omega) with c | ⟨c, d⟩
      · rw [a] at c; exact absurd c (lt_irrefl _)
      · exact ⟨a, by omega, by omega⟩
  · rintro ⟨a, b, c⟩
    have := h1.2 (.inr ⟨a, .inr ⟨b, by omega⟩⟩)
    have := h2.2 (.inr ⟨a.symm, .inr ⟨b.symm, by omega⟩⟩)
    omega
theorem cmpI_trans {x y z : Ik} (h : cmpI x y ≤ 0) (h2 : cmpI y z ≤ 0) : cmpI x z ≤ 0 := by
  rw [cmpI_le] at *
  rcases h with a | ⟨a, b⟩
  · rcases h2 with c | ⟨c, d⟩
    · exact .inl (lt_trans a c)
    · exact .inl (c ▸ a)
  · rcases h2 with c | ⟨c, d⟩
    · exact .inl (a ▸ c)
    · exact .inr ⟨a.trans c, by omega⟩

end Go.Proofs.YtjcjfghcahbbmaaL

end

section
set_option linter.unusedVariables false
namespace Go.Proofs.YtjcjfghcahbbmaaL
open Go Go.RowKit Go.Proofs.YtjcjfghcahbbmaaG Go.Proofs.Ytjcjfghcahbbmaa.P Go.Proofs.YtjcjfghcahbbmaaW.PrintWords Go.Proofs.YtjcjfghcahbbmaaW.PrintMore

def risesB : List En → Bool
  | a :: b :: r => decide (cmpI a.f0 b.f0 < 0) && risesB (b :: r)
  | _ => true
theorem rises_two (a b : En) (r : List En) : risesB (a :: b :: r) = (decide (cmpI a.f0 b.f0 < 0) && risesB (b :: r)) := rfl
end Go.Proofs.YtjcjfghcahbbmaaL

end

section
set_option linter.unusedVariables false
namespace Go.Proofs.YtjcjfghcahbbmaaL
open Go Go.RowKit Go.Proofs.YtjcjfghcahbbmaaG Go.Proofs.Ytjcjfghcahbbmaa.P Go.Proofs.YtjcjfghcahbbmaaW.PrintWords Go.Proofs.YtjcjfghcahbbmaaW.PrintMore

theorem rising_loop (l : List En) (hl : l.length < 9223372036854775800) (q : Nat) :
    ∀ (m j : Nat), j + m + 1 = l.length → ikey_Rising.l0 (m + q + 5) l ((l.length - 1 : Nat) : Int) (j : Int) = some (risesB (l.drop j)) := by
  intro m
  induction m with
  | zero =>
    intro j hj
    simp only [ikey_Rising.l0]
    rw [if_neg (by omega)]
    have : l.drop j = [l[j]'(by omega)] := by rw [List.drop_eq_getElem_cons (by omega), List.drop_of_length_le (by omega)]
    rw [this]
    rfl
  | succ m ih =>
    intro j hj
    have hlt : j < l.length := by omega
    have hlt2 : j + 1 < l.length := by omega
    generalize hk : m + 1 + q + 4 = k
    have hj1 : j < 9223372036854775800 := by omega
    rw [show m + 1 + q + 5 = k + 1 from by omega]
    simp only [ikey_Rising.l0, few_succ hj1]
    rw [if_pos (by omega), if_pos (by omega), if_pos (by omega), if_pos (by omega), if_pos (by omega), rd_en l hlt, rd_en l hlt2]
    have hc := compare_f (m + 1 + q) l[j].f0 l[j + 1].f0
    rw [hk] at hc
    refine bind1 hc ?_
    rw [List.drop_eq_getElem_cons hlt, List.drop_eq_getElem_cons hlt2, rises_two]
    by_cases h : cmpI l[j].f0 l[j + 1].f0 ≥ 0
    · rw [if_pos h, decide_eq_false (by omega), Bool.false_and]
    · rw [if_neg h, decide_eq_true (by omega), Bool.true_and, ← hk, show m + 1 + q + 4 = m + q + 5 from by omega, ih (j + 1) (by omega), List.drop_eq_getElem_cons hlt2]
theorem rising_f (l : List En) (hl : l.length < 9223372036854775800) (q : Nat) : ikey_Rising.f (l.length + q + 5) l = some (risesB l) := by
  unfold ikey_Rising.f
  by_cases h : l.length = 0
  · obtain rfl : l = [] := List.eq_nil_of_length_eq_zero h
    rw [if_pos (by decide), if_pos (by decide)]
    show ikey_Rising.l0 (0 + q + 4 + 1) [] _ _ = _
    simp only [ikey_Rising.l0]
    rw [if_neg (by decide)]
    rfl
  · have hm : mn (l.length : Int) 1 = ((1 : Nat) : Int) := by unfold mn; split <;> omega
    rw [hm, if_pos (by omega), if_pos (by omega), Int.toNat_natCast, List.length_drop]
    have := rising_loop l hl (q + 1) (l.length - 1) 0 (by omega)
    rwa [show l.length - 1 + (q + 1) + 5 = l.length + q + 5 from by omega, List.drop_zero] at this
theorem rising_k {l : List En} (h : l.length ≤ 150) (k : Nat) : ikey_Rising.f (k + 200) l = some (risesB l) := by
  have := rising_f l (by omega) (k + 195 - l.length)
  rwa [show l.length + (k + 195 - l.length) + 5 = k + 200 from by omega] at this
end Go.Proofs.YtjcjfghcahbbmaaL

end

section
set_option linter.unusedVariables false
set_option linter.unusedSimpArgs false
namespace Go.Proofs.YtjcjfghcahbbmaaG
open Go Go.RowKit Go.Proofs.YtjcjfghcahbbmaaR Go.Proofs.Ytjcjfghcahbbmaa.P Go.Proofs.YtjcjfghcahbbmaaW.PrintWords
attribute [local go_sem] Oper.semAt_some

/-- Is there one that may not be? -/
def block_bad : List S59 → Option Bool
  | [] => some false
  | o :: r => (ikey_Entry.f o.f0.f0 o.f0.f1 o.f0.f2 o.f1).bind fun t => if t = true then block_bad r else some true
def block_right.f (k : Nat) (l : List S59) : Option Bool := if 0 < l.length ∧ l.length ≤ 64 then (block_bad l).bind fun b => if b = true then some false else ikey_Rising.f k l else some false

set_option maxRecDepth 100000 in
set_option maxHeartbeats 1000000 in
theorem right1_calls (a : ByteArray) (b c : Int) (d : ByteArray) (r : Bool) (w : World) (h : ikey_Entry.f a b c d = some r) :
    Calls Try.prog 77 #[.agg #[.string a, .int .u64 b, .int .u8 c, .string d]] w fun e w' => e = .returned (.bool !r) ∧ Below w.heap.size w w' := by
  have hcl := fun W (hb : Below w.heap.size w W) => ikey_Entry.calls a b c d r W h
  have HCL := Aside0.mk hcl
  clear hcl h
  have hu := Try.underlying59
  have HB : Below w.heap.size w (w.alloc (.cells #[.string a, .int .u64 b, .int .u8 c, .string d] 59)) := below_alloc (Below.refl _ _) _
  go_enter Try.func77, Try.ntmps77
  go_wp2_with (go_at_call 64; refine (HCL.out _ (by first | exact HB | exact Below.refl _ _)).mono ?_; rintro e w1 ⟨rfl, hd⟩; have HD := Aside0.mk hd; clear hd)
  go_ret
  exact ⟨rfl, below_then HB HB.size HD.out⟩

set_option maxRecDepth 100000 in
set_option maxHeartbeats 1000000 in
theorem index_right_calls (A0 : Option Addr) (c0 : Nat) (l0 : List S59) (r : Bool) (w : World) (hr0 : Kd.C k59 w A0 l0.length l0) (hc0 : l0.length ≤ c0) (h : block_bad l0 = some r) :
    Calls Try.prog 107 #[.slice A0 l0.length c0, .func (.func 77) #[] #[]] w fun e w' => (∃ i : Int, e = .returned (.int .i64 i) ∧ decide (0 ≤ i) = r) ∧ Below w.heap.size w w' := by
  have hm := hr0.2.1
  have HR0 := Aside0.mk hr0
  have HC0 := Aside0.mk hc0
  have H := Aside0.mk h
  clear hr0 hc0 h
  go_enter Try.func107, Try.ntmps107
  go_wp2
  go_loopw [5, 8] (fun v5 v8 wr => ∃ k : Nat, k ≤ l0.length ∧ v8 = .int .i64 k ∧ Aside0 (block_bad (l0.drop k) = some r) ∧ Aside0 (Below w.heap.size w wr)) (fun _ v8 _ => l0.length - (intOf v8).toNat)
  case atStart => exact ⟨0, Nat.zero_le _, rfl, ⟨by rw [List.drop_zero]; exact H.out⟩, ⟨Below.refl _ _⟩⟩
  case round =>
    obtain ⟨k, hk, rfl, hbad, HB⟩ := hrel
    clear H
    by_cases hlt : k < l0.length
    · obtain ⟨ad, e, h0, h1, h2, h3⟩ := at_T59 HR0.out (k : Int) (by omega) (by omega)
      subst e
      have hb := hbad.out
      rw [List.drop_eq_getElem_cons hlt] at hb
      obtain ⟨t, ht, hb⟩ := Option.bind_eq_some_iff.1 hb
      have e1 : rd_T59 l0 (k : Int) = l0[k] := by
        show l0.getD ((k : Int)).toNat _ = _
        rw [Int.toNat_natCast, List.getD_eq_getElem?_getD, List.getElem?_eq_getElem hlt]; rfl
      rw [e1] at h0 h1 h2 h3
      simp only [Int.toNat_natCast] at h0 h1 h2 h3
      replace h0 := (HB.out.cell (World.block_lt_of_cell? w _ h0)).trans h0
      replace h1 := (HB.out.cell (World.block_lt_of_cell? w _ h1)).trans h1
      replace h2 := (HB.out.cell (World.block_lt_of_cell? w _ h2)).trans h2
      replace h3 := (HB.out.cell (World.block_lt_of_cell? w _ h3)).trans h3
      have hcl := fun W => right1_calls _ _ _ _ t W ht
      have HCL := Aside0.mk hcl
      clear hcl ht e1 hbad
      generalize l0[k].f0.f0 = x0 at *
      generalize l0[k].f0.f1 = x1 at *
      generalize l0[k].f0.f2 = x2 at *
      generalize l0[k].f1 = x3 at *
      cases t with
      | true =>
        rw [if_pos rfl] at hb
        have Hb := Aside0.mk hb
        clear hb
        go_wp2_with (go_at_call 77; refine (HCL.out _).mono ?_; rintro e w1 ⟨rfl, hd⟩; have HD := Aside0.mk hd; clear hd)
        refine ⟨⟨k + 1, by omega, by go_num, Hb, ⟨below_then HB.out HB.out.size HD.out⟩⟩, by simp [intOf]; omega⟩
      | false =>
        rw [if_neg (by decide)] at hb
        obtain rfl := Option.some.inj hb
        go_wp2_with (go_at_call 77; refine (HCL.out _).mono ?_; rintro e w1 ⟨rfl, hd⟩; have HD := Aside0.mk hd; clear hd)
        go_ret
        exact ⟨⟨_, rfl, decide_eq_true (by omega)⟩, below_then HB.out HB.out.size HD.out⟩
    · have e1 : l0.drop k = [] := List.drop_of_length_le (by omega)
      have hb := hbad.out
      rw [e1] at hb
      obtain rfl := Option.some.inj hb
      clear hb hbad
      go_wp2
      go_ret
      exact ⟨⟨_, rfl, rfl⟩, HB.out⟩

theorem contains_right_calls (A0 : Option Addr) (c0 : Nat) (l0 : List S59) (r : Bool) (w : World) (hr0 : Kd.C k59 w A0 l0.length l0) (hc0 : l0.length ≤ c0) (h : block_bad l0 = some r) :
    Calls Try.prog 78 #[.slice A0 l0.length c0, .func (.func 77) #[] #[]] w fun e w' => e = .returned (.bool r) ∧ Below w.heap.size w w' := by
  have hcl := fun W (hb : Below w.heap.size w W) => index_right_calls A0 c0 l0 r W (Kd.C_below hr0 hb) hc0 h
  have HCL := Aside0.mk hcl
  clear hcl h hr0 hc0
  go_enter Try.func78, Try.ntmps78
  go_wp2_with (go_at_call 107; refine (HCL.out _ (Below.refl _ _)).mono ?_; rintro e w1 ⟨⟨i, rfl, hi⟩, hd⟩; have HD := Aside0.mk hd; have HI := Aside0.mk hi; clear hd hi)
  go_ret
  exact ⟨by rw [HI.out]; rfl, HD.out⟩

theorem block_right.calls (k : Nat) (A0 : Option Addr) (c0 : Nat) (l0 : List S59) (r : Bool) (w : World) (hr0 : Kd.C k59 w A0 l0.length l0) (hc0 : l0.length ≤ c0) (h : block_right.f k l0 = some r) :
    Calls Try.prog 47 #[.slice A0 l0.length c0] w fun e w' => e = .returned (.bool r) ∧ Below w.heap.size w w' := by
  unfold block_right.f at h
  by_cases h1 : 0 < l0.length
  · by_cases h2 : l0.length ≤ 64
    · rw [if_pos ⟨h1, h2⟩] at h
      obtain ⟨b, hb, h⟩ := Option.bind_eq_some_iff.1 h
      have hcl := fun W (hw : Below w.heap.size w W) => contains_right_calls A0 c0 l0 b W (Kd.C_below hr0 hw) hc0 hb
      have HCL := Aside0.mk hcl
      have hp1 : decide (0 < (l0.length : Int)) = true := decide_eq_true (by omega)
      have hp1' : decide (0 < l0.length) = true := decide_eq_true h1
      have hp2 : decide ((l0.length : Int) ≤ 64) = true := decide_eq_true (by omega)
      have hp2' : decide (l0.length ≤ 64) = true := decide_eq_true h2
      cases b with
      | true =>
        rw [if_pos rfl] at h
        obtain rfl := Option.some.inj h
        clear hcl hr0 hc0 hb h
        go_enter Try.func47, Try.ntmps47
        go_wp2_with (go_at_call 78; refine (HCL.out _ (Below.refl _ _)).mono ?_; rintro e w1 ⟨rfl, hd⟩; have HD := Aside0.mk hd; clear hd)
        go_ret
        exact ⟨rfl, HD.out⟩
      | false =>
        rw [if_neg (by decide)] at h
        have hcl2 := fun W (hw : Below w.heap.size w W) => ikey_Rising.calls k A0 c0 l0 r W (Kd.C_below hr0 hw) hc0 h
        have HCL2 := Aside0.mk hcl2
        clear hcl hcl2 hr0 hc0 hb h
        go_enter Try.func47, Try.ntmps47
        go_wp2_with (first | (go_at_call 78; refine (HCL.out _ (Below.refl _ _)).mono ?_; rintro e w1 ⟨rfl, hd⟩; have HD := Aside0.mk hd; clear hd) | (go_at_call 31; refine (HCL2.out _ HD.out).mono ?_; rintro e w2 ⟨rfl, hd⟩; have HD2 := Aside0.mk hd; clear hd))
        go_ret
        exact ⟨rfl, below_then HD.out HD.out.size HD2.out⟩
    · rw [if_neg (fun q => h2 q.2)] at h
      obtain rfl := Option.some.inj h
      have hp1 : decide (0 < (l0.length : Int)) = true := decide_eq_true (by omega)
      have hp1' : decide (0 < l0.length) = true := decide_eq_true h1
      have hp2 : decide ((l0.length : Int) ≤ 64) = false := decide_eq_false (by omega)
      have hp2' : decide (l0.length ≤ 64) = false := decide_eq_false h2
      clear h hr0 hc0
      go_enter Try.func47, Try.ntmps47
      go_wp2
      go_ret
      exact ⟨rfl, Below.refl _ _⟩
  · rw [if_neg (fun q => h1 q.1)] at h
    obtain rfl := Option.some.inj h
    have hp1 : decide (0 < (l0.length : Int)) = false := decide_eq_false (by omega)
    have hp1' : decide (0 < l0.length) = false := decide_eq_false h1
    clear h hr0 hc0
    go_enter Try.func47, Try.ntmps47
    go_wp2
    go_ret
    exact ⟨rfl, Below.refl _ _⟩
end Go.Proofs.YtjcjfghcahbbmaaG

end

section
set_option linter.unusedVariables false
namespace Go.Proofs.YtjcjfghcahbbmaaL
open Go Go.RowKit Go.Proofs.YtjcjfghcahbbmaaG Go.Proofs.Ytjcjfghcahbbmaa.P Go.Proofs.YtjcjfghcahbbmaaW.PrintWords

/-- A number of 32 bits as four bytes. -/
def four (x : Nat) : List Int := [((x % 256 : Nat) : Int), ((x / 256 % 256 : Nat) : Int), ((x / 65536 % 256 : Nat) : Int), ((x / 16777216 % 256 : Nat) : Int)]
theorem four_len (x : Nat) : (four x).length = 4 := rfl
theorem four_by (x : Nat) : By (four x) := .cons (by omega) (by omega) (.cons (by omega) (by omega) (.cons (by omega) (by omega) (.cons (by omega) (by omega) .nil)))
theorem putFour_f {l : List Int} {x : Nat} (hx : x < 4294967296) (hl : l.length + 10 < 140737488355328) : nums_PutFour.f l (x : Int) = some (l ++ four x) := by
  unfold nums_PutFour.f
  rw [clone_f (by omega)]
  simp only [Option.bind_some]
  rw [if_pos (by simp; omega)]
  congr 2
theorem bits_or_u32 (a b : Nat) (ha : a < 4294967296) (hb : b < 4294967296) : bits .or .u32 (a : Int) (b : Int) = ((a ||| b : Nat) : Int) := by
  have hx : a ||| b < 2 ^ 32 := Nat.or_lt_two_pow (by omega) (by omega)
  have hw : ∀ n : Int, IntKind.u32.wrap n = n % 4294967296 := fun n => by simp [IntKind.wrap, IntKind.bits, IntKind.signed]
  show IntKind.u32.wrap ((BitVec.ofInt 32 (a : Int) ||| BitVec.ofInt 32 (b : Int)).toNat : Int) = _
  rw [BitVec.ofInt_natCast, BitVec.ofInt_natCast, BitVec.toNat_or, BitVec.toNat_ofNat, BitVec.toNat_ofNat, Nat.mod_eq_of_lt (by omega), Nat.mod_eq_of_lt (by omega), hw]
  omega
theorem or_four (a b c d : Nat) (ha : a < 256) (hb : b < 256) (hc : c < 256) (hd : d < 256) :
    Go.bits .or .u32 (Go.bits .or .u32 (Go.bits .or .u32 ((a : Int) % 4294967296) ((((b : Int) % 4294967296) * 256) % 4294967296)) ((((c : Int) % 4294967296) * 65536) % 4294967296)) ((((d : Int) % 4294967296) * 16777216) % 4294967296) = ((a + 256 * b + 65536 * c + 16777216 * d : Nat) : Int) := by
  rw [show ((a : Int) % 4294967296) = (a : Int) from by omega, show ((((b : Int) % 4294967296) * 256) % 4294967296) = ((b * 2 ^ 8 : Nat) : Int) from by omega,
    show ((((c : Int) % 4294967296) * 65536) % 4294967296) = ((c * 2 ^ 16 : Nat) : Int) from by omega, show ((((d : Int) % 4294967296) * 16777216) % 4294967296) = ((d * 2 ^ 24 : Nat) : Int) from by omega]
  rw [bits_or_u32 _ _ (by omega) (by omega), or_add _ _ _ (by omega), bits_or_u32 _ _ (by omega) (by omega), or_add _ _ _ (by omega), bits_or_u32 _ _ (by omega) (by omega), or_add _ _ _ (by omega)]
  omega
theorem takeFour_short {l : List Int} (h : l.length < 4) : nums_TakeFour.f l = some (0, [], false) := by
  unfold nums_TakeFour.f
  rw [if_pos (by omega)]
theorem takeFour_bytes (a b c d : Int) (rest : List Int) (h : By (a :: b :: c :: d :: rest)) (hl : rest.length + 10 < 140737488355328) :
    nums_TakeFour.f (a :: b :: c :: d :: rest) = some (a + 256 * b + 65536 * c + 16777216 * d, rest, true) := by
  have ha := h.head
  have hb := h.tail.head
  have hc := h.tail.tail.head
  have hd := h.tail.tail.tail.head
  unfold nums_TakeFour.f
  simp only [List.length_cons]
  rw [if_neg (by omega), if_pos (by omega), if_pos (by omega), if_pos (by omega), if_pos (by omega), if_pos (by omega)]
  rw [show (a :: b :: c :: d :: rest).drop 4 = rest from rfl, clone_f (by omega)]
  simp only [Option.bind_some]
  rw [show rd (a :: b :: c :: d :: rest) 0 = a from rfl, show rd (a :: b :: c :: d :: rest) 1 = b from rfl, show rd (a :: b :: c :: d :: rest) 2 = c from rfl, show rd (a :: b :: c :: d :: rest) 3 = d from rfl]
  obtain ⟨a', rfl⟩ := Int.eq_ofNat_of_zero_le ha.1
  obtain ⟨b', rfl⟩ := Int.eq_ofNat_of_zero_le hb.1
  obtain ⟨c', rfl⟩ := Int.eq_ofNat_of_zero_le hc.1
  obtain ⟨d', rfl⟩ := Int.eq_ofNat_of_zero_le hd.1
  rw [or_four a' b' c' d' (by omega) (by omega) (by omega) (by omega)]
  congr 2
theorem takeFour_four (x : Nat) (rest : List Int) (hx : x < 4294967296) (hr : By rest) (hl : rest.length + 10 < 140737488355328) :
    nums_TakeFour.f (four x ++ rest) = some ((x : Int), rest, true) := by
  unfold four
  simp only [List.cons_append, List.nil_append]
  rw [takeFour_bytes _ _ _ _ rest ((four_by x).append hr) hl]
  congr 2
  omega
/-- Four bytes or more say a number, and are put as they stood. -/
theorem takeFour_cases (l : List Int) (hb : By l) (hl : l.length + 10 < 140737488355328) :
    (l.length < 4 ∧ nums_TakeFour.f l = some (0, [], false)) ∨ (4 ≤ l.length ∧ ∃ (x : Nat) (rest : List Int), x < 4294967296 ∧ l = four x ++ rest ∧ nums_TakeFour.f l = some ((x : Int), rest, true)) := by
  by_cases h : l.length < 4
  · exact .inl ⟨h, takeFour_short h⟩
  · right
    match l, h, hb, hl with
    | a :: b :: c :: d :: rest, _, hb, hl =>
      have ha := hb.head
      have hb2 := hb.tail.head
      have hc := hb.tail.tail.head
      have hd := hb.tail.tail.tail.head
      simp only [List.length_cons] at hl
      refine ⟨by simp, (a + 256 * b + 65536 * c + 16777216 * d).toNat, rest, by omega, ?_, ?_⟩
      · unfold four
        simp only [List.cons_append, List.nil_append, List.cons.injEq, and_true]
        refine ⟨?_, ?_, ?_, ?_⟩ <;> omega
      · rw [takeFour_bytes a b c d rest hb (by omega)]
        congr 2
        omega
    | [], h, _, _ => simp at h
    | [_], h, _, _ => simp at h
    | [_, _], h, _, _ => simp at h
    | [_, _, _], h, _, _ => simp at h
end Go.Proofs.YtjcjfghcahbbmaaL

end

section
namespace Go.Proofs.Ytjcjfghcahbbmaa.P
open Go.RowKit Go.Proofs.YtjcjfghcahbbmaaG Go.Proofs.YtjcjfghcahbbmaaW.PrintWords Go.Proofs.YtjcjfghcahbbmaaW.PrintLast Go.Proofs.YtjcjfghcahbbmaaW.PrintMore
attribute [local go_sem] str_gtr str_geq str_leq max2_int min2_int max_two min_two max_three min_three max_four min_four   -- for this text's walks alone
set_option linter.unusedVariables false
set_option linter.unusedSimpArgs false

def block_common.l0 : Nat → ByteArray → ByteArray → Int → Option (Int)
  | 0, _, _, _ => none
  | k + 1, x0, x1, x5 => if x5 < (mn (x0.size : Int) (x1.size : Int)) then (if 0 ≤ x5 then (if x5 < (x0.size : Int) then (if x5 < (x1.size : Int) then (if (bt x0 x5) = (bt x1 x5) then (block_common.l0 k x0 x1 (wrap64 (x5 + 1))) else (some x5)) else (none)) else (none)) else (none)) else (some x5)
def block_common.f (k : Nat) (a0 : ByteArray) (a1 : ByteArray) : Option (Int) := block_common.l0 k a0 a1 0
set_option maxHeartbeats 8000000 in
set_option maxRecDepth 100000 in
theorem block_common.calls (k : Nat) (a0 : ByteArray) (a1 : ByteArray) (r : Int) (w : World) (h : block_common.f k a0 a1 = some r) :
    Calls Try.prog 79 #[.string a0, .string a1] w fun e w' => e = .returned (.int .i64 r) ∧ Below w.heap.size w w' := by
  have HB := Aside0.mk (Below.refl w.heap.size w)
  have H : (block_common.l0 k a0 a1 0) = some r := h
  clear h
  have H' := Aside0.mk H
  clear H
  go_enter Try.func79, Try.ntmps79
  go_wp2
  repeat (go_quiet (fail); try go_wp2)
  go_loopg [5] k (fun kq v5 w' => ∃ (x5_1 : Int), v5 = .int .i64 x5_1 ∧ Aside0 (block_common.l0 kq a0 a1 x5_1 = some r) ∧ Aside0 (kq ≤ k) ∧ Aside0 (Below w.heap.size w w'))
  case atStart => exact ⟨(0), (by first | rfl | (simp; done) | (simp [*]; done)), H', ⟨Nat.le_refl _⟩, ⟨by repeat (first | (with_reducible first | exact HB.out | apply below_alloc | apply pw_below_drewN | apply below_drew1) | exact HB.out)⟩⟩
  case round =>
    clear H'
    try clear p2
    obtain ⟨x5_1, rfl, HA, HK1, HB⟩ := hrel
    cases gk with
    | zero => exact absurd HA.out (by simp [block_common.l0])
    | succ k1 =>
      have H := HA.out
      clear HA
      simp only [block_common.l0] at H
      obtain ⟨ji3, hji3⟩ : ∃ j_ : Int, (mn (a0.size : Int) (a1.size : Int)) = j_ := ⟨_, rfl⟩
      replace H : (if x5_1 < (ji3) then (if 0 ≤ x5_1 then (if x5_1 < (a0.size : Int) then (if x5_1 < (a1.size : Int) then (if (bt a0 x5_1) = (bt a1 x5_1) then (block_common.l0 k1 a0 a1 (wrap64 (x5_1 + 1))) else (some x5_1)) else (none)) else (none)) else (none)) else (some x5_1)) = some r := by first | (rw [hji3] at H; exact H) | (simp only [hji3] at H ⊢; exact H)
      have hji3_ : (if (a1.size : Int) < (a0.size : Int) then (a1.size : Int) else (a0.size : Int)) = ji3 := hji3
      have hji3n : (if a1.size < a0.size then (a1.size : Int) else (a0.size : Int)) = ji3 := by rw [← hji3_]; simp only [Int.ofNat_lt]
      by_cases c4 : x5_1 < (ji3)
      · rw [if_pos c4] at H
        have c4b0 : decide (x5_1 < (ji3)) = true := decide_eq_true c4
        clear c4
        by_cases c5 : 0 ≤ x5_1
        · rw [if_pos c5] at H
          have c5b0 : decide (0 ≤ x5_1) = true := decide_eq_true c5
          clear c5
          by_cases c6 : x5_1 < (a0.size : Int)
          · rw [if_pos c6] at H
            have c6b0 : decide (x5_1 < (a0.size : Int)) = true := decide_eq_true c6
            clear c6
            by_cases c8 : x5_1 < (a1.size : Int)
            · rw [if_pos c8] at H
              have c8b0 : decide (x5_1 < (a1.size : Int)) = true := decide_eq_true c8
              clear c8
              by_cases c10 : (bt a0 x5_1) = (bt a1 x5_1)
              · rw [if_pos c10] at H
                have c10b0 : ((bt a0 x5_1) == (bt a1 x5_1)) = true := beq_iff_eq.mpr c10
                have c10b1 : ((bt a0 x5_1) != (bt a1 x5_1)) = false := bne_eq_false_iff_eq.mpr c10
                clear c10
                have H' := Aside0.mk H
                clear H
                have p7 : 0 ≤ (x5_1 : Int) := of_decide_eq_true (by first | (with_reducible assumption) | assumption)
                have q7 : x5_1 < (a0.size : Int) := of_decide_eq_true (by first | (with_reducible assumption) | assumption)
                have hx7 := bt_at a0 x5_1
                replace p7 := eq_true p7
                replace q7 := eq_true q7
                have p9 : 0 ≤ (x5_1 : Int) := of_decide_eq_true (by first | (with_reducible assumption) | assumption)
                have q9 : x5_1 < (a1.size : Int) := of_decide_eq_true (by first | (with_reducible assumption) | assumption)
                have hx9 := bt_at a1 x5_1
                replace p9 := eq_true p9
                replace q9 := eq_true q9
                go_wp2
                repeat (go_quiet (fail); try go_wp2)
                go_roundg k1
                case measure => have := HK1.out; omega
                case rel => exact ⟨(wrap64 (x5_1 + 1)), (by first | rfl | (simp; done) | (simp [*]; done)), H', ⟨by have := HK1.out; omega⟩, ⟨by repeat (first | (with_reducible first | exact HB.out | apply below_alloc | apply pw_below_drewN | apply below_drew1) | exact HB.out)⟩⟩
              · rw [if_neg c10] at H
                have c10b0 : ((bt a0 x5_1) == (bt a1 x5_1)) = false := beq_eq_false_iff_ne.mpr c10
                have c10b1 : ((bt a0 x5_1) != (bt a1 x5_1)) = true := bne_iff_ne.mpr c10
                obtain rfl := Option.some.inj H
                have p7 : 0 ≤ (x5_1 : Int) := of_decide_eq_true (by first | (with_reducible assumption) | assumption)
                have q7 : x5_1 < (a0.size : Int) := of_decide_eq_true (by first | (with_reducible assumption) | assumption)
                have hx7 := bt_at a0 x5_1
                replace p7 := eq_true p7
                replace q7 := eq_true q7
                have p9 : 0 ≤ (x5_1 : Int) := of_decide_eq_true (by first | (with_reducible assumption) | assumption)
                have q9 : x5_1 < (a1.size : Int) := of_decide_eq_true (by first | (with_reducible assumption) | assumption)
                have hx9 := bt_at a1 x5_1
                replace p9 := eq_true p9
                replace q9 := eq_true q9
                go_wp2
                repeat (go_quiet (fail); try go_wp2)
                go_ret
                exact ⟨by first | rfl | (simp [errW_none, errW_some] <;> rfl) | (simp only [← hji3]; first | rfl | (simp [errW_none, errW_some] <;> rfl)) | (simp [*, errW_none, errW_some] <;> rfl), by repeat (first | (with_reducible first | exact HB.out | apply below_alloc | apply pw_below_drewN | apply below_drew1) | exact HB.out)⟩
            · rw [if_neg c8] at H
              exact absurd H (by simp)
          · rw [if_neg c6] at H
            exact absurd H (by simp)
        · rw [if_neg c5] at H
          exact absurd H (by simp)
      · rw [if_neg c4] at H
        have c4b0 : decide (x5_1 < (ji3)) = false := decide_eq_false c4
        clear c4
        obtain rfl := Option.some.inj H
        go_wp2
        repeat (go_quiet (fail); try go_wp2)
        go_ret
        exact ⟨by first | rfl | (simp [errW_none, errW_some] <;> rfl) | (simp only [← hji3]; first | rfl | (simp [errW_none, errW_some] <;> rfl)) | (simp [*, errW_none, errW_some] <;> rfl), by repeat (first | (with_reducible first | exact HB.out | apply below_alloc | apply pw_below_drewN | apply below_drew1) | exact HB.out)⟩

end Go.Proofs.Ytjcjfghcahbbmaa.P

end

section
set_option linter.unusedVariables false
set_option linter.unusedSimpArgs false
namespace Go.Proofs.YtjcjfghcahbbmaaG
open Go Go.RowKit Go.Proofs.YtjcjfghcahbbmaaR Go.Proofs.YtjcjfghcahbbmaaL Go.Proofs.Ytjcjfghcahbbmaa.P Go.Proofs.YtjcjfghcahbbmaaW.PrintWords
attribute [local go_sem] Oper.semAt_some

abbrev mkBx (A : Option Addr) (n c : Nat) (B : Option Addr) (m d : Nat) (many : Int) (key : ByteArray) : Obj := .cells #[.slice A n c, .slice B m d, .int .i64 many, .string key] 88
abbrev enBx (e : En) : Obj := .cells #[.string e.f0.f0, .int .u64 e.f0.f1, .int .u8 e.f0.f2, .string e.f1] 59
/-- The maker's block: bytes, places, how many, the last key. -/
def MkS (base g : Nat) (b p : List Int) (many : Nat) (key : ByteArray) (W : World) : Prop :=
  ∃ A cA B cB, W.heap[g]? = some (mkBx A b.length cA B p.length cB (many : Int) key) ∧ Kd.R (Kd.int .u8) 5 W base (fun k => k ≠ g) (.slice A b.length cA) b ∧ Kd.R (Kd.int .u8) 5 W base (fun k => k ≠ g) (.slice B p.length cB) p
section
variable {base g : Nat} {b p : List Int} {many : Nat} {key : ByteArray} {W W' : World}
theorem MkS.lt (h : MkS base g b p many key W) : g < W.heap.size := by obtain ⟨A, cA, B, cB, h1, _⟩ := h; exact blk_lt h1
theorem MkS.below (h : MkS base g b p many key W) (hb : Below W.heap.size W W') : MkS base g b p many key W' := by
  obtain ⟨A, cA, B, cB, h1, h2, h3⟩ := h
  exact ⟨A, cA, B, cB, (hb.block g (blk_lt h1)).trans h1, Kd.R_below h2 hb, Kd.R_below h3 hb⟩
theorem Below.trans_drew {n : Nat} {W W1 : World} (h : Below n W.drew W1) : Below n W W1 := ⟨h.os, h.tape, h.output, h.size, h.block⟩
theorem MkS.cut (h : MkS base g b p many key W) {key' : ByteArray} : MkS base g b p many key' (W.setCell ⟨g, 3, none⟩ (.string key')) := by
  obtain ⟨A, cA, B, cB, h1, h2, h3⟩ := h
  exact ⟨A, cA, B, cB, blk_set h1 3 _, Kd.R_far (p := ⟨g, 3, none⟩) h2 (fun k hk => hk) _, Kd.R_far (p := ⟨g, 3, none⟩) h3 (fun k hk => hk) _⟩
theorem MkS.num (h : MkS base g b p many key W) {m : Nat} : MkS base g b p m key (W.setCell ⟨g, 2, none⟩ (.int .i64 (m : Int))) := by
  obtain ⟨A, cA, B, cB, h1, h2, h3⟩ := h
  exact ⟨A, cA, B, cB, blk_set h1 2 _, Kd.R_far (p := ⟨g, 2, none⟩) h2 (fun k hk => hk) _, Kd.R_far (p := ⟨g, 2, none⟩) h3 (fun k hk => hk) _⟩
theorem MkS.plc (h : MkS base g b p many key W) {A' : Option Addr} {p' : List Int} {c' : Nat} (hR : Kd.R (Kd.int .u8) 5 W base (fun k => k ≠ g) (.slice A' p'.length c') p') : MkS base g b p' many key (W.setCell ⟨g, 1, none⟩ (.slice A' p'.length c')) := by
  obtain ⟨A, cA, B, cB, h1, h2, h3⟩ := h
  exact ⟨A, cA, A', c', blk_set h1 1 _, Kd.R_far (p := ⟨g, 1, none⟩) h2 (fun k hk => hk) _, Kd.R_far (p := ⟨g, 1, none⟩) hR (fun k hk => hk) _⟩
theorem MkS.byt (h : MkS base g b p many key W) {A' : Option Addr} {b' : List Int} {c' : Nat} (hR : Kd.R (Kd.int .u8) 5 W base (fun k => k ≠ g) (.slice A' b'.length c') b') : MkS base g b' p many key (W.setCell ⟨g, 0, none⟩ (.slice A' b'.length c')) := by
  obtain ⟨A, cA, B, cB, h1, h2, h3⟩ := h
  exact ⟨A', c', B, cB, blk_set h1 0 _, Kd.R_far (p := ⟨g, 0, none⟩) hR (fun k hk => hk) _, Kd.R_far (p := ⟨g, 0, none⟩) h3 (fun k hk => hk) _⟩
/-- A row that was made is none of an elder block. -/
theorem R_newer {W W1 : World} {base g : Nat} {v : Value} {l : List Int} (h : Kd.R (Kd.int .u8) 5 W1 W.heap.size (fun _ => True) v l) (hg : g < W.heap.size) (hb : base ≤ W.heap.size) : Kd.R (Kd.int .u8) 5 W1 base (fun k => k ≠ g) v l :=
  Kd.R_lower (Kd.R_mono (Kd.R_bound h) (fun k hk => by have := hk.2.1; omega)) hb
end
/-- How many bytes two texts begin with alike. -/
def comN : List UInt8 → List UInt8 → Nat
  | a :: x, b :: y => if a = b then comN x y + 1 else 0
  | _, _ => 0
def com (a b : ByteArray) : Nat := comN a.toList b.toList
def entF (n : Nat) (e : En) : List Int := vint n ++ (vint (e.f0.f0.size - n) ++ (bytesOf (e.f0.f0.extract n e.f0.f0.size) ++ (vint (e.f0.f1.toNat * 2 + e.f0.f2.toNat) ++ (if e.f0.f2 = 1 then vint e.f1.size ++ bytesOf e.f1 else []))))
def keyAt (many : Nat) (key : ByteArray) : ByteArray := if many % 4 = 0 then ⟨#[]⟩ else key
def plcAt (many : Nat) (p : List Int) (n : Nat) : List Int := if many % 4 = 0 then p ++ four n else p

theorem or_pack {x k : Int} (hx0 : 0 ≤ x) (hx : x ≤ 72057594037927935) (hk0 : 0 ≤ k) (hk : k ≤ 1) : bits .or .u64 (IntKind.u64.wrap (x * 2)) (IntKind.u64.wrap k) = ((x.toNat * 2 + k.toNat : Nat) : Int) := by
  obtain ⟨a, rfl⟩ := Int.eq_ofNat_of_zero_le hx0
  obtain ⟨c, rfl⟩ := Int.eq_ofNat_of_zero_le hk0
  have e1 : IntKind.u64.wrap ((a : Int) * 2) = ((2 ^ 1 * a : Nat) : Int) := by rw [IntKind.wrap_u64]; omega
  have e2 : IntKind.u64.wrap (c : Int) = (c : Int) := by rw [IntKind.wrap_u64]; omega
  rw [e1, e2]
  show IntKind.u64.wrap ((BitVec.ofInt 64 ((2 ^ 1 * a : Nat) : Int) ||| BitVec.ofInt 64 (c : Int)).toNat : Int) = _
  rw [BitVec.ofInt_natCast, BitVec.ofInt_natCast, BitVec.toNat_or, BitVec.toNat_ofNat, BitVec.toNat_ofNat, Nat.mod_eq_of_lt (show 2 ^ 1 * a < 2 ^ 64 by omega), Nat.mod_eq_of_lt (show c < 2 ^ 64 by omega), ← Nat.two_pow_add_eq_or_of_lt (show c < 2 ^ 1 by omega) a, Int.toNat_natCast, Int.toNat_natCast, IntKind.wrap_u64]
  omega
/-- The state of put: the entry's box, and the maker. -/
structure PtS (w : World) (base g : Nat) (e : En) (b p : List Int) (many : Nat) (key : ByteArray) (W : World) : Prop where
  st : Stays (fun k => k = g) w W
  en : W.heap[w.heap.size]? = some (enBx e)
  ms : MkS base g b p many key W
  gl : g < w.heap.size
  bs : base ≤ w.heap.size
section
variable {w W W1 : World} {base g : Nat} {e : En} {b p : List Int} {many : Nat} {key : ByteArray}
theorem PtS.sz (h : PtS w base g e b p many key W) : w.heap.size < W.heap.size := blk_lt h.en
theorem PtS.below (h : PtS w base g e b p many key W) (hb : Below W.heap.size W W1) : PtS w base g e b p many key W1 :=
  ⟨h.st.trans (Stays.of_below hb), (hb.block _ (blk_lt h.en)).trans h.en, h.ms.below hb, h.gl, h.bs⟩
theorem PtS.set (h : PtS w base g e b p many key W) {j : Nat} {u : Value} {b' p' : List Int} {many' : Nat} {key' : ByteArray} (hm : MkS base g b' p' many' key' (W.setCell ⟨g, j, none⟩ u)) : PtS w base g e b' p' many' key' (W.setCell ⟨g, j, none⟩ u) :=
  ⟨h.st.trans (Stays.setCell (C := fun k => k = g) (p := ⟨g, j, none⟩) rfl u), blk_far h.en (by have := h.gl; show w.heap.size ≠ g; omega) u, hm, h.gl, h.bs⟩
theorem PtS.newer (h : PtS w base g e b p many key W) {v : Value} {l : List Int} (hR : Kd.R (Kd.int .u8) 5 W1 W.heap.size (fun _ => True) v l) : Kd.R (Kd.int .u8) 5 W1 base (fun k => k ≠ g) v l :=
  R_newer hR (by have := h.gl; have := h.sz; omega) (by have := h.bs; have := h.sz; omega)
end
set_option maxRecDepth 100000 in
set_option maxHeartbeats 8000000 in
theorem put_calls (base g : Nat) (b p : List Int) (many : Nat) (key : ByteArray) (e : En) (n : Nat) (w : World) (hm : MkS base g b p many key w) (hbase : base ≤ w.heap.size) (hb : b.length ≤ 1000000) (hp : p.length ≤ 1000000) (hmany : many ≤ 1000) (hk : e.f0.f0.size ≤ 1000) (hv : e.f1.size ≤ 1000) (hs0 : 0 ≤ e.f0.f1) (hs1 : e.f0.f1 ≤ 72057594037927935) (hd0 : 0 ≤ e.f0.f2) (hd1 : e.f0.f2 ≤ 1)
    (hc : ∃ k, block_common.f k (keyAt many key) e.f0.f0 = some (n : Int)) (hn : n ≤ e.f0.f0.size) :
    Calls Try.prog 49 #[.pointer (some ⟨g, 0, none⟩), .agg #[.string e.f0.f0, .int .u64 e.f0.f1, .int .u8 e.f0.f2, .string e.f1]] w fun x w' => (∃ u, x = .returned u) ∧ Stays (fun k => k = g) w w' ∧ MkS base g (b ++ entF n e) (plcAt many p b.length) (many + 1) e.f0.f0 w' := by
  have hu := Try.underlying59
  have hu2 := Try.underlying50
  have hu3 := Try.underlying88
  obtain ⟨kc, hc⟩ := hc
  have HC := Aside0.mk hc
  have HP0 : Aside0 (PtS w base g e b p many key (w.alloc (enBx e))) := ⟨⟨Stays.alloc _ _ _, World.alloc_heap_new w _, hm.below (below_alloc (Below.refl _ _) _), hm.lt, hbase⟩⟩
  obtain ⟨A, cA, B, cB, h1, h2, h3⟩ := HP0.out.ms
  have hx2 : (w.alloc (enBx e)).cell? ⟨g, 2, none⟩ = some (.int .i64 (many : Int)) := (blk_cell h1 2).trans rfl
  have hb4 : b.length + 10 < 140737488355328 := by omega
  have v1 := vint_len10 (x := n) (by omega)
  have v2 := vint_len10 (x := e.f0.f0.size - n) (by omega)
  have v3 := vint_len10 (x := e.f0.f1.toNat * 2 + e.f0.f2.toNat) (by omega)
  obtain ⟨q1, hq1⟩ : ∃ x, x = b ++ vint n := ⟨_, rfl⟩
  obtain ⟨tx, htx⟩ : ∃ x, x = e.f0.f0.extract n e.f0.f0.size := ⟨_, rfl⟩
  obtain ⟨q2, hq2⟩ : ∃ x, x = q1 ++ vint tx.size ++ bytesOf tx := ⟨_, rfl⟩
  obtain ⟨xx, hxx⟩ : ∃ x : Nat, x = e.f0.f1.toNat * 2 + e.f0.f2.toNat := ⟨_, rfl⟩
  obtain ⟨q3, hq3⟩ : ∃ x, x = q2 ++ vint xx := ⟨_, rfl⟩
  rw [← hxx] at v3
  obtain ⟨q4, hq4⟩ : ∃ x, x = (if e.f0.f2 = 1 then q3 ++ vint e.f1.size ++ bytesOf e.f1 else q3) := ⟨_, rfl⟩
  have htxs : tx.size = e.f0.f0.size - n := by rw [htx, ByteArray.size_extract]; omega
  have hl1 : q1.length ≤ 1000010 := by rw [hq1, List.length_append]; omega
  have hl2 : q2.length ≤ 1002000 := by rw [hq2, List.length_append, List.length_append, bytesOf_length, htxs]; omega
  have hl3 : q3.length ≤ 1002010 := by rw [hq3, List.length_append]; omega
  have HN1 : Aside0 (nums_Put.f b (n : Int) = some q1) := ⟨by rw [hq1]; exact put_f (by omega) (by omega)⟩
  have HN2 : Aside0 (nums_PutText.f q1 tx = some q2) := ⟨by rw [hq2]; exact putText_f (by rw [htxs]; omega)⟩
  have HXX := Aside0.mk hxx
  have HN3 : Aside0 (nums_Put.f q2 (xx : Int) = some q3) := ⟨by rw [hq3]; exact put_f (by omega) (by omega)⟩
  have HN4 : Aside0 (e.f0.f2 = 1 → nums_PutText.f q3 e.f1 = some q4) := ⟨fun h => by rw [hq4, if_pos h]; exact putText_f (by omega)⟩
  have HN5 : Aside0 (e.f0.f2 ≠ 1 → q4 = q3) := ⟨fun h => by rw [hq4, if_neg h]⟩
  have HQ4 : Aside0 (q4 = b ++ entF n e) := ⟨by
    rw [hq4, hq3, hq2, hq1, htxs, htx, hxx, entF]
    split <;> simp only [List.append_assoc, List.append_nil]⟩
  have HTX := Aside0.mk htx
  obtain ⟨pp, hpp⟩ : ∃ x, x = plcAt many p b.length := ⟨_, rfl⟩
  obtain ⟨kk, hkk⟩ : ∃ x, x = keyAt many key := ⟨_, rfl⟩
  rw [← hkk] at HC
  rw [← hpp]
  have HPP := Aside0.mk hpp
  have HKK := Aside0.mk hkk
  have HNN := Aside0.mk hn
  clear hm hc hbase h1 h2 h3 hq1 hq2 hq3 hq4 hxx htxs htx hl1 hl2 hl3 v1 v2 v3 hpp hkk hn
  go_enter Try.func49, Try.ntmps49
  go_upto_if 10 with (fail)
  go_cut [4] (fun v4 wc => v4 = undef ∧ Aside0 (PtS w base g e b pp many kk wc))
  case first =>
    obtain ⟨W0, hW0⟩ : ∃ W0, W0 = w.alloc (enBx e) := ⟨_, rfl⟩
    rw [show w.alloc (.cells #[.string e.f0.f0, .int .u64 e.f0.f1, .int .u8 e.f0.f2, .string e.f1] 59) = W0 from hW0.symm]
    rw [← hW0] at HP0
    clear hW0 hx2
    by_cases h4 : many % 4 = 0
    · have hq1 : (many : Int) % 4 = 0 := by omega
      obtain ⟨A, cA, B, cB, h1, h2, h3⟩ := HP0.out.ms
      have hz0 : W0.cell? ⟨g, 0, none⟩ = some (.slice A b.length cA) := (blk_cell h1 0).trans rfl
      have hz1 : W0.cell? ⟨g, 1, none⟩ = some (.slice B p.length cB) := (blk_cell h1 1).trans rfl
      have H1 := Aside0.mk h1
      have HB3 := Aside0.mk (Kd.R_reads' h3)
      have HPF : Aside0 (nums_PutFour.f p (b.length : Int) = some (p ++ four b.length)) := ⟨putFour_f (by omega) (by omega)⟩
      have hwr : IntKind.u32.wrap (b.length : Int) = (b.length : Int) := by show (b.length : Int) % 4294967296 = _; omega
      obtain ⟨p1, hp1⟩ : ∃ p1, p1 = p ++ four b.length := ⟨_, rfl⟩
      rw [← hp1] at HPF
      have HP1 : Aside0 (pp = p1) := ⟨by rw [HPP.out, hp1]; exact if_pos h4⟩
      have HKY : Aside0 (kk = ⟨#[]⟩) := ⟨by rw [HKK.out]; exact if_pos h4⟩
      clear h1 h2 h3 h4 hp1
      go_wp2
      go_region_law (go_simp; go_at_call 50; (with_reducible refine (nums_PutFour.calls B cB p (b.length : Int) p1 _ (Kd.C_below HB3.out.2.2 (below_drew (Below.refl _ _))) HB3.out.2.1 HPF.out).mono ?_); rintro x w1 ⟨v1, rfl, hv, hd⟩; obtain ⟨A1, c1, hvv⟩ := Kd.R_slice hv; subst hvv; have HV1 := Aside0.mk hv; have HD1 := Aside0.mk hd; have h11 := (hd.block g (blk_lt H1.out)).trans H1.out; have hy1 := (blk_cell h11 1).trans rfl; have hy3 := (blk_cell h11 3).trans rfl; have hf1 := blk_frozen h11 1; have hf3 := blk_frozen h11 3; clear hv hd h11 hz0 hz1)
      all_goals
        go_wp2
        go_meet
        case rel =>
          have hM1 := HP0.out.below (Below.trans_drew HD1.out)
          have hR1 := HP0.out.newer HV1.out
          refine ⟨rfl, ⟨?_⟩⟩
          rw [HP1.out, HKY.out]
          first
            | exact (hM1.set (hM1.ms.plc hR1)).set (hM1.ms.plc hR1).cut
            | exact (hM1.set hM1.ms.cut).set (hM1.ms.cut.plc (Kd.R_far (p := ⟨g, 3, none⟩) hR1 (fun k hk => hk) _))
    · have hq1 : ((many : Int) % 4 == 0) = false := beq_eq_false_iff_ne.2 (by omega)
      have hq2 : decide ((many : Int) % 4 = 0) = false := decide_eq_false (by omega)
      have hq3 : ¬ ((many : Int) % 4 = 0) := by omega
      have HP1 : Aside0 (pp = p) := ⟨by rw [HPP.out]; exact if_neg h4⟩
      have HKY : Aside0 (kk = key) := ⟨by rw [HKK.out]; exact if_neg h4⟩
      clear h4
      go_wp2
      go_meet
      case rel =>
        refine ⟨rfl, ⟨?_⟩⟩
        rw [HP1.out, HKY.out]
        exact HP0.out
  case rest =>
    clear HP0 hx2
    obtain ⟨rfl, HP⟩ := hcut
    go_upto_region 3 with (fail)
    go_cut [4] (fun v4 wd => v4 = .int .i64 (n : Int) ∧ Aside0 (PtS w base g e b pp many kk wd))
    case first =>
      obtain ⟨A, cA, B, cB, h1, h2, h3⟩ := HP.out.ms
      have hz3 : wc.cell? ⟨g, 3, none⟩ = some (.string kk) := (blk_cell h1 3).trans rfl
      have he0 : wc.cell? ⟨w.heap.size, 0, none⟩ = some (.string e.f0.f0) := (blk_cell HP.out.en 0).trans rfl
      clear h1 h2 h3
      go_wp2
      go_region_law (go_simp; go_at_call 79; (with_reducible refine (block_common.calls kc kk e.f0.f0 (n : Int) _ HC.out).mono ?_); rintro x w1 ⟨rfl, hd⟩; have HD1 := Aside0.mk hd; clear hd hz3 he0)
      all_goals
        go_wp2
        go_meet
        case rel => exact ⟨rfl, ⟨HP.out.below (Below.trans_drew HD1.out)⟩⟩
    case rest =>
      clear HP
      obtain ⟨rfl, HP⟩ := hcut
      go_upto_region 4 with (fail)
      go_cut [4] (fun v4 wd => v4 = .int .i64 (n : Int) ∧ Aside0 (PtS w base g e q2 pp many kk wd))
      case first =>
        obtain ⟨A, cA, B, cB, h1, h2, h3⟩ := HP.out.ms
        have hz0 : wc.cell? ⟨g, 0, none⟩ = some (.slice A b.length cA) := (blk_cell h1 0).trans rfl
        have he0 : wc.cell? ⟨w.heap.size, 0, none⟩ = some (.string e.f0.f0) := (blk_cell HP.out.en 0).trans rfl
        have HA0 := Aside0.mk (Kd.R_reads' h2)
        have hn := HNN.out
        have hn1 : decide ((n : Int) ≤ (e.f0.f0.size : Int)) = true := decide_eq_true (by omega)
        have hn2 : decide (n ≤ e.f0.f0.size) = true := decide_eq_true hn
        have hw : IntKind.u64.wrap (n : Int) = (n : Int) := wrap_u64_nat (by omega)
        have htx : e.f0.f0.extract n e.f0.f0.size = tx := HTX.out.symm
        clear h1 h2 h3
        go_wp2
        go_region_law (first
          | (go_simp; go_at_call 81; (with_reducible refine (nums_Put.calls A cA b (n : Int) q1 _ (Kd.C_below HA0.out.2.2 (below_drew (Below.refl _ _))) HA0.out.2.1 HN1.out).mono ?_); rintro x w1 ⟨v1, rfl, hv, hd⟩; obtain ⟨A1, c1, hvv⟩ := Kd.R_slice hv; subst hvv; have HV1 := Aside0.mk hv; have HD1 := Aside0.mk (HP.out.below (Below.trans_drew hd)); have he1 := (blk_cell HD1.out.en 0).trans rfl; clear hv hd hz0 he0)
          | (go_simp; go_at_call 80; (with_reducible refine (nums_PutText.calls A1 c1 q1 tx q2 _ (Kd.R_reads' HV1.out).2.2 (Kd.R_reads' HV1.out).2.1 HN2.out).mono ?_); rintro x w2 ⟨v2, rfl, hv, hd⟩; obtain ⟨A2, c2, hvv⟩ := Kd.R_slice hv; subst hvv; have HV2 := Aside0.mk (HD1.out.newer hv); have HD2 := Aside0.mk (HD1.out.below hd); obtain ⟨A3, c3, B3, d3, h5, _, _⟩ := HD2.out.ms; have hy0 := (blk_cell h5 0).trans rfl; have hf0 := blk_frozen h5 0; clear hv hd h5 he1))
        all_goals
          go_wp2
          go_meet
          case rel => exact ⟨rfl, ⟨HD2.out.set (HD2.out.ms.byt HV2.out)⟩⟩
      case rest =>
        clear HP
        obtain ⟨rfl, HP⟩ := hcut
        go_upto_region 5 with (fail)
        go_cut [4] (fun v4 wd => v4 = .int .i64 (n : Int) ∧ Aside0 (PtS w base g e q3 pp many kk wd))
        case first =>
          obtain ⟨A, cA, B, cB, h1, h2, h3⟩ := HP.out.ms
          have hz0 : wc.cell? ⟨g, 0, none⟩ = some (.slice A q2.length cA) := (blk_cell h1 0).trans rfl
          have he1 : wc.cell? ⟨w.heap.size, 1, none⟩ = some (.int .u64 e.f0.f1) := (blk_cell HP.out.en 1).trans rfl
          have he2 : wc.cell? ⟨w.heap.size, 2, none⟩ = some (.int .u8 e.f0.f2) := (blk_cell HP.out.en 2).trans rfl
          have HA0 := Aside0.mk (Kd.R_reads' h2)
          have hor := or_pack hs0 hs1 hd0 hd1
          rw [← HXX.out] at hor
          clear h1 h2 h3
          go_wp2
          go_region_law (go_simp; go_at_call 81; (with_reducible refine (nums_Put.calls A cA q2 (xx : Int) q3 _ (Kd.C_below HA0.out.2.2 (below_drew (Below.refl _ _))) HA0.out.2.1 HN3.out).mono ?_); rintro x w1 ⟨v1, rfl, hv, hd⟩; obtain ⟨A1, c1, hvv⟩ := Kd.R_slice hv; subst hvv; have HV1 := Aside0.mk (HP.out.newer hv); have HD1 := Aside0.mk (HP.out.below (Below.trans_drew hd)); obtain ⟨A3, c3, B3, d3, h5, _, _⟩ := HD1.out.ms; have hy0 := (blk_cell h5 0).trans rfl; have hf0 := blk_frozen h5 0; clear hv hd hz0 h5)
          all_goals
            go_wp2
            go_meet
            case rel => exact ⟨rfl, ⟨HD1.out.set (HD1.out.ms.byt HV1.out)⟩⟩
        case rest =>
          clear HP
          obtain ⟨rfl, HP⟩ := hcut
          have he2 : wc.cell? ⟨w.heap.size, 2, none⟩ = some (.int .u8 e.f0.f2) := (blk_cell HP.out.en 2).trans rfl
          go_upto_if 72 with (fail)
          go_cut [4] (fun v4 wd => v4 = .int .i64 (n : Int) ∧ Aside0 (PtS w base g e q4 pp many kk wd))
          case first =>
            clear he2
            by_cases hk1 : e.f0.f2 = 1
            · have hk2 : (e.f0.f2 == 1) = true := beq_iff_eq.2 hk1
              have hk3 : decide (e.f0.f2 = 1) = true := decide_eq_true hk1
              have HN4' := Aside0.mk (HN4.out hk1)
              obtain ⟨A, cA, B, cB, h1, h2, h3⟩ := HP.out.ms
              have hz0 : wc.cell? ⟨g, 0, none⟩ = some (.slice A q3.length cA) := (blk_cell h1 0).trans rfl
              have he3 : wc.cell? ⟨w.heap.size, 3, none⟩ = some (.string e.f1) := (blk_cell HP.out.en 3).trans rfl
              have HA0 := Aside0.mk (Kd.R_reads' h2)
              clear h1 h2 h3 hk1
              go_wp2
              go_region_law (go_simp; go_at_call 80; (with_reducible refine (nums_PutText.calls A cA q3 e.f1 q4 _ (Kd.C_below HA0.out.2.2 (below_drew (Below.refl _ _))) HA0.out.2.1 HN4'.out).mono ?_); rintro x w1 ⟨v1, rfl, hv, hd⟩; obtain ⟨A1, c1, hvv⟩ := Kd.R_slice hv; subst hvv; have HV1 := Aside0.mk (HP.out.newer hv); have HD1 := Aside0.mk (HP.out.below (Below.trans_drew hd)); obtain ⟨A3, c3, B3, d3, h5, _, _⟩ := HD1.out.ms; have hy0 := (blk_cell h5 0).trans rfl; have hf0 := blk_frozen h5 0; clear hv hd hz0 he3 h5)
              all_goals
                go_wp2
                go_meet
                case rel => exact ⟨rfl, ⟨HD1.out.set (HD1.out.ms.byt HV1.out)⟩⟩
            · have hk2 : (e.f0.f2 == 1) = false := beq_eq_false_iff_ne.2 hk1
              have hk3 : decide (e.f0.f2 = 1) = false := decide_eq_false hk1
              have HE5 := Aside0.mk (HN5.out hk1)
              clear hk1
              go_wp2
              go_meet
              case rel =>
                refine ⟨rfl, ⟨?_⟩⟩
                rw [HE5.out]
                exact HP.out
          case rest =>
            clear HP he2
            obtain ⟨rfl, HP⟩ := hcut
            obtain ⟨A, cA, B, cB, h1, h2, h3⟩ := HP.out.ms
            have hz2 : wc.cell? ⟨g, 2, none⟩ = some (.int .i64 (many : Int)) := (blk_cell h1 2).trans rfl
            have hz3 : wc.cell? ⟨g, 3, none⟩ = some (.string kk) := (blk_cell h1 3).trans rfl
            have hf2 := blk_frozen h1 2
            have hf3 := blk_frozen h1 3
            have he0 : wc.cell? ⟨w.heap.size, 0, none⟩ = some (.string e.f0.f0) := (blk_cell HP.out.en 0).trans rfl
            have hm1 : IntKind.i64.wrap ((many : Int) + 1) = ((many + 1 : Nat) : Int) := by rw [IntKind.wrap_i64]; omega
            have HM1 := Aside0.mk hm1
            clear h1 h2 h3 hm1
            go_wp2
            go_region_law (fail)
            all_goals
              go_end0
              have P1 := HP.out.set (HP.out.ms.num (m := many + 1))
              have P2 := P1.set (P1.ms.cut (key' := e.f0.f0))
              have P3 := HP.out.set (HP.out.ms.cut (key' := e.f0.f0))
              have P4 := P3.set (P3.ms.num (m := many + 1))
              rw [HM1.out, ← HQ4.out]
              first
                | exact ⟨⟨_, rfl⟩, (P2.below (below_drew (Below.refl _ _))).st, (P2.below (below_drew (Below.refl _ _))).ms⟩
                | exact ⟨⟨_, rfl⟩, (P4.below (below_drew (Below.refl _ _))).st, (P4.below (below_drew (Below.refl _ _))).ms⟩
end Go.Proofs.YtjcjfghcahbbmaaG

end

section
set_option linter.unusedVariables false
set_option linter.unusedSimpArgs false
namespace Go.Proofs.YtjcjfghcahbbmaaG
open Go Go.RowKit Go.Proofs.YtjcjfghcahbbmaaL Go.Proofs.Ytjcjfghcahbbmaa.P Go.Proofs.YtjcjfghcahbbmaaW.PrintWords Go.Proofs.YtjcjfghcahbbmaaW.PrintMore

theorem bt_toList (s : ByteArray) {n : Nat} (h : n < s.toList.length) : bt s (n : Int) = ((s.toList[n]).toNat : Int) := by
  have hs : n < s.size := by rw [toList_data, Array.length_toList] at h; exact h
  unfold bt
  rw [Int.toNat_natCast, dif_pos hs]
  congr 2
  simp only [toList_data]
  rfl
theorem toList_len (s : ByteArray) : s.toList.length = s.size := by rw [toList_data, Array.length_toList]; rfl
theorem comN_nil_right : ∀ a : List UInt8, comN a [] = 0
  | [] => rfl
  | _ :: _ => rfl
theorem comN_le : ∀ a b : List UInt8, comN a b ≤ a.length ∧ comN a b ≤ b.length
  | [], b => by rw [comN]; exact ⟨Nat.le_refl _, Nat.zero_le _⟩
                intro a x b y h; cases h
  | a :: x, [] => by rw [comN_nil_right]; exact ⟨Nat.zero_le _, Nat.le_refl _⟩
  | a :: x, b :: y => by
    rw [comN]
    have := comN_le x y
    simp only [List.length_cons]
    split <;> omega
theorem com_le (a b : ByteArray) : com a b ≤ a.size ∧ com a b ≤ b.size := by
  have := comN_le a.toList b.toList
  rw [toList_len, toList_len] at this
  exact this
theorem com_loop (a b : ByteArray) (ha : a.size ≤ 1000000) (hb : b.size ≤ 1000000) : ∀ (d n : Nat), n + d = min a.size b.size → Ev (fun k => block_common.l0 k a b (n : Int)) ((n + comN (a.toList.drop n) (b.toList.drop n) : Nat) : Int) := by
  have hmn : mn (a.size : Int) (b.size : Int) = ((min a.size b.size : Nat) : Int) := by unfold mn; split <;> omega
  intro d
  induction d with
  | zero =>
    intro n hn
    have h0 : comN (a.toList.drop n) (b.toList.drop n) = 0 := by
      by_cases h : a.size ≤ b.size
      · rw [List.drop_eq_nil_of_le (by rw [toList_len]; omega)]
        rw [comN]
        intro a x b y h; cases h
      · have hd : b.toList.drop n = [] := List.drop_eq_nil_of_le (by rw [toList_len]; omega)
        rw [hd, comN_nil_right]
    rw [h0, Nat.add_zero]
    exact ev_of 1 (fun k => by rw [block_common.l0, hmn, if_neg (by omega)])
  | succ d ih =>
    intro n hn
    have h1 : n < a.toList.length := by rw [toList_len]; omega
    have h2 : n < b.toList.length := by rw [toList_len]; omega
    have h3 : n < a.size := by omega
    have h4 : n < b.size := by omega
    rw [List.drop_eq_getElem_cons h1, List.drop_eq_getElem_cons h2, comN]
    by_cases h : a.toList[n] = b.toList[n]
    · rw [if_pos h]
      have := ih (n + 1) (by omega)
      rw [show n + (comN (a.toList.drop (n + 1)) (b.toList.drop (n + 1)) + 1) = n + 1 + comN (a.toList.drop (n + 1)) (b.toList.drop (n + 1)) by omega]
      exact ev_step (fun k => by rw [block_common.l0, hmn, if_pos (by omega), if_pos (by omega), if_pos (by omega), if_pos (by omega), if_pos (by rw [bt_toList a h1, bt_toList b h2, h]), up1 (by omega)]) this
    · rw [if_neg h, Nat.add_zero]
      exact ev_of 1 (fun k => by
        rw [block_common.l0, hmn, if_pos (by omega), if_pos (by omega), if_pos (by omega), if_pos (by omega), if_neg (fun e => h ?_)]
        rw [bt_toList a h1, bt_toList b h2] at e
        exact UInt8.toNat_inj.1 (by omega))
theorem com_k {a b : ByteArray} (ha : a.size ≤ 1000000) (hb : b.size ≤ 1000000) : ∃ k, block_common.f k a b = some ((com a b : Nat) : Int) := by
  have := com_loop a b ha hb (min a.size b.size) 0 (by omega)
  rw [List.drop_zero, List.drop_zero, Nat.zero_add] at this
  exact Ev.rounds this

def OkE (e : En) : Prop := EntryI e.f0 e.f1
instance decOkE (e : En) : Decidable (OkE e) := inferInstanceAs (Decidable (_ ∧ _))
def WfN (e : En) : Prop := 0 ≤ e.f0.f1 ∧ 0 ≤ e.f0.f2
instance decWfN (e : En) : Decidable (WfN e) := inferInstanceAs (Decidable (_ ∧ _))
theorem OkE.parts {e : En} (h : OkE e) : 1 ≤ e.f0.f0.size ∧ e.f0.f0.size ≤ 64 ∧ e.f0.f1 ≤ 72057594037927935 ∧ e.f0.f2 ≤ 1 ∧ e.f1.size ≤ 256 ∧ (e.f0.f2 = 0 → e.f1.size = 0) := by
  obtain ⟨⟨h1, h2, h3, h4⟩, h5⟩ := h
  refine ⟨h1, h2, h3, h4, ?_, fun e => ?_⟩
  · split at h5 <;> omega
  · rw [if_pos e] at h5; omega
def okEs (l : List En) : Bool := decide (0 < l.length) && decide (l.length ≤ 64) && decide (∀ e ∈ l, OkE e) && risesB l
theorem okEs_parts {l : List En} (h : okEs l = true) : 0 < l.length ∧ l.length ≤ 64 ∧ (∀ e ∈ l, OkE e) ∧ risesB l = true := by
  unfold okEs at h
  simp only [Bool.and_eq_true, decide_eq_true_eq] at h
  exact ⟨h.1.1.1, h.1.1.2, h.1.2, h.2⟩
theorem bad_f : ∀ l : List En, block_bad l = some (!decide (∀ e ∈ l, OkE e))
  | [] => by simp [block_bad]
  | e :: l => by
    have h0 : ikey_Entry.f e.f0.f0 e.f0.f1 e.f0.f2 e.f1 = some (decide (OkE e)) := by
      rw [entry_f e.f0 e.f1]
      congr 1
      rw [Bool.eq_iff_iff, Bool.and_eq_true, decide_eq_true_eq, decide_eq_true_eq, decide_eq_true_eq]
      exact Iff.rfl
    rw [block_bad, h0, bad_f l, Option.bind_some]
    by_cases h : OkE e
    · simp [h]
    · simp [h]
theorem bright_f (l : List En) (k : Nat) : block_right.f (k + 200) l = some (okEs l) := by
  unfold block_right.f okEs
  by_cases h : 0 < l.length ∧ l.length ≤ 64
  · rw [if_pos h, bad_f, Option.bind_some, decide_eq_true h.1, decide_eq_true h.2]
    by_cases h2 : ∀ e ∈ l, OkE e
    · rw [decide_eq_true h2, if_neg (by decide), rising_k (by omega)]
      rfl
    · rw [decide_eq_false h2, if_pos (by decide), Bool.and_false, Bool.false_and]
  · rw [if_neg h]
    congr 1
    symm
    by_cases h1 : 0 < l.length
    · rw [decide_eq_false (show ¬ l.length ≤ 64 from fun q => h ⟨h1, q⟩)]
      simp
    · rw [decide_eq_false h1]
      simp

theorem rev_ind {α : Type} {P : List α → Prop} (h0 : P []) (h1 : ∀ l a, P l → P (l ++ [a])) (l : List α) : P l := by
  have : ∀ r : List α, P r.reverse := by
    intro r
    induction r with
    | nil => exact h0
    | cons a r ih => rw [List.reverse_cons]; exact h1 _ _ ih
  have := this l.reverse
  rwa [List.reverse_reverse] at this
structure BS where
  b : List Int
  p : List Int
  m : Nat
  k : ByteArray
def BS.z : BS := ⟨[], [], 0, ⟨#[]⟩⟩
def BS.n (s : BS) (e : En) : Nat := com (keyAt s.m s.k) e.f0.f0
def BS.put (s : BS) (e : En) : BS := ⟨s.b ++ entF (s.n e) e, plcAt s.m s.p s.b.length, s.m + 1, e.f0.f0⟩
def bldS (l : List En) : BS := l.foldl BS.put BS.z
def outF (s : BS) : List Int := s.b ++ s.p ++ four ((s.m + 3) / 4)
def formB (l : List En) : List Int := outF (bldS l)
theorem bldS_snoc (l : List En) (e : En) : bldS (l ++ [e]) = (bldS l).put e := by unfold bldS; rw [List.foldl_append]; rfl
theorem bldS_m (l : List En) : (bldS l).m = l.length := by
  refine rev_ind (P := fun l => (bldS l).m = l.length) rfl (fun l e ih => ?_) l
  rw [bldS_snoc, List.length_append]
  show (bldS l).m + 1 = _
  rw [ih]
  rfl
theorem entF_len {e : En} {n : Nat} (h : OkE e) (hw : WfN e) (hn : n ≤ e.f0.f0.size) : (entF n e).length ≤ 400 ∧ 0 < (entF n e).length := by
  obtain ⟨h1, h2, h3, h4, h5, _⟩ := h.parts
  obtain ⟨w1, w2⟩ := hw
  have v1 := vint_len10 (x := n) (by omega)
  have v2 := vint_len10 (x := e.f0.f0.size - n) (by omega)
  have v3 := vint_len10 (x := e.f0.f1.toNat * 2 + e.f0.f2.toNat) (by omega)
  have v4 := vint_len10 (x := e.f1.size) (by omega)
  have p1 := vint_pos n
  unfold entF
  simp only [List.length_append, bytesOf_length, ByteArray.size_extract]
  split
  · simp only [List.length_append, bytesOf_length]; omega
  · simp only [List.length_nil]; omega
theorem bldS_len : ∀ (l : List En), (∀ e ∈ l, OkE e) → (∀ e ∈ l, WfN e) → (bldS l).b.length ≤ 400 * l.length ∧ l.length ≤ (bldS l).b.length ∧ (bldS l).p.length ≤ 4 * l.length := by
  intro l
  refine rev_ind (P := fun l => (∀ e ∈ l, OkE e) → (∀ e ∈ l, WfN e) → (bldS l).b.length ≤ 400 * l.length ∧ l.length ≤ (bldS l).b.length ∧ (bldS l).p.length ≤ 4 * l.length) (fun _ _ => ⟨Nat.le_refl _, Nat.le_refl _, Nat.le_refl _⟩) (fun l e ih => ?_) l
  · intro ho hw
    obtain ⟨i1, i2, i3⟩ := ih (fun x hx => ho x (List.mem_append_left _ hx)) (fun x hx => hw x (List.mem_append_left _ hx))
    obtain ⟨e1, e2⟩ := entF_len (n := (bldS l).n e) (ho e (by simp)) (hw e (by simp)) (com_le _ _).2
    rw [bldS_snoc]
    show (((bldS l).b ++ entF _ e).length ≤ _) ∧ _ ≤ ((bldS l).b ++ entF _ e).length ∧ (plcAt (bldS l).m (bldS l).p (bldS l).b.length).length ≤ _
    simp only [List.length_append, List.length_singleton]
    refine ⟨by omega, by omega, ?_⟩
    unfold plcAt
    split
    · rw [List.length_append, four_len]; omega
    · omega
def block_Build.f (l : List En) : Option (List Int × Int) := if l.length ≤ 1000000 ∧ (∀ e ∈ l, WfN e) then some (if okEs l = true then (formB l, 0) else ([], 70)) else none
end Go.Proofs.YtjcjfghcahbbmaaG

end
