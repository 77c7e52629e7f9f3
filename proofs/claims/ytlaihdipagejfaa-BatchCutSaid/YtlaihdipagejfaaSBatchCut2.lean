/- Proved here: what the row of BatchCut needs, part 2. Conditions: those of each theorem. Written for this claim by programs; what the claim does not use is left out. -/
import Derived.Lib.Strings
import Derived.Test.YtlaihdipagejfaaSBatchCut1
section
set_option linter.unusedVariables false
set_option linter.unusedSimpArgs false
namespace Go.Proofs.YtlaihdipagejfaaG
open Go Go.RowKit Go.Proofs.YtlaihdipagejfaaR Go.Proofs.Ytlaihdipagejfaa.P Go.Proofs.YtlaihdipagejfaaW.PrintWords
attribute [local go_sem] Oper.semAt_some

theorem Rd.after {r : Nat} {ok : Nat → Prop} {W W1 : World} {l : List Int} {bad : Bool} {v v1 : Value} (h : Rd r (fun k => ok k ∧ some k ≠ v.ownBlock) W l bad) (hg : W.grownBy W1 v.ownBlock) (hr : some r ≠ v.ownBlock) (hat : v1.ownBlock = v.ownBlock ∨ ∃ b, v1.ownBlock = some b ∧ W.heap.size ≤ b) : Rd r (fun k => ok k ∧ some k ≠ v1.ownBlock) W1 l bad := by
  obtain ⟨A, c, h1, h2, h3⟩ := h
  exact ⟨A, c, blk_grown h1 hg hr, h2, Kd.F_after h3 hg hat⟩
def sliceLen : Value → Nat
  | .slice _ n _ => n
  | _ => 0
def parseL : Nat → Int → List S43 → List Int → Bool → Option (List S43 × List Int × Bool)
  | 0, _, out, b, bad => some (out, b, bad)
  | m + 1, n, out, b, bad => if 0 < n then (if bad = true then some (out, b, bad) else (opF b bad).bind fun t => parseL m (IntKind.u64.wrap (n - 1)) (out ++ [t.1]) t.2.1 t.2.2) else some (out, b, bad)
def batch_Parse.f (l0 : List Int) : Option (List S43 × Int) :=
  (nums_Take.f l0).bind fun t => (parseL 129 t.1 [] t.2.1 (!t.2.2)).bind fun u => if u.2.2 = true then some ([], 40) else if 0 < u.2.1.length then some ([], 40) else (batch_few.f u.1 128).bind fun q => if q = true then some (u.1, 0) else some ([], 40)

set_option maxRecDepth 100000 in
set_option maxHeartbeats 4000000 in
theorem batch_Parse.calls (A0 : Option Addr) (c0 : Nat) (l0 : List Int) (r1 : List S43) (r2 : Int) (w : World) (hr0 : Kd.C (Kd.int .u8) w A0 l0.length l0) (hc0 : l0.length ≤ c0) (h : batch_Parse.f l0 = some (r1, r2)) :
    Calls Try.prog 17 #[.slice A0 l0.length c0] w fun e w' => ∃ v0_ : Value, e = .returned (.tuple #[v0_, .int .i64 r2]) ∧ Kd.R k43 43 w' w.heap.size (fun _ => True) v0_ r1 ∧ Below w.heap.size w w' := by
  have HR0 := Aside0.mk (F_int hr0)
  have HC0 := Aside0.mk hc0
  unfold batch_Parse.f at h
  obtain ⟨⟨t1, t2, t3⟩, ht, h⟩ := Option.bind_eq_some_iff.1 h
  obtain ⟨⟨u1, u2, u3⟩, hu, h⟩ := Option.bind_eq_some_iff.1 h
  have HT := Aside0.mk ht
  have HU := Aside0.mk hu
  have H := Aside0.mk h
  clear ht hu h hr0 hc0
  have hu := Try.underlying77
  go_enter Try.func17, Try.ntmps17
  go_wp2_with fail
  have hH0 : (w.alloc (.cells #[.slice A0 l0.length c0, .bool false] 77)).heap[w.heap.size]? = some (.cells #[.slice A0 l0.length c0, .bool false] 77) := World.alloc_heap_new w _
  have hb0 : Below w.heap.size w (w.alloc (.cells #[.slice A0 l0.length c0, .bool false] 77)) := below_alloc (Below.refl _ _) _
  refine (taken_u64_calls w.heap.size l0 false (fun k => k < w.heap.size) (fun k hk => by omega) _ ⟨A0, c0, hH0, HC0.out, Kd.F_below HR0.out hb0⟩ t1 t2 t3 HT.out).mono ?_
  rintro e w1 ⟨rfl, hS1, hR1⟩
  have HB1 : Aside0 (Below w.heap.size w w1) := ⟨⟨hS1.os.trans hb0.os, hS1.tape.trans hb0.tape, hS1.output.trans hb0.output, Nat.le_trans hb0.size hS1.size, fun k hk => (hS1.block k (by have := hb0.size; omega) (by omega)).trans (hb0.block k hk)⟩⟩
  have HR1 : Aside0 (Rd w.heap.size (fun k => k ≠ w.heap.size) w1 t2 (!t3)) := ⟨hR1.mono (fun k hk => hk.elim (fun h => by omega) (fun h => by simp at h; omega))⟩
  have HG1 : Aside0 (w.heap.size < w1.heap.size) := ⟨hR1.lt⟩
  have HH0 := hR1.lt
  clear hS1 hR1 hb0 hH0 HH0 HT HR0 HC0
  go_wp2_with fail
  go_loopw [5, 6] (fun v5 v6 wr => ∃ (n : Int) (out : List S43) (b : List Int) (bad : Bool) (A : Option Addr) (c : Nat), v5 = .int .u64 n ∧ v6 = .slice A out.length c ∧ Aside0 (out.length ≤ 129 ∧ parseL (129 - out.length) n out b bad = some (u1, u2, u3)) ∧ Aside0 (Rd w.heap.size (fun k => k ≠ w.heap.size ∧ some k ≠ (.slice A out.length c : Value).ownBlock) wr b bad) ∧ Aside0 (Kd.R k43 43 wr w.heap.size (fun k => k ≠ w.heap.size) (.slice A out.length c) out) ∧ Aside0 (Below w.heap.size w wr)) (fun _ v6 _ => 130 - sliceLen v6)
  case atStart => exact ⟨t1, [], t2, !t3, none, 0, rfl, rfl, ⟨by simp, HU.out⟩, ⟨HR1.out.mono (fun k hk => ⟨hk, by simp [Value.ownBlock]⟩)⟩, ⟨Kd.R_nil _ _ _ _ _⟩, HB1⟩
  case round =>
    clear HB1 HR1 HG1 HU
    obtain ⟨n, out, b, bad, A, c, rfl, rfl, HP, HR, HO, HB⟩ := hrel
    have HHx := Aside0.mk HR.out.lt
    by_cases hn : 0 < n
    · cases bad with
      | false =>
        by_cases hl : out.length ≤ 128
        · have h1 := HP.out.2
          rw [show 129 - out.length = (128 - out.length) + 1 from by omega, parseL, if_pos hn, if_neg (by decide)] at h1
          obtain ⟨⟨o, b1, bad1⟩, ho, h1⟩ := Option.bind_eq_some_iff.1 h1
          have HO1 := Aside0.mk ho
          have H1 := Aside0.mk h1
          have HL := Aside0.mk hl
          obtain ⟨A5, c5, hb5, hl5, hF5⟩ := HR.out
          have hc1 : wr.cell? ⟨w.heap.size, 1, none⟩ = some (.bool false) := (blk_cell hb5 1).trans rfl
          have hn1 : decide (0 < n) = true := decide_eq_true hn
          have hl1 : decide ((out.length : Int) ≤ 128) = true := decide_eq_true (by omega)
          have hl2 : decide (out.length ≤ 128) = true := decide_eq_true hl
          clear h1 ho hb5 hl5 hF5 hn HP
          go_wp2_with (first | (go_at_call 50; refine (op_calls w.heap.size b false _ (fun k hk => hk.1) wr HR.out o b1 bad1 HO1.out).mono ?_; rintro e w2 ⟨rfl, hS2, hR2⟩; have HS2 := Aside0.mk hS2; have HR2 := Aside0.mk hR2; have hO2 := Kd.R_step HO.out (fun k hk hlt => hS2.block k hlt hk); have HO2 := Aside0.mk hO2; have hB2 : Below w.heap.size w w2 := HB.out.trans ⟨hS2.os, hS2.tape, hS2.output, hS2.size, fun k hk => hS2.block k (by have := HHx.out; omega) (by omega)⟩; have HB2 := Aside0.mk hB2; have HSZ2 : Aside0 (w.heap.size < w2.heap.size) := ⟨hR2.lt⟩; clear hS2 hR2 hc1 hO2 hB2) | ((with_reducible refine gate_builtin (b := .append) (xs := #[.tmp 28, .tmp 31]) rfl ?_); at_builtin; refine Kd.R_append k43 (w0 := w) w.heap.size rfl (.tmp 28) (.tmp 31) 22 43 (.agg #[(.int .u8 0), (.string ⟨#[]⟩), (.string ⟨#[]⟩)]) 40 rfl Try.underlying22 info43 rfl (by decide) (by omega) (.slice A out.length c) out o [.int .u8 o.f0, .string o.f1, .string o.f2] (fun k => k ≠ w.heap.size) (fun _ => False) rfl rfl ?aP (fun _ hk => hk.elim) ?aF HO2.out HB2.out (Nat.le_of_lt HSZ2.out) ?aL ?_; (case aP => exact k43_mkM _ _ _ o); (case aF => exact fun k hk => by have := HSZ2.out; omega); (case aL => have := HL.out; omega); intro v3 w3 hO3 hB3 hg3 hat3; obtain ⟨A3, c3, hv3, hl3, _⟩ := Kd.R_reads hO3; subst hv3; have HO3 := Aside0.mk hO3; have HB3 := Aside0.mk hB3; have HG3 := Aside0.mk hg3; have HA3 := Aside0.mk hat3; clear hO3 hB3 hg3 hat3 hl3))
          have hg : ∀ k, (.slice A out.length c : Value).ownBlock = some k → k < wr.heap.size := fun k hk => by obtain ⟨inner, ho⟩ := Kd.R_own HO.out; exact own_lt ho k hk
          have hr : some w.heap.size ≠ (.slice A out.length c : Value).ownBlock := fun e => HO.out.1 _ e.symm rfl
          have hR3 := Rd.after (ok := fun k => k ≠ w.heap.size) (HR2.out.mono (fun k hk => hk.elim (fun h => h) (fun h => ⟨by have := HHx.out; omega, fun e => by have := hg k e.symm; omega⟩))) HG3.out hr HA3.out
          refine ⟨⟨_, out ++ [o], b1, bad1, A3, c3, rfl, by rw [List.length_append]; rfl, ⟨by rw [List.length_append]; have := HL.out; simp; omega, ?_⟩, ⟨?_⟩, ⟨?_⟩, HB3⟩, by have := HL.out; simp only [sliceLen]; omega⟩
          · rw [List.length_append, show 129 - (out.length + [o].length) = 128 - out.length from by simp]; exact H1.out
          · simpa using hR3
          · simpa using HO3.out
        · have h1 := HP.out.2
          have hlen := HP.out.1
          rw [show 129 - out.length = 0 from by omega, parseL] at h1
          simp only [Option.some.injEq, Prod.mk.injEq] at h1
          obtain ⟨rfl, rfl, rfl⟩ := h1
          have hn1 : decide (0 < n) = true := decide_eq_true hn
          have hl1 : decide ((out.length : Int) ≤ 128) = false := decide_eq_false (by omega)
          have hl2 : decide (out.length ≤ 128) = false := decide_eq_false hl
          clear hlen hl hn
          obtain ⟨A5, c5, hb5, hl5, hF5⟩ := HR.out
          have hc0 : wr.cell? ⟨w.heap.size, 0, none⟩ = some (.slice A5 b.length c5) := (blk_cell hb5 0).trans rfl
          have hc1 : wr.cell? ⟨w.heap.size, 1, none⟩ = some (.bool false) := (blk_cell hb5 1).trans rfl
          have hx := H.out
          clear hb5 hl5 hF5 H HP
          rw [if_neg (by decide)] at hx
          by_cases hb : 0 < b.length
          · rw [if_pos hb] at hx
            simp only [Option.some.injEq, Prod.mk.injEq] at hx
            obtain ⟨rfl, rfl⟩ := hx
            have hb1 : decide (0 < (b.length : Int)) = true := decide_eq_true (by omega)
            have hb2 : decide (0 < b.length) = true := decide_eq_true hb
            clear hb
            go_wp2
            go_ret2
            exact ⟨_, rfl, Kd.R_nil _ _ _ _ _, HB.out⟩
          · rw [if_neg hb] at hx
            obtain ⟨q, hq, hx⟩ := Option.bind_eq_some_iff.1 hx
            have hb1 : decide (0 < (b.length : Int)) = false := decide_eq_false (by omega)
            have hb2 : decide (0 < b.length) = false := decide_eq_false hb
            clear hb
            have hrd := Kd.R_reads' HO.out
            have hcl := batch_few.calls A c out 128 q wr hrd.2.2 hrd.2.1 hq
            have HCL := Aside0.mk hcl
            clear hcl hrd hq
            cases q with
            | true =>
              rw [if_pos rfl] at hx
              simp only [Option.some.injEq, Prod.mk.injEq] at hx
              obtain ⟨rfl, rfl⟩ := hx
              go_wp2_with (go_at_call 45; refine HCL.out.mono ?_; rintro e w2 ⟨rfl, hd⟩; have HD := Aside0.mk hd; clear hd)
              go_ret2
              exact ⟨_, rfl, Kd.R_mono (Kd.R_below HO.out HD.out) (fun _ _ => trivial), below_then HB.out HB.out.size HD.out⟩
            | false =>
              rw [if_neg (by decide)] at hx
              simp only [Option.some.injEq, Prod.mk.injEq] at hx
              obtain ⟨rfl, rfl⟩ := hx
              go_wp2_with (go_at_call 45; refine HCL.out.mono ?_; rintro e w2 ⟨rfl, hd⟩; have HD := Aside0.mk hd; clear hd)
              go_ret2
              exact ⟨_, rfl, Kd.R_nil _ _ _ _ _, below_then HB.out HB.out.size HD.out⟩
      | true =>
        have h1 := HP.out.2
        have h2 : some (out, b, true) = some (u1, u2, u3) := by
          rw [← h1]
          generalize 129 - out.length = m
          cases m with
          | zero => rfl
          | succ m => rw [parseL, if_pos hn, if_pos rfl]
        clear h1
        simp only [Option.some.injEq, Prod.mk.injEq] at h2
        obtain ⟨rfl, rfl, rfl⟩ := h2
        have hn1 : decide (0 < n) = true := decide_eq_true hn
        clear hn
        obtain ⟨A5, c5, hb5, hl5, hF5⟩ := HR.out
        have hc0 : wr.cell? ⟨w.heap.size, 0, none⟩ = some (.slice A5 b.length c5) := (blk_cell hb5 0).trans rfl
        have hc1 : wr.cell? ⟨w.heap.size, 1, none⟩ = some (.bool true) := (blk_cell hb5 1).trans rfl
        have hx := H.out
        clear hb5 hl5 hF5 H HP
        rw [if_pos rfl] at hx
        simp only [Option.some.injEq, Prod.mk.injEq] at hx
        obtain ⟨rfl, rfl⟩ := hx
        go_wp2
        go_ret2
        exact ⟨_, rfl, Kd.R_nil _ _ _ _ _, HB.out⟩
    · have h1 := HP.out.2
      have h2 : some (out, b, bad) = some (u1, u2, u3) := by
        rw [← h1]
        generalize 129 - out.length = m
        cases m with
        | zero => rfl
        | succ m => rw [parseL, if_neg hn]
      clear h1
      simp only [Option.some.injEq, Prod.mk.injEq] at h2
      obtain ⟨rfl, rfl, rfl⟩ := h2
      have hn1 : decide (0 < n) = false := decide_eq_false hn
      clear hn
      obtain ⟨A5, c5, hb5, hl5, hF5⟩ := HR.out
      have hc0 : wr.cell? ⟨w.heap.size, 0, none⟩ = some (.slice A5 b.length c5) := (blk_cell hb5 0).trans rfl
      have hc1 : wr.cell? ⟨w.heap.size, 1, none⟩ = some (.bool bad) := (blk_cell hb5 1).trans rfl
      have hx := H.out
      clear hb5 hl5 hF5 H HP
      cases bad with
      | true =>
        rw [if_pos rfl] at hx
        simp only [Option.some.injEq, Prod.mk.injEq] at hx
        obtain ⟨rfl, rfl⟩ := hx
        go_wp2
        go_ret2
        exact ⟨_, rfl, Kd.R_nil _ _ _ _ _, HB.out⟩
      | false =>
        rw [if_neg (by decide)] at hx
        by_cases hb : 0 < b.length
        · rw [if_pos hb] at hx
          simp only [Option.some.injEq, Prod.mk.injEq] at hx
          obtain ⟨rfl, rfl⟩ := hx
          have hb1 : decide (0 < (b.length : Int)) = true := decide_eq_true (by omega)
          have hb2 : decide (0 < b.length) = true := decide_eq_true hb
          clear hb
          go_wp2
          go_ret2
          exact ⟨_, rfl, Kd.R_nil _ _ _ _ _, HB.out⟩
        · rw [if_neg hb] at hx
          obtain ⟨q, hq, hx⟩ := Option.bind_eq_some_iff.1 hx
          have hb1 : decide (0 < (b.length : Int)) = false := decide_eq_false (by omega)
          have hb2 : decide (0 < b.length) = false := decide_eq_false hb
          clear hb
          have hrd := Kd.R_reads' HO.out
          have hcl := batch_few.calls A c out 128 q wr hrd.2.2 hrd.2.1 hq
          have HCL := Aside0.mk hcl
          clear hcl hrd hq
          cases q with
          | true =>
            rw [if_pos rfl] at hx
            simp only [Option.some.injEq, Prod.mk.injEq] at hx
            obtain ⟨rfl, rfl⟩ := hx
            go_wp2_with (go_at_call 45; refine HCL.out.mono ?_; rintro e w2 ⟨rfl, hd⟩; have HD := Aside0.mk hd; clear hd)
            go_ret2
            exact ⟨_, rfl, Kd.R_mono (Kd.R_below HO.out HD.out) (fun _ _ => trivial), below_then HB.out HB.out.size HD.out⟩
          | false =>
            rw [if_neg (by decide)] at hx
            simp only [Option.some.injEq, Prod.mk.injEq] at hx
            obtain ⟨rfl, rfl⟩ := hx
            go_wp2_with (go_at_call 45; refine HCL.out.mono ?_; rintro e w2 ⟨rfl, hd⟩; have HD := Aside0.mk hd; clear hd)
            go_ret2
            exact ⟨_, rfl, Kd.R_nil _ _ _ _ _, below_then HB.out HB.out.size HD.out⟩
end Go.Proofs.YtlaihdipagejfaaG

end

section
namespace Go.Proofs.Ytlaihdipagejfaa.P
open Go.RowKit Go.Proofs.YtlaihdipagejfaaG Go.Proofs.YtlaihdipagejfaaW.PrintWords Go.Proofs.YtlaihdipagejfaaW.PrintLast Go.Proofs.YtlaihdipagejfaaW.PrintMore
attribute [local go_sem] str_gtr str_geq str_leq max2_int min2_int max_two min_two max_three min_three max_four min_four   -- for this text's walks alone
set_option linter.unusedVariables false
set_option linter.unusedSimpArgs false

def ratlinelaw04_awake.l0 : Nat → List (S43) → List Int → List Int → Int → List (S43) → Int → Int → Int → Int → Int → List (S43) → Int → Int → Option (Bool)
  | 0, _, _, _, _, _, _, _, _, _, _, _, _, _ => none
  | k + 1, x1, x2, x3, x4, x5, x6, x8, x10, x12, x14, x15, x59, x60 => if x60 < x59 then (if 0 < (x1.length : Int) then (if 0 ≤ x60 then (if x60 < (x15.length : Int) then (ratlinelaw04_awake.l0 k x1 x2 x3 x4 x5 x6 x8 x10 x12 x14 (x15.set (x60 : Int).toNat (⟨(rd_T43 x1 0).f0, (rd_T43 x1 0).f1, (rd_T43 x1 0).f2⟩ : S43)) x59 (wrap64 (x60 + 1))) else (none)) else (none)) else (none)) else ((batch_Bytes.f k x15).bind fun bt205 => ((batch_Entries.f k x1 7).bind fun t209 => (if (wrap64 (x4 + x6)) = 0 then ((ratlinelaw02_Same.f x3 x2).bind fun t212 => (if t212 = true then ((ratlinelaw04_Same.f k x5 x1).bind fun t213 => (if t213 = true then (if x8 = 40 then (if x10 = 40 then (if x12 = 40 then (if x14 = 40 then (if bt205.2 = 40 then ((ratlinelaw04_Entries.f k t209 (([(⟨(⟨(⟨#[97]⟩ : ByteArray), 7, 1⟩ : S39), (⟨#[120]⟩ : ByteArray)⟩ : S41), (⟨(⟨(⟨#[98]⟩ : ByteArray), 8, 0⟩ : S39), (⟨#[]⟩ : ByteArray)⟩ : S41)] : List (S41)))).bind fun t217 => (some t217)) else (none)) else (none)) else (none)) else (none)) else (none)) else (none))) else (none))) else (none))))
def ratlinelaw04_awake.f (k : Nat)  : Option (Bool) := (some (([(⟨1, (⟨#[97]⟩ : ByteArray), (⟨#[120]⟩ : ByteArray)⟩ : S43), (⟨0, (⟨#[98]⟩ : ByteArray), (⟨#[]⟩ : ByteArray)⟩ : S43)] : List (S43)) : List (S43))).bind fun y155 => ((some (([2, 1, 1, 97, 1, 120, 0, 1, 98] : List Int) : List Int)).bind fun y158 => ((batch_Bytes.f k y155).bind fun bt161 => ((batch_Parse.f y158).bind fun bt165 => ((some (([] : List Int) : List Int)).bind fun y169 => (if y169.length + y158.length < 140737488355328 then ((some (y169 ++ y158 : List Int)).bind fun y172 => (if y172.length < 140737488355328 then ((batch_Parse.f (y172 ++ [0])).bind fun bt178 => ((batch_Parse.f (([0] : List Int))).bind fun bt185 => ((batch_Parse.f (([1, 2, 1, 97] : List Int))).bind fun bt192 => ((batch_Bytes.f k ([] : List (S43))).bind fun bt196 => (if 129 ≤ 7036874417766 then ((some (List.replicate 129 z43 : List (S43))).bind fun y200 => (ratlinelaw04_awake.l0 k y155 y158 bt161.1 bt161.2 bt165.1 bt165.2 bt178.2 bt185.2 bt192.2 bt196.2 y200 (y200.length : Int) 0)) else (none)))))) else (none))) else (none))))))
set_option maxHeartbeats 8000000 in
set_option maxRecDepth 100000 in
theorem ratlinelaw04_awake.calls (k : Nat)  (r : Bool) (w : World) (h : ratlinelaw04_awake.f k  = some r) :
    Calls Try.prog 14 #[] w fun e w' => e = .returned (.bool r) ∧ Below w.heap.size w w' := by
  have hu43 := Try.underlying43
  have hu39 := Try.underlying39
  have hu41 := Try.underlying41
  have HB := Aside0.mk (Below.refl w.heap.size w)
  have H : ((some (([(⟨1, (⟨#[97]⟩ : ByteArray), (⟨#[120]⟩ : ByteArray)⟩ : S43), (⟨0, (⟨#[98]⟩ : ByteArray), (⟨#[]⟩ : ByteArray)⟩ : S43)] : List (S43)) : List (S43))).bind fun y155 => ((some (([2, 1, 1, 97, 1, 120, 0, 1, 98] : List Int) : List Int)).bind fun y158 => ((batch_Bytes.f k y155).bind fun bt161 => ((batch_Parse.f y158).bind fun bt165 => ((some (([] : List Int) : List Int)).bind fun y169 => (if y169.length + y158.length < 140737488355328 then ((some (y169 ++ y158 : List Int)).bind fun y172 => (if y172.length < 140737488355328 then ((batch_Parse.f (y172 ++ [0])).bind fun bt178 => ((batch_Parse.f (([0] : List Int))).bind fun bt185 => ((batch_Parse.f (([1, 2, 1, 97] : List Int))).bind fun bt192 => ((batch_Bytes.f k ([] : List (S43))).bind fun bt196 => (if 129 ≤ 7036874417766 then ((some (List.replicate 129 z43 : List (S43))).bind fun y200 => (ratlinelaw04_awake.l0 k y155 y158 bt161.1 bt161.2 bt165.1 bt165.2 bt178.2 bt185.2 bt192.2 bt196.2 y200 (y200.length : Int) 0)) else (none)))))) else (none))) else (none))))))) = some r := h
  clear h
  obtain ⟨y155, hy155⟩ : ∃ y_ : List (S43), y_ = (([(⟨1, (⟨#[97]⟩ : ByteArray), (⟨#[120]⟩ : ByteArray)⟩ : S43), (⟨0, (⟨#[98]⟩ : ByteArray), (⟨#[]⟩ : ByteArray)⟩ : S43)] : List (S43))) := ⟨_, rfl⟩
  replace H : ((some (([2, 1, 1, 97, 1, 120, 0, 1, 98] : List Int) : List Int)).bind fun y158 => ((batch_Bytes.f k y155).bind fun bt161 => ((batch_Parse.f y158).bind fun bt165 => ((some (([] : List Int) : List Int)).bind fun y169 => (if y169.length + y158.length < 140737488355328 then ((some (y169 ++ y158 : List Int)).bind fun y172 => (if y172.length < 140737488355328 then ((batch_Parse.f (y172 ++ [0])).bind fun bt178 => ((batch_Parse.f (([0] : List Int))).bind fun bt185 => ((batch_Parse.f (([1, 2, 1, 97] : List Int))).bind fun bt192 => ((batch_Bytes.f k ([] : List (S43))).bind fun bt196 => (if 129 ≤ 7036874417766 then ((some (List.replicate 129 z43 : List (S43))).bind fun y200 => (ratlinelaw04_awake.l0 k y155 y158 bt161.1 bt161.2 bt165.1 bt165.2 bt178.2 bt185.2 bt192.2 bt196.2 y200 (y200.length : Int) 0)) else (none)))))) else (none))) else (none)))))) = some r := by first | (rw [hy155]; with_reducible exact H) | (have H2_ := (Option.bind_some _ _).symm.trans H; rw [hy155]; with_reducible exact H2_) | (have H2_ := (Option.bind_some _ _).symm.trans H; with_reducible exact H2_) | with_reducible exact H | (rw [hy155]; exact H) | exact H
  have Ny155 := Aside0.mk hy155
  clear hy155
  obtain ⟨y158, hy158⟩ : ∃ y_ : List Int, y_ = (([2, 1, 1, 97, 1, 120, 0, 1, 98] : List Int)) := ⟨_, rfl⟩
  replace H : ((batch_Bytes.f k y155).bind fun bt161 => ((batch_Parse.f y158).bind fun bt165 => ((some (([] : List Int) : List Int)).bind fun y169 => (if y169.length + y158.length < 140737488355328 then ((some (y169 ++ y158 : List Int)).bind fun y172 => (if y172.length < 140737488355328 then ((batch_Parse.f (y172 ++ [0])).bind fun bt178 => ((batch_Parse.f (([0] : List Int))).bind fun bt185 => ((batch_Parse.f (([1, 2, 1, 97] : List Int))).bind fun bt192 => ((batch_Bytes.f k ([] : List (S43))).bind fun bt196 => (if 129 ≤ 7036874417766 then ((some (List.replicate 129 z43 : List (S43))).bind fun y200 => (ratlinelaw04_awake.l0 k y155 y158 bt161.1 bt161.2 bt165.1 bt165.2 bt178.2 bt185.2 bt192.2 bt196.2 y200 (y200.length : Int) 0)) else (none)))))) else (none))) else (none))))) = some r := by first | (rw [hy158]; with_reducible exact H) | (have H2_ := (Option.bind_some _ _).symm.trans H; rw [hy158]; with_reducible exact H2_) | (have H2_ := (Option.bind_some _ _).symm.trans H; with_reducible exact H2_) | with_reducible exact H | (rw [hy158]; exact H) | exact H
  have Ny158 := Aside0.mk hy158
  clear hy158
  replace H := Option.bind_eq_some_iff.mp H
  obtain ⟨⟨t161, t162⟩, A10, H⟩ := H
  replace H : ((batch_Parse.f y158).bind fun bt165 => ((some (([] : List Int) : List Int)).bind fun y169 => (if y169.length + y158.length < 140737488355328 then ((some (y169 ++ y158 : List Int)).bind fun y172 => (if y172.length < 140737488355328 then ((batch_Parse.f (y172 ++ [0])).bind fun bt178 => ((batch_Parse.f (([0] : List Int))).bind fun bt185 => ((batch_Parse.f (([1, 2, 1, 97] : List Int))).bind fun bt192 => ((batch_Bytes.f k ([] : List (S43))).bind fun bt196 => (if 129 ≤ 7036874417766 then ((some (List.replicate 129 z43 : List (S43))).bind fun y200 => (ratlinelaw04_awake.l0 k y155 y158 t161 t162 bt165.1 bt165.2 bt178.2 bt185.2 bt192.2 bt196.2 y200 (y200.length : Int) 0)) else (none)))))) else (none))) else (none)))) = some r := H
  have A1 := Aside0.mk A10
  clear A10
  replace H := Option.bind_eq_some_iff.mp H
  obtain ⟨⟨t165, t166⟩, A20, H⟩ := H
  replace H : ((some (([] : List Int) : List Int)).bind fun y169 => (if y169.length + y158.length < 140737488355328 then ((some (y169 ++ y158 : List Int)).bind fun y172 => (if y172.length < 140737488355328 then ((batch_Parse.f (y172 ++ [0])).bind fun bt178 => ((batch_Parse.f (([0] : List Int))).bind fun bt185 => ((batch_Parse.f (([1, 2, 1, 97] : List Int))).bind fun bt192 => ((batch_Bytes.f k ([] : List (S43))).bind fun bt196 => (if 129 ≤ 7036874417766 then ((some (List.replicate 129 z43 : List (S43))).bind fun y200 => (ratlinelaw04_awake.l0 k y155 y158 t161 t162 t165 t166 bt178.2 bt185.2 bt192.2 bt196.2 y200 (y200.length : Int) 0)) else (none)))))) else (none))) else (none))) = some r := H
  have A2 := Aside0.mk A20
  clear A20
  obtain ⟨y169, hy169⟩ : ∃ y_ : List Int, y_ = (([] : List Int)) := ⟨_, rfl⟩
  replace H : (if y169.length + y158.length < 140737488355328 then ((some (y169 ++ y158 : List Int)).bind fun y172 => (if y172.length < 140737488355328 then ((batch_Parse.f (y172 ++ [0])).bind fun bt178 => ((batch_Parse.f (([0] : List Int))).bind fun bt185 => ((batch_Parse.f (([1, 2, 1, 97] : List Int))).bind fun bt192 => ((batch_Bytes.f k ([] : List (S43))).bind fun bt196 => (if 129 ≤ 7036874417766 then ((some (List.replicate 129 z43 : List (S43))).bind fun y200 => (ratlinelaw04_awake.l0 k y155 y158 t161 t162 t165 t166 bt178.2 bt185.2 bt192.2 bt196.2 y200 (y200.length : Int) 0)) else (none)))))) else (none))) else (none)) = some r := by first | (rw [hy169]; with_reducible exact H) | (have H2_ := (Option.bind_some _ _).symm.trans H; rw [hy169]; with_reducible exact H2_) | (have H2_ := (Option.bind_some _ _).symm.trans H; with_reducible exact H2_) | with_reducible exact H | (rw [hy169]; exact H) | exact H
  have Ny169 := Aside0.mk hy169
  clear hy169
  by_cases c3 : y169.length + y158.length < 140737488355328
  · rw [if_pos c3] at H
    have LMc3 := Aside0.mk c3
    clear c3
    obtain ⟨y172, hy172⟩ : ∃ y_ : List Int, y_ = (y169 ++ y158) := ⟨_, rfl⟩
    replace H : (if y172.length < 140737488355328 then ((batch_Parse.f (y172 ++ [0])).bind fun bt178 => ((batch_Parse.f (([0] : List Int))).bind fun bt185 => ((batch_Parse.f (([1, 2, 1, 97] : List Int))).bind fun bt192 => ((batch_Bytes.f k ([] : List (S43))).bind fun bt196 => (if 129 ≤ 7036874417766 then ((some (List.replicate 129 z43 : List (S43))).bind fun y200 => (ratlinelaw04_awake.l0 k y155 y158 t161 t162 t165 t166 bt178.2 bt185.2 bt192.2 bt196.2 y200 (y200.length : Int) 0)) else (none)))))) else (none)) = some r := by first | (rw [hy172]; with_reducible exact H) | (have H2_ := (Option.bind_some _ _).symm.trans H; rw [hy172]; with_reducible exact H2_) | (have H2_ := (Option.bind_some _ _).symm.trans H; with_reducible exact H2_) | with_reducible exact H | (rw [hy172]; exact H) | exact H
    have Ny172 := Aside0.mk hy172
    clear hy172
    by_cases c4 : y172.length < 140737488355328
    · rw [if_pos c4] at H
      have LMc4 := Aside0.mk c4
      clear c4
      obtain ⟨y175, hy175⟩ : ∃ y_ : List Int, y_ = (y172 ++ [0]) := ⟨_, rfl⟩
      replace H : ((batch_Parse.f y175).bind fun bt178 => ((batch_Parse.f (([0] : List Int))).bind fun bt185 => ((batch_Parse.f (([1, 2, 1, 97] : List Int))).bind fun bt192 => ((batch_Bytes.f k ([] : List (S43))).bind fun bt196 => (if 129 ≤ 7036874417766 then ((some (List.replicate 129 z43 : List (S43))).bind fun y200 => (ratlinelaw04_awake.l0 k y155 y158 t161 t162 t165 t166 bt178.2 bt185.2 bt192.2 bt196.2 y200 (y200.length : Int) 0)) else (none)))))) = some r := by first | (rw [hy175]; with_reducible exact H) | (have H2_ := (Option.bind_some _ _).symm.trans H; rw [hy175]; with_reducible exact H2_) | (have H2_ := (Option.bind_some _ _).symm.trans H; with_reducible exact H2_) | with_reducible exact H | (rw [hy175]; exact H) | exact H
      have Ny175 := Aside0.mk hy175
      clear hy175
      replace H := Option.bind_eq_some_iff.mp H
      obtain ⟨⟨t178, t179⟩, A50, H⟩ := H
      replace H : ((batch_Parse.f (([0] : List Int))).bind fun bt185 => ((batch_Parse.f (([1, 2, 1, 97] : List Int))).bind fun bt192 => ((batch_Bytes.f k ([] : List (S43))).bind fun bt196 => (if 129 ≤ 7036874417766 then ((some (List.replicate 129 z43 : List (S43))).bind fun y200 => (ratlinelaw04_awake.l0 k y155 y158 t161 t162 t165 t166 t179 bt185.2 bt192.2 bt196.2 y200 (y200.length : Int) 0)) else (none))))) = some r := H
      have A5 := Aside0.mk A50
      clear A50
      obtain ⟨y182, hy182⟩ : ∃ y_ : List Int, y_ = (([0] : List Int)) := ⟨_, rfl⟩
      replace H : ((batch_Parse.f y182).bind fun bt185 => ((batch_Parse.f (([1, 2, 1, 97] : List Int))).bind fun bt192 => ((batch_Bytes.f k ([] : List (S43))).bind fun bt196 => (if 129 ≤ 7036874417766 then ((some (List.replicate 129 z43 : List (S43))).bind fun y200 => (ratlinelaw04_awake.l0 k y155 y158 t161 t162 t165 t166 t179 bt185.2 bt192.2 bt196.2 y200 (y200.length : Int) 0)) else (none))))) = some r := by first | (rw [hy182]; with_reducible exact H) | (have H2_ := (Option.bind_some _ _).symm.trans H; rw [hy182]; with_reducible exact H2_) | (have H2_ := (Option.bind_some _ _).symm.trans H; with_reducible exact H2_) | with_reducible exact H | (rw [hy182]; exact H) | exact H
      have Ny182 := Aside0.mk hy182
      clear hy182
      replace H := Option.bind_eq_some_iff.mp H
      obtain ⟨⟨t185, t186⟩, A60, H⟩ := H
      replace H : ((batch_Parse.f (([1, 2, 1, 97] : List Int))).bind fun bt192 => ((batch_Bytes.f k ([] : List (S43))).bind fun bt196 => (if 129 ≤ 7036874417766 then ((some (List.replicate 129 z43 : List (S43))).bind fun y200 => (ratlinelaw04_awake.l0 k y155 y158 t161 t162 t165 t166 t179 t186 bt192.2 bt196.2 y200 (y200.length : Int) 0)) else (none)))) = some r := H
      have A6 := Aside0.mk A60
      clear A60
      obtain ⟨y189, hy189⟩ : ∃ y_ : List Int, y_ = (([1, 2, 1, 97] : List Int)) := ⟨_, rfl⟩
      replace H : ((batch_Parse.f y189).bind fun bt192 => ((batch_Bytes.f k ([] : List (S43))).bind fun bt196 => (if 129 ≤ 7036874417766 then ((some (List.replicate 129 z43 : List (S43))).bind fun y200 => (ratlinelaw04_awake.l0 k y155 y158 t161 t162 t165 t166 t179 t186 bt192.2 bt196.2 y200 (y200.length : Int) 0)) else (none)))) = some r := by first | (rw [hy189]; with_reducible exact H) | (have H2_ := (Option.bind_some _ _).symm.trans H; rw [hy189]; with_reducible exact H2_) | (have H2_ := (Option.bind_some _ _).symm.trans H; with_reducible exact H2_) | with_reducible exact H | (rw [hy189]; exact H) | exact H
      have Ny189 := Aside0.mk hy189
      clear hy189
      replace H := Option.bind_eq_some_iff.mp H
      obtain ⟨⟨t192, t193⟩, A70, H⟩ := H
      replace H : ((batch_Bytes.f k ([] : List (S43))).bind fun bt196 => (if 129 ≤ 7036874417766 then ((some (List.replicate 129 z43 : List (S43))).bind fun y200 => (ratlinelaw04_awake.l0 k y155 y158 t161 t162 t165 t166 t179 t186 t193 bt196.2 y200 (y200.length : Int) 0)) else (none))) = some r := H
      have A7 := Aside0.mk A70
      clear A70
      replace H := Option.bind_eq_some_iff.mp H
      obtain ⟨⟨t196, t197⟩, A80, H⟩ := H
      replace H : (if 129 ≤ 7036874417766 then ((some (List.replicate 129 z43 : List (S43))).bind fun y200 => (ratlinelaw04_awake.l0 k y155 y158 t161 t162 t165 t166 t179 t186 t193 t197 y200 (y200.length : Int) 0)) else (none)) = some r := H
      have A8 := Aside0.mk A80
      clear A80
      by_cases c9 : 129 ≤ 7036874417766
      · rw [if_pos c9] at H
        have c9b0 := eq_true c9
        have c9b1 : decide (129 ≤ 7036874417766) = true := decide_eq_true c9
        clear c9
        obtain ⟨y200, hy200⟩ : ∃ y_ : List (S43), y_ = (List.replicate 129 z43) := ⟨_, rfl⟩
        replace H : (ratlinelaw04_awake.l0 k y155 y158 t161 t162 t165 t166 t179 t186 t193 t197 y200 (y200.length : Int) 0) = some r := by first | (rw [hy200]; with_reducible exact H) | (have H2_ := (Option.bind_some _ _).symm.trans H; rw [hy200]; with_reducible exact H2_) | (have H2_ := (Option.bind_some _ _).symm.trans H; with_reducible exact H2_) | with_reducible exact H | (rw [hy200]; exact H) | exact H
        have Ny200 := Aside0.mk hy200
        clear hy200
        have H' := Aside0.mk H
        clear H
        go_enter Try.func14, Try.ntmps14
        first
          | (go_upto_region 17 with (first | ((with_reducible refine gate_dst (N := 22) rfl ?_); (try (refine gate_guard (by rfl) ?_; dsimp only)); refine Kd.R_lit k43 _ 43 ?hg (N := 22) ?hd (xs := ([(⟨1, (⟨#[97]⟩ : ByteArray), (⟨#[120]⟩ : ByteArray)⟩ : S43), (⟨0, (⟨#[98]⟩ : ByteArray), (⟨#[]⟩ : ByteArray)⟩ : S43)] : List (S43))) (inner := [.int .u8 1, .string (⟨#[97]⟩ : ByteArray), .string (⟨#[120]⟩ : ByteArray), .int .u8 0, .string (⟨#[98]⟩ : ByteArray), .string (⟨#[]⟩ : ByteArray)]) (ok := fun _ => True) (okp := fun _ => True) ?hr ?hp (fun _ hk => hk) trivial (Below.refl _ _) (Nat.le_refl _) (by simp) ?_; (case hd => rfl); (case hg => rfl); (case hr => first | (go_simp; done) | (go_simp; rfl)); (case hp => exact (Reps.c3 (show Kd.M k43 _ _ _ (⟨1, (⟨#[97]⟩ : ByteArray), (⟨#[120]⟩ : ByteArray)⟩ : S43) [.int .u8 1, .string (⟨#[97]⟩ : ByteArray), .string (⟨#[120]⟩ : ByteArray)] from (k43_mkM _ _ _ (⟨1, (⟨#[97]⟩ : ByteArray), (⟨#[120]⟩ : ByteArray)⟩ : S43) )) (Reps.c3 (show Kd.M k43 _ _ _ (⟨0, (⟨#[98]⟩ : ByteArray), (⟨#[]⟩ : ByteArray)⟩ : S43) [.int .u8 0, .string (⟨#[98]⟩ : ByteArray), .string (⟨#[]⟩ : ByteArray)] from (k43_mkM _ _ _ (⟨0, (⟨#[98]⟩ : ByteArray), (⟨#[]⟩ : ByteArray)⟩ : S43) )) (Reps.none _ _)))); intro v156 w10 ho11 hb hg_ hnew_; clear hg_ hnew_; (first | rw [← Ny155.out] at ho11 | (simp only [Int.reduceToNat] at ho11; rw [← Ny155.out] at ho11)); have n0_ := Aside0.mk (Kd.R_lower ho11 (below_size (by repeat (first | (with_reducible first | exact HB.out | apply below_alloc | apply pw_below_drewN | apply below_drew1) | exact HB.out)))); have n1_ := Aside0.mk (below_step (by repeat (first | (with_reducible first | exact HB.out | apply below_alloc | apply pw_below_drewN | apply below_drew1) | exact HB.out)) hb); clear HB; have HO157 := n0_; have HB := n1_; clear n0_ n1_; clear hb ho11) | ((with_reducible refine gate_dst (N := 23) rfl ?_); (try (refine gate_guard (by rfl) ?_; dsimp only)); refine Kd.R_lit (Kd.int .u8) _ 5 ?hg (N := 23) ?hd (xs := ([2, 1, 1, 97, 1, 120, 0, 1, 98] : List Int)) (inner := [.int .u8 2, .int .u8 1, .int .u8 1, .int .u8 97, .int .u8 1, .int .u8 120, .int .u8 0, .int .u8 1, .int .u8 98]) (ok := fun _ => True) (okp := fun _ => True) ?hr ?hp (fun _ hk => hk) trivial (Below.refl _ _) (Nat.le_refl _) (by simp) ?_; (case hd => rfl); (case hg => rfl); (case hr => first | (go_simp; done) | (go_simp; rfl)); (case hp => exact (Reps.one (show Kd.M (Kd.int .u8) _ _ _ 2 [.int .u8 2] from rfl) (Reps.one (show Kd.M (Kd.int .u8) _ _ _ 1 [.int .u8 1] from rfl) (Reps.one (show Kd.M (Kd.int .u8) _ _ _ 1 [.int .u8 1] from rfl) (Reps.one (show Kd.M (Kd.int .u8) _ _ _ 97 [.int .u8 97] from rfl) (Reps.one (show Kd.M (Kd.int .u8) _ _ _ 1 [.int .u8 1] from rfl) (Reps.one (show Kd.M (Kd.int .u8) _ _ _ 120 [.int .u8 120] from rfl) (Reps.one (show Kd.M (Kd.int .u8) _ _ _ 0 [.int .u8 0] from rfl) (Reps.one (show Kd.M (Kd.int .u8) _ _ _ 1 [.int .u8 1] from rfl) (Reps.one (show Kd.M (Kd.int .u8) _ _ _ 98 [.int .u8 98] from rfl) (Reps.none _ _))))))))))); intro v159 w12 ho13 hb hg_ hnew_; clear hg_ hnew_; (first | rw [← Ny158.out] at ho13 | (simp only [Int.reduceToNat] at ho13; rw [← Ny158.out] at ho13)); have n0_ := Aside0.mk (Kd.R_below (by (with_reducible repeat (first | apply Kd.R_alloc | apply Kd.R_drewN | apply Kd.R_drew)); exact HO157.out) hb); have n1_ := Aside0.mk (Kd.R_lower ho13 (below_size (by repeat (first | (with_reducible first | exact HB.out | apply below_alloc | apply pw_below_drewN | apply below_drew1) | exact HB.out)))); have n2_ := Aside0.mk (below_step (by repeat (first | (with_reducible first | exact HB.out | apply below_alloc | apply pw_below_drewN | apply below_drew1) | exact HB.out)) hb); clear HO157; clear HB; have HO157 := n0_; have HO160 := n1_; have HB := n2_; clear n0_ n1_ n2_; clear hb ho13; obtain ⟨Ao14, co14, eo14⟩ := Kd.R_slice HO157.out; subst eo14) | ((with_reducible refine gate_callee (f := 15) rfl ?_); refine goesL_ (some 26) rfl rfl Try.func15 (by kernel_rfl) rfl #[.slice Ao14 y155.length co14] rfl (by (try simp only [List.map_toArray, List.map_cons, List.map_nil]); first | done | rfl | (simp only [List.length_drop, List.length_take]; rfl)) ?_; (with_reducible refine (batch_Bytes.calls k _ _ y155 t161 t162 _ ?side1 ?side2 A1.out).mono ?_); (case side1 => repeat (first | exact (Kd.R_reads' HO157.out).2.2 | (with_reducible refine Kd.C_alloc ?_ _) | (with_reducible refine Kd.C_drewN ?_ _) | (with_reducible refine Kd.C_drew ?_))); (case side2 => exact (Kd.R_reads' HO157.out).2.1); rintro e w15 ⟨v163, rfl, ho0, hb⟩; refine ⟨_, rfl, ?_⟩; have n0_ := Aside0.mk (Kd.R_below (by (with_reducible repeat (first | apply Kd.R_alloc | apply Kd.R_drewN | apply Kd.R_drew)); exact HO157.out) hb); have n1_ := Aside0.mk (Kd.R_elder' (by (with_reducible repeat (first | apply Kd.R_alloc | apply Kd.R_drewN | apply Kd.R_drew)); exact HO160.out) (Kd.R_base ho0) hb); have n2_ := Aside0.mk (Kd.R_lower (Kd.R_new' ho0 (Kd.R_lt (by (with_reducible repeat (first | apply Kd.R_alloc | apply Kd.R_drewN | apply Kd.R_drew)); exact HO160.out))) (below_size (by repeat (first | (with_reducible first | exact HB.out | apply below_alloc | apply pw_below_drewN | apply below_drew1) | exact HB.out)))); have n3_ := Aside0.mk (below_step (by repeat (first | (with_reducible first | exact HB.out | apply below_alloc | apply pw_below_drewN | apply below_drew1) | exact HB.out)) hb); clear HO157; clear HO160; clear HB; have HO157 := n0_; have HO160 := n1_; have HO164 := n2_; have HB := n3_; clear n0_ n1_ n2_ n3_; (try clear hb); (try clear hb2); (try clear hk); (try clear hi); (try clear ho0); obtain ⟨Ao16, co16, eo16⟩ := Kd.R_slice HO160.out; subst eo16) | ((with_reducible refine gate_callee (f := 17) rfl ?_); refine goesL_ (some 31) rfl rfl Try.func17 (by kernel_rfl) rfl #[.slice Ao16 y158.length co16] rfl (by (try simp only [List.map_toArray, List.map_cons, List.map_nil]); first | done | rfl | (simp only [List.length_drop, List.length_take]; rfl)) ?_; (with_reducible refine (batch_Parse.calls _ _ y158 t165 t166 _ ?side1 ?side2 A2.out).mono ?_); (case side1 => repeat (first | exact (Kd.R_reads' HO160.out).2.2 | (with_reducible refine Kd.C_alloc ?_ _) | (with_reducible refine Kd.C_drewN ?_ _) | (with_reducible refine Kd.C_drew ?_))); (case side2 => exact (Kd.R_reads' HO160.out).2.1); rintro e w17 ⟨v167, rfl, ho0, hb⟩; refine ⟨_, rfl, ?_⟩; have n0_ := Aside0.mk (Kd.R_elder' (by (with_reducible repeat (first | apply Kd.R_alloc | apply Kd.R_drewN | apply Kd.R_drew)); exact HO157.out) (Kd.R_base ho0) hb); have n1_ := Aside0.mk (Kd.R_below (by (with_reducible repeat (first | apply Kd.R_alloc | apply Kd.R_drewN | apply Kd.R_drew)); exact HO160.out) hb); have n2_ := Aside0.mk (Kd.R_below (by (with_reducible repeat (first | apply Kd.R_alloc | apply Kd.R_drewN | apply Kd.R_drew)); exact HO164.out) hb); have n3_ := Aside0.mk (Kd.R_lower (Kd.R_new' ho0 (Kd.R_lt (by (with_reducible repeat (first | apply Kd.R_alloc | apply Kd.R_drewN | apply Kd.R_drew)); exact HO157.out))) (below_size (by repeat (first | (with_reducible first | exact HB.out | apply below_alloc | apply pw_below_drewN | apply below_drew1) | exact HB.out)))); have n4_ := Aside0.mk (below_step (by repeat (first | (with_reducible first | exact HB.out | apply below_alloc | apply pw_below_drewN | apply below_drew1) | exact HB.out)) hb); clear HO157; clear HO160; clear HO164; clear HB; have HO157 := n0_; have HO160 := n1_; have HO164 := n2_; have HO168 := n3_; have HB := n4_; clear n0_ n1_ n2_ n3_ n4_; (try clear hb); (try clear hb2); (try clear hk); (try clear hi); (try clear ho0)) | ((with_reducible refine gate_dst (N := 35) rfl ?_); (try (refine gate_guard (by rfl) ?_; dsimp only)); refine Kd.R_lit (Kd.int .u8) _ 5 ?hg (N := 35) ?hd (xs := ([] : List Int)) (inner := []) (ok := fun _ => True) (okp := fun _ => True) ?hr ?hp (fun _ hk => hk) trivial (Below.refl _ _) (Nat.le_refl _) (by simp) ?_; (case hd => rfl); (case hg => rfl); (case hr => first | (go_simp; done) | (go_simp; rfl)); (case hp => exact (Reps.none _ _)); intro v170 w18 ho19 hb hg_ hnew_; clear hg_ hnew_; (first | rw [← Ny169.out] at ho19 | (simp only [Int.reduceToNat] at ho19; rw [← Ny169.out] at ho19)); have n0_ := Aside0.mk (Kd.R_below (by (with_reducible repeat (first | apply Kd.R_alloc | apply Kd.R_drewN | apply Kd.R_drew)); exact HO157.out) hb); have n1_ := Aside0.mk (Kd.R_elder' (by (with_reducible repeat (first | apply Kd.R_alloc | apply Kd.R_drewN | apply Kd.R_drew)); exact HO160.out) (Kd.R_base ho19) hb); have n2_ := Aside0.mk (Kd.R_elder' (by (with_reducible repeat (first | apply Kd.R_alloc | apply Kd.R_drewN | apply Kd.R_drew)); exact HO164.out) (Kd.R_base ho19) hb); have n3_ := Aside0.mk (Kd.R_below (by (with_reducible repeat (first | apply Kd.R_alloc | apply Kd.R_drewN | apply Kd.R_drew)); exact HO168.out) hb); have n4_ := Aside0.mk (Kd.R_lower (Kd.R_new' (Kd.R_new' ho19 (Kd.R_lt (by (with_reducible repeat (first | apply Kd.R_alloc | apply Kd.R_drewN | apply Kd.R_drew)); exact HO160.out))) (Kd.R_lt (by (with_reducible repeat (first | apply Kd.R_alloc | apply Kd.R_drewN | apply Kd.R_drew)); exact HO164.out))) (below_size (by repeat (first | (with_reducible first | exact HB.out | apply below_alloc | apply pw_below_drewN | apply below_drew1) | exact HB.out)))); have n5_ := Aside0.mk (below_step (by repeat (first | (with_reducible first | exact HB.out | apply below_alloc | apply pw_below_drewN | apply below_drew1) | exact HB.out)) hb); clear HO157; clear HO160; clear HO164; clear HO168; clear HB; have HO157 := n0_; have HO160 := n1_; have HO164 := n2_; have HO168 := n3_; have HO171 := n4_; have HB := n5_; clear n0_ n1_ n2_ n3_ n4_ n5_; clear hb ho19) | ((with_reducible refine gate_builtin (b := .append) (xs := #[.tmp 35, .tmp 36]) rfl ?_); (try (refine gate_guard (by rfl) ?_; dsimp only)); at_builtin; refine Kd.R_append_rows (Kd.int .u8) (w0 := w) w.heap.size rfl (.tmp 35) (.tmp 36) 23 5 (.int .u8 0) 1 rfl Try.underlying23 info5 rfl (by decide) (by omega) v170 y169 y158 _ _ _ (fun k_ => some k_ ≠ (.slice Ao16 y158.length co16 : Value).ownBlock ∧ some k_ ≠ (v163 : Value).ownBlock) (fun _ => False) rfl rfl ?aO ?aR (fun _ _ h => h) (fun _ h => h.elim) ?aF ?aB ?aS ?aL ?_; (case aR => repeat (first | exact (Kd.R_reads' HO160.out).2.2 | (with_reducible refine Kd.C_alloc ?_ _) | (with_reducible refine Kd.C_drewN ?_ _) | (with_reducible refine Kd.C_drew ?_))); (case aB => exact (by repeat (first | (with_reducible first | exact HB.out | apply below_alloc | apply pw_below_drewN | apply below_drew1) | exact HB.out))); (case aF => exact (fun k_ hk => ⟨Kd.fresh' (Kd.R_lt (by (with_reducible repeat (first | apply Kd.R_alloc | apply Kd.R_drewN | apply Kd.R_drew)); exact HO160.out)) k_ hk, Kd.fresh' (Kd.R_lt (by (with_reducible repeat (first | apply Kd.R_alloc | apply Kd.R_drewN | apply Kd.R_drew)); exact HO164.out)) k_ hk⟩)); (case aO => exact (by (with_reducible repeat (first | apply Kd.R_alloc | apply Kd.R_drewN | apply Kd.R_drew)); exact Kd.R_mono HO171.out (fun _ hk => ⟨hk.1.2, hk.2⟩))); (case aS => exact (below_size (by repeat (first | (with_reducible first | exact HB.out | apply below_alloc | apply pw_below_drewN | apply below_drew1) | exact HB.out)))); (case aL => have := LMc3.out; omega); intro v173 w20 ho hb hg hat; rw [← Ny172.out] at ho; have n0_ := Aside0.mk (Kd.R_over' (by (with_reducible repeat (first | apply Kd.R_alloc | apply Kd.R_drewN | apply Kd.R_drew)); exact HO157.out) (Kd.R_typed (by (with_reducible repeat (first | apply Kd.R_alloc | apply Kd.R_drewN | apply Kd.R_drew)); exact HO171.out)) (by decide) hg); have n1_ := Aside0.mk (Kd.R_after (ok := (fun k_ => some k_ ≠ (v163 : Value).ownBlock)) (by (with_reducible repeat (first | apply Kd.R_alloc | apply Kd.R_drewN | apply Kd.R_drew)); exact Kd.R_mono HO160.out (fun _ hk => ⟨hk.1.2, hk.2⟩)) hg hat); have n2_ := Aside0.mk (Kd.R_after (ok := (fun k_ => some k_ ≠ (.slice Ao16 y158.length co16 : Value).ownBlock)) (by (with_reducible repeat (first | apply Kd.R_alloc | apply Kd.R_drewN | apply Kd.R_drew)); exact Kd.R_mono HO164.out (fun _ hk => ⟨hk.1.2, hk.2⟩)) hg hat); have n3_ := Aside0.mk (Kd.R_over' (by (with_reducible repeat (first | apply Kd.R_alloc | apply Kd.R_drewN | apply Kd.R_drew)); exact HO168.out) (Kd.R_typed (by (with_reducible repeat (first | apply Kd.R_alloc | apply Kd.R_drewN | apply Kd.R_drew)); exact HO171.out)) (by decide) hg); have n4_ := Aside0.mk (hb); have n5_ := Aside0.mk (ho); clear HO157; clear HO160; clear HO164; clear HO168; clear HB; clear HO171; have HO157 := n0_; have HO160 := n1_; have HO164 := n2_; have HO168 := n3_; have HB := n4_; have HO174 := n5_; clear n0_ n1_ n2_ n3_ n4_ n5_; clear ho hb hg hat) | ((with_reducible refine gate_builtin (b := .append) (xs := #[.tmp 37, .tmp 38]) rfl ?_); (try (refine gate_guard (by rfl) ?_; dsimp only)); at_builtin; refine Kd.R_append (Kd.int .u8) (w0 := w) w.heap.size rfl (.tmp 37) (.tmp 38) 23 5 (.int .u8 0) 1 rfl Try.underlying23 info5 rfl (by decide) (by omega) v173 y172 0 [.int .u8 0] (fun k_ => some k_ ≠ (.slice Ao16 y158.length co16 : Value).ownBlock ∧ some k_ ≠ (v163 : Value).ownBlock) (fun _ => False) rfl rfl ?aP (fun _ hk => hk.elim) ?aF ?aO ?aB ?aS ?aL ?_; (case aP => exact rfl); (case aB => exact (by repeat (first | (with_reducible first | exact HB.out | apply below_alloc | apply pw_below_drewN | apply below_drew1) | exact HB.out))); (case aF => exact (fun k_ hk => ⟨Kd.fresh' (Kd.R_lt (by (with_reducible repeat (first | apply Kd.R_alloc | apply Kd.R_drewN | apply Kd.R_drew)); exact HO160.out)) k_ hk, Kd.fresh' (Kd.R_lt (by (with_reducible repeat (first | apply Kd.R_alloc | apply Kd.R_drewN | apply Kd.R_drew)); exact HO164.out)) k_ hk⟩)); (case aO => exact (by (with_reducible repeat (first | apply Kd.R_alloc | apply Kd.R_drewN | apply Kd.R_drew)); exact HO174.out)); (case aS => exact (below_size (by repeat (first | (with_reducible first | exact HB.out | apply below_alloc | apply pw_below_drewN | apply below_drew1) | exact HB.out)))); (case aL => have := LMc4.out; omega); intro v176 w21 ho hb hg hat; rw [← Ny175.out] at ho; have n0_ := Aside0.mk (Kd.R_over' (by (with_reducible repeat (first | apply Kd.R_alloc | apply Kd.R_drewN | apply Kd.R_drew)); exact HO157.out) (Kd.R_typed (by (with_reducible repeat (first | apply Kd.R_alloc | apply Kd.R_drewN | apply Kd.R_drew)); exact HO174.out)) (by decide) hg); have n1_ := Aside0.mk (Kd.R_after (ok := (fun k_ => some k_ ≠ (v163 : Value).ownBlock)) (by (with_reducible repeat (first | apply Kd.R_alloc | apply Kd.R_drewN | apply Kd.R_drew)); exact HO160.out) hg hat); have n2_ := Aside0.mk (Kd.R_after (ok := (fun k_ => some k_ ≠ (.slice Ao16 y158.length co16 : Value).ownBlock)) (by (with_reducible repeat (first | apply Kd.R_alloc | apply Kd.R_drewN | apply Kd.R_drew)); exact HO164.out) hg hat); have n3_ := Aside0.mk (Kd.R_over' (by (with_reducible repeat (first | apply Kd.R_alloc | apply Kd.R_drewN | apply Kd.R_drew)); exact HO168.out) (Kd.R_typed (by (with_reducible repeat (first | apply Kd.R_alloc | apply Kd.R_drewN | apply Kd.R_drew)); exact HO174.out)) (by decide) hg); have n4_ := Aside0.mk (hb); have n5_ := Aside0.mk (ho); clear HO157; clear HO160; clear HO164; clear HO168; clear HB; clear HO174; have HO157 := n0_; have HO160 := n1_; have HO164 := n2_; have HO168 := n3_; have HB := n4_; have HO177 := n5_; clear n0_ n1_ n2_ n3_ n4_ n5_; clear ho hb hg hat; obtain ⟨Ao22, co22, eo22⟩ := Kd.R_slice HO177.out; subst eo22) | ((with_reducible refine gate_callee (f := 17) rfl ?_); refine goesL_ (some 40) rfl rfl Try.func17 (by kernel_rfl) rfl #[.slice Ao22 y175.length co22] rfl (by (try simp only [List.map_toArray, List.map_cons, List.map_nil]); first | done | rfl | (simp only [List.length_drop, List.length_take]; rfl)) ?_; (with_reducible refine (batch_Parse.calls _ _ y175 t178 t179 _ ?side1 ?side2 A5.out).mono ?_); (case side1 => repeat (first | exact (Kd.R_reads' HO177.out).2.2 | (with_reducible refine Kd.C_alloc ?_ _) | (with_reducible refine Kd.C_drewN ?_ _) | (with_reducible refine Kd.C_drew ?_))); (case side2 => exact (Kd.R_reads' HO177.out).2.1); rintro e w23 ⟨v180, rfl, ho0, hb⟩; refine ⟨_, rfl, ?_⟩; have n0_ := Aside0.mk (Kd.R_elder' (by (with_reducible repeat (first | apply Kd.R_alloc | apply Kd.R_drewN | apply Kd.R_drew)); exact HO157.out) (Kd.R_base ho0) hb); have n1_ := Aside0.mk (Kd.R_below (by (with_reducible repeat (first | apply Kd.R_alloc | apply Kd.R_drewN | apply Kd.R_drew)); exact HO160.out) hb); have n2_ := Aside0.mk (Kd.R_below (by (with_reducible repeat (first | apply Kd.R_alloc | apply Kd.R_drewN | apply Kd.R_drew)); exact HO164.out) hb); have n3_ := Aside0.mk (Kd.R_elder' (by (with_reducible repeat (first | apply Kd.R_alloc | apply Kd.R_drewN | apply Kd.R_drew)); exact HO168.out) (Kd.R_base ho0) hb); have n4_ := Aside0.mk (Kd.R_below (by (with_reducible repeat (first | apply Kd.R_alloc | apply Kd.R_drewN | apply Kd.R_drew)); exact HO177.out) hb); have n5_ := Aside0.mk (Kd.R_lower (Kd.R_new' (Kd.R_new' ho0 (Kd.R_lt (by (with_reducible repeat (first | apply Kd.R_alloc | apply Kd.R_drewN | apply Kd.R_drew)); exact HO157.out))) (Kd.R_lt (by (with_reducible repeat (first | apply Kd.R_alloc | apply Kd.R_drewN | apply Kd.R_drew)); exact HO168.out))) (below_size (by repeat (first | (with_reducible first | exact HB.out | apply below_alloc | apply pw_below_drewN | apply below_drew1) | exact HB.out)))); have n6_ := Aside0.mk (below_step (by repeat (first | (with_reducible first | exact HB.out | apply below_alloc | apply pw_below_drewN | apply below_drew1) | exact HB.out)) hb); clear HO157; clear HO160; clear HO164; clear HO168; clear HO177; clear HB; have HO157 := n0_; have HO160 := n1_; have HO164 := n2_; have HO168 := n3_; have HO177 := n4_; have HO181 := n5_; have HB := n6_; clear n0_ n1_ n2_ n3_ n4_ n5_ n6_; (try clear hb); (try clear hb2); (try clear hk); (try clear hi); (try clear ho0)) | ((with_reducible refine gate_dst (N := 44) rfl ?_); (try (refine gate_guard (by rfl) ?_; dsimp only)); refine Kd.R_lit (Kd.int .u8) _ 5 ?hg (N := 44) ?hd (xs := ([0] : List Int)) (inner := [.int .u8 0]) (ok := fun _ => True) (okp := fun _ => True) ?hr ?hp (fun _ hk => hk) trivial (Below.refl _ _) (Nat.le_refl _) (by simp) ?_; (case hd => rfl); (case hg => rfl); (case hr => first | (go_simp; done) | (go_simp; rfl)); (case hp => exact (Reps.one (show Kd.M (Kd.int .u8) _ _ _ 0 [.int .u8 0] from rfl) (Reps.none _ _))); intro v183 w24 ho25 hb hg_ hnew_; clear hg_ hnew_; (first | rw [← Ny182.out] at ho25 | (simp only [Int.reduceToNat] at ho25; rw [← Ny182.out] at ho25)); have n0_ := Aside0.mk (Kd.R_below (by (with_reducible repeat (first | apply Kd.R_alloc | apply Kd.R_drewN | apply Kd.R_drew)); exact HO157.out) hb); have n1_ := Aside0.mk (Kd.R_elder' (by (with_reducible repeat (first | apply Kd.R_alloc | apply Kd.R_drewN | apply Kd.R_drew)); exact HO160.out) (Kd.R_base ho25) hb); have n2_ := Aside0.mk (Kd.R_elder' (by (with_reducible repeat (first | apply Kd.R_alloc | apply Kd.R_drewN | apply Kd.R_drew)); exact HO164.out) (Kd.R_base ho25) hb); have n3_ := Aside0.mk (Kd.R_below (by (with_reducible repeat (first | apply Kd.R_alloc | apply Kd.R_drewN | apply Kd.R_drew)); exact HO168.out) hb); have n4_ := Aside0.mk (Kd.R_elder' (by (with_reducible repeat (first | apply Kd.R_alloc | apply Kd.R_drewN | apply Kd.R_drew)); exact HO177.out) (Kd.R_base ho25) hb); have n5_ := Aside0.mk (Kd.R_below (by (with_reducible repeat (first | apply Kd.R_alloc | apply Kd.R_drewN | apply Kd.R_drew)); exact HO181.out) hb); have n6_ := Aside0.mk (Kd.R_lower (Kd.R_new' (Kd.R_new' (Kd.R_new' ho25 (Kd.R_lt (by (with_reducible repeat (first | apply Kd.R_alloc | apply Kd.R_drewN | apply Kd.R_drew)); exact HO160.out))) (Kd.R_lt (by (with_reducible repeat (first | apply Kd.R_alloc | apply Kd.R_drewN | apply Kd.R_drew)); exact HO164.out))) (Kd.R_lt (by (with_reducible repeat (first | apply Kd.R_alloc | apply Kd.R_drewN | apply Kd.R_drew)); exact HO177.out))) (below_size (by repeat (first | (with_reducible first | exact HB.out | apply below_alloc | apply pw_below_drewN | apply below_drew1) | exact HB.out)))); have n7_ := Aside0.mk (below_step (by repeat (first | (with_reducible first | exact HB.out | apply below_alloc | apply pw_below_drewN | apply below_drew1) | exact HB.out)) hb); clear HO157; clear HO160; clear HO164; clear HO168; clear HO177; clear HO181; clear HB; have HO157 := n0_; have HO160 := n1_; have HO164 := n2_; have HO168 := n3_; have HO177 := n4_; have HO181 := n5_; have HO184 := n6_; have HB := n7_; clear n0_ n1_ n2_ n3_ n4_ n5_ n6_ n7_; clear hb ho25; obtain ⟨Ao26, co26, eo26⟩ := Kd.R_slice HO184.out; subst eo26) | ((with_reducible refine gate_callee (f := 17) rfl ?_); refine goesL_ (some 45) rfl rfl Try.func17 (by kernel_rfl) rfl #[.slice Ao26 y182.length co26] rfl (by (try simp only [List.map_toArray, List.map_cons, List.map_nil]); first | done | rfl | (simp only [List.length_drop, List.length_take]; rfl)) ?_; (with_reducible refine (batch_Parse.calls _ _ y182 t185 t186 _ ?side1 ?side2 A6.out).mono ?_); (case side1 => repeat (first | exact (Kd.R_reads' HO184.out).2.2 | (with_reducible refine Kd.C_alloc ?_ _) | (with_reducible refine Kd.C_drewN ?_ _) | (with_reducible refine Kd.C_drew ?_))); (case side2 => exact (Kd.R_reads' HO184.out).2.1); rintro e w27 ⟨v187, rfl, ho0, hb⟩; refine ⟨_, rfl, ?_⟩; have n0_ := Aside0.mk (Kd.R_elder' (by (with_reducible repeat (first | apply Kd.R_alloc | apply Kd.R_drewN | apply Kd.R_drew)); exact HO157.out) (Kd.R_base ho0) hb); have n1_ := Aside0.mk (Kd.R_below (by (with_reducible repeat (first | apply Kd.R_alloc | apply Kd.R_drewN | apply Kd.R_drew)); exact HO160.out) hb); have n2_ := Aside0.mk (Kd.R_below (by (with_reducible repeat (first | apply Kd.R_alloc | apply Kd.R_drewN | apply Kd.R_drew)); exact HO164.out) hb); have n3_ := Aside0.mk (Kd.R_elder' (by (with_reducible repeat (first | apply Kd.R_alloc | apply Kd.R_drewN | apply Kd.R_drew)); exact HO168.out) (Kd.R_base ho0) hb); have n4_ := Aside0.mk (Kd.R_below (by (with_reducible repeat (first | apply Kd.R_alloc | apply Kd.R_drewN | apply Kd.R_drew)); exact HO177.out) hb); have n5_ := Aside0.mk (Kd.R_elder' (by (with_reducible repeat (first | apply Kd.R_alloc | apply Kd.R_drewN | apply Kd.R_drew)); exact HO181.out) (Kd.R_base ho0) hb); have n6_ := Aside0.mk (Kd.R_below (by (with_reducible repeat (first | apply Kd.R_alloc | apply Kd.R_drewN | apply Kd.R_drew)); exact HO184.out) hb); have n7_ := Aside0.mk (Kd.R_lower (Kd.R_new' (Kd.R_new' (Kd.R_new' ho0 (Kd.R_lt (by (with_reducible repeat (first | apply Kd.R_alloc | apply Kd.R_drewN | apply Kd.R_drew)); exact HO157.out))) (Kd.R_lt (by (with_reducible repeat (first | apply Kd.R_alloc | apply Kd.R_drewN | apply Kd.R_drew)); exact HO168.out))) (Kd.R_lt (by (with_reducible repeat (first | apply Kd.R_alloc | apply Kd.R_drewN | apply Kd.R_drew)); exact HO181.out))) (below_size (by repeat (first | (with_reducible first | exact HB.out | apply below_alloc | apply pw_below_drewN | apply below_drew1) | exact HB.out)))); have n8_ := Aside0.mk (below_step (by repeat (first | (with_reducible first | exact HB.out | apply below_alloc | apply pw_below_drewN | apply below_drew1) | exact HB.out)) hb); clear HO157; clear HO160; clear HO164; clear HO168; clear HO177; clear HO181; clear HO184; clear HB; have HO157 := n0_; have HO160 := n1_; have HO164 := n2_; have HO168 := n3_; have HO177 := n4_; have HO181 := n5_; have HO184 := n6_; have HO188 := n7_; have HB := n8_; clear n0_ n1_ n2_ n3_ n4_ n5_ n6_ n7_ n8_; (try clear hb); (try clear hb2); (try clear hk); (try clear hi); (try clear ho0)) | ((with_reducible refine gate_dst (N := 49) rfl ?_); (try (refine gate_guard (by rfl) ?_; dsimp only)); refine Kd.R_lit (Kd.int .u8) _ 5 ?hg (N := 49) ?hd (xs := ([1, 2, 1, 97] : List Int)) (inner := [.int .u8 1, .int .u8 2, .int .u8 1, .int .u8 97]) (ok := fun _ => True) (okp := fun _ => True) ?hr ?hp (fun _ hk => hk) trivial (Below.refl _ _) (Nat.le_refl _) (by simp) ?_; (case hd => rfl); (case hg => rfl); (case hr => first | (go_simp; done) | (go_simp; rfl)); (case hp => exact (Reps.one (show Kd.M (Kd.int .u8) _ _ _ 1 [.int .u8 1] from rfl) (Reps.one (show Kd.M (Kd.int .u8) _ _ _ 2 [.int .u8 2] from rfl) (Reps.one (show Kd.M (Kd.int .u8) _ _ _ 1 [.int .u8 1] from rfl) (Reps.one (show Kd.M (Kd.int .u8) _ _ _ 97 [.int .u8 97] from rfl) (Reps.none _ _)))))); intro v190 w28 ho29 hb hg_ hnew_; clear hg_ hnew_; (first | rw [← Ny189.out] at ho29 | (simp only [Int.reduceToNat] at ho29; rw [← Ny189.out] at ho29)); have n0_ := Aside0.mk (Kd.R_below (by (with_reducible repeat (first | apply Kd.R_alloc | apply Kd.R_drewN | apply Kd.R_drew)); exact HO157.out) hb); have n1_ := Aside0.mk (Kd.R_elder' (by (with_reducible repeat (first | apply Kd.R_alloc | apply Kd.R_drewN | apply Kd.R_drew)); exact HO160.out) (Kd.R_base ho29) hb); have n2_ := Aside0.mk (Kd.R_elder' (by (with_reducible repeat (first | apply Kd.R_alloc | apply Kd.R_drewN | apply Kd.R_drew)); exact HO164.out) (Kd.R_base ho29) hb); have n3_ := Aside0.mk (Kd.R_below (by (with_reducible repeat (first | apply Kd.R_alloc | apply Kd.R_drewN | apply Kd.R_drew)); exact HO168.out) hb); have n4_ := Aside0.mk (Kd.R_elder' (by (with_reducible repeat (first | apply Kd.R_alloc | apply Kd.R_drewN | apply Kd.R_drew)); exact HO177.out) (Kd.R_base ho29) hb); have n5_ := Aside0.mk (Kd.R_below (by (with_reducible repeat (first | apply Kd.R_alloc | apply Kd.R_drewN | apply Kd.R_drew)); exact HO181.out) hb); have n6_ := Aside0.mk (Kd.R_elder' (by (with_reducible repeat (first | apply Kd.R_alloc | apply Kd.R_drewN | apply Kd.R_drew)); exact HO184.out) (Kd.R_base ho29) hb); have n7_ := Aside0.mk (Kd.R_below (by (with_reducible repeat (first | apply Kd.R_alloc | apply Kd.R_drewN | apply Kd.R_drew)); exact HO188.out) hb); have n8_ := Aside0.mk (Kd.R_lower (Kd.R_new' (Kd.R_new' (Kd.R_new' (Kd.R_new' ho29 (Kd.R_lt (by (with_reducible repeat (first | apply Kd.R_alloc | apply Kd.R_drewN | apply Kd.R_drew)); exact HO160.out))) (Kd.R_lt (by (with_reducible repeat (first | apply Kd.R_alloc | apply Kd.R_drewN | apply Kd.R_drew)); exact HO164.out))) (Kd.R_lt (by (with_reducible repeat (first | apply Kd.R_alloc | apply Kd.R_drewN | apply Kd.R_drew)); exact HO177.out))) (Kd.R_lt (by (with_reducible repeat (first | apply Kd.R_alloc | apply Kd.R_drewN | apply Kd.R_drew)); exact HO184.out))) (below_size (by repeat (first | (with_reducible first | exact HB.out | apply below_alloc | apply pw_below_drewN | apply below_drew1) | exact HB.out)))); have n9_ := Aside0.mk (below_step (by repeat (first | (with_reducible first | exact HB.out | apply below_alloc | apply pw_below_drewN | apply below_drew1) | exact HB.out)) hb); clear HO157; clear HO160; clear HO164; clear HO168; clear HO177; clear HO181; clear HO184; clear HO188; clear HB; have HO157 := n0_; have HO160 := n1_; have HO164 := n2_; have HO168 := n3_; have HO177 := n4_; have HO181 := n5_; have HO184 := n6_; have HO188 := n7_; have HO191 := n8_; have HB := n9_; clear n0_ n1_ n2_ n3_ n4_ n5_ n6_ n7_ n8_ n9_; clear hb ho29; obtain ⟨Ao30, co30, eo30⟩ := Kd.R_slice HO191.out; subst eo30) | ((with_reducible refine gate_callee (f := 17) rfl ?_); refine goesL_ (some 50) rfl rfl Try.func17 (by kernel_rfl) rfl #[.slice Ao30 y189.length co30] rfl (by (try simp only [List.map_toArray, List.map_cons, List.map_nil]); first | done | rfl | (simp only [List.length_drop, List.length_take]; rfl)) ?_; (with_reducible refine (batch_Parse.calls _ _ y189 t192 t193 _ ?side1 ?side2 A7.out).mono ?_); (case side1 => repeat (first | exact (Kd.R_reads' HO191.out).2.2 | (with_reducible refine Kd.C_alloc ?_ _) | (with_reducible refine Kd.C_drewN ?_ _) | (with_reducible refine Kd.C_drew ?_))); (case side2 => exact (Kd.R_reads' HO191.out).2.1); rintro e w31 ⟨v194, rfl, ho0, hb⟩; refine ⟨_, rfl, ?_⟩; have n0_ := Aside0.mk (Kd.R_elder' (by (with_reducible repeat (first | apply Kd.R_alloc | apply Kd.R_drewN | apply Kd.R_drew)); exact HO157.out) (Kd.R_base ho0) hb); have n1_ := Aside0.mk (Kd.R_below (by (with_reducible repeat (first | apply Kd.R_alloc | apply Kd.R_drewN | apply Kd.R_drew)); exact HO160.out) hb); have n2_ := Aside0.mk (Kd.R_below (by (with_reducible repeat (first | apply Kd.R_alloc | apply Kd.R_drewN | apply Kd.R_drew)); exact HO164.out) hb); have n3_ := Aside0.mk (Kd.R_elder' (by (with_reducible repeat (first | apply Kd.R_alloc | apply Kd.R_drewN | apply Kd.R_drew)); exact HO168.out) (Kd.R_base ho0) hb); have n4_ := Aside0.mk (Kd.R_below (by (with_reducible repeat (first | apply Kd.R_alloc | apply Kd.R_drewN | apply Kd.R_drew)); exact HO177.out) hb); have n5_ := Aside0.mk (Kd.R_elder' (by (with_reducible repeat (first | apply Kd.R_alloc | apply Kd.R_drewN | apply Kd.R_drew)); exact HO181.out) (Kd.R_base ho0) hb); have n6_ := Aside0.mk (Kd.R_below (by (with_reducible repeat (first | apply Kd.R_alloc | apply Kd.R_drewN | apply Kd.R_drew)); exact HO184.out) hb); have n7_ := Aside0.mk (Kd.R_elder' (by (with_reducible repeat (first | apply Kd.R_alloc | apply Kd.R_drewN | apply Kd.R_drew)); exact HO188.out) (Kd.R_base ho0) hb); have n8_ := Aside0.mk (Kd.R_below (by (with_reducible repeat (first | apply Kd.R_alloc | apply Kd.R_drewN | apply Kd.R_drew)); exact HO191.out) hb); have n9_ := Aside0.mk (Kd.R_lower (Kd.R_new' (Kd.R_new' (Kd.R_new' (Kd.R_new' ho0 (Kd.R_lt (by (with_reducible repeat (first | apply Kd.R_alloc | apply Kd.R_drewN | apply Kd.R_drew)); exact HO157.out))) (Kd.R_lt (by (with_reducible repeat (first | apply Kd.R_alloc | apply Kd.R_drewN | apply Kd.R_drew)); exact HO168.out))) (Kd.R_lt (by (with_reducible repeat (first | apply Kd.R_alloc | apply Kd.R_drewN | apply Kd.R_drew)); exact HO181.out))) (Kd.R_lt (by (with_reducible repeat (first | apply Kd.R_alloc | apply Kd.R_drewN | apply Kd.R_drew)); exact HO188.out))) (below_size (by repeat (first | (with_reducible first | exact HB.out | apply below_alloc | apply pw_below_drewN | apply below_drew1) | exact HB.out)))); have n10_ := Aside0.mk (below_step (by repeat (first | (with_reducible first | exact HB.out | apply below_alloc | apply pw_below_drewN | apply below_drew1) | exact HB.out)) hb); clear HO157; clear HO160; clear HO164; clear HO168; clear HO177; clear HO181; clear HO184; clear HO188; clear HO191; clear HB; have HO157 := n0_; have HO160 := n1_; have HO164 := n2_; have HO168 := n3_; have HO177 := n4_; have HO181 := n5_; have HO184 := n6_; have HO188 := n7_; have HO191 := n8_; have HO195 := n9_; have HB := n10_; clear n0_ n1_ n2_ n3_ n4_ n5_ n6_ n7_ n8_ n9_ n10_; (try clear hb); (try clear hb2); (try clear hk); (try clear hi); (try clear ho0)) | (go_at_call 15; (refine calls_of_args (args' := #[.slice none (([] : List (S43))).length 0]) (by rfl) ?_; with_reducible refine (batch_Bytes.calls k _ _ ([] : List (S43)) t196 t197 _ ?side1 ?side2 A8.out).mono ?_); (case side1 => exact Kd.C_nil _ _); (case side2 => exact Nat.le_refl _); rintro e w32 ⟨v198, rfl, ho0, hb⟩; have n0_ := Aside0.mk (Kd.R_below (by (with_reducible repeat (first | apply Kd.R_alloc | apply Kd.R_drewN | apply Kd.R_drew)); exact HO157.out) hb); have n1_ := Aside0.mk (Kd.R_elder' (by (with_reducible repeat (first | apply Kd.R_alloc | apply Kd.R_drewN | apply Kd.R_drew)); exact HO160.out) (Kd.R_base ho0) hb); have n2_ := Aside0.mk (Kd.R_elder' (by (with_reducible repeat (first | apply Kd.R_alloc | apply Kd.R_drewN | apply Kd.R_drew)); exact HO164.out) (Kd.R_base ho0) hb); have n3_ := Aside0.mk (Kd.R_below (by (with_reducible repeat (first | apply Kd.R_alloc | apply Kd.R_drewN | apply Kd.R_drew)); exact HO168.out) hb); have n4_ := Aside0.mk (Kd.R_elder' (by (with_reducible repeat (first | apply Kd.R_alloc | apply Kd.R_drewN | apply Kd.R_drew)); exact HO177.out) (Kd.R_base ho0) hb); have n5_ := Aside0.mk (Kd.R_below (by (with_reducible repeat (first | apply Kd.R_alloc | apply Kd.R_drewN | apply Kd.R_drew)); exact HO181.out) hb); have n6_ := Aside0.mk (Kd.R_elder' (by (with_reducible repeat (first | apply Kd.R_alloc | apply Kd.R_drewN | apply Kd.R_drew)); exact HO184.out) (Kd.R_base ho0) hb); have n7_ := Aside0.mk (Kd.R_below (by (with_reducible repeat (first | apply Kd.R_alloc | apply Kd.R_drewN | apply Kd.R_drew)); exact HO188.out) hb); have n8_ := Aside0.mk (Kd.R_elder' (by (with_reducible repeat (first | apply Kd.R_alloc | apply Kd.R_drewN | apply Kd.R_drew)); exact HO191.out) (Kd.R_base ho0) hb); have n9_ := Aside0.mk (Kd.R_below (by (with_reducible repeat (first | apply Kd.R_alloc | apply Kd.R_drewN | apply Kd.R_drew)); exact HO195.out) hb); have n10_ := Aside0.mk (Kd.R_lower (Kd.R_new' (Kd.R_new' (Kd.R_new' (Kd.R_new' (Kd.R_new' ho0 (Kd.R_lt (by (with_reducible repeat (first | apply Kd.R_alloc | apply Kd.R_drewN | apply Kd.R_drew)); exact HO160.out))) (Kd.R_lt (by (with_reducible repeat (first | apply Kd.R_alloc | apply Kd.R_drewN | apply Kd.R_drew)); exact HO164.out))) (Kd.R_lt (by (with_reducible repeat (first | apply Kd.R_alloc | apply Kd.R_drewN | apply Kd.R_drew)); exact HO177.out))) (Kd.R_lt (by (with_reducible repeat (first | apply Kd.R_alloc | apply Kd.R_drewN | apply Kd.R_drew)); exact HO184.out))) (Kd.R_lt (by (with_reducible repeat (first | apply Kd.R_alloc | apply Kd.R_drewN | apply Kd.R_drew)); exact HO191.out))) (below_size (by repeat (first | (with_reducible first | exact HB.out | apply below_alloc | apply pw_below_drewN | apply below_drew1) | exact HB.out)))); have n11_ := Aside0.mk (below_step (by repeat (first | (with_reducible first | exact HB.out | apply below_alloc | apply pw_below_drewN | apply below_drew1) | exact HB.out)) hb); clear HO157; clear HO160; clear HO164; clear HO168; clear HO177; clear HO181; clear HO184; clear HO188; clear HO191; clear HO195; clear HB; have HO157 := n0_; have HO160 := n1_; have HO164 := n2_; have HO168 := n3_; have HO177 := n4_; have HO181 := n5_; have HO184 := n6_; have HO188 := n7_; have HO191 := n8_; have HO195 := n9_; have HO199 := n10_; have HB := n11_; clear n0_ n1_ n2_ n3_ n4_ n5_ n6_ n7_ n8_ n9_ n10_ n11_; (try clear hb); (try clear hb2); (try clear hk); (try clear hi); (try clear ho0); (try apply_assumption)) | ((with_reducible refine gate_dst (N := 57) rfl ?_); (try (refine gate_guard (by rfl) ?_; dsimp only)); refine Kd.R_make k43 _ 43 rfl (N := 57) rfl 22 _ _ rfl 129 rfl rfl Try.underlying22 (.agg #[(.int .u8 0), (.string ⟨#[]⟩), (.string ⟨#[]⟩)]) 40 info43 rfl (by decide) (by omega) z43 (ok := fun _ => True) (okp := fun _ => True) (k43_mkM _ _ _ z43 ) (fun _ hk => hk) trivial (by omega) (by omega) (Below.refl _ _) (Nat.le_refl _) ?_; intro v201 w33 ho34 hb hg_ hnew_; clear hg_ hnew_; (first | rw [← Ny200.out] at ho34 | (simp only [Int.reduceToNat] at ho34; rw [← Ny200.out] at ho34)); have n0_ := Aside0.mk (Kd.R_elder' (by (with_reducible repeat (first | apply Kd.R_alloc | apply Kd.R_drewN | apply Kd.R_drew)); exact HO157.out) (Kd.R_base ho34) hb); have n1_ := Aside0.mk (Kd.R_below (by (with_reducible repeat (first | apply Kd.R_alloc | apply Kd.R_drewN | apply Kd.R_drew)); exact HO160.out) hb); have n2_ := Aside0.mk (Kd.R_below (by (with_reducible repeat (first | apply Kd.R_alloc | apply Kd.R_drewN | apply Kd.R_drew)); exact HO164.out) hb); have n3_ := Aside0.mk (Kd.R_elder' (by (with_reducible repeat (first | apply Kd.R_alloc | apply Kd.R_drewN | apply Kd.R_drew)); exact HO168.out) (Kd.R_base ho34) hb); have n4_ := Aside0.mk (Kd.R_below (by (with_reducible repeat (first | apply Kd.R_alloc | apply Kd.R_drewN | apply Kd.R_drew)); exact HO177.out) hb); have n5_ := Aside0.mk (Kd.R_elder' (by (with_reducible repeat (first | apply Kd.R_alloc | apply Kd.R_drewN | apply Kd.R_drew)); exact HO181.out) (Kd.R_base ho34) hb); have n6_ := Aside0.mk (Kd.R_below (by (with_reducible repeat (first | apply Kd.R_alloc | apply Kd.R_drewN | apply Kd.R_drew)); exact HO184.out) hb); have n7_ := Aside0.mk (Kd.R_elder' (by (with_reducible repeat (first | apply Kd.R_alloc | apply Kd.R_drewN | apply Kd.R_drew)); exact HO188.out) (Kd.R_base ho34) hb); have n8_ := Aside0.mk (Kd.R_below (by (with_reducible repeat (first | apply Kd.R_alloc | apply Kd.R_drewN | apply Kd.R_drew)); exact HO191.out) hb); have n9_ := Aside0.mk (Kd.R_elder' (by (with_reducible repeat (first | apply Kd.R_alloc | apply Kd.R_drewN | apply Kd.R_drew)); exact HO195.out) (Kd.R_base ho34) hb); have n10_ := Aside0.mk (Kd.R_below (by (with_reducible repeat (first | apply Kd.R_alloc | apply Kd.R_drewN | apply Kd.R_drew)); exact HO199.out) hb); have n11_ := Aside0.mk (Kd.R_lower (Kd.R_new' (Kd.R_new' (Kd.R_new' (Kd.R_new' (Kd.R_new' ho34 (Kd.R_lt (by (with_reducible repeat (first | apply Kd.R_alloc | apply Kd.R_drewN | apply Kd.R_drew)); exact HO157.out))) (Kd.R_lt (by (with_reducible repeat (first | apply Kd.R_alloc | apply Kd.R_drewN | apply Kd.R_drew)); exact HO168.out))) (Kd.R_lt (by (with_reducible repeat (first | apply Kd.R_alloc | apply Kd.R_drewN | apply Kd.R_drew)); exact HO181.out))) (Kd.R_lt (by (with_reducible repeat (first | apply Kd.R_alloc | apply Kd.R_drewN | apply Kd.R_drew)); exact HO188.out))) (Kd.R_lt (by (with_reducible repeat (first | apply Kd.R_alloc | apply Kd.R_drewN | apply Kd.R_drew)); exact HO195.out))) (below_size (by repeat (first | (with_reducible first | exact HB.out | apply below_alloc | apply pw_below_drewN | apply below_drew1) | exact HB.out)))); have n12_ := Aside0.mk (below_step (by repeat (first | (with_reducible first | exact HB.out | apply below_alloc | apply pw_below_drewN | apply below_drew1) | exact HB.out)) hb); clear HO157; clear HO160; clear HO164; clear HO168; clear HO177; clear HO181; clear HO184; clear HO188; clear HO191; clear HO195; clear HO199; clear HB; have HO157 := n0_; have HO160 := n1_; have HO164 := n2_; have HO168 := n3_; have HO177 := n4_; have HO181 := n5_; have HO184 := n6_; have HO188 := n7_; have HO191 := n8_; have HO195 := n9_; have HO199 := n10_; have HO202 := n11_; have HB := n12_; clear n0_ n1_ n2_ n3_ n4_ n5_ n6_ n7_ n8_ n9_ n10_ n11_ n12_; clear hb ho34; obtain ⟨Ao35, co35, eo35⟩ := Kd.R_slice HO202.out; subst eo35)); refine wp_region_list ?_; simp only [List.append_eq, List.cons_append, List.nil_append])
          | skip
        go_wp2_with (first | ((with_reducible refine gate_dst (N := 22) rfl ?_); (try (refine gate_guard (by rfl) ?_; dsimp only)); refine Kd.R_lit k43 _ 43 ?hg (N := 22) ?hd (xs := ([(⟨1, (⟨#[97]⟩ : ByteArray), (⟨#[120]⟩ : ByteArray)⟩ : S43), (⟨0, (⟨#[98]⟩ : ByteArray), (⟨#[]⟩ : ByteArray)⟩ : S43)] : List (S43))) (inner := [.int .u8 1, .string (⟨#[97]⟩ : ByteArray), .string (⟨#[120]⟩ : ByteArray), .int .u8 0, .string (⟨#[98]⟩ : ByteArray), .string (⟨#[]⟩ : ByteArray)]) (ok := fun _ => True) (okp := fun _ => True) ?hr ?hp (fun _ hk => hk) trivial (Below.refl _ _) (Nat.le_refl _) (by simp) ?_; (case hd => rfl); (case hg => rfl); (case hr => first | (go_simp; done) | (go_simp; rfl)); (case hp => exact (Reps.c3 (show Kd.M k43 _ _ _ (⟨1, (⟨#[97]⟩ : ByteArray), (⟨#[120]⟩ : ByteArray)⟩ : S43) [.int .u8 1, .string (⟨#[97]⟩ : ByteArray), .string (⟨#[120]⟩ : ByteArray)] from (k43_mkM _ _ _ (⟨1, (⟨#[97]⟩ : ByteArray), (⟨#[120]⟩ : ByteArray)⟩ : S43) )) (Reps.c3 (show Kd.M k43 _ _ _ (⟨0, (⟨#[98]⟩ : ByteArray), (⟨#[]⟩ : ByteArray)⟩ : S43) [.int .u8 0, .string (⟨#[98]⟩ : ByteArray), .string (⟨#[]⟩ : ByteArray)] from (k43_mkM _ _ _ (⟨0, (⟨#[98]⟩ : ByteArray), (⟨#[]⟩ : ByteArray)⟩ : S43) )) (Reps.none _ _)))); intro v156 w10 ho11 hb hg_ hnew_; clear hg_ hnew_; (first | rw [← Ny155.out] at ho11 | (simp only [Int.reduceToNat] at ho11; rw [← Ny155.out] at ho11)); have n0_ := Aside0.mk (Kd.R_lower ho11 (below_size (by repeat (first | (with_reducible first | exact HB.out | apply below_alloc | apply pw_below_drewN | apply below_drew1) | exact HB.out)))); have n1_ := Aside0.mk (below_step (by repeat (first | (with_reducible first | exact HB.out | apply below_alloc | apply pw_below_drewN | apply below_drew1) | exact HB.out)) hb); clear HB; have HO157 := n0_; have HB := n1_; clear n0_ n1_; clear hb ho11) | ((with_reducible refine gate_dst (N := 23) rfl ?_); (try (refine gate_guard (by rfl) ?_; dsimp only)); refine Kd.R_lit (Kd.int .u8) _ 5 ?hg (N := 23) ?hd (xs := ([2, 1, 1, 97, 1, 120, 0, 1, 98] : List Int)) (inner := [.int .u8 2, .int .u8 1, .int .u8 1, .int .u8 97, .int .u8 1, .int .u8 120, .int .u8 0, .int .u8 1, .int .u8 98]) (ok := fun _ => True) (okp := fun _ => True) ?hr ?hp (fun _ hk => hk) trivial (Below.refl _ _) (Nat.le_refl _) (by simp) ?_; (case hd => rfl); (case hg => rfl); (case hr => first | (go_simp; done) | (go_simp; rfl)); (case hp => exact (Reps.one (show Kd.M (Kd.int .u8) _ _ _ 2 [.int .u8 2] from rfl) (Reps.one (show Kd.M (Kd.int .u8) _ _ _ 1 [.int .u8 1] from rfl) (Reps.one (show Kd.M (Kd.int .u8) _ _ _ 1 [.int .u8 1] from rfl) (Reps.one (show Kd.M (Kd.int .u8) _ _ _ 97 [.int .u8 97] from rfl) (Reps.one (show Kd.M (Kd.int .u8) _ _ _ 1 [.int .u8 1] from rfl) (Reps.one (show Kd.M (Kd.int .u8) _ _ _ 120 [.int .u8 120] from rfl) (Reps.one (show Kd.M (Kd.int .u8) _ _ _ 0 [.int .u8 0] from rfl) (Reps.one (show Kd.M (Kd.int .u8) _ _ _ 1 [.int .u8 1] from rfl) (Reps.one (show Kd.M (Kd.int .u8) _ _ _ 98 [.int .u8 98] from rfl) (Reps.none _ _))))))))))); intro v159 w12 ho13 hb hg_ hnew_; clear hg_ hnew_; (first | rw [← Ny158.out] at ho13 | (simp only [Int.reduceToNat] at ho13; rw [← Ny158.out] at ho13)); have n0_ := Aside0.mk (Kd.R_below (by (with_reducible repeat (first | apply Kd.R_alloc | apply Kd.R_drewN | apply Kd.R_drew)); exact HO157.out) hb); have n1_ := Aside0.mk (Kd.R_lower ho13 (below_size (by repeat (first | (with_reducible first | exact HB.out | apply below_alloc | apply pw_below_drewN | apply below_drew1) | exact HB.out)))); have n2_ := Aside0.mk (below_step (by repeat (first | (with_reducible first | exact HB.out | apply below_alloc | apply pw_below_drewN | apply below_drew1) | exact HB.out)) hb); clear HO157; clear HB; have HO157 := n0_; have HO160 := n1_; have HB := n2_; clear n0_ n1_ n2_; clear hb ho13; obtain ⟨Ao14, co14, eo14⟩ := Kd.R_slice HO157.out; subst eo14) | ((with_reducible refine gate_callee (f := 15) rfl ?_); refine goesL_ (some 26) rfl rfl Try.func15 (by kernel_rfl) rfl #[.slice Ao14 y155.length co14] rfl (by (try simp only [List.map_toArray, List.map_cons, List.map_nil]); first | done | rfl | (simp only [List.length_drop, List.length_take]; rfl)) ?_; (with_reducible refine (batch_Bytes.calls k _ _ y155 t161 t162 _ ?side1 ?side2 A1.out).mono ?_); (case side1 => repeat (first | exact (Kd.R_reads' HO157.out).2.2 | (with_reducible refine Kd.C_alloc ?_ _) | (with_reducible refine Kd.C_drewN ?_ _) | (with_reducible refine Kd.C_drew ?_))); (case side2 => exact (Kd.R_reads' HO157.out).2.1); rintro e w15 ⟨v163, rfl, ho0, hb⟩; refine ⟨_, rfl, ?_⟩; have n0_ := Aside0.mk (Kd.R_below (by (with_reducible repeat (first | apply Kd.R_alloc | apply Kd.R_drewN | apply Kd.R_drew)); exact HO157.out) hb); have n1_ := Aside0.mk (Kd.R_elder' (by (with_reducible repeat (first | apply Kd.R_alloc | apply Kd.R_drewN | apply Kd.R_drew)); exact HO160.out) (Kd.R_base ho0) hb); have n2_ := Aside0.mk (Kd.R_lower (Kd.R_new' ho0 (Kd.R_lt (by (with_reducible repeat (first | apply Kd.R_alloc | apply Kd.R_drewN | apply Kd.R_drew)); exact HO160.out))) (below_size (by repeat (first | (with_reducible first | exact HB.out | apply below_alloc | apply pw_below_drewN | apply below_drew1) | exact HB.out)))); have n3_ := Aside0.mk (below_step (by repeat (first | (with_reducible first | exact HB.out | apply below_alloc | apply pw_below_drewN | apply below_drew1) | exact HB.out)) hb); clear HO157; clear HO160; clear HB; have HO157 := n0_; have HO160 := n1_; have HO164 := n2_; have HB := n3_; clear n0_ n1_ n2_ n3_; (try clear hb); (try clear hb2); (try clear hk); (try clear hi); (try clear ho0); obtain ⟨Ao16, co16, eo16⟩ := Kd.R_slice HO160.out; subst eo16) | ((with_reducible refine gate_callee (f := 17) rfl ?_); refine goesL_ (some 31) rfl rfl Try.func17 (by kernel_rfl) rfl #[.slice Ao16 y158.length co16] rfl (by (try simp only [List.map_toArray, List.map_cons, List.map_nil]); first | done | rfl | (simp only [List.length_drop, List.length_take]; rfl)) ?_; (with_reducible refine (batch_Parse.calls _ _ y158 t165 t166 _ ?side1 ?side2 A2.out).mono ?_); (case side1 => repeat (first | exact (Kd.R_reads' HO160.out).2.2 | (with_reducible refine Kd.C_alloc ?_ _) | (with_reducible refine Kd.C_drewN ?_ _) | (with_reducible refine Kd.C_drew ?_))); (case side2 => exact (Kd.R_reads' HO160.out).2.1); rintro e w17 ⟨v167, rfl, ho0, hb⟩; refine ⟨_, rfl, ?_⟩; have n0_ := Aside0.mk (Kd.R_elder' (by (with_reducible repeat (first | apply Kd.R_alloc | apply Kd.R_drewN | apply Kd.R_drew)); exact HO157.out) (Kd.R_base ho0) hb); have n1_ := Aside0.mk (Kd.R_below (by (with_reducible repeat (first | apply Kd.R_alloc | apply Kd.R_drewN | apply Kd.R_drew)); exact HO160.out) hb); have n2_ := Aside0.mk (Kd.R_below (by (with_reducible repeat (first | apply Kd.R_alloc | apply Kd.R_drewN | apply Kd.R_drew)); exact HO164.out) hb); have n3_ := Aside0.mk (Kd.R_lower (Kd.R_new' ho0 (Kd.R_lt (by (with_reducible repeat (first | apply Kd.R_alloc | apply Kd.R_drewN | apply Kd.R_drew)); exact HO157.out))) (below_size (by repeat (first | (with_reducible first | exact HB.out | apply below_alloc | apply pw_below_drewN | apply below_drew1) | exact HB.out)))); have n4_ := Aside0.mk (below_step (by repeat (first | (with_reducible first | exact HB.out | apply below_alloc | apply pw_below_drewN | apply below_drew1) | exact HB.out)) hb); clear HO157; clear HO160; clear HO164; clear HB; have HO157 := n0_; have HO160 := n1_; have HO164 := n2_; have HO168 := n3_; have HB := n4_; clear n0_ n1_ n2_ n3_ n4_; (try clear hb); (try clear hb2); (try clear hk); (try clear hi); (try clear ho0)) | ((with_reducible refine gate_dst (N := 35) rfl ?_); (try (refine gate_guard (by rfl) ?_; dsimp only)); refine Kd.R_lit (Kd.int .u8) _ 5 ?hg (N := 35) ?hd (xs := ([] : List Int)) (inner := []) (ok := fun _ => True) (okp := fun _ => True) ?hr ?hp (fun _ hk => hk) trivial (Below.refl _ _) (Nat.le_refl _) (by simp) ?_; (case hd => rfl); (case hg => rfl); (case hr => first | (go_simp; done) | (go_simp; rfl)); (case hp => exact (Reps.none _ _)); intro v170 w18 ho19 hb hg_ hnew_; clear hg_ hnew_; (first | rw [← Ny169.out] at ho19 | (simp only [Int.reduceToNat] at ho19; rw [← Ny169.out] at ho19)); have n0_ := Aside0.mk (Kd.R_below (by (with_reducible repeat (first | apply Kd.R_alloc | apply Kd.R_drewN | apply Kd.R_drew)); exact HO157.out) hb); have n1_ := Aside0.mk (Kd.R_elder' (by (with_reducible repeat (first | apply Kd.R_alloc | apply Kd.R_drewN | apply Kd.R_drew)); exact HO160.out) (Kd.R_base ho19) hb); have n2_ := Aside0.mk (Kd.R_elder' (by (with_reducible repeat (first | apply Kd.R_alloc | apply Kd.R_drewN | apply Kd.R_drew)); exact HO164.out) (Kd.R_base ho19) hb); have n3_ := Aside0.mk (Kd.R_below (by (with_reducible repeat (first | apply Kd.R_alloc | apply Kd.R_drewN | apply Kd.R_drew)); exact HO168.out) hb); have n4_ := Aside0.mk (Kd.R_lower (Kd.R_new' (Kd.R_new' ho19 (Kd.R_lt (by (with_reducible repeat (first | apply Kd.R_alloc | apply Kd.R_drewN | apply Kd.R_drew)); exact HO160.out))) (Kd.R_lt (by (with_reducible repeat (first | apply Kd.R_alloc | apply Kd.R_drewN | apply Kd.R_drew)); exact HO164.out))) (below_size (by repeat (first | (with_reducible first | exact HB.out | apply below_alloc | apply pw_below_drewN | apply below_drew1) | exact HB.out)))); have n5_ := Aside0.mk (below_step (by repeat (first | (with_reducible first | exact HB.out | apply below_alloc | apply pw_below_drewN | apply below_drew1) | exact HB.out)) hb); clear HO157; clear HO160; clear HO164; clear HO168; clear HB; have HO157 := n0_; have HO160 := n1_; have HO164 := n2_; have HO168 := n3_; have HO171 := n4_; have HB := n5_; clear n0_ n1_ n2_ n3_ n4_ n5_; clear hb ho19) | ((with_reducible refine gate_builtin (b := .append) (xs := #[.tmp 35, .tmp 36]) rfl ?_); (try (refine gate_guard (by rfl) ?_; dsimp only)); at_builtin; refine Kd.R_append_rows (Kd.int .u8) (w0 := w) w.heap.size rfl (.tmp 35) (.tmp 36) 23 5 (.int .u8 0) 1 rfl Try.underlying23 info5 rfl (by decide) (by omega) v170 y169 y158 _ _ _ (fun k_ => some k_ ≠ (.slice Ao16 y158.length co16 : Value).ownBlock ∧ some k_ ≠ (v163 : Value).ownBlock) (fun _ => False) rfl rfl ?aO ?aR (fun _ _ h => h) (fun _ h => h.elim) ?aF ?aB ?aS ?aL ?_; (case aR => repeat (first | exact (Kd.R_reads' HO160.out).2.2 | (with_reducible refine Kd.C_alloc ?_ _) | (with_reducible refine Kd.C_drewN ?_ _) | (with_reducible refine Kd.C_drew ?_))); (case aB => exact (by repeat (first | (with_reducible first | exact HB.out | apply below_alloc | apply pw_below_drewN | apply below_drew1) | exact HB.out))); (case aF => exact (fun k_ hk => ⟨Kd.fresh' (Kd.R_lt (by (with_reducible repeat (first | apply Kd.R_alloc | apply Kd.R_drewN | apply Kd.R_drew)); exact HO160.out)) k_ hk, Kd.fresh' (Kd.R_lt (by (with_reducible repeat (first | apply Kd.R_alloc | apply Kd.R_drewN | apply Kd.R_drew)); exact HO164.out)) k_ hk⟩)); (case aO => exact (by (with_reducible repeat (first | apply Kd.R_alloc | apply Kd.R_drewN | apply Kd.R_drew)); exact Kd.R_mono HO171.out (fun _ hk => ⟨hk.1.2, hk.2⟩))); (case aS => exact (below_size (by repeat (first | (with_reducible first | exact HB.out | apply below_alloc | apply pw_below_drewN | apply below_drew1) | exact HB.out)))); (case aL => have := LMc3.out; omega); intro v173 w20 ho hb hg hat; rw [← Ny172.out] at ho; have n0_ := Aside0.mk (Kd.R_over' (by (with_reducible repeat (first | apply Kd.R_alloc | apply Kd.R_drewN | apply Kd.R_drew)); exact HO157.out) (Kd.R_typed (by (with_reducible repeat (first | apply Kd.R_alloc | apply Kd.R_drewN | apply Kd.R_drew)); exact HO171.out)) (by decide) hg); have n1_ := Aside0.mk (Kd.R_after (ok := (fun k_ => some k_ ≠ (v163 : Value).ownBlock)) (by (with_reducible repeat (first | apply Kd.R_alloc | apply Kd.R_drewN | apply Kd.R_drew)); exact Kd.R_mono HO160.out (fun _ hk => ⟨hk.1.2, hk.2⟩)) hg hat); have n2_ := Aside0.mk (Kd.R_after (ok := (fun k_ => some k_ ≠ (.slice Ao16 y158.length co16 : Value).ownBlock)) (by (with_reducible repeat (first | apply Kd.R_alloc | apply Kd.R_drewN | apply Kd.R_drew)); exact Kd.R_mono HO164.out (fun _ hk => ⟨hk.1.2, hk.2⟩)) hg hat); have n3_ := Aside0.mk (Kd.R_over' (by (with_reducible repeat (first | apply Kd.R_alloc | apply Kd.R_drewN | apply Kd.R_drew)); exact HO168.out) (Kd.R_typed (by (with_reducible repeat (first | apply Kd.R_alloc | apply Kd.R_drewN | apply Kd.R_drew)); exact HO171.out)) (by decide) hg); have n4_ := Aside0.mk (hb); have n5_ := Aside0.mk (ho); clear HO157; clear HO160; clear HO164; clear HO168; clear HB; clear HO171; have HO157 := n0_; have HO160 := n1_; have HO164 := n2_; have HO168 := n3_; have HB := n4_; have HO174 := n5_; clear n0_ n1_ n2_ n3_ n4_ n5_; clear ho hb hg hat) | ((with_reducible refine gate_builtin (b := .append) (xs := #[.tmp 37, .tmp 38]) rfl ?_); (try (refine gate_guard (by rfl) ?_; dsimp only)); at_builtin; refine Kd.R_append (Kd.int .u8) (w0 := w) w.heap.size rfl (.tmp 37) (.tmp 38) 23 5 (.int .u8 0) 1 rfl Try.underlying23 info5 rfl (by decide) (by omega) v173 y172 0 [.int .u8 0] (fun k_ => some k_ ≠ (.slice Ao16 y158.length co16 : Value).ownBlock ∧ some k_ ≠ (v163 : Value).ownBlock) (fun _ => False) rfl rfl ?aP (fun _ hk => hk.elim) ?aF ?aO ?aB ?aS ?aL ?_; (case aP => exact rfl); (case aB => exact (by repeat (first | (with_reducible first | exact HB.out | apply below_alloc | apply pw_below_drewN | apply below_drew1) | exact HB.out))); (case aF => exact (fun k_ hk => ⟨Kd.fresh' (Kd.R_lt (by (with_reducible repeat (first | apply Kd.R_alloc | apply Kd.R_drewN | apply Kd.R_drew)); exact HO160.out)) k_ hk, Kd.fresh' (Kd.R_lt (by (with_reducible repeat (first | apply Kd.R_alloc | apply Kd.R_drewN | apply Kd.R_drew)); exact HO164.out)) k_ hk⟩)); (case aO => exact (by (with_reducible repeat (first | apply Kd.R_alloc | apply Kd.R_drewN | apply Kd.R_drew)); exact HO174.out)); (case aS => exact (below_size (by repeat (first | (with_reducible first | exact HB.out | apply below_alloc | apply pw_below_drewN | apply below_drew1) | exact HB.out)))); (case aL => have := LMc4.out; omega); intro v176 w21 ho hb hg hat; rw [← Ny175.out] at ho; have n0_ := Aside0.mk (Kd.R_over' (by (with_reducible repeat (first | apply Kd.R_alloc | apply Kd.R_drewN | apply Kd.R_drew)); exact HO157.out) (Kd.R_typed (by (with_reducible repeat (first | apply Kd.R_alloc | apply Kd.R_drewN | apply Kd.R_drew)); exact HO174.out)) (by decide) hg); have n1_ := Aside0.mk (Kd.R_after (ok := (fun k_ => some k_ ≠ (v163 : Value).ownBlock)) (by (with_reducible repeat (first | apply Kd.R_alloc | apply Kd.R_drewN | apply Kd.R_drew)); exact HO160.out) hg hat); have n2_ := Aside0.mk (Kd.R_after (ok := (fun k_ => some k_ ≠ (.slice Ao16 y158.length co16 : Value).ownBlock)) (by (with_reducible repeat (first | apply Kd.R_alloc | apply Kd.R_drewN | apply Kd.R_drew)); exact HO164.out) hg hat); have n3_ := Aside0.mk (Kd.R_over' (by (with_reducible repeat (first | apply Kd.R_alloc | apply Kd.R_drewN | apply Kd.R_drew)); exact HO168.out) (Kd.R_typed (by (with_reducible repeat (first | apply Kd.R_alloc | apply Kd.R_drewN | apply Kd.R_drew)); exact HO174.out)) (by decide) hg); have n4_ := Aside0.mk (hb); have n5_ := Aside0.mk (ho); clear HO157; clear HO160; clear HO164; clear HO168; clear HB; clear HO174; have HO157 := n0_; have HO160 := n1_; have HO164 := n2_; have HO168 := n3_; have HB := n4_; have HO177 := n5_; clear n0_ n1_ n2_ n3_ n4_ n5_; clear ho hb hg hat; obtain ⟨Ao22, co22, eo22⟩ := Kd.R_slice HO177.out; subst eo22) | ((with_reducible refine gate_callee (f := 17) rfl ?_); refine goesL_ (some 40) rfl rfl Try.func17 (by kernel_rfl) rfl #[.slice Ao22 y175.length co22] rfl (by (try simp only [List.map_toArray, List.map_cons, List.map_nil]); first | done | rfl | (simp only [List.length_drop, List.length_take]; rfl)) ?_; (with_reducible refine (batch_Parse.calls _ _ y175 t178 t179 _ ?side1 ?side2 A5.out).mono ?_); (case side1 => repeat (first | exact (Kd.R_reads' HO177.out).2.2 | (with_reducible refine Kd.C_alloc ?_ _) | (with_reducible refine Kd.C_drewN ?_ _) | (with_reducible refine Kd.C_drew ?_))); (case side2 => exact (Kd.R_reads' HO177.out).2.1); rintro e w23 ⟨v180, rfl, ho0, hb⟩; refine ⟨_, rfl, ?_⟩; have n0_ := Aside0.mk (Kd.R_elder' (by (with_reducible repeat (first | apply Kd.R_alloc | apply Kd.R_drewN | apply Kd.R_drew)); exact HO157.out) (Kd.R_base ho0) hb); have n1_ := Aside0.mk (Kd.R_below (by (with_reducible repeat (first | apply Kd.R_alloc | apply Kd.R_drewN | apply Kd.R_drew)); exact HO160.out) hb); have n2_ := Aside0.mk (Kd.R_below (by (with_reducible repeat (first | apply Kd.R_alloc | apply Kd.R_drewN | apply Kd.R_drew)); exact HO164.out) hb); have n3_ := Aside0.mk (Kd.R_elder' (by (with_reducible repeat (first | apply Kd.R_alloc | apply Kd.R_drewN | apply Kd.R_drew)); exact HO168.out) (Kd.R_base ho0) hb); have n4_ := Aside0.mk (Kd.R_below (by (with_reducible repeat (first | apply Kd.R_alloc | apply Kd.R_drewN | apply Kd.R_drew)); exact HO177.out) hb); have n5_ := Aside0.mk (Kd.R_lower (Kd.R_new' (Kd.R_new' ho0 (Kd.R_lt (by (with_reducible repeat (first | apply Kd.R_alloc | apply Kd.R_drewN | apply Kd.R_drew)); exact HO157.out))) (Kd.R_lt (by (with_reducible repeat (first | apply Kd.R_alloc | apply Kd.R_drewN | apply Kd.R_drew)); exact HO168.out))) (below_size (by repeat (first | (with_reducible first | exact HB.out | apply below_alloc | apply pw_below_drewN | apply below_drew1) | exact HB.out)))); have n6_ := Aside0.mk (below_step (by repeat (first | (with_reducible first | exact HB.out | apply below_alloc | apply pw_below_drewN | apply below_drew1) | exact HB.out)) hb); clear HO157; clear HO160; clear HO164; clear HO168; clear HO177; clear HB; have HO157 := n0_; have HO160 := n1_; have HO164 := n2_; have HO168 := n3_; have HO177 := n4_; have HO181 := n5_; have HB := n6_; clear n0_ n1_ n2_ n3_ n4_ n5_ n6_; (try clear hb); (try clear hb2); (try clear hk); (try clear hi); (try clear ho0)) | ((with_reducible refine gate_dst (N := 44) rfl ?_); (try (refine gate_guard (by rfl) ?_; dsimp only)); refine Kd.R_lit (Kd.int .u8) _ 5 ?hg (N := 44) ?hd (xs := ([0] : List Int)) (inner := [.int .u8 0]) (ok := fun _ => True) (okp := fun _ => True) ?hr ?hp (fun _ hk => hk) trivial (Below.refl _ _) (Nat.le_refl _) (by simp) ?_; (case hd => rfl); (case hg => rfl); (case hr => first | (go_simp; done) | (go_simp; rfl)); (case hp => exact (Reps.one (show Kd.M (Kd.int .u8) _ _ _ 0 [.int .u8 0] from rfl) (Reps.none _ _))); intro v183 w24 ho25 hb hg_ hnew_; clear hg_ hnew_; (first | rw [← Ny182.out] at ho25 | (simp only [Int.reduceToNat] at ho25; rw [← Ny182.out] at ho25)); have n0_ := Aside0.mk (Kd.R_below (by (with_reducible repeat (first | apply Kd.R_alloc | apply Kd.R_drewN | apply Kd.R_drew)); exact HO157.out) hb); have n1_ := Aside0.mk (Kd.R_elder' (by (with_reducible repeat (first | apply Kd.R_alloc | apply Kd.R_drewN | apply Kd.R_drew)); exact HO160.out) (Kd.R_base ho25) hb); have n2_ := Aside0.mk (Kd.R_elder' (by (with_reducible repeat (first | apply Kd.R_alloc | apply Kd.R_drewN | apply Kd.R_drew)); exact HO164.out) (Kd.R_base ho25) hb); have n3_ := Aside0.mk (Kd.R_below (by (with_reducible repeat (first | apply Kd.R_alloc | apply Kd.R_drewN | apply Kd.R_drew)); exact HO168.out) hb); have n4_ := Aside0.mk (Kd.R_elder' (by (with_reducible repeat (first | apply Kd.R_alloc | apply Kd.R_drewN | apply Kd.R_drew)); exact HO177.out) (Kd.R_base ho25) hb); have n5_ := Aside0.mk (Kd.R_below (by (with_reducible repeat (first | apply Kd.R_alloc | apply Kd.R_drewN | apply Kd.R_drew)); exact HO181.out) hb); have n6_ := Aside0.mk (Kd.R_lower (Kd.R_new' (Kd.R_new' (Kd.R_new' ho25 (Kd.R_lt (by (with_reducible repeat (first | apply Kd.R_alloc | apply Kd.R_drewN | apply Kd.R_drew)); exact HO160.out))) (Kd.R_lt (by (with_reducible repeat (first | apply Kd.R_alloc | apply Kd.R_drewN | apply Kd.R_drew)); exact HO164.out))) (Kd.R_lt (by (with_reducible repeat (first | apply Kd.R_alloc | apply Kd.R_drewN | apply Kd.R_drew)); exact HO177.out))) (below_size (by repeat (first | (with_reducible first | exact HB.out | apply below_alloc | apply pw_below_drewN | apply below_drew1) | exact HB.out)))); have n7_ := Aside0.mk (below_step (by repeat (first | (with_reducible first | exact HB.out | apply below_alloc | apply pw_below_drewN | apply below_drew1) | exact HB.out)) hb); clear HO157; clear HO160; clear HO164; clear HO168; clear HO177; clear HO181; clear HB; have HO157 := n0_; have HO160 := n1_; have HO164 := n2_; have HO168 := n3_; have HO177 := n4_; have HO181 := n5_; have HO184 := n6_; have HB := n7_; clear n0_ n1_ n2_ n3_ n4_ n5_ n6_ n7_; clear hb ho25; obtain ⟨Ao26, co26, eo26⟩ := Kd.R_slice HO184.out; subst eo26) | ((with_reducible refine gate_callee (f := 17) rfl ?_); refine goesL_ (some 45) rfl rfl Try.func17 (by kernel_rfl) rfl #[.slice Ao26 y182.length co26] rfl (by (try simp only [List.map_toArray, List.map_cons, List.map_nil]); first | done | rfl | (simp only [List.length_drop, List.length_take]; rfl)) ?_; (with_reducible refine (batch_Parse.calls _ _ y182 t185 t186 _ ?side1 ?side2 A6.out).mono ?_); (case side1 => repeat (first | exact (Kd.R_reads' HO184.out).2.2 | (with_reducible refine Kd.C_alloc ?_ _) | (with_reducible refine Kd.C_drewN ?_ _) | (with_reducible refine Kd.C_drew ?_))); (case side2 => exact (Kd.R_reads' HO184.out).2.1); rintro e w27 ⟨v187, rfl, ho0, hb⟩; refine ⟨_, rfl, ?_⟩; have n0_ := Aside0.mk (Kd.R_elder' (by (with_reducible repeat (first | apply Kd.R_alloc | apply Kd.R_drewN | apply Kd.R_drew)); exact HO157.out) (Kd.R_base ho0) hb); have n1_ := Aside0.mk (Kd.R_below (by (with_reducible repeat (first | apply Kd.R_alloc | apply Kd.R_drewN | apply Kd.R_drew)); exact HO160.out) hb); have n2_ := Aside0.mk (Kd.R_below (by (with_reducible repeat (first | apply Kd.R_alloc | apply Kd.R_drewN | apply Kd.R_drew)); exact HO164.out) hb); have n3_ := Aside0.mk (Kd.R_elder' (by (with_reducible repeat (first | apply Kd.R_alloc | apply Kd.R_drewN | apply Kd.R_drew)); exact HO168.out) (Kd.R_base ho0) hb); have n4_ := Aside0.mk (Kd.R_below (by (with_reducible repeat (first | apply Kd.R_alloc | apply Kd.R_drewN | apply Kd.R_drew)); exact HO177.out) hb); have n5_ := Aside0.mk (Kd.R_elder' (by (with_reducible repeat (first | apply Kd.R_alloc | apply Kd.R_drewN | apply Kd.R_drew)); exact HO181.out) (Kd.R_base ho0) hb); have n6_ := Aside0.mk (Kd.R_below (by (with_reducible repeat (first | apply Kd.R_alloc | apply Kd.R_drewN | apply Kd.R_drew)); exact HO184.out) hb); have n7_ := Aside0.mk (Kd.R_lower (Kd.R_new' (Kd.R_new' (Kd.R_new' ho0 (Kd.R_lt (by (with_reducible repeat (first | apply Kd.R_alloc | apply Kd.R_drewN | apply Kd.R_drew)); exact HO157.out))) (Kd.R_lt (by (with_reducible repeat (first | apply Kd.R_alloc | apply Kd.R_drewN | apply Kd.R_drew)); exact HO168.out))) (Kd.R_lt (by (with_reducible repeat (first | apply Kd.R_alloc | apply Kd.R_drewN | apply Kd.R_drew)); exact HO181.out))) (below_size (by repeat (first | (with_reducible first | exact HB.out | apply below_alloc | apply pw_below_drewN | apply below_drew1) | exact HB.out)))); have n8_ := Aside0.mk (below_step (by repeat (first | (with_reducible first | exact HB.out | apply below_alloc | apply pw_below_drewN | apply below_drew1) | exact HB.out)) hb); clear HO157; clear HO160; clear HO164; clear HO168; clear HO177; clear HO181; clear HO184; clear HB; have HO157 := n0_; have HO160 := n1_; have HO164 := n2_; have HO168 := n3_; have HO177 := n4_; have HO181 := n5_; have HO184 := n6_; have HO188 := n7_; have HB := n8_; clear n0_ n1_ n2_ n3_ n4_ n5_ n6_ n7_ n8_; (try clear hb); (try clear hb2); (try clear hk); (try clear hi); (try clear ho0)) | ((with_reducible refine gate_dst (N := 49) rfl ?_); (try (refine gate_guard (by rfl) ?_; dsimp only)); refine Kd.R_lit (Kd.int .u8) _ 5 ?hg (N := 49) ?hd (xs := ([1, 2, 1, 97] : List Int)) (inner := [.int .u8 1, .int .u8 2, .int .u8 1, .int .u8 97]) (ok := fun _ => True) (okp := fun _ => True) ?hr ?hp (fun _ hk => hk) trivial (Below.refl _ _) (Nat.le_refl _) (by simp) ?_; (case hd => rfl); (case hg => rfl); (case hr => first | (go_simp; done) | (go_simp; rfl)); (case hp => exact (Reps.one (show Kd.M (Kd.int .u8) _ _ _ 1 [.int .u8 1] from rfl) (Reps.one (show Kd.M (Kd.int .u8) _ _ _ 2 [.int .u8 2] from rfl) (Reps.one (show Kd.M (Kd.int .u8) _ _ _ 1 [.int .u8 1] from rfl) (Reps.one (show Kd.M (Kd.int .u8) _ _ _ 97 [.int .u8 97] from rfl) (Reps.none _ _)))))); intro v190 w28 ho29 hb hg_ hnew_; clear hg_ hnew_; (first | rw [← Ny189.out] at ho29 | (simp only [Int.reduceToNat] at ho29; rw [← Ny189.out] at ho29)); have n0_ := Aside0.mk (Kd.R_below (by (with_reducible repeat (first | apply Kd.R_alloc | apply Kd.R_drewN | apply Kd.R_drew)); exact HO157.out) hb); have n1_ := Aside0.mk (Kd.R_elder' (by (with_reducible repeat (first | apply Kd.R_alloc | apply Kd.R_drewN | apply Kd.R_drew)); exact HO160.out) (Kd.R_base ho29) hb); have n2_ := Aside0.mk (Kd.R_elder' (by (with_reducible repeat (first | apply Kd.R_alloc | apply Kd.R_drewN | apply Kd.R_drew)); exact HO164.out) (Kd.R_base ho29) hb); have n3_ := Aside0.mk (Kd.R_below (by (with_reducible repeat (first | apply Kd.R_alloc | apply Kd.R_drewN | apply Kd.R_drew)); exact HO168.out) hb); have n4_ := Aside0.mk (Kd.R_elder' (by (with_reducible repeat (first | apply Kd.R_alloc | apply Kd.R_drewN | apply Kd.R_drew)); exact HO177.out) (Kd.R_base ho29) hb); have n5_ := Aside0.mk (Kd.R_below (by (with_reducible repeat (first | apply Kd.R_alloc | apply Kd.R_drewN | apply Kd.R_drew)); exact HO181.out) hb); have n6_ := Aside0.mk (Kd.R_elder' (by (with_reducible repeat (first | apply Kd.R_alloc | apply Kd.R_drewN | apply Kd.R_drew)); exact HO184.out) (Kd.R_base ho29) hb); have n7_ := Aside0.mk (Kd.R_below (by (with_reducible repeat (first | apply Kd.R_alloc | apply Kd.R_drewN | apply Kd.R_drew)); exact HO188.out) hb); have n8_ := Aside0.mk (Kd.R_lower (Kd.R_new' (Kd.R_new' (Kd.R_new' (Kd.R_new' ho29 (Kd.R_lt (by (with_reducible repeat (first | apply Kd.R_alloc | apply Kd.R_drewN | apply Kd.R_drew)); exact HO160.out))) (Kd.R_lt (by (with_reducible repeat (first | apply Kd.R_alloc | apply Kd.R_drewN | apply Kd.R_drew)); exact HO164.out))) (Kd.R_lt (by (with_reducible repeat (first | apply Kd.R_alloc | apply Kd.R_drewN | apply Kd.R_drew)); exact HO177.out))) (Kd.R_lt (by (with_reducible repeat (first | apply Kd.R_alloc | apply Kd.R_drewN | apply Kd.R_drew)); exact HO184.out))) (below_size (by repeat (first | (with_reducible first | exact HB.out | apply below_alloc | apply pw_below_drewN | apply below_drew1) | exact HB.out)))); have n9_ := Aside0.mk (below_step (by repeat (first | (with_reducible first | exact HB.out | apply below_alloc | apply pw_below_drewN | apply below_drew1) | exact HB.out)) hb); clear HO157; clear HO160; clear HO164; clear HO168; clear HO177; clear HO181; clear HO184; clear HO188; clear HB; have HO157 := n0_; have HO160 := n1_; have HO164 := n2_; have HO168 := n3_; have HO177 := n4_; have HO181 := n5_; have HO184 := n6_; have HO188 := n7_; have HO191 := n8_; have HB := n9_; clear n0_ n1_ n2_ n3_ n4_ n5_ n6_ n7_ n8_ n9_; clear hb ho29; obtain ⟨Ao30, co30, eo30⟩ := Kd.R_slice HO191.out; subst eo30) | ((with_reducible refine gate_callee (f := 17) rfl ?_); refine goesL_ (some 50) rfl rfl Try.func17 (by kernel_rfl) rfl #[.slice Ao30 y189.length co30] rfl (by (try simp only [List.map_toArray, List.map_cons, List.map_nil]); first | done | rfl | (simp only [List.length_drop, List.length_take]; rfl)) ?_; (with_reducible refine (batch_Parse.calls _ _ y189 t192 t193 _ ?side1 ?side2 A7.out).mono ?_); (case side1 => repeat (first | exact (Kd.R_reads' HO191.out).2.2 | (with_reducible refine Kd.C_alloc ?_ _) | (with_reducible refine Kd.C_drewN ?_ _) | (with_reducible refine Kd.C_drew ?_))); (case side2 => exact (Kd.R_reads' HO191.out).2.1); rintro e w31 ⟨v194, rfl, ho0, hb⟩; refine ⟨_, rfl, ?_⟩; have n0_ := Aside0.mk (Kd.R_elder' (by (with_reducible repeat (first | apply Kd.R_alloc | apply Kd.R_drewN | apply Kd.R_drew)); exact HO157.out) (Kd.R_base ho0) hb); have n1_ := Aside0.mk (Kd.R_below (by (with_reducible repeat (first | apply Kd.R_alloc | apply Kd.R_drewN | apply Kd.R_drew)); exact HO160.out) hb); have n2_ := Aside0.mk (Kd.R_below (by (with_reducible repeat (first | apply Kd.R_alloc | apply Kd.R_drewN | apply Kd.R_drew)); exact HO164.out) hb); have n3_ := Aside0.mk (Kd.R_elder' (by (with_reducible repeat (first | apply Kd.R_alloc | apply Kd.R_drewN | apply Kd.R_drew)); exact HO168.out) (Kd.R_base ho0) hb); have n4_ := Aside0.mk (Kd.R_below (by (with_reducible repeat (first | apply Kd.R_alloc | apply Kd.R_drewN | apply Kd.R_drew)); exact HO177.out) hb); have n5_ := Aside0.mk (Kd.R_elder' (by (with_reducible repeat (first | apply Kd.R_alloc | apply Kd.R_drewN | apply Kd.R_drew)); exact HO181.out) (Kd.R_base ho0) hb); have n6_ := Aside0.mk (Kd.R_below (by (with_reducible repeat (first | apply Kd.R_alloc | apply Kd.R_drewN | apply Kd.R_drew)); exact HO184.out) hb); have n7_ := Aside0.mk (Kd.R_elder' (by (with_reducible repeat (first | apply Kd.R_alloc | apply Kd.R_drewN | apply Kd.R_drew)); exact HO188.out) (Kd.R_base ho0) hb); have n8_ := Aside0.mk (Kd.R_below (by (with_reducible repeat (first | apply Kd.R_alloc | apply Kd.R_drewN | apply Kd.R_drew)); exact HO191.out) hb); have n9_ := Aside0.mk (Kd.R_lower (Kd.R_new' (Kd.R_new' (Kd.R_new' (Kd.R_new' ho0 (Kd.R_lt (by (with_reducible repeat (first | apply Kd.R_alloc | apply Kd.R_drewN | apply Kd.R_drew)); exact HO157.out))) (Kd.R_lt (by (with_reducible repeat (first | apply Kd.R_alloc | apply Kd.R_drewN | apply Kd.R_drew)); exact HO168.out))) (Kd.R_lt (by (with_reducible repeat (first | apply Kd.R_alloc | apply Kd.R_drewN | apply Kd.R_drew)); exact HO181.out))) (Kd.R_lt (by (with_reducible repeat (first | apply Kd.R_alloc | apply Kd.R_drewN | apply Kd.R_drew)); exact HO188.out))) (below_size (by repeat (first | (with_reducible first | exact HB.out | apply below_alloc | apply pw_below_drewN | apply below_drew1) | exact HB.out)))); have n10_ := Aside0.mk (below_step (by repeat (first | (with_reducible first | exact HB.out | apply below_alloc | apply pw_below_drewN | apply below_drew1) | exact HB.out)) hb); clear HO157; clear HO160; clear HO164; clear HO168; clear HO177; clear HO181; clear HO184; clear HO188; clear HO191; clear HB; have HO157 := n0_; have HO160 := n1_; have HO164 := n2_; have HO168 := n3_; have HO177 := n4_; have HO181 := n5_; have HO184 := n6_; have HO188 := n7_; have HO191 := n8_; have HO195 := n9_; have HB := n10_; clear n0_ n1_ n2_ n3_ n4_ n5_ n6_ n7_ n8_ n9_ n10_; (try clear hb); (try clear hb2); (try clear hk); (try clear hi); (try clear ho0)) | (go_at_call 15; (refine calls_of_args (args' := #[.slice none (([] : List (S43))).length 0]) (by rfl) ?_; with_reducible refine (batch_Bytes.calls k _ _ ([] : List (S43)) t196 t197 _ ?side1 ?side2 A8.out).mono ?_); (case side1 => exact Kd.C_nil _ _); (case side2 => exact Nat.le_refl _); rintro e w32 ⟨v198, rfl, ho0, hb⟩; have n0_ := Aside0.mk (Kd.R_below (by (with_reducible repeat (first | apply Kd.R_alloc | apply Kd.R_drewN | apply Kd.R_drew)); exact HO157.out) hb); have n1_ := Aside0.mk (Kd.R_elder' (by (with_reducible repeat (first | apply Kd.R_alloc | apply Kd.R_drewN | apply Kd.R_drew)); exact HO160.out) (Kd.R_base ho0) hb); have n2_ := Aside0.mk (Kd.R_elder' (by (with_reducible repeat (first | apply Kd.R_alloc | apply Kd.R_drewN | apply Kd.R_drew)); exact HO164.out) (Kd.R_base ho0) hb); have n3_ := Aside0.mk (Kd.R_below (by (with_reducible repeat (first | apply Kd.R_alloc | apply Kd.R_drewN | apply Kd.R_drew)); exact HO168.out) hb); have n4_ := Aside0.mk (Kd.R_elder' (by (with_reducible repeat (first | apply Kd.R_alloc | apply Kd.R_drewN | apply Kd.R_drew)); exact HO177.out) (Kd.R_base ho0) hb); have n5_ := Aside0.mk (Kd.R_below (by (with_reducible repeat (first | apply Kd.R_alloc | apply Kd.R_drewN | apply Kd.R_drew)); exact HO181.out) hb); have n6_ := Aside0.mk (Kd.R_elder' (by (with_reducible repeat (first | apply Kd.R_alloc | apply Kd.R_drewN | apply Kd.R_drew)); exact HO184.out) (Kd.R_base ho0) hb); have n7_ := Aside0.mk (Kd.R_below (by (with_reducible repeat (first | apply Kd.R_alloc | apply Kd.R_drewN | apply Kd.R_drew)); exact HO188.out) hb); have n8_ := Aside0.mk (Kd.R_elder' (by (with_reducible repeat (first | apply Kd.R_alloc | apply Kd.R_drewN | apply Kd.R_drew)); exact HO191.out) (Kd.R_base ho0) hb); have n9_ := Aside0.mk (Kd.R_below (by (with_reducible repeat (first | apply Kd.R_alloc | apply Kd.R_drewN | apply Kd.R_drew)); exact HO195.out) hb); have n10_ := Aside0.mk (Kd.R_lower (Kd.R_new' (Kd.R_new' (Kd.R_new' (Kd.R_new' (Kd.R_new' ho0 (Kd.R_lt (by (with_reducible repeat (first | apply Kd.R_alloc | apply Kd.R_drewN | apply Kd.R_drew)); exact HO160.out))) (Kd.R_lt (by (with_reducible repeat (first | apply Kd.R_alloc | apply Kd.R_drewN | apply Kd.R_drew)); exact HO164.out))) (Kd.R_lt (by (with_reducible repeat (first | apply Kd.R_alloc | apply Kd.R_drewN | apply Kd.R_drew)); exact HO177.out))) (Kd.R_lt (by (with_reducible repeat (first | apply Kd.R_alloc | apply Kd.R_drewN | apply Kd.R_drew)); exact HO184.out))) (Kd.R_lt (by (with_reducible repeat (first | apply Kd.R_alloc | apply Kd.R_drewN | apply Kd.R_drew)); exact HO191.out))) (below_size (by repeat (first | (with_reducible first | exact HB.out | apply below_alloc | apply pw_below_drewN | apply below_drew1) | exact HB.out)))); have n11_ := Aside0.mk (below_step (by repeat (first | (with_reducible first | exact HB.out | apply below_alloc | apply pw_below_drewN | apply below_drew1) | exact HB.out)) hb); clear HO157; clear HO160; clear HO164; clear HO168; clear HO177; clear HO181; clear HO184; clear HO188; clear HO191; clear HO195; clear HB; have HO157 := n0_; have HO160 := n1_; have HO164 := n2_; have HO168 := n3_; have HO177 := n4_; have HO181 := n5_; have HO184 := n6_; have HO188 := n7_; have HO191 := n8_; have HO195 := n9_; have HO199 := n10_; have HB := n11_; clear n0_ n1_ n2_ n3_ n4_ n5_ n6_ n7_ n8_ n9_ n10_ n11_; (try clear hb); (try clear hb2); (try clear hk); (try clear hi); (try clear ho0); (try apply_assumption)) | ((with_reducible refine gate_dst (N := 57) rfl ?_); (try (refine gate_guard (by rfl) ?_; dsimp only)); refine Kd.R_make k43 _ 43 rfl (N := 57) rfl 22 _ _ rfl 129 rfl rfl Try.underlying22 (.agg #[(.int .u8 0), (.string ⟨#[]⟩), (.string ⟨#[]⟩)]) 40 info43 rfl (by decide) (by omega) z43 (ok := fun _ => True) (okp := fun _ => True) (k43_mkM _ _ _ z43 ) (fun _ hk => hk) trivial (by omega) (by omega) (Below.refl _ _) (Nat.le_refl _) ?_; intro v201 w33 ho34 hb hg_ hnew_; clear hg_ hnew_; (first | rw [← Ny200.out] at ho34 | (simp only [Int.reduceToNat] at ho34; rw [← Ny200.out] at ho34)); have n0_ := Aside0.mk (Kd.R_elder' (by (with_reducible repeat (first | apply Kd.R_alloc | apply Kd.R_drewN | apply Kd.R_drew)); exact HO157.out) (Kd.R_base ho34) hb); have n1_ := Aside0.mk (Kd.R_below (by (with_reducible repeat (first | apply Kd.R_alloc | apply Kd.R_drewN | apply Kd.R_drew)); exact HO160.out) hb); have n2_ := Aside0.mk (Kd.R_below (by (with_reducible repeat (first | apply Kd.R_alloc | apply Kd.R_drewN | apply Kd.R_drew)); exact HO164.out) hb); have n3_ := Aside0.mk (Kd.R_elder' (by (with_reducible repeat (first | apply Kd.R_alloc | apply Kd.R_drewN | apply Kd.R_drew)); exact HO168.out) (Kd.R_base ho34) hb); have n4_ := Aside0.mk (Kd.R_below (by (with_reducible repeat (first | apply Kd.R_alloc | apply Kd.R_drewN | apply Kd.R_drew)); exact HO177.out) hb); have n5_ := Aside0.mk (Kd.R_elder' (by (with_reducible repeat (first | apply Kd.R_alloc | apply Kd.R_drewN | apply Kd.R_drew)); exact HO181.out) (Kd.R_base ho34) hb); have n6_ := Aside0.mk (Kd.R_below (by (with_reducible repeat (first | apply Kd.R_alloc | apply Kd.R_drewN | apply Kd.R_drew)); exact HO184.out) hb); have n7_ := Aside0.mk (Kd.R_elder' (by (with_reducible repeat (first | apply Kd.R_alloc | apply Kd.R_drewN | apply Kd.R_drew)); exact HO188.out) (Kd.R_base ho34) hb); have n8_ := Aside0.mk (Kd.R_below (by (with_reducible repeat (first | apply Kd.R_alloc | apply Kd.R_drewN | apply Kd.R_drew)); exact HO191.out) hb); have n9_ := Aside0.mk (Kd.R_elder' (by (with_reducible repeat (first | apply Kd.R_alloc | apply Kd.R_drewN | apply Kd.R_drew)); exact HO195.out) (Kd.R_base ho34) hb); have n10_ := Aside0.mk (Kd.R_below (by (with_reducible repeat (first | apply Kd.R_alloc | apply Kd.R_drewN | apply Kd.R_drew)); exact HO199.out) hb); have n11_ := Aside0.mk (Kd.R_lower (Kd.R_new' (Kd.R_new' (Kd.R_new' (Kd.R_new' (Kd.R_new' ho34 (Kd.R_lt (by (with_reducible repeat (first | apply Kd.R_alloc | apply Kd.R_drewN | apply Kd.R_drew)); exact HO157.out))) (Kd.R_lt (by (with_reducible repeat (first | apply Kd.R_alloc | apply Kd.R_drewN | apply Kd.R_drew)); exact HO168.out))) (Kd.R_lt (by (with_reducible repeat (first | apply Kd.R_alloc | apply Kd.R_drewN | apply Kd.R_drew)); exact HO181.out))) (Kd.R_lt (by (with_reducible repeat (first | apply Kd.R_alloc | apply Kd.R_drewN | apply Kd.R_drew)); exact HO188.out))) (Kd.R_lt (by (with_reducible repeat (first | apply Kd.R_alloc | apply Kd.R_drewN | apply Kd.R_drew)); exact HO195.out))) (below_size (by repeat (first | (with_reducible first | exact HB.out | apply below_alloc | apply pw_below_drewN | apply below_drew1) | exact HB.out)))); have n12_ := Aside0.mk (below_step (by repeat (first | (with_reducible first | exact HB.out | apply below_alloc | apply pw_below_drewN | apply below_drew1) | exact HB.out)) hb); clear HO157; clear HO160; clear HO164; clear HO168; clear HO177; clear HO181; clear HO184; clear HO188; clear HO191; clear HO195; clear HO199; clear HB; have HO157 := n0_; have HO160 := n1_; have HO164 := n2_; have HO168 := n3_; have HO177 := n4_; have HO181 := n5_; have HO184 := n6_; have HO188 := n7_; have HO191 := n8_; have HO195 := n9_; have HO199 := n10_; have HO202 := n11_; have HB := n12_; clear n0_ n1_ n2_ n3_ n4_ n5_ n6_ n7_ n8_ n9_ n10_ n11_ n12_; clear hb ho34; obtain ⟨Ao35, co35, eo35⟩ := Kd.R_slice HO202.out; subst eo35))
        go_loopg [60] k (fun kq v60 w' => ∃ (x15_1 : List (S43)) (x60_1 : Int), v60 = .int .i64 x60_1 ∧ Aside0 (ratlinelaw04_awake.l0 kq y155 y158 t161 t162 t165 t166 t179 t186 t193 t197 x15_1 (y200.length : Int) x60_1 = some r) ∧ Aside0 (kq ≤ k) ∧ Aside0 (Kd.R k43 43 w' w.heap.size (fun k_ => some k_ ≠ (v167 : Value).ownBlock ∧ some k_ ≠ ((.slice Ao35 y200.length co35) : Value).ownBlock) (.slice Ao14 y155.length co14) y155) ∧ Aside0 (Kd.R (Kd.int .u8) 5 w' w.heap.size (fun k_ => some k_ ≠ (v163 : Value).ownBlock) (.slice Ao16 y158.length co16) y158) ∧ Aside0 (Kd.R (Kd.int .u8) 5 w' w.heap.size (fun k_ => some k_ ≠ ((.slice Ao16 y158.length co16) : Value).ownBlock) v163 t161) ∧ Aside0 (Kd.R k43 43 w' w.heap.size (fun k_ => some k_ ≠ ((.slice Ao14 y155.length co14) : Value).ownBlock ∧ some k_ ≠ ((.slice Ao35 y200.length co35) : Value).ownBlock) v167 t165) ∧ Aside0 (Kd.R k43 43 w' w.heap.size (fun k_ => some k_ ≠ ((.slice Ao14 y155.length co14) : Value).ownBlock ∧ some k_ ≠ (v167 : Value).ownBlock) (.slice Ao35 y200.length co35) x15_1) ∧ Aside0 (Below w.heap.size w w'))
        case atStart => exact ⟨(y200), (0), (by first | rfl | (simp; done) | (simp [*]; done)), H', ⟨Nat.le_refl _⟩, ⟨by (with_reducible repeat (first | apply Kd.R_alloc | apply Kd.R_drewN | apply Kd.R_drew)); exact Kd.R_mono HO157.out (fun _ hk => ⟨hk.1.1.1.1.2, hk.2⟩)⟩, ⟨by (with_reducible repeat (first | apply Kd.R_alloc | apply Kd.R_drewN | apply Kd.R_drew)); exact Kd.R_mono HO160.out (fun _ hk => hk.1.1.1.1)⟩, ⟨by (with_reducible repeat (first | apply Kd.R_alloc | apply Kd.R_drewN | apply Kd.R_drew)); exact Kd.R_mono HO164.out (fun _ hk => hk.1.1.1.1)⟩, ⟨by (with_reducible repeat (first | apply Kd.R_alloc | apply Kd.R_drewN | apply Kd.R_drew)); exact Kd.R_mono HO168.out (fun _ hk => ⟨hk.1.1.1.1.2, hk.2⟩)⟩, ⟨by (with_reducible repeat (first | apply Kd.R_alloc | apply Kd.R_drewN | apply Kd.R_drew)); exact Kd.R_mono HO202.out (fun _ hk => ⟨hk.1.1.1.1.2, hk.1.1.1.2⟩)⟩, ⟨by repeat (first | (with_reducible first | exact HB.out | apply below_alloc | apply pw_below_drewN | apply below_drew1) | exact HB.out)⟩⟩
        case round =>
          clear H'
          try clear c1
          try clear p2
          try clear c3
          try clear c4
          try clear c9
          try clear c9b0
          try clear c9b1
          try clear c14
          try clear c15
          try clear c17
          obtain ⟨x15_1, x60_1, rfl, HA, HK1, HO_1, HO_2, HO_3, HO_5, HO_15, HB⟩ := hrel
          have hl15_1 := (Kd.R_reads' HO_15.out).1
          rw [hl15_1] at HO_15
          (try simp only [hl15_1])
          (try simp only [hl15_1] at HO_1)
          (try simp only [hl15_1] at HO_2)
          (try simp only [hl15_1] at HO_3)
          (try simp only [hl15_1] at HO_5)
          cases gk with
          | zero => exact absurd HA.out (by simp [ratlinelaw04_awake.l0])
          | succ k1 =>
            have H := HA.out
            clear HA
            simp only [ratlinelaw04_awake.l0] at H
            by_cases c36 : x60_1 < (y200.length : Int)
            · rw [if_pos c36] at H
              have c36b0 : decide (x60_1 < (y200.length : Int)) = true := decide_eq_true c36
              (try rw [hl15_1] at c36b0)
              clear c36
              by_cases c37 : 0 < (y155.length : Int)
              · rw [if_pos c37] at H
                have c37b0 : decide (0 < (y155.length : Int)) = true := decide_eq_true c37
                have c37b1 : decide (0 < y155.length) = true := decide_eq_true (by omega)
                clear c37
                by_cases c38 : 0 ≤ x60_1
                · rw [if_pos c38] at H
                  have c38b0 : decide (0 ≤ x60_1) = true := decide_eq_true c38
                  clear c38
                  by_cases c39 : x60_1 < (x15_1.length : Int)
                  · rw [if_pos c39] at H
                    have c39b0 : decide (x60_1 < (x15_1.length : Int)) = true := decide_eq_true c39
                    clear c39
                    obtain ⟨y204, hy204⟩ : ∃ y_ : List (S43), y_ = (x15_1.set (x60_1 : Int).toNat (⟨(rd_T43 y155 0).f0, (rd_T43 y155 0).f1, (rd_T43 y155 0).f2⟩ : S43)) := ⟨_, rfl⟩
                    replace H : (ratlinelaw04_awake.l0 k1 y155 y158 t161 t162 t165 t166 t179 t186 t193 t197 y204 (y200.length : Int) (wrap64 (x60_1 + 1))) = some r := by first | (rw [hy204]; with_reducible exact H) | (have H2_ := (Option.bind_some _ _).symm.trans H; rw [hy204]; with_reducible exact H2_) | (have H2_ := (Option.bind_some _ _).symm.trans H; with_reducible exact H2_) | with_reducible exact H | (rw [hy204]; exact H) | exact H
                    have Ny204 := Aside0.mk hy204
                    clear hy204
                    have H' := Aside0.mk H
                    clear H
                    have p203 : 0 ≤ (0 : Int) := (by omega)
                    have q203 : 0 < (y155.length : Int) := of_decide_eq_true (by first | (with_reducible assumption) | assumption)
                    obtain ⟨ad203, e203, hx203_0, hx203_1, hx203_2⟩ := at_T43 (Kd.R_reads' HO_1.out).2.2 0 p203 q203
                    cases e203
                    have qi203 : (0 < y155.length) = True := eq_true (by omega)
                    (try rw [show ((0 : Int)).toNat = 0 from rfl] at hx203_0)
                    (try rw [show 0 * 3 = 0 from rfl] at hx203_0)
                    (try rw [Addr.add_zero'] at hx203_0)
                    (try rw [show ((0 : Int)).toNat = 0 from rfl] at hx203_1)
                    (try rw [show 0 * 3 = 0 from rfl] at hx203_1)
                    (try rw [Addr.add_zero'] at hx203_1)
                    (try rw [show ((0 : Int)).toNat = 0 from rfl] at hx203_2)
                    (try rw [show 0 * 3 = 0 from rfl] at hx203_2)
                    (try rw [Addr.add_zero'] at hx203_2)
                    replace p203 := eq_true p203
                    replace q203 := eq_true q203
                    have p40 : 0 ≤ (x60_1 : Int) := of_decide_eq_true (by first | (with_reducible assumption) | assumption)
                    have q40 : (x60_1 : Int) < ((x15_1.length : Int) : Int) := of_decide_eq_true (by first | (with_reducible assumption) | assumption)
                    obtain ⟨go40, co40, eo40, gb40, gl40, cl40, HG40⟩ := Kd.R_form HO_15.out (by omega)
                    (first | cases eo40 | (injection eo40 with ea_ en_ ec_; (first | subst ea_ | (injection ea_ with ea_; subst ea_)); subst ec_; clear en_))
                    have GB40 := Aside0.mk gb40
                    have GG40 := Aside0.mk HG40
                    clear gb40 gl40 HG40
                    obtain ⟨ce40, hcl40, hM40, hcc40, hfr40⟩ := Kd.R_elem HO_15.out z43 (x60_1 : Int) p40 q40
                    obtain rfl := k43_openM hM40
                    have hx40_0 : wr.cell? ⟨go40, (x60_1 : Int).toNat * 3, none⟩ = some (.int .u8 ((rd_T43 x15_1 x60_1).f0)) := hcc40 0 _ rfl
                    have hx40_1 : wr.cell? ⟨go40, (x60_1 : Int).toNat * 3 + 1, none⟩ = some (.string ((rd_T43 x15_1 x60_1).f1)) := hcc40 1 _ rfl
                    have hx40_2 : wr.cell? ⟨go40, (x60_1 : Int).toNat * 3 + 2, none⟩ = some (.string ((rd_T43 x15_1 x60_1).f2)) := hcc40 2 _ rfl
                    have hf40_0 : wr.frozen? ⟨go40, (x60_1 : Int).toNat * 3, none⟩ = false := hfr40 0
                    have hf40_1 : wr.frozen? ⟨go40, (x60_1 : Int).toNat * 3 + 1, none⟩ = false := hfr40 1
                    have hf40_2 : wr.frozen? ⟨go40, (x60_1 : Int).toNat * 3 + 2, none⟩ = false := hfr40 2
                    clear hcl40 hcc40 hfr40 hM40
                    replace p40 := eq_true p40
                    replace q40 := eq_true q40
                    have HX41 := Aside0.mk (show Kd.R k43 43 wr w.heap.size (fun k_ => some k_ ≠ (.slice (some ad203) y155.length co14 : Value).ownBlock ∧ some k_ ≠ (v167 : Value).ownBlock) (.slice (some ⟨go40, 0, none⟩) x15_1.length co35) x15_1 from (by (with_reducible repeat (first | apply Kd.R_alloc | apply Kd.R_drewN | apply Kd.R_drew)); exact HO_15.out))
                    obtain ⟨ce41, hcl41, hM41, hcc41, hfr41⟩ := Kd.R_elem HX41.out z43 (x60_1 : Int) (of_decide_eq_true (by first | (with_reducible assumption) | assumption)) (by have h_ : (x60_1 : Int) < ((x15_1.length : Int) : Int) := of_decide_eq_true (by first | (with_reducible assumption) | assumption); first | exact h_ | (have e_ := (Kd.R_reads' HO_15.out).1; omega) | simpa using h_)
                    obtain rfl := k43_openM hM41
                    have HP41 := Kd.R_seg HX41.out (x60_1 : Int) (of_decide_eq_true (by first | (with_reducible assumption) | assumption)) (by have h_ : (x60_1 : Int) < ((x15_1.length : Int) : Int) := of_decide_eq_true (by first | (with_reducible assumption) | assumption); first | exact h_ | (have e_ := (Kd.R_reads' HO_15.out).1; omega) | simpa using h_) (seg := [.int .u8 ((rd_T43 y155 0).f0), .string ((rd_T43 y155 0).f1), .string ((rd_T43 y155 0).f2)]) (j := 0) hcl41 hcc41 (show 3 ≤ 3 from by decide) (x' := (⟨(rd_T43 y155 0).f0, (rd_T43 y155 0).f1, (rd_T43 y155 0).f2⟩ : S43)) (k43_mkM _ _ _ (⟨(rd_T43 y155 0).f0, (rd_T43 y155 0).f1, (rd_T43 y155 0).f2⟩ : S43) ) (fun _ hk => hk)
                    have hx41_0 := hcc41 0 _ rfl
                    (try simp only [show (k43).sz = 3 from rfl, Nat.mul_one, Nat.add_zero] at hx41_0)
                    have hf41_0 := hfr41 0
                    (try simp only [show (k43).sz = 3 from rfl, Nat.mul_one, Nat.add_zero] at hf41_0)
                    have hx41_1 := hcc41 1 _ rfl
                    (try simp only [show (k43).sz = 3 from rfl, Nat.mul_one, Nat.add_zero] at hx41_1)
                    have hf41_1 := hfr41 1
                    (try simp only [show (k43).sz = 3 from rfl, Nat.mul_one, Nat.add_zero] at hf41_1)
                    have hx41_2 := hcc41 2 _ rfl
                    (try simp only [show (k43).sz = 3 from rfl, Nat.mul_one, Nat.add_zero] at hx41_2)
                    have hf41_2 := hfr41 2
                    (try simp only [show (k43).sz = 3 from rfl, Nat.mul_one, Nat.add_zero] at hf41_2)
                    clear hcl41 hcc41 hfr41 hM41
                    first
                      | (go_upto_region 17 with (first | ((with_reducible refine gate_store (t := 43) (p := 68) rfl ?_); refine store_event (t := 43) (p := 68) (v := ?vo_w42) (w1 := (((wr.setCell ⟨go40, (x60_1 : Int).toNat * 3, none⟩ (.int .u8 ((rd_T43 y155 0).f0))).setCell ⟨go40, (x60_1 : Int).toNat * 3 + 1, none⟩ (.string ((rd_T43 y155 0).f1))).setCell ⟨go40, (x60_1 : Int).toNat * 3 + 2, none⟩ (.string ((rd_T43 y155 0).f2)))) ?hg ?ho ?hn ?hr ?_; (case ho => rfl); (case hg => rfl); (case hn => rfl); (case hr => first | (go_simp; done) | (go_simp; rfl)); intro w42 hw; have hg : wr.grownBy w42 (some go40) := (by rw [hw]; exact HP41.2); have hp_ : Kd.R k43 43 w42 w.heap.size (fun k_ => some k_ ≠ (.slice (some ad203) y155.length co14 : Value).ownBlock ∧ some k_ ≠ (v167 : Value).ownBlock) (.slice (some ⟨go40, 0, none⟩) x15_1.length co35) y204 := (by rw [hw, Ny204.out]; exact HP41.1); clear HP41; have n0_ := Aside0.mk (Kd.R_after (v := (.slice (some ⟨go40, 0, none⟩) x15_1.length co35)) (v1 := (.slice (some ⟨go40, 0, none⟩) x15_1.length co35)) (ok := (fun k_ => some k_ ≠ (v167 : Value).ownBlock)) (by (with_reducible repeat (first | apply Kd.R_alloc | apply Kd.R_drewN | apply Kd.R_drew)); exact HO_1.out) hg (.inl rfl)); have n1_ := Aside0.mk (Kd.R_over' (v := (.slice (some ⟨go40, 0, none⟩) x15_1.length co35)) (by (with_reducible repeat (first | apply Kd.R_alloc | apply Kd.R_drewN | apply Kd.R_drew)); exact HO_2.out) (Kd.R_typed HO_15.out) (by decide) hg); have n2_ := Aside0.mk (Kd.R_over' (v := (.slice (some ⟨go40, 0, none⟩) x15_1.length co35)) (by (with_reducible repeat (first | apply Kd.R_alloc | apply Kd.R_drewN | apply Kd.R_drew)); exact HO_3.out) (Kd.R_typed HO_15.out) (by decide) hg); have n3_ := Aside0.mk (Kd.R_after (v := (.slice (some ⟨go40, 0, none⟩) x15_1.length co35)) (v1 := (.slice (some ⟨go40, 0, none⟩) x15_1.length co35)) (ok := (fun k_ => some k_ ≠ (.slice (some ad203) y155.length co14 : Value).ownBlock)) (by (with_reducible repeat (first | apply Kd.R_alloc | apply Kd.R_drewN | apply Kd.R_drew)); exact HO_5.out) hg (.inl rfl)); have n4_ := Aside0.mk (hp_); have n5_ := Aside0.mk ((by rw [hw]; exact below_set (below_set (below_set (HB.out) GB40.out) GB40.out) GB40.out : Below w.heap.size w w42)); clear HO_1; clear HO_2; clear HO_3; clear HO_5; clear HO_15; clear HB; have HO_1 := n0_; have HO_2 := n1_; have HO_3 := n2_; have HO_5 := n3_; have HO_15 := n4_; have HB := n5_; clear n0_ n1_ n2_ n3_ n4_ n5_; clear hg hw hp_)); refine wp_region_list ?_; simp only [List.append_eq, List.cons_append, List.nil_append])
                      | skip
                    go_wp2_with (first | ((with_reducible refine gate_store (t := 43) (p := 68) rfl ?_); refine store_event (t := 43) (p := 68) (v := ?vo_w42) (w1 := (((wr.setCell ⟨go40, (x60_1 : Int).toNat * 3, none⟩ (.int .u8 ((rd_T43 y155 0).f0))).setCell ⟨go40, (x60_1 : Int).toNat * 3 + 1, none⟩ (.string ((rd_T43 y155 0).f1))).setCell ⟨go40, (x60_1 : Int).toNat * 3 + 2, none⟩ (.string ((rd_T43 y155 0).f2)))) ?hg ?ho ?hn ?hr ?_; (case ho => rfl); (case hg => rfl); (case hn => rfl); (case hr => first | (go_simp; done) | (go_simp; rfl)); intro w42 hw; have hg : wr.grownBy w42 (some go40) := (by rw [hw]; exact HP41.2); have hp_ : Kd.R k43 43 w42 w.heap.size (fun k_ => some k_ ≠ (.slice (some ad203) y155.length co14 : Value).ownBlock ∧ some k_ ≠ (v167 : Value).ownBlock) (.slice (some ⟨go40, 0, none⟩) x15_1.length co35) y204 := (by rw [hw, Ny204.out]; exact HP41.1); clear HP41; have n0_ := Aside0.mk (Kd.R_after (v := (.slice (some ⟨go40, 0, none⟩) x15_1.length co35)) (v1 := (.slice (some ⟨go40, 0, none⟩) x15_1.length co35)) (ok := (fun k_ => some k_ ≠ (v167 : Value).ownBlock)) (by (with_reducible repeat (first | apply Kd.R_alloc | apply Kd.R_drewN | apply Kd.R_drew)); exact HO_1.out) hg (.inl rfl)); have n1_ := Aside0.mk (Kd.R_over' (v := (.slice (some ⟨go40, 0, none⟩) x15_1.length co35)) (by (with_reducible repeat (first | apply Kd.R_alloc | apply Kd.R_drewN | apply Kd.R_drew)); exact HO_2.out) (Kd.R_typed HO_15.out) (by decide) hg); have n2_ := Aside0.mk (Kd.R_over' (v := (.slice (some ⟨go40, 0, none⟩) x15_1.length co35)) (by (with_reducible repeat (first | apply Kd.R_alloc | apply Kd.R_drewN | apply Kd.R_drew)); exact HO_3.out) (Kd.R_typed HO_15.out) (by decide) hg); have n3_ := Aside0.mk (Kd.R_after (v := (.slice (some ⟨go40, 0, none⟩) x15_1.length co35)) (v1 := (.slice (some ⟨go40, 0, none⟩) x15_1.length co35)) (ok := (fun k_ => some k_ ≠ (.slice (some ad203) y155.length co14 : Value).ownBlock)) (by (with_reducible repeat (first | apply Kd.R_alloc | apply Kd.R_drewN | apply Kd.R_drew)); exact HO_5.out) hg (.inl rfl)); have n4_ := Aside0.mk (hp_); have n5_ := Aside0.mk ((by rw [hw]; exact below_set (below_set (below_set (HB.out) GB40.out) GB40.out) GB40.out : Below w.heap.size w w42)); clear HO_1; clear HO_2; clear HO_3; clear HO_5; clear HO_15; clear HB; have HO_1 := n0_; have HO_2 := n1_; have HO_3 := n2_; have HO_5 := n3_; have HO_15 := n4_; have HB := n5_; clear n0_ n1_ n2_ n3_ n4_ n5_; clear hg hw hp_))
                    (try simp only [← hl15_1])
                    go_roundg k1
                    case measure => have := HK1.out; omega
                    case rel => exact ⟨(y204), (wrap64 (x60_1 + 1)), (by first | rfl | (simp; done) | (simp [*]; done)), H', ⟨by have := HK1.out; omega⟩, ⟨by (try simp only [hl15_1]); (with_reducible repeat (first | apply Kd.R_alloc | apply Kd.R_drewN | apply Kd.R_drew)); exact HO_1.out⟩, ⟨by (try simp only [hl15_1]); (with_reducible repeat (first | apply Kd.R_alloc | apply Kd.R_drewN | apply Kd.R_drew)); exact HO_2.out⟩, ⟨by (try simp only [hl15_1]); (with_reducible repeat (first | apply Kd.R_alloc | apply Kd.R_drewN | apply Kd.R_drew)); exact HO_3.out⟩, ⟨by (try simp only [hl15_1]); (with_reducible repeat (first | apply Kd.R_alloc | apply Kd.R_drewN | apply Kd.R_drew)); exact HO_5.out⟩, ⟨by (try simp only [hl15_1]); (with_reducible repeat (first | apply Kd.R_alloc | apply Kd.R_drewN | apply Kd.R_drew)); exact HO_15.out⟩, ⟨by repeat (first | (with_reducible first | exact HB.out | apply below_alloc | apply pw_below_drewN | apply below_drew1) | exact HB.out)⟩⟩
                  · rw [if_neg c39] at H
                    exact absurd H (by simp)
                · rw [if_neg c38] at H
                  exact absurd H (by simp)
              · rw [if_neg c37] at H
                exact absurd H (by simp)
            · rw [if_neg c36] at H
              have c36b0 : decide (x60_1 < (y200.length : Int)) = false := decide_eq_false c36
              (try rw [hl15_1] at c36b0)
              clear c36
              replace H := Option.bind_eq_some_iff.mp H
              obtain ⟨⟨t205, t206⟩, A430, H⟩ := H
              replace H : ((batch_Entries.f k1 y155 7).bind fun t209 => (if (wrap64 (t162 + t166)) = 0 then ((ratlinelaw02_Same.f t161 y158).bind fun t212 => (if t212 = true then ((ratlinelaw04_Same.f k1 t165 y155).bind fun t213 => (if t213 = true then (if t179 = 40 then (if t186 = 40 then (if t193 = 40 then (if t197 = 40 then (if t206 = 40 then ((ratlinelaw04_Entries.f k1 t209 (([(⟨(⟨(⟨#[97]⟩ : ByteArray), 7, 1⟩ : S39), (⟨#[120]⟩ : ByteArray)⟩ : S41), (⟨(⟨(⟨#[98]⟩ : ByteArray), 8, 0⟩ : S39), (⟨#[]⟩ : ByteArray)⟩ : S41)] : List (S41)))).bind fun t217 => (some t217)) else (none)) else (none)) else (none)) else (none)) else (none)) else (none))) else (none))) else (none))) = some r := H
              have A43 := Aside0.mk A430
              clear A430
              replace H := Option.bind_eq_some_iff.mp H
              obtain ⟨t209, A440, H⟩ := H
              replace H : (if (wrap64 (t162 + t166)) = 0 then ((ratlinelaw02_Same.f t161 y158).bind fun t212 => (if t212 = true then ((ratlinelaw04_Same.f k1 t165 y155).bind fun t213 => (if t213 = true then (if t179 = 40 then (if t186 = 40 then (if t193 = 40 then (if t197 = 40 then (if t206 = 40 then ((ratlinelaw04_Entries.f k1 t209 (([(⟨(⟨(⟨#[97]⟩ : ByteArray), 7, 1⟩ : S39), (⟨#[120]⟩ : ByteArray)⟩ : S41), (⟨(⟨(⟨#[98]⟩ : ByteArray), 8, 0⟩ : S39), (⟨#[]⟩ : ByteArray)⟩ : S41)] : List (S41)))).bind fun t217 => (some t217)) else (none)) else (none)) else (none)) else (none)) else (none)) else (none))) else (none))) else (none)) = some r := H
              have A44 := Aside0.mk A440
              clear A440
              by_cases c45 : (wrap64 (t162 + t166)) = 0
              · rw [if_pos c45] at H
                have c45b0 : ((wrap64 (t162 + t166)) == 0) = true := beq_iff_eq.mpr c45
                have c45b1 : ((wrap64 (t162 + t166)) != 0) = false := bne_eq_false_iff_eq.mpr c45
                clear c45
                replace H := Option.bind_eq_some_iff.mp H
                obtain ⟨t212, A460, H⟩ := H
                replace H : (if t212 = true then ((ratlinelaw04_Same.f k1 t165 y155).bind fun t213 => (if t213 = true then (if t179 = 40 then (if t186 = 40 then (if t193 = 40 then (if t197 = 40 then (if t206 = 40 then ((ratlinelaw04_Entries.f k1 t209 (([(⟨(⟨(⟨#[97]⟩ : ByteArray), 7, 1⟩ : S39), (⟨#[120]⟩ : ByteArray)⟩ : S41), (⟨(⟨(⟨#[98]⟩ : ByteArray), 8, 0⟩ : S39), (⟨#[]⟩ : ByteArray)⟩ : S41)] : List (S41)))).bind fun t217 => (some t217)) else (none)) else (none)) else (none)) else (none)) else (none)) else (none))) else (none)) = some r := H
                have A46 := Aside0.mk A460
                clear A460
                by_cases c47 : t212 = true
                · subst c47
                  have H1 : ((ratlinelaw04_Same.f k1 t165 y155).bind fun t213 => (if t213 = true then (if t179 = 40 then (if t186 = 40 then (if t193 = 40 then (if t197 = 40 then (if t206 = 40 then ((ratlinelaw04_Entries.f k1 t209 (([(⟨(⟨(⟨#[97]⟩ : ByteArray), 7, 1⟩ : S39), (⟨#[120]⟩ : ByteArray)⟩ : S41), (⟨(⟨(⟨#[98]⟩ : ByteArray), 8, 0⟩ : S39), (⟨#[]⟩ : ByteArray)⟩ : S41)] : List (S41)))).bind fun t217 => (some t217)) else (none)) else (none)) else (none)) else (none)) else (none)) else (none))) = some r := by rw [if_pos rfl] at H; exact H
                  clear H
                  have H := H1
                  clear H1
                  replace H := Option.bind_eq_some_iff.mp H
                  obtain ⟨t213, A480, H⟩ := H
                  replace H : (if t213 = true then (if t179 = 40 then (if t186 = 40 then (if t193 = 40 then (if t197 = 40 then (if t206 = 40 then ((ratlinelaw04_Entries.f k1 t209 (([(⟨(⟨(⟨#[97]⟩ : ByteArray), 7, 1⟩ : S39), (⟨#[120]⟩ : ByteArray)⟩ : S41), (⟨(⟨(⟨#[98]⟩ : ByteArray), 8, 0⟩ : S39), (⟨#[]⟩ : ByteArray)⟩ : S41)] : List (S41)))).bind fun t217 => (some t217)) else (none)) else (none)) else (none)) else (none)) else (none)) else (none)) = some r := H
                  have A48 := Aside0.mk A480
                  clear A480
                  by_cases c49 : t213 = true
                  · subst c49
                    have H1 : (if t179 = 40 then (if t186 = 40 then (if t193 = 40 then (if t197 = 40 then (if t206 = 40 then ((ratlinelaw04_Entries.f k1 t209 (([(⟨(⟨(⟨#[97]⟩ : ByteArray), 7, 1⟩ : S39), (⟨#[120]⟩ : ByteArray)⟩ : S41), (⟨(⟨(⟨#[98]⟩ : ByteArray), 8, 0⟩ : S39), (⟨#[]⟩ : ByteArray)⟩ : S41)] : List (S41)))).bind fun t217 => (some t217)) else (none)) else (none)) else (none)) else (none)) else (none)) = some r := by rw [if_pos rfl] at H; exact H
                    clear H
                    have H := H1
                    clear H1
                    by_cases c50 : t179 = 40
                    · rw [if_pos c50] at H
                      have c50b0 : (t179 == 40) = true := beq_iff_eq.mpr c50
                      have c50b1 : (t179 != 40) = false := bne_eq_false_iff_eq.mpr c50
                      clear c50
                      by_cases c51 : t186 = 40
                      · rw [if_pos c51] at H
                        have c51b0 : (t186 == 40) = true := beq_iff_eq.mpr c51
                        have c51b1 : (t186 != 40) = false := bne_eq_false_iff_eq.mpr c51
                        clear c51
                        by_cases c52 : t193 = 40
                        · rw [if_pos c52] at H
                          have c52b0 : (t193 == 40) = true := beq_iff_eq.mpr c52
                          have c52b1 : (t193 != 40) = false := bne_eq_false_iff_eq.mpr c52
                          clear c52
                          by_cases c53 : t197 = 40
                          · rw [if_pos c53] at H
                            have c53b0 : (t197 == 40) = true := beq_iff_eq.mpr c53
                            have c53b1 : (t197 != 40) = false := bne_eq_false_iff_eq.mpr c53
                            clear c53
                            by_cases c54 : t206 = 40
                            · rw [if_pos c54] at H
                              have c54b0 : (t206 == 40) = true := beq_iff_eq.mpr c54
                              have c54b1 : (t206 != 40) = false := bne_eq_false_iff_eq.mpr c54
                              clear c54
                              obtain ⟨y214, hy214⟩ : ∃ y_ : List (S41), y_ = (([(⟨(⟨(⟨#[97]⟩ : ByteArray), 7, 1⟩ : S39), (⟨#[120]⟩ : ByteArray)⟩ : S41), (⟨(⟨(⟨#[98]⟩ : ByteArray), 8, 0⟩ : S39), (⟨#[]⟩ : ByteArray)⟩ : S41)] : List (S41))) := ⟨_, rfl⟩
                              replace H : ((ratlinelaw04_Entries.f k1 t209 y214).bind fun t217 => (some t217)) = some r := by first | (rw [hy214]; with_reducible exact H) | (have H2_ := (Option.bind_some _ _).symm.trans H; rw [hy214]; with_reducible exact H2_) | (have H2_ := (Option.bind_some _ _).symm.trans H; with_reducible exact H2_) | with_reducible exact H | (rw [hy214]; exact H) | exact H
                              have Ny214 := Aside0.mk hy214
                              clear hy214
                              replace H := Option.bind_eq_some_iff.mp H
                              obtain ⟨t217, A550, H⟩ := H
                              replace H : (some t217) = some r := H
                              have A55 := Aside0.mk A550
                              clear A550
                              obtain rfl := Option.some.inj H
                              first
                                | (go_upto_region 17 with (first | ((with_reducible refine gate_callee (f := 15) rfl ?_); refine goesL_ (some 72) rfl rfl Try.func15 (by kernel_rfl) rfl #[.slice Ao35 x15_1.length co35] rfl (by (try simp only [List.map_toArray, List.map_cons, List.map_nil]); first | done | rfl | (simp only [List.length_drop, List.length_take]; rfl)) ?_; (with_reducible refine (batch_Bytes.calls k1 _ _ x15_1 t205 t206 _ ?side1 ?side2 A43.out).mono ?_); (case side1 => repeat (first | exact (Kd.R_reads' HO_15.out).2.2 | (with_reducible refine Kd.C_alloc ?_ _) | (with_reducible refine Kd.C_drewN ?_ _) | (with_reducible refine Kd.C_drew ?_))); (case side2 => exact (Kd.R_reads' HO_15.out).2.1); rintro e w56 ⟨v207, rfl, ho0, hb⟩; refine ⟨_, rfl, ?_⟩; have n0_ := Aside0.mk (Kd.R_below (by (with_reducible repeat (first | apply Kd.R_alloc | apply Kd.R_drewN | apply Kd.R_drew)); exact HO_1.out) hb); have n1_ := Aside0.mk (Kd.R_elder' (by (with_reducible repeat (first | apply Kd.R_alloc | apply Kd.R_drewN | apply Kd.R_drew)); exact HO_2.out) (Kd.R_base ho0) hb); have n2_ := Aside0.mk (Kd.R_elder' (by (with_reducible repeat (first | apply Kd.R_alloc | apply Kd.R_drewN | apply Kd.R_drew)); exact HO_3.out) (Kd.R_base ho0) hb); have n3_ := Aside0.mk (Kd.R_below (by (with_reducible repeat (first | apply Kd.R_alloc | apply Kd.R_drewN | apply Kd.R_drew)); exact HO_5.out) hb); have n4_ := Aside0.mk (Kd.R_below (by (with_reducible repeat (first | apply Kd.R_alloc | apply Kd.R_drewN | apply Kd.R_drew)); exact HO_15.out) hb); have n5_ := Aside0.mk (Kd.R_lower (Kd.R_new' (Kd.R_new' ho0 (Kd.R_lt (by (with_reducible repeat (first | apply Kd.R_alloc | apply Kd.R_drewN | apply Kd.R_drew)); exact HO_2.out))) (Kd.R_lt (by (with_reducible repeat (first | apply Kd.R_alloc | apply Kd.R_drewN | apply Kd.R_drew)); exact HO_3.out))) (below_size (by repeat (first | (with_reducible first | exact HB.out | apply below_alloc | apply pw_below_drewN | apply below_drew1) | exact HB.out)))); have n6_ := Aside0.mk (below_step (by repeat (first | (with_reducible first | exact HB.out | apply below_alloc | apply pw_below_drewN | apply below_drew1) | exact HB.out)) hb); clear HO_1; clear HO_2; clear HO_3; clear HO_5; clear HO_15; clear HB; have HO_1 := n0_; have HO_2 := n1_; have HO_3 := n2_; have HO_5 := n3_; have HO_15 := n4_; have HO208 := n5_; have HB := n6_; clear n0_ n1_ n2_ n3_ n4_ n5_ n6_; (try clear hb); (try clear hb2); (try clear hk); (try clear hi); (try clear ho0); (try clear HO_15); (try clear HO208)) | ((with_reducible refine gate_callee (f := 20) rfl ?_); refine goesL_ (some 76) rfl rfl Try.func20 (by kernel_rfl) rfl #[.slice Ao14 y155.length co14, .int .u64 7] rfl (by (try simp only [List.map_toArray, List.map_cons, List.map_nil]); first | done | rfl | (simp only [List.length_drop, List.length_take]; rfl)) ?_; (with_reducible refine (batch_Entries.calls k1 _ _ y155 7 t209 _ ?side1 ?side2 A44.out).mono ?_); (case side1 => repeat (first | exact (Kd.R_reads' HO_1.out).2.2 | (with_reducible refine Kd.C_alloc ?_ _) | (with_reducible refine Kd.C_drewN ?_ _) | (with_reducible refine Kd.C_drew ?_))); (case side2 => exact (Kd.R_reads' HO_1.out).2.1); rintro e w57 ⟨v210, rfl, ho0, hb⟩; refine ⟨_, rfl, ?_⟩; have n0_ := Aside0.mk (Kd.R_below (by (with_reducible repeat (first | apply Kd.R_alloc | apply Kd.R_drewN | apply Kd.R_drew)); exact HO_1.out) hb); have n1_ := Aside0.mk (Kd.R_below (by (with_reducible repeat (first | apply Kd.R_alloc | apply Kd.R_drewN | apply Kd.R_drew)); exact HO_2.out) hb); have n2_ := Aside0.mk (Kd.R_below (by (with_reducible repeat (first | apply Kd.R_alloc | apply Kd.R_drewN | apply Kd.R_drew)); exact HO_3.out) hb); have n3_ := Aside0.mk (Kd.R_below (by (with_reducible repeat (first | apply Kd.R_alloc | apply Kd.R_drewN | apply Kd.R_drew)); exact HO_5.out) hb); have n4_ := Aside0.mk (Kd.R_lower ho0 (below_size (by repeat (first | (with_reducible first | exact HB.out | apply below_alloc | apply pw_below_drewN | apply below_drew1) | exact HB.out)))); have n5_ := Aside0.mk (below_step (by repeat (first | (with_reducible first | exact HB.out | apply below_alloc | apply pw_below_drewN | apply below_drew1) | exact HB.out)) hb); clear HO_1; clear HO_2; clear HO_3; clear HO_5; clear HB; have HO_1 := n0_; have HO_2 := n1_; have HO_3 := n2_; have HO_5 := n3_; have HO211 := n4_; have HB := n5_; clear n0_ n1_ n2_ n3_ n4_ n5_; (try clear hb); (try clear hb2); (try clear hk); (try clear hi); (try clear ho0); obtain ⟨Ao58, co58, eo58⟩ := Kd.R_slice HO_3.out; subst eo58) | ((with_reducible refine gate_dst (N := 84) rfl ?_); (try (refine gate_guard (by rfl) ?_; dsimp only)); (with_reducible refine gate_callee (f := 19) rfl ?_); refine gate_guard (by rfl) ?_; dsimp only; refine goesL_ (some 84) rfl rfl Try.func19 (by kernel_rfl) rfl #[.slice Ao58 t161.length co58, .slice Ao16 y158.length co16] rfl (by (try simp only [List.map_toArray, List.map_cons, List.map_nil]); first | done | rfl | (simp only [List.length_drop, List.length_take]; rfl)) ?_; (with_reducible refine (ratlinelaw02_Same.calls _ _ t161 _ _ y158 true _ ?side1 ?side2 ?side3 ?side4 A46.out).mono ?_); (case side1 => repeat (first | exact (Kd.R_reads' HO_3.out).2.2 | (with_reducible refine Kd.C_alloc ?_ _) | (with_reducible refine Kd.C_drewN ?_ _) | (with_reducible refine Kd.C_drew ?_))); (case side2 => exact (Kd.R_reads' HO_3.out).2.1); (case side3 => repeat (first | exact (Kd.R_reads' HO_2.out).2.2 | (with_reducible refine Kd.C_alloc ?_ _) | (with_reducible refine Kd.C_drewN ?_ _) | (with_reducible refine Kd.C_drew ?_))); (case side4 => exact (Kd.R_reads' HO_2.out).2.1); rintro e w' ⟨rfl, ⟨nd, rfl⟩⟩; refine ⟨_, rfl, ?_⟩; (try clear HO_2); (try clear HO_3); obtain ⟨Ao59, co59, eo59⟩ := Kd.R_slice HO_5.out; subst eo59) | ((with_reducible refine gate_dst (N := 89) rfl ?_); (try (refine gate_guard (by rfl) ?_; dsimp only)); (with_reducible refine gate_callee (f := 18) rfl ?_); refine gate_guard (by rfl) ?_; dsimp only; refine goesL_ (some 89) rfl rfl Try.func18 (by kernel_rfl) rfl #[.slice Ao59 t165.length co59, .slice Ao14 y155.length co14] rfl (by (try simp only [List.map_toArray, List.map_cons, List.map_nil]); first | done | rfl | (simp only [List.length_drop, List.length_take]; rfl)) ?_; (with_reducible refine (ratlinelaw04_Same.calls k1 _ _ t165 _ _ y155 true _ ?side1 ?side2 ?side3 ?side4 A48.out).mono ?_); (case side1 => repeat (first | exact (Kd.R_reads' HO_5.out).2.2 | (with_reducible refine Kd.C_alloc ?_ _) | (with_reducible refine Kd.C_drewN ?_ _) | (with_reducible refine Kd.C_drew ?_))); (case side2 => exact (Kd.R_reads' HO_5.out).2.1); (case side3 => repeat (first | exact (Kd.R_reads' HO_1.out).2.2 | (with_reducible refine Kd.C_alloc ?_ _) | (with_reducible refine Kd.C_drewN ?_ _) | (with_reducible refine Kd.C_drew ?_))); (case side4 => exact (Kd.R_reads' HO_1.out).2.1); rintro e w' ⟨rfl, ⟨nd, rfl⟩⟩; refine ⟨_, rfl, ?_⟩; (try clear HO_1); (try clear HO_5)) | ((with_reducible refine gate_dst (N := 117) rfl ?_); (try (refine gate_guard (by rfl) ?_; dsimp only)); refine Kd.R_lit k41 _ 41 ?hg (N := 117) ?hd (xs := ([(⟨(⟨(⟨#[97]⟩ : ByteArray), 7, 1⟩ : S39), (⟨#[120]⟩ : ByteArray)⟩ : S41), (⟨(⟨(⟨#[98]⟩ : ByteArray), 8, 0⟩ : S39), (⟨#[]⟩ : ByteArray)⟩ : S41)] : List (S41))) (inner := [.string (⟨#[97]⟩ : ByteArray), .int .u64 7, .int .u8 1, .string (⟨#[120]⟩ : ByteArray), .string (⟨#[98]⟩ : ByteArray), .int .u64 8, .int .u8 0, .string (⟨#[]⟩ : ByteArray)]) (ok := fun _ => True) (okp := fun _ => True) ?hr ?hp (fun _ hk => hk) trivial (Below.refl _ _) (Nat.le_refl _) (by simp) ?_; (case hd => rfl); (case hg => rfl); (case hr => first | (go_simp; done) | (go_simp; rfl)); (case hp => exact (Reps.c4 (show Kd.M k41 _ _ _ (⟨(⟨(⟨#[97]⟩ : ByteArray), 7, 1⟩ : S39), (⟨#[120]⟩ : ByteArray)⟩ : S41) [.string (⟨#[97]⟩ : ByteArray), .int .u64 7, .int .u8 1, .string (⟨#[120]⟩ : ByteArray)] from (k41_mkM _ _ _ (⟨(⟨(⟨#[97]⟩ : ByteArray), 7, 1⟩ : S39), (⟨#[120]⟩ : ByteArray)⟩ : S41) )) (Reps.c4 (show Kd.M k41 _ _ _ (⟨(⟨(⟨#[98]⟩ : ByteArray), 8, 0⟩ : S39), (⟨#[]⟩ : ByteArray)⟩ : S41) [.string (⟨#[98]⟩ : ByteArray), .int .u64 8, .int .u8 0, .string (⟨#[]⟩ : ByteArray)] from (k41_mkM _ _ _ (⟨(⟨(⟨#[98]⟩ : ByteArray), 8, 0⟩ : S39), (⟨#[]⟩ : ByteArray)⟩ : S41) )) (Reps.none _ _)))); intro v215 w60 ho61 hb hg_ hnew_; clear hg_ hnew_; (first | rw [← Ny214.out] at ho61 | (simp only [Int.reduceToNat] at ho61; rw [← Ny214.out] at ho61)); have n0_ := Aside0.mk (Kd.R_elder' (by (with_reducible repeat (first | apply Kd.R_alloc | apply Kd.R_drewN | apply Kd.R_drew)); exact HO211.out) (Kd.R_base ho61) hb); have n1_ := Aside0.mk (Kd.R_lower (Kd.R_new' ho61 (Kd.R_lt (by (with_reducible repeat (first | apply Kd.R_alloc | apply Kd.R_drewN | apply Kd.R_drew)); exact HO211.out))) (below_size (by repeat (first | (with_reducible first | exact HB.out | apply below_alloc | apply pw_below_drewN | apply below_drew1) | exact HB.out)))); have n2_ := Aside0.mk (below_step (by repeat (first | (with_reducible first | exact HB.out | apply below_alloc | apply pw_below_drewN | apply below_drew1) | exact HB.out)) hb); clear HO211; clear HB; have HO211 := n0_; have HO216 := n1_; have HB := n2_; clear n0_ n1_ n2_; clear hb ho61; obtain ⟨Ao62, co62, eo62⟩ := Kd.R_slice HO211.out; subst eo62; obtain ⟨Ao63, co63, eo63⟩ := Kd.R_slice HO216.out; subst eo63) | ((with_reducible refine gate_dst (N := 118) rfl ?_); (try (refine gate_guard (by rfl) ?_; dsimp only)); (with_reducible refine gate_callee (f := 23) rfl ?_); refine gate_guard (by rfl) ?_; dsimp only; refine goesL_ (some 118) rfl rfl Try.func23 (by kernel_rfl) rfl #[.slice Ao62 t209.length co62, .slice Ao63 y214.length co63] rfl (by (try simp only [List.map_toArray, List.map_cons, List.map_nil]); first | done | rfl | (simp only [List.length_drop, List.length_take]; rfl)) ?_; (with_reducible refine (ratlinelaw04_Entries.calls k1 _ _ t209 _ _ y214 t217 _ ?side1 ?side2 ?side3 ?side4 A55.out).mono ?_); (case side1 => repeat (first | exact (Kd.R_reads' HO211.out).2.2 | (with_reducible refine Kd.C_alloc ?_ _) | (with_reducible refine Kd.C_drewN ?_ _) | (with_reducible refine Kd.C_drew ?_))); (case side2 => exact (Kd.R_reads' HO211.out).2.1); (case side3 => repeat (first | exact (Kd.R_reads' HO216.out).2.2 | (with_reducible refine Kd.C_alloc ?_ _) | (with_reducible refine Kd.C_drewN ?_ _) | (with_reducible refine Kd.C_drew ?_))); (case side4 => exact (Kd.R_reads' HO216.out).2.1); rintro e w' ⟨rfl, ⟨nd, rfl⟩⟩; refine ⟨_, rfl, ?_⟩)); refine wp_region_list ?_; simp only [List.append_eq, List.cons_append, List.nil_append])
                                | skip
                              go_wp2_with (first | ((with_reducible refine gate_callee (f := 15) rfl ?_); refine goesL_ (some 72) rfl rfl Try.func15 (by kernel_rfl) rfl #[.slice Ao35 x15_1.length co35] rfl (by (try simp only [List.map_toArray, List.map_cons, List.map_nil]); first | done | rfl | (simp only [List.length_drop, List.length_take]; rfl)) ?_; (with_reducible refine (batch_Bytes.calls k1 _ _ x15_1 t205 t206 _ ?side1 ?side2 A43.out).mono ?_); (case side1 => repeat (first | exact (Kd.R_reads' HO_15.out).2.2 | (with_reducible refine Kd.C_alloc ?_ _) | (with_reducible refine Kd.C_drewN ?_ _) | (with_reducible refine Kd.C_drew ?_))); (case side2 => exact (Kd.R_reads' HO_15.out).2.1); rintro e w56 ⟨v207, rfl, ho0, hb⟩; refine ⟨_, rfl, ?_⟩; have n0_ := Aside0.mk (Kd.R_below (by (with_reducible repeat (first | apply Kd.R_alloc | apply Kd.R_drewN | apply Kd.R_drew)); exact HO_1.out) hb); have n1_ := Aside0.mk (Kd.R_elder' (by (with_reducible repeat (first | apply Kd.R_alloc | apply Kd.R_drewN | apply Kd.R_drew)); exact HO_2.out) (Kd.R_base ho0) hb); have n2_ := Aside0.mk (Kd.R_elder' (by (with_reducible repeat (first | apply Kd.R_alloc | apply Kd.R_drewN | apply Kd.R_drew)); exact HO_3.out) (Kd.R_base ho0) hb); have n3_ := Aside0.mk (Kd.R_below (by (with_reducible repeat (first | apply Kd.R_alloc | apply Kd.R_drewN | apply Kd.R_drew)); exact HO_5.out) hb); have n4_ := Aside0.mk (Kd.R_below (by (with_reducible repeat (first | apply Kd.R_alloc | apply Kd.R_drewN | apply Kd.R_drew)); exact HO_15.out) hb); have n5_ := Aside0.mk (Kd.R_lower (Kd.R_new' (Kd.R_new' ho0 (Kd.R_lt (by (with_reducible repeat (first | apply Kd.R_alloc | apply Kd.R_drewN | apply Kd.R_drew)); exact HO_2.out))) (Kd.R_lt (by (with_reducible repeat (first | apply Kd.R_alloc | apply Kd.R_drewN | apply Kd.R_drew)); exact HO_3.out))) (below_size (by repeat (first | (with_reducible first | exact HB.out | apply below_alloc | apply pw_below_drewN | apply below_drew1) | exact HB.out)))); have n6_ := Aside0.mk (below_step (by repeat (first | (with_reducible first | exact HB.out | apply below_alloc | apply pw_below_drewN | apply below_drew1) | exact HB.out)) hb); clear HO_1; clear HO_2; clear HO_3; clear HO_5; clear HO_15; clear HB; have HO_1 := n0_; have HO_2 := n1_; have HO_3 := n2_; have HO_5 := n3_; have HO_15 := n4_; have HO208 := n5_; have HB := n6_; clear n0_ n1_ n2_ n3_ n4_ n5_ n6_; (try clear hb); (try clear hb2); (try clear hk); (try clear hi); (try clear ho0); (try clear HO_15); (try clear HO208)) | ((with_reducible refine gate_callee (f := 20) rfl ?_); refine goesL_ (some 76) rfl rfl Try.func20 (by kernel_rfl) rfl #[.slice Ao14 y155.length co14, .int .u64 7] rfl (by (try simp only [List.map_toArray, List.map_cons, List.map_nil]); first | done | rfl | (simp only [List.length_drop, List.length_take]; rfl)) ?_; (with_reducible refine (batch_Entries.calls k1 _ _ y155 7 t209 _ ?side1 ?side2 A44.out).mono ?_); (case side1 => repeat (first | exact (Kd.R_reads' HO_1.out).2.2 | (with_reducible refine Kd.C_alloc ?_ _) | (with_reducible refine Kd.C_drewN ?_ _) | (with_reducible refine Kd.C_drew ?_))); (case side2 => exact (Kd.R_reads' HO_1.out).2.1); rintro e w57 ⟨v210, rfl, ho0, hb⟩; refine ⟨_, rfl, ?_⟩; have n0_ := Aside0.mk (Kd.R_below (by (with_reducible repeat (first | apply Kd.R_alloc | apply Kd.R_drewN | apply Kd.R_drew)); exact HO_1.out) hb); have n1_ := Aside0.mk (Kd.R_below (by (with_reducible repeat (first | apply Kd.R_alloc | apply Kd.R_drewN | apply Kd.R_drew)); exact HO_2.out) hb); have n2_ := Aside0.mk (Kd.R_below (by (with_reducible repeat (first | apply Kd.R_alloc | apply Kd.R_drewN | apply Kd.R_drew)); exact HO_3.out) hb); have n3_ := Aside0.mk (Kd.R_below (by (with_reducible repeat (first | apply Kd.R_alloc | apply Kd.R_drewN | apply Kd.R_drew)); exact HO_5.out) hb); have n4_ := Aside0.mk (Kd.R_lower ho0 (below_size (by repeat (first | (with_reducible first | exact HB.out | apply below_alloc | apply pw_below_drewN | apply below_drew1) | exact HB.out)))); have n5_ := Aside0.mk (below_step (by repeat (first | (with_reducible first | exact HB.out | apply below_alloc | apply pw_below_drewN | apply below_drew1) | exact HB.out)) hb); clear HO_1; clear HO_2; clear HO_3; clear HO_5; clear HB; have HO_1 := n0_; have HO_2 := n1_; have HO_3 := n2_; have HO_5 := n3_; have HO211 := n4_; have HB := n5_; clear n0_ n1_ n2_ n3_ n4_ n5_; (try clear hb); (try clear hb2); (try clear hk); (try clear hi); (try clear ho0); obtain ⟨Ao58, co58, eo58⟩ := Kd.R_slice HO_3.out; subst eo58) | ((with_reducible refine gate_dst (N := 84) rfl ?_); (try (refine gate_guard (by rfl) ?_; dsimp only)); (with_reducible refine gate_callee (f := 19) rfl ?_); refine gate_guard (by rfl) ?_; dsimp only; refine goesL_ (some 84) rfl rfl Try.func19 (by kernel_rfl) rfl #[.slice Ao58 t161.length co58, .slice Ao16 y158.length co16] rfl (by (try simp only [List.map_toArray, List.map_cons, List.map_nil]); first | done | rfl | (simp only [List.length_drop, List.length_take]; rfl)) ?_; (with_reducible refine (ratlinelaw02_Same.calls _ _ t161 _ _ y158 true _ ?side1 ?side2 ?side3 ?side4 A46.out).mono ?_); (case side1 => repeat (first | exact (Kd.R_reads' HO_3.out).2.2 | (with_reducible refine Kd.C_alloc ?_ _) | (with_reducible refine Kd.C_drewN ?_ _) | (with_reducible refine Kd.C_drew ?_))); (case side2 => exact (Kd.R_reads' HO_3.out).2.1); (case side3 => repeat (first | exact (Kd.R_reads' HO_2.out).2.2 | (with_reducible refine Kd.C_alloc ?_ _) | (with_reducible refine Kd.C_drewN ?_ _) | (with_reducible refine Kd.C_drew ?_))); (case side4 => exact (Kd.R_reads' HO_2.out).2.1); rintro e w' ⟨rfl, ⟨nd, rfl⟩⟩; refine ⟨_, rfl, ?_⟩; (try clear HO_2); (try clear HO_3); obtain ⟨Ao59, co59, eo59⟩ := Kd.R_slice HO_5.out; subst eo59) | ((with_reducible refine gate_dst (N := 89) rfl ?_); (try (refine gate_guard (by rfl) ?_; dsimp only)); (with_reducible refine gate_callee (f := 18) rfl ?_); refine gate_guard (by rfl) ?_; dsimp only; refine goesL_ (some 89) rfl rfl Try.func18 (by kernel_rfl) rfl #[.slice Ao59 t165.length co59, .slice Ao14 y155.length co14] rfl (by (try simp only [List.map_toArray, List.map_cons, List.map_nil]); first | done | rfl | (simp only [List.length_drop, List.length_take]; rfl)) ?_; (with_reducible refine (ratlinelaw04_Same.calls k1 _ _ t165 _ _ y155 true _ ?side1 ?side2 ?side3 ?side4 A48.out).mono ?_); (case side1 => repeat (first | exact (Kd.R_reads' HO_5.out).2.2 | (with_reducible refine Kd.C_alloc ?_ _) | (with_reducible refine Kd.C_drewN ?_ _) | (with_reducible refine Kd.C_drew ?_))); (case side2 => exact (Kd.R_reads' HO_5.out).2.1); (case side3 => repeat (first | exact (Kd.R_reads' HO_1.out).2.2 | (with_reducible refine Kd.C_alloc ?_ _) | (with_reducible refine Kd.C_drewN ?_ _) | (with_reducible refine Kd.C_drew ?_))); (case side4 => exact (Kd.R_reads' HO_1.out).2.1); rintro e w' ⟨rfl, ⟨nd, rfl⟩⟩; refine ⟨_, rfl, ?_⟩; (try clear HO_1); (try clear HO_5)) | ((with_reducible refine gate_dst (N := 117) rfl ?_); (try (refine gate_guard (by rfl) ?_; dsimp only)); refine Kd.R_lit k41 _ 41 ?hg (N := 117) ?hd (xs := ([(⟨(⟨(⟨#[97]⟩ : ByteArray), 7, 1⟩ : S39), (⟨#[120]⟩ : ByteArray)⟩ : S41), (⟨(⟨(⟨#[98]⟩ : ByteArray), 8, 0⟩ : S39), (⟨#[]⟩ : ByteArray)⟩ : S41)] : List (S41))) (inner := [.string (⟨#[97]⟩ : ByteArray), .int .u64 7, .int .u8 1, .string (⟨#[120]⟩ : ByteArray), .string (⟨#[98]⟩ : ByteArray), .int .u64 8, .int .u8 0, .string (⟨#[]⟩ : ByteArray)]) (ok := fun _ => True) (okp := fun _ => True) ?hr ?hp (fun _ hk => hk) trivial (Below.refl _ _) (Nat.le_refl _) (by simp) ?_; (case hd => rfl); (case hg => rfl); (case hr => first | (go_simp; done) | (go_simp; rfl)); (case hp => exact (Reps.c4 (show Kd.M k41 _ _ _ (⟨(⟨(⟨#[97]⟩ : ByteArray), 7, 1⟩ : S39), (⟨#[120]⟩ : ByteArray)⟩ : S41) [.string (⟨#[97]⟩ : ByteArray), .int .u64 7, .int .u8 1, .string (⟨#[120]⟩ : ByteArray)] from (k41_mkM _ _ _ (⟨(⟨(⟨#[97]⟩ : ByteArray), 7, 1⟩ : S39), (⟨#[120]⟩ : ByteArray)⟩ : S41) )) (Reps.c4 (show Kd.M k41 _ _ _ (⟨(⟨(⟨#[98]⟩ : ByteArray), 8, 0⟩ : S39), (⟨#[]⟩ : ByteArray)⟩ : S41) [.string (⟨#[98]⟩ : ByteArray), .int .u64 8, .int .u8 0, .string (⟨#[]⟩ : ByteArray)] from (k41_mkM _ _ _ (⟨(⟨(⟨#[98]⟩ : ByteArray), 8, 0⟩ : S39), (⟨#[]⟩ : ByteArray)⟩ : S41) )) (Reps.none _ _)))); intro v215 w60 ho61 hb hg_ hnew_; clear hg_ hnew_; (first | rw [← Ny214.out] at ho61 | (simp only [Int.reduceToNat] at ho61; rw [← Ny214.out] at ho61)); have n0_ := Aside0.mk (Kd.R_elder' (by (with_reducible repeat (first | apply Kd.R_alloc | apply Kd.R_drewN | apply Kd.R_drew)); exact HO211.out) (Kd.R_base ho61) hb); have n1_ := Aside0.mk (Kd.R_lower (Kd.R_new' ho61 (Kd.R_lt (by (with_reducible repeat (first | apply Kd.R_alloc | apply Kd.R_drewN | apply Kd.R_drew)); exact HO211.out))) (below_size (by repeat (first | (with_reducible first | exact HB.out | apply below_alloc | apply pw_below_drewN | apply below_drew1) | exact HB.out)))); have n2_ := Aside0.mk (below_step (by repeat (first | (with_reducible first | exact HB.out | apply below_alloc | apply pw_below_drewN | apply below_drew1) | exact HB.out)) hb); clear HO211; clear HB; have HO211 := n0_; have HO216 := n1_; have HB := n2_; clear n0_ n1_ n2_; clear hb ho61; obtain ⟨Ao62, co62, eo62⟩ := Kd.R_slice HO211.out; subst eo62; obtain ⟨Ao63, co63, eo63⟩ := Kd.R_slice HO216.out; subst eo63) | ((with_reducible refine gate_dst (N := 118) rfl ?_); (try (refine gate_guard (by rfl) ?_; dsimp only)); (with_reducible refine gate_callee (f := 23) rfl ?_); refine gate_guard (by rfl) ?_; dsimp only; refine goesL_ (some 118) rfl rfl Try.func23 (by kernel_rfl) rfl #[.slice Ao62 t209.length co62, .slice Ao63 y214.length co63] rfl (by (try simp only [List.map_toArray, List.map_cons, List.map_nil]); first | done | rfl | (simp only [List.length_drop, List.length_take]; rfl)) ?_; (with_reducible refine (ratlinelaw04_Entries.calls k1 _ _ t209 _ _ y214 t217 _ ?side1 ?side2 ?side3 ?side4 A55.out).mono ?_); (case side1 => repeat (first | exact (Kd.R_reads' HO211.out).2.2 | (with_reducible refine Kd.C_alloc ?_ _) | (with_reducible refine Kd.C_drewN ?_ _) | (with_reducible refine Kd.C_drew ?_))); (case side2 => exact (Kd.R_reads' HO211.out).2.1); (case side3 => repeat (first | exact (Kd.R_reads' HO216.out).2.2 | (with_reducible refine Kd.C_alloc ?_ _) | (with_reducible refine Kd.C_drewN ?_ _) | (with_reducible refine Kd.C_drew ?_))); (case side4 => exact (Kd.R_reads' HO216.out).2.1); rintro e w' ⟨rfl, ⟨nd, rfl⟩⟩; refine ⟨_, rfl, ?_⟩))
                              go_ret
                              exact ⟨by first | rfl | (simp [errW_none, errW_some] <;> rfl) | (simp [*, errW_none, errW_some] <;> rfl), by repeat (first | (with_reducible first | exact HB.out | apply below_alloc | apply pw_below_drewN | apply below_drew1) | exact HB.out)⟩
                            · rw [if_neg c54] at H
                              exact absurd H (by simp)
                          · rw [if_neg c53] at H
                            exact absurd H (by simp)
                        · rw [if_neg c52] at H
                          exact absurd H (by simp)
                      · rw [if_neg c51] at H
                        exact absurd H (by simp)
                    · rw [if_neg c50] at H
                      exact absurd H (by simp)
                  · replace c49 := Bool.eq_false_iff.mpr c49
                    subst c49
                    have H1 : (none) = some r := by rw [if_neg (show ¬ (false = true) by decide)] at H; exact H
                    clear H
                    have H := H1
                    clear H1
                    exact absurd H (by simp)
                · replace c47 := Bool.eq_false_iff.mpr c47
                  subst c47
                  have H1 : (none) = some r := by rw [if_neg (show ¬ (false = true) by decide)] at H; exact H
                  clear H
                  have H := H1
                  clear H1
                  exact absurd H (by simp)
              · rw [if_neg c45] at H
                exact absurd H (by simp)
      · rw [if_neg c9] at H
        exact absurd H (by simp)
    · rw [if_neg c4] at H
      exact absurd H (by simp)
  · rw [if_neg c3] at H
    exact absurd H (by simp)

end Go.Proofs.Ytlaihdipagejfaa.P

end

section
namespace Go.Proofs.Ytlaihdipagejfaa.P
open Go.RowKit Go.Proofs.YtlaihdipagejfaaG Go.Proofs.YtlaihdipagejfaaW.PrintWords Go.Proofs.YtlaihdipagejfaaW.PrintLast Go.Proofs.YtlaihdipagejfaaW.PrintMore
attribute [local go_sem] str_gtr str_geq str_leq max2_int min2_int max_two min_two max_three min_three max_four min_four   -- for this text's walks alone
set_option linter.unusedVariables false
set_option linter.unusedSimpArgs false

def ratlinelaw04_BatchCut.j0 : Nat → List Int → Int → Int → Int → Int → Bool → Option (Bool)
  | 0, _, _, _, _, _, _ => none
  | k + 1, x9, x12, x14, x15, x16, x65 => if x65 = true then ((some (([(x15) % 256] : List Int) : List Int)).bind fun y464 => (if 1 ≤ (x9.length : Int) then ((some (x9.drop 1 : List Int)).bind fun y467 => (if y464.length + y467.length < 140737488355328 then ((batch_Parse.f (y464 ++ y467)).bind fun bt474 => (if x12 = 40 then (if x14 = 40 then (if bt474.2 = 40 then ((ratlinelaw04_awake.f k).bind fun t478 => (some t478)) else (none)) else (none)) else (none))) else (none))) else (none))) else (if x12 = 40 then (if x14 = 40 then (if x16 = 40 then ((ratlinelaw04_awake.f k).bind fun t479 => (some t479)) else (none)) else (none)) else (none))
def ratlinelaw04_BatchCut.f (k : Nat) (l0 : List (S43)) (a1 : Int) (a2 : Int) (a3 : Int) : Option (Bool) := (ratlinelaw04_Few.f k l0 128).bind fun t436 => (if t436 = true then ((batch_Bytes.f k l0).bind fun bt438 => (if bt438.2 = 0 then (if (bt438.1.length : Int) < 2 then (none) else (if (bt438.1.length : Int) = 0 then (none) else (if 0 ≤ (Int.tmod (wrap64 (a1)) (bt438.1.length : Int)) then (if (Int.tmod (wrap64 (a1)) (bt438.1.length : Int)) ≤ (bt438.1.length : Int) then ((batch_Parse.f (bt438.1.take ((Int.tmod (wrap64 (a1)) (bt438.1.length : Int)) : Int).toNat)).bind fun bt447 => ((some (([] : List Int) : List Int)).bind fun y451 => (if y451.length + bt438.1.length < 140737488355328 then ((some (y451 ++ bt438.1 : List Int)).bind fun y454 => (if y454.length < 140737488355328 then ((batch_Parse.f (y454 ++ [a2])).bind fun bt460 => (if (l0.length : Int) < 128 then (ratlinelaw04_BatchCut.j0 k bt438.1 bt447.2 bt460.2 (wrap64 (Int.tmod a3 128)) 40 ((wrap64 (Int.tmod a3 128)) != (l0.length : Int))) else (ratlinelaw04_BatchCut.j0 k bt438.1 bt447.2 bt460.2 (wrap64 (Int.tmod a3 128)) 40 false))) else (none))) else (none)))) else (none)) else (none)))) else ((ratlinelaw04_awake.f k).bind fun t442 => (some t442)))) else ((ratlinelaw04_awake.f k).bind fun t437 => (some t437)))
set_option maxHeartbeats 8000000 in
set_option maxRecDepth 100000 in
theorem ratlinelaw04_BatchCut.calls (k : Nat) (A0 : Option Addr) (c0 : Nat) (l0 : List (S43)) (a1 : Int) (a2 : Int) (a3 : Int) (r : Bool) (w : World) (hr0 : Kd.C k43 w A0 l0.length l0) (hc0 : l0.length ≤ c0) (h : ratlinelaw04_BatchCut.f k l0 a1 a2 a3 = some r) :
    Calls Try.prog 5 #[.slice A0 l0.length c0, .int .u16 a1, .int .u8 a2, .int .u8 a3] w fun e w' => e = .returned (.bool r) ∧ Below w.heap.size w w' := by
  have HR0 := Aside0.mk hr0
  have HC0 := Aside0.mk hc0
  clear hr0 hc0
  have HB := Aside0.mk (Below.refl w.heap.size w)
  have H : ((ratlinelaw04_Few.f k l0 128).bind fun t436 => (if t436 = true then ((batch_Bytes.f k l0).bind fun bt438 => (if bt438.2 = 0 then (if (bt438.1.length : Int) < 2 then (none) else (if (bt438.1.length : Int) = 0 then (none) else (if 0 ≤ (Int.tmod (wrap64 (a1)) (bt438.1.length : Int)) then (if (Int.tmod (wrap64 (a1)) (bt438.1.length : Int)) ≤ (bt438.1.length : Int) then ((batch_Parse.f (bt438.1.take ((Int.tmod (wrap64 (a1)) (bt438.1.length : Int)) : Int).toNat)).bind fun bt447 => ((some (([] : List Int) : List Int)).bind fun y451 => (if y451.length + bt438.1.length < 140737488355328 then ((some (y451 ++ bt438.1 : List Int)).bind fun y454 => (if y454.length < 140737488355328 then ((batch_Parse.f (y454 ++ [a2])).bind fun bt460 => (if (l0.length : Int) < 128 then (ratlinelaw04_BatchCut.j0 k bt438.1 bt447.2 bt460.2 (wrap64 (Int.tmod a3 128)) 40 ((wrap64 (Int.tmod a3 128)) != (l0.length : Int))) else (ratlinelaw04_BatchCut.j0 k bt438.1 bt447.2 bt460.2 (wrap64 (Int.tmod a3 128)) 40 false))) else (none))) else (none)))) else (none)) else (none)))) else ((ratlinelaw04_awake.f k).bind fun t442 => (some t442)))) else ((ratlinelaw04_awake.f k).bind fun t437 => (some t437)))) = some r := h
  clear h
  replace H := Option.bind_eq_some_iff.mp H
  obtain ⟨t436, A50, H⟩ := H
  replace H : (if t436 = true then ((batch_Bytes.f k l0).bind fun bt438 => (if bt438.2 = 0 then (if (bt438.1.length : Int) < 2 then (none) else (if (bt438.1.length : Int) = 0 then (none) else (if 0 ≤ (Int.tmod (wrap64 (a1)) (bt438.1.length : Int)) then (if (Int.tmod (wrap64 (a1)) (bt438.1.length : Int)) ≤ (bt438.1.length : Int) then ((batch_Parse.f (bt438.1.take ((Int.tmod (wrap64 (a1)) (bt438.1.length : Int)) : Int).toNat)).bind fun bt447 => ((some (([] : List Int) : List Int)).bind fun y451 => (if y451.length + bt438.1.length < 140737488355328 then ((some (y451 ++ bt438.1 : List Int)).bind fun y454 => (if y454.length < 140737488355328 then ((batch_Parse.f (y454 ++ [a2])).bind fun bt460 => (if (l0.length : Int) < 128 then (ratlinelaw04_BatchCut.j0 k bt438.1 bt447.2 bt460.2 (wrap64 (Int.tmod a3 128)) 40 ((wrap64 (Int.tmod a3 128)) != (l0.length : Int))) else (ratlinelaw04_BatchCut.j0 k bt438.1 bt447.2 bt460.2 (wrap64 (Int.tmod a3 128)) 40 false))) else (none))) else (none)))) else (none)) else (none)))) else ((ratlinelaw04_awake.f k).bind fun t442 => (some t442)))) else ((ratlinelaw04_awake.f k).bind fun t437 => (some t437))) = some r := H
  have A5 := Aside0.mk A50
  clear A50
  by_cases c6 : t436 = true
  · subst c6
    have H1 : ((batch_Bytes.f k l0).bind fun bt438 => (if bt438.2 = 0 then (if (bt438.1.length : Int) < 2 then (none) else (if (bt438.1.length : Int) = 0 then (none) else (if 0 ≤ (Int.tmod (wrap64 (a1)) (bt438.1.length : Int)) then (if (Int.tmod (wrap64 (a1)) (bt438.1.length : Int)) ≤ (bt438.1.length : Int) then ((batch_Parse.f (bt438.1.take ((Int.tmod (wrap64 (a1)) (bt438.1.length : Int)) : Int).toNat)).bind fun bt447 => ((some (([] : List Int) : List Int)).bind fun y451 => (if y451.length + bt438.1.length < 140737488355328 then ((some (y451 ++ bt438.1 : List Int)).bind fun y454 => (if y454.length < 140737488355328 then ((batch_Parse.f (y454 ++ [a2])).bind fun bt460 => (if (l0.length : Int) < 128 then (ratlinelaw04_BatchCut.j0 k bt438.1 bt447.2 bt460.2 (wrap64 (Int.tmod a3 128)) 40 ((wrap64 (Int.tmod a3 128)) != (l0.length : Int))) else (ratlinelaw04_BatchCut.j0 k bt438.1 bt447.2 bt460.2 (wrap64 (Int.tmod a3 128)) 40 false))) else (none))) else (none)))) else (none)) else (none)))) else ((ratlinelaw04_awake.f k).bind fun t442 => (some t442)))) = some r := by rw [if_pos rfl] at H; exact H
    clear H
    have H := H1
    clear H1
    replace H := Option.bind_eq_some_iff.mp H
    obtain ⟨⟨t438, t439⟩, A70, H⟩ := H
    replace H : (if t439 = 0 then (if (t438.length : Int) < 2 then (none) else (if (t438.length : Int) = 0 then (none) else (if 0 ≤ (Int.tmod (wrap64 (a1)) (t438.length : Int)) then (if (Int.tmod (wrap64 (a1)) (t438.length : Int)) ≤ (t438.length : Int) then ((batch_Parse.f (t438.take ((Int.tmod (wrap64 (a1)) (t438.length : Int)) : Int).toNat)).bind fun bt447 => ((some (([] : List Int) : List Int)).bind fun y451 => (if y451.length + t438.length < 140737488355328 then ((some (y451 ++ t438 : List Int)).bind fun y454 => (if y454.length < 140737488355328 then ((batch_Parse.f (y454 ++ [a2])).bind fun bt460 => (if (l0.length : Int) < 128 then (ratlinelaw04_BatchCut.j0 k t438 bt447.2 bt460.2 (wrap64 (Int.tmod a3 128)) 40 ((wrap64 (Int.tmod a3 128)) != (l0.length : Int))) else (ratlinelaw04_BatchCut.j0 k t438 bt447.2 bt460.2 (wrap64 (Int.tmod a3 128)) 40 false))) else (none))) else (none)))) else (none)) else (none)))) else ((ratlinelaw04_awake.f k).bind fun t442 => (some t442))) = some r := H
    have A7 := Aside0.mk A70
    clear A70
    by_cases c8 : t439 = 0
    · rw [if_pos c8] at H
      have c8b0 : (t439 == 0) = true := beq_iff_eq.mpr c8
      have c8b1 : (t439 != 0) = false := bne_eq_false_iff_eq.mpr c8
      clear c8
      by_cases c9 : (t438.length : Int) < 2
      · rw [if_pos c9] at H
        exact absurd H (by simp)
      · rw [if_neg c9] at H
        have c9b0 : decide ((t438.length : Int) < 2) = false := decide_eq_false c9
        have c9b1 : decide (t438.length < 2) = false := decide_eq_false (by omega)
        clear c9
        by_cases c10 : (t438.length : Int) = 0
        · rw [if_pos c10] at H
          exact absurd H (by simp)
        · rw [if_neg c10] at H
          have c10b0 : ((t438.length : Int) == 0) = false := beq_eq_false_iff_ne.mpr c10
          have c10b1 : ((t438.length : Int) != 0) = true := bne_iff_ne.mpr c10
          have c10b2 : ¬ (t438 = []) := fun h_ => c10 (by rw [h_]; rfl)
          obtain ⟨ji11, hji11⟩ : ∃ j_ : Int, (Int.tmod (wrap64 (a1)) (t438.length : Int)) = j_ := ⟨_, rfl⟩
          replace H : (if 0 ≤ (ji11) then (if (ji11) ≤ (t438.length : Int) then ((batch_Parse.f (t438.take ((ji11) : Int).toNat)).bind fun bt447 => ((some (([] : List Int) : List Int)).bind fun y451 => (if y451.length + t438.length < 140737488355328 then ((some (y451 ++ t438 : List Int)).bind fun y454 => (if y454.length < 140737488355328 then ((batch_Parse.f (y454 ++ [a2])).bind fun bt460 => (if (l0.length : Int) < 128 then (ratlinelaw04_BatchCut.j0 k t438 bt447.2 bt460.2 (wrap64 (Int.tmod a3 128)) 40 ((wrap64 (Int.tmod a3 128)) != (l0.length : Int))) else (ratlinelaw04_BatchCut.j0 k t438 bt447.2 bt460.2 (wrap64 (Int.tmod a3 128)) 40 false))) else (none))) else (none)))) else (none)) else (none)) = some r := by first | (rw [hji11] at H; exact H) | (simp only [hji11] at H ⊢; exact H)
          (try rw [hji11] at A5)
          (try rw [hji11] at A7)
          by_cases c12 : 0 ≤ (ji11)
          · rw [if_pos c12] at H
            have c12b0 := eq_true c12
            have c12b1 : decide (0 ≤ (ji11)) = true := decide_eq_true c12
            clear c12
            by_cases c13 : (ji11) ≤ (t438.length : Int)
            · rw [if_pos c13] at H
              have c13b0 := eq_true c13
              have c13b1 : decide ((ji11) ≤ (t438.length : Int)) = true := decide_eq_true c13
              clear c13
              obtain ⟨y443, hy443⟩ : ∃ y_ : List Int, y_ = (t438.take ((ji11) : Int).toNat) := ⟨_, rfl⟩
              replace H : ((batch_Parse.f y443).bind fun bt447 => ((some (([] : List Int) : List Int)).bind fun y451 => (if y451.length + t438.length < 140737488355328 then ((some (y451 ++ t438 : List Int)).bind fun y454 => (if y454.length < 140737488355328 then ((batch_Parse.f (y454 ++ [a2])).bind fun bt460 => (if (l0.length : Int) < 128 then (ratlinelaw04_BatchCut.j0 k t438 bt447.2 bt460.2 (wrap64 (Int.tmod a3 128)) 40 ((wrap64 (Int.tmod a3 128)) != (l0.length : Int))) else (ratlinelaw04_BatchCut.j0 k t438 bt447.2 bt460.2 (wrap64 (Int.tmod a3 128)) 40 false))) else (none))) else (none)))) = some r := by first | (rw [hy443]; with_reducible exact H) | (have H2_ := (Option.bind_some _ _).symm.trans H; rw [hy443]; with_reducible exact H2_) | (have H2_ := (Option.bind_some _ _).symm.trans H; with_reducible exact H2_) | with_reducible exact H | (rw [hy443]; exact H) | exact H
              have Ny443 := Aside0.mk hy443
              clear hy443
              replace H := Option.bind_eq_some_iff.mp H
              obtain ⟨⟨t447, t448⟩, A140, H⟩ := H
              replace H : ((some (([] : List Int) : List Int)).bind fun y451 => (if y451.length + t438.length < 140737488355328 then ((some (y451 ++ t438 : List Int)).bind fun y454 => (if y454.length < 140737488355328 then ((batch_Parse.f (y454 ++ [a2])).bind fun bt460 => (if (l0.length : Int) < 128 then (ratlinelaw04_BatchCut.j0 k t438 t448 bt460.2 (wrap64 (Int.tmod a3 128)) 40 ((wrap64 (Int.tmod a3 128)) != (l0.length : Int))) else (ratlinelaw04_BatchCut.j0 k t438 t448 bt460.2 (wrap64 (Int.tmod a3 128)) 40 false))) else (none))) else (none))) = some r := H
              have A14 := Aside0.mk A140
              clear A140
              obtain ⟨y451, hy451⟩ : ∃ y_ : List Int, y_ = (([] : List Int)) := ⟨_, rfl⟩
              replace H : (if y451.length + t438.length < 140737488355328 then ((some (y451 ++ t438 : List Int)).bind fun y454 => (if y454.length < 140737488355328 then ((batch_Parse.f (y454 ++ [a2])).bind fun bt460 => (if (l0.length : Int) < 128 then (ratlinelaw04_BatchCut.j0 k t438 t448 bt460.2 (wrap64 (Int.tmod a3 128)) 40 ((wrap64 (Int.tmod a3 128)) != (l0.length : Int))) else (ratlinelaw04_BatchCut.j0 k t438 t448 bt460.2 (wrap64 (Int.tmod a3 128)) 40 false))) else (none))) else (none)) = some r := by first | (rw [hy451]; with_reducible exact H) | (have H2_ := (Option.bind_some _ _).symm.trans H; rw [hy451]; with_reducible exact H2_) | (have H2_ := (Option.bind_some _ _).symm.trans H; with_reducible exact H2_) | with_reducible exact H | (rw [hy451]; exact H) | exact H
              have Ny451 := Aside0.mk hy451
              clear hy451
              by_cases c15 : y451.length + t438.length < 140737488355328
              · rw [if_pos c15] at H
                have LMc15 := Aside0.mk c15
                clear c15
                obtain ⟨y454, hy454⟩ : ∃ y_ : List Int, y_ = (y451 ++ t438) := ⟨_, rfl⟩
                replace H : (if y454.length < 140737488355328 then ((batch_Parse.f (y454 ++ [a2])).bind fun bt460 => (if (l0.length : Int) < 128 then (ratlinelaw04_BatchCut.j0 k t438 t448 bt460.2 (wrap64 (Int.tmod a3 128)) 40 ((wrap64 (Int.tmod a3 128)) != (l0.length : Int))) else (ratlinelaw04_BatchCut.j0 k t438 t448 bt460.2 (wrap64 (Int.tmod a3 128)) 40 false))) else (none)) = some r := by first | (rw [hy454]; with_reducible exact H) | (have H2_ := (Option.bind_some _ _).symm.trans H; rw [hy454]; with_reducible exact H2_) | (have H2_ := (Option.bind_some _ _).symm.trans H; with_reducible exact H2_) | with_reducible exact H | (rw [hy454]; exact H) | exact H
                have Ny454 := Aside0.mk hy454
                clear hy454
                by_cases c16 : y454.length < 140737488355328
                · rw [if_pos c16] at H
                  have LMc16 := Aside0.mk c16
                  clear c16
                  obtain ⟨y457, hy457⟩ : ∃ y_ : List Int, y_ = (y454 ++ [a2]) := ⟨_, rfl⟩
                  replace H : ((batch_Parse.f y457).bind fun bt460 => (if (l0.length : Int) < 128 then (ratlinelaw04_BatchCut.j0 k t438 t448 bt460.2 (wrap64 (Int.tmod a3 128)) 40 ((wrap64 (Int.tmod a3 128)) != (l0.length : Int))) else (ratlinelaw04_BatchCut.j0 k t438 t448 bt460.2 (wrap64 (Int.tmod a3 128)) 40 false))) = some r := by first | (rw [hy457]; with_reducible exact H) | (have H2_ := (Option.bind_some _ _).symm.trans H; rw [hy457]; with_reducible exact H2_) | (have H2_ := (Option.bind_some _ _).symm.trans H; with_reducible exact H2_) | with_reducible exact H | (rw [hy457]; exact H) | exact H
                  have Ny457 := Aside0.mk hy457
                  clear hy457
                  replace H := Option.bind_eq_some_iff.mp H
                  obtain ⟨⟨t460, t461⟩, A170, H⟩ := H
                  replace H : (if (l0.length : Int) < 128 then (ratlinelaw04_BatchCut.j0 k t438 t448 t461 (wrap64 (Int.tmod a3 128)) 40 ((wrap64 (Int.tmod a3 128)) != (l0.length : Int))) else (ratlinelaw04_BatchCut.j0 k t438 t448 t461 (wrap64 (Int.tmod a3 128)) 40 false)) = some r := H
                  have A17 := Aside0.mk A170
                  clear A170
                  have HC18 := Aside0.mk H
                  clear H
                  go_enter Try.func5, Try.ntmps5
                  go_upto_region 12 with (first | ((with_reducible refine gate_callee (f := 13) rfl ?_); refine goesL_ (some 19) rfl rfl Try.func13 (by kernel_rfl) rfl #[.slice A0 l0.length c0, .int .i64 128] rfl (by (try simp only [List.map_toArray, List.map_cons, List.map_nil]); first | done | rfl | (simp only [List.length_drop, List.length_take]; rfl)) ?_; (with_reducible refine (ratlinelaw04_Few.calls k _ _ l0 128 true _ ?side1 ?side2 A5.out).mono ?_); (case side1 => repeat (first | exact HR0.out | (with_reducible refine Kd.C_alloc ?_ _) | (with_reducible refine Kd.C_drewN ?_ _) | (with_reducible refine Kd.C_drew ?_))); (case side2 => exact HC0.out); rintro e w19 ⟨rfl, hb⟩; refine ⟨_, rfl, ?_⟩; have n0_ := Aside0.mk (below_step (by repeat (first | (with_reducible first | exact HB.out | apply below_alloc | apply pw_below_drewN | apply below_drew1) | exact HB.out)) hb); clear HB; have HB := n0_; clear n0_; (try clear hb); (try clear hb2); (try clear hk); (try clear hi)) | ((with_reducible refine gate_callee (f := 15) rfl ?_); refine goesL_ (some 24) rfl rfl Try.func15 (by kernel_rfl) rfl #[.slice A0 l0.length c0] rfl (by (try simp only [List.map_toArray, List.map_cons, List.map_nil]); first | done | rfl | (simp only [List.length_drop, List.length_take]; rfl)) ?_; (with_reducible refine (batch_Bytes.calls k _ _ l0 t438 t439 _ ?side1 ?side2 A7.out).mono ?_); (case side1 => repeat (first | exact (Kd.C_below HR0.out HB.out) | (with_reducible refine Kd.C_alloc ?_ _) | (with_reducible refine Kd.C_drewN ?_ _) | (with_reducible refine Kd.C_drew ?_))); (case side2 => exact HC0.out); rintro e w20 ⟨v440, rfl, ho0, hb⟩; refine ⟨_, rfl, ?_⟩; have n0_ := Aside0.mk (Kd.R_lower ho0 (below_size (by repeat (first | (with_reducible first | exact HB.out | apply below_alloc | apply pw_below_drewN | apply below_drew1) | exact HB.out)))); have n1_ := Aside0.mk (below_step (by repeat (first | (with_reducible first | exact HB.out | apply below_alloc | apply pw_below_drewN | apply below_drew1) | exact HB.out)) hb); clear HB; have HO441 := n0_; have HB := n1_; clear n0_ n1_; (try clear hb); (try clear hb2); (try clear hk); (try clear hi); (try clear ho0); obtain ⟨Ao21, co21, eo21⟩ := Kd.R_slice HO441.out; subst eo21; have q22 : ((ji11) : Int) ≤ ((t438.length : Int) : Int) := of_decide_eq_true (by first | (with_reducible assumption) | assumption); obtain ⟨i022, hi022, _, hsz22, _⟩ := info_parts info5; have hroom22 : t438.length ≤ co21 := (Kd.R_reads' HO441.out).2.1; have hC22 : Kd.C (Kd.int .u8) _ Ao21 t438.length t438 := (Kd.R_reads' HO441.out).2.2; have hcut22 := cut_to (P := Try.prog) 23 5 .i64 Try.underlying23 hi022 Ao21 t438.length co21 (ji11) (of_decide_eq_true (by first | (with_reducible assumption) | assumption)) q22 hroom22; have hr22 := Kd.C_take (m := ((ji11) : Int).toNat) hC22 (by omega); have hy22 : y443.length = ((ji11) : Int).toNat := (by rw [Ny443.out, List.length_take]; omega); rw [← Ny443.out] at hr22; rw [← hy22] at hcut22; have HR446 := Aside0.mk hr22; have HC446 := Aside0.mk (show y443.length ≤ co21 from by omega); clear hr22 hC22 hroom22 hi022 hsz22; have KY22 := Aside0.mk hy22; clear hy22; have KL22 := Aside0.mk (show ((ji11) : Int).toNat ≤ t438.length from by omega); replace q22 := eq_true q22) | ((with_reducible refine gate_callee (f := 17) rfl ?_); refine goesL_ (some 41) rfl rfl Try.func17 (by kernel_rfl) rfl #[.slice Ao21 y443.length co21] rfl (by (try simp only [List.map_toArray, List.map_cons, List.map_nil]); first | done | rfl | (simp only [List.length_drop, List.length_take]; rfl)) ?_; (with_reducible refine (batch_Parse.calls _ _ y443 t447 t448 _ ?side1 ?side2 A14.out).mono ?_); (case side1 => repeat (first | exact (by repeat (first | (with_reducible exact HR446.out) | (with_reducible refine Kd.C_alloc ?_ _) | (with_reducible refine Kd.C_drewN ?_ _) | (with_reducible refine Kd.C_drew ?_) | exact HR446.out)) | (with_reducible refine Kd.C_alloc ?_ _) | (with_reducible refine Kd.C_drewN ?_ _) | (with_reducible refine Kd.C_drew ?_))); (case side2 => exact HC446.out); rintro e w23 ⟨v449, rfl, ho0, hb⟩; refine ⟨_, rfl, ?_⟩; have n0_ := Aside0.mk (Kd.R_below (by (with_reducible repeat (first | apply Kd.R_alloc | apply Kd.R_drewN | apply Kd.R_drew)); exact HO441.out) hb); have n1_ := Aside0.mk (Kd.R_lower ho0 (below_size (by repeat (first | (with_reducible first | exact HB.out | apply below_alloc | apply pw_below_drewN | apply below_drew1) | exact HB.out)))); have n2_ := Aside0.mk (Kd.C_below (by repeat (first | (with_reducible exact HR446.out) | (with_reducible refine Kd.C_alloc ?_ _) | (with_reducible refine Kd.C_drewN ?_ _) | (with_reducible refine Kd.C_drew ?_) | exact HR446.out)) hb); have n3_ := Aside0.mk (below_step (by repeat (first | (with_reducible first | exact HB.out | apply below_alloc | apply pw_below_drewN | apply below_drew1) | exact HB.out)) hb); clear HO441; clear HR446; clear HB; have HO441 := n0_; have HO450 := n1_; have HR446 := n2_; have HB := n3_; clear n0_ n1_ n2_ n3_; (try clear hb); (try clear hb2); (try clear hk); (try clear hi); (try clear ho0)) | ((with_reducible refine gate_dst (N := 45) rfl ?_); (try (refine gate_guard (by rfl) ?_; dsimp only)); refine Kd.R_lit (Kd.int .u8) _ 5 ?hg (N := 45) ?hd (xs := ([] : List Int)) (inner := []) (ok := fun _ => True) (okp := fun _ => True) ?hr ?hp (fun _ hk => hk) trivial (Below.refl _ _) (Nat.le_refl _) (by simp) ?_; (case hd => rfl); (case hg => rfl); (case hr => first | (go_simp; done) | (go_simp; rfl)); (case hp => exact (Reps.none _ _)); intro v452 w24 ho25 hb hg_ hnew_; clear hg_ hnew_; (first | rw [← Ny451.out] at ho25 | (simp only [Int.reduceToNat] at ho25; rw [← Ny451.out] at ho25)); have n0_ := Aside0.mk (Kd.R_elder' (by (with_reducible repeat (first | apply Kd.R_alloc | apply Kd.R_drewN | apply Kd.R_drew)); exact HO441.out) (Kd.R_base ho25) hb); have n1_ := Aside0.mk (Kd.R_below (by (with_reducible repeat (first | apply Kd.R_alloc | apply Kd.R_drewN | apply Kd.R_drew)); exact HO450.out) hb); have n2_ := Aside0.mk (Kd.R_lower (Kd.R_new' ho25 (Kd.R_lt (by (with_reducible repeat (first | apply Kd.R_alloc | apply Kd.R_drewN | apply Kd.R_drew)); exact HO441.out))) (below_size (by repeat (first | (with_reducible first | exact HB.out | apply below_alloc | apply pw_below_drewN | apply below_drew1) | exact HB.out)))); have n3_ := Aside0.mk (below_step (by repeat (first | (with_reducible first | exact HB.out | apply below_alloc | apply pw_below_drewN | apply below_drew1) | exact HB.out)) hb); clear HO441; clear HO450; clear HB; have HO441 := n0_; have HO450 := n1_; have HO453 := n2_; have HB := n3_; clear n0_ n1_ n2_ n3_; clear hb ho25) | ((with_reducible refine gate_builtin (b := .append) (xs := #[.tmp 45, .tmp 46]) rfl ?_); (try (refine gate_guard (by rfl) ?_; dsimp only)); at_builtin; refine Kd.R_append_rows (Kd.int .u8) (w0 := w) w.heap.size rfl (.tmp 45) (.tmp 46) 23 5 (.int .u8 0) 1 rfl Try.underlying23 info5 rfl (by decide) (by omega) v452 y451 t438 _ _ _ (fun k_ => some k_ ≠ (.slice Ao21 t438.length co21 : Value).ownBlock) (fun _ => False) rfl rfl ?aO ?aR (fun _ _ h => h) (fun _ h => h.elim) ?aF ?aB ?aS ?aL ?_; (case aR => repeat (first | exact (Kd.R_reads' HO441.out).2.2 | (with_reducible refine Kd.C_alloc ?_ _) | (with_reducible refine Kd.C_drewN ?_ _) | (with_reducible refine Kd.C_drew ?_))); (case aB => exact (by repeat (first | (with_reducible first | exact HB.out | apply below_alloc | apply pw_below_drewN | apply below_drew1) | exact HB.out))); (case aF => exact (fun k_ hk => Kd.fresh' (Kd.R_lt (by (with_reducible repeat (first | apply Kd.R_alloc | apply Kd.R_drewN | apply Kd.R_drew)); exact HO441.out)) k_ hk)); (case aO => exact (by (with_reducible repeat (first | apply Kd.R_alloc | apply Kd.R_drewN | apply Kd.R_drew)); exact Kd.R_mono HO453.out (fun _ hk => hk.2))); (case aS => exact (below_size (by repeat (first | (with_reducible first | exact HB.out | apply below_alloc | apply pw_below_drewN | apply below_drew1) | exact HB.out)))); (case aL => have := LMc15.out; omega); intro v455 w26 ho hb hg hat; rw [← Ny454.out] at ho; have n0_ := Aside0.mk (Kd.R_after (ok := (fun _ => True)) (by (with_reducible repeat (first | apply Kd.R_alloc | apply Kd.R_drewN | apply Kd.R_drew)); exact HO441.out) hg hat); have n1_ := Aside0.mk (Kd.R_over' (by (with_reducible repeat (first | apply Kd.R_alloc | apply Kd.R_drewN | apply Kd.R_drew)); exact HO450.out) (Kd.R_typed (by (with_reducible repeat (first | apply Kd.R_alloc | apply Kd.R_drewN | apply Kd.R_drew)); exact HO453.out)) (by decide) hg); have n2_ := Aside0.mk (hb); have n3_ := Aside0.mk (ho); clear HO441; clear HO450; clear HB; clear HO453; have HO441 := n0_; have HO450 := n1_; have HB := n2_; have HO456 := n3_; clear n0_ n1_ n2_ n3_; clear ho hb hg hat) | ((with_reducible refine gate_builtin (b := .append) (xs := #[.tmp 47, .tmp 49]) rfl ?_); (try (refine gate_guard (by rfl) ?_; dsimp only)); at_builtin; refine Kd.R_append (Kd.int .u8) (w0 := w) w.heap.size rfl (.tmp 47) (.tmp 49) 23 5 (.int .u8 0) 1 rfl Try.underlying23 info5 rfl (by decide) (by omega) v455 y454 a2 [.int .u8 a2] (fun k_ => some k_ ≠ (.slice Ao21 t438.length co21 : Value).ownBlock) (fun _ => False) rfl rfl ?aP (fun _ hk => hk.elim) ?aF ?aO ?aB ?aS ?aL ?_; (case aP => exact rfl); (case aB => exact (by repeat (first | (with_reducible first | exact HB.out | apply below_alloc | apply pw_below_drewN | apply below_drew1) | exact HB.out))); (case aF => exact (fun k_ hk => Kd.fresh' (Kd.R_lt (by (with_reducible repeat (first | apply Kd.R_alloc | apply Kd.R_drewN | apply Kd.R_drew)); exact HO441.out)) k_ hk)); (case aO => exact (by (with_reducible repeat (first | apply Kd.R_alloc | apply Kd.R_drewN | apply Kd.R_drew)); exact HO456.out)); (case aS => exact (below_size (by repeat (first | (with_reducible first | exact HB.out | apply below_alloc | apply pw_below_drewN | apply below_drew1) | exact HB.out)))); (case aL => have := LMc16.out; omega); intro v458 w27 ho hb hg hat; rw [← Ny457.out] at ho; have n0_ := Aside0.mk (Kd.R_after (ok := (fun _ => True)) (by (with_reducible repeat (first | apply Kd.R_alloc | apply Kd.R_drewN | apply Kd.R_drew)); exact HO441.out) hg hat); have n1_ := Aside0.mk (Kd.R_over' (by (with_reducible repeat (first | apply Kd.R_alloc | apply Kd.R_drewN | apply Kd.R_drew)); exact HO450.out) (Kd.R_typed (by (with_reducible repeat (first | apply Kd.R_alloc | apply Kd.R_drewN | apply Kd.R_drew)); exact HO456.out)) (by decide) hg); have n2_ := Aside0.mk (hb); have n3_ := Aside0.mk (ho); clear HO441; clear HO450; clear HB; clear HO456; have HO441 := n0_; have HO450 := n1_; have HB := n2_; have HO459 := n3_; clear n0_ n1_ n2_ n3_; clear ho hb hg hat; obtain ⟨Ao28, co28, eo28⟩ := Kd.R_slice HO459.out; subst eo28) | ((with_reducible refine gate_callee (f := 17) rfl ?_); refine goesL_ (some 51) rfl rfl Try.func17 (by kernel_rfl) rfl #[.slice Ao28 y457.length co28] rfl (by (try simp only [List.map_toArray, List.map_cons, List.map_nil]); first | done | rfl | (simp only [List.length_drop, List.length_take]; rfl)) ?_; (with_reducible refine (batch_Parse.calls _ _ y457 t460 t461 _ ?side1 ?side2 A17.out).mono ?_); (case side1 => repeat (first | exact (Kd.R_reads' HO459.out).2.2 | (with_reducible refine Kd.C_alloc ?_ _) | (with_reducible refine Kd.C_drewN ?_ _) | (with_reducible refine Kd.C_drew ?_))); (case side2 => exact (Kd.R_reads' HO459.out).2.1); rintro e w29 ⟨v462, rfl, ho0, hb⟩; refine ⟨_, rfl, ?_⟩; have n0_ := Aside0.mk (Kd.R_below (by (with_reducible repeat (first | apply Kd.R_alloc | apply Kd.R_drewN | apply Kd.R_drew)); exact HO441.out) hb); have n1_ := Aside0.mk (Kd.R_elder' (by (with_reducible repeat (first | apply Kd.R_alloc | apply Kd.R_drewN | apply Kd.R_drew)); exact HO450.out) (Kd.R_base ho0) hb); have n2_ := Aside0.mk (Kd.R_below (by (with_reducible repeat (first | apply Kd.R_alloc | apply Kd.R_drewN | apply Kd.R_drew)); exact HO459.out) hb); have n3_ := Aside0.mk (Kd.R_lower (Kd.R_new' ho0 (Kd.R_lt (by (with_reducible repeat (first | apply Kd.R_alloc | apply Kd.R_drewN | apply Kd.R_drew)); exact HO450.out))) (below_size (by repeat (first | (with_reducible first | exact HB.out | apply below_alloc | apply pw_below_drewN | apply below_drew1) | exact HB.out)))); have n4_ := Aside0.mk (below_step (by repeat (first | (with_reducible first | exact HB.out | apply below_alloc | apply pw_below_drewN | apply below_drew1) | exact HB.out)) hb); clear HO441; clear HO450; clear HO459; clear HB; have HO441 := n0_; have HO450 := n1_; have HO459 := n2_; have HO463 := n3_; have HB := n4_; clear n0_ n1_ n2_ n3_ n4_; (try clear hb); (try clear hb2); (try clear hk); (try clear hi); (try clear ho0)))
                  (try simp only [Act.put, List.setIfInBounds_toArray, List.set_cons_zero, List.set_cons_succ])
                  go_cut [65] (fun v65 wc => ∃ (kq : Nat) (x65_17 : Bool), v65 = .bool x65_17 ∧ Aside0 (ratlinelaw04_BatchCut.j0 kq t438 t448 t461 (wrap64 (Int.tmod a3 128)) 40 x65_17 = some r) ∧ Aside0 (kq ≤ k) ∧ Aside0 (Kd.R (Kd.int .u8) 5 wc w.heap.size (fun _ => True) (.slice Ao21 t438.length co21) t438) ∧ Aside0 (Below w.heap.size w wc))
                  case first =>
                    have H := HC18.out
                    clear HC18
                    by_cases c30 : (l0.length : Int) < 128
                    · rw [if_pos c30] at H
                      have c30b0 : decide ((l0.length : Int) < 128) = true := decide_eq_true c30
                      have c30b1 : decide (l0.length < 128) = true := decide_eq_true (by omega)
                      clear c30
                      (first | rw [c30b0] | (simp only [i64_w, i32_w]; rw [c30b0]) | skip)
                      have H' := Aside0.mk H
                      clear H
                      go_wp2
                      go_meet
                      case rel => exact ⟨_, (((wrap64 (Int.tmod a3 128)) != (l0.length : Int))), (by first | rfl | (simp; done) | (simp [*]; done)), H', ⟨by first | omega | exact Nat.le_refl _⟩, ⟨by (with_reducible repeat (first | apply Kd.R_alloc | apply Kd.R_drewN | apply Kd.R_drew)); exact Kd.R_mono HO441.out (fun _ hk => trivial)⟩, ⟨by repeat (first | (with_reducible first | exact HB.out | apply below_alloc | apply pw_below_drewN | apply below_drew1) | exact HB.out)⟩⟩
                    · rw [if_neg c30] at H
                      have c30b0 : decide ((l0.length : Int) < 128) = false := decide_eq_false c30
                      have c30b1 : decide (l0.length < 128) = false := decide_eq_false (by omega)
                      clear c30
                      (first | rw [c30b0] | (simp only [i64_w, i32_w]; rw [c30b0]) | skip)
                      have H' := Aside0.mk H
                      clear H
                      go_wp2
                      go_meet
                      case rel => exact ⟨_, (false), (by first | rfl | (simp; done) | (simp [*]; done)), H', ⟨by first | omega | exact Nat.le_refl _⟩, ⟨by (with_reducible repeat (first | apply Kd.R_alloc | apply Kd.R_drewN | apply Kd.R_drew)); exact Kd.R_mono HO441.out (fun _ hk => trivial)⟩, ⟨by repeat (first | (with_reducible first | exact HB.out | apply below_alloc | apply pw_below_drewN | apply below_drew1) | exact HB.out)⟩⟩
                  case rest =>
                    clear HC18
                    try clear c1
                    try clear p2
                    try clear q2
                    try clear c3
                    try clear c5
                    try clear c6
                    try clear p6
                    try clear c8
                    try clear c8b0
                    try clear c8b1
                    try clear c9
                    try clear c9b0
                    try clear c9b1
                    try clear c10
                    try clear c10b0
                    try clear c10b1
                    try clear c10b2
                    try clear c12
                    try clear c12b0
                    try clear c12b1
                    try clear c13
                    try clear c13b0
                    try clear c13b1
                    try clear c15
                    try clear c16
                    try clear c17
                    try clear q22
                    try clear c30
                    try clear c30b0
                    try clear c30b1
                    try clear q22
                    obtain ⟨kq, x65_17, rfl, HA, HJ17, HO_9, HB⟩ := hcut
                    cases kq with
                    | zero => exact absurd HA.out (by simp [ratlinelaw04_BatchCut.j0])
                    | succ kj17 =>
                      have H := HA.out
                      clear HA
                      simp only [ratlinelaw04_BatchCut.j0] at H
                      by_cases c31 : x65_17 = true
                      · subst c31
                        have H1 : ((some (([((wrap64 (Int.tmod a3 128))) % 256] : List Int) : List Int)).bind fun y464 => (if 1 ≤ (t438.length : Int) then ((some (t438.drop 1 : List Int)).bind fun y467 => (if y464.length + y467.length < 140737488355328 then ((batch_Parse.f (y464 ++ y467)).bind fun bt474 => (if t448 = 40 then (if t461 = 40 then (if bt474.2 = 40 then ((ratlinelaw04_awake.f kj17).bind fun t478 => (some t478)) else (none)) else (none)) else (none))) else (none))) else (none))) = some r := by rw [if_pos rfl] at H; exact H
                        clear H
                        have H := H1
                        clear H1
                        obtain ⟨y464, hy464⟩ : ∃ y_ : List Int, y_ = (([((wrap64 (Int.tmod a3 128))) % 256] : List Int)) := ⟨_, rfl⟩
                        replace H : (if 1 ≤ (t438.length : Int) then ((some (t438.drop 1 : List Int)).bind fun y467 => (if y464.length + y467.length < 140737488355328 then ((batch_Parse.f (y464 ++ y467)).bind fun bt474 => (if t448 = 40 then (if t461 = 40 then (if bt474.2 = 40 then ((ratlinelaw04_awake.f kj17).bind fun t478 => (some t478)) else (none)) else (none)) else (none))) else (none))) else (none)) = some r := by first | (rw [hy464]; with_reducible exact H) | (have H2_ := (Option.bind_some _ _).symm.trans H; rw [hy464]; with_reducible exact H2_) | (have H2_ := (Option.bind_some _ _).symm.trans H; with_reducible exact H2_) | with_reducible exact H | (rw [hy464]; exact H) | exact H
                        have Ny464 := Aside0.mk hy464
                        clear hy464
                        by_cases c32 : 1 ≤ (t438.length : Int)
                        · rw [if_pos c32] at H
                          have c32b0 := eq_true c32
                          have c32b1 : decide (1 ≤ (t438.length : Int)) = true := decide_eq_true c32
                          clear c32
                          obtain ⟨y467, hy467⟩ : ∃ y_ : List Int, y_ = (t438.drop 1) := ⟨_, rfl⟩
                          replace H : (if y464.length + y467.length < 140737488355328 then ((batch_Parse.f (y464 ++ y467)).bind fun bt474 => (if t448 = 40 then (if t461 = 40 then (if bt474.2 = 40 then ((ratlinelaw04_awake.f kj17).bind fun t478 => (some t478)) else (none)) else (none)) else (none))) else (none)) = some r := by first | (rw [hy467]; with_reducible exact H) | (have H2_ := (Option.bind_some _ _).symm.trans H; rw [hy467]; with_reducible exact H2_) | (have H2_ := (Option.bind_some _ _).symm.trans H; with_reducible exact H2_) | with_reducible exact H | (rw [hy467]; exact H) | exact H
                          have Ny467 := Aside0.mk hy467
                          clear hy467
                          by_cases c33 : y464.length + y467.length < 140737488355328
                          · rw [if_pos c33] at H
                            have LMc33 := Aside0.mk c33
                            clear c33
                            obtain ⟨y471, hy471⟩ : ∃ y_ : List Int, y_ = (y464 ++ y467) := ⟨_, rfl⟩
                            replace H : ((batch_Parse.f y471).bind fun bt474 => (if t448 = 40 then (if t461 = 40 then (if bt474.2 = 40 then ((ratlinelaw04_awake.f kj17).bind fun t478 => (some t478)) else (none)) else (none)) else (none))) = some r := by first | (rw [hy471]; with_reducible exact H) | (have H2_ := (Option.bind_some _ _).symm.trans H; rw [hy471]; with_reducible exact H2_) | (have H2_ := (Option.bind_some _ _).symm.trans H; with_reducible exact H2_) | with_reducible exact H | (rw [hy471]; exact H) | exact H
                            have Ny471 := Aside0.mk hy471
                            clear hy471
                            replace H := Option.bind_eq_some_iff.mp H
                            obtain ⟨⟨t474, t475⟩, A340, H⟩ := H
                            replace H : (if t448 = 40 then (if t461 = 40 then (if t475 = 40 then ((ratlinelaw04_awake.f kj17).bind fun t478 => (some t478)) else (none)) else (none)) else (none)) = some r := H
                            have A34 := Aside0.mk A340
                            clear A340
                            by_cases c35 : t448 = 40
                            · rw [if_pos c35] at H
                              have c35b0 : (t448 == 40) = true := beq_iff_eq.mpr c35
                              have c35b1 : (t448 != 40) = false := bne_eq_false_iff_eq.mpr c35
                              clear c35
                              by_cases c36 : t461 = 40
                              · rw [if_pos c36] at H
                                have c36b0 : (t461 == 40) = true := beq_iff_eq.mpr c36
                                have c36b1 : (t461 != 40) = false := bne_eq_false_iff_eq.mpr c36
                                clear c36
                                by_cases c37 : t475 = 40
                                · rw [if_pos c37] at H
                                  have c37b0 : (t475 == 40) = true := beq_iff_eq.mpr c37
                                  have c37b1 : (t475 != 40) = false := bne_eq_false_iff_eq.mpr c37
                                  clear c37
                                  replace H := Option.bind_eq_some_iff.mp H
                                  obtain ⟨t478, A380, H⟩ := H
                                  replace H : (some t478) = some r := H
                                  have A38 := Aside0.mk A380
                                  clear A380
                                  obtain rfl := Option.some.inj H
                                  go_wp2_with (first | ((with_reducible refine gate_dst (N := 68) rfl ?_); (try (refine gate_guard (by rfl) ?_; dsimp only)); refine Kd.R_lit (Kd.int .u8) _ 5 ?hg (N := 68) ?hd (xs := ([((wrap64 (Int.tmod a3 128))) % 256] : List Int)) (inner := [.int .u8 (((wrap64 (Int.tmod a3 128))) % 256)]) (ok := fun _ => True) (okp := fun _ => True) ?hr ?hp (fun _ hk => hk) trivial (Below.refl _ _) (Nat.le_refl _) (by simp) ?_; (case hd => rfl); (case hg => rfl); (case hr => first | (go_simp; done) | (go_simp; rfl)); (case hp => exact (Reps.one (show Kd.M (Kd.int .u8) _ _ _ (((wrap64 (Int.tmod a3 128))) % 256) [.int .u8 (((wrap64 (Int.tmod a3 128))) % 256)] from rfl) (Reps.none _ _))); intro v465 w39 ho40 hb hg_ hnew_; clear hg_ hnew_; (first | rw [← Ny464.out] at ho40 | (simp only [Int.reduceToNat] at ho40; rw [← Ny464.out] at ho40)); have n0_ := Aside0.mk (Kd.R_elder' (by (with_reducible repeat (first | apply Kd.R_alloc | apply Kd.R_drewN | apply Kd.R_drew)); exact HO_9.out) (Kd.R_base ho40) hb); have n1_ := Aside0.mk (Kd.R_lower (Kd.R_new' ho40 (Kd.R_lt (by (with_reducible repeat (first | apply Kd.R_alloc | apply Kd.R_drewN | apply Kd.R_drew)); exact HO_9.out))) (below_size (by repeat (first | (with_reducible first | exact HB.out | apply below_alloc | apply pw_below_drewN | apply below_drew1) | exact HB.out)))); have n2_ := Aside0.mk (below_step (by repeat (first | (with_reducible first | exact HB.out | apply below_alloc | apply pw_below_drewN | apply below_drew1) | exact HB.out)) hb); clear HO_9; clear HB; have HO_9 := n0_; have HO466 := n1_; have HB := n2_; clear n0_ n1_ n2_; clear hb ho40; have q41 : (1 : Int) ≤ ((t438.length : Int) : Int) := of_decide_eq_true (by first | (with_reducible assumption) | assumption); obtain ⟨i041, hi041, _, hsz41, _⟩ := info_parts info5; have hroom41 : t438.length ≤ co21 := (Kd.R_reads' HO_9.out).2.1; have hC41 : Kd.C (Kd.int .u8) _ Ao21 t438.length t438 := (Kd.R_reads' HO_9.out).2.2; have hcut41 := cut_from (P := Try.prog) 23 5 .i64 Try.underlying23 hi041 1 hsz41 Ao21 t438.length co21 1 (by omega) q41; have hr41 := Kd.C_drop (m := (1 : Int).toNat) (c := co21) hC41 (by omega) hroom41; obtain ⟨A41, hA41⟩ : ∃ A1, A1 = (if co21 = (1 : Int).toNat then Ao21 else (Ao21 : Option Addr).map (·.add ((1 : Int).toNat * 1))) := ⟨_, rfl⟩; obtain ⟨c41, hc41⟩ : ∃ c1, c1 = co21 - (1 : Int).toNat := ⟨_, rfl⟩; have hy41 : y467.length = t438.length - (1 : Int).toNat := (by rw [Ny467.out, List.length_drop] <;> omega); rw [show (t438).drop (1 : Int).toNat = y467 from Ny467.out.symm] at hr41; replace hr41 : Kd.C (Kd.int .u8) _ A41 y467.length y467 := (by rw [hA41]; exact hr41); rw [← hy41, ← hA41, ← hc41] at hcut41; have HR470 := Aside0.mk hr41; have HC470 := Aside0.mk (show y467.length ≤ c41 from by rw [hy41, hc41]; exact Nat.sub_le_sub_right hroom41 _); clear hr41 hC41 hroom41 hi041 hsz41 hc41; have KY41 := Aside0.mk hy41; have KA41 := Aside0.mk hA41; clear hy41 hA41; have KL41 := Aside0.mk (show 1 ≤ t438.length from by omega); replace q41 := eq_true q41) | ((with_reducible refine gate_builtin (b := .append) (xs := #[.tmp 68, .tmp 70]) rfl ?_); (try (refine gate_guard (by rfl) ?_; dsimp only)); at_builtin; refine Kd.R_append_rows (Kd.int .u8) (w0 := w) w.heap.size rfl (.tmp 68) (.tmp 70) 23 5 (.int .u8 0) 1 rfl Try.underlying23 info5 rfl (by decide) (by omega) v465 y464 y467 _ _ _ (fun k_ => some k_ ≠ (.slice Ao21 t438.length co21 : Value).ownBlock) (fun _ => False) rfl rfl ?aO ?aR (fun _ _ h => h) (fun _ h => h.elim) ?aF ?aB ?aS ?aL ?_; (case aR => repeat (first | exact (by repeat (first | (with_reducible exact HR470.out) | (with_reducible refine Kd.C_alloc ?_ _) | (with_reducible refine Kd.C_drewN ?_ _) | (with_reducible refine Kd.C_drew ?_) | exact HR470.out)) | (with_reducible refine Kd.C_alloc ?_ _) | (with_reducible refine Kd.C_drewN ?_ _) | (with_reducible refine Kd.C_drew ?_))); (case aB => exact (by repeat (first | (with_reducible first | exact HB.out | apply below_alloc | apply pw_below_drewN | apply below_drew1) | exact HB.out))); (case aF => exact (fun k_ hk => Kd.fresh' (Kd.R_lt (by (with_reducible repeat (first | apply Kd.R_alloc | apply Kd.R_drewN | apply Kd.R_drew)); exact HO_9.out)) k_ hk)); (case aO => exact (by (with_reducible repeat (first | apply Kd.R_alloc | apply Kd.R_drewN | apply Kd.R_drew)); exact Kd.R_mono HO466.out (fun _ hk => hk.2))); (case aS => exact (below_size (by repeat (first | (with_reducible first | exact HB.out | apply below_alloc | apply pw_below_drewN | apply below_drew1) | exact HB.out)))); (case aL => have := LMc33.out; omega); intro v472 w42 ho hb hg hat; rw [← Ny471.out] at ho; have n0_ := Aside0.mk (Kd.R_after (ok := (fun _ => True)) (by (with_reducible repeat (first | apply Kd.R_alloc | apply Kd.R_drewN | apply Kd.R_drew)); exact HO_9.out) hg hat); have n1_ := Aside0.mk (hb); have n2_ := Aside0.mk ((show Kd.C (Kd.int .u8) w42 A41 y467.length y467 from by rw [Ny467.out, KA41.out]; exact Kd.C_drop (m := 1) (c := co21) ((Kd.R_reads' (Kd.R_after (ok := (fun _ => True)) (by (with_reducible repeat (first | apply Kd.R_alloc | apply Kd.R_drewN | apply Kd.R_drew)); exact HO_9.out) hg hat)).2.2) KL41.out ((Kd.R_reads' (Kd.R_after (ok := (fun _ => True)) (by (with_reducible repeat (first | apply Kd.R_alloc | apply Kd.R_drewN | apply Kd.R_drew)); exact HO_9.out) hg hat)).2.1))); have n3_ := Aside0.mk (ho); clear HO_9; clear HB; clear HR470; clear HO466; have HO_9 := n0_; have HB := n1_; have HR470 := n2_; have HO473 := n3_; clear n0_ n1_ n2_ n3_; clear ho hb hg hat; obtain ⟨Ao43, co43, eo43⟩ := Kd.R_slice HO473.out; subst eo43) | ((with_reducible refine gate_callee (f := 17) rfl ?_); refine goesL_ (some 74) rfl rfl Try.func17 (by kernel_rfl) rfl #[.slice Ao43 y471.length co43] rfl (by (try simp only [List.map_toArray, List.map_cons, List.map_nil]); first | done | rfl | (simp only [List.length_drop, List.length_take]; rfl)) ?_; (with_reducible refine (batch_Parse.calls _ _ y471 t474 t475 _ ?side1 ?side2 A34.out).mono ?_); (case side1 => repeat (first | exact (Kd.R_reads' HO473.out).2.2 | (with_reducible refine Kd.C_alloc ?_ _) | (with_reducible refine Kd.C_drewN ?_ _) | (with_reducible refine Kd.C_drew ?_))); (case side2 => exact (Kd.R_reads' HO473.out).2.1); rintro e w44 ⟨v476, rfl, ho0, hb⟩; refine ⟨_, rfl, ?_⟩; have n0_ := Aside0.mk (Kd.R_below (by (with_reducible repeat (first | apply Kd.R_alloc | apply Kd.R_drewN | apply Kd.R_drew)); exact HO_9.out) hb); have n1_ := Aside0.mk (Kd.R_below (by (with_reducible repeat (first | apply Kd.R_alloc | apply Kd.R_drewN | apply Kd.R_drew)); exact HO473.out) hb); have n2_ := Aside0.mk (Kd.R_lower ho0 (below_size (by repeat (first | (with_reducible first | exact HB.out | apply below_alloc | apply pw_below_drewN | apply below_drew1) | exact HB.out)))); have n3_ := Aside0.mk (below_step (by repeat (first | (with_reducible first | exact HB.out | apply below_alloc | apply pw_below_drewN | apply below_drew1) | exact HB.out)) hb); clear HO_9; clear HO473; clear HB; have HO_9 := n0_; have HO473 := n1_; have HO477 := n2_; have HB := n3_; clear n0_ n1_ n2_ n3_; (try clear hb); (try clear hb2); (try clear hk); (try clear hi); (try clear ho0)) | (go_at_call 14; (with_reducible refine (ratlinelaw04_awake.calls kj17  t478 _ A38.out).mono ?_); rintro e w45 ⟨rfl, hb⟩; have n0_ := Aside0.mk (Kd.R_below (by (with_reducible repeat (first | apply Kd.R_alloc | apply Kd.R_drewN | apply Kd.R_drew)); exact HO_9.out) hb); have n1_ := Aside0.mk (Kd.R_below (by (with_reducible repeat (first | apply Kd.R_alloc | apply Kd.R_drewN | apply Kd.R_drew)); exact HO473.out) hb); have n2_ := Aside0.mk (Kd.R_below (by (with_reducible repeat (first | apply Kd.R_alloc | apply Kd.R_drewN | apply Kd.R_drew)); exact HO477.out) hb); have n3_ := Aside0.mk (below_step (by repeat (first | (with_reducible first | exact HB.out | apply below_alloc | apply pw_below_drewN | apply below_drew1) | exact HB.out)) hb); clear HO_9; clear HO473; clear HO477; clear HB; have HO_9 := n0_; have HO473 := n1_; have HO477 := n2_; have HB := n3_; clear n0_ n1_ n2_ n3_; (try clear hb); (try clear hb2); (try clear hk); (try clear hi)))
                                  go_ret
                                  exact ⟨by first | rfl | (simp [errW_none, errW_some] <;> rfl) | (simp only [← hji11]; first | rfl | (simp [errW_none, errW_some] <;> rfl)) | (simp [*, errW_none, errW_some] <;> rfl), by repeat (first | (with_reducible first | exact HB.out | apply below_alloc | apply pw_below_drewN | apply below_drew1) | exact HB.out)⟩
                                · rw [if_neg c37] at H
                                  exact absurd H (by simp)
                              · rw [if_neg c36] at H
                                exact absurd H (by simp)
                            · rw [if_neg c35] at H
                              exact absurd H (by simp)
                          · rw [if_neg c33] at H
                            exact absurd H (by simp)
                        · rw [if_neg c32] at H
                          exact absurd H (by simp)
                      · replace c31 := Bool.eq_false_iff.mpr c31
                        subst c31
                        have H1 : (if t448 = 40 then (if t461 = 40 then (if 40 = 40 then ((ratlinelaw04_awake.f kj17).bind fun t479 => (some t479)) else (none)) else (none)) else (none)) = some r := by rw [if_neg (show ¬ (false = true) by decide)] at H; exact H
                        clear H
                        have H := H1
                        clear H1
                        by_cases c46 : t448 = 40
                        · rw [if_pos c46] at H
                          have c46b0 : (t448 == 40) = true := beq_iff_eq.mpr c46
                          have c46b1 : (t448 != 40) = false := bne_eq_false_iff_eq.mpr c46
                          clear c46
                          by_cases c47 : t461 = 40
                          · rw [if_pos c47] at H
                            have c47b0 : (t461 == 40) = true := beq_iff_eq.mpr c47
                            have c47b1 : (t461 != 40) = false := bne_eq_false_iff_eq.mpr c47
                            clear c47
                            by_cases c48 : 40 = 40
                            · rw [if_pos c48] at H
                              have c48b0 : (40 == 40) = true := beq_iff_eq.mpr c48
                              have c48b1 : (40 != 40) = false := bne_eq_false_iff_eq.mpr c48
                              clear c48
                              replace H := Option.bind_eq_some_iff.mp H
                              obtain ⟨t479, A490, H⟩ := H
                              replace H : (some t479) = some r := H
                              have A49 := Aside0.mk A490
                              clear A490
                              obtain rfl := Option.some.inj H
                              go_wp2_with (first | (go_at_call 14; (with_reducible refine (ratlinelaw04_awake.calls kj17  t479 _ A49.out).mono ?_); rintro e w50 ⟨rfl, hb⟩; have n0_ := Aside0.mk (Kd.R_below (by (with_reducible repeat (first | apply Kd.R_alloc | apply Kd.R_drewN | apply Kd.R_drew)); exact HO_9.out) hb); have n1_ := Aside0.mk (below_step (by repeat (first | (with_reducible first | exact HB.out | apply below_alloc | apply pw_below_drewN | apply below_drew1) | exact HB.out)) hb); clear HO_9; clear HB; have HO_9 := n0_; have HB := n1_; clear n0_ n1_; (try clear hb); (try clear hb2); (try clear hk); (try clear hi)))
                              go_ret
                              exact ⟨by first | rfl | (simp [errW_none, errW_some] <;> rfl) | (simp only [← hji11]; first | rfl | (simp [errW_none, errW_some] <;> rfl)) | (simp [*, errW_none, errW_some] <;> rfl), by repeat (first | (with_reducible first | exact HB.out | apply below_alloc | apply pw_below_drewN | apply below_drew1) | exact HB.out)⟩
                            · rw [if_neg c48] at H
                              exact absurd H (by simp)
                          · rw [if_neg c47] at H
                            exact absurd H (by simp)
                        · rw [if_neg c46] at H
                          exact absurd H (by simp)
                · rw [if_neg c16] at H
                  exact absurd H (by simp)
              · rw [if_neg c15] at H
                exact absurd H (by simp)
            · rw [if_neg c13] at H
              exact absurd H (by simp)
          · rw [if_neg c12] at H
            exact absurd H (by simp)
    · rw [if_neg c8] at H
      have c8b0 : (t439 == 0) = false := beq_eq_false_iff_ne.mpr c8
      have c8b1 : (t439 != 0) = true := bne_iff_ne.mpr c8
      replace H := Option.bind_eq_some_iff.mp H
      obtain ⟨t442, A510, H⟩ := H
      replace H : (some t442) = some r := H
      have A51 := Aside0.mk A510
      clear A510
      obtain rfl := Option.some.inj H
      go_enter Try.func5, Try.ntmps5
      go_wp2_with (first | ((with_reducible refine gate_callee (f := 13) rfl ?_); refine goesL_ (some 19) rfl rfl Try.func13 (by kernel_rfl) rfl #[.slice A0 l0.length c0, .int .i64 128] rfl (by (try simp only [List.map_toArray, List.map_cons, List.map_nil]); first | done | rfl | (simp only [List.length_drop, List.length_take]; rfl)) ?_; (with_reducible refine (ratlinelaw04_Few.calls k _ _ l0 128 true _ ?side1 ?side2 A5.out).mono ?_); (case side1 => repeat (first | exact HR0.out | (with_reducible refine Kd.C_alloc ?_ _) | (with_reducible refine Kd.C_drewN ?_ _) | (with_reducible refine Kd.C_drew ?_))); (case side2 => exact HC0.out); rintro e w52 ⟨rfl, hb⟩; refine ⟨_, rfl, ?_⟩; have n0_ := Aside0.mk (below_step (by repeat (first | (with_reducible first | exact HB.out | apply below_alloc | apply pw_below_drewN | apply below_drew1) | exact HB.out)) hb); clear HB; have HB := n0_; clear n0_; (try clear hb); (try clear hb2); (try clear hk); (try clear hi)) | ((with_reducible refine gate_callee (f := 15) rfl ?_); refine goesL_ (some 24) rfl rfl Try.func15 (by kernel_rfl) rfl #[.slice A0 l0.length c0] rfl (by (try simp only [List.map_toArray, List.map_cons, List.map_nil]); first | done | rfl | (simp only [List.length_drop, List.length_take]; rfl)) ?_; (with_reducible refine (batch_Bytes.calls k _ _ l0 t438 t439 _ ?side1 ?side2 A7.out).mono ?_); (case side1 => repeat (first | exact (Kd.C_below HR0.out HB.out) | (with_reducible refine Kd.C_alloc ?_ _) | (with_reducible refine Kd.C_drewN ?_ _) | (with_reducible refine Kd.C_drew ?_))); (case side2 => exact HC0.out); rintro e w53 ⟨v440, rfl, ho0, hb⟩; refine ⟨_, rfl, ?_⟩; have n0_ := Aside0.mk (Kd.R_lower ho0 (below_size (by repeat (first | (with_reducible first | exact HB.out | apply below_alloc | apply pw_below_drewN | apply below_drew1) | exact HB.out)))); have n1_ := Aside0.mk (below_step (by repeat (first | (with_reducible first | exact HB.out | apply below_alloc | apply pw_below_drewN | apply below_drew1) | exact HB.out)) hb); clear HB; have HO441 := n0_; have HB := n1_; clear n0_ n1_; (try clear hb); (try clear hb2); (try clear hk); (try clear hi); (try clear ho0)) | (go_at_call 14; (with_reducible refine (ratlinelaw04_awake.calls k  t442 _ A51.out).mono ?_); rintro e w54 ⟨rfl, hb⟩; have n0_ := Aside0.mk (Kd.R_below (by (with_reducible repeat (first | apply Kd.R_alloc | apply Kd.R_drewN | apply Kd.R_drew)); exact HO441.out) hb); have n1_ := Aside0.mk (below_step (by repeat (first | (with_reducible first | exact HB.out | apply below_alloc | apply pw_below_drewN | apply below_drew1) | exact HB.out)) hb); clear HO441; clear HB; have HO441 := n0_; have HB := n1_; clear n0_ n1_; (try clear hb); (try clear hb2); (try clear hk); (try clear hi); (try apply_assumption)))
      go_ret
      exact ⟨by first | rfl | (simp [errW_none, errW_some] <;> rfl) | (simp [*, errW_none, errW_some] <;> rfl), by repeat (first | (with_reducible first | exact HB.out | apply below_alloc | apply pw_below_drewN | apply below_drew1) | exact HB.out)⟩
  · replace c6 := Bool.eq_false_iff.mpr c6
    subst c6
    have H1 : ((ratlinelaw04_awake.f k).bind fun t437 => (some t437)) = some r := by rw [if_neg (show ¬ (false = true) by decide)] at H; exact H
    clear H
    have H := H1
    clear H1
    replace H := Option.bind_eq_some_iff.mp H
    obtain ⟨t437, A550, H⟩ := H
    replace H : (some t437) = some r := H
    have A55 := Aside0.mk A550
    clear A550
    obtain rfl := Option.some.inj H
    go_enter Try.func5, Try.ntmps5
    go_wp2_with (first | ((with_reducible refine gate_callee (f := 13) rfl ?_); refine goesL_ (some 19) rfl rfl Try.func13 (by kernel_rfl) rfl #[.slice A0 l0.length c0, .int .i64 128] rfl (by (try simp only [List.map_toArray, List.map_cons, List.map_nil]); first | done | rfl | (simp only [List.length_drop, List.length_take]; rfl)) ?_; (with_reducible refine (ratlinelaw04_Few.calls k _ _ l0 128 false _ ?side1 ?side2 A5.out).mono ?_); (case side1 => repeat (first | exact HR0.out | (with_reducible refine Kd.C_alloc ?_ _) | (with_reducible refine Kd.C_drewN ?_ _) | (with_reducible refine Kd.C_drew ?_))); (case side2 => exact HC0.out); rintro e w56 ⟨rfl, hb⟩; refine ⟨_, rfl, ?_⟩; have n0_ := Aside0.mk (below_step (by repeat (first | (with_reducible first | exact HB.out | apply below_alloc | apply pw_below_drewN | apply below_drew1) | exact HB.out)) hb); clear HB; have HB := n0_; clear n0_; (try clear hb); (try clear hb2); (try clear hk); (try clear hi)) | (go_at_call 14; (with_reducible refine (ratlinelaw04_awake.calls k  t437 _ A55.out).mono ?_); rintro e w57 ⟨rfl, hb⟩; have n0_ := Aside0.mk (below_step (by repeat (first | (with_reducible first | exact HB.out | apply below_alloc | apply pw_below_drewN | apply below_drew1) | exact HB.out)) hb); clear HB; have HB := n0_; clear n0_; (try clear hb); (try clear hb2); (try clear hk); (try clear hi); (try apply_assumption)))
    go_ret
    exact ⟨by first | rfl | (simp [errW_none, errW_some] <;> rfl) | (simp [*, errW_none, errW_some] <;> rfl), by repeat (first | (with_reducible first | exact HB.out | apply below_alloc | apply pw_below_drewN | apply below_drew1) | exact HB.out)⟩

end Go.Proofs.Ytlaihdipagejfaa.P

end

section
set_option linter.unusedVariables false
namespace Go.Proofs.YtlaihdipagejfaaL
open Go Go.RowKit Go.Proofs.YtlaihdipagejfaaG Go.Proofs.YtlaihdipagejfaaW.PrintWords

theorem bind1 {α δ : Type} {o : Option α} {a : α} {f : α → Option δ} {r : Option δ} (h : o = some a) (k : f a = r) : o.bind f = r := by
  rw [h]
  exact k
/-- Bytes. -/
def By (l : List Int) : Prop := ∀ c ∈ l, 0 ≤ c ∧ c < 256
theorem By.nil : By [] := fun c h => by cases h
theorem By.cons {c : Int} {l : List Int} (h0 : 0 ≤ c) (h1 : c < 256) (h : By l) : By (c :: l) := fun d hd => by
  rcases List.mem_cons.1 hd with rfl | hd
  · exact ⟨h0, h1⟩
  · exact h d hd
theorem By.append {a b : List Int} (ha : By a) (hb : By b) : By (a ++ b) := fun c h => (List.mem_append.1 h).elim (ha c) (hb c)
theorem By.right {a b : List Int} (h : By (a ++ b)) : By b := fun c hc => h c (List.mem_append_right _ hc)
theorem By.take {l : List Int} (h : By l) (n : Nat) : By (l.take n) := fun c hc => h c (List.mem_of_mem_take hc)
theorem By.drop {l : List Int} (h : By l) (n : Nat) : By (l.drop n) := fun c hc => h c (List.mem_of_mem_drop hc)
theorem By.tail {c : Int} {l : List Int} (h : By (c :: l)) : By l := fun d hd => h d (List.mem_cons_of_mem _ hd)
theorem By.head {c : Int} {l : List Int} (h : By (c :: l)) : 0 ≤ c ∧ c < 256 := h c (List.mem_cons_self ..)
theorem vint_small {x : Nat} (h : ¬ 127 < x) : vint x = [(x : Int)] := by rw [vint, dif_neg h]
theorem vint_big {x : Nat} (h : 127 < x) : vint x = ((x % 128 + 128 : Nat) : Int) :: vint (x / 128) := by rw [vint, dif_pos h]
theorem vint_pos (x : Nat) : 0 < (vint x).length := by
  by_cases h : 127 < x
  · rw [vint_big h]; simp
  · rw [vint_small h]; simp
theorem vint_by (x : Nat) : By (vint x) := by
  induction x using Nat.strongRecOn with
  | ind x ih =>
    by_cases h : 127 < x
    · rw [vint_big h]
      exact .cons (by omega) (by omega) (ih _ (by omega))
    · rw [vint_small h]
      exact .cons (by omega) (by omega) .nil
theorem val7_vint (x : Nat) : val7 (vint x) = x := by
  induction x using Nat.strongRecOn with
  | ind x ih =>
    by_cases h : 127 < x
    · rw [vint_big h, val7, ih _ (by omega)]; omega
    · rw [vint_small h, val7, val7]; omega
theorem vint_inj {x y : Nat} (h : vint x = vint y) : x = y := by rw [← val7_vint x, h, val7_vint]
theorem findIdx_vint (x : Nat) (rest : List Int) : (vint x ++ rest).findIdx (· < 128) = (vint x).length - 1 := by
  induction x using Nat.strongRecOn with
  | ind x ih =>
    by_cases h : 127 < x
    · have hp := vint_pos (x / 128)
      rw [vint_big h, List.cons_append, List.findIdx_cons, ih _ (by omega)]
      have : decide ((((x % 128 + 128 : Nat) : Int)) < 128) = false := decide_eq_false (by omega)
      rw [this]
      simp only [cond_false, List.length_cons]
      omega
    · rw [vint_small h, List.cons_append, List.findIdx_cons]
      have : decide ((x : Int) < 128) = true := decide_eq_true (by omega)
      rw [this]
      simp
theorem vint_last (x : Nat) (rest : List Int) (hx : 0 < x) : (vint x ++ rest).getD ((vint x).length - 1) 0 ≠ 0 := by
  induction x using Nat.strongRecOn with
  | ind x ih =>
    by_cases h : 127 < x
    · have hp := vint_pos (x / 128)
      have := ih (x / 128) (by omega) (by omega)
      rw [vint_big h, List.cons_append, List.length_cons]
      obtain ⟨m, hm⟩ : ∃ m, (vint (x / 128)).length = m + 1 := ⟨_, (Nat.succ_pred_eq_of_pos hp).symm⟩
      rw [hm] at this ⊢
      simpa using this
    · rw [vint_small h]; simp; omega
theorem vint_top (m : Nat) (hm : m ≤ 128) (rest : List Int) : ∀ n x, x < 128 ^ n * m → (vint x).length = n + 1 → (vint x ++ rest).getD n 0 < m := by
  intro n
  induction n with
  | zero =>
    intro x hx hl
    have h : ¬ 127 < x := by simp at hx; omega
    rw [vint_small h]
    simp at hx ⊢
    omega
  | succ n ih =>
    intro x hx hl
    by_cases h : 127 < x
    · rw [vint_big h] at hl ⊢
      have hl' : (vint (x / 128)).length = n + 1 := by simpa using hl
      have := ih (x / 128) (by rw [Nat.pow_succ] at hx; rw [Nat.div_lt_iff_lt_mul (by omega)]; calc x < 128 ^ n * 128 * m := hx
        _ = 128 ^ n * m * 128 := by rw [Nat.mul_assoc, Nat.mul_comm 128 m, ← Nat.mul_assoc]) hl'
      simpa using this
    · rw [vint_small h] at hl
      simp at hl
theorem takeOk_vint (x : Nat) (rest : List Int) (hx : x < 18446744073709551616) : takeOk (vint x ++ rest) = true := by
  have hp := vint_pos x
  have hl := vint_len10 hx
  unfold takeOk
  rw [findIdx_vint]
  have h1 : (vint x).length - 1 < (vint x ++ rest).length := by rw [List.length_append]; omega
  have h3 : ¬ (0 < (vint x).length - 1 ∧ (vint x ++ rest).getD ((vint x).length - 1) 0 = 0) := by
    rintro ⟨h0, h⟩
    refine vint_last x rest ?_ h
    rcases Nat.eq_zero_or_pos x with rfl | h'
    · rw [vint_small (by omega)] at h0; simp at h0
    · exact h'
  have h4 : ¬ ((vint x).length - 1 = 9 ∧ 1 < (vint x ++ rest).getD 9 0) := by
    rintro ⟨h0, h⟩
    have := vint_top 2 (by omega) rest 9 x (by have : (128 : Nat) ^ 9 * 2 = 18446744073709551616 := by decide
                                               omega) (by omega)
    omega
  simp only [h1, decide_true, Bool.true_and, Bool.and_eq_true, Bool.not_eq_true', Bool.and_eq_false_iff, decide_eq_false_iff_not, decide_eq_true_eq]
  refine ⟨⟨by omega, ?_⟩, ?_⟩
  · by_cases h0 : 0 < (vint x).length - 1
    · exact .inr (fun h => h3 ⟨h0, h⟩)
    · exact .inl h0
  · by_cases h0 : (vint x).length - 1 = 9
    · exact .inr (fun h => h4 ⟨h0, h⟩)
    · exact .inl h0

/-- What is put is taken. -/
theorem take_vint (x : Nat) (rest : List Int) (hx : x < 18446744073709551616) (hr : By rest) (hl : rest.length + 10 < 140737488355328) :
    nums_Take.f (vint x ++ rest) = some ((x : Int), rest, true) := by
  have hp := vint_pos x
  have hl10 := vint_len10 hx
  unfold nums_Take.f
  rw [if_pos ⟨(vint_by x).append hr, by rw [List.length_append]; omega⟩, if_pos (takeOk_vint x rest hx), findIdx_vint]
  have e : (vint x).length - 1 + 1 = (vint x).length := by omega
  rw [e, List.take_left, List.drop_left, val7_vint]

theorem val7_pos : ∀ (l : List Int) (i : Nat), By l → l.findIdx (· < 128) = i → i < l.length → l.getD i 0 ≠ 0 → 0 < val7 (l.take (i + 1))
  | [], i, _, _, hl, _ => by simp at hl
  | c :: cs, i, hb, hi, hl, h0 => by
    have hc := hb.head
    rw [List.findIdx_cons] at hi
    by_cases h : c < 128
    · rw [decide_eq_true h] at hi
      simp at hi
      subst hi
      simp at h0
      simp [val7]
      omega
    · rw [decide_eq_false h] at hi
      simp at hi
      subst hi
      have := val7_pos cs _ hb.tail rfl (by simpa using hl) (by simpa using h0)
      rw [List.take_succ_cons, val7]
      omega
theorem vint_back : ∀ (l : List Int) (i : Nat), By l → l.findIdx (· < 128) = i → i < l.length → (0 < i → l.getD i 0 ≠ 0) → vint (val7 (l.take (i + 1))) = l.take (i + 1)
  | [], i, _, _, hl, _ => by simp at hl
  | c :: cs, i, hb, hi, hl, h0 => by
    have hc := hb.head
    rw [List.findIdx_cons] at hi
    by_cases h : c < 128
    · rw [decide_eq_true h] at hi
      simp at hi
      subst hi
      have e : val7 (List.take (0 + 1) (c :: cs)) = c.toNat := by simp [val7]; omega
      rw [e, vint_small (by omega)]
      simp
      omega
    · rw [decide_eq_false h] at hi
      simp at hi
      subst hi
      have hl' : cs.findIdx (· < 128) < cs.length := by simpa using hl
      have h0' : cs.getD (cs.findIdx (· < 128)) 0 ≠ 0 := by simpa using h0 (by omega)
      have ih := vint_back cs _ hb.tail rfl hl' (fun _ => h0')
      have hp := val7_pos cs _ hb.tail rfl hl' h0'
      rw [List.take_succ_cons, val7]
      rw [vint_big (by omega)]
      have e1 : ((c % 128).toNat + 128 * val7 (cs.take (cs.findIdx (· < 128) + 1))) / 128 = val7 (cs.take (cs.findIdx (· < 128) + 1)) := by omega
      have e2 : ((((c % 128).toNat + 128 * val7 (cs.take (cs.findIdx (· < 128) + 1))) % 128 + 128 : Nat) : Int) = c := by omega
      rw [e1, ih, e2]

/-- What is taken is put as it stood; or nothing is taken. -/
theorem take_cases (l : List Int) (hb : By l) (hl : l.length < 140737488355328) :
    (∃ (x : Nat) (rest : List Int), x < 18446744073709551616 ∧ l = vint x ++ rest ∧ nums_Take.f l = some ((x : Int), rest, true)) ∨
    (nums_Take.f l = some (0, [], false) ∧ ∀ (x : Nat) (rest : List Int), x < 18446744073709551616 → l ≠ vint x ++ rest) := by
  have hf : nums_Take.f l = some (if takeOk l = true then ((val7 (l.take (l.findIdx (· < 128) + 1)) : Int), l.drop (l.findIdx (· < 128) + 1), true) else (0, [], false)) := by
    unfold nums_Take.f
    rw [if_pos ⟨hb, hl⟩]
  by_cases ho : takeOk l = true
  · left
    rw [hf, if_pos ho]
    simp only [takeOk, Bool.and_eq_true, decide_eq_true_eq, Bool.not_eq_true', Bool.and_eq_false_iff, decide_eq_false_iff_not] at ho
    obtain ⟨⟨⟨h1, h2⟩, h3⟩, h4⟩ := ho
    have hback := vint_back l _ hb rfl h1 (fun h => by rcases h3 with h' | h'; exact absurd h h'; exact h')
    refine ⟨_, _, ?_, ?_, rfl⟩
    · have e1 : l.take (l.findIdx (· < 128) + 1) = l.take (l.findIdx (· < 128)) ++ [l.getD (l.findIdx (· < 128)) 0] := by
        rw [List.take_succ_eq_append_getElem h1, List.getD_eq_getElem?_getD, List.getElem?_eq_getElem h1]; rfl
      have hlen : (l.take (l.findIdx (· < 128))).length = l.findIdx (· < 128) := by rw [List.length_take]; omega
      have hlt := val7_lt (l.take (l.findIdx (· < 128)))
      rw [e1, val7_snoc, hlen]
      rw [hlen] at hlt
      generalize l.findIdx (· < 128) = i at *
      have hi9 : i ≤ 9 := by omega
      have e9 : (128 : Nat) ^ 9 * 2 = 18446744073709551616 := by decide
      by_cases hi : i = 9
      · subst hi
        have hm : l.getD 9 0 ∈ l := by rw [List.getD_eq_getElem?_getD, List.getElem?_eq_getElem h1]; exact List.getElem_mem h1
        have hm0 := (hb _ hm).1
        have hd : (l.getD 9 0 % 128).toNat ≤ 1 := by
          rcases h4 with h' | h'
          · exact absurd rfl h'
          · omega
        have : (l.getD 9 0 % 128).toNat * 128 ^ 9 ≤ 1 * 128 ^ 9 := Nat.mul_le_mul hd (Nat.le_refl _)
        omega
      · have hd : (l.getD i 0 % 128).toNat ≤ 127 := by omega
        have : (l.getD i 0 % 128).toNat * 128 ^ i ≤ 127 * 128 ^ i := Nat.mul_le_mul hd (Nat.le_refl _)
        have h8 : (128 : Nat) ^ i ≤ 128 ^ 8 := Nat.pow_le_pow_right (by omega) (by omega)
        have e8 : (128 : Nat) ^ 8 = 72057594037927936 := by decide
        omega
    · rw [hback, List.take_append_drop]
  · right
    rw [hf, if_neg ho]
    refine ⟨rfl, fun x rest hx e => ho ?_⟩
    rw [e]
    exact takeOk_vint x rest hx
theorem vint_append_inj {x y : Nat} {a b : List Int} (hx : x < 18446744073709551616) (hy : y < 18446744073709551616) (h : vint x ++ a = vint y ++ b) : x = y ∧ a = b := by
  have h1 := findIdx_vint x a
  have h2 := findIdx_vint y b
  rw [h] at h1
  have hp := vint_pos x
  have hq := vint_pos y
  have hl : (vint x).length = (vint y).length := by omega
  have h3 := List.append_inj h hl
  exact ⟨vint_inj h3.1, h3.2⟩
end Go.Proofs.YtlaihdipagejfaaL

end

section
set_option linter.unusedVariables false
namespace Go.Proofs.YtlaihdipagejfaaL
open Go Go.RowKit Go.Proofs.YtlaihdipagejfaaG Go.Proofs.Ytlaihdipagejfaa.P Go.Proofs.YtlaihdipagejfaaW.PrintWords Go.Proofs.YtlaihdipagejfaaW.PrintMore

theorem toList_data (s : ByteArray) : s.toList = s.data.toList := Lib.toList_data s
theorem ba_ext {s t : ByteArray} (h : s.toList = t.toList) : s = t := by
  rw [toList_data, toList_data] at h
  cases s; cases t
  simpa using h
theorem str_bytes (s : ByteArray) : strOfNums (bytesOf s) = s := by
  refine ba_ext ?_
  rw [toList_data, strOfNums_data, bytesOf, List.map_map, toList_data]
  conv => rhs; rw [← List.map_id s.data.toList]
  refine List.map_congr_left (fun b _ => ?_)
  simp
theorem bytes_str {l : List Int} (h : By l) : bytesOf (strOfNums l) = l := by
  rw [bytesOf, strOfNums_data, List.map_map]
  conv => rhs; rw [← List.map_id l]
  refine List.map_congr_left (fun c hc => ?_)
  have := h c hc
  simp only [Function.comp, UInt8.toNat_ofNat', id]
  omega
theorem bytesOf_by (s : ByteArray) : By (bytesOf s) := by
  intro c hc
  obtain ⟨b, _, rfl⟩ := List.mem_map.1 hc
  have := b.toNat_lt
  omega
theorem str_inj {a b : List Int} (ha : By a) (hb : By b) (h : strOfNums a = strOfNums b) : a = b := by rw [← bytes_str ha, h, bytes_str hb]

theorem same_f {a b : List Int} (ha : By a) (hb : By b) : ratlinelaw02_Same.f a b = some (decide (a = b)) := by
  unfold ratlinelaw02_Same.f
  by_cases h : a = b
  · subst h; simp
  · have : (strOfNums a).toList ≠ (strOfNums b).toList := fun e => h (str_inj ha hb (ba_ext e))
    rw [decide_eq_false h, beq_eq_false_iff_ne.2 this]
theorem put_f {l : List Int} {x : Nat} (hx : x < 18446744073709551616) (hl : l.length + 10 < 140737488355328) : nums_Put.f l (x : Int) = some (l ++ vint x) := by
  unfold nums_Put.f
  rw [if_pos ⟨by omega, by omega, hl⟩, Int.toNat_natCast]
theorem wrap_u64_nat {x : Nat} (hx : x < 18446744073709551616) : IntKind.u64.wrap (x : Int) = (x : Int) := by rw [IntKind.wrap_u64]; omega
theorem putText_f {l : List Int} {s : ByteArray} (hl : l.length + 10 + s.size < 140737488355328) : nums_PutText.f l s = some (l ++ vint s.size ++ bytesOf s) := by
  have := vint_len10 (x := s.size) (by omega)
  unfold nums_PutText.f
  rw [wrap_u64_nat (by omega), put_f (by omega) (by omega)]
  simp only [Option.bind_some]
  rw [if_pos (by rw [List.length_append]; omega)]
theorem clone_f {l : List Int} (hl : l.length < 140737488355328) : slices_Clone_byte_byte.f l = some l := by
  unfold slices_Clone_byte_byte.f
  rw [if_pos hl]
theorem mx_eq (a b : Int) : mx a b = max a b := by unfold mx; split <;> omega

/-- The text that bytes say. -/
theorem takeText_yes (s : ByteArray) (rest : List Int) (most : Int) (hm : most ≤ 9223372036854775807) (hr : By rest) (hl : s.size + rest.length + 20 < 140737488355328) (h : (s.size : Int) ≤ most) :
    nums_TakeText.f (vint s.size ++ (bytesOf s ++ rest)) most = some (s, rest, true) := by
  have hbl := bytesOf_length s
  unfold nums_TakeText.f
  rw [take_vint s.size _ (by omega) ((bytesOf_by s).append hr) (by rw [List.length_append]; omega)]
  simp only [Option.bind_some, if_true]
  have e1 : IntKind.u64.wrap (mx most 0) = most := by rw [mx_eq, IntKind.wrap_u64]; omega
  have e2 : IntKind.u64.wrap (((bytesOf s ++ rest).length : Nat) : Int) = ((s.size + rest.length : Nat) : Int) := by rw [List.length_append, hbl]; exact wrap_u64_nat (by omega)
  rw [e1, e2, if_neg (by omega), if_neg (by omega), if_neg (by omega), if_pos (by omega), if_pos (by rw [List.length_append]; omega), Int.toNat_natCast]
  have e3 : (bytesOf s ++ rest).drop s.size = rest := by rw [← hbl, List.drop_left]
  have e4 : (bytesOf s ++ rest).take s.size = bytesOf s := by rw [← hbl, List.take_left]
  rw [e3, e4, clone_f (by omega)]
  simp only [Option.bind_some, str_bytes]
theorem takeText_cases (l : List Int) (most : Int) (hm : most ≤ 9223372036854775807) (hb : By l) (hl : l.length + 20 < 140737488355328) :
    (∃ (s : ByteArray) (rest : List Int), (s.size : Int) ≤ most ∧ l = vint s.size ++ (bytesOf s ++ rest) ∧ nums_TakeText.f l most = some (s, rest, true)) ∨
    (nums_TakeText.f l most = some (⟨#[]⟩, [], false) ∧ ∀ (s : ByteArray) (rest : List Int), (s.size : Int) ≤ most → l ≠ vint s.size ++ (bytesOf s ++ rest)) := by
  rcases take_cases l hb (by omega) with ⟨x, rest, hx, he, hf⟩ | ⟨hf, hno⟩
  · by_cases h : (x : Int) ≤ most ∧ x ≤ rest.length
    · left
      have hr : By rest := By.right (he ▸ hb)
      have hsz : (strOfNums (rest.take x)).size = x := by rw [strOfNums_size, List.length_take]; omega
      have hl2 : l.length = (vint x).length + rest.length := by rw [he, List.length_append]
      have e0 : rest = bytesOf (strOfNums (rest.take x)) ++ rest.drop x := by rw [bytes_str (hr.take x), List.take_append_drop]
      have e1 : l = vint (strOfNums (rest.take x)).size ++ (bytesOf (strOfNums (rest.take x)) ++ rest.drop x) := by rw [hsz, ← e0]; exact he
      refine ⟨strOfNums (rest.take x), rest.drop x, by rw [hsz]; exact h.1, e1, ?_⟩
      have := takeText_yes (strOfNums (rest.take x)) (rest.drop x) most hm (hr.drop x) (by rw [hsz, List.length_drop]; omega) (by rw [hsz]; exact h.1)
      rw [← e1] at this
      exact this
    · right
      refine ⟨?_, fun s rest' hs e => h ?_⟩
      · have hl2 : l.length = (vint x).length + rest.length := by rw [he, List.length_append]
        unfold nums_TakeText.f
        rw [hf]
        simp only [Option.bind_some, if_true]
        have e2 : IntKind.u64.wrap ((rest.length : Nat) : Int) = (rest.length : Int) := wrap_u64_nat (by omega)
        have e1 : IntKind.u64.wrap (mx most 0) = max most 0 := by rw [mx_eq, IntKind.wrap_u64]; omega
        rw [e1, e2]
        by_cases c1 : (x : Int) > max most 0
        · rw [if_pos c1]
        · rw [if_neg c1]
          by_cases c2 : most < 0
          · rw [if_pos c2]
          · rw [if_neg c2, if_pos (by omega)]
      · rw [he] at e
        obtain ⟨rfl, rfl⟩ := vint_append_inj hx (by have : l.length = (vint s.size).length + (s.size + rest'.length) := by rw [he, e, List.length_append, List.length_append, bytesOf_length]
                                                    omega) e
        exact ⟨hs, by rw [List.length_append, bytesOf_length]; omega⟩
  · right
    refine ⟨?_, fun s rest' hs e => hno s.size (bytesOf s ++ rest') ?_ e⟩
    · unfold nums_TakeText.f
      rw [hf]
      simp
    · have : l.length = (vint s.size).length + (s.size + rest'.length) := by rw [e, List.length_append, List.length_append, bytesOf_length]
      omega
end Go.Proofs.YtlaihdipagejfaaL

end

section
set_option linter.unusedVariables false
namespace Go.Proofs.YtlaihdipagejfaaL
open Go Go.RowKit Go.Proofs.YtlaihdipagejfaaG Go.Proofs.Ytlaihdipagejfaa.P Go.Proofs.YtlaihdipagejfaaW.PrintWords Go.Proofs.YtlaihdipagejfaaW.PrintMore

abbrev Ik := S39
abbrev En := S41
def lt (a b : ByteArray) : Prop := Op.bytesLess a.toList b.toList = true
instance (a b : ByteArray) : Decidable (lt a b) := inferInstanceAs (Decidable (_ = true))
theorem lt_asymm {a b : ByteArray} (h : lt a b) : ¬ lt b a := by
  unfold lt at *
  rw [← bytesLess_gtr, h]
  simp
theorem lt_irrefl (a : ByteArray) : ¬ lt a a := fun h => lt_asymm h h
theorem ba_eq_iff {a b : ByteArray} : a.toList = b.toList ↔ a = b := ⟨ba_ext, fun h => by rw [h]⟩
theorem ba_nil_iff {a : ByteArray} : a.toList = [] ↔ a.size = 0 := by
  rw [toList_data]
  exact ⟨fun h => by show a.data.size = 0; rw [← Array.length_toList, h]; rfl, fun h => List.eq_nil_of_length_eq_zero (by rw [Array.length_toList]; exact h)⟩

def RightI (x : Ik) : Prop := 1 ≤ x.f0.size ∧ x.f0.size ≤ 64 ∧ x.f1 ≤ 72057594037927935 ∧ x.f2 ≤ 1
instance (x : Ik) : Decidable (RightI x) := inferInstanceAs (Decidable (_ ∧ _))
theorem right_f (x : Ik) : ikey_Right.f x.f0 x.f1 x.f2 = some (decide (RightI x)) := by
  unfold ikey_Right.f
  by_cases h0 : x.f0.size = 0
  · rw [if_pos (ba_nil_iff.2 h0), decide_eq_false (show ¬ RightI x from fun h => by have := h.1; omega)]
  · rw [if_neg (fun h => h0 (ba_nil_iff.1 h))]
    by_cases h1 : (x.f0.size : Int) ≤ 64
    · rw [if_pos h1]
      by_cases h2 : x.f1 ≤ 72057594037927935
      · rw [if_pos h2]
        congr 1
        exact decide_eq_decide.2 ⟨fun h => ⟨by omega, by omega, h2, h⟩, fun h => h.2.2.2⟩
      · rw [if_neg h2, decide_eq_false (show ¬ RightI x from fun h => h2 h.2.2.1)]
    · rw [if_neg h1, decide_eq_false (show ¬ RightI x from fun h => h1 (by have := h.2.1; omega))]
def EntryI (x : Ik) (v : ByteArray) : Prop := RightI x ∧ (v.size : Int) ≤ (if x.f2 = 0 then 0 else 256)
theorem entry_f (x : Ik) (v : ByteArray) : ikey_Entry.f x.f0 x.f1 x.f2 v = some (decide (RightI x) && decide ((v.size : Int) ≤ (if x.f2 = 0 then 0 else 256))) := by
  unfold ikey_Entry.f
  rw [right_f]
  by_cases h : RightI x
  · by_cases h2 : x.f2 = 0
    · simp [h, h2]
    · simp [h, h2]
  · by_cases h2 : x.f2 = 0
    · simp [h, h2]
    · simp [h, h2]

end Go.Proofs.YtlaihdipagejfaaL

end

section
set_option linter.unusedVariables false
namespace Go.Proofs.YtlaihdipagejfaaL
open Go Go.RowKit Go.Proofs.YtlaihdipagejfaaW.PrintWords
section
variable {α β γ δ ε ζ : Type} {r : α}
theorem ev_some (r : α) : Ev (fun _ => some r) r := Ev.now r
theorem ev_bind {o : Option β} {a : β} {f : Nat → β → Option α} (h : o = some a) (k : Ev (fun n => f n a) r) : Ev (fun n => o.bind (f n)) r := Ev.bind (g := fun _ => o) (by rw [h]; exact Ev.now a) k
theorem ev_call {g : Nat → Option β} {a : β} {f : Nat → β → Option α} (h : Ev g a) (k : Ev (fun n => f n a) r) : Ev (fun n => (g n).bind (f n)) r := Ev.bind h k
theorem ev_bind2 {o : Option (β × γ)} {a : β} {b : γ} {f : Nat → β × γ → Option α} (h : o = some (a, b)) (k : ∀ t, t.1 = a → t.2 = b → Ev (fun n => f n t) r) : Ev (fun n => o.bind (f n)) r := ev_bind h (k _ rfl rfl)
theorem ev_call2 {g : Nat → Option (β × γ)} {a : β} {b : γ} {f : Nat → β × γ → Option α} (h : Ev g (a, b)) (k : ∀ t, t.1 = a → t.2 = b → Ev (fun n => f n t) r) : Ev (fun n => (g n).bind (f n)) r := Ev.bind h (k _ rfl rfl)
theorem ev_pos {c : Prop} [Decidable c] {a b : Nat → Option α} (h : c) (k : Ev a r) : Ev (fun n => if c then a n else b n) r := k.congr (fun n => if_pos h)
theorem ev_neg {c : Prop} [Decidable c] {a b : Nat → Option α} (h : ¬ c) (k : Ev b r) : Ev (fun n => if c then a n else b n) r := k.congr (fun n => if_neg h)
/-- One round of what has rounds. -/
theorem ev_step {g f : Nat → Option α} (h : ∀ k, g (k + 1) = f k) (k : Ev f r) : Ev g r := Ev.step h k
end
theorem up1 {a : Nat} (h : a < 9223372036854775800) : wrap64 ((a : Int) + 1) = ((a + 1 : Nat) : Int) := by unfold wrap64; omega
theorem getD_at {α : Type} {l : List α} {z : α} {j : Nat} (h : j < l.length) : l.getD ((j : Int)).toNat z = l[j] := by
  rw [Int.toNat_natCast, List.getD_eq_getElem?_getD, List.getElem?_eq_getElem h]
  rfl
end Go.Proofs.YtlaihdipagejfaaL

end

section
set_option linter.unusedVariables false
namespace Go.Proofs.YtlaihdipagejfaaL
open Go Go.RowKit Go.Proofs.YtlaihdipagejfaaG Go.Proofs.Ytlaihdipagejfaa.P Go.Proofs.YtlaihdipagejfaaW.PrintWords Go.Proofs.YtlaihdipagejfaaW.PrintMore

abbrev OpS := S43
instance : DecidableEq OpS := fun x y => decidable_of_iff (x.f0 = y.f0 ∧ x.f1 = y.f1 ∧ x.f2 = y.f2) (by cases x; cases y; simp)
instance : DecidableEq Ik := fun x y => decidable_of_iff (x.f0 = y.f0 ∧ x.f1 = y.f1 ∧ x.f2 = y.f2) (by cases x; cases y; simp)
instance : DecidableEq En := fun x y => decidable_of_iff (x.f0 = y.f0 ∧ x.f1 = y.f1) (by cases x; cases y; simp)
theorem rd_op (l : List OpS) {j : Nat} (h : j < l.length) : rd_T43 l (j : Int) = l[j] := getD_at h
theorem rd_ent (l : List En) {j : Nat} (h : j < l.length) : rd_T41 l (j : Int) = l[j] := getD_at h

def OpI (o : OpS) : Prop := EntryI ⟨o.f1, 0, o.f0⟩ o.f2
instance (x : Ik) (v : ByteArray) : Decidable (EntryI x v) := inferInstanceAs (Decidable (_ ∧ _))
instance (o : OpS) : Decidable (OpI o) := inferInstanceAs (Decidable (EntryI _ _))
theorem op_f (o : OpS) : batch_Op.f o.f0 o.f1 o.f2 = some (decide (OpI o)) := by
  unfold batch_Op.f
  refine bind1 (entry_f ⟨o.f1, 0, o.f0⟩ o.f2) ?_
  congr 1
  rw [Bool.eq_iff_iff, Bool.and_eq_true, decide_eq_true_eq, decide_eq_true_eq, decide_eq_true_eq]
  exact Iff.rfl
theorem bad_f : ∀ l : List OpS, batch_bad l = some (!decide (∀ o ∈ l, OpI o))
  | [] => by simp [batch_bad]
  | o :: l => by
    rw [batch_bad, op_f, bad_f l, Option.bind_some]
    by_cases h : OpI o
    · simp [h]
    · simp [h]
def FewI (l : List OpS) (a : Int) : Prop := 0 < l.length ∧ (l.length : Int) ≤ a ∧ ∀ o ∈ l, OpI o
instance (l : List OpS) (a : Int) : Decidable (FewI l a) := inferInstanceAs (Decidable (_ ∧ _ ∧ _))
theorem bfew_f (l : List OpS) (a : Int) : batch_few.f l a = some (decide (FewI l a)) := by
  unfold batch_few.f
  by_cases h : 0 < l.length ∧ (l.length : Int) ≤ a
  · rw [if_pos h, bad_f, Option.bind_some, Bool.not_not]
    congr 1
    exact decide_eq_decide.2 ⟨fun q => ⟨h.1, h.2, q⟩, fun q => q.2.2⟩
  · rw [if_neg h, decide_eq_false (fun q : FewI l a => h ⟨q.1, q.2.1⟩)]

def WfO (o : OpS) : Prop := 0 ≤ o.f0 ∧ o.f0 < 256
def formO (o : OpS) : List Int := o.f0 :: (vint o.f1.size ++ (bytesOf o.f1 ++ (if o.f0 = 1 then vint o.f2.size ++ bytesOf o.f2 else [])))
def formL (l : List OpS) : List Int := l.flatMap formO
def formG (l : List OpS) : List Int := vint l.length ++ formL l
theorem formL_cons (o : OpS) (l : List OpS) : formL (o :: l) = formO o ++ formL l := rfl
theorem formL_nil : formL [] = [] := rfl
theorem op_sizes {o : OpS} (h : OpI o) : 1 ≤ o.f1.size ∧ o.f1.size ≤ 64 ∧ o.f0 ≤ 1 ∧ o.f2.size ≤ 256 ∧ (o.f0 = 0 → o.f2 = ⟨#[]⟩) := by
  obtain ⟨⟨h1, h2, _, h3⟩, h4⟩ := h
  refine ⟨h1, h2, h3, ?_, fun e => ?_⟩
  · simp only at h4
    split at h4 <;> omega
  · simp only [e, if_true] at h4
    exact ba_ext (by rw [ba_nil_iff.2 (by omega)]; exact (ba_nil_iff.2 (by rfl)).symm)
theorem formO_by {o : OpS} (hw : WfO o) : By (formO o) := by
  unfold formO
  refine .cons hw.1 hw.2 ((vint_by _).append ((bytesOf_by _).append ?_))
  split
  · exact (vint_by _).append (bytesOf_by _)
  · exact .nil
theorem formL_by {l : List OpS} (hw : ∀ o ∈ l, WfO o) : By (formL l) := fun c hc => by
  obtain ⟨o, ho, hc⟩ := List.mem_flatMap.1 hc
  exact formO_by (hw o ho) c hc
theorem formG_by {l : List OpS} (hw : ∀ o ∈ l, WfO o) : By (formG l) := (vint_by _).append (formL_by hw)
theorem formO_len {o : OpS} (h : OpI o) : (formO o).length ≤ 341 := by
  obtain ⟨h1, h2, _, h4, _⟩ := op_sizes h
  have v1 := vint_len10 (x := o.f1.size) (by omega)
  have v2 := vint_len10 (x := o.f2.size) (by omega)
  unfold formO
  rw [List.length_cons, List.length_append, List.length_append, bytesOf_length]
  split
  · rw [List.length_append, bytesOf_length]; omega
  · simp; omega
theorem formO_pos (o : OpS) : 0 < (formO o).length := by simp [formO]
theorem formL_len {l : List OpS} (h : ∀ o ∈ l, OpI o) : (formL l).length ≤ 341 * l.length := by
  induction l with
  | nil => simp [formL]
  | cons o l ih =>
    have h1 := formO_len (h o (List.mem_cons_self ..))
    have h2 := ih (fun q hq => h q (List.mem_cons_of_mem _ hq))
    rw [formL_cons, List.length_append, List.length_cons]; omega
theorem formG_len {l : List OpS} (h : FewI l 128) : (formG l).length ≤ 43658 := by
  have h1 := formL_len h.2.2
  have h2 := h.2.1
  have h3 := vint_len10 (x := l.length) (by omega)
  rw [formG, List.length_append]; omega
/-- No form of a right op begins with another one. -/
theorem formO_inj {o p : OpS} {a b : List Int} (ho : OpI o) (hp : OpI p) (wo : WfO o) (wp : WfO p) (h : formO o ++ a = formO p ++ b) : o = p ∧ a = b := by
  obtain ⟨_, o2, o3, o4, o5⟩ := op_sizes ho
  obtain ⟨_, p2, p3, p4, p5⟩ := op_sizes hp
  obtain ⟨o6, _⟩ := wo
  obtain ⟨p6, _⟩ := wp
  unfold formO at h
  simp only [List.cons_append, List.cons.injEq, List.append_assoc] at h
  obtain ⟨e0, h⟩ := h
  obtain ⟨e1, h⟩ := vint_append_inj (by omega) (by omega) h
  obtain ⟨e2, h⟩ := List.append_inj h (by rw [bytesOf_length, bytesOf_length, e1])
  have e2 : o.f1 = p.f1 := by rw [← str_bytes o.f1, e2, str_bytes]
  by_cases hk : o.f0 = 1
  · rw [if_pos hk, if_pos (e0 ▸ hk)] at h
    simp only [List.append_assoc] at h
    obtain ⟨e3, h⟩ := vint_append_inj (by omega) (by omega) h
    obtain ⟨e4, h⟩ := List.append_inj h (by rw [bytesOf_length, bytesOf_length, e3])
    have e4 : o.f2 = p.f2 := by rw [← str_bytes o.f2, e4, str_bytes]
    refine ⟨?_, h⟩
    cases o; cases p; simp_all
  · rw [if_neg hk, if_neg (e0 ▸ hk)] at h
    have e4 : o.f2 = p.f2 := by rw [o5 (by omega), p5 (by omega)]
    refine ⟨?_, h⟩
    cases o; cases p; simp_all
theorem formL_inj : ∀ {l m : List OpS} {a b : List Int}, (∀ o ∈ l, OpI o ∧ WfO o) → (∀ o ∈ m, OpI o ∧ WfO o) → l.length = m.length → formL l ++ a = formL m ++ b → l = m ∧ a = b
  | [], [], a, b, _, _, _, h => ⟨rfl, h⟩
  | [], _ :: _, _, _, _, _, hl, _ => by simp at hl
  | _ :: _, [], _, _, _, _, hl, _ => by simp at hl
  | o :: l, p :: m, a, b, h1, h2, hl, h => by
    rw [formL_cons, formL_cons, List.append_assoc, List.append_assoc] at h
    obtain ⟨q1, q2⟩ := h1 o (List.mem_cons_self ..)
    obtain ⟨q3, q4⟩ := h2 p (List.mem_cons_self ..)
    obtain ⟨e1, h'⟩ := formO_inj q1 q3 q2 q4 h
    obtain ⟨e2, h'⟩ := formL_inj (fun x hx => h1 x (List.mem_cons_of_mem _ hx)) (fun x hx => h2 x (List.mem_cons_of_mem _ hx)) (by simpa using hl) h'
    exact ⟨by rw [e1, e2], h'⟩
/-- The same bytes, ended: as many ops. -/
theorem formL_inj' : ∀ {l m : List OpS}, (∀ o ∈ l, OpI o ∧ WfO o) → (∀ o ∈ m, OpI o ∧ WfO o) → formL l = formL m → l = m
  | [], [], _, _, _ => rfl
  | [], p :: m, _, _, h => by
    have := congrArg List.length h
    have h3 := formO_pos p
    rw [formL_cons, formL_nil, List.length_append, List.length_nil] at this
    omega
  | o :: l, [], _, _, h => by
    have := congrArg List.length h
    have h3 := formO_pos o
    rw [formL_cons, formL_nil, List.length_append, List.length_nil] at this
    omega
  | o :: l, p :: m, h1, h2, h => by
    rw [formL_cons, formL_cons] at h
    obtain ⟨q1, q2⟩ := h1 o (List.mem_cons_self ..)
    obtain ⟨q3, q4⟩ := h2 p (List.mem_cons_self ..)
    obtain ⟨e1, h'⟩ := formO_inj q1 q3 q2 q4 h
    rw [e1, formL_inj' (fun x hx => h1 x (List.mem_cons_of_mem _ hx)) (fun x hx => h2 x (List.mem_cons_of_mem _ hx)) h']
theorem formG_inj {l m : List OpS} {a b : List Int} (hl : FewI l 128) (hm : FewI m 128) (wl : ∀ o ∈ l, WfO o) (wm : ∀ o ∈ m, WfO o) (h : formG l ++ a = formG m ++ b) : l = m ∧ a = b := by
  unfold formG at h
  rw [List.append_assoc, List.append_assoc] at h
  have := hl.2.1
  have := hm.2.1
  obtain ⟨e, h⟩ := vint_append_inj (by omega) (by omega) h
  exact formL_inj (fun o ho => ⟨hl.2.2 o ho, wl o ho⟩) (fun o ho => ⟨hm.2.2 o ho, wm o ho⟩) e h

def ShortO (o : OpS) : Prop := o.f1.size ≤ 70 ∧ o.f2.size ≤ 300
instance (e : OpS) : Decidable (ShortO e) := inferInstanceAs (Decidable (_ ∧ _))
theorem ofew_loop (l : List OpS) (most : Int) (hl : l.length < 9223372036854775800) :
    ∀ (m j : Nat), j + m = l.length → Ev (fun k => ratlinelaw04_Few.l0 k l most l (l.length : Int) (j : Int)) (decide (∀ e ∈ l.drop j, ShortO e) && decide ((l.length : Int) ≤ most)) := by
  intro m
  induction m with
  | zero =>
    intro j hj
    obtain rfl : j = l.length := by omega
    refine ev_step (fun k => by rw [ratlinelaw04_Few.l0, if_neg (Int.lt_irrefl _)]) ?_
    rw [List.drop_length]
    simpa using ev_some _
  | succ m ih =>
    intro j hj
    have hlt : j < l.length := by omega
    refine ev_step (fun k => by rw [ratlinelaw04_Few.l0, if_pos (by omega), if_pos (by omega), if_pos (by omega), rd_op l hlt, up1 (by omega)]) ?_
    rw [List.drop_eq_getElem_cons hlt]
    by_cases h1 : ((l[j].f1.size : Nat) : Int) > 70
    · refine ev_pos h1 ?_
      rw [decide_eq_false (fun h => by have := (h l[j] (List.mem_cons_self ..)).1; omega)]
      exact ev_some _
    · refine ev_neg h1 ?_
      by_cases h2 : ((l[j].f2.size : Nat) : Int) > 300
      · refine ev_pos h2 ?_
        rw [decide_eq_false (fun h => by have := (h l[j] (List.mem_cons_self ..)).2; omega)]
        exact ev_some _
      · refine ev_neg h2 ?_
        have e0 : (∀ e ∈ l[j] :: l.drop (j + 1), ShortO e) ↔ ∀ e ∈ l.drop (j + 1), ShortO e := ⟨fun h e he => h e (List.mem_cons_of_mem _ he), fun h e he => by
          rcases List.mem_cons.1 he with rfl | he
          · exact ⟨by omega, by omega⟩
          · exact h e he⟩
        rw [decide_eq_decide.2 e0]
        exact ih (j + 1) (by omega)
theorem ofew_f (l : List OpS) (most : Int) (hl : l.length < 9223372036854775800) : Ev (fun k => ratlinelaw04_Few.f k l most) (decide (∀ e ∈ l, ShortO e) && decide ((l.length : Int) ≤ most)) := by
  have := ofew_loop l most hl l.length 0 (by omega)
  rwa [List.drop_zero] at this
theorem same_loop (a b : List OpS) (hl : a.length = b.length) (hm : a.length < 9223372036854775800) :
    ∀ (m j : Nat), j + m = a.length → Ev (fun k => ratlinelaw04_Same.l0 k a b (a.length : Int) (j : Int)) (decide (a.drop j = b.drop j)) := by
  intro m
  induction m with
  | zero =>
    intro j hj
    obtain rfl : j = a.length := by omega
    refine ev_step (fun k => by rw [ratlinelaw04_Same.l0, if_neg (Int.lt_irrefl _)]) ?_
    rw [List.drop_length, hl, List.drop_length]
    simpa using ev_some _
  | succ m ih =>
    intro j hj
    have ha : j < a.length := by omega
    have hb : j < b.length := by omega
    refine ev_step (fun k => by rw [ratlinelaw04_Same.l0, if_pos (by omega), if_pos (by omega), if_pos (by omega), if_pos (by omega), rd_op a ha, rd_op b hb, up1 (by omega)]) ?_
    rw [List.drop_eq_getElem_cons ha, List.drop_eq_getElem_cons hb]
    by_cases h : a[j] = b[j]
    · refine ev_neg (by rw [h]; simp) ?_
      rw [show decide (a[j] :: a.drop (j + 1) = b[j] :: b.drop (j + 1)) = decide (a.drop (j + 1) = b.drop (j + 1)) from decide_eq_decide.2 ⟨fun q => (List.cons.inj q).2, fun q => by rw [h, q]⟩]
      exact ih (j + 1) (by omega)
    · refine ev_pos ?_ ?_
      · generalize a[j] = x at *
        generalize b[j] = y at *
        cases x; cases y
        simp only [S43.mk.injEq] at h
        simp only [Bool.or_eq_true, Bool.not_eq_true', beq_eq_false_iff_ne, ne_eq, ba_eq_iff]
        simp only [not_and] at h
        exact Classical.byCases (fun q => .inr (Classical.byCases (fun q2 => .inr (h q q2)) (fun q2 => .inl q2))) (fun q => .inl q)
      · rw [decide_eq_false (fun q => h (List.cons.inj q).1)]
        exact ev_some _
theorem osame_f (a b : List OpS) (hm : a.length < 9223372036854775800) : Ev (fun k => ratlinelaw04_Same.f k a b) (decide (a = b)) := by
  unfold ratlinelaw04_Same.f
  by_cases hl : a.length = b.length
  · refine ev_pos (by omega) ?_
    have := same_loop a b hl hm a.length 0 (by omega)
    rwa [List.drop_zero, List.drop_zero] at this
  · refine ev_neg (by omega) ?_
    rw [decide_eq_false (fun e => hl (by rw [e]))]
    exact ev_some _
end Go.Proofs.YtlaihdipagejfaaL

end

section
set_option linter.unusedVariables false
namespace Go.Proofs.YtlaihdipagejfaaL
open Go Go.RowKit Go.Proofs.YtlaihdipagejfaaG Go.Proofs.Ytlaihdipagejfaa.P Go.Proofs.YtlaihdipagejfaaW.PrintWords Go.Proofs.YtlaihdipagejfaaW.PrintMore

theorem putO {o : OpS} (h : OpI o) {l : List Int} (hl : l.length + 1000 < 140737488355328) : ∃ t, nums_PutText.f (l ++ [o.f0]) o.f1 = some t ∧ (o.f0 = 1 → nums_PutText.f t o.f2 = some (l ++ formO o)) ∧ (o.f0 ≠ 1 → t = l ++ formO o) := by
  obtain ⟨h1, h2, _, h4, _⟩ := op_sizes h
  have v1 := vint_len10 (x := o.f1.size) (by omega)
  refine ⟨_, putText_f (by rw [List.length_append, List.length_singleton]; omega), fun hk => ?_, fun hk => ?_⟩
  · rw [putText_f (by simp only [List.length_append, List.length_singleton, bytesOf_length]; omega), formO, if_pos hk]
    simp only [List.append_assoc, List.cons_append, List.nil_append]
  · rw [formO, if_neg hk]
    simp only [List.append_assoc, List.cons_append, List.nil_append, List.append_nil]
theorem bytes_loop (l : List OpS) (h : ∀ o ∈ l, OpI o) (hl : l.length ≤ 200) :
    ∀ (m j : Nat) (acc : List Int), j + m = l.length → acc.length + 341 * m ≤ 1000000 → Ev (fun k => batch_Bytes.l0 k acc l (l.length : Int) (j : Int)) (acc ++ formL (l.drop j), 0) := by
  intro m
  induction m with
  | zero =>
    intro j acc hj ha
    obtain rfl : j = l.length := by omega
    refine ev_step (fun k => by rw [batch_Bytes.l0, if_neg (Int.lt_irrefl _)]) ?_
    rw [List.drop_length, formL_nil, List.append_nil]
    exact ev_some _
  | succ m ih =>
    intro j acc hj ha
    have hlt : j < l.length := by omega
    have ho := h l[j] (List.getElem_mem hlt)
    obtain ⟨t, h1, h2, h3⟩ := putO ho (l := acc) (by omega)
    refine ev_step (fun k => by rw [batch_Bytes.l0, if_pos (by omega), if_pos (by omega), if_pos (by omega), if_pos (by omega), rd_op l hlt, up1 (by omega)]) ?_
    refine ev_bind h1 ?_
    have hlen := formO_len ho
    have := ih (j + 1) (acc ++ formO l[j]) (by omega) (by rw [List.length_append]; omega)
    rw [List.drop_eq_getElem_cons hlt, formL_cons, ← List.append_assoc]
    by_cases hk : l[j].f0 = 1
    · refine ev_pos hk (ev_bind (h2 hk) this)
    · refine ev_neg hk ?_
      rw [h3 hk]
      exact this
theorem bytes_f (l : List OpS) : Ev (fun k => batch_Bytes.f k l) (if FewI l 128 then (formG l, 0) else ([], 40)) := by
  unfold batch_Bytes.f
  refine ev_bind (bfew_f l 128) ?_
  by_cases h : FewI l 128
  · rw [decide_eq_true h, if_pos h]
    refine ev_pos rfl ?_
    have h2 := h.2.1
    have h3 := vint_len10 (x := l.length) (by omega)
    refine ev_bind (a := vint l.length) ?_ ?_
    · rw [wrap_u64_nat (by omega), put_f (by omega) (by simp)]; rfl
    · have := bytes_loop l h.2.2 (by omega) l.length 0 (vint l.length) (by omega) (by omega)
      rwa [List.drop_zero] at this
  · rw [decide_eq_false h, if_neg h]
    exact ev_neg (by decide) (ev_some _)

/-- An op that may be is taken. -/
theorem op_form {o : OpS} (h : OpI o) (hw : WfO o) {rest : List Int} (hr : By rest) (hl : rest.length + 1000 < 140737488355328) : opF (formO o ++ rest) false = some (o, rest, false) := by
  obtain ⟨h1, h2, h3, h4, h5⟩ := op_sizes h
  unfold opF formO
  rw [List.cons_append]
  simp only [kindF, Bool.not_true, Bool.or_false]
  by_cases hk : o.f0 = 1
  · have e1 := takeText_yes o.f1 (vint o.f2.size ++ (bytesOf o.f2 ++ rest)) 64 (by omega) ((vint_by _).append ((bytesOf_by _).append hr)) (by
      have := vint_len10 (x := o.f2.size) (by omega)
      rw [List.length_append, List.length_append, bytesOf_length]; omega) (by omega)
    have e2 := takeText_yes o.f2 rest 256 (by omega) hr (by omega) (by omega)
    simp only [if_pos hk, List.append_assoc]
    rw [e1]
    show (nums_TakeText.f (vint o.f2.size ++ (bytesOf o.f2 ++ rest)) 256).bind _ = _
    rw [e2]
    rfl
  · have e1 := takeText_yes o.f1 rest 64 (by omega) hr (by omega) (by omega)
    have e3 : o.f2 = ⟨#[]⟩ := h5 (by have := hw.1; omega)
    simp only [if_neg hk, List.append_assoc, List.append_nil]
    rw [e1]
    show some (_, _, _) = _
    cases o
    simp only at e3
    subst e3
    rfl
/-- What is taken as an op, whatever stands there. -/
theorem op_cases (l : List Int) (bad : Bool) (hb : By l) (hl : l.length + 20 < 140737488355328) :
    ∃ (o : OpS) (rest : List Int) (bad1 : Bool), opF l bad = some (o, rest, bad1) ∧ By rest ∧ rest.length ≤ l.length ∧ (bad1 = false → bad = false ∧ WfO o ∧ (OpI o → l = formO o ++ rest)) := by
  have h0 : ∀ most : Int, most ≤ 9223372036854775807 → ∀ (q : List Int), By q → q.length ≤ l.length → ∃ (s : ByteArray) (rest : List Int) (ok : Bool), nums_TakeText.f q most = some (s, rest, ok) ∧ By rest ∧ rest.length ≤ q.length ∧ (ok = true → q = vint s.size ++ (bytesOf s ++ rest)) := by
    intro most hm q hq hql
    rcases takeText_cases q most hm hq (by omega) with ⟨s, rest, hs, he, hf⟩ | ⟨hf, _⟩
    · exact ⟨s, rest, true, hf, By.right (By.right (he ▸ hq)), by rw [he, List.length_append, List.length_append]; omega, fun _ => he⟩
    · exact ⟨_, _, _, hf, .nil, by simp, fun h => by cases h⟩
  have hk2 : By (kindF l).2.1 ∧ (kindF l).2.1.length ≤ l.length ∧ ((kindF l).2.2 = true → l = (kindF l).1 :: (kindF l).2.1) := by
    cases l with
    | nil => exact ⟨.nil, by simp [kindF], fun h => by simp [kindF] at h⟩
    | cons c r => exact ⟨hb.tail, by simp [kindF], fun _ => rfl⟩
  obtain ⟨hk2, hk3, hk4⟩ := hk2
  obtain ⟨s, r1, ok1, hf1, hb1, hl1, he1⟩ := h0 64 (by omega) _ hk2 hk3
  unfold opF
  rw [hf1, Option.bind_some]
  by_cases hk : (kindF l).1 = 1
  · simp only [if_pos hk]
    obtain ⟨s2, r2, ok2, hf2, hb2, hl2, he2⟩ := h0 256 (by omega) r1 hb1 (by omega)
    rw [hf2, Option.bind_some]
    refine ⟨_, _, _, rfl, hb2, by show r2.length ≤ _; omega, fun hbad => ?_⟩
    simp only [Bool.or_eq_false_iff, Bool.not_eq_false'] at hbad
    obtain ⟨⟨⟨q1, q2⟩, q3⟩, q4⟩ := hbad
    refine ⟨q1, ⟨by show 0 ≤ (kindF l).1; omega, by show (kindF l).1 < 256; omega⟩, fun _ => ?_⟩
    have e := hk4 q2
    rw [he1 q3, he2 q4] at e
    rw [formO]
    simp only [if_pos hk, List.cons_append, List.append_assoc]
    exact e
  · simp only [if_neg hk]
    refine ⟨_, _, _, rfl, hb1, by show r1.length ≤ _; omega, fun hbad => ?_⟩
    simp only [Bool.or_eq_false_iff, Bool.not_eq_false'] at hbad
    obtain ⟨⟨q1, q2⟩, q3⟩ := hbad
    have e := hk4 q2
    refine ⟨q1, ?_, fun _ => ?_⟩
    · show 0 ≤ (kindF l).1 ∧ (kindF l).1 < 256
      rw [e] at hb
      exact hb.head
    · rw [he1 q3] at e
      rw [formO]
      simp only [if_neg hk, List.cons_append, List.append_assoc, List.append_nil]
      exact e
theorem wrap_down {n : Nat} (h : n < 18446744073709551616) : IntKind.u64.wrap (((n + 1 : Nat) : Int) - 1) = (n : Int) := by rw [IntKind.wrap_u64]; omega
theorem parse_down : ∀ (ops : List OpS) (m n : Nat) (out : List OpS) (rest : List Int), (∀ o ∈ ops, OpI o ∧ WfO o) → By rest → rest.length + 400 * ops.length + 2000 < 140737488355328 → n < 18446744073709551616 → ops.length ≤ n → ops.length ≤ m →
    parseL m (n : Int) out (formL ops ++ rest) false = parseL (m - ops.length) ((n - ops.length : Nat) : Int) (out ++ ops) rest false
  | [], m, n, out, rest, _, _, _, _, _, _ => by rw [formL_nil, List.nil_append, List.append_nil]; rfl
  | o :: ops, m, n, out, rest, h, hr, hl, hn, h1, h2 => by
    obtain ⟨ho, hw⟩ := h o (List.mem_cons_self ..)
    have hs : ∀ q ∈ ops, OpI q ∧ WfO q := fun q hq => h q (List.mem_cons_of_mem _ hq)
    rw [List.length_cons] at hl h1 h2
    obtain ⟨m, rfl⟩ : ∃ q, m = q + 1 := ⟨m - 1, by omega⟩
    obtain ⟨n, rfl⟩ : ∃ q, n = q + 1 := ⟨n - 1, by omega⟩
    have hfl := formL_len (fun q hq => (hs q hq).1)
    rw [parseL, if_pos (by omega), if_neg (by decide), formL_cons, List.append_assoc, op_form ho hw ((formL_by (fun q hq => (hs q hq).2)).append hr) (by rw [List.length_append]; omega), Option.bind_some, wrap_down (by omega)]
    rw [parse_down ops m n (out ++ [o]) rest hs hr (by omega) (by omega) (by omega) (by omega)]
    rw [show m + 1 - (o :: ops).length = m - ops.length from by simp, show n + 1 - (o :: ops).length = n - ops.length from by simp, List.append_assoc, List.singleton_append]
/-- A group's bytes are parsed. -/
theorem parse_form {l : List OpS} (h : FewI l 128) (hw : ∀ o ∈ l, WfO o) : batch_Parse.f (formG l) = some (l, 0) := by
  have h1 := h.2.1
  have h2 := h.1
  have hlen := formL_len h.2.2
  unfold batch_Parse.f formG
  rw [take_vint l.length _ (by omega) (formL_by hw) (by omega), Option.bind_some]
  have := parse_down l 129 l.length [] [] (fun o ho => ⟨h.2.2 o ho, hw o ho⟩) .nil (by simp; omega) (by omega) (Nat.le_refl _) (by omega)
  rw [List.append_nil, Nat.sub_self, List.nil_append] at this
  show (parseL 129 (l.length : Int) [] (formL l) false).bind _ = _
  rw [this]
  have h3 : parseL (129 - l.length) ((0 : Nat) : Int) l [] false = some (l, [], false) := by
    cases 129 - l.length with
    | zero => rfl
    | succ m => rw [parseL, if_neg (by omega)]
  rw [h3, Option.bind_some, if_neg (show ¬ false = true from by decide), if_neg (show ¬ 0 < ([] : List Int).length from by decide), bfew_f, Option.bind_some, decide_eq_true h, if_pos rfl]
/-- What was parsed stood there. -/
theorem parse_up : ∀ (m n : Nat) (out : List OpS) (b : List Int) (bad : Bool), By b → b.length + 20 < 140737488355328 → n < 18446744073709551616 → ∃ (out' : List OpS) (b' : List Int) (bad' : Bool), parseL m (n : Int) out b bad = some (out', b', bad') ∧
    (bad' = false → bad = false ∧ ∃ ops, out' = out ++ ops ∧ (∀ o ∈ ops, WfO o) ∧ ops.length ≤ m ∧ (ops.length = n ∨ ops.length = m) ∧ ((∀ o ∈ ops, OpI o) → b = formL ops ++ b'))
  | 0, n, out, b, bad, hb, hl, hn => ⟨out, b, bad, rfl, fun h => ⟨h, [], by simp, (fun o ho => by cases ho), Nat.le_refl _, .inr rfl, fun _ => rfl⟩⟩
  | m + 1, 0, out, b, bad, hb, hl, hn => ⟨out, b, bad, by rw [parseL, if_neg (by omega)], fun h => ⟨h, [], by simp, (fun o ho => by cases ho), Nat.zero_le _, .inl rfl, fun _ => rfl⟩⟩
  | m + 1, n + 1, out, b, true, hb, hl, hn => ⟨out, b, true, by rw [parseL, if_pos (by omega), if_pos rfl], fun h => by cases h⟩
  | m + 1, n + 1, out, b, false, hb, hl, hn => by
    obtain ⟨o, rest, bad1, hf, hr, hrl, hs⟩ := op_cases b false hb hl
    obtain ⟨out', b', bad', hp, hq⟩ := parse_up m n (out ++ [o]) rest bad1 hr (by omega) (by omega)
    refine ⟨out', b', bad', by rw [parseL, if_pos (by omega), if_neg (by decide), hf, Option.bind_some, wrap_down (by omega)]; exact hp, fun hbad => ⟨rfl, ?_⟩⟩
    obtain ⟨q1, ops, q2, q3, q4, q5, q6⟩ := hq hbad
    obtain ⟨_, s1, s2⟩ := hs q1
    refine ⟨o :: ops, by rw [q2, List.append_assoc, List.singleton_append], fun p hp => ?_, by simp; omega, by simp only [List.length_cons]; omega, fun hops => ?_⟩
    · rcases List.mem_cons.1 hp with rfl | hp
      · exact s1
      · exact q3 p hp
    · rw [formL_cons, List.append_assoc, ← q6 (fun p hp => hops p (List.mem_cons_of_mem _ hp))]
      exact s2 (hops o (List.mem_cons_self ..))
theorem parse_cases (l : List Int) (hb : By l) (hl : l.length + 20 < 140737488355328) :
    (∃ ops, FewI ops 128 ∧ (∀ o ∈ ops, WfO o) ∧ l = formG ops ∧ batch_Parse.f l = some (ops, 0)) ∨ (batch_Parse.f l = some ([], 40) ∧ ∀ ops, FewI ops 128 → (∀ o ∈ ops, WfO o) → l ≠ formG ops) := by
  have key : (∃ ops, FewI ops 128 ∧ (∀ o ∈ ops, WfO o) ∧ l = formG ops) ∨ batch_Parse.f l = some ([], 40) := by
    rcases take_cases l hb (by omega) with ⟨x, rest, hx, he, hf⟩ | ⟨hf, _⟩
    · have hr : By rest := By.right (he ▸ hb)
      have hrl : rest.length ≤ l.length := by rw [he, List.length_append]; omega
      obtain ⟨out, b, bad, hp, hs⟩ := parse_up 129 x [] rest false hr (by omega) hx
      unfold batch_Parse.f
      rw [hf, Option.bind_some]
      show _ ∨ (parseL 129 (x : Int) [] rest false).bind _ = _
      rw [hp, Option.bind_some]
      cases bad with
      | true => exact .inr (if_pos rfl)
      | false =>
        rw [if_neg (show ¬ false = true from by decide)]
        by_cases hbl : 0 < b.length
        · exact .inr (if_pos hbl)
        · rw [if_neg hbl, bfew_f, Option.bind_some]
          obtain rfl : b = [] := List.eq_nil_of_length_eq_zero (by omega)
          obtain ⟨_, ops, q2, q3, q4, q5, q6⟩ := hs rfl
          rw [List.nil_append] at q2
          subst q2
          by_cases hfew : FewI out 128
          · refine .inl ⟨out, hfew, q3, ?_⟩
            have := hfew.2.1
            have e := q6 hfew.2.2
            rw [List.append_nil] at e
            rw [he, formG, e, show out.length = x from by omega]
          · exact .inr (by rw [decide_eq_false hfew, if_neg (by decide)])
    · right
      unfold batch_Parse.f
      rw [hf, Option.bind_some]
      show (parseL 129 0 [] [] true).bind _ = _
      rw [show parseL 129 0 [] [] true = some ([], [], true) from rfl, Option.bind_some]
      exact if_pos rfl
  rcases key with ⟨ops, h1, h2, rfl⟩ | h
  · exact .inl ⟨ops, h1, h2, rfl, parse_form h1 h2⟩
  · refine .inr ⟨h, fun ops h1 h2 e => ?_⟩
    rw [e, parse_form h1 h2] at h
    simp at h

def entO (first : Int) (o : OpS) (j : Nat) : En := ⟨⟨o.f1, IntKind.u64.wrap (first + (j : Int)), o.f0⟩, o.f2⟩
def entL (first : Int) (l : List OpS) : List En := l.mapIdx fun j o => entO first o j
theorem entL_length (first : Int) (l : List OpS) : (entL first l).length = l.length := by simp [entL]
theorem entL_at (first : Int) (l : List OpS) {j : Nat} (h : j < l.length) : (entL first l)[j]'(by rw [entL_length]; exact h) = entO first l[j] j := by simp [entL]
theorem ent_loop (l : List OpS) (first : Int) (hl : l.length ≤ 1000) :
    ∀ (m j : Nat), j + m = l.length → Ev (fun k => batch_Entries.l0 k first ((entL first l).take j) l (l.length : Int) (j : Int)) (entL first l) := by
  intro m
  induction m with
  | zero =>
    intro j hj
    obtain rfl : j = l.length := by omega
    refine ev_step (fun k => by rw [batch_Entries.l0, if_neg (Int.lt_irrefl _)]) ?_
    rw [List.take_of_length_le (by rw [entL_length]; omega)]
    exact ev_some _
  | succ m ih =>
    intro j hj
    have hlt : j < l.length := by omega
    have hlt2 : j < (entL first l).length := by rw [entL_length]; exact hlt
    refine ev_step (fun k => by rw [batch_Entries.l0, if_pos (by omega), if_pos (by omega), if_pos (by omega), if_pos (by rw [List.length_take]; omega), rd_op l hlt, up1 (by omega), wrap_u64_nat (by omega)]) ?_
    have := ih (j + 1) (by omega)
    rw [List.take_succ_eq_append_getElem hlt2, entL_at first l hlt] at this
    exact this
theorem entries_f (l : List OpS) (first : Int) (hl : l.length ≤ 1000) : Ev (fun k => batch_Entries.f k l first) (entL first l) := by
  have := ent_loop l first hl l.length 0 (by omega)
  rwa [List.take_zero] at this
theorem esame_loop (a b : List En) (hl : a.length = b.length) (hm : a.length < 9223372036854775800) :
    ∀ (m j : Nat), j + m = a.length → Ev (fun k => ratlinelaw04_Entries.l0 k a b (a.length : Int) (j : Int)) (decide (a.drop j = b.drop j)) := by
  intro m
  induction m with
  | zero =>
    intro j hj
    obtain rfl : j = a.length := by omega
    refine ev_step (fun k => by rw [ratlinelaw04_Entries.l0, if_neg (Int.lt_irrefl _)]) ?_
    rw [List.drop_length, hl, List.drop_length]
    simpa using ev_some _
  | succ m ih =>
    intro j hj
    have ha : j < a.length := by omega
    have hb : j < b.length := by omega
    refine ev_step (fun k => by rw [ratlinelaw04_Entries.l0, if_pos (by omega), if_pos (by omega), if_pos (by omega), if_pos (by omega), rd_ent a ha, rd_ent b hb, up1 (by omega)]) ?_
    rw [List.drop_eq_getElem_cons ha, List.drop_eq_getElem_cons hb]
    by_cases h : a[j] = b[j]
    · refine ev_neg (by rw [h]; simp) ?_
      rw [show decide (a[j] :: a.drop (j + 1) = b[j] :: b.drop (j + 1)) = decide (a.drop (j + 1) = b.drop (j + 1)) from decide_eq_decide.2 ⟨fun q => (List.cons.inj q).2, fun q => by rw [h, q]⟩]
      exact ih (j + 1) (by omega)
    · refine ev_pos ?_ ?_
      · generalize a[j] = x at *
        generalize b[j] = y at *
        obtain ⟨⟨x0, x1, x2⟩, x3⟩ := x
        obtain ⟨⟨y0, y1, y2⟩, y3⟩ := y
        simp only [S41.mk.injEq, S39.mk.injEq] at h
        simp only [Bool.or_eq_true, Bool.not_eq_true', beq_eq_false_iff_ne, ne_eq, ba_eq_iff]
        exact Classical.byCases (fun q : x3 = y3 => .inl (Classical.byCases (fun q1 : x0 = y0 => .inr (Classical.byCases (fun q2 : x1 = y1 => .inr (fun q3 => h ⟨⟨q1, q2, q3⟩, q⟩)) .inl)) .inl)) .inr
      · rw [decide_eq_false (fun q => h (List.cons.inj q).1)]
        exact ev_some _
theorem esame_f (a b : List En) (hm : a.length < 9223372036854775800) : Ev (fun k => ratlinelaw04_Entries.f k a b) (decide (a = b)) := by
  unfold ratlinelaw04_Entries.f
  by_cases hl : a.length = b.length
  · refine ev_pos (by omega) ?_
    have := esame_loop a b hl hm a.length 0 (by omega)
    rwa [List.drop_zero, List.drop_zero] at this
  · refine ev_neg (by omega) ?_
    rw [decide_eq_false (fun e => hl (by rw [e]))]
    exact ev_some _
end Go.Proofs.YtlaihdipagejfaaL

end

section
set_option linter.unusedVariables false
namespace Go.Proofs.YtlaihdipagejfaaL
open Go Go.RowKit Go.Proofs.YtlaihdipagejfaaG Go.Proofs.Ytlaihdipagejfaa.P Go.Proofs.YtlaihdipagejfaaW.PrintWords Go.Proofs.YtlaihdipagejfaaW.PrintMore

def aw1 : OpS := ⟨1, ⟨#[97]⟩, ⟨#[120]⟩⟩
def aw2 : OpS := ⟨0, ⟨#[98]⟩, ⟨#[]⟩⟩
theorem aw_few : FewI [aw1, aw2] 128 := ⟨by decide, by decide, fun o ho => by
  simp only [List.mem_cons, List.not_mem_nil, or_false] at ho
  rcases ho with rfl | rfl
  · exact ⟨⟨by decide, by decide, by decide, by decide⟩, by decide⟩
  · exact ⟨⟨by decide, by decide, by decide, by decide⟩, by decide⟩⟩
theorem aw_wf : ∀ o ∈ [aw1, aw2], WfO o := fun o ho => by
  simp only [List.mem_cons, List.not_mem_nil, or_false] at ho
  rcases ho with rfl | rfl
  · exact ⟨by decide, by decide⟩
  · exact ⟨by decide, by decide⟩
theorem aw_form : formG [aw1, aw2] = [2, 1, 1, 97, 1, 120, 0, 1, 98] := by
  show vint 2 ++ ((1 :: (vint 1 ++ (bytesOf _ ++ (vint 1 ++ bytesOf _)))) ++ ((0 :: (vint 1 ++ (bytesOf _ ++ []))) ++ [])) = _
  rw [vint_small (x := 1) (by omega), vint_small (x := 2) (by omega)]
  rfl
theorem aw_none {l : List Int} (hb : By l) (hl : l.length ≤ 100) (h : ∀ ops, FewI ops 128 → (∀ o ∈ ops, WfO o) → l ≠ formG ops) : batch_Parse.f l = some ([], 40) := by
  rcases parse_cases l hb (by omega) with ⟨ops, h1, h2, he, _⟩ | ⟨hf, _⟩
  · exact absurd he (h ops h1 h2)
  · exact hf
theorem aw_loop (r : Bool) (x1 : List OpS) (x2 x3 : List Int) (x4 : Int) (x5 : List OpS) (x6 x8 x10 x12 x14 : Int) (h1 : 0 < x1.length)
    (hend : ∀ x15 : List OpS, x15.length = 129 → Ev (fun k => ratlinelaw04_awake.l0 k x1 x2 x3 x4 x5 x6 x8 x10 x12 x14 x15 129 129) r) :
    ∀ (m j : Nat) (x15 : List OpS), j + m = 129 → x15.length = 129 → Ev (fun k => ratlinelaw04_awake.l0 k x1 x2 x3 x4 x5 x6 x8 x10 x12 x14 x15 129 (j : Int)) r := by
  intro m
  induction m with
  | zero =>
    intro j x15 hj hl
    obtain rfl : j = 129 := by omega
    exact hend x15 hl
  | succ m ih =>
    intro j x15 hj hl
    refine ev_step (fun k => by rw [ratlinelaw04_awake.l0, if_pos (by omega), if_pos (by omega), if_pos (by omega), if_pos (by omega), up1 (by omega)]) ?_
    exact ih (j + 1) _ (by omega) (by rw [List.length_set]; exact hl)
theorem awake04 : Ev (fun k => ratlinelaw04_awake.f k) true := by
  have b4 : ∀ a b c d : Int, 0 ≤ a → a < 256 → 0 ≤ b → b < 256 → 0 ≤ c → c < 256 → 0 ≤ d → d < 256 → By [a, b, c, d] := fun a b c d h1 h2 h3 h4 h5 h6 h7 h8 => .cons h1 h2 (.cons h3 h4 (.cons h5 h6 (.cons h7 h8 .nil)))
  have p1 : batch_Parse.f [2, 1, 1, 97, 1, 120, 0, 1, 98] = some ([aw1, aw2], 0) := by rw [← aw_form]; exact parse_form aw_few aw_wf
  have p2 : batch_Parse.f (([] ++ [2, 1, 1, 97, 1, 120, 0, 1, 98]) ++ [0]) = some ([], 40) := by
    rw [← aw_form, List.nil_append]
    refine aw_none ((formG_by aw_wf).append (.cons (by decide) (by decide) .nil)) (by rw [aw_form]; decide) (fun ops h1 h2 e => ?_)
    have := (formG_inj (a := [0]) (b := []) aw_few h1 aw_wf h2 (by rw [List.append_nil]; exact e)).2
    simp at this
  have p3 : batch_Parse.f [0] = some ([], 40) := by
    refine aw_none (.cons (by decide) (by decide) .nil) (by decide) (fun ops h1 h2 e => ?_)
    have h3 := h1.2.1
    have h4 := h1.1
    rw [formG, show ([0] : List Int) = vint 0 ++ [] from by rw [vint_small (by omega)]; rfl] at e
    have := (vint_append_inj (by omega) (by omega) e).1
    omega
  have p4 : batch_Parse.f [1, 2, 1, 97] = some ([], 40) := by
    refine aw_none (b4 _ _ _ _ (by decide) (by decide) (by decide) (by decide) (by decide) (by decide) (by decide) (by decide)) (by decide) (fun ops h1 h2 e => ?_)
    have h3 := h1.2.1
    have h4 := h1.1
    rw [formG, show ([1, 2, 1, 97] : List Int) = vint 1 ++ [2, 1, 97] from by rw [vint_small (by omega)]; rfl] at e
    obtain ⟨e1, e2⟩ := vint_append_inj (by omega) (by omega) e
    match ops, e1, e2, h1 with
    | [o], _, e2, h1 =>
      have h5 := (op_sizes (h1.2.2 o (by simp))).2.2.1
      rw [formL_cons, formO] at e2
      simp only [List.cons_append, List.cons.injEq] at e2
      omega
  have q1 : Ev (fun k => batch_Bytes.f k [aw1, aw2]) (formG [aw1, aw2], 0) := by
    have := bytes_f [aw1, aw2]
    rwa [if_pos aw_few] at this
  have q2 : ∀ l : List OpS, ¬ FewI l 128 → Ev (fun k => batch_Bytes.f k l) ([], 40) := fun l h => by
    have := bytes_f l
    rwa [if_neg h] at this
  unfold ratlinelaw04_awake.f
  refine ev_bind rfl ?_
  refine ev_bind rfl ?_
  refine ev_call2 q1 (fun t t1 t2 => ?_)
  refine ev_bind2 p1 (fun u u1 u2 => ?_)
  refine ev_bind rfl (ev_pos (by decide) ?_)
  refine ev_bind rfl (ev_pos (by decide) ?_)
  refine ev_bind2 p2 (fun v v1 v2 => ?_)
  refine ev_bind2 p3 (fun w w1 w2 => ?_)
  refine ev_bind2 p4 (fun x x1 x2 => ?_)
  refine ev_call2 (q2 [] (fun h => absurd h.1 (by decide))) (fun y y1 y2 => ?_)
  refine ev_pos (by decide) (ev_bind rfl ?_)
  rw [t1, t2, u1, u2, v2, w2, x2, y2, List.length_replicate]
  refine aw_loop true _ _ _ _ _ _ _ _ _ _ (by decide) (fun x15 hl => ?_) 129 0 _ rfl (List.length_replicate ..)
  refine ev_step (fun k => by rw [ratlinelaw04_awake.l0, if_neg (Int.lt_irrefl _)]) ?_
  refine ev_call2 (q2 x15 (fun h => by have := h.2.1; omega)) (fun y y1 y2 => ?_)
  refine ev_call (entries_f [aw1, aw2] 7 (by decide)) ?_
  refine ev_pos (by unfold wrap64; omega) ?_
  refine ev_bind (same_f (formG_by aw_wf) (by rw [← aw_form]; exact formG_by aw_wf)) (ev_pos (decide_eq_true aw_form) ?_)
  refine ev_call (osame_f _ _ (by decide)) (ev_pos (decide_eq_true rfl) ?_)
  refine ev_pos rfl (ev_pos rfl (ev_pos rfl (ev_pos rfl (ev_pos y2 ?_))))
  refine ev_call (a := true) ?_ (ev_some _)
  have := esame_f (entL 7 [aw1, aw2]) [⟨⟨⟨#[97]⟩, 7, 1⟩, ⟨#[120]⟩⟩, ⟨⟨⟨#[98]⟩, 8, 0⟩, ⟨#[]⟩⟩] (by decide)
  rwa [decide_eq_true (by rfl)] at this
end Go.Proofs.YtlaihdipagejfaaL

end

section
set_option linter.unusedVariables false
namespace Go.Proofs.YtlaihdipagejfaaL
open Go Go.RowKit Go.Proofs.YtlaihdipagejfaaG Go.Proofs.Ytlaihdipagejfaa.P Go.Proofs.YtlaihdipagejfaaW.PrintWords Go.Proofs.YtlaihdipagejfaaW.PrintMore

theorem wfO_of {o : OpS} (h : (Lit.int .u8 o.f0).wf = true) : WfO o := by
  simp [Lit.wf, IntKind.min, IntKind.max, IntKind.bits, IntKind.signed] at h
  exact ⟨by omega, by omega⟩
theorem wfL_of {l : List OpS} (h : ∀ o ∈ l, (Lit.int .u8 o.f0).wf = true ∧ o.f1.size ≤ maxLen ∧ o.f2.size ≤ maxLen) : ∀ o ∈ l, WfO o := fun o ho => wfO_of (h o ho).1
theorem awake04' : Ev (fun k => (ratlinelaw04_awake.f k).bind fun t => some t) true := ev_call awake04 (ev_some _)
theorem bytes_yes {l : List OpS} (h : FewI l 128) : Ev (fun k => batch_Bytes.f k l) (formG l, 0) := by
  have := bytes_f l
  rwa [if_pos h] at this
theorem bytes_no {l : List OpS} (h : ¬ FewI l 128) : Ev (fun k => batch_Bytes.f k l) ([], 40) := by
  have := bytes_f l
  rwa [if_neg h] at this
end Go.Proofs.YtlaihdipagejfaaL

end

section
set_option linter.unusedVariables false
namespace Go.Proofs.Ytlaihdipagejfaa.Pure
open Go Go.RowKit Go.Proofs.Ytlaihdipagejfaa.P Go.Proofs.YtlaihdipagejfaaG Go.Proofs.YtlaihdipagejfaaL Go.Proofs.YtlaihdipagejfaaW.PrintWords Go.Proofs.YtlaihdipagejfaaW.PrintMore Go.Proofs.YtlaihdipagejfaaW.PrintLast

theorem cut_none {l : List OpS} (h : FewI l 128) (hw : ∀ o ∈ l, WfO o) {b : List Int} (hb : By b) (hl : b.length ≤ 100000) (hn : ∀ ops, FewI ops 128 → (∀ o ∈ ops, WfO o) → b ≠ formG ops) : batch_Parse.f b = some ([], 40) := by
  rcases parse_cases b hb (by omega) with ⟨ops, h1, h2, he, _⟩ | ⟨hf, _⟩
  · exact absurd he (hn ops h1 h2)
  · exact hf
theorem cut_short {l : List OpS} (h : FewI l 128) (hw : ∀ o ∈ l, WfO o) {n : Nat} (hn : n < (formG l).length) : batch_Parse.f ((formG l).take n) = some ([], 40) := by
  have hlen := formG_len h
  refine cut_none h hw ((formG_by hw).take n) (by rw [List.length_take]; omega) (fun ops h1 h2 e => ?_)
  have e2 : formG l ++ [] = formG ops ++ (formG l).drop n := by rw [List.append_nil, ← e, List.take_append_drop]
  have := congrArg List.length (formG_inj h h1 hw h2 e2).2
  rw [List.length_drop] at this
  simp at this
  omega
theorem cut_more {l : List OpS} (h : FewI l 128) (hw : ∀ o ∈ l, WfO o) {c : Int} (h0 : 0 ≤ c) (h1 : c < 256) : batch_Parse.f (formG l ++ [c]) = some ([], 40) := by
  have hlen := formG_len h
  refine cut_none h hw ((formG_by hw).append (.cons h0 h1 .nil)) (by rw [List.length_append]; simp; omega) (fun ops h3 h2 e => ?_)
  have := (formG_inj (a := [c]) (b := []) h h3 hw h2 (by rw [List.append_nil]; exact e)).2
  cases this
theorem cut_count {l : List OpS} (h : FewI l 128) (hw : ∀ o ∈ l, WfO o) (hl : l.length < 128) {n : Nat} (hn : n < 128) (hne : n ≠ l.length) : batch_Parse.f ([(n : Int)] ++ (formG l).drop 1) = some ([], 40) := by
  have hlen := formG_len h
  have e1 : (formG l).drop 1 = formL l := by rw [formG, vint_small (by omega)]; rfl
  rw [e1]
  have hlen2 := formL_len h.2.2
  refine cut_none h hw ((show By [(n : Int)] from .cons (by omega) (by omega) .nil).append (formL_by hw)) (by rw [List.length_append]; simp; omega) (fun ops h3 h2 e => ?_)
  rw [show [(n : Int)] = vint n from (vint_small (by omega)).symm, formG] at e
  have := h3.2.1
  obtain ⟨e2, e3⟩ := vint_append_inj (by omega) (by omega) e
  have := formL_inj' (fun o ho => ⟨h.2.2 o ho, hw o ho⟩) (fun o ho => ⟨h3.2.2 o ho, h2 o ho⟩) e3
  rw [this] at hne
  exact hne e2
theorem cut_j0 {l : List OpS} (h : FewI l 128) (hw : ∀ o ∈ l, WfO o) {n : Nat} (hn : n < 128) (b : Bool) (hb : b = true → l.length < 128 ∧ n ≠ l.length) : Ev (fun k => ratlinelaw04_BatchCut.j0 k (formG l) 40 40 (n : Int) 40 b) true := by
  refine ev_step (fun k => by rw [ratlinelaw04_BatchCut.j0]) ?_
  cases b with
  | true =>
    obtain ⟨h1, h2⟩ := hb rfl
    have hlen := formG_len h
    have hp := vint_pos l.length
    refine ev_pos rfl (ev_bind rfl (ev_pos (by rw [formG, List.length_append]; omega) (ev_bind rfl (ev_pos (by rw [List.length_drop]; show 1 + _ < _; omega) ?_))))
    have e : ((n : Int) % 256) = (n : Int) := by omega
    rw [e]
    refine ev_bind2 (cut_count h hw h1 hn h2) (fun t t1 t2 => ?_)
    exact ev_pos rfl (ev_pos rfl (ev_pos t2 awake04'))
  | false => exact ev_neg (by decide) (ev_pos rfl (ev_pos rfl (ev_pos rfl awake04')))
theorem BatchCut (l : List OpS) (_ : l.length ≤ maxLen) (hl : l.length * 40 ≤ 140737488351232) (hw0 : ∀ o ∈ l, (Lit.int .u8 o.f0).wf = true ∧ o.f1.size ≤ maxLen ∧ o.f2.size ≤ maxLen)
    (at_ : Int) (hat : (Lit.int .u16 at_).wf = true) (c : Int) (hc : (Lit.int .u8 c).wf = true) (n : Int) (hn : (Lit.int .u8 n).wf = true) : ∃ k, ratlinelaw04_BatchCut.f k l at_ c n = some true := by
  refine Ev.rounds ?_
  have ha : 0 ≤ at_ ∧ at_ < 65536 := by
    simp [Lit.wf, IntKind.min, IntKind.max, IntKind.bits, IntKind.signed] at hat
    omega
  have hc : 0 ≤ c ∧ c < 256 := by
    simp [Lit.wf, IntKind.min, IntKind.max, IntKind.bits, IntKind.signed] at hc
    omega
  have hn : 0 ≤ n ∧ n < 256 := by
    simp [Lit.wf, IntKind.min, IntKind.max, IntKind.bits, IntKind.signed] at hn
    omega
  have hw := wfL_of hw0
  unfold ratlinelaw04_BatchCut.f
  refine ev_call (ofew_f l 128 (by omega)) ?_
  by_cases h1 : (decide (∀ e ∈ l, ShortO e) && decide ((l.length : Int) ≤ 128)) = true
  · refine ev_pos h1 ?_
    by_cases h : FewI l 128
    · refine ev_call2 (bytes_yes h) (fun t t1 t2 => ?_)
      rw [t1, t2]
      have hlen := formG_len h
      have hp := vint_pos l.length
      have h0 := h.1
      have hfl : 2 ≤ (formG l).length := by
        match l, h0 with
        | o :: r, _ =>
          have := formO_pos o
          rw [formG, formL_cons, List.length_append, List.length_append]; omega
      obtain ⟨a, rfl⟩ := Int.eq_ofNat_of_zero_le ha.1
      obtain ⟨m, rfl⟩ := Int.eq_ofNat_of_zero_le hn.1
      have e1 : wrap64 (a : Int) = (a : Int) := by unfold wrap64; omega
      have e2 : Int.tmod (a : Int) ((formG l).length : Int) = ((a % (formG l).length : Nat) : Int) := by rw [Int.ofNat_tmod]
      have e3 : wrap64 (Int.tmod (m : Int) 128) = ((m % 128 : Nat) : Int) := by rw [show Int.tmod (m : Int) 128 = ((m % 128 : Nat) : Int) from by rw [Int.ofNat_tmod]; rfl]; unfold wrap64; omega
      have hlt := Nat.mod_lt a (show 0 < (formG l).length from by omega)
      rw [e1, e2, e3, Int.toNat_natCast]
      refine ev_pos rfl (ev_neg (by omega) (ev_neg (by omega) (ev_pos (by omega) (ev_pos (by omega) ?_))))
      refine ev_bind2 (cut_short h hw hlt) (fun u u1 u2 => ev_bind rfl (ev_pos (by show 0 + _ < _; omega) (ev_bind rfl (ev_pos (by rw [List.nil_append]; omega) ?_))))
      rw [List.nil_append]
      refine ev_bind2 (cut_more h hw hc.1 hc.2) (fun v v1 v2 => ?_)
      rw [u2, v2]
      by_cases h2 : (l.length : Int) < 128
      · refine ev_pos h2 (cut_j0 h hw (Nat.mod_lt _ (by omega)) _ (fun hb => ⟨by omega, fun e => ?_⟩))
        rw [bne_iff_ne] at hb
        exact hb (by rw [e])
      · exact ev_neg h2 (cut_j0 h hw (Nat.mod_lt _ (by omega)) _ (fun hb => by cases hb))
    · refine ev_call2 (bytes_no h) (fun t t1 t2 => ?_)
      rw [t1, t2]
      exact ev_neg (by decide) awake04'
  · exact ev_neg h1 awake04'
end Go.Proofs.Ytlaihdipagejfaa.Pure

end
