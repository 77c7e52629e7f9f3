/- Proved here: the row of OmapTells, and what it needs. Conditions: those of each theorem. Written for this claim by programs; what the claim does not use is left out. -/
import Derived.ChangeArms
import Derived.DataReads
import Derived.DataElems
import Derived.OpenShut
import Derived.SizedLaws
import Derived.Test.YtkncjpafehnmnaaRows
import Derived.WalkKit
import Derived.ProofKit
import Derived.ShutString
import Derived.ChangeOld
import Derived.Below
import Derived.Test.YtkncjpafehnmnaaSOmapTells2
section
namespace Go.Proofs.Ytkncjpafehnmnaa.P
open Go.RowKit Go.Proofs.YtkncjpafehnmnaaG Go.Proofs.YtkncjpafehnmnaaW.PrintWords Go.Proofs.YtkncjpafehnmnaaW.PrintLast Go.Proofs.YtkncjpafehnmnaaW.PrintMore
attribute [local go_sem] str_gtr str_geq str_leq max2_int min2_int max_two min_two max_three min_three max_four min_four   -- for this text's walks alone
set_option linter.unusedVariables false
set_option linter.unusedSimpArgs false

def ratlineref12_Right.l0 : Nat → List (S39) → Int → Option (Bool)
  | 0, _, _ => none
  | k + 1, x0, x3 => if x3 < (x0.length : Int) then (if 0 ≤ x3 then (if (((rd_T39 x0 x3).f0).size : Int) < 1 then (some false) else (if (((rd_T39 x0 x3).f0).size : Int) > 64 then (some false) else (if (((rd_T39 x0 x3).f1).size : Int) > 256 then (some false) else (if x3 > 0 then (if 0 ≤ (wrap64 (x3 - 1)) then (if (wrap64 (x3 - 1)) < (x0.length : Int) then (if ((Op.bytesLess (((rd_T39 x0 (wrap64 (x3 - 1))).f0).toList) (((rd_T39 x0 x3).f0).toList)) = true) then (ratlineref12_Right.l0 k x0 (wrap64 (x3 + 1))) else (some false)) else (none)) else (none)) else (ratlineref12_Right.l0 k x0 (wrap64 (x3 + 1))))))) else (none)) else (some true)
def ratlineref12_Right.f (k : Nat) (l0 : List (S39)) : Option (Bool) := ratlineref12_Right.l0 k l0 0
set_option maxHeartbeats 8000000 in
set_option maxRecDepth 100000 in
theorem ratlineref12_Right.calls (k : Nat) (A0 : Option Addr) (c0 : Nat) (l0 : List (S39)) (r : Bool) (w : World) (hr0 : Kd.C k39 w A0 l0.length l0) (hc0 : l0.length ≤ c0) (h : ratlineref12_Right.f k l0 = some r) :
    Calls Try.prog 17 #[.slice A0 l0.length c0] w fun e w' => e = .returned (.bool r) ∧ Drawn0 w w' := by
  have HR0 := Aside0.mk hr0
  have HC0 := Aside0.mk hc0
  clear hr0 hc0
  have H : (ratlineref12_Right.l0 k l0 0) = some r := h
  clear h
  have H' := Aside0.mk H
  clear H
  go_enter Try.func17, Try.ntmps17
  go_wp2
  repeat (go_quiet (fail); try go_wp2)
  go_loopg [3] k (fun kq v3 w' => ∃ (x3_1 : Int), v3 = .int .i64 x3_1 ∧ Aside0 (ratlineref12_Right.l0 kq l0 x3_1 = some r) ∧ Aside0 (kq ≤ k) ∧ Drawn0 w w')
  case atStart => exact ⟨(0), (by first | rfl | (simp; done) | (simp [*]; done)), H', ⟨Nat.le_refl _⟩, by repeat (first | exact Drawn0.refl _ | apply Drawn0.step)⟩
  case round =>
    clear H'
    try clear c1
    obtain ⟨x3_1, rfl, HA, HK1, ⟨m1, rfl⟩⟩ := hrel
    cases gk with
    | zero => exact absurd HA.out (by simp [ratlineref12_Right.l0])
    | succ k1 =>
      have H := HA.out
      clear HA
      simp only [ratlineref12_Right.l0] at H
      by_cases c2 : x3_1 < (l0.length : Int)
      · rw [if_pos c2] at H
        have c2b0 : decide (x3_1 < (l0.length : Int)) = true := decide_eq_true c2
        clear c2
        by_cases c3 : 0 ≤ x3_1
        · rw [if_pos c3] at H
          have c3b0 : decide (0 ≤ x3_1) = true := decide_eq_true c3
          clear c3
          by_cases c4 : (((rd_T39 l0 x3_1).f0).size : Int) < 1
          · rw [if_pos c4] at H
            have c4b0 : decide ((((rd_T39 l0 x3_1).f0).size : Int) < 1) = true := decide_eq_true c4
            have c4b1 : decide (((rd_T39 l0 x3_1).f0).size < 1) = true := decide_eq_true (by omega)
            clear c4
            obtain rfl := Option.some.inj H
            have p174 : 0 ≤ (x3_1 : Int) := of_decide_eq_true (by first | (with_reducible assumption) | assumption)
            have q174 : x3_1 < (l0.length : Int) := of_decide_eq_true (by first | (with_reducible assumption) | assumption)
            obtain ⟨ad174, e174, hx174_0, hx174_1⟩ := at_T39 HR0.out x3_1 p174 q174
            cases e174
            replace p174 := eq_true p174
            replace q174 := eq_true q174
            go_wp2
            repeat (go_quiet (fail); try go_wp2)
            go_ret
            exact ⟨by first | rfl | (simp; done) | (simp [*]; done), by repeat (first | exact Drawn0.refl _ | apply Drawn0.step)⟩
          · rw [if_neg c4] at H
            have c4b0 : decide ((((rd_T39 l0 x3_1).f0).size : Int) < 1) = false := decide_eq_false c4
            have c4b1 : decide (((rd_T39 l0 x3_1).f0).size < 1) = false := decide_eq_false (by omega)
            clear c4
            by_cases c5 : (((rd_T39 l0 x3_1).f0).size : Int) > 64
            · rw [if_pos c5] at H
              have c5b0 : decide (64 < (((rd_T39 l0 x3_1).f0).size : Int)) = true := decide_eq_true c5
              have c5b1 : decide (64 < ((rd_T39 l0 x3_1).f0).size) = true := decide_eq_true (by omega)
              clear c5
              obtain rfl := Option.some.inj H
              have p174 : 0 ≤ (x3_1 : Int) := of_decide_eq_true (by first | (with_reducible assumption) | assumption)
              have q174 : x3_1 < (l0.length : Int) := of_decide_eq_true (by first | (with_reducible assumption) | assumption)
              obtain ⟨ad174, e174, hx174_0, hx174_1⟩ := at_T39 HR0.out x3_1 p174 q174
              cases e174
              replace p174 := eq_true p174
              replace q174 := eq_true q174
              have p175 : 0 ≤ (x3_1 : Int) := of_decide_eq_true (by first | (with_reducible assumption) | assumption)
              have q175 : x3_1 < (l0.length : Int) := of_decide_eq_true (by first | (with_reducible assumption) | assumption)
              obtain ⟨ad175, e175, hx175_0, hx175_1⟩ := at_T39 HR0.out x3_1 p175 q175
              obtain rfl : ad174 = ad175 := (by injection e175)
              replace p175 := eq_true p175
              replace q175 := eq_true q175
              go_wp2
              repeat (go_quiet (fail); try go_wp2)
              go_ret
              exact ⟨by first | rfl | (simp; done) | (simp [*]; done), by repeat (first | exact Drawn0.refl _ | apply Drawn0.step)⟩
            · rw [if_neg c5] at H
              have c5b0 : decide (64 < (((rd_T39 l0 x3_1).f0).size : Int)) = false := decide_eq_false c5
              have c5b1 : decide (64 < ((rd_T39 l0 x3_1).f0).size) = false := decide_eq_false (by omega)
              clear c5
              by_cases c6 : (((rd_T39 l0 x3_1).f1).size : Int) > 256
              · rw [if_pos c6] at H
                have c6b0 : decide (256 < (((rd_T39 l0 x3_1).f1).size : Int)) = true := decide_eq_true c6
                have c6b1 : decide (256 < ((rd_T39 l0 x3_1).f1).size) = true := decide_eq_true (by omega)
                clear c6
                obtain rfl := Option.some.inj H
                have p174 : 0 ≤ (x3_1 : Int) := of_decide_eq_true (by first | (with_reducible assumption) | assumption)
                have q174 : x3_1 < (l0.length : Int) := of_decide_eq_true (by first | (with_reducible assumption) | assumption)
                obtain ⟨ad174, e174, hx174_0, hx174_1⟩ := at_T39 HR0.out x3_1 p174 q174
                cases e174
                replace p174 := eq_true p174
                replace q174 := eq_true q174
                have p175 : 0 ≤ (x3_1 : Int) := of_decide_eq_true (by first | (with_reducible assumption) | assumption)
                have q175 : x3_1 < (l0.length : Int) := of_decide_eq_true (by first | (with_reducible assumption) | assumption)
                obtain ⟨ad175, e175, hx175_0, hx175_1⟩ := at_T39 HR0.out x3_1 p175 q175
                obtain rfl : ad174 = ad175 := (by injection e175)
                replace p175 := eq_true p175
                replace q175 := eq_true q175
                have p176 : 0 ≤ (x3_1 : Int) := of_decide_eq_true (by first | (with_reducible assumption) | assumption)
                have q176 : x3_1 < (l0.length : Int) := of_decide_eq_true (by first | (with_reducible assumption) | assumption)
                obtain ⟨ad176, e176, hx176_0, hx176_1⟩ := at_T39 HR0.out x3_1 p176 q176
                obtain rfl : ad174 = ad176 := (by injection e176)
                replace p176 := eq_true p176
                replace q176 := eq_true q176
                go_wp2
                repeat (go_quiet (fail); try go_wp2)
                go_ret
                exact ⟨by first | rfl | (simp; done) | (simp [*]; done), by repeat (first | exact Drawn0.refl _ | apply Drawn0.step)⟩
              · rw [if_neg c6] at H
                have c6b0 : decide (256 < (((rd_T39 l0 x3_1).f1).size : Int)) = false := decide_eq_false c6
                have c6b1 : decide (256 < ((rd_T39 l0 x3_1).f1).size) = false := decide_eq_false (by omega)
                clear c6
                by_cases c7 : x3_1 > 0
                · rw [if_pos c7] at H
                  have c7b0 : decide (0 < x3_1) = true := decide_eq_true c7
                  clear c7
                  obtain ⟨ji8, hji8⟩ : ∃ j_ : Int, (wrap64 (x3_1 - 1)) = j_ := ⟨_, rfl⟩
                  replace H : (if 0 ≤ (ji8) then (if (ji8) < (l0.length : Int) then (if ((Op.bytesLess (((rd_T39 l0 (ji8)).f0).toList) (((rd_T39 l0 x3_1).f0).toList)) = true) then (ratlineref12_Right.l0 k1 l0 (wrap64 (x3_1 + 1))) else (some false)) else (none)) else (none)) = some r := by first | (rw [hji8] at H; exact H) | (simp only [hji8] at H ⊢; exact H)
                  have hji8w : (IntKind.i64.wrap (x3_1 - 1)) = ji8 := (i64_w _).trans hji8
                  by_cases c9 : 0 ≤ (ji8)
                  · rw [if_pos c9] at H
                    have c9b0 : decide (0 ≤ (ji8)) = true := decide_eq_true c9
                    clear c9
                    by_cases c10 : (ji8) < (l0.length : Int)
                    · rw [if_pos c10] at H
                      have c10b0 : decide ((ji8) < (l0.length : Int)) = true := decide_eq_true c10
                      clear c10
                      by_cases c11 : ((Op.bytesLess (((rd_T39 l0 (ji8)).f0).toList) (((rd_T39 l0 x3_1).f0).toList)) = true)
                      · rw [if_pos c11] at H
                        have c11b0 : (Op.bytesLess (((rd_T39 l0 (ji8)).f0).toList) (((rd_T39 l0 x3_1).f0).toList)) = true := c11
                        clear c11
                        have H' := Aside0.mk H
                        clear H
                        have p174 : 0 ≤ (x3_1 : Int) := of_decide_eq_true (by first | (with_reducible assumption) | assumption)
                        have q174 : x3_1 < (l0.length : Int) := of_decide_eq_true (by first | (with_reducible assumption) | assumption)
                        obtain ⟨ad174, e174, hx174_0, hx174_1⟩ := at_T39 HR0.out x3_1 p174 q174
                        cases e174
                        replace p174 := eq_true p174
                        replace q174 := eq_true q174
                        have p175 : 0 ≤ (x3_1 : Int) := of_decide_eq_true (by first | (with_reducible assumption) | assumption)
                        have q175 : x3_1 < (l0.length : Int) := of_decide_eq_true (by first | (with_reducible assumption) | assumption)
                        obtain ⟨ad175, e175, hx175_0, hx175_1⟩ := at_T39 HR0.out x3_1 p175 q175
                        obtain rfl : ad174 = ad175 := (by injection e175)
                        replace p175 := eq_true p175
                        replace q175 := eq_true q175
                        have p176 : 0 ≤ (x3_1 : Int) := of_decide_eq_true (by first | (with_reducible assumption) | assumption)
                        have q176 : x3_1 < (l0.length : Int) := of_decide_eq_true (by first | (with_reducible assumption) | assumption)
                        obtain ⟨ad176, e176, hx176_0, hx176_1⟩ := at_T39 HR0.out x3_1 p176 q176
                        obtain rfl : ad174 = ad176 := (by injection e176)
                        replace p176 := eq_true p176
                        replace q176 := eq_true q176
                        have p177 : 0 ≤ ((ji8) : Int) := of_decide_eq_true (by first | (with_reducible assumption) | assumption)
                        have q177 : (ji8) < (l0.length : Int) := of_decide_eq_true (by first | (with_reducible assumption) | assumption)
                        obtain ⟨ad177, e177, hx177_0, hx177_1⟩ := at_T39 HR0.out (ji8) p177 q177
                        obtain rfl : ad174 = ad177 := (by injection e177)
                        replace p177 := eq_true p177
                        replace q177 := eq_true q177
                        have p178 : 0 ≤ (x3_1 : Int) := of_decide_eq_true (by first | (with_reducible assumption) | assumption)
                        have q178 : x3_1 < (l0.length : Int) := of_decide_eq_true (by first | (with_reducible assumption) | assumption)
                        obtain ⟨ad178, e178, hx178_0, hx178_1⟩ := at_T39 HR0.out x3_1 p178 q178
                        obtain rfl : ad174 = ad178 := (by injection e178)
                        replace p178 := eq_true p178
                        replace q178 := eq_true q178
                        go_wp2
                        repeat (go_quiet (fail); try go_wp2)
                        go_roundg k1
                        case measure => have := HK1.out; omega
                        case rel => exact ⟨(wrap64 (x3_1 + 1)), (by first | rfl | (simp; done) | (simp [*]; done)), H', ⟨by have := HK1.out; omega⟩, by repeat (first | exact Drawn0.refl _ | apply Drawn0.step)⟩
                      · rw [if_neg c11] at H
                        have c11b0 : (Op.bytesLess (((rd_T39 l0 (ji8)).f0).toList) (((rd_T39 l0 x3_1).f0).toList)) = false := by simpa using c11
                        clear c11
                        obtain rfl := Option.some.inj H
                        have p174 : 0 ≤ (x3_1 : Int) := of_decide_eq_true (by first | (with_reducible assumption) | assumption)
                        have q174 : x3_1 < (l0.length : Int) := of_decide_eq_true (by first | (with_reducible assumption) | assumption)
                        obtain ⟨ad174, e174, hx174_0, hx174_1⟩ := at_T39 HR0.out x3_1 p174 q174
                        cases e174
                        replace p174 := eq_true p174
                        replace q174 := eq_true q174
                        have p175 : 0 ≤ (x3_1 : Int) := of_decide_eq_true (by first | (with_reducible assumption) | assumption)
                        have q175 : x3_1 < (l0.length : Int) := of_decide_eq_true (by first | (with_reducible assumption) | assumption)
                        obtain ⟨ad175, e175, hx175_0, hx175_1⟩ := at_T39 HR0.out x3_1 p175 q175
                        obtain rfl : ad174 = ad175 := (by injection e175)
                        replace p175 := eq_true p175
                        replace q175 := eq_true q175
                        have p176 : 0 ≤ (x3_1 : Int) := of_decide_eq_true (by first | (with_reducible assumption) | assumption)
                        have q176 : x3_1 < (l0.length : Int) := of_decide_eq_true (by first | (with_reducible assumption) | assumption)
                        obtain ⟨ad176, e176, hx176_0, hx176_1⟩ := at_T39 HR0.out x3_1 p176 q176
                        obtain rfl : ad174 = ad176 := (by injection e176)
                        replace p176 := eq_true p176
                        replace q176 := eq_true q176
                        have p177 : 0 ≤ ((ji8) : Int) := of_decide_eq_true (by first | (with_reducible assumption) | assumption)
                        have q177 : (ji8) < (l0.length : Int) := of_decide_eq_true (by first | (with_reducible assumption) | assumption)
                        obtain ⟨ad177, e177, hx177_0, hx177_1⟩ := at_T39 HR0.out (ji8) p177 q177
                        obtain rfl : ad174 = ad177 := (by injection e177)
                        replace p177 := eq_true p177
                        replace q177 := eq_true q177
                        have p178 : 0 ≤ (x3_1 : Int) := of_decide_eq_true (by first | (with_reducible assumption) | assumption)
                        have q178 : x3_1 < (l0.length : Int) := of_decide_eq_true (by first | (with_reducible assumption) | assumption)
                        obtain ⟨ad178, e178, hx178_0, hx178_1⟩ := at_T39 HR0.out x3_1 p178 q178
                        obtain rfl : ad174 = ad178 := (by injection e178)
                        replace p178 := eq_true p178
                        replace q178 := eq_true q178
                        go_wp2
                        repeat (go_quiet (fail); try go_wp2)
                        go_ret
                        exact ⟨by first | rfl | (simp; done) | (simp only [← hji8] <;> (first | rfl | simp)) | (simp [*]; done), by repeat (first | exact Drawn0.refl _ | apply Drawn0.step)⟩
                    · rw [if_neg c10] at H
                      exact absurd H (by simp)
                  · rw [if_neg c9] at H
                    exact absurd H (by simp)
                · rw [if_neg c7] at H
                  have c7b0 : decide (0 < x3_1) = false := decide_eq_false c7
                  clear c7
                  have H' := Aside0.mk H
                  clear H
                  have p174 : 0 ≤ (x3_1 : Int) := of_decide_eq_true (by first | (with_reducible assumption) | assumption)
                  have q174 : x3_1 < (l0.length : Int) := of_decide_eq_true (by first | (with_reducible assumption) | assumption)
                  obtain ⟨ad174, e174, hx174_0, hx174_1⟩ := at_T39 HR0.out x3_1 p174 q174
                  cases e174
                  replace p174 := eq_true p174
                  replace q174 := eq_true q174
                  have p175 : 0 ≤ (x3_1 : Int) := of_decide_eq_true (by first | (with_reducible assumption) | assumption)
                  have q175 : x3_1 < (l0.length : Int) := of_decide_eq_true (by first | (with_reducible assumption) | assumption)
                  obtain ⟨ad175, e175, hx175_0, hx175_1⟩ := at_T39 HR0.out x3_1 p175 q175
                  obtain rfl : ad174 = ad175 := (by injection e175)
                  replace p175 := eq_true p175
                  replace q175 := eq_true q175
                  have p176 : 0 ≤ (x3_1 : Int) := of_decide_eq_true (by first | (with_reducible assumption) | assumption)
                  have q176 : x3_1 < (l0.length : Int) := of_decide_eq_true (by first | (with_reducible assumption) | assumption)
                  obtain ⟨ad176, e176, hx176_0, hx176_1⟩ := at_T39 HR0.out x3_1 p176 q176
                  obtain rfl : ad174 = ad176 := (by injection e176)
                  replace p176 := eq_true p176
                  replace q176 := eq_true q176
                  go_wp2
                  repeat (go_quiet (fail); try go_wp2)
                  go_roundg k1
                  case measure => have := HK1.out; omega
                  case rel => exact ⟨(wrap64 (x3_1 + 1)), (by first | rfl | (simp; done) | (simp [*]; done)), H', ⟨by have := HK1.out; omega⟩, by repeat (first | exact Drawn0.refl _ | apply Drawn0.step)⟩
        · rw [if_neg c3] at H
          exact absurd H (by simp)
      · rw [if_neg c2] at H
        have c2b0 : decide (x3_1 < (l0.length : Int)) = false := decide_eq_false c2
        clear c2
        obtain rfl := Option.some.inj H
        go_wp2
        repeat (go_quiet (fail); try go_wp2)
        go_ret
        exact ⟨by first | rfl | (simp; done) | (simp [*]; done), by repeat (first | exact Drawn0.refl _ | apply Drawn0.step)⟩

end Go.Proofs.Ytkncjpafehnmnaa.P

end

section
namespace Go.Proofs.Ytkncjpafehnmnaa.P
open Go.RowKit Go.Proofs.YtkncjpafehnmnaaG Go.Proofs.YtkncjpafehnmnaaW.PrintWords Go.Proofs.YtkncjpafehnmnaaW.PrintLast Go.Proofs.YtkncjpafehnmnaaW.PrintMore
attribute [local go_sem] str_gtr str_geq str_leq max2_int min2_int max_two min_two max_three min_three max_four min_four   -- for this text's walks alone
set_option linter.unusedVariables false
set_option linter.unusedSimpArgs false

def ratlineref12_Get.l0 : Nat → List (S39) → ByteArray → Int → Option (ByteArray × Bool)
  | 0, _, _, _ => none
  | k + 1, x0, x1, x6 => if x6 < (x0.length : Int) then (if 0 ≤ x6 then (if ((rd_T39 x0 x6).f0).toList = x1.toList then (some ((rd_T39 x0 x6).f1, true)) else (ratlineref12_Get.l0 k x0 x1 (wrap64 (x6 + 1)))) else (none)) else (some ((⟨#[]⟩ : ByteArray), false))
def ratlineref12_Get.f (k : Nat) (l0 : List (S39)) (a1 : ByteArray) : Option (ByteArray × Bool) := ratlineref12_Get.l0 k l0 a1 0
set_option maxHeartbeats 8000000 in
set_option maxRecDepth 100000 in
theorem ratlineref12_Get.calls (k : Nat) (A0 : Option Addr) (c0 : Nat) (l0 : List (S39)) (a1 : ByteArray) (r1 : ByteArray) (r2 : Bool) (w : World) (hr0 : Kd.C k39 w A0 l0.length l0) (hc0 : l0.length ≤ c0) (h : ratlineref12_Get.f k l0 a1 = some (r1, r2)) :
    Calls Try.prog 19 #[.slice A0 l0.length c0, .string a1] w fun e w' => e = .returned (.tuple #[.string r1, .bool r2]) ∧ Drawn0 w w' := by
  have HR0 := Aside0.mk hr0
  have HC0 := Aside0.mk hc0
  clear hr0 hc0
  have H : (ratlineref12_Get.l0 k l0 a1 0) = some (r1, r2) := h
  clear h
  have H' := Aside0.mk H
  clear H
  go_enter Try.func19, Try.ntmps19
  go_wp2
  go_loopg [6] k (fun kq v6 w' => ∃ (x6_1 : Int), v6 = .int .i64 x6_1 ∧ Aside0 (ratlineref12_Get.l0 kq l0 a1 x6_1 = some (r1, r2)) ∧ Aside0 (kq ≤ k) ∧ Drawn0 w w')
  case atStart => exact ⟨(0), (by first | rfl | (simp; done) | (simp [*]; done)), H', ⟨Nat.le_refl _⟩, by repeat (first | exact Drawn0.refl _ | apply Drawn0.step)⟩
  case round =>
    clear H'
    try clear c1
    try clear p2
    obtain ⟨x6_1, rfl, HA, HK1, ⟨m1, rfl⟩⟩ := hrel
    cases gk with
    | zero => exact absurd HA.out (by simp [ratlineref12_Get.l0])
    | succ k1 =>
      have H := HA.out
      clear HA
      simp only [ratlineref12_Get.l0] at H
      by_cases c3 : x6_1 < (l0.length : Int)
      · rw [if_pos c3] at H
        have c3b0 : decide (x6_1 < (l0.length : Int)) = true := decide_eq_true c3
        clear c3
        by_cases c4 : 0 ≤ x6_1
        · rw [if_pos c4] at H
          have c4b0 : decide (0 ≤ x6_1) = true := decide_eq_true c4
          clear c4
          by_cases c5 : ((rd_T39 l0 x6_1).f0).toList = a1.toList
          · rw [if_pos c5] at H
            have c5b0 : (((rd_T39 l0 x6_1).f0).toList == a1.toList) = true := beq_iff_eq.mpr c5
            have c5b1 : (((rd_T39 l0 x6_1).f0).toList != a1.toList) = false := bne_eq_false_iff_eq.mpr c5
            clear c5
            simp only [Option.some.injEq, Prod.mk.injEq] at H
            obtain ⟨rfl, rfl⟩ := H
            have p179 : 0 ≤ (x6_1 : Int) := of_decide_eq_true (by first | (with_reducible assumption) | assumption)
            have q179 : x6_1 < (l0.length : Int) := of_decide_eq_true (by first | (with_reducible assumption) | assumption)
            obtain ⟨ad179, e179, hx179_0, hx179_1⟩ := at_T39 HR0.out x6_1 p179 q179
            cases e179
            replace p179 := eq_true p179
            replace q179 := eq_true q179
            have p180 : 0 ≤ (x6_1 : Int) := of_decide_eq_true (by first | (with_reducible assumption) | assumption)
            have q180 : x6_1 < (l0.length : Int) := of_decide_eq_true (by first | (with_reducible assumption) | assumption)
            obtain ⟨ad180, e180, hx180_0, hx180_1⟩ := at_T39 HR0.out x6_1 p180 q180
            obtain rfl : ad179 = ad180 := (by injection e180)
            replace p180 := eq_true p180
            replace q180 := eq_true q180
            go_wp2
            go_ret2
            exact ⟨by first | rfl | (simp; done) | (simp [*]; done), by repeat (first | exact Drawn0.refl _ | apply Drawn0.step)⟩
          · rw [if_neg c5] at H
            have c5b0 : (((rd_T39 l0 x6_1).f0).toList == a1.toList) = false := beq_eq_false_iff_ne.mpr c5
            have c5b1 : (((rd_T39 l0 x6_1).f0).toList != a1.toList) = true := bne_iff_ne.mpr c5
            have H' := Aside0.mk H
            clear H
            have p179 : 0 ≤ (x6_1 : Int) := of_decide_eq_true (by first | (with_reducible assumption) | assumption)
            have q179 : x6_1 < (l0.length : Int) := of_decide_eq_true (by first | (with_reducible assumption) | assumption)
            obtain ⟨ad179, e179, hx179_0, hx179_1⟩ := at_T39 HR0.out x6_1 p179 q179
            cases e179
            replace p179 := eq_true p179
            replace q179 := eq_true q179
            go_wp2
            go_roundg k1
            case measure => have := HK1.out; omega
            case rel => exact ⟨(wrap64 (x6_1 + 1)), (by first | rfl | (simp; done) | (simp [*]; done)), H', ⟨by have := HK1.out; omega⟩, by repeat (first | exact Drawn0.refl _ | apply Drawn0.step)⟩
        · rw [if_neg c4] at H
          exact absurd H (by simp)
      · rw [if_neg c3] at H
        have c3b0 : decide (x6_1 < (l0.length : Int)) = false := decide_eq_false c3
        clear c3
        simp only [Option.some.injEq, Prod.mk.injEq] at H
        obtain ⟨rfl, rfl⟩ := H
        go_wp2
        go_ret2
        exact ⟨by first | rfl | (simp; done) | (simp [*]; done), by repeat (first | exact Drawn0.refl _ | apply Drawn0.step)⟩

end Go.Proofs.Ytkncjpafehnmnaa.P

end

section
namespace Go.Proofs.Ytkncjpafehnmnaa.P
open Go.RowKit Go.Proofs.YtkncjpafehnmnaaG Go.Proofs.YtkncjpafehnmnaaW.PrintWords Go.Proofs.YtkncjpafehnmnaaW.PrintLast Go.Proofs.YtkncjpafehnmnaaW.PrintMore
attribute [local go_sem] str_gtr str_geq str_leq max2_int min2_int max_two min_two max_three min_three max_four min_four   -- for this text's walks alone
set_option linter.unusedVariables false
set_option linter.unusedSimpArgs false

def ratlineref04_Op.f (a0_0 : Int) (a0_1 : ByteArray) (a0_2 : ByteArray) : Option (Bool) := if (a0_1.size : Int) < 1 then (some false) else (if (a0_1.size : Int) > 64 then (some false) else (if a0_0 = 1 then (if (a0_2.size : Int) ≤ 256 then (some true) else (if a0_0 = 0 then (some (a0_2.toList == ([] : List UInt8))) else (some false))) else (if a0_0 = 0 then (some (a0_2.toList == ([] : List UInt8))) else (some false))))
set_option maxHeartbeats 8000000 in
set_option maxRecDepth 100000 in
theorem ratlineref04_Op.calls (a0_0 : Int) (a0_1 : ByteArray) (a0_2 : ByteArray) (r : Bool) (w : World) (h : ratlineref04_Op.f a0_0 a0_1 a0_2 = some r) :
    Calls Try.prog 46 #[.agg #[.int .u8 a0_0, .string a0_1, .string a0_2]] w fun e w' => e = .returned (.bool r) ∧ Below w.heap.size w w' := by
  have hu36 := Try.underlying36
  have HB := Aside0.mk (Below.refl w.heap.size w)
  have H : (if (a0_1.size : Int) < 1 then (some false) else (if (a0_1.size : Int) > 64 then (some false) else (if a0_0 = 1 then (if (a0_2.size : Int) ≤ 256 then (some true) else (if a0_0 = 0 then (some (a0_2.toList == ([] : List UInt8))) else (some false))) else (if a0_0 = 0 then (some (a0_2.toList == ([] : List UInt8))) else (some false))))) = some r := h
  clear h
  by_cases c2 : (a0_1.size : Int) < 1
  · rw [if_pos c2] at H
    have c2b0 : decide ((a0_1.size : Int) < 1) = true := decide_eq_true c2
    have c2b1 : decide (a0_1.size < 1) = true := decide_eq_true (by omega)
    clear c2
    obtain rfl := Option.some.inj H
    go_enter Try.func46, Try.ntmps46
    go_wp2_with (first | ((with_reducible refine gate_dst (N := 1) rfl ?_); (try (refine gate_guard (by rfl) ?_; dsimp only)); refine box_event ?hg (N := 1) ?hd (cs := #[.int .u8 a0_0, .string a0_1, .string a0_2]) (t := 36) ?hr ?_; (case hd => rfl); (case hg => rfl); (case hr => first | (go_simp; done) | (go_simp; rfl)); intro gb181 hg w3 hbox hb; have n0_ := Aside0.mk (below_step (by repeat (first | (with_reducible first | exact HB.out | apply below_alloc | apply pw_below_drewN | apply below_drew1) | exact HB.out)) hb); have n1_ := Aside0.mk (hbox); have n2_ := Aside0.mk ((by rw [hg]; exact (below_size (by repeat (first | (with_reducible first | exact HB.out | apply below_alloc | apply pw_below_drewN | apply below_drew1) | exact HB.out))) : w.heap.size ≤ gb181)); have n3_ := Aside0.mk ((by rw [hg]; exact (below_size (by repeat (first | (with_reducible first | exact HB.out | apply below_alloc | apply pw_below_drewN | apply below_drew1) | exact HB.out))) : w.heap.size ≤ gb181)); clear HB; have HB := n0_; have BK181 := n1_; have GW181 := n2_; have GE181 := n3_; clear n0_ n1_ n2_ n3_; clear hb hbox hg; have hcz4_0 : w3.cell? ⟨gb181, 0, none⟩ = some (.int .u8 a0_0) := (blk_cell BK181.out 0).trans rfl; have hcz4_1 : w3.cell? ⟨gb181, 1, none⟩ = some (.string a0_1) := (blk_cell BK181.out 1).trans rfl; have hcz4_2 : w3.cell? ⟨gb181, 2, none⟩ = some (.string a0_2) := (blk_cell BK181.out 2).trans rfl; have hfz4_0 := blk_frozen BK181.out 0; have hfz4_1 := blk_frozen BK181.out 1; have hfz4_2 := blk_frozen BK181.out 2))
    go_ret
    exact ⟨by first | rfl | (simp [errW_none, errW_some] <;> rfl) | (simp [*, errW_none, errW_some] <;> rfl), by repeat (first | (with_reducible first | exact HB.out | apply below_alloc | apply pw_below_drewN | apply below_drew1 | refine below_set ?_ GE181.out) | exact HB.out)⟩
  · rw [if_neg c2] at H
    have c2b0 : decide ((a0_1.size : Int) < 1) = false := decide_eq_false c2
    have c2b1 : decide (a0_1.size < 1) = false := decide_eq_false (by omega)
    clear c2
    by_cases c5 : (a0_1.size : Int) > 64
    · rw [if_pos c5] at H
      have c5b0 : decide (64 < (a0_1.size : Int)) = true := decide_eq_true c5
      have c5b1 : decide (64 < a0_1.size) = true := decide_eq_true (by omega)
      clear c5
      obtain rfl := Option.some.inj H
      go_enter Try.func46, Try.ntmps46
      go_wp2_with (first | ((with_reducible refine gate_dst (N := 1) rfl ?_); (try (refine gate_guard (by rfl) ?_; dsimp only)); refine box_event ?hg (N := 1) ?hd (cs := #[.int .u8 a0_0, .string a0_1, .string a0_2]) (t := 36) ?hr ?_; (case hd => rfl); (case hg => rfl); (case hr => first | (go_simp; done) | (go_simp; rfl)); intro gb181 hg w6 hbox hb; have n0_ := Aside0.mk (below_step (by repeat (first | (with_reducible first | exact HB.out | apply below_alloc | apply pw_below_drewN | apply below_drew1) | exact HB.out)) hb); have n1_ := Aside0.mk (hbox); have n2_ := Aside0.mk ((by rw [hg]; exact (below_size (by repeat (first | (with_reducible first | exact HB.out | apply below_alloc | apply pw_below_drewN | apply below_drew1) | exact HB.out))) : w.heap.size ≤ gb181)); have n3_ := Aside0.mk ((by rw [hg]; exact (below_size (by repeat (first | (with_reducible first | exact HB.out | apply below_alloc | apply pw_below_drewN | apply below_drew1) | exact HB.out))) : w.heap.size ≤ gb181)); clear HB; have HB := n0_; have BK181 := n1_; have GW181 := n2_; have GE181 := n3_; clear n0_ n1_ n2_ n3_; clear hb hbox hg; have hcz7_0 : w6.cell? ⟨gb181, 0, none⟩ = some (.int .u8 a0_0) := (blk_cell BK181.out 0).trans rfl; have hcz7_1 : w6.cell? ⟨gb181, 1, none⟩ = some (.string a0_1) := (blk_cell BK181.out 1).trans rfl; have hcz7_2 : w6.cell? ⟨gb181, 2, none⟩ = some (.string a0_2) := (blk_cell BK181.out 2).trans rfl; have hfz7_0 := blk_frozen BK181.out 0; have hfz7_1 := blk_frozen BK181.out 1; have hfz7_2 := blk_frozen BK181.out 2))
      go_ret
      exact ⟨by first | rfl | (simp [errW_none, errW_some] <;> rfl) | (simp [*, errW_none, errW_some] <;> rfl), by repeat (first | (with_reducible first | exact HB.out | apply below_alloc | apply pw_below_drewN | apply below_drew1 | refine below_set ?_ GE181.out) | exact HB.out)⟩
    · rw [if_neg c5] at H
      have c5b0 : decide (64 < (a0_1.size : Int)) = false := decide_eq_false c5
      have c5b1 : decide (64 < a0_1.size) = false := decide_eq_false (by omega)
      clear c5
      by_cases c8 : a0_0 = 1
      · rw [if_pos c8] at H
        have c8b0 : (a0_0 == 1) = true := beq_iff_eq.mpr c8
        have c8b1 : (a0_0 != 1) = false := bne_eq_false_iff_eq.mpr c8
        clear c8
        by_cases c9 : (a0_2.size : Int) ≤ 256
        · rw [if_pos c9] at H
          have c9b0 : decide ((a0_2.size : Int) ≤ 256) = true := decide_eq_true c9
          have c9b1 : decide (a0_2.size ≤ 256) = true := decide_eq_true (by omega)
          clear c9
          obtain rfl := Option.some.inj H
          go_enter Try.func46, Try.ntmps46
          go_wp2_with (first | ((with_reducible refine gate_dst (N := 1) rfl ?_); (try (refine gate_guard (by rfl) ?_; dsimp only)); refine box_event ?hg (N := 1) ?hd (cs := #[.int .u8 a0_0, .string a0_1, .string a0_2]) (t := 36) ?hr ?_; (case hd => rfl); (case hg => rfl); (case hr => first | (go_simp; done) | (go_simp; rfl)); intro gb181 hg w10 hbox hb; have n0_ := Aside0.mk (below_step (by repeat (first | (with_reducible first | exact HB.out | apply below_alloc | apply pw_below_drewN | apply below_drew1) | exact HB.out)) hb); have n1_ := Aside0.mk (hbox); have n2_ := Aside0.mk ((by rw [hg]; exact (below_size (by repeat (first | (with_reducible first | exact HB.out | apply below_alloc | apply pw_below_drewN | apply below_drew1) | exact HB.out))) : w.heap.size ≤ gb181)); have n3_ := Aside0.mk ((by rw [hg]; exact (below_size (by repeat (first | (with_reducible first | exact HB.out | apply below_alloc | apply pw_below_drewN | apply below_drew1) | exact HB.out))) : w.heap.size ≤ gb181)); clear HB; have HB := n0_; have BK181 := n1_; have GW181 := n2_; have GE181 := n3_; clear n0_ n1_ n2_ n3_; clear hb hbox hg; have hcz11_0 : w10.cell? ⟨gb181, 0, none⟩ = some (.int .u8 a0_0) := (blk_cell BK181.out 0).trans rfl; have hcz11_1 : w10.cell? ⟨gb181, 1, none⟩ = some (.string a0_1) := (blk_cell BK181.out 1).trans rfl; have hcz11_2 : w10.cell? ⟨gb181, 2, none⟩ = some (.string a0_2) := (blk_cell BK181.out 2).trans rfl; have hfz11_0 := blk_frozen BK181.out 0; have hfz11_1 := blk_frozen BK181.out 1; have hfz11_2 := blk_frozen BK181.out 2))
          go_ret
          exact ⟨by first | rfl | (simp [errW_none, errW_some] <;> rfl) | (simp [*, errW_none, errW_some] <;> rfl), by repeat (first | (with_reducible first | exact HB.out | apply below_alloc | apply pw_below_drewN | apply below_drew1 | refine below_set ?_ GE181.out) | exact HB.out)⟩
        · rw [if_neg c9] at H
          have c9b0 : decide ((a0_2.size : Int) ≤ 256) = false := decide_eq_false c9
          have c9b1 : decide (a0_2.size ≤ 256) = false := decide_eq_false (by omega)
          clear c9
          by_cases c12 : a0_0 = 0
          · rw [if_pos c12] at H
            have c12b0 : (a0_0 == 0) = true := beq_iff_eq.mpr c12
            have c12b1 : (a0_0 != 0) = false := bne_eq_false_iff_eq.mpr c12
            clear c12
            obtain rfl := Option.some.inj H
            go_enter Try.func46, Try.ntmps46
            go_wp2_with (first | ((with_reducible refine gate_dst (N := 1) rfl ?_); (try (refine gate_guard (by rfl) ?_; dsimp only)); refine box_event ?hg (N := 1) ?hd (cs := #[.int .u8 a0_0, .string a0_1, .string a0_2]) (t := 36) ?hr ?_; (case hd => rfl); (case hg => rfl); (case hr => first | (go_simp; done) | (go_simp; rfl)); intro gb181 hg w13 hbox hb; have n0_ := Aside0.mk (below_step (by repeat (first | (with_reducible first | exact HB.out | apply below_alloc | apply pw_below_drewN | apply below_drew1) | exact HB.out)) hb); have n1_ := Aside0.mk (hbox); have n2_ := Aside0.mk ((by rw [hg]; exact (below_size (by repeat (first | (with_reducible first | exact HB.out | apply below_alloc | apply pw_below_drewN | apply below_drew1) | exact HB.out))) : w.heap.size ≤ gb181)); have n3_ := Aside0.mk ((by rw [hg]; exact (below_size (by repeat (first | (with_reducible first | exact HB.out | apply below_alloc | apply pw_below_drewN | apply below_drew1) | exact HB.out))) : w.heap.size ≤ gb181)); clear HB; have HB := n0_; have BK181 := n1_; have GW181 := n2_; have GE181 := n3_; clear n0_ n1_ n2_ n3_; clear hb hbox hg; have hcz14_0 : w13.cell? ⟨gb181, 0, none⟩ = some (.int .u8 a0_0) := (blk_cell BK181.out 0).trans rfl; have hcz14_1 : w13.cell? ⟨gb181, 1, none⟩ = some (.string a0_1) := (blk_cell BK181.out 1).trans rfl; have hcz14_2 : w13.cell? ⟨gb181, 2, none⟩ = some (.string a0_2) := (blk_cell BK181.out 2).trans rfl; have hfz14_0 := blk_frozen BK181.out 0; have hfz14_1 := blk_frozen BK181.out 1; have hfz14_2 := blk_frozen BK181.out 2))
            go_ret
            exact ⟨by first | rfl | (simp [errW_none, errW_some] <;> rfl) | (simp [*, errW_none, errW_some] <;> rfl), by repeat (first | (with_reducible first | exact HB.out | apply below_alloc | apply pw_below_drewN | apply below_drew1 | refine below_set ?_ GE181.out) | exact HB.out)⟩
          · rw [if_neg c12] at H
            have c12b0 : (a0_0 == 0) = false := beq_eq_false_iff_ne.mpr c12
            have c12b1 : (a0_0 != 0) = true := bne_iff_ne.mpr c12
            obtain rfl := Option.some.inj H
            go_enter Try.func46, Try.ntmps46
            go_wp2_with (first | ((with_reducible refine gate_dst (N := 1) rfl ?_); (try (refine gate_guard (by rfl) ?_; dsimp only)); refine box_event ?hg (N := 1) ?hd (cs := #[.int .u8 a0_0, .string a0_1, .string a0_2]) (t := 36) ?hr ?_; (case hd => rfl); (case hg => rfl); (case hr => first | (go_simp; done) | (go_simp; rfl)); intro gb181 hg w15 hbox hb; have n0_ := Aside0.mk (below_step (by repeat (first | (with_reducible first | exact HB.out | apply below_alloc | apply pw_below_drewN | apply below_drew1) | exact HB.out)) hb); have n1_ := Aside0.mk (hbox); have n2_ := Aside0.mk ((by rw [hg]; exact (below_size (by repeat (first | (with_reducible first | exact HB.out | apply below_alloc | apply pw_below_drewN | apply below_drew1) | exact HB.out))) : w.heap.size ≤ gb181)); have n3_ := Aside0.mk ((by rw [hg]; exact (below_size (by repeat (first | (with_reducible first | exact HB.out | apply below_alloc | apply pw_below_drewN | apply below_drew1) | exact HB.out))) : w.heap.size ≤ gb181)); clear HB; have HB := n0_; have BK181 := n1_; have GW181 := n2_; have GE181 := n3_; clear n0_ n1_ n2_ n3_; clear hb hbox hg; have hcz16_0 : w15.cell? ⟨gb181, 0, none⟩ = some (.int .u8 a0_0) := (blk_cell BK181.out 0).trans rfl; have hcz16_1 : w15.cell? ⟨gb181, 1, none⟩ = some (.string a0_1) := (blk_cell BK181.out 1).trans rfl; have hcz16_2 : w15.cell? ⟨gb181, 2, none⟩ = some (.string a0_2) := (blk_cell BK181.out 2).trans rfl; have hfz16_0 := blk_frozen BK181.out 0; have hfz16_1 := blk_frozen BK181.out 1; have hfz16_2 := blk_frozen BK181.out 2))
            go_ret
            exact ⟨by first | rfl | (simp [errW_none, errW_some] <;> rfl) | (simp [*, errW_none, errW_some] <;> rfl), by repeat (first | (with_reducible first | exact HB.out | apply below_alloc | apply pw_below_drewN | apply below_drew1 | refine below_set ?_ GE181.out) | exact HB.out)⟩
      · rw [if_neg c8] at H
        have c8b0 : (a0_0 == 1) = false := beq_eq_false_iff_ne.mpr c8
        have c8b1 : (a0_0 != 1) = true := bne_iff_ne.mpr c8
        by_cases c17 : a0_0 = 0
        · rw [if_pos c17] at H
          have c17b0 : (a0_0 == 0) = true := beq_iff_eq.mpr c17
          have c17b1 : (a0_0 != 0) = false := bne_eq_false_iff_eq.mpr c17
          clear c17
          obtain rfl := Option.some.inj H
          go_enter Try.func46, Try.ntmps46
          go_wp2_with (first | ((with_reducible refine gate_dst (N := 1) rfl ?_); (try (refine gate_guard (by rfl) ?_; dsimp only)); refine box_event ?hg (N := 1) ?hd (cs := #[.int .u8 a0_0, .string a0_1, .string a0_2]) (t := 36) ?hr ?_; (case hd => rfl); (case hg => rfl); (case hr => first | (go_simp; done) | (go_simp; rfl)); intro gb181 hg w18 hbox hb; have n0_ := Aside0.mk (below_step (by repeat (first | (with_reducible first | exact HB.out | apply below_alloc | apply pw_below_drewN | apply below_drew1) | exact HB.out)) hb); have n1_ := Aside0.mk (hbox); have n2_ := Aside0.mk ((by rw [hg]; exact (below_size (by repeat (first | (with_reducible first | exact HB.out | apply below_alloc | apply pw_below_drewN | apply below_drew1) | exact HB.out))) : w.heap.size ≤ gb181)); have n3_ := Aside0.mk ((by rw [hg]; exact (below_size (by repeat (first | (with_reducible first | exact HB.out | apply below_alloc | apply pw_below_drewN | apply below_drew1) | exact HB.out))) : w.heap.size ≤ gb181)); clear HB; have HB := n0_; have BK181 := n1_; have GW181 := n2_; have GE181 := n3_; clear n0_ n1_ n2_ n3_; clear hb hbox hg; have hcz19_0 : w18.cell? ⟨gb181, 0, none⟩ = some (.int .u8 a0_0) := (blk_cell BK181.out 0).trans rfl; have hcz19_1 : w18.cell? ⟨gb181, 1, none⟩ = some (.string a0_1) := (blk_cell BK181.out 1).trans rfl; have hcz19_2 : w18.cell? ⟨gb181, 2, none⟩ = some (.string a0_2) := (blk_cell BK181.out 2).trans rfl; have hfz19_0 := blk_frozen BK181.out 0; have hfz19_1 := blk_frozen BK181.out 1; have hfz19_2 := blk_frozen BK181.out 2))
          go_ret
          exact ⟨by first | rfl | (simp [errW_none, errW_some] <;> rfl) | (simp [*, errW_none, errW_some] <;> rfl), by repeat (first | (with_reducible first | exact HB.out | apply below_alloc | apply pw_below_drewN | apply below_drew1 | refine below_set ?_ GE181.out) | exact HB.out)⟩
        · rw [if_neg c17] at H
          have c17b0 : (a0_0 == 0) = false := beq_eq_false_iff_ne.mpr c17
          have c17b1 : (a0_0 != 0) = true := bne_iff_ne.mpr c17
          obtain rfl := Option.some.inj H
          go_enter Try.func46, Try.ntmps46
          go_wp2_with (first | ((with_reducible refine gate_dst (N := 1) rfl ?_); (try (refine gate_guard (by rfl) ?_; dsimp only)); refine box_event ?hg (N := 1) ?hd (cs := #[.int .u8 a0_0, .string a0_1, .string a0_2]) (t := 36) ?hr ?_; (case hd => rfl); (case hg => rfl); (case hr => first | (go_simp; done) | (go_simp; rfl)); intro gb181 hg w20 hbox hb; have n0_ := Aside0.mk (below_step (by repeat (first | (with_reducible first | exact HB.out | apply below_alloc | apply pw_below_drewN | apply below_drew1) | exact HB.out)) hb); have n1_ := Aside0.mk (hbox); have n2_ := Aside0.mk ((by rw [hg]; exact (below_size (by repeat (first | (with_reducible first | exact HB.out | apply below_alloc | apply pw_below_drewN | apply below_drew1) | exact HB.out))) : w.heap.size ≤ gb181)); have n3_ := Aside0.mk ((by rw [hg]; exact (below_size (by repeat (first | (with_reducible first | exact HB.out | apply below_alloc | apply pw_below_drewN | apply below_drew1) | exact HB.out))) : w.heap.size ≤ gb181)); clear HB; have HB := n0_; have BK181 := n1_; have GW181 := n2_; have GE181 := n3_; clear n0_ n1_ n2_ n3_; clear hb hbox hg; have hcz21_0 : w20.cell? ⟨gb181, 0, none⟩ = some (.int .u8 a0_0) := (blk_cell BK181.out 0).trans rfl; have hcz21_1 : w20.cell? ⟨gb181, 1, none⟩ = some (.string a0_1) := (blk_cell BK181.out 1).trans rfl; have hcz21_2 : w20.cell? ⟨gb181, 2, none⟩ = some (.string a0_2) := (blk_cell BK181.out 2).trans rfl; have hfz21_0 := blk_frozen BK181.out 0; have hfz21_1 := blk_frozen BK181.out 1; have hfz21_2 := blk_frozen BK181.out 2))
          go_ret
          exact ⟨by first | rfl | (simp [errW_none, errW_some] <;> rfl) | (simp [*, errW_none, errW_some] <;> rfl), by repeat (first | (with_reducible first | exact HB.out | apply below_alloc | apply pw_below_drewN | apply below_drew1 | refine below_set ?_ GE181.out) | exact HB.out)⟩

end Go.Proofs.Ytkncjpafehnmnaa.P

end

section
namespace Go.Proofs.Ytkncjpafehnmnaa.P
open Go.RowKit Go.Proofs.YtkncjpafehnmnaaG Go.Proofs.YtkncjpafehnmnaaW.PrintWords Go.Proofs.YtkncjpafehnmnaaW.PrintLast Go.Proofs.YtkncjpafehnmnaaW.PrintMore
attribute [local go_sem] str_gtr str_geq str_leq max2_int min2_int max_two min_two max_three min_three max_four min_four   -- for this text's walks alone
set_option linter.unusedVariables false
set_option linter.unusedSimpArgs false

mutual
def ratlineref12_one.l0 : Nat → List (S39) → List (S39) → Bool → Int → Int → ByteArray → ByteArray → Option ((List (S39)))
  | 0, _, _, _, _, _, _, _ => none
  | k + 1, x0, x5, x6, x7, x183000, x183001, x183002 => if x7 < (x0.length : Int) then (if x6 = true then (ratlineref12_one.j1 k x0 x5 x6 x7 false x183000 x183001 x183002) else (if 0 ≤ x7 then (ratlineref12_one.j1 k x0 x5 x6 x7 (!(Op.bytesLess (((rd_T39 x0 x7).f0).toList) x183001.toList)) x183000 x183001 x183002) else (none))) else (if x6 = true then (some x5) else (if x5.length < 4398046511104 then (some (x5 ++ [(⟨x183001, x183002⟩ : S39)])) else (none)))
def ratlineref12_one.j1 : Nat → List (S39) → List (S39) → Bool → Int → Bool → Int → ByteArray → ByteArray → Option ((List (S39)))
  | 0, _, _, _, _, _, _, _, _ => none
  | k + 1, x0, x5, x6, x7, x28, x183000, x183001, x183002 => if x28 = true then (if x5.length < 4398046511104 then ((some (x5 ++ [(⟨x183001, x183002⟩ : S39)] : List (S39))).bind fun y187 => (if 0 ≤ x7 then (if x7 < (x0.length : Int) then (if ((rd_T39 x0 x7).f0).toList = x183001.toList then (ratlineref12_one.l0 k x0 y187 true (wrap64 (x7 + 1)) x183000 x183001 x183002) else (if y187.length < 4398046511104 then (ratlineref12_one.l0 k x0 (y187 ++ [(⟨(rd_T39 x0 x7).f0, (rd_T39 x0 x7).f1⟩ : S39)]) true (wrap64 (x7 + 1)) x183000 x183001 x183002) else (none))) else (none)) else (none))) else (none)) else (if 0 ≤ x7 then (if x7 < (x0.length : Int) then (if ((rd_T39 x0 x7).f0).toList = x183001.toList then (ratlineref12_one.l0 k x0 x5 x6 (wrap64 (x7 + 1)) x183000 x183001 x183002) else (if x5.length < 4398046511104 then (ratlineref12_one.l0 k x0 (x5 ++ [(⟨(rd_T39 x0 x7).f0, (rd_T39 x0 x7).f1⟩ : S39)]) x6 (wrap64 (x7 + 1)) x183000 x183001 x183002) else (none))) else (none)) else (none))
end
def ratlineref12_one.f (k : Nat) (l0 : List (S39)) (a1_0 : Int) (a1_1 : ByteArray) (a1_2 : ByteArray) : Option ((List (S39))) := ratlineref12_one.l0 k l0 ([] : List (S39)) (a1_0 == 0) 0 a1_0 a1_1 a1_2
set_option maxHeartbeats 8000000 in
set_option maxRecDepth 100000 in
theorem ratlineref12_one.calls (k : Nat) (A0 : Option Addr) (c0 : Nat) (l0 : List (S39)) (a1_0 : Int) (a1_1 : ByteArray) (a1_2 : ByteArray) (r : List (S39)) (w : World) (hr0 : Kd.C k39 w A0 l0.length l0) (hc0 : l0.length ≤ c0) (h : ratlineref12_one.f k l0 a1_0 a1_1 a1_2 = some r) :
    Calls Try.prog 47 #[.slice A0 l0.length c0, .agg #[.int .u8 a1_0, .string a1_1, .string a1_2]] w fun e w' => ∃ v0_ : Value, e = .returned (v0_) ∧ Kd.R k39 39 w' w.heap.size (fun _ => True) v0_ r ∧ Below w.heap.size w w' := by
  have hu36 := Try.underlying36
  have hu39 := Try.underlying39
  have HR0 := Aside0.mk hr0
  have HC0 := Aside0.mk hc0
  clear hr0 hc0
  have HB := Aside0.mk (Below.refl w.heap.size w)
  have H : (ratlineref12_one.l0 k l0 ([] : List (S39)) (a1_0 == 0) 0 a1_0 a1_1 a1_2) = some r := h
  clear h
  have H' := Aside0.mk H
  clear H
  go_enter Try.func47, Try.ntmps47
  go_wp2_with (first | ((with_reducible refine gate_dst (N := 3) rfl ?_); refine box_event ?hg (N := 3) ?hd (cs := #[.int .u8 a1_0, .string a1_1, .string a1_2]) (t := 36) ?hr ?_; (case hd => rfl); (case hg => rfl); (case hr => first | (go_simp; done) | (go_simp; rfl)); intro gb182 hg w3 hbox hb; have n0_ := Aside0.mk (below_step (by repeat (first | (with_reducible first | exact HB.out | apply below_alloc | apply pw_below_drewN | apply below_drew1) | exact HB.out)) hb); have n1_ := Aside0.mk (hbox); have n2_ := Aside0.mk ((by rw [hg]; exact (below_size (by repeat (first | (with_reducible first | exact HB.out | apply below_alloc | apply pw_below_drewN | apply below_drew1) | exact HB.out))) : w.heap.size ≤ gb182)); have n3_ := Aside0.mk ((by rw [hg]; exact (below_size (by repeat (first | (with_reducible first | exact HB.out | apply below_alloc | apply pw_below_drewN | apply below_drew1) | exact HB.out))) : w.heap.size ≤ gb182)); clear HB; have HB := n0_; have BK182 := n1_; have GW182 := n2_; have GE182 := n3_; clear n0_ n1_ n2_ n3_; clear hb hbox hg; have hcz4_0 : w3.cell? ⟨gb182, 0, none⟩ = some (.int .u8 a1_0) := (blk_cell BK182.out 0).trans rfl; have hcz4_1 : w3.cell? ⟨gb182, 1, none⟩ = some (.string a1_1) := (blk_cell BK182.out 1).trans rfl; have hcz4_2 : w3.cell? ⟨gb182, 2, none⟩ = some (.string a1_2) := (blk_cell BK182.out 2).trans rfl; have hfz4_0 := blk_frozen BK182.out 0; have hfz4_1 := blk_frozen BK182.out 1; have hfz4_2 := blk_frozen BK182.out 2))
  repeat (go_quiet (first | ((with_reducible refine gate_dst (N := 3) rfl ?_); refine box_event ?hg (N := 3) ?hd (cs := #[.int .u8 a1_0, .string a1_1, .string a1_2]) (t := 36) ?hr ?_; (case hd => rfl); (case hg => rfl); (case hr => first | (go_simp; done) | (go_simp; rfl)); intro gb182 hg w3 hbox hb; have n0_ := Aside0.mk (below_step (by repeat (first | (with_reducible first | exact HB.out | apply below_alloc | apply pw_below_drewN | apply below_drew1) | exact HB.out)) hb); have n1_ := Aside0.mk (hbox); have n2_ := Aside0.mk ((by rw [hg]; exact (below_size (by repeat (first | (with_reducible first | exact HB.out | apply below_alloc | apply pw_below_drewN | apply below_drew1) | exact HB.out))) : w.heap.size ≤ gb182)); have n3_ := Aside0.mk ((by rw [hg]; exact (below_size (by repeat (first | (with_reducible first | exact HB.out | apply below_alloc | apply pw_below_drewN | apply below_drew1) | exact HB.out))) : w.heap.size ≤ gb182)); clear HB; have HB := n0_; have BK182 := n1_; have GW182 := n2_; have GE182 := n3_; clear n0_ n1_ n2_ n3_; clear hb hbox hg; have hcz4_0 : w3.cell? ⟨gb182, 0, none⟩ = some (.int .u8 a1_0) := (blk_cell BK182.out 0).trans rfl; have hcz4_1 : w3.cell? ⟨gb182, 1, none⟩ = some (.string a1_1) := (blk_cell BK182.out 1).trans rfl; have hcz4_2 : w3.cell? ⟨gb182, 2, none⟩ = some (.string a1_2) := (blk_cell BK182.out 2).trans rfl; have hfz4_0 := blk_frozen BK182.out 0; have hfz4_1 := blk_frozen BK182.out 1; have hfz4_2 := blk_frozen BK182.out 2)); try go_wp2_with (first | ((with_reducible refine gate_dst (N := 3) rfl ?_); refine box_event ?hg (N := 3) ?hd (cs := #[.int .u8 a1_0, .string a1_1, .string a1_2]) (t := 36) ?hr ?_; (case hd => rfl); (case hg => rfl); (case hr => first | (go_simp; done) | (go_simp; rfl)); intro gb182 hg w3 hbox hb; have n0_ := Aside0.mk (below_step (by repeat (first | (with_reducible first | exact HB.out | apply below_alloc | apply pw_below_drewN | apply below_drew1) | exact HB.out)) hb); have n1_ := Aside0.mk (hbox); have n2_ := Aside0.mk ((by rw [hg]; exact (below_size (by repeat (first | (with_reducible first | exact HB.out | apply below_alloc | apply pw_below_drewN | apply below_drew1) | exact HB.out))) : w.heap.size ≤ gb182)); have n3_ := Aside0.mk ((by rw [hg]; exact (below_size (by repeat (first | (with_reducible first | exact HB.out | apply below_alloc | apply pw_below_drewN | apply below_drew1) | exact HB.out))) : w.heap.size ≤ gb182)); clear HB; have HB := n0_; have BK182 := n1_; have GW182 := n2_; have GE182 := n3_; clear n0_ n1_ n2_ n3_; clear hb hbox hg; have hcz4_0 : w3.cell? ⟨gb182, 0, none⟩ = some (.int .u8 a1_0) := (blk_cell BK182.out 0).trans rfl; have hcz4_1 : w3.cell? ⟨gb182, 1, none⟩ = some (.string a1_1) := (blk_cell BK182.out 1).trans rfl; have hcz4_2 : w3.cell? ⟨gb182, 2, none⟩ = some (.string a1_2) := (blk_cell BK182.out 2).trans rfl; have hfz4_0 := blk_frozen BK182.out 0; have hfz4_1 := blk_frozen BK182.out 1; have hfz4_2 := blk_frozen BK182.out 2)))
  go_loopg [5, 6, 7] k (fun kq v5 v6 v7 w' => ∃ (x5_1 : List (S39)) (x6_1 : Bool) (x7_1 : Int), v6 = .bool x6_1 ∧ v7 = .int .i64 x7_1 ∧ Aside0 (ratlineref12_one.l0 kq l0 x5_1 x6_1 x7_1 a1_0 a1_1 a1_2 = some r) ∧ Aside0 (kq ≤ k) ∧ Aside0 (Kd.R k39 39 w' w.heap.size (fun _ => True) v5 x5_1) ∧ Aside0 (w'.heap[gb182]? = some (.cells #[.int .u8 a1_0, .string a1_1, .string a1_2] 36 (0, 0))) ∧ Aside0 (Below w.heap.size w w'))
  case atStart => exact ⟨(([] : List (S39))), ((a1_0 == 0)), (0), (by first | rfl | (simp; done) | (simp [*]; done)), (by first | rfl | (simp; done) | (simp [*]; done)), H', ⟨Nat.le_refl _⟩, ⟨by first | exact Kd.R_nil _ _ _ _ _ | exact Kd.N_nil _ _ _ _ _ | exact Kd.V_nil _ _ _ _ _ | exact Kd.Q_nil _ _ _ _ _ | exact Kd.S_nil _ _ _ _ _⟩, ⟨by (with_reducible repeat (first | refine blk_drewN ?_ _ | refine blk_drew ?_ | refine blk_alloc ?_ _)); exact BK182.out⟩, ⟨by repeat (first | (with_reducible first | exact HB.out | apply below_alloc | apply pw_below_drewN | apply below_drew1 | refine below_set ?_ GE182.out) | exact HB.out)⟩⟩
  case round =>
    clear H'
    try clear p2
    try clear c4
    try clear hcz4_0
    try clear hcz4_1
    try clear hcz4_2
    try clear hfz4_0
    try clear hfz4_1
    try clear hfz4_2
    obtain ⟨x5_1, x6_1, x7_1, rfl, rfl, HA, HK1, HO_5, BK182, HB⟩ := hrel
    cases gk with
    | zero => exact absurd HA.out (by simp [ratlineref12_one.l0])
    | succ k1 =>
      have H := HA.out
      clear HA
      simp only [ratlineref12_one.l0] at H
      by_cases c5 : x7_1 < (l0.length : Int)
      · rw [if_pos c5] at H
        have c5b0 : decide (x7_1 < (l0.length : Int)) = true := decide_eq_true c5
        clear c5
        have HC6 := Aside0.mk H
        clear H
        go_upto_region 6 with (fail)
        repeat (go_quiet (fail); go_upto_region 6 with (fail))
        go_cut [28] (fun v28 wc => ∃ (kq : Nat) (x28_5 : Bool), v28 = .bool x28_5 ∧ Aside0 (ratlineref12_one.j1 kq l0 x5_1 x6_1 x7_1 x28_5 a1_0 a1_1 a1_2 = some r) ∧ Aside0 (kq ≤ k1) ∧ Aside0 (Kd.R k39 39 wc w.heap.size (fun _ => True) u5 x5_1) ∧ Aside0 (wc.heap[gb182]? = some (.cells #[.int .u8 a1_0, .string a1_1, .string a1_2] 36 (0, 0))) ∧ Aside0 (Below w.heap.size w wc))
        case first =>
          have H := HC6.out
          clear HC6
          by_cases c7 : x6_1 = true
          · subst c7
            have H1 : (ratlineref12_one.j1 k1 l0 x5_1 true x7_1 false a1_0 a1_1 a1_2) = some r := by rw [if_pos rfl] at H; exact H
            clear H
            have H := H1
            clear H1
            have H' := Aside0.mk H
            clear H
            go_wp2
            repeat (go_quiet (fail); try go_wp2)
            go_meet
            case rel => exact ⟨_, (false), (by first | rfl | (simp; done) | (simp [*]; done)), H', ⟨by have := HK1.out; first | omega | exact Nat.le_refl _⟩, ⟨by (with_reducible repeat (first | apply Kd.R_alloc | apply Kd.R_drewN | apply Kd.R_drew)); exact HO_5.out⟩, ⟨by (with_reducible repeat (first | refine blk_drewN ?_ _ | refine blk_drew ?_ | refine blk_alloc ?_ _)); exact BK182.out⟩, ⟨by repeat (first | (with_reducible first | exact HB.out | apply below_alloc | apply pw_below_drewN | apply below_drew1 | refine below_set ?_ GE182.out) | exact HB.out)⟩⟩
          · replace c7 := Bool.eq_false_iff.mpr c7
            subst c7
            have H1 : (if 0 ≤ x7_1 then (ratlineref12_one.j1 k1 l0 x5_1 false x7_1 (!(Op.bytesLess (((rd_T39 l0 x7_1).f0).toList) a1_1.toList)) a1_0 a1_1 a1_2) else (none)) = some r := by rw [if_neg (show ¬ (false = true) by decide)] at H; exact H
            clear H
            have H := H1
            clear H1
            by_cases c8 : 0 ≤ x7_1
            · rw [if_pos c8] at H
              have c8b0 : decide (0 ≤ x7_1) = true := decide_eq_true c8
              clear c8
              (first | rw [c8b0] | (simp only [i64_w, i32_w]; rw [c8b0]) | skip)
              have H' := Aside0.mk H
              clear H
              have p186 : 0 ≤ (x7_1 : Int) := of_decide_eq_true (by first | (with_reducible assumption) | assumption)
              have q186 : x7_1 < (l0.length : Int) := of_decide_eq_true (by first | (with_reducible assumption) | assumption)
              obtain ⟨ad186, e186, hx186_0, hx186_1⟩ := at_T39 HR0.out x7_1 p186 q186
              cases e186
              replace hx186_0 := (HB.out.cell (World.block_lt_of_cell? w _ hx186_0)).trans hx186_0
              replace hx186_1 := (HB.out.cell (World.block_lt_of_cell? w _ hx186_1)).trans hx186_1
              replace p186 := eq_true p186
              replace q186 := eq_true q186
              have hcz9_0 : wr.cell? ⟨gb182, 0, none⟩ = some (.int .u8 a1_0) := (blk_cell BK182.out 0).trans rfl
              have hcz9_1 : wr.cell? ⟨gb182, 1, none⟩ = some (.string a1_1) := (blk_cell BK182.out 1).trans rfl
              have hcz9_2 : wr.cell? ⟨gb182, 2, none⟩ = some (.string a1_2) := (blk_cell BK182.out 2).trans rfl
              have hfz9_0 := blk_frozen BK182.out 0
              have hfz9_1 := blk_frozen BK182.out 1
              have hfz9_2 := blk_frozen BK182.out 2
              go_wp2
              repeat (go_quiet (fail); try go_wp2)
              go_meet
              case rel => exact ⟨_, (!(Op.bytesLess (((rd_T39 l0 x7_1).f0).toList) a1_1.toList)), (by first | rfl | (simp; done) | (simp [*]; done)), H', ⟨by have := HK1.out; first | omega | exact Nat.le_refl _⟩, ⟨by (with_reducible repeat (first | apply Kd.R_alloc | apply Kd.R_drewN | apply Kd.R_drew)); exact HO_5.out⟩, ⟨by (with_reducible repeat (first | refine blk_drewN ?_ _ | refine blk_drew ?_ | refine blk_alloc ?_ _)); exact BK182.out⟩, ⟨by repeat (first | (with_reducible first | exact HB.out | apply below_alloc | apply pw_below_drewN | apply below_drew1 | refine below_set ?_ GE182.out) | exact HB.out)⟩⟩
            · rw [if_neg c8] at H
              exact absurd H (by simp)
        case rest =>
          clear HC6
          try clear p1
          try clear q1
          try clear hx1
          try clear p2
          try clear c4
          try clear c5
          try clear c5b0
          try clear c7
          try clear c8
          try clear c8b0
          try clear hcz4_0
          try clear hcz4_1
          try clear hcz4_2
          try clear hcz9_0
          try clear hcz9_1
          try clear hcz9_2
          try clear hfz4_0
          try clear hfz4_1
          try clear hfz4_2
          try clear hfz9_0
          try clear hfz9_1
          try clear hfz9_2
          try clear hx186_0
          try clear hx186_1
          try clear p186
          try clear p2
          try clear q186
          obtain ⟨kq, x28_5, rfl, HA, HJ5, HO_5, BK182, HB⟩ := hcut
          cases kq with
          | zero => exact absurd HA.out (by simp [ratlineref12_one.j1])
          | succ kj5 =>
            have H := HA.out
            clear HA
            simp only [ratlineref12_one.j1] at H
            by_cases c10 : x28_5 = true
            · subst c10
              have H1 : (if x5_1.length < 4398046511104 then ((some (x5_1 ++ [(⟨a1_1, a1_2⟩ : S39)] : List (S39))).bind fun y187 => (if 0 ≤ x7_1 then (if x7_1 < (l0.length : Int) then (if ((rd_T39 l0 x7_1).f0).toList = a1_1.toList then (ratlineref12_one.l0 kj5 l0 y187 true (wrap64 (x7_1 + 1)) a1_0 a1_1 a1_2) else (if y187.length < 4398046511104 then (ratlineref12_one.l0 kj5 l0 (y187 ++ [(⟨(rd_T39 l0 x7_1).f0, (rd_T39 l0 x7_1).f1⟩ : S39)]) true (wrap64 (x7_1 + 1)) a1_0 a1_1 a1_2) else (none))) else (none)) else (none))) else (none)) = some r := by rw [if_pos rfl] at H; exact H
              clear H
              have H := H1
              clear H1
              by_cases c11 : x5_1.length < 4398046511104
              · rw [if_pos c11] at H
                have LMc11 := Aside0.mk c11
                clear c11
                obtain ⟨y187, hy187⟩ : ∃ y_ : List (S39), y_ = (x5_1 ++ [(⟨a1_1, a1_2⟩ : S39)]) := ⟨_, rfl⟩
                replace H : (if 0 ≤ x7_1 then (if x7_1 < (l0.length : Int) then (if ((rd_T39 l0 x7_1).f0).toList = a1_1.toList then (ratlineref12_one.l0 kj5 l0 y187 true (wrap64 (x7_1 + 1)) a1_0 a1_1 a1_2) else (if y187.length < 4398046511104 then (ratlineref12_one.l0 kj5 l0 (y187 ++ [(⟨(rd_T39 l0 x7_1).f0, (rd_T39 l0 x7_1).f1⟩ : S39)]) true (wrap64 (x7_1 + 1)) a1_0 a1_1 a1_2) else (none))) else (none)) else (none)) = some r := by first | (rw [hy187]; with_reducible exact H) | (have H2_ := (Option.bind_some _ _).symm.trans H; rw [hy187]; with_reducible exact H2_) | (have H2_ := (Option.bind_some _ _).symm.trans H; with_reducible exact H2_) | with_reducible exact H | (rw [hy187]; exact H) | exact H
                have Ny187 := Aside0.mk hy187
                clear hy187
                by_cases c12 : 0 ≤ x7_1
                · rw [if_pos c12] at H
                  have c12b0 : decide (0 ≤ x7_1) = true := decide_eq_true c12
                  clear c12
                  by_cases c13 : x7_1 < (l0.length : Int)
                  · rw [if_pos c13] at H
                    have c13b0 : decide (x7_1 < (l0.length : Int)) = true := decide_eq_true c13
                    clear c13
                    by_cases c14 : ((rd_T39 l0 x7_1).f0).toList = a1_1.toList
                    · rw [if_pos c14] at H
                      have c14b0 : (((rd_T39 l0 x7_1).f0).toList == a1_1.toList) = true := beq_iff_eq.mpr c14
                      have c14b1 : (((rd_T39 l0 x7_1).f0).toList != a1_1.toList) = false := bne_eq_false_iff_eq.mpr c14
                      clear c14
                      have H' := Aside0.mk H
                      clear H
                      have hcz15_0 : wc.cell? ⟨gb182, 0, none⟩ = some (.int .u8 a1_0) := (blk_cell BK182.out 0).trans rfl
                      have hcz15_1 : wc.cell? ⟨gb182, 1, none⟩ = some (.string a1_1) := (blk_cell BK182.out 1).trans rfl
                      have hcz15_2 : wc.cell? ⟨gb182, 2, none⟩ = some (.string a1_2) := (blk_cell BK182.out 2).trans rfl
                      have hfz15_0 := blk_frozen BK182.out 0
                      have hfz15_1 := blk_frozen BK182.out 1
                      have hfz15_2 := blk_frozen BK182.out 2
                      go_wp2_with (first | ((with_reducible refine gate_builtin (b := .append) (xs := #[.tmp 29, .tmp 35]) rfl ?_); at_builtin; refine Kd.R_append k39 (w0 := w) w.heap.size rfl (.tmp 29) (.tmp 35) 22 39 (.agg #[(.string ⟨#[]⟩), (.string ⟨#[]⟩)]) 32 rfl Try.underlying22 info39 rfl (by decide) (by omega) u5 x5_1 (⟨a1_1, a1_2⟩ : S39) [.string a1_1, .string a1_2] (fun _ => True) (fun _ => False) rfl rfl ?aP (fun _ hk => hk.elim) ?aF ?aO ?aB ?aS ?aL ?_; (case aP => exact k39_mkM _ _ _ (⟨a1_1, a1_2⟩ : S39)); (case aB => exact (by repeat (first | (with_reducible first | exact HB.out | apply below_alloc | apply pw_below_drewN | apply below_drew1 | refine below_set ?_ GE182.out) | exact HB.out))); (case aF => exact (fun _ _ => trivial)); (case aO => exact (by (with_reducible repeat (first | apply Kd.R_alloc | apply Kd.R_drewN | apply Kd.R_drew)); exact HO_5.out)); (case aS => exact (below_size (by repeat (first | (with_reducible first | exact HB.out | apply below_alloc | apply pw_below_drewN | apply below_drew1 | refine below_set ?_ GE182.out) | exact HB.out)))); (case aL => have := LMc11.out; omega); intro v188 w16 ho hb hg hat; rw [← Ny187.out] at ho; have n0_ := Aside0.mk (blk_grown (g := gb182) (o := .cells #[.int .u8 a1_0, .string a1_1, .string a1_2] 36 (0, 0)) (by (with_reducible repeat (first | refine blk_drewN ?_ _ | refine blk_drew ?_ | refine blk_alloc ?_ _)); exact BK182.out) hg (Kd.R_ne HO_5.out BK182.out (by decide))); have n1_ := Aside0.mk (hb); have n2_ := Aside0.mk (ho); clear BK182; clear HB; clear HO_5; have BK182 := n0_; have HB := n1_; have HO189 := n2_; clear n0_ n1_ n2_; clear ho hb hg hat; have p190 : 0 ≤ (x7_1 : Int) := of_decide_eq_true (by first | (with_reducible assumption) | assumption); have q190 : x7_1 < (l0.length : Int) := of_decide_eq_true (by first | (with_reducible assumption) | assumption); obtain ⟨ad190, e190, hx190_0, hx190_1⟩ := at_T39 HR0.out x7_1 p190 q190; cases e190; replace hx190_0 := (HB.out.cell (World.block_lt_of_cell? w _ hx190_0)).trans hx190_0; replace hx190_1 := (HB.out.cell (World.block_lt_of_cell? w _ hx190_1)).trans hx190_1; replace p190 := eq_true p190; replace q190 := eq_true q190; have hcz17_0 : w16.cell? ⟨gb182, 0, none⟩ = some (.int .u8 a1_0) := (blk_cell BK182.out 0).trans rfl; have hcz17_1 : w16.cell? ⟨gb182, 1, none⟩ = some (.string a1_1) := (blk_cell BK182.out 1).trans rfl; have hcz17_2 : w16.cell? ⟨gb182, 2, none⟩ = some (.string a1_2) := (blk_cell BK182.out 2).trans rfl; have hfz17_0 := blk_frozen BK182.out 0; have hfz17_1 := blk_frozen BK182.out 1; have hfz17_2 := blk_frozen BK182.out 2))
                      repeat (go_quiet (first | ((with_reducible refine gate_builtin (b := .append) (xs := #[.tmp 29, .tmp 35]) rfl ?_); at_builtin; refine Kd.R_append k39 (w0 := w) w.heap.size rfl (.tmp 29) (.tmp 35) 22 39 (.agg #[(.string ⟨#[]⟩), (.string ⟨#[]⟩)]) 32 rfl Try.underlying22 info39 rfl (by decide) (by omega) u5 x5_1 (⟨a1_1, a1_2⟩ : S39) [.string a1_1, .string a1_2] (fun _ => True) (fun _ => False) rfl rfl ?aP (fun _ hk => hk.elim) ?aF ?aO ?aB ?aS ?aL ?_; (case aP => exact k39_mkM _ _ _ (⟨a1_1, a1_2⟩ : S39)); (case aB => exact (by repeat (first | (with_reducible first | exact HB.out | apply below_alloc | apply pw_below_drewN | apply below_drew1 | refine below_set ?_ GE182.out) | exact HB.out))); (case aF => exact (fun _ _ => trivial)); (case aO => exact (by (with_reducible repeat (first | apply Kd.R_alloc | apply Kd.R_drewN | apply Kd.R_drew)); exact HO_5.out)); (case aS => exact (below_size (by repeat (first | (with_reducible first | exact HB.out | apply below_alloc | apply pw_below_drewN | apply below_drew1 | refine below_set ?_ GE182.out) | exact HB.out)))); (case aL => have := LMc11.out; omega); intro v188 w16 ho hb hg hat; rw [← Ny187.out] at ho; have n0_ := Aside0.mk (blk_grown (g := gb182) (o := .cells #[.int .u8 a1_0, .string a1_1, .string a1_2] 36 (0, 0)) (by (with_reducible repeat (first | refine blk_drewN ?_ _ | refine blk_drew ?_ | refine blk_alloc ?_ _)); exact BK182.out) hg (Kd.R_ne HO_5.out BK182.out (by decide))); have n1_ := Aside0.mk (hb); have n2_ := Aside0.mk (ho); clear BK182; clear HB; clear HO_5; have BK182 := n0_; have HB := n1_; have HO189 := n2_; clear n0_ n1_ n2_; clear ho hb hg hat; have p190 : 0 ≤ (x7_1 : Int) := of_decide_eq_true (by first | (with_reducible assumption) | assumption); have q190 : x7_1 < (l0.length : Int) := of_decide_eq_true (by first | (with_reducible assumption) | assumption); obtain ⟨ad190, e190, hx190_0, hx190_1⟩ := at_T39 HR0.out x7_1 p190 q190; cases e190; replace hx190_0 := (HB.out.cell (World.block_lt_of_cell? w _ hx190_0)).trans hx190_0; replace hx190_1 := (HB.out.cell (World.block_lt_of_cell? w _ hx190_1)).trans hx190_1; replace p190 := eq_true p190; replace q190 := eq_true q190; have hcz17_0 : w16.cell? ⟨gb182, 0, none⟩ = some (.int .u8 a1_0) := (blk_cell BK182.out 0).trans rfl; have hcz17_1 : w16.cell? ⟨gb182, 1, none⟩ = some (.string a1_1) := (blk_cell BK182.out 1).trans rfl; have hcz17_2 : w16.cell? ⟨gb182, 2, none⟩ = some (.string a1_2) := (blk_cell BK182.out 2).trans rfl; have hfz17_0 := blk_frozen BK182.out 0; have hfz17_1 := blk_frozen BK182.out 1; have hfz17_2 := blk_frozen BK182.out 2)); try go_wp2_with (first | ((with_reducible refine gate_builtin (b := .append) (xs := #[.tmp 29, .tmp 35]) rfl ?_); at_builtin; refine Kd.R_append k39 (w0 := w) w.heap.size rfl (.tmp 29) (.tmp 35) 22 39 (.agg #[(.string ⟨#[]⟩), (.string ⟨#[]⟩)]) 32 rfl Try.underlying22 info39 rfl (by decide) (by omega) u5 x5_1 (⟨a1_1, a1_2⟩ : S39) [.string a1_1, .string a1_2] (fun _ => True) (fun _ => False) rfl rfl ?aP (fun _ hk => hk.elim) ?aF ?aO ?aB ?aS ?aL ?_; (case aP => exact k39_mkM _ _ _ (⟨a1_1, a1_2⟩ : S39)); (case aB => exact (by repeat (first | (with_reducible first | exact HB.out | apply below_alloc | apply pw_below_drewN | apply below_drew1 | refine below_set ?_ GE182.out) | exact HB.out))); (case aF => exact (fun _ _ => trivial)); (case aO => exact (by (with_reducible repeat (first | apply Kd.R_alloc | apply Kd.R_drewN | apply Kd.R_drew)); exact HO_5.out)); (case aS => exact (below_size (by repeat (first | (with_reducible first | exact HB.out | apply below_alloc | apply pw_below_drewN | apply below_drew1 | refine below_set ?_ GE182.out) | exact HB.out)))); (case aL => have := LMc11.out; omega); intro v188 w16 ho hb hg hat; rw [← Ny187.out] at ho; have n0_ := Aside0.mk (blk_grown (g := gb182) (o := .cells #[.int .u8 a1_0, .string a1_1, .string a1_2] 36 (0, 0)) (by (with_reducible repeat (first | refine blk_drewN ?_ _ | refine blk_drew ?_ | refine blk_alloc ?_ _)); exact BK182.out) hg (Kd.R_ne HO_5.out BK182.out (by decide))); have n1_ := Aside0.mk (hb); have n2_ := Aside0.mk (ho); clear BK182; clear HB; clear HO_5; have BK182 := n0_; have HB := n1_; have HO189 := n2_; clear n0_ n1_ n2_; clear ho hb hg hat; have p190 : 0 ≤ (x7_1 : Int) := of_decide_eq_true (by first | (with_reducible assumption) | assumption); have q190 : x7_1 < (l0.length : Int) := of_decide_eq_true (by first | (with_reducible assumption) | assumption); obtain ⟨ad190, e190, hx190_0, hx190_1⟩ := at_T39 HR0.out x7_1 p190 q190; cases e190; replace hx190_0 := (HB.out.cell (World.block_lt_of_cell? w _ hx190_0)).trans hx190_0; replace hx190_1 := (HB.out.cell (World.block_lt_of_cell? w _ hx190_1)).trans hx190_1; replace p190 := eq_true p190; replace q190 := eq_true q190; have hcz17_0 : w16.cell? ⟨gb182, 0, none⟩ = some (.int .u8 a1_0) := (blk_cell BK182.out 0).trans rfl; have hcz17_1 : w16.cell? ⟨gb182, 1, none⟩ = some (.string a1_1) := (blk_cell BK182.out 1).trans rfl; have hcz17_2 : w16.cell? ⟨gb182, 2, none⟩ = some (.string a1_2) := (blk_cell BK182.out 2).trans rfl; have hfz17_0 := blk_frozen BK182.out 0; have hfz17_1 := blk_frozen BK182.out 1; have hfz17_2 := blk_frozen BK182.out 2)))
                      go_roundg kj5
                      case measure => have := HK1.out; have := HJ5.out; omega
                      case rel => exact ⟨(y187), (true), (wrap64 (x7_1 + 1)), (by first | rfl | (simp; done) | (simp [*]; done)), (by first | rfl | (simp; done) | (simp [*]; done)), H', ⟨by have := HK1.out; have := HJ5.out; omega⟩, ⟨by (with_reducible repeat (first | apply Kd.R_alloc | apply Kd.R_drewN | apply Kd.R_drew)); exact HO189.out⟩, ⟨by (with_reducible repeat (first | refine blk_drewN ?_ _ | refine blk_drew ?_ | refine blk_alloc ?_ _)); exact BK182.out⟩, ⟨by repeat (first | (with_reducible first | exact HB.out | apply below_alloc | apply pw_below_drewN | apply below_drew1 | refine below_set ?_ GE182.out) | exact HB.out)⟩⟩
                    · rw [if_neg c14] at H
                      have c14b0 : (((rd_T39 l0 x7_1).f0).toList == a1_1.toList) = false := beq_eq_false_iff_ne.mpr c14
                      have c14b1 : (((rd_T39 l0 x7_1).f0).toList != a1_1.toList) = true := bne_iff_ne.mpr c14
                      by_cases c18 : y187.length < 4398046511104
                      · rw [if_pos c18] at H
                        have LMc18 := Aside0.mk c18
                        clear c18
                        obtain ⟨y192, hy192⟩ : ∃ y_ : List (S39), y_ = (y187 ++ [(⟨(rd_T39 l0 x7_1).f0, (rd_T39 l0 x7_1).f1⟩ : S39)]) := ⟨_, rfl⟩
                        replace H : (ratlineref12_one.l0 kj5 l0 y192 true (wrap64 (x7_1 + 1)) a1_0 a1_1 a1_2) = some r := by first | (rw [hy192]; with_reducible exact H) | (have H2_ := (Option.bind_some _ _).symm.trans H; rw [hy192]; with_reducible exact H2_) | (have H2_ := (Option.bind_some _ _).symm.trans H; with_reducible exact H2_) | with_reducible exact H | (rw [hy192]; exact H) | exact H
                        have Ny192 := Aside0.mk hy192
                        clear hy192
                        have H' := Aside0.mk H
                        clear H
                        have hcz19_0 : wc.cell? ⟨gb182, 0, none⟩ = some (.int .u8 a1_0) := (blk_cell BK182.out 0).trans rfl
                        have hcz19_1 : wc.cell? ⟨gb182, 1, none⟩ = some (.string a1_1) := (blk_cell BK182.out 1).trans rfl
                        have hcz19_2 : wc.cell? ⟨gb182, 2, none⟩ = some (.string a1_2) := (blk_cell BK182.out 2).trans rfl
                        have hfz19_0 := blk_frozen BK182.out 0
                        have hfz19_1 := blk_frozen BK182.out 1
                        have hfz19_2 := blk_frozen BK182.out 2
                        go_wp2_with (first | ((with_reducible refine gate_builtin (b := .append) (xs := #[.tmp 29, .tmp 35]) rfl ?_); at_builtin; refine Kd.R_append k39 (w0 := w) w.heap.size rfl (.tmp 29) (.tmp 35) 22 39 (.agg #[(.string ⟨#[]⟩), (.string ⟨#[]⟩)]) 32 rfl Try.underlying22 info39 rfl (by decide) (by omega) u5 x5_1 (⟨a1_1, a1_2⟩ : S39) [.string a1_1, .string a1_2] (fun _ => True) (fun _ => False) rfl rfl ?aP (fun _ hk => hk.elim) ?aF ?aO ?aB ?aS ?aL ?_; (case aP => exact k39_mkM _ _ _ (⟨a1_1, a1_2⟩ : S39)); (case aB => exact (by repeat (first | (with_reducible first | exact HB.out | apply below_alloc | apply pw_below_drewN | apply below_drew1 | refine below_set ?_ GE182.out) | exact HB.out))); (case aF => exact (fun _ _ => trivial)); (case aO => exact (by (with_reducible repeat (first | apply Kd.R_alloc | apply Kd.R_drewN | apply Kd.R_drew)); exact HO_5.out)); (case aS => exact (below_size (by repeat (first | (with_reducible first | exact HB.out | apply below_alloc | apply pw_below_drewN | apply below_drew1 | refine below_set ?_ GE182.out) | exact HB.out)))); (case aL => have := LMc11.out; omega); intro v188 w20 ho hb hg hat; rw [← Ny187.out] at ho; have n0_ := Aside0.mk (blk_grown (g := gb182) (o := .cells #[.int .u8 a1_0, .string a1_1, .string a1_2] 36 (0, 0)) (by (with_reducible repeat (first | refine blk_drewN ?_ _ | refine blk_drew ?_ | refine blk_alloc ?_ _)); exact BK182.out) hg (Kd.R_ne HO_5.out BK182.out (by decide))); have n1_ := Aside0.mk (hb); have n2_ := Aside0.mk (ho); clear BK182; clear HB; clear HO_5; have BK182 := n0_; have HB := n1_; have HO189 := n2_; clear n0_ n1_ n2_; clear ho hb hg hat; have p190 : 0 ≤ (x7_1 : Int) := of_decide_eq_true (by first | (with_reducible assumption) | assumption); have q190 : x7_1 < (l0.length : Int) := of_decide_eq_true (by first | (with_reducible assumption) | assumption); obtain ⟨ad190, e190, hx190_0, hx190_1⟩ := at_T39 HR0.out x7_1 p190 q190; cases e190; replace hx190_0 := (HB.out.cell (World.block_lt_of_cell? w _ hx190_0)).trans hx190_0; replace hx190_1 := (HB.out.cell (World.block_lt_of_cell? w _ hx190_1)).trans hx190_1; replace p190 := eq_true p190; replace q190 := eq_true q190; have hcz21_0 : w20.cell? ⟨gb182, 0, none⟩ = some (.int .u8 a1_0) := (blk_cell BK182.out 0).trans rfl; have hcz21_1 : w20.cell? ⟨gb182, 1, none⟩ = some (.string a1_1) := (blk_cell BK182.out 1).trans rfl; have hcz21_2 : w20.cell? ⟨gb182, 2, none⟩ = some (.string a1_2) := (blk_cell BK182.out 2).trans rfl; have hfz21_0 := blk_frozen BK182.out 0; have hfz21_1 := blk_frozen BK182.out 1; have hfz21_2 := blk_frozen BK182.out 2; have p191 : 0 ≤ (x7_1 : Int) := of_decide_eq_true (by first | (with_reducible assumption) | assumption); have q191 : x7_1 < (l0.length : Int) := of_decide_eq_true (by first | (with_reducible assumption) | assumption); obtain ⟨ad191, e191, hx191_0, hx191_1⟩ := at_T39 HR0.out x7_1 p191 q191; obtain rfl : ad190 = ad191 := (by injection e191); replace hx191_0 := (HB.out.cell (World.block_lt_of_cell? w _ hx191_0)).trans hx191_0; replace hx191_1 := (HB.out.cell (World.block_lt_of_cell? w _ hx191_1)).trans hx191_1; replace p191 := eq_true p191; replace q191 := eq_true q191) | ((with_reducible refine gate_builtin (b := .append) (xs := #[.tmp 45, .tmp 50]) rfl ?_); at_builtin; refine Kd.R_append k39 (w0 := w) w.heap.size rfl (.tmp 45) (.tmp 50) 22 39 (.agg #[(.string ⟨#[]⟩), (.string ⟨#[]⟩)]) 32 rfl Try.underlying22 info39 rfl (by decide) (by omega) v188 y187 (⟨(rd_T39 l0 x7_1).f0, (rd_T39 l0 x7_1).f1⟩ : S39) [.string ((rd_T39 l0 x7_1).f0), .string ((rd_T39 l0 x7_1).f1)] (fun _ => True) (fun _ => False) rfl rfl ?aP (fun _ hk => hk.elim) ?aF ?aO ?aB ?aS ?aL ?_; (case aP => exact k39_mkM _ _ _ (⟨(rd_T39 l0 x7_1).f0, (rd_T39 l0 x7_1).f1⟩ : S39)); (case aB => exact (by repeat (first | (with_reducible first | exact HB.out | apply below_alloc | apply pw_below_drewN | apply below_drew1 | refine below_set ?_ GE182.out) | exact HB.out))); (case aF => exact (fun _ _ => trivial)); (case aO => exact (by (with_reducible repeat (first | apply Kd.R_alloc | apply Kd.R_drewN | apply Kd.R_drew)); exact HO189.out)); (case aS => exact (below_size (by repeat (first | (with_reducible first | exact HB.out | apply below_alloc | apply pw_below_drewN | apply below_drew1 | refine below_set ?_ GE182.out) | exact HB.out)))); (case aL => have := LMc18.out; omega); intro v193 w22 ho hb hg hat; rw [← Ny192.out] at ho; have n0_ := Aside0.mk (blk_grown (g := gb182) (o := .cells #[.int .u8 a1_0, .string a1_1, .string a1_2] 36 (0, 0)) (by (with_reducible repeat (first | refine blk_drewN ?_ _ | refine blk_drew ?_ | refine blk_alloc ?_ _)); exact BK182.out) hg (Kd.R_ne HO189.out BK182.out (by decide))); have n1_ := Aside0.mk (hb); have n2_ := Aside0.mk (ho); clear BK182; clear HB; clear HO189; have BK182 := n0_; have HB := n1_; have HO194 := n2_; clear n0_ n1_ n2_; clear ho hb hg hat))
                        repeat (go_quiet (first | ((with_reducible refine gate_builtin (b := .append) (xs := #[.tmp 29, .tmp 35]) rfl ?_); at_builtin; refine Kd.R_append k39 (w0 := w) w.heap.size rfl (.tmp 29) (.tmp 35) 22 39 (.agg #[(.string ⟨#[]⟩), (.string ⟨#[]⟩)]) 32 rfl Try.underlying22 info39 rfl (by decide) (by omega) u5 x5_1 (⟨a1_1, a1_2⟩ : S39) [.string a1_1, .string a1_2] (fun _ => True) (fun _ => False) rfl rfl ?aP (fun _ hk => hk.elim) ?aF ?aO ?aB ?aS ?aL ?_; (case aP => exact k39_mkM _ _ _ (⟨a1_1, a1_2⟩ : S39)); (case aB => exact (by repeat (first | (with_reducible first | exact HB.out | apply below_alloc | apply pw_below_drewN | apply below_drew1 | refine below_set ?_ GE182.out) | exact HB.out))); (case aF => exact (fun _ _ => trivial)); (case aO => exact (by (with_reducible repeat (first | apply Kd.R_alloc | apply Kd.R_drewN | apply Kd.R_drew)); exact HO_5.out)); (case aS => exact (below_size (by repeat (first | (with_reducible first | exact HB.out | apply below_alloc | apply pw_below_drewN | apply below_drew1 | refine below_set ?_ GE182.out) | exact HB.out)))); (case aL => have := LMc11.out; omega); intro v188 w20 ho hb hg hat; rw [← Ny187.out] at ho; have n0_ := Aside0.mk (blk_grown (g := gb182) (o := .cells #[.int .u8 a1_0, .string a1_1, .string a1_2] 36 (0, 0)) (by (with_reducible repeat (first | refine blk_drewN ?_ _ | refine blk_drew ?_ | refine blk_alloc ?_ _)); exact BK182.out) hg (Kd.R_ne HO_5.out BK182.out (by decide))); have n1_ := Aside0.mk (hb); have n2_ := Aside0.mk (ho); clear BK182; clear HB; clear HO_5; have BK182 := n0_; have HB := n1_; have HO189 := n2_; clear n0_ n1_ n2_; clear ho hb hg hat; have p190 : 0 ≤ (x7_1 : Int) := of_decide_eq_true (by first | (with_reducible assumption) | assumption); have q190 : x7_1 < (l0.length : Int) := of_decide_eq_true (by first | (with_reducible assumption) | assumption); obtain ⟨ad190, e190, hx190_0, hx190_1⟩ := at_T39 HR0.out x7_1 p190 q190; cases e190; replace hx190_0 := (HB.out.cell (World.block_lt_of_cell? w _ hx190_0)).trans hx190_0; replace hx190_1 := (HB.out.cell (World.block_lt_of_cell? w _ hx190_1)).trans hx190_1; replace p190 := eq_true p190; replace q190 := eq_true q190; have hcz21_0 : w20.cell? ⟨gb182, 0, none⟩ = some (.int .u8 a1_0) := (blk_cell BK182.out 0).trans rfl; have hcz21_1 : w20.cell? ⟨gb182, 1, none⟩ = some (.string a1_1) := (blk_cell BK182.out 1).trans rfl; have hcz21_2 : w20.cell? ⟨gb182, 2, none⟩ = some (.string a1_2) := (blk_cell BK182.out 2).trans rfl; have hfz21_0 := blk_frozen BK182.out 0; have hfz21_1 := blk_frozen BK182.out 1; have hfz21_2 := blk_frozen BK182.out 2; have p191 : 0 ≤ (x7_1 : Int) := of_decide_eq_true (by first | (with_reducible assumption) | assumption); have q191 : x7_1 < (l0.length : Int) := of_decide_eq_true (by first | (with_reducible assumption) | assumption); obtain ⟨ad191, e191, hx191_0, hx191_1⟩ := at_T39 HR0.out x7_1 p191 q191; obtain rfl : ad190 = ad191 := (by injection e191); replace hx191_0 := (HB.out.cell (World.block_lt_of_cell? w _ hx191_0)).trans hx191_0; replace hx191_1 := (HB.out.cell (World.block_lt_of_cell? w _ hx191_1)).trans hx191_1; replace p191 := eq_true p191; replace q191 := eq_true q191) | ((with_reducible refine gate_builtin (b := .append) (xs := #[.tmp 45, .tmp 50]) rfl ?_); at_builtin; refine Kd.R_append k39 (w0 := w) w.heap.size rfl (.tmp 45) (.tmp 50) 22 39 (.agg #[(.string ⟨#[]⟩), (.string ⟨#[]⟩)]) 32 rfl Try.underlying22 info39 rfl (by decide) (by omega) v188 y187 (⟨(rd_T39 l0 x7_1).f0, (rd_T39 l0 x7_1).f1⟩ : S39) [.string ((rd_T39 l0 x7_1).f0), .string ((rd_T39 l0 x7_1).f1)] (fun _ => True) (fun _ => False) rfl rfl ?aP (fun _ hk => hk.elim) ?aF ?aO ?aB ?aS ?aL ?_; (case aP => exact k39_mkM _ _ _ (⟨(rd_T39 l0 x7_1).f0, (rd_T39 l0 x7_1).f1⟩ : S39)); (case aB => exact (by repeat (first | (with_reducible first | exact HB.out | apply below_alloc | apply pw_below_drewN | apply below_drew1 | refine below_set ?_ GE182.out) | exact HB.out))); (case aF => exact (fun _ _ => trivial)); (case aO => exact (by (with_reducible repeat (first | apply Kd.R_alloc | apply Kd.R_drewN | apply Kd.R_drew)); exact HO189.out)); (case aS => exact (below_size (by repeat (first | (with_reducible first | exact HB.out | apply below_alloc | apply pw_below_drewN | apply below_drew1 | refine below_set ?_ GE182.out) | exact HB.out)))); (case aL => have := LMc18.out; omega); intro v193 w22 ho hb hg hat; rw [← Ny192.out] at ho; have n0_ := Aside0.mk (blk_grown (g := gb182) (o := .cells #[.int .u8 a1_0, .string a1_1, .string a1_2] 36 (0, 0)) (by (with_reducible repeat (first | refine blk_drewN ?_ _ | refine blk_drew ?_ | refine blk_alloc ?_ _)); exact BK182.out) hg (Kd.R_ne HO189.out BK182.out (by decide))); have n1_ := Aside0.mk (hb); have n2_ := Aside0.mk (ho); clear BK182; clear HB; clear HO189; have BK182 := n0_; have HB := n1_; have HO194 := n2_; clear n0_ n1_ n2_; clear ho hb hg hat)); try go_wp2_with (first | ((with_reducible refine gate_builtin (b := .append) (xs := #[.tmp 29, .tmp 35]) rfl ?_); at_builtin; refine Kd.R_append k39 (w0 := w) w.heap.size rfl (.tmp 29) (.tmp 35) 22 39 (.agg #[(.string ⟨#[]⟩), (.string ⟨#[]⟩)]) 32 rfl Try.underlying22 info39 rfl (by decide) (by omega) u5 x5_1 (⟨a1_1, a1_2⟩ : S39) [.string a1_1, .string a1_2] (fun _ => True) (fun _ => False) rfl rfl ?aP (fun _ hk => hk.elim) ?aF ?aO ?aB ?aS ?aL ?_; (case aP => exact k39_mkM _ _ _ (⟨a1_1, a1_2⟩ : S39)); (case aB => exact (by repeat (first | (with_reducible first | exact HB.out | apply below_alloc | apply pw_below_drewN | apply below_drew1 | refine below_set ?_ GE182.out) | exact HB.out))); (case aF => exact (fun _ _ => trivial)); (case aO => exact (by (with_reducible repeat (first | apply Kd.R_alloc | apply Kd.R_drewN | apply Kd.R_drew)); exact HO_5.out)); (case aS => exact (below_size (by repeat (first | (with_reducible first | exact HB.out | apply below_alloc | apply pw_below_drewN | apply below_drew1 | refine below_set ?_ GE182.out) | exact HB.out)))); (case aL => have := LMc11.out; omega); intro v188 w20 ho hb hg hat; rw [← Ny187.out] at ho; have n0_ := Aside0.mk (blk_grown (g := gb182) (o := .cells #[.int .u8 a1_0, .string a1_1, .string a1_2] 36 (0, 0)) (by (with_reducible repeat (first | refine blk_drewN ?_ _ | refine blk_drew ?_ | refine blk_alloc ?_ _)); exact BK182.out) hg (Kd.R_ne HO_5.out BK182.out (by decide))); have n1_ := Aside0.mk (hb); have n2_ := Aside0.mk (ho); clear BK182; clear HB; clear HO_5; have BK182 := n0_; have HB := n1_; have HO189 := n2_; clear n0_ n1_ n2_; clear ho hb hg hat; have p190 : 0 ≤ (x7_1 : Int) := of_decide_eq_true (by first | (with_reducible assumption) | assumption); have q190 : x7_1 < (l0.length : Int) := of_decide_eq_true (by first | (with_reducible assumption) | assumption); obtain ⟨ad190, e190, hx190_0, hx190_1⟩ := at_T39 HR0.out x7_1 p190 q190; cases e190; replace hx190_0 := (HB.out.cell (World.block_lt_of_cell? w _ hx190_0)).trans hx190_0; replace hx190_1 := (HB.out.cell (World.block_lt_of_cell? w _ hx190_1)).trans hx190_1; replace p190 := eq_true p190; replace q190 := eq_true q190; have hcz21_0 : w20.cell? ⟨gb182, 0, none⟩ = some (.int .u8 a1_0) := (blk_cell BK182.out 0).trans rfl; have hcz21_1 : w20.cell? ⟨gb182, 1, none⟩ = some (.string a1_1) := (blk_cell BK182.out 1).trans rfl; have hcz21_2 : w20.cell? ⟨gb182, 2, none⟩ = some (.string a1_2) := (blk_cell BK182.out 2).trans rfl; have hfz21_0 := blk_frozen BK182.out 0; have hfz21_1 := blk_frozen BK182.out 1; have hfz21_2 := blk_frozen BK182.out 2; have p191 : 0 ≤ (x7_1 : Int) := of_decide_eq_true (by first | (with_reducible assumption) | assumption); have q191 : x7_1 < (l0.length : Int) := of_decide_eq_true (by first | (with_reducible assumption) | assumption); obtain ⟨ad191, e191, hx191_0, hx191_1⟩ := at_T39 HR0.out x7_1 p191 q191; obtain rfl : ad190 = ad191 := (by injection e191); replace hx191_0 := (HB.out.cell (World.block_lt_of_cell? w _ hx191_0)).trans hx191_0; replace hx191_1 := (HB.out.cell (World.block_lt_of_cell? w _ hx191_1)).trans hx191_1; replace p191 := eq_true p191; replace q191 := eq_true q191) | ((with_reducible refine gate_builtin (b := .append) (xs := #[.tmp 45, .tmp 50]) rfl ?_); at_builtin; refine Kd.R_append k39 (w0 := w) w.heap.size rfl (.tmp 45) (.tmp 50) 22 39 (.agg #[(.string ⟨#[]⟩), (.string ⟨#[]⟩)]) 32 rfl Try.underlying22 info39 rfl (by decide) (by omega) v188 y187 (⟨(rd_T39 l0 x7_1).f0, (rd_T39 l0 x7_1).f1⟩ : S39) [.string ((rd_T39 l0 x7_1).f0), .string ((rd_T39 l0 x7_1).f1)] (fun _ => True) (fun _ => False) rfl rfl ?aP (fun _ hk => hk.elim) ?aF ?aO ?aB ?aS ?aL ?_; (case aP => exact k39_mkM _ _ _ (⟨(rd_T39 l0 x7_1).f0, (rd_T39 l0 x7_1).f1⟩ : S39)); (case aB => exact (by repeat (first | (with_reducible first | exact HB.out | apply below_alloc | apply pw_below_drewN | apply below_drew1 | refine below_set ?_ GE182.out) | exact HB.out))); (case aF => exact (fun _ _ => trivial)); (case aO => exact (by (with_reducible repeat (first | apply Kd.R_alloc | apply Kd.R_drewN | apply Kd.R_drew)); exact HO189.out)); (case aS => exact (below_size (by repeat (first | (with_reducible first | exact HB.out | apply below_alloc | apply pw_below_drewN | apply below_drew1 | refine below_set ?_ GE182.out) | exact HB.out)))); (case aL => have := LMc18.out; omega); intro v193 w22 ho hb hg hat; rw [← Ny192.out] at ho; have n0_ := Aside0.mk (blk_grown (g := gb182) (o := .cells #[.int .u8 a1_0, .string a1_1, .string a1_2] 36 (0, 0)) (by (with_reducible repeat (first | refine blk_drewN ?_ _ | refine blk_drew ?_ | refine blk_alloc ?_ _)); exact BK182.out) hg (Kd.R_ne HO189.out BK182.out (by decide))); have n1_ := Aside0.mk (hb); have n2_ := Aside0.mk (ho); clear BK182; clear HB; clear HO189; have BK182 := n0_; have HB := n1_; have HO194 := n2_; clear n0_ n1_ n2_; clear ho hb hg hat)))
                        go_roundg kj5
                        case measure => have := HK1.out; have := HJ5.out; omega
                        case rel => exact ⟨(y192), (true), (wrap64 (x7_1 + 1)), (by first | rfl | (simp; done) | (simp [*]; done)), (by first | rfl | (simp; done) | (simp [*]; done)), H', ⟨by have := HK1.out; have := HJ5.out; omega⟩, ⟨by (with_reducible repeat (first | apply Kd.R_alloc | apply Kd.R_drewN | apply Kd.R_drew)); exact HO194.out⟩, ⟨by (with_reducible repeat (first | refine blk_drewN ?_ _ | refine blk_drew ?_ | refine blk_alloc ?_ _)); exact BK182.out⟩, ⟨by repeat (first | (with_reducible first | exact HB.out | apply below_alloc | apply pw_below_drewN | apply below_drew1 | refine below_set ?_ GE182.out) | exact HB.out)⟩⟩
                      · rw [if_neg c18] at H
                        exact absurd H (by simp)
                  · rw [if_neg c13] at H
                    exact absurd H (by simp)
                · rw [if_neg c12] at H
                  exact absurd H (by simp)
              · rw [if_neg c11] at H
                exact absurd H (by simp)
            · replace c10 := Bool.eq_false_iff.mpr c10
              subst c10
              have H1 : (if 0 ≤ x7_1 then (if x7_1 < (l0.length : Int) then (if ((rd_T39 l0 x7_1).f0).toList = a1_1.toList then (ratlineref12_one.l0 kj5 l0 x5_1 x6_1 (wrap64 (x7_1 + 1)) a1_0 a1_1 a1_2) else (if x5_1.length < 4398046511104 then (ratlineref12_one.l0 kj5 l0 (x5_1 ++ [(⟨(rd_T39 l0 x7_1).f0, (rd_T39 l0 x7_1).f1⟩ : S39)]) x6_1 (wrap64 (x7_1 + 1)) a1_0 a1_1 a1_2) else (none))) else (none)) else (none)) = some r := by rw [if_neg (show ¬ (false = true) by decide)] at H; exact H
              clear H
              have H := H1
              clear H1
              by_cases c23 : 0 ≤ x7_1
              · rw [if_pos c23] at H
                have c23b0 : decide (0 ≤ x7_1) = true := decide_eq_true c23
                clear c23
                by_cases c24 : x7_1 < (l0.length : Int)
                · rw [if_pos c24] at H
                  have c24b0 : decide (x7_1 < (l0.length : Int)) = true := decide_eq_true c24
                  clear c24
                  by_cases c25 : ((rd_T39 l0 x7_1).f0).toList = a1_1.toList
                  · rw [if_pos c25] at H
                    have c25b0 : (((rd_T39 l0 x7_1).f0).toList == a1_1.toList) = true := beq_iff_eq.mpr c25
                    have c25b1 : (((rd_T39 l0 x7_1).f0).toList != a1_1.toList) = false := bne_eq_false_iff_eq.mpr c25
                    clear c25
                    have H' := Aside0.mk H
                    clear H
                    have p195 : 0 ≤ (x7_1 : Int) := of_decide_eq_true (by first | (with_reducible assumption) | assumption)
                    have q195 : x7_1 < (l0.length : Int) := of_decide_eq_true (by first | (with_reducible assumption) | assumption)
                    obtain ⟨ad195, e195, hx195_0, hx195_1⟩ := at_T39 HR0.out x7_1 p195 q195
                    cases e195
                    replace hx195_0 := (HB.out.cell (World.block_lt_of_cell? w _ hx195_0)).trans hx195_0
                    replace hx195_1 := (HB.out.cell (World.block_lt_of_cell? w _ hx195_1)).trans hx195_1
                    replace p195 := eq_true p195
                    replace q195 := eq_true q195
                    have hcz26_0 : wc.cell? ⟨gb182, 0, none⟩ = some (.int .u8 a1_0) := (blk_cell BK182.out 0).trans rfl
                    have hcz26_1 : wc.cell? ⟨gb182, 1, none⟩ = some (.string a1_1) := (blk_cell BK182.out 1).trans rfl
                    have hcz26_2 : wc.cell? ⟨gb182, 2, none⟩ = some (.string a1_2) := (blk_cell BK182.out 2).trans rfl
                    have hfz26_0 := blk_frozen BK182.out 0
                    have hfz26_1 := blk_frozen BK182.out 1
                    have hfz26_2 := blk_frozen BK182.out 2
                    go_wp2
                    repeat (go_quiet (fail); try go_wp2)
                    go_roundg kj5
                    case measure => have := HK1.out; have := HJ5.out; omega
                    case rel => exact ⟨(x5_1), (x6_1), (wrap64 (x7_1 + 1)), (by first | rfl | (simp; done) | (simp [*]; done)), (by first | rfl | (simp; done) | (simp [*]; done)), H', ⟨by have := HK1.out; have := HJ5.out; omega⟩, ⟨by (with_reducible repeat (first | apply Kd.R_alloc | apply Kd.R_drewN | apply Kd.R_drew)); exact HO_5.out⟩, ⟨by (with_reducible repeat (first | refine blk_drewN ?_ _ | refine blk_drew ?_ | refine blk_alloc ?_ _)); exact BK182.out⟩, ⟨by repeat (first | (with_reducible first | exact HB.out | apply below_alloc | apply pw_below_drewN | apply below_drew1 | refine below_set ?_ GE182.out) | exact HB.out)⟩⟩
                  · rw [if_neg c25] at H
                    have c25b0 : (((rd_T39 l0 x7_1).f0).toList == a1_1.toList) = false := beq_eq_false_iff_ne.mpr c25
                    have c25b1 : (((rd_T39 l0 x7_1).f0).toList != a1_1.toList) = true := bne_iff_ne.mpr c25
                    by_cases c27 : x5_1.length < 4398046511104
                    · rw [if_pos c27] at H
                      have LMc27 := Aside0.mk c27
                      clear c27
                      obtain ⟨y197, hy197⟩ : ∃ y_ : List (S39), y_ = (x5_1 ++ [(⟨(rd_T39 l0 x7_1).f0, (rd_T39 l0 x7_1).f1⟩ : S39)]) := ⟨_, rfl⟩
                      replace H : (ratlineref12_one.l0 kj5 l0 y197 x6_1 (wrap64 (x7_1 + 1)) a1_0 a1_1 a1_2) = some r := by first | (rw [hy197]; with_reducible exact H) | (have H2_ := (Option.bind_some _ _).symm.trans H; rw [hy197]; with_reducible exact H2_) | (have H2_ := (Option.bind_some _ _).symm.trans H; with_reducible exact H2_) | with_reducible exact H | (rw [hy197]; exact H) | exact H
                      have Ny197 := Aside0.mk hy197
                      clear hy197
                      have H' := Aside0.mk H
                      clear H
                      have p195 : 0 ≤ (x7_1 : Int) := of_decide_eq_true (by first | (with_reducible assumption) | assumption)
                      have q195 : x7_1 < (l0.length : Int) := of_decide_eq_true (by first | (with_reducible assumption) | assumption)
                      obtain ⟨ad195, e195, hx195_0, hx195_1⟩ := at_T39 HR0.out x7_1 p195 q195
                      cases e195
                      replace hx195_0 := (HB.out.cell (World.block_lt_of_cell? w _ hx195_0)).trans hx195_0
                      replace hx195_1 := (HB.out.cell (World.block_lt_of_cell? w _ hx195_1)).trans hx195_1
                      replace p195 := eq_true p195
                      replace q195 := eq_true q195
                      have hcz28_0 : wc.cell? ⟨gb182, 0, none⟩ = some (.int .u8 a1_0) := (blk_cell BK182.out 0).trans rfl
                      have hcz28_1 : wc.cell? ⟨gb182, 1, none⟩ = some (.string a1_1) := (blk_cell BK182.out 1).trans rfl
                      have hcz28_2 : wc.cell? ⟨gb182, 2, none⟩ = some (.string a1_2) := (blk_cell BK182.out 2).trans rfl
                      have hfz28_0 := blk_frozen BK182.out 0
                      have hfz28_1 := blk_frozen BK182.out 1
                      have hfz28_2 := blk_frozen BK182.out 2
                      have p196 : 0 ≤ (x7_1 : Int) := of_decide_eq_true (by first | (with_reducible assumption) | assumption)
                      have q196 : x7_1 < (l0.length : Int) := of_decide_eq_true (by first | (with_reducible assumption) | assumption)
                      obtain ⟨ad196, e196, hx196_0, hx196_1⟩ := at_T39 HR0.out x7_1 p196 q196
                      obtain rfl : ad195 = ad196 := (by injection e196)
                      replace hx196_0 := (HB.out.cell (World.block_lt_of_cell? w _ hx196_0)).trans hx196_0
                      replace hx196_1 := (HB.out.cell (World.block_lt_of_cell? w _ hx196_1)).trans hx196_1
                      replace p196 := eq_true p196
                      replace q196 := eq_true q196
                      go_wp2_with (first | ((with_reducible refine gate_builtin (b := .append) (xs := #[.tmp 45, .tmp 50]) rfl ?_); at_builtin; refine Kd.R_append k39 (w0 := w) w.heap.size rfl (.tmp 45) (.tmp 50) 22 39 (.agg #[(.string ⟨#[]⟩), (.string ⟨#[]⟩)]) 32 rfl Try.underlying22 info39 rfl (by decide) (by omega) u5 x5_1 (⟨(rd_T39 l0 x7_1).f0, (rd_T39 l0 x7_1).f1⟩ : S39) [.string ((rd_T39 l0 x7_1).f0), .string ((rd_T39 l0 x7_1).f1)] (fun _ => True) (fun _ => False) rfl rfl ?aP (fun _ hk => hk.elim) ?aF ?aO ?aB ?aS ?aL ?_; (case aP => exact k39_mkM _ _ _ (⟨(rd_T39 l0 x7_1).f0, (rd_T39 l0 x7_1).f1⟩ : S39)); (case aB => exact (by repeat (first | (with_reducible first | exact HB.out | apply below_alloc | apply pw_below_drewN | apply below_drew1 | refine below_set ?_ GE182.out) | exact HB.out))); (case aF => exact (fun _ _ => trivial)); (case aO => exact (by (with_reducible repeat (first | apply Kd.R_alloc | apply Kd.R_drewN | apply Kd.R_drew)); exact HO_5.out)); (case aS => exact (below_size (by repeat (first | (with_reducible first | exact HB.out | apply below_alloc | apply pw_below_drewN | apply below_drew1 | refine below_set ?_ GE182.out) | exact HB.out)))); (case aL => have := LMc27.out; omega); intro v198 w29 ho hb hg hat; rw [← Ny197.out] at ho; have n0_ := Aside0.mk (blk_grown (g := gb182) (o := .cells #[.int .u8 a1_0, .string a1_1, .string a1_2] 36 (0, 0)) (by (with_reducible repeat (first | refine blk_drewN ?_ _ | refine blk_drew ?_ | refine blk_alloc ?_ _)); exact BK182.out) hg (Kd.R_ne HO_5.out BK182.out (by decide))); have n1_ := Aside0.mk (hb); have n2_ := Aside0.mk (ho); clear BK182; clear HB; clear HO_5; have BK182 := n0_; have HB := n1_; have HO199 := n2_; clear n0_ n1_ n2_; clear ho hb hg hat))
                      repeat (go_quiet (first | ((with_reducible refine gate_builtin (b := .append) (xs := #[.tmp 45, .tmp 50]) rfl ?_); at_builtin; refine Kd.R_append k39 (w0 := w) w.heap.size rfl (.tmp 45) (.tmp 50) 22 39 (.agg #[(.string ⟨#[]⟩), (.string ⟨#[]⟩)]) 32 rfl Try.underlying22 info39 rfl (by decide) (by omega) u5 x5_1 (⟨(rd_T39 l0 x7_1).f0, (rd_T39 l0 x7_1).f1⟩ : S39) [.string ((rd_T39 l0 x7_1).f0), .string ((rd_T39 l0 x7_1).f1)] (fun _ => True) (fun _ => False) rfl rfl ?aP (fun _ hk => hk.elim) ?aF ?aO ?aB ?aS ?aL ?_; (case aP => exact k39_mkM _ _ _ (⟨(rd_T39 l0 x7_1).f0, (rd_T39 l0 x7_1).f1⟩ : S39)); (case aB => exact (by repeat (first | (with_reducible first | exact HB.out | apply below_alloc | apply pw_below_drewN | apply below_drew1 | refine below_set ?_ GE182.out) | exact HB.out))); (case aF => exact (fun _ _ => trivial)); (case aO => exact (by (with_reducible repeat (first | apply Kd.R_alloc | apply Kd.R_drewN | apply Kd.R_drew)); exact HO_5.out)); (case aS => exact (below_size (by repeat (first | (with_reducible first | exact HB.out | apply below_alloc | apply pw_below_drewN | apply below_drew1 | refine below_set ?_ GE182.out) | exact HB.out)))); (case aL => have := LMc27.out; omega); intro v198 w29 ho hb hg hat; rw [← Ny197.out] at ho; have n0_ := Aside0.mk (blk_grown (g := gb182) (o := .cells #[.int .u8 a1_0, .string a1_1, .string a1_2] 36 (0, 0)) (by (with_reducible repeat (first | refine blk_drewN ?_ _ | refine blk_drew ?_ | refine blk_alloc ?_ _)); exact BK182.out) hg (Kd.R_ne HO_5.out BK182.out (by decide))); have n1_ := Aside0.mk (hb); have n2_ := Aside0.mk (ho); clear BK182; clear HB; clear HO_5; have BK182 := n0_; have HB := n1_; have HO199 := n2_; clear n0_ n1_ n2_; clear ho hb hg hat)); try go_wp2_with (first | ((with_reducible refine gate_builtin (b := .append) (xs := #[.tmp 45, .tmp 50]) rfl ?_); at_builtin; refine Kd.R_append k39 (w0 := w) w.heap.size rfl (.tmp 45) (.tmp 50) 22 39 (.agg #[(.string ⟨#[]⟩), (.string ⟨#[]⟩)]) 32 rfl Try.underlying22 info39 rfl (by decide) (by omega) u5 x5_1 (⟨(rd_T39 l0 x7_1).f0, (rd_T39 l0 x7_1).f1⟩ : S39) [.string ((rd_T39 l0 x7_1).f0), .string ((rd_T39 l0 x7_1).f1)] (fun _ => True) (fun _ => False) rfl rfl ?aP (fun _ hk => hk.elim) ?aF ?aO ?aB ?aS ?aL ?_; (case aP => exact k39_mkM _ _ _ (⟨(rd_T39 l0 x7_1).f0, (rd_T39 l0 x7_1).f1⟩ : S39)); (case aB => exact (by repeat (first | (with_reducible first | exact HB.out | apply below_alloc | apply pw_below_drewN | apply below_drew1 | refine below_set ?_ GE182.out) | exact HB.out))); (case aF => exact (fun _ _ => trivial)); (case aO => exact (by (with_reducible repeat (first | apply Kd.R_alloc | apply Kd.R_drewN | apply Kd.R_drew)); exact HO_5.out)); (case aS => exact (below_size (by repeat (first | (with_reducible first | exact HB.out | apply below_alloc | apply pw_below_drewN | apply below_drew1 | refine below_set ?_ GE182.out) | exact HB.out)))); (case aL => have := LMc27.out; omega); intro v198 w29 ho hb hg hat; rw [← Ny197.out] at ho; have n0_ := Aside0.mk (blk_grown (g := gb182) (o := .cells #[.int .u8 a1_0, .string a1_1, .string a1_2] 36 (0, 0)) (by (with_reducible repeat (first | refine blk_drewN ?_ _ | refine blk_drew ?_ | refine blk_alloc ?_ _)); exact BK182.out) hg (Kd.R_ne HO_5.out BK182.out (by decide))); have n1_ := Aside0.mk (hb); have n2_ := Aside0.mk (ho); clear BK182; clear HB; clear HO_5; have BK182 := n0_; have HB := n1_; have HO199 := n2_; clear n0_ n1_ n2_; clear ho hb hg hat)))
                      go_roundg kj5
                      case measure => have := HK1.out; have := HJ5.out; omega
                      case rel => exact ⟨(y197), (x6_1), (wrap64 (x7_1 + 1)), (by first | rfl | (simp; done) | (simp [*]; done)), (by first | rfl | (simp; done) | (simp [*]; done)), H', ⟨by have := HK1.out; have := HJ5.out; omega⟩, ⟨by (with_reducible repeat (first | apply Kd.R_alloc | apply Kd.R_drewN | apply Kd.R_drew)); exact HO199.out⟩, ⟨by (with_reducible repeat (first | refine blk_drewN ?_ _ | refine blk_drew ?_ | refine blk_alloc ?_ _)); exact BK182.out⟩, ⟨by repeat (first | (with_reducible first | exact HB.out | apply below_alloc | apply pw_below_drewN | apply below_drew1 | refine below_set ?_ GE182.out) | exact HB.out)⟩⟩
                    · rw [if_neg c27] at H
                      exact absurd H (by simp)
                · rw [if_neg c24] at H
                  exact absurd H (by simp)
              · rw [if_neg c23] at H
                exact absurd H (by simp)
      · rw [if_neg c5] at H
        have c5b0 : decide (x7_1 < (l0.length : Int)) = false := decide_eq_false c5
        clear c5
        by_cases c30 : x6_1 = true
        · subst c30
          have H1 : (some x5_1) = some r := by rw [if_pos rfl] at H; exact H
          clear H
          have H := H1
          clear H1
          obtain rfl := Option.some.inj H
          go_wp2
          repeat (go_quiet (fail); try go_wp2)
          go_ret
          exact ⟨_, by first | rfl | (simp [errW_none, errW_some] <;> rfl) | (simp [*, errW_none, errW_some] <;> rfl), by (with_reducible repeat (first | apply Kd.R_alloc | apply Kd.R_drewN | apply Kd.R_drew)); exact HO_5.out, by repeat (first | (with_reducible first | exact HB.out | apply below_alloc | apply pw_below_drewN | apply below_drew1 | refine below_set ?_ GE182.out) | exact HB.out)⟩
        · replace c30 := Bool.eq_false_iff.mpr c30
          subst c30
          have H1 : (if x5_1.length < 4398046511104 then (some (x5_1 ++ [(⟨a1_1, a1_2⟩ : S39)])) else (none)) = some r := by rw [if_neg (show ¬ (false = true) by decide)] at H; exact H
          clear H
          have H := H1
          clear H1
          by_cases c31 : x5_1.length < 4398046511104
          · rw [if_pos c31] at H
            have LMc31 := Aside0.mk c31
            clear c31
            obtain ⟨y183, hy183⟩ : ∃ y_ : List (S39), y_ = (x5_1 ++ [(⟨a1_1, a1_2⟩ : S39)]) := ⟨_, rfl⟩
            replace H : (some y183) = some r := by first | (rw [hy183]; with_reducible exact H) | (have H2_ := (Option.bind_some _ _).symm.trans H; rw [hy183]; with_reducible exact H2_) | (have H2_ := (Option.bind_some _ _).symm.trans H; with_reducible exact H2_) | with_reducible exact H | (rw [hy183]; exact H) | exact H
            have Ny183 := Aside0.mk hy183
            clear hy183
            obtain rfl := Option.some.inj H
            have hcz32_0 : wr.cell? ⟨gb182, 0, none⟩ = some (.int .u8 a1_0) := (blk_cell BK182.out 0).trans rfl
            have hcz32_1 : wr.cell? ⟨gb182, 1, none⟩ = some (.string a1_1) := (blk_cell BK182.out 1).trans rfl
            have hcz32_2 : wr.cell? ⟨gb182, 2, none⟩ = some (.string a1_2) := (blk_cell BK182.out 2).trans rfl
            have hfz32_0 := blk_frozen BK182.out 0
            have hfz32_1 := blk_frozen BK182.out 1
            have hfz32_2 := blk_frozen BK182.out 2
            go_wp2_with (first | ((with_reducible refine gate_builtin (b := .append) (xs := #[.tmp 54, .tmp 60]) rfl ?_); at_builtin; refine Kd.R_append k39 (w0 := w) w.heap.size rfl (.tmp 54) (.tmp 60) 22 39 (.agg #[(.string ⟨#[]⟩), (.string ⟨#[]⟩)]) 32 rfl Try.underlying22 info39 rfl (by decide) (by omega) u5 x5_1 (⟨a1_1, a1_2⟩ : S39) [.string a1_1, .string a1_2] (fun _ => True) (fun _ => False) rfl rfl ?aP (fun _ hk => hk.elim) ?aF ?aO ?aB ?aS ?aL ?_; (case aP => exact k39_mkM _ _ _ (⟨a1_1, a1_2⟩ : S39)); (case aB => exact (by repeat (first | (with_reducible first | exact HB.out | apply below_alloc | apply pw_below_drewN | apply below_drew1 | refine below_set ?_ GE182.out) | exact HB.out))); (case aF => exact (fun _ _ => trivial)); (case aO => exact (by (with_reducible repeat (first | apply Kd.R_alloc | apply Kd.R_drewN | apply Kd.R_drew)); exact HO_5.out)); (case aS => exact (below_size (by repeat (first | (with_reducible first | exact HB.out | apply below_alloc | apply pw_below_drewN | apply below_drew1 | refine below_set ?_ GE182.out) | exact HB.out)))); (case aL => have := LMc31.out; omega); intro v184 w33 ho hb hg hat; rw [← Ny183.out] at ho; have n0_ := Aside0.mk (blk_grown (g := gb182) (o := .cells #[.int .u8 a1_0, .string a1_1, .string a1_2] 36 (0, 0)) (by (with_reducible repeat (first | refine blk_drewN ?_ _ | refine blk_drew ?_ | refine blk_alloc ?_ _)); exact BK182.out) hg (Kd.R_ne HO_5.out BK182.out (by decide))); have n1_ := Aside0.mk (hb); have n2_ := Aside0.mk (ho); clear BK182; clear HB; clear HO_5; have BK182 := n0_; have HB := n1_; have HO185 := n2_; clear n0_ n1_ n2_; clear ho hb hg hat))
            repeat (go_quiet (first | ((with_reducible refine gate_builtin (b := .append) (xs := #[.tmp 54, .tmp 60]) rfl ?_); at_builtin; refine Kd.R_append k39 (w0 := w) w.heap.size rfl (.tmp 54) (.tmp 60) 22 39 (.agg #[(.string ⟨#[]⟩), (.string ⟨#[]⟩)]) 32 rfl Try.underlying22 info39 rfl (by decide) (by omega) u5 x5_1 (⟨a1_1, a1_2⟩ : S39) [.string a1_1, .string a1_2] (fun _ => True) (fun _ => False) rfl rfl ?aP (fun _ hk => hk.elim) ?aF ?aO ?aB ?aS ?aL ?_; (case aP => exact k39_mkM _ _ _ (⟨a1_1, a1_2⟩ : S39)); (case aB => exact (by repeat (first | (with_reducible first | exact HB.out | apply below_alloc | apply pw_below_drewN | apply below_drew1 | refine below_set ?_ GE182.out) | exact HB.out))); (case aF => exact (fun _ _ => trivial)); (case aO => exact (by (with_reducible repeat (first | apply Kd.R_alloc | apply Kd.R_drewN | apply Kd.R_drew)); exact HO_5.out)); (case aS => exact (below_size (by repeat (first | (with_reducible first | exact HB.out | apply below_alloc | apply pw_below_drewN | apply below_drew1 | refine below_set ?_ GE182.out) | exact HB.out)))); (case aL => have := LMc31.out; omega); intro v184 w33 ho hb hg hat; rw [← Ny183.out] at ho; have n0_ := Aside0.mk (blk_grown (g := gb182) (o := .cells #[.int .u8 a1_0, .string a1_1, .string a1_2] 36 (0, 0)) (by (with_reducible repeat (first | refine blk_drewN ?_ _ | refine blk_drew ?_ | refine blk_alloc ?_ _)); exact BK182.out) hg (Kd.R_ne HO_5.out BK182.out (by decide))); have n1_ := Aside0.mk (hb); have n2_ := Aside0.mk (ho); clear BK182; clear HB; clear HO_5; have BK182 := n0_; have HB := n1_; have HO185 := n2_; clear n0_ n1_ n2_; clear ho hb hg hat)); try go_wp2_with (first | ((with_reducible refine gate_builtin (b := .append) (xs := #[.tmp 54, .tmp 60]) rfl ?_); at_builtin; refine Kd.R_append k39 (w0 := w) w.heap.size rfl (.tmp 54) (.tmp 60) 22 39 (.agg #[(.string ⟨#[]⟩), (.string ⟨#[]⟩)]) 32 rfl Try.underlying22 info39 rfl (by decide) (by omega) u5 x5_1 (⟨a1_1, a1_2⟩ : S39) [.string a1_1, .string a1_2] (fun _ => True) (fun _ => False) rfl rfl ?aP (fun _ hk => hk.elim) ?aF ?aO ?aB ?aS ?aL ?_; (case aP => exact k39_mkM _ _ _ (⟨a1_1, a1_2⟩ : S39)); (case aB => exact (by repeat (first | (with_reducible first | exact HB.out | apply below_alloc | apply pw_below_drewN | apply below_drew1 | refine below_set ?_ GE182.out) | exact HB.out))); (case aF => exact (fun _ _ => trivial)); (case aO => exact (by (with_reducible repeat (first | apply Kd.R_alloc | apply Kd.R_drewN | apply Kd.R_drew)); exact HO_5.out)); (case aS => exact (below_size (by repeat (first | (with_reducible first | exact HB.out | apply below_alloc | apply pw_below_drewN | apply below_drew1 | refine below_set ?_ GE182.out) | exact HB.out)))); (case aL => have := LMc31.out; omega); intro v184 w33 ho hb hg hat; rw [← Ny183.out] at ho; have n0_ := Aside0.mk (blk_grown (g := gb182) (o := .cells #[.int .u8 a1_0, .string a1_1, .string a1_2] 36 (0, 0)) (by (with_reducible repeat (first | refine blk_drewN ?_ _ | refine blk_drew ?_ | refine blk_alloc ?_ _)); exact BK182.out) hg (Kd.R_ne HO_5.out BK182.out (by decide))); have n1_ := Aside0.mk (hb); have n2_ := Aside0.mk (ho); clear BK182; clear HB; clear HO_5; have BK182 := n0_; have HB := n1_; have HO185 := n2_; clear n0_ n1_ n2_; clear ho hb hg hat)))
            go_ret
            exact ⟨_, by first | rfl | (simp [errW_none, errW_some] <;> rfl) | (simp [*, errW_none, errW_some] <;> rfl), by (with_reducible repeat (first | apply Kd.R_alloc | apply Kd.R_drewN | apply Kd.R_drew)); exact HO185.out, by repeat (first | (with_reducible first | exact HB.out | apply below_alloc | apply pw_below_drewN | apply below_drew1 | refine below_set ?_ GE182.out) | exact HB.out)⟩
          · rw [if_neg c31] at H
            exact absurd H (by simp)

end Go.Proofs.Ytkncjpafehnmnaa.P

end

section
namespace Go.Proofs.Ytkncjpafehnmnaa.P
open Go.RowKit Go.Proofs.YtkncjpafehnmnaaG Go.Proofs.YtkncjpafehnmnaaW.PrintWords Go.Proofs.YtkncjpafehnmnaaW.PrintLast Go.Proofs.YtkncjpafehnmnaaW.PrintMore
attribute [local go_sem] str_gtr str_geq str_leq max2_int min2_int max_two min_two max_three min_three max_four min_four   -- for this text's walks alone
set_option linter.unusedVariables false
set_option linter.unusedSimpArgs false

def ratlineref12_Apply.l0 : Nat → List (S36) → List (S39) → Int → Option ((List (S39)))
  | 0, _, _, _ => none
  | k + 1, x1, x5, x6 => if x6 < (x1.length : Int) then (if 0 ≤ x6 then ((ratlineref04_Op.f ((rd_T36 x1 x6).f0) ((rd_T36 x1 x6).f1) ((rd_T36 x1 x6).f2)).bind fun t204 => (if t204 = true then ((ratlineref12_one.f k x5 ((rd_T36 x1 x6).f0) ((rd_T36 x1 x6).f1) ((rd_T36 x1 x6).f2)).bind fun t206 => (ratlineref12_Apply.l0 k x1 t206 (wrap64 (x6 + 1)))) else (ratlineref12_Apply.l0 k x1 x5 (wrap64 (x6 + 1))))) else (none)) else (some x5)
def ratlineref12_Apply.f (k : Nat) (l0 : List (S39)) (l1 : List (S36)) : Option ((List (S39))) := if ([] : List (S39)).length + l0.length < 4398046511104 then (ratlineref12_Apply.l0 k l1 (([] : List (S39)) ++ l0) 0) else (none)
set_option maxHeartbeats 8000000 in
set_option maxRecDepth 100000 in
theorem ratlineref12_Apply.calls (k : Nat) (A0 : Option Addr) (c0 : Nat) (l0 : List (S39)) (A1 : Option Addr) (c1 : Nat) (l1 : List (S36)) (r : List (S39)) (w : World) (hr0 : Kd.C k39 w A0 l0.length l0) (hc0 : l0.length ≤ c0) (hr1 : Kd.C k36 w A1 l1.length l1) (hc1 : l1.length ≤ c1) (h : ratlineref12_Apply.f k l0 l1 = some r) :
    Calls Try.prog 22 #[.slice A0 l0.length c0, .slice A1 l1.length c1] w fun e w' => ∃ v0_ : Value, e = .returned (v0_) ∧ Kd.R k39 39 w' w.heap.size (fun _ => True) v0_ r ∧ Below w.heap.size w w' := by
  have hu36 := Try.underlying36
  have HR0 := Aside0.mk hr0
  have HC0 := Aside0.mk hc0
  clear hr0 hc0
  have HR1 := Aside0.mk hr1
  have HC1 := Aside0.mk hc1
  clear hr1 hc1
  have HB := Aside0.mk (Below.refl w.heap.size w)
  have H : (if ([] : List (S39)).length + l0.length < 4398046511104 then (ratlineref12_Apply.l0 k l1 (([] : List (S39)) ++ l0) 0) else (none)) = some r := h
  clear h
  by_cases c3 : ([] : List (S39)).length + l0.length < 4398046511104
  · rw [if_pos c3] at H
    have LMc3 := Aside0.mk c3
    clear c3
    obtain ⟨y200, hy200⟩ : ∃ y_ : List (S39), y_ = (([] : List (S39)) ++ l0) := ⟨_, rfl⟩
    replace H : (ratlineref12_Apply.l0 k l1 y200 0) = some r := by first | (rw [hy200]; with_reducible exact H) | (have H2_ := (Option.bind_some _ _).symm.trans H; rw [hy200]; with_reducible exact H2_) | (have H2_ := (Option.bind_some _ _).symm.trans H; with_reducible exact H2_) | with_reducible exact H | (rw [hy200]; exact H) | exact H
    have Ny200 := Aside0.mk hy200
    clear hy200
    have H' := Aside0.mk H
    clear H
    go_enter Try.func22, Try.ntmps22
    go_wp2_with (first | ((with_reducible refine gate_builtin (b := .append) (xs := #[.tmp 7, .tmp 8]) rfl ?_); at_builtin; refine Kd.R_append_rows k39 (w0 := w) w.heap.size rfl (.tmp 7) (.tmp 8) 22 39 (.agg #[(.string ⟨#[]⟩), (.string ⟨#[]⟩)]) 32 rfl Try.underlying22 info39 rfl (by decide) (by omega) (.slice none 0 0) ([] : List (S39)) l0 _ _ _ (fun _ => True) (fun _ => False) rfl rfl ?aO ?aR (fun _ _ h => h) (fun _ h => h.elim) ?aF ?aB ?aS ?aL ?_; (case aR => repeat (first | exact HR0.out | (with_reducible refine Kd.C_alloc ?_ _) | (with_reducible refine Kd.C_drewN ?_ _) | (with_reducible refine Kd.C_drew ?_))); (case aB => exact (by repeat (first | (with_reducible first | exact HB.out | apply below_alloc | apply pw_below_drewN | apply below_drew1) | exact HB.out))); (case aF => exact (fun _ _ => trivial)); (case aO => exact ((Kd.R_nil _ _ _ _ (fun _ => True)))); (case aS => exact (below_size (by repeat (first | (with_reducible first | exact HB.out | apply below_alloc | apply pw_below_drewN | apply below_drew1) | exact HB.out)))); (case aL => have := LMc3.out; omega); intro v201 w4 ho hb hg hat; rw [← Ny200.out] at ho; have n0_ := Aside0.mk (hb); have n1_ := Aside0.mk (ho); clear HB; have HB := n0_; have HO202 := n1_; clear n0_ n1_; clear ho hb hg hat))
    go_loopg [5, 6] k (fun kq v5 v6 w' => ∃ (x5_1 : List (S39)) (x6_1 : Int), v6 = .int .i64 x6_1 ∧ Aside0 (ratlineref12_Apply.l0 kq l1 x5_1 x6_1 = some r) ∧ Aside0 (kq ≤ k) ∧ Aside0 (Kd.R k39 39 w' w.heap.size (fun _ => True) v5 x5_1) ∧ Aside0 (Below w.heap.size w w'))
    case atStart => exact ⟨(y200), (0), (by first | rfl | (simp; done) | (simp [*]; done)), H', ⟨Nat.le_refl _⟩, ⟨by (with_reducible repeat (first | apply Kd.R_alloc | apply Kd.R_drewN | apply Kd.R_drew)); exact HO202.out⟩, ⟨by repeat (first | (with_reducible first | exact HB.out | apply below_alloc | apply pw_below_drewN | apply below_drew1) | exact HB.out)⟩⟩
    case round =>
      clear H'
      try clear c1
      try clear c2
      try clear p2
      try clear c3
      obtain ⟨x5_1, x6_1, rfl, HA, HK1, HO_5, HB⟩ := hrel
      cases gk with
      | zero => exact absurd HA.out (by simp [ratlineref12_Apply.l0])
      | succ k1 =>
        have H := HA.out
        clear HA
        simp only [ratlineref12_Apply.l0] at H
        by_cases c5 : x6_1 < (l1.length : Int)
        · rw [if_pos c5] at H
          have c5b0 : decide (x6_1 < (l1.length : Int)) = true := decide_eq_true c5
          clear c5
          by_cases c6 : 0 ≤ x6_1
          · rw [if_pos c6] at H
            have c6b0 : decide (0 ≤ x6_1) = true := decide_eq_true c6
            clear c6
            replace H := Option.bind_eq_some_iff.mp H
            obtain ⟨t204, A70, H⟩ := H
            replace H : (if t204 = true then ((ratlineref12_one.f k1 x5_1 ((rd_T36 l1 x6_1).f0) ((rd_T36 l1 x6_1).f1) ((rd_T36 l1 x6_1).f2)).bind fun t206 => (ratlineref12_Apply.l0 k1 l1 t206 (wrap64 (x6_1 + 1)))) else (ratlineref12_Apply.l0 k1 l1 x5_1 (wrap64 (x6_1 + 1)))) = some r := H
            have A7 := Aside0.mk A70
            clear A70
            by_cases c8 : t204 = true
            · subst c8
              have H1 : ((ratlineref12_one.f k1 x5_1 ((rd_T36 l1 x6_1).f0) ((rd_T36 l1 x6_1).f1) ((rd_T36 l1 x6_1).f2)).bind fun t206 => (ratlineref12_Apply.l0 k1 l1 t206 (wrap64 (x6_1 + 1)))) = some r := by rw [if_pos rfl] at H; exact H
              clear H
              have H := H1
              clear H1
              replace H := Option.bind_eq_some_iff.mp H
              obtain ⟨t206, A90, H⟩ := H
              replace H : (ratlineref12_Apply.l0 k1 l1 t206 (wrap64 (x6_1 + 1))) = some r := H
              have A9 := Aside0.mk A90
              clear A90
              have H' := Aside0.mk H
              clear H
              have p203 : 0 ≤ (x6_1 : Int) := of_decide_eq_true (by first | (with_reducible assumption) | assumption)
              have q203 : x6_1 < (l1.length : Int) := of_decide_eq_true (by first | (with_reducible assumption) | assumption)
              obtain ⟨ad203, e203, hx203_0, hx203_1, hx203_2⟩ := at_T36 HR1.out x6_1 p203 q203
              cases e203
              replace hx203_0 := (HB.out.cell (World.block_lt_of_cell? w _ hx203_0)).trans hx203_0
              replace hx203_1 := (HB.out.cell (World.block_lt_of_cell? w _ hx203_1)).trans hx203_1
              replace hx203_2 := (HB.out.cell (World.block_lt_of_cell? w _ hx203_2)).trans hx203_2
              replace p203 := eq_true p203
              replace q203 := eq_true q203
              go_wp2_with (first | ((with_reducible refine gate_callee (f := 46) rfl ?_); refine goesL_ (some 20) rfl rfl Try.func46 (by kernel_rfl) rfl #[.agg #[.int .u8 ((rd_T36 l1 x6_1).f0), .string ((rd_T36 l1 x6_1).f1), .string ((rd_T36 l1 x6_1).f2)]] rfl (by (try simp only [List.map_toArray, List.map_cons, List.map_nil]); first | done | rfl | (simp only [List.length_drop, List.length_take]; rfl)) ?_; (with_reducible refine (ratlineref04_Op.calls ((rd_T36 l1 x6_1).f0) ((rd_T36 l1 x6_1).f1) ((rd_T36 l1 x6_1).f2) true _ A7.out).mono ?_); rintro e w10 ⟨rfl, hb⟩; refine ⟨_, rfl, ?_⟩; have n0_ := Aside0.mk (Kd.R_below (by (with_reducible repeat (first | apply Kd.R_alloc | apply Kd.R_drewN | apply Kd.R_drew)); exact HO_5.out) hb); have n1_ := Aside0.mk (below_step (by repeat (first | (with_reducible first | exact HB.out | apply below_alloc | apply pw_below_drewN | apply below_drew1) | exact HB.out)) hb); clear HO_5; clear HB; have HO_5 := n0_; have HB := n1_; clear n0_ n1_; (try clear hb); (try clear hb2); (try clear hk); (try clear hi); have p205 : 0 ≤ (x6_1 : Int) := of_decide_eq_true (by first | (with_reducible assumption) | assumption); have q205 : x6_1 < (l1.length : Int) := of_decide_eq_true (by first | (with_reducible assumption) | assumption); obtain ⟨ad205, e205, hx205_0, hx205_1, hx205_2⟩ := at_T36 HR1.out x6_1 p205 q205; obtain rfl : ad203 = ad205 := (by injection e205); replace hx205_0 := (HB.out.cell (World.block_lt_of_cell? w _ hx205_0)).trans hx205_0; replace hx205_1 := (HB.out.cell (World.block_lt_of_cell? w _ hx205_1)).trans hx205_1; replace hx205_2 := (HB.out.cell (World.block_lt_of_cell? w _ hx205_2)).trans hx205_2; replace p205 := eq_true p205; replace q205 := eq_true q205; obtain ⟨Ao11, co11, eo11⟩ := Kd.R_slice HO_5.out; subst eo11) | ((with_reducible refine gate_callee (f := 47) rfl ?_); refine goesL_ (some 26) rfl rfl Try.func47 (by kernel_rfl) rfl #[.slice Ao11 x5_1.length co11, .agg #[.int .u8 ((rd_T36 l1 x6_1).f0), .string ((rd_T36 l1 x6_1).f1), .string ((rd_T36 l1 x6_1).f2)]] rfl (by (try simp only [List.map_toArray, List.map_cons, List.map_nil]); first | done | rfl | (simp only [List.length_drop, List.length_take]; rfl)) ?_; (with_reducible refine (ratlineref12_one.calls k1 _ _ x5_1 ((rd_T36 l1 x6_1).f0) ((rd_T36 l1 x6_1).f1) ((rd_T36 l1 x6_1).f2) t206 _ ?side1 ?side2 A9.out).mono ?_); (case side1 => repeat (first | exact (Kd.R_reads' HO_5.out).2.2 | (with_reducible refine Kd.C_alloc ?_ _) | (with_reducible refine Kd.C_drewN ?_ _) | (with_reducible refine Kd.C_drew ?_))); (case side2 => exact (Kd.R_reads' HO_5.out).2.1); rintro e w12 ⟨v207, rfl, ho0, hb⟩; refine ⟨_, rfl, ?_⟩; have n0_ := Aside0.mk (Kd.R_elder' (by (with_reducible repeat (first | apply Kd.R_alloc | apply Kd.R_drewN | apply Kd.R_drew)); exact HO_5.out) (Kd.R_base ho0) hb); have n1_ := Aside0.mk (Kd.R_lower (Kd.R_new' ho0 (Kd.R_lt (by (with_reducible repeat (first | apply Kd.R_alloc | apply Kd.R_drewN | apply Kd.R_drew)); exact HO_5.out))) (below_size (by repeat (first | (with_reducible first | exact HB.out | apply below_alloc | apply pw_below_drewN | apply below_drew1) | exact HB.out)))); have n2_ := Aside0.mk (below_step (by repeat (first | (with_reducible first | exact HB.out | apply below_alloc | apply pw_below_drewN | apply below_drew1) | exact HB.out)) hb); clear HO_5; clear HB; have HO_5 := n0_; have HO208 := n1_; have HB := n2_; clear n0_ n1_ n2_; (try clear hb); (try clear hb2); (try clear hk); (try clear hi); (try clear ho0)))
              go_roundg k1
              case measure => have := HK1.out; omega
              case rel => exact ⟨(t206), (wrap64 (x6_1 + 1)), (by first | rfl | (simp; done) | (simp [*]; done)), H', ⟨by have := HK1.out; omega⟩, ⟨by (with_reducible repeat (first | apply Kd.R_alloc | apply Kd.R_drewN | apply Kd.R_drew)); exact Kd.R_mono HO208.out (fun _ hk => trivial)⟩, ⟨by repeat (first | (with_reducible first | exact HB.out | apply below_alloc | apply pw_below_drewN | apply below_drew1) | exact HB.out)⟩⟩
            · replace c8 := Bool.eq_false_iff.mpr c8
              subst c8
              have H1 : (ratlineref12_Apply.l0 k1 l1 x5_1 (wrap64 (x6_1 + 1))) = some r := by rw [if_neg (show ¬ (false = true) by decide)] at H; exact H
              clear H
              have H := H1
              clear H1
              have H' := Aside0.mk H
              clear H
              have p203 : 0 ≤ (x6_1 : Int) := of_decide_eq_true (by first | (with_reducible assumption) | assumption)
              have q203 : x6_1 < (l1.length : Int) := of_decide_eq_true (by first | (with_reducible assumption) | assumption)
              obtain ⟨ad203, e203, hx203_0, hx203_1, hx203_2⟩ := at_T36 HR1.out x6_1 p203 q203
              cases e203
              replace hx203_0 := (HB.out.cell (World.block_lt_of_cell? w _ hx203_0)).trans hx203_0
              replace hx203_1 := (HB.out.cell (World.block_lt_of_cell? w _ hx203_1)).trans hx203_1
              replace hx203_2 := (HB.out.cell (World.block_lt_of_cell? w _ hx203_2)).trans hx203_2
              replace p203 := eq_true p203
              replace q203 := eq_true q203
              go_wp2_with (first | ((with_reducible refine gate_callee (f := 46) rfl ?_); refine goesL_ (some 20) rfl rfl Try.func46 (by kernel_rfl) rfl #[.agg #[.int .u8 ((rd_T36 l1 x6_1).f0), .string ((rd_T36 l1 x6_1).f1), .string ((rd_T36 l1 x6_1).f2)]] rfl (by (try simp only [List.map_toArray, List.map_cons, List.map_nil]); first | done | rfl | (simp only [List.length_drop, List.length_take]; rfl)) ?_; (with_reducible refine (ratlineref04_Op.calls ((rd_T36 l1 x6_1).f0) ((rd_T36 l1 x6_1).f1) ((rd_T36 l1 x6_1).f2) false _ A7.out).mono ?_); rintro e w13 ⟨rfl, hb⟩; refine ⟨_, rfl, ?_⟩; have n0_ := Aside0.mk (Kd.R_below (by (with_reducible repeat (first | apply Kd.R_alloc | apply Kd.R_drewN | apply Kd.R_drew)); exact HO_5.out) hb); have n1_ := Aside0.mk (below_step (by repeat (first | (with_reducible first | exact HB.out | apply below_alloc | apply pw_below_drewN | apply below_drew1) | exact HB.out)) hb); clear HO_5; clear HB; have HO_5 := n0_; have HB := n1_; clear n0_ n1_; (try clear hb); (try clear hb2); (try clear hk); (try clear hi)))
              go_roundg k1
              case measure => have := HK1.out; omega
              case rel => exact ⟨(x5_1), (wrap64 (x6_1 + 1)), (by first | rfl | (simp; done) | (simp [*]; done)), H', ⟨by have := HK1.out; omega⟩, ⟨by (with_reducible repeat (first | apply Kd.R_alloc | apply Kd.R_drewN | apply Kd.R_drew)); exact HO_5.out⟩, ⟨by repeat (first | (with_reducible first | exact HB.out | apply below_alloc | apply pw_below_drewN | apply below_drew1) | exact HB.out)⟩⟩
          · rw [if_neg c6] at H
            exact absurd H (by simp)
        · rw [if_neg c5] at H
          have c5b0 : decide (x6_1 < (l1.length : Int)) = false := decide_eq_false c5
          clear c5
          obtain rfl := Option.some.inj H
          go_wp2
          go_ret
          exact ⟨_, by first | rfl | (simp [errW_none, errW_some] <;> rfl) | (simp [*, errW_none, errW_some] <;> rfl), by (with_reducible repeat (first | apply Kd.R_alloc | apply Kd.R_drewN | apply Kd.R_drew)); exact HO_5.out, by repeat (first | (with_reducible first | exact HB.out | apply below_alloc | apply pw_below_drewN | apply below_drew1) | exact HB.out)⟩
  · rw [if_neg c3] at H
    exact absurd H (by simp)

end Go.Proofs.Ytkncjpafehnmnaa.P

end

section
namespace Go.Proofs.Ytkncjpafehnmnaa.P
open Go.RowKit Go.Proofs.YtkncjpafehnmnaaG Go.Proofs.YtkncjpafehnmnaaW.PrintWords Go.Proofs.YtkncjpafehnmnaaW.PrintLast Go.Proofs.YtkncjpafehnmnaaW.PrintMore
attribute [local go_sem] str_gtr str_geq str_leq max2_int min2_int max_two min_two max_three min_three max_four min_four   -- for this text's walks alone
set_option linter.unusedVariables false
set_option linter.unusedSimpArgs false

def ratlineref12_Scan.l0 : Nat → List (S39) → ByteArray → ByteArray → Int → List (S39) → Int → Option ((List (S39)))
  | 0, _, _, _, _, _, _ => none
  | k + 1, x0, x1, x2, x3, x9, x10 => if x10 < (x0.length : Int) then (if (x9.length : Int) < x3 then (if 0 ≤ x10 then (if ((Op.bytesLess (((rd_T39 x0 x10).f0).toList) x1.toList) = true) then (ratlineref12_Scan.l0 k x0 x1 x2 x3 x9 (wrap64 (x10 + 1))) else (if x2.toList = ([] : List UInt8) then (if x9.length < 4398046511104 then (ratlineref12_Scan.l0 k x0 x1 x2 x3 (x9 ++ [(⟨(rd_T39 x0 x10).f0, (rd_T39 x0 x10).f1⟩ : S39)]) (wrap64 (x10 + 1))) else (none)) else (if (Op.bytesLess (((rd_T39 x0 x10).f0).toList) x2.toList) = true then (if x9.length < 4398046511104 then (ratlineref12_Scan.l0 k x0 x1 x2 x3 (x9 ++ [(⟨(rd_T39 x0 x10).f0, (rd_T39 x0 x10).f1⟩ : S39)]) (wrap64 (x10 + 1))) else (none)) else (ratlineref12_Scan.l0 k x0 x1 x2 x3 x9 (wrap64 (x10 + 1)))))) else (none)) else (ratlineref12_Scan.l0 k x0 x1 x2 x3 x9 (wrap64 (x10 + 1)))) else (some x9)
def ratlineref12_Scan.f (k : Nat) (l0 : List (S39)) (a1 : ByteArray) (a2 : ByteArray) (a3 : Int) : Option ((List (S39))) := ratlineref12_Scan.l0 k l0 a1 a2 a3 ([] : List (S39)) 0
set_option maxHeartbeats 8000000 in
set_option maxRecDepth 100000 in
theorem ratlineref12_Scan.calls (k : Nat) (A0 : Option Addr) (c0 : Nat) (l0 : List (S39)) (a1 : ByteArray) (a2 : ByteArray) (a3 : Int) (r : List (S39)) (w : World) (hr0 : Kd.C k39 w A0 l0.length l0) (hc0 : l0.length ≤ c0) (h : ratlineref12_Scan.f k l0 a1 a2 a3 = some r) :
    Calls Try.prog 24 #[.slice A0 l0.length c0, .string a1, .string a2, .int .i64 a3] w fun e w' => ∃ v0_ : Value, e = .returned (v0_) ∧ Kd.R k39 39 w' w.heap.size (fun _ => True) v0_ r ∧ Below w.heap.size w w' := by
  have hu39 := Try.underlying39
  have HR0 := Aside0.mk hr0
  have HC0 := Aside0.mk hc0
  clear hr0 hc0
  have HB := Aside0.mk (Below.refl w.heap.size w)
  have H : (ratlineref12_Scan.l0 k l0 a1 a2 a3 ([] : List (S39)) 0) = some r := h
  clear h
  have H' := Aside0.mk H
  clear H
  go_enter Try.func24, Try.ntmps24
  go_wp2
  go_loopg [9, 10] k (fun kq v9 v10 w' => ∃ (x9_1 : List (S39)) (x10_1 : Int), v10 = .int .i64 x10_1 ∧ Aside0 (ratlineref12_Scan.l0 kq l0 a1 a2 a3 x9_1 x10_1 = some r) ∧ Aside0 (kq ≤ k) ∧ Aside0 (Kd.R k39 39 w' w.heap.size (fun _ => True) v9 x9_1) ∧ Aside0 (Below w.heap.size w w'))
  case atStart => exact ⟨(([] : List (S39))), (0), (by first | rfl | (simp; done) | (simp [*]; done)), H', ⟨Nat.le_refl _⟩, ⟨by first | exact Kd.R_nil _ _ _ _ _ | exact Kd.N_nil _ _ _ _ _ | exact Kd.V_nil _ _ _ _ _ | exact Kd.Q_nil _ _ _ _ _ | exact Kd.S_nil _ _ _ _ _⟩, ⟨by repeat (first | (with_reducible first | exact HB.out | apply below_alloc | apply pw_below_drewN | apply below_drew1) | exact HB.out)⟩⟩
  case round =>
    clear H'
    try clear c2
    try clear p2
    obtain ⟨x9_1, x10_1, rfl, HA, HK1, HO_9, HB⟩ := hrel
    cases gk with
    | zero => exact absurd HA.out (by simp [ratlineref12_Scan.l0])
    | succ k1 =>
      have H := HA.out
      clear HA
      simp only [ratlineref12_Scan.l0] at H
      by_cases c5 : x10_1 < (l0.length : Int)
      · rw [if_pos c5] at H
        have c5b0 : decide (x10_1 < (l0.length : Int)) = true := decide_eq_true c5
        clear c5
        by_cases c6 : (x9_1.length : Int) < a3
        · rw [if_pos c6] at H
          have c6b0 : decide ((x9_1.length : Int) < a3) = true := decide_eq_true c6
          clear c6
          by_cases c7 : 0 ≤ x10_1
          · rw [if_pos c7] at H
            have c7b0 : decide (0 ≤ x10_1) = true := decide_eq_true c7
            clear c7
            by_cases c8 : ((Op.bytesLess (((rd_T39 l0 x10_1).f0).toList) a1.toList) = true)
            · rw [if_pos c8] at H
              have c8b0 : (Op.bytesLess (((rd_T39 l0 x10_1).f0).toList) a1.toList) = true := c8
              clear c8
              have H' := Aside0.mk H
              clear H
              obtain ⟨Ao9, co9, eo9⟩ := Kd.R_slice HO_9.out
              subst eo9
              have p209 : 0 ≤ (x10_1 : Int) := of_decide_eq_true (by first | (with_reducible assumption) | assumption)
              have q209 : x10_1 < (l0.length : Int) := of_decide_eq_true (by first | (with_reducible assumption) | assumption)
              obtain ⟨ad209, e209, hx209_0, hx209_1⟩ := at_T39 HR0.out x10_1 p209 q209
              cases e209
              replace hx209_0 := (HB.out.cell (World.block_lt_of_cell? w _ hx209_0)).trans hx209_0
              replace hx209_1 := (HB.out.cell (World.block_lt_of_cell? w _ hx209_1)).trans hx209_1
              replace p209 := eq_true p209
              replace q209 := eq_true q209
              go_wp2
              go_roundg k1
              case measure => have := HK1.out; omega
              case rel => exact ⟨(x9_1), (wrap64 (x10_1 + 1)), (by first | rfl | (simp; done) | (simp [*]; done)), H', ⟨by have := HK1.out; omega⟩, ⟨by (with_reducible repeat (first | apply Kd.R_alloc | apply Kd.R_drewN | apply Kd.R_drew)); exact HO_9.out⟩, ⟨by repeat (first | (with_reducible first | exact HB.out | apply below_alloc | apply pw_below_drewN | apply below_drew1) | exact HB.out)⟩⟩
            · rw [if_neg c8] at H
              have c8b0 : (Op.bytesLess (((rd_T39 l0 x10_1).f0).toList) a1.toList) = false := by simpa using c8
              clear c8
              by_cases c10 : a2.toList = ([] : List UInt8)
              · rw [if_pos c10] at H
                have c10b0 : (a2.toList == ([] : List UInt8)) = true := beq_iff_eq.mpr c10
                have c10b1 : (a2.toList != ([] : List UInt8)) = false := bne_eq_false_iff_eq.mpr c10
                clear c10
                by_cases c11 : x9_1.length < 4398046511104
                · rw [if_pos c11] at H
                  have LMc11 := Aside0.mk c11
                  clear c11
                  obtain ⟨y211, hy211⟩ : ∃ y_ : List (S39), y_ = (x9_1 ++ [(⟨(rd_T39 l0 x10_1).f0, (rd_T39 l0 x10_1).f1⟩ : S39)]) := ⟨_, rfl⟩
                  replace H : (ratlineref12_Scan.l0 k1 l0 a1 a2 a3 y211 (wrap64 (x10_1 + 1))) = some r := by first | (rw [hy211]; with_reducible exact H) | (have H2_ := (Option.bind_some _ _).symm.trans H; rw [hy211]; with_reducible exact H2_) | (have H2_ := (Option.bind_some _ _).symm.trans H; with_reducible exact H2_) | with_reducible exact H | (rw [hy211]; exact H) | exact H
                  have Ny211 := Aside0.mk hy211
                  clear hy211
                  have H' := Aside0.mk H
                  clear H
                  obtain ⟨Ao12, co12, eo12⟩ := Kd.R_slice HO_9.out
                  subst eo12
                  have p209 : 0 ≤ (x10_1 : Int) := of_decide_eq_true (by first | (with_reducible assumption) | assumption)
                  have q209 : x10_1 < (l0.length : Int) := of_decide_eq_true (by first | (with_reducible assumption) | assumption)
                  obtain ⟨ad209, e209, hx209_0, hx209_1⟩ := at_T39 HR0.out x10_1 p209 q209
                  cases e209
                  replace hx209_0 := (HB.out.cell (World.block_lt_of_cell? w _ hx209_0)).trans hx209_0
                  replace hx209_1 := (HB.out.cell (World.block_lt_of_cell? w _ hx209_1)).trans hx209_1
                  replace p209 := eq_true p209
                  replace q209 := eq_true q209
                  have p210 : 0 ≤ (x10_1 : Int) := of_decide_eq_true (by first | (with_reducible assumption) | assumption)
                  have q210 : x10_1 < (l0.length : Int) := of_decide_eq_true (by first | (with_reducible assumption) | assumption)
                  obtain ⟨ad210, e210, hx210_0, hx210_1⟩ := at_T39 HR0.out x10_1 p210 q210
                  obtain rfl : ad209 = ad210 := (by injection e210)
                  replace hx210_0 := (HB.out.cell (World.block_lt_of_cell? w _ hx210_0)).trans hx210_0
                  replace hx210_1 := (HB.out.cell (World.block_lt_of_cell? w _ hx210_1)).trans hx210_1
                  replace p210 := eq_true p210
                  replace q210 := eq_true q210
                  go_wp2_with (first | ((with_reducible refine gate_builtin (b := .append) (xs := #[.tmp 43, .tmp 48]) rfl ?_); at_builtin; refine Kd.R_append k39 (w0 := w) w.heap.size rfl (.tmp 43) (.tmp 48) 22 39 (.agg #[(.string ⟨#[]⟩), (.string ⟨#[]⟩)]) 32 rfl Try.underlying22 info39 rfl (by decide) (by omega) (.slice Ao12 x9_1.length co12) x9_1 (⟨(rd_T39 l0 x10_1).f0, (rd_T39 l0 x10_1).f1⟩ : S39) [.string ((rd_T39 l0 x10_1).f0), .string ((rd_T39 l0 x10_1).f1)] (fun _ => True) (fun _ => False) rfl rfl ?aP (fun _ hk => hk.elim) ?aF ?aO ?aB ?aS ?aL ?_; (case aP => exact k39_mkM _ _ _ (⟨(rd_T39 l0 x10_1).f0, (rd_T39 l0 x10_1).f1⟩ : S39)); (case aB => exact (by repeat (first | (with_reducible first | exact HB.out | apply below_alloc | apply pw_below_drewN | apply below_drew1) | exact HB.out))); (case aF => exact (fun _ _ => trivial)); (case aO => exact (by (with_reducible repeat (first | apply Kd.R_alloc | apply Kd.R_drewN | apply Kd.R_drew)); exact HO_9.out)); (case aS => exact (below_size (by repeat (first | (with_reducible first | exact HB.out | apply below_alloc | apply pw_below_drewN | apply below_drew1) | exact HB.out)))); (case aL => have := LMc11.out; omega); intro v212 w13 ho hb hg hat; rw [← Ny211.out] at ho; have n0_ := Aside0.mk (hb); have n1_ := Aside0.mk (ho); clear HB; clear HO_9; have HB := n0_; have HO213 := n1_; clear n0_ n1_; clear ho hb hg hat))
                  go_roundg k1
                  case measure => have := HK1.out; omega
                  case rel => exact ⟨(y211), (wrap64 (x10_1 + 1)), (by first | rfl | (simp; done) | (simp [*]; done)), H', ⟨by have := HK1.out; omega⟩, ⟨by (with_reducible repeat (first | apply Kd.R_alloc | apply Kd.R_drewN | apply Kd.R_drew)); exact HO213.out⟩, ⟨by repeat (first | (with_reducible first | exact HB.out | apply below_alloc | apply pw_below_drewN | apply below_drew1) | exact HB.out)⟩⟩
                · rw [if_neg c11] at H
                  exact absurd H (by simp)
              · rw [if_neg c10] at H
                have c10b0 : (a2.toList == ([] : List UInt8)) = false := beq_eq_false_iff_ne.mpr c10
                have c10b1 : (a2.toList != ([] : List UInt8)) = true := bne_iff_ne.mpr c10
                by_cases c14 : (Op.bytesLess (((rd_T39 l0 x10_1).f0).toList) a2.toList) = true
                · rw [if_pos c14] at H
                  have c14b0 : (Op.bytesLess (((rd_T39 l0 x10_1).f0).toList) a2.toList) = true := c14
                  clear c14
                  by_cases c15 : x9_1.length < 4398046511104
                  · rw [if_pos c15] at H
                    have LMc15 := Aside0.mk c15
                    clear c15
                    obtain ⟨y216, hy216⟩ : ∃ y_ : List (S39), y_ = (x9_1 ++ [(⟨(rd_T39 l0 x10_1).f0, (rd_T39 l0 x10_1).f1⟩ : S39)]) := ⟨_, rfl⟩
                    replace H : (ratlineref12_Scan.l0 k1 l0 a1 a2 a3 y216 (wrap64 (x10_1 + 1))) = some r := by first | (rw [hy216]; with_reducible exact H) | (have H2_ := (Option.bind_some _ _).symm.trans H; rw [hy216]; with_reducible exact H2_) | (have H2_ := (Option.bind_some _ _).symm.trans H; with_reducible exact H2_) | with_reducible exact H | (rw [hy216]; exact H) | exact H
                    have Ny216 := Aside0.mk hy216
                    clear hy216
                    have H' := Aside0.mk H
                    clear H
                    obtain ⟨Ao16, co16, eo16⟩ := Kd.R_slice HO_9.out
                    subst eo16
                    have p209 : 0 ≤ (x10_1 : Int) := of_decide_eq_true (by first | (with_reducible assumption) | assumption)
                    have q209 : x10_1 < (l0.length : Int) := of_decide_eq_true (by first | (with_reducible assumption) | assumption)
                    obtain ⟨ad209, e209, hx209_0, hx209_1⟩ := at_T39 HR0.out x10_1 p209 q209
                    cases e209
                    replace hx209_0 := (HB.out.cell (World.block_lt_of_cell? w _ hx209_0)).trans hx209_0
                    replace hx209_1 := (HB.out.cell (World.block_lt_of_cell? w _ hx209_1)).trans hx209_1
                    replace p209 := eq_true p209
                    replace q209 := eq_true q209
                    have p214 : 0 ≤ (x10_1 : Int) := of_decide_eq_true (by first | (with_reducible assumption) | assumption)
                    have q214 : x10_1 < (l0.length : Int) := of_decide_eq_true (by first | (with_reducible assumption) | assumption)
                    obtain ⟨ad214, e214, hx214_0, hx214_1⟩ := at_T39 HR0.out x10_1 p214 q214
                    obtain rfl : ad209 = ad214 := (by injection e214)
                    replace hx214_0 := (HB.out.cell (World.block_lt_of_cell? w _ hx214_0)).trans hx214_0
                    replace hx214_1 := (HB.out.cell (World.block_lt_of_cell? w _ hx214_1)).trans hx214_1
                    replace p214 := eq_true p214
                    replace q214 := eq_true q214
                    have p215 : 0 ≤ (x10_1 : Int) := of_decide_eq_true (by first | (with_reducible assumption) | assumption)
                    have q215 : x10_1 < (l0.length : Int) := of_decide_eq_true (by first | (with_reducible assumption) | assumption)
                    obtain ⟨ad215, e215, hx215_0, hx215_1⟩ := at_T39 HR0.out x10_1 p215 q215
                    obtain rfl : ad209 = ad215 := (by injection e215)
                    replace hx215_0 := (HB.out.cell (World.block_lt_of_cell? w _ hx215_0)).trans hx215_0
                    replace hx215_1 := (HB.out.cell (World.block_lt_of_cell? w _ hx215_1)).trans hx215_1
                    replace p215 := eq_true p215
                    replace q215 := eq_true q215
                    go_wp2_with (first | ((with_reducible refine gate_builtin (b := .append) (xs := #[.tmp 43, .tmp 48]) rfl ?_); at_builtin; refine Kd.R_append k39 (w0 := w) w.heap.size rfl (.tmp 43) (.tmp 48) 22 39 (.agg #[(.string ⟨#[]⟩), (.string ⟨#[]⟩)]) 32 rfl Try.underlying22 info39 rfl (by decide) (by omega) (.slice Ao16 x9_1.length co16) x9_1 (⟨(rd_T39 l0 x10_1).f0, (rd_T39 l0 x10_1).f1⟩ : S39) [.string ((rd_T39 l0 x10_1).f0), .string ((rd_T39 l0 x10_1).f1)] (fun _ => True) (fun _ => False) rfl rfl ?aP (fun _ hk => hk.elim) ?aF ?aO ?aB ?aS ?aL ?_; (case aP => exact k39_mkM _ _ _ (⟨(rd_T39 l0 x10_1).f0, (rd_T39 l0 x10_1).f1⟩ : S39)); (case aB => exact (by repeat (first | (with_reducible first | exact HB.out | apply below_alloc | apply pw_below_drewN | apply below_drew1) | exact HB.out))); (case aF => exact (fun _ _ => trivial)); (case aO => exact (by (with_reducible repeat (first | apply Kd.R_alloc | apply Kd.R_drewN | apply Kd.R_drew)); exact HO_9.out)); (case aS => exact (below_size (by repeat (first | (with_reducible first | exact HB.out | apply below_alloc | apply pw_below_drewN | apply below_drew1) | exact HB.out)))); (case aL => have := LMc15.out; omega); intro v217 w17 ho hb hg hat; rw [← Ny216.out] at ho; have n0_ := Aside0.mk (hb); have n1_ := Aside0.mk (ho); clear HB; clear HO_9; have HB := n0_; have HO218 := n1_; clear n0_ n1_; clear ho hb hg hat))
                    go_roundg k1
                    case measure => have := HK1.out; omega
                    case rel => exact ⟨(y216), (wrap64 (x10_1 + 1)), (by first | rfl | (simp; done) | (simp [*]; done)), H', ⟨by have := HK1.out; omega⟩, ⟨by (with_reducible repeat (first | apply Kd.R_alloc | apply Kd.R_drewN | apply Kd.R_drew)); exact HO218.out⟩, ⟨by repeat (first | (with_reducible first | exact HB.out | apply below_alloc | apply pw_below_drewN | apply below_drew1) | exact HB.out)⟩⟩
                  · rw [if_neg c15] at H
                    exact absurd H (by simp)
                · rw [if_neg c14] at H
                  have c14b0 : (Op.bytesLess (((rd_T39 l0 x10_1).f0).toList) a2.toList) = false := by simpa using c14
                  clear c14
                  have H' := Aside0.mk H
                  clear H
                  obtain ⟨Ao18, co18, eo18⟩ := Kd.R_slice HO_9.out
                  subst eo18
                  have p209 : 0 ≤ (x10_1 : Int) := of_decide_eq_true (by first | (with_reducible assumption) | assumption)
                  have q209 : x10_1 < (l0.length : Int) := of_decide_eq_true (by first | (with_reducible assumption) | assumption)
                  obtain ⟨ad209, e209, hx209_0, hx209_1⟩ := at_T39 HR0.out x10_1 p209 q209
                  cases e209
                  replace hx209_0 := (HB.out.cell (World.block_lt_of_cell? w _ hx209_0)).trans hx209_0
                  replace hx209_1 := (HB.out.cell (World.block_lt_of_cell? w _ hx209_1)).trans hx209_1
                  replace p209 := eq_true p209
                  replace q209 := eq_true q209
                  have p214 : 0 ≤ (x10_1 : Int) := of_decide_eq_true (by first | (with_reducible assumption) | assumption)
                  have q214 : x10_1 < (l0.length : Int) := of_decide_eq_true (by first | (with_reducible assumption) | assumption)
                  obtain ⟨ad214, e214, hx214_0, hx214_1⟩ := at_T39 HR0.out x10_1 p214 q214
                  obtain rfl : ad209 = ad214 := (by injection e214)
                  replace hx214_0 := (HB.out.cell (World.block_lt_of_cell? w _ hx214_0)).trans hx214_0
                  replace hx214_1 := (HB.out.cell (World.block_lt_of_cell? w _ hx214_1)).trans hx214_1
                  replace p214 := eq_true p214
                  replace q214 := eq_true q214
                  go_wp2
                  go_roundg k1
                  case measure => have := HK1.out; omega
                  case rel => exact ⟨(x9_1), (wrap64 (x10_1 + 1)), (by first | rfl | (simp; done) | (simp [*]; done)), H', ⟨by have := HK1.out; omega⟩, ⟨by (with_reducible repeat (first | apply Kd.R_alloc | apply Kd.R_drewN | apply Kd.R_drew)); exact HO_9.out⟩, ⟨by repeat (first | (with_reducible first | exact HB.out | apply below_alloc | apply pw_below_drewN | apply below_drew1) | exact HB.out)⟩⟩
          · rw [if_neg c7] at H
            exact absurd H (by simp)
        · rw [if_neg c6] at H
          have c6b0 : decide ((x9_1.length : Int) < a3) = false := decide_eq_false c6
          clear c6
          have H' := Aside0.mk H
          clear H
          obtain ⟨Ao19, co19, eo19⟩ := Kd.R_slice HO_9.out
          subst eo19
          go_wp2
          go_roundg k1
          case measure => have := HK1.out; omega
          case rel => exact ⟨(x9_1), (wrap64 (x10_1 + 1)), (by first | rfl | (simp; done) | (simp [*]; done)), H', ⟨by have := HK1.out; omega⟩, ⟨by (with_reducible repeat (first | apply Kd.R_alloc | apply Kd.R_drewN | apply Kd.R_drew)); exact HO_9.out⟩, ⟨by repeat (first | (with_reducible first | exact HB.out | apply below_alloc | apply pw_below_drewN | apply below_drew1) | exact HB.out)⟩⟩
      · rw [if_neg c5] at H
        have c5b0 : decide (x10_1 < (l0.length : Int)) = false := decide_eq_false c5
        clear c5
        obtain rfl := Option.some.inj H
        go_wp2
        go_ret
        exact ⟨_, by first | rfl | (simp [errW_none, errW_some] <;> rfl) | (simp [*, errW_none, errW_some] <;> rfl), by (with_reducible repeat (first | apply Kd.R_alloc | apply Kd.R_drewN | apply Kd.R_drew)); exact HO_9.out, by repeat (first | (with_reducible first | exact HB.out | apply below_alloc | apply pw_below_drewN | apply below_drew1) | exact HB.out)⟩

end Go.Proofs.Ytkncjpafehnmnaa.P

end

section
namespace Go.Proofs.Ytkncjpafehnmnaa.P
open Go.RowKit Go.Proofs.YtkncjpafehnmnaaG Go.Proofs.YtkncjpafehnmnaaW.PrintWords Go.Proofs.YtkncjpafehnmnaaW.PrintLast Go.Proofs.YtkncjpafehnmnaaW.PrintMore
attribute [local go_sem] str_gtr str_geq str_leq max2_int min2_int max_two min_two max_three min_three max_four min_four   -- for this text's walks alone
set_option linter.unusedVariables false
set_option linter.unusedSimpArgs false

def ratlinelaw12_OmapTells.j0 : Nat → List (S39) → List (S36) → ByteArray → ByteArray → Int → Bool → Option (Bool)
  | 0, _, _, _, _, _, _ => none
  | k + 1, x0, x1, x2, x3, x4, x33 => if x33 = true then ((ratlinelaw12_awake.f k).bind fun t221 => (some t221)) else ((omap_Right.f k x0).bind fun t222 => ((ratlineref12_Right.f k x0).bind fun t223 => (if (t222 != t223) = true then (none) else ((ratlineref12_Right.f k x0).bind fun t224 => (if t224 = true then ((omap_Get.f x0 x2).bind fun bt226 => ((ratlineref12_Get.f k x0 x2).bind fun bt228 => (if bt226.1.toList = bt228.1.toList then (if (bt226.2 == bt228.2) = true then ((omap_Apply.f x0 x1).bind fun t230 => ((ratlineref12_Apply.f k x0 x1).bind fun t233 => ((ratlinelaw11_Pairs.f k t230 t233).bind fun t236 => (if t236 = true then ((omap_Scan.f x0 x2 x3 x4).bind fun t237 => ((ratlineref12_Scan.f k x0 x2 x3 x4).bind fun t240 => ((ratlinelaw11_Pairs.f k t237 t240).bind fun t243 => (if t243 = true then ((ratlinelaw12_awake.f k).bind fun t244 => (some t244)) else (none))))) else (none))))) else (none)) else (none)))) else ((ratlinelaw12_awake.f k).bind fun t225 => (some t225)))))))
def ratlinelaw12_OmapTells.f (k : Nat) (l0 : List (S39)) (l1 : List (S36)) (a2 : ByteArray) (a3 : ByteArray) (a4 : Int) : Option (Bool) := (ratlinelaw12_few.f k l0 60).bind fun t219 => (if t219 = true then ((ratlinelaw04_Few.f k l1 40).bind fun t220 => (if t220 = true then (if (a2.size : Int) > 70 then (ratlinelaw12_OmapTells.j0 k l0 l1 a2 a3 a4 true) else (ratlinelaw12_OmapTells.j0 k l0 l1 a2 a3 a4 (decide ((a3.size : Int) > 70)))) else (ratlinelaw12_OmapTells.j0 k l0 l1 a2 a3 a4 true))) else (ratlinelaw12_OmapTells.j0 k l0 l1 a2 a3 a4 true))
set_option maxHeartbeats 8000000 in
set_option maxRecDepth 100000 in
theorem ratlinelaw12_OmapTells.calls (k : Nat) (A0 : Option Addr) (c0 : Nat) (l0 : List (S39)) (A1 : Option Addr) (c1 : Nat) (l1 : List (S36)) (a2 : ByteArray) (a3 : ByteArray) (a4 : Int) (r : Bool) (w : World) (hr0 : Kd.C k39 w A0 l0.length l0) (hc0 : l0.length ≤ c0) (hr1 : Kd.C k36 w A1 l1.length l1) (hc1 : l1.length ≤ c1) (h : ratlinelaw12_OmapTells.f k l0 l1 a2 a3 a4 = some r) :
    Calls Try.prog 3 #[.slice A0 l0.length c0, .slice A1 l1.length c1, .string a2, .string a3, .int .i64 a4] w fun e w' => e = .returned (.bool r) ∧ Below w.heap.size w w' := by
  have HR0 := Aside0.mk hr0
  have HC0 := Aside0.mk hc0
  clear hr0 hc0
  have HR1 := Aside0.mk hr1
  have HC1 := Aside0.mk hc1
  clear hr1 hc1
  have HB := Aside0.mk (Below.refl w.heap.size w)
  have H : ((ratlinelaw12_few.f k l0 60).bind fun t219 => (if t219 = true then ((ratlinelaw04_Few.f k l1 40).bind fun t220 => (if t220 = true then (if (a2.size : Int) > 70 then (ratlinelaw12_OmapTells.j0 k l0 l1 a2 a3 a4 true) else (ratlinelaw12_OmapTells.j0 k l0 l1 a2 a3 a4 (decide ((a3.size : Int) > 70)))) else (ratlinelaw12_OmapTells.j0 k l0 l1 a2 a3 a4 true))) else (ratlinelaw12_OmapTells.j0 k l0 l1 a2 a3 a4 true))) = some r := h
  clear h
  have HC6 := Aside0.mk H
  clear H
  go_enter Try.func3, Try.ntmps3
  go_upto_region 1 with (fail)
  go_cut [33] (fun v33 wc => ∃ (kq : Nat) (x33_5 : Bool), v33 = .bool x33_5 ∧ Aside0 (ratlinelaw12_OmapTells.j0 kq l0 l1 a2 a3 a4 x33_5 = some r) ∧ Aside0 (kq ≤ k) ∧ Aside0 (Below w.heap.size w wc))
  case first =>
    have H := HC6.out
    clear HC6
    replace H := Option.bind_eq_some_iff.mp H
    obtain ⟨t219, A70, H⟩ := H
    replace H : (if t219 = true then ((ratlinelaw04_Few.f k l1 40).bind fun t220 => (if t220 = true then (if (a2.size : Int) > 70 then (ratlinelaw12_OmapTells.j0 k l0 l1 a2 a3 a4 true) else (ratlinelaw12_OmapTells.j0 k l0 l1 a2 a3 a4 (decide ((a3.size : Int) > 70)))) else (ratlinelaw12_OmapTells.j0 k l0 l1 a2 a3 a4 true))) else (ratlinelaw12_OmapTells.j0 k l0 l1 a2 a3 a4 true)) = some r := H
    have A7 := Aside0.mk A70
    clear A70
    by_cases c8 : t219 = true
    · subst c8
      have H1 : ((ratlinelaw04_Few.f k l1 40).bind fun t220 => (if t220 = true then (if (a2.size : Int) > 70 then (ratlinelaw12_OmapTells.j0 k l0 l1 a2 a3 a4 true) else (ratlinelaw12_OmapTells.j0 k l0 l1 a2 a3 a4 (decide ((a3.size : Int) > 70)))) else (ratlinelaw12_OmapTells.j0 k l0 l1 a2 a3 a4 true))) = some r := by rw [if_pos rfl] at H; exact H
      clear H
      have H := H1
      clear H1
      replace H := Option.bind_eq_some_iff.mp H
      obtain ⟨t220, A90, H⟩ := H
      replace H : (if t220 = true then (if (a2.size : Int) > 70 then (ratlinelaw12_OmapTells.j0 k l0 l1 a2 a3 a4 true) else (ratlinelaw12_OmapTells.j0 k l0 l1 a2 a3 a4 (decide ((a3.size : Int) > 70)))) else (ratlinelaw12_OmapTells.j0 k l0 l1 a2 a3 a4 true)) = some r := H
      have A9 := Aside0.mk A90
      clear A90
      by_cases c10 : t220 = true
      · subst c10
        have H1 : (if (a2.size : Int) > 70 then (ratlinelaw12_OmapTells.j0 k l0 l1 a2 a3 a4 true) else (ratlinelaw12_OmapTells.j0 k l0 l1 a2 a3 a4 (decide ((a3.size : Int) > 70)))) = some r := by rw [if_pos rfl] at H; exact H
        clear H
        have H := H1
        clear H1
        by_cases c11 : (a2.size : Int) > 70
        · rw [if_pos c11] at H
          have c11b0 : decide (70 < (a2.size : Int)) = true := decide_eq_true c11
          have c11b1 : decide (70 < a2.size) = true := decide_eq_true (by omega)
          clear c11
          (first | rw [c11b0] | (simp only [i64_w, i32_w]; rw [c11b0]) | skip)
          have H' := Aside0.mk H
          clear H
          go_wp2_with (first | ((with_reducible refine gate_callee (f := 13) rfl ?_); refine goesL_ (some 17) rfl rfl Try.func13 (by kernel_rfl) rfl #[.slice A0 l0.length c0, .int .i64 60] rfl (by (try simp only [List.map_toArray, List.map_cons, List.map_nil]); first | done | rfl | (simp only [List.length_drop, List.length_take]; rfl)) ?_; (with_reducible refine (ratlinelaw12_few.calls k _ _ l0 60 true _ ?side1 ?side2 A7.out).mono ?_); (case side1 => repeat (first | exact (Kd.C_below HR0.out HB.out) | (with_reducible refine Kd.C_alloc ?_ _) | (with_reducible refine Kd.C_drewN ?_ _) | (with_reducible refine Kd.C_drew ?_))); (case side2 => exact HC0.out); rintro e w12 ⟨rfl, hb⟩; refine ⟨_, rfl, ?_⟩; have n0_ := Aside0.mk (below_step (by repeat (first | (with_reducible first | exact HB.out | apply below_alloc | apply pw_below_drewN | apply below_drew1) | exact HB.out)) hb); clear HB; have HB := n0_; clear n0_; (try clear hb); (try clear hb2); (try clear hk); (try clear hi)) | (go_at_call 14; (with_reducible refine (ratlinelaw04_Few.calls k _ _ l1 40 true _ ?side1 ?side2 A9.out).mono ?_); (case side1 => repeat (first | exact (Kd.C_below HR1.out HB.out) | (with_reducible refine Kd.C_alloc ?_ _) | (with_reducible refine Kd.C_drewN ?_ _) | (with_reducible refine Kd.C_drew ?_))); (case side2 => exact HC1.out); rintro e w13 ⟨rfl, hb⟩; have n0_ := Aside0.mk (below_step (by repeat (first | (with_reducible first | exact HB.out | apply below_alloc | apply pw_below_drewN | apply below_drew1) | exact HB.out)) hb); clear HB; have HB := n0_; clear n0_; (try clear hb); (try clear hb2); (try clear hk); (try clear hi)))
          go_meet
          case rel => exact ⟨_, (true), (by first | rfl | (simp; done) | (simp [*]; done)), H', ⟨by first | omega | exact Nat.le_refl _⟩, ⟨by repeat (first | (with_reducible first | exact HB.out | apply below_alloc | apply pw_below_drewN | apply below_drew1) | exact HB.out)⟩⟩
        · rw [if_neg c11] at H
          have c11b0 : decide (70 < (a2.size : Int)) = false := decide_eq_false c11
          have c11b1 : decide (70 < a2.size) = false := decide_eq_false (by omega)
          clear c11
          (first | rw [c11b0] | (simp only [i64_w, i32_w]; rw [c11b0]) | skip)
          have H' := Aside0.mk H
          clear H
          go_wp2_with (first | ((with_reducible refine gate_callee (f := 13) rfl ?_); refine goesL_ (some 17) rfl rfl Try.func13 (by kernel_rfl) rfl #[.slice A0 l0.length c0, .int .i64 60] rfl (by (try simp only [List.map_toArray, List.map_cons, List.map_nil]); first | done | rfl | (simp only [List.length_drop, List.length_take]; rfl)) ?_; (with_reducible refine (ratlinelaw12_few.calls k _ _ l0 60 true _ ?side1 ?side2 A7.out).mono ?_); (case side1 => repeat (first | exact (Kd.C_below HR0.out HB.out) | (with_reducible refine Kd.C_alloc ?_ _) | (with_reducible refine Kd.C_drewN ?_ _) | (with_reducible refine Kd.C_drew ?_))); (case side2 => exact HC0.out); rintro e w14 ⟨rfl, hb⟩; refine ⟨_, rfl, ?_⟩; have n0_ := Aside0.mk (below_step (by repeat (first | (with_reducible first | exact HB.out | apply below_alloc | apply pw_below_drewN | apply below_drew1) | exact HB.out)) hb); clear HB; have HB := n0_; clear n0_; (try clear hb); (try clear hb2); (try clear hk); (try clear hi)) | (go_at_call 14; (with_reducible refine (ratlinelaw04_Few.calls k _ _ l1 40 true _ ?side1 ?side2 A9.out).mono ?_); (case side1 => repeat (first | exact (Kd.C_below HR1.out HB.out) | (with_reducible refine Kd.C_alloc ?_ _) | (with_reducible refine Kd.C_drewN ?_ _) | (with_reducible refine Kd.C_drew ?_))); (case side2 => exact HC1.out); rintro e w15 ⟨rfl, hb⟩; have n0_ := Aside0.mk (below_step (by repeat (first | (with_reducible first | exact HB.out | apply below_alloc | apply pw_below_drewN | apply below_drew1) | exact HB.out)) hb); clear HB; have HB := n0_; clear n0_; (try clear hb); (try clear hb2); (try clear hk); (try clear hi)))
          go_meet
          case rel => exact ⟨_, (decide ((a3.size : Int) > 70)), (by first | rfl | (simp; done) | (simp [*]; done)), H', ⟨by first | omega | exact Nat.le_refl _⟩, ⟨by repeat (first | (with_reducible first | exact HB.out | apply below_alloc | apply pw_below_drewN | apply below_drew1) | exact HB.out)⟩⟩
      · replace c10 := Bool.eq_false_iff.mpr c10
        subst c10
        have H1 : (ratlinelaw12_OmapTells.j0 k l0 l1 a2 a3 a4 true) = some r := by rw [if_neg (show ¬ (false = true) by decide)] at H; exact H
        clear H
        have H := H1
        clear H1
        have H' := Aside0.mk H
        clear H
        go_wp2_with (first | ((with_reducible refine gate_callee (f := 13) rfl ?_); refine goesL_ (some 17) rfl rfl Try.func13 (by kernel_rfl) rfl #[.slice A0 l0.length c0, .int .i64 60] rfl (by (try simp only [List.map_toArray, List.map_cons, List.map_nil]); first | done | rfl | (simp only [List.length_drop, List.length_take]; rfl)) ?_; (with_reducible refine (ratlinelaw12_few.calls k _ _ l0 60 true _ ?side1 ?side2 A7.out).mono ?_); (case side1 => repeat (first | exact (Kd.C_below HR0.out HB.out) | (with_reducible refine Kd.C_alloc ?_ _) | (with_reducible refine Kd.C_drewN ?_ _) | (with_reducible refine Kd.C_drew ?_))); (case side2 => exact HC0.out); rintro e w16 ⟨rfl, hb⟩; refine ⟨_, rfl, ?_⟩; have n0_ := Aside0.mk (below_step (by repeat (first | (with_reducible first | exact HB.out | apply below_alloc | apply pw_below_drewN | apply below_drew1) | exact HB.out)) hb); clear HB; have HB := n0_; clear n0_; (try clear hb); (try clear hb2); (try clear hk); (try clear hi)) | (go_at_call 14; (with_reducible refine (ratlinelaw04_Few.calls k _ _ l1 40 false _ ?side1 ?side2 A9.out).mono ?_); (case side1 => repeat (first | exact (Kd.C_below HR1.out HB.out) | (with_reducible refine Kd.C_alloc ?_ _) | (with_reducible refine Kd.C_drewN ?_ _) | (with_reducible refine Kd.C_drew ?_))); (case side2 => exact HC1.out); rintro e w17 ⟨rfl, hb⟩; have n0_ := Aside0.mk (below_step (by repeat (first | (with_reducible first | exact HB.out | apply below_alloc | apply pw_below_drewN | apply below_drew1) | exact HB.out)) hb); clear HB; have HB := n0_; clear n0_; (try clear hb); (try clear hb2); (try clear hk); (try clear hi)))
        go_meet
        case rel => exact ⟨_, (true), (by first | rfl | (simp; done) | (simp [*]; done)), H', ⟨by first | omega | exact Nat.le_refl _⟩, ⟨by repeat (first | (with_reducible first | exact HB.out | apply below_alloc | apply pw_below_drewN | apply below_drew1) | exact HB.out)⟩⟩
    · replace c8 := Bool.eq_false_iff.mpr c8
      subst c8
      have H1 : (ratlinelaw12_OmapTells.j0 k l0 l1 a2 a3 a4 true) = some r := by rw [if_neg (show ¬ (false = true) by decide)] at H; exact H
      clear H
      have H := H1
      clear H1
      have H' := Aside0.mk H
      clear H
      go_wp2_with (first | ((with_reducible refine gate_callee (f := 13) rfl ?_); refine goesL_ (some 17) rfl rfl Try.func13 (by kernel_rfl) rfl #[.slice A0 l0.length c0, .int .i64 60] rfl (by (try simp only [List.map_toArray, List.map_cons, List.map_nil]); first | done | rfl | (simp only [List.length_drop, List.length_take]; rfl)) ?_; (with_reducible refine (ratlinelaw12_few.calls k _ _ l0 60 false _ ?side1 ?side2 A7.out).mono ?_); (case side1 => repeat (first | exact (Kd.C_below HR0.out HB.out) | (with_reducible refine Kd.C_alloc ?_ _) | (with_reducible refine Kd.C_drewN ?_ _) | (with_reducible refine Kd.C_drew ?_))); (case side2 => exact HC0.out); rintro e w18 ⟨rfl, hb⟩; refine ⟨_, rfl, ?_⟩; have n0_ := Aside0.mk (below_step (by repeat (first | (with_reducible first | exact HB.out | apply below_alloc | apply pw_below_drewN | apply below_drew1) | exact HB.out)) hb); clear HB; have HB := n0_; clear n0_; (try clear hb); (try clear hb2); (try clear hk); (try clear hi)))
      go_meet
      case rel => exact ⟨_, (true), (by first | rfl | (simp; done) | (simp [*]; done)), H', ⟨by first | omega | exact Nat.le_refl _⟩, ⟨by repeat (first | (with_reducible first | exact HB.out | apply below_alloc | apply pw_below_drewN | apply below_drew1) | exact HB.out)⟩⟩
  case rest =>
    clear HC6
    try clear c1
    try clear p2
    try clear c3
    try clear c8
    try clear c10
    try clear c11
    try clear c11b0
    try clear c11b1
    try clear c13
    obtain ⟨kq, x33_5, rfl, HA, HJ5, HB⟩ := hcut
    cases kq with
    | zero => exact absurd HA.out (by simp [ratlinelaw12_OmapTells.j0])
    | succ kj5 =>
      have H := HA.out
      clear HA
      simp only [ratlinelaw12_OmapTells.j0] at H
      by_cases c19 : x33_5 = true
      · subst c19
        have H1 : ((ratlinelaw12_awake.f kj5).bind fun t221 => (some t221)) = some r := by rw [if_pos rfl] at H; exact H
        clear H
        have H := H1
        clear H1
        replace H := Option.bind_eq_some_iff.mp H
        obtain ⟨t221, A200, H⟩ := H
        replace H : (some t221) = some r := H
        have A20 := Aside0.mk A200
        clear A200
        obtain rfl := Option.some.inj H
        go_wp2_with (first | (go_at_call 15; (with_reducible refine (ratlinelaw12_awake.calls kj5  t221 _ A20.out).mono ?_); rintro e w21 ⟨rfl, hb⟩; have n0_ := Aside0.mk (below_step (by repeat (first | (with_reducible first | exact HB.out | apply below_alloc | apply pw_below_drewN | apply below_drew1) | exact HB.out)) hb); clear HB; have HB := n0_; clear n0_; (try clear hb); (try clear hb2); (try clear hk); (try clear hi); (try apply_assumption)))
        go_ret
        exact ⟨by first | rfl | (simp [errW_none, errW_some] <;> rfl) | (simp [*, errW_none, errW_some] <;> rfl), by repeat (first | (with_reducible first | exact HB.out | apply below_alloc | apply pw_below_drewN | apply below_drew1) | exact HB.out)⟩
      · replace c19 := Bool.eq_false_iff.mpr c19
        subst c19
        have H1 : ((omap_Right.f kj5 l0).bind fun t222 => ((ratlineref12_Right.f kj5 l0).bind fun t223 => (if (t222 != t223) = true then (none) else ((ratlineref12_Right.f kj5 l0).bind fun t224 => (if t224 = true then ((omap_Get.f l0 a2).bind fun bt226 => ((ratlineref12_Get.f kj5 l0 a2).bind fun bt228 => (if bt226.1.toList = bt228.1.toList then (if (bt226.2 == bt228.2) = true then ((omap_Apply.f l0 l1).bind fun t230 => ((ratlineref12_Apply.f kj5 l0 l1).bind fun t233 => ((ratlinelaw11_Pairs.f kj5 t230 t233).bind fun t236 => (if t236 = true then ((omap_Scan.f l0 a2 a3 a4).bind fun t237 => ((ratlineref12_Scan.f kj5 l0 a2 a3 a4).bind fun t240 => ((ratlinelaw11_Pairs.f kj5 t237 t240).bind fun t243 => (if t243 = true then ((ratlinelaw12_awake.f kj5).bind fun t244 => (some t244)) else (none))))) else (none))))) else (none)) else (none)))) else ((ratlinelaw12_awake.f kj5).bind fun t225 => (some t225))))))) = some r := by rw [if_neg (show ¬ (false = true) by decide)] at H; exact H
        clear H
        have H := H1
        clear H1
        replace H := Option.bind_eq_some_iff.mp H
        obtain ⟨t222, A220, H⟩ := H
        replace H : ((ratlineref12_Right.f kj5 l0).bind fun t223 => (if (t222 != t223) = true then (none) else ((ratlineref12_Right.f kj5 l0).bind fun t224 => (if t224 = true then ((omap_Get.f l0 a2).bind fun bt226 => ((ratlineref12_Get.f kj5 l0 a2).bind fun bt228 => (if bt226.1.toList = bt228.1.toList then (if (bt226.2 == bt228.2) = true then ((omap_Apply.f l0 l1).bind fun t230 => ((ratlineref12_Apply.f kj5 l0 l1).bind fun t233 => ((ratlinelaw11_Pairs.f kj5 t230 t233).bind fun t236 => (if t236 = true then ((omap_Scan.f l0 a2 a3 a4).bind fun t237 => ((ratlineref12_Scan.f kj5 l0 a2 a3 a4).bind fun t240 => ((ratlinelaw11_Pairs.f kj5 t237 t240).bind fun t243 => (if t243 = true then ((ratlinelaw12_awake.f kj5).bind fun t244 => (some t244)) else (none))))) else (none))))) else (none)) else (none)))) else ((ratlinelaw12_awake.f kj5).bind fun t225 => (some t225)))))) = some r := H
        have A22 := Aside0.mk A220
        clear A220
        replace H := Option.bind_eq_some_iff.mp H
        obtain ⟨t223, A230, H⟩ := H
        replace H : (if (t222 != t223) = true then (none) else ((ratlineref12_Right.f kj5 l0).bind fun t224 => (if t224 = true then ((omap_Get.f l0 a2).bind fun bt226 => ((ratlineref12_Get.f kj5 l0 a2).bind fun bt228 => (if bt226.1.toList = bt228.1.toList then (if (bt226.2 == bt228.2) = true then ((omap_Apply.f l0 l1).bind fun t230 => ((ratlineref12_Apply.f kj5 l0 l1).bind fun t233 => ((ratlinelaw11_Pairs.f kj5 t230 t233).bind fun t236 => (if t236 = true then ((omap_Scan.f l0 a2 a3 a4).bind fun t237 => ((ratlineref12_Scan.f kj5 l0 a2 a3 a4).bind fun t240 => ((ratlinelaw11_Pairs.f kj5 t237 t240).bind fun t243 => (if t243 = true then ((ratlinelaw12_awake.f kj5).bind fun t244 => (some t244)) else (none))))) else (none))))) else (none)) else (none)))) else ((ratlinelaw12_awake.f kj5).bind fun t225 => (some t225))))) = some r := H
        have A23 := Aside0.mk A230
        clear A230
        by_cases c24 : (t222 != t223) = true
        · rw [if_pos c24] at H
          exact absurd H (by simp)
        · rw [if_neg c24] at H
          have c24b0 : (t222 != t223) = false := by simpa using c24
          (try (have c24b1 : decide (t222 = t223) = true := by simpa using c24))
          (try (have c24b2 : (t222 == t223) = true := by simpa using c24))
          clear c24
          replace H := Option.bind_eq_some_iff.mp H
          obtain ⟨t224, A250, H⟩ := H
          replace H : (if t224 = true then ((omap_Get.f l0 a2).bind fun bt226 => ((ratlineref12_Get.f kj5 l0 a2).bind fun bt228 => (if bt226.1.toList = bt228.1.toList then (if (bt226.2 == bt228.2) = true then ((omap_Apply.f l0 l1).bind fun t230 => ((ratlineref12_Apply.f kj5 l0 l1).bind fun t233 => ((ratlinelaw11_Pairs.f kj5 t230 t233).bind fun t236 => (if t236 = true then ((omap_Scan.f l0 a2 a3 a4).bind fun t237 => ((ratlineref12_Scan.f kj5 l0 a2 a3 a4).bind fun t240 => ((ratlinelaw11_Pairs.f kj5 t237 t240).bind fun t243 => (if t243 = true then ((ratlinelaw12_awake.f kj5).bind fun t244 => (some t244)) else (none))))) else (none))))) else (none)) else (none)))) else ((ratlinelaw12_awake.f kj5).bind fun t225 => (some t225))) = some r := H
          have A25 := Aside0.mk A250
          clear A250
          by_cases c26 : t224 = true
          · subst c26
            have H1 : ((omap_Get.f l0 a2).bind fun bt226 => ((ratlineref12_Get.f kj5 l0 a2).bind fun bt228 => (if bt226.1.toList = bt228.1.toList then (if (bt226.2 == bt228.2) = true then ((omap_Apply.f l0 l1).bind fun t230 => ((ratlineref12_Apply.f kj5 l0 l1).bind fun t233 => ((ratlinelaw11_Pairs.f kj5 t230 t233).bind fun t236 => (if t236 = true then ((omap_Scan.f l0 a2 a3 a4).bind fun t237 => ((ratlineref12_Scan.f kj5 l0 a2 a3 a4).bind fun t240 => ((ratlinelaw11_Pairs.f kj5 t237 t240).bind fun t243 => (if t243 = true then ((ratlinelaw12_awake.f kj5).bind fun t244 => (some t244)) else (none))))) else (none))))) else (none)) else (none)))) = some r := by rw [if_pos rfl] at H; exact H
            clear H
            have H := H1
            clear H1
            replace H := Option.bind_eq_some_iff.mp H
            obtain ⟨⟨t226, t227⟩, A270, H⟩ := H
            replace H : ((ratlineref12_Get.f kj5 l0 a2).bind fun bt228 => (if t226.toList = bt228.1.toList then (if (t227 == bt228.2) = true then ((omap_Apply.f l0 l1).bind fun t230 => ((ratlineref12_Apply.f kj5 l0 l1).bind fun t233 => ((ratlinelaw11_Pairs.f kj5 t230 t233).bind fun t236 => (if t236 = true then ((omap_Scan.f l0 a2 a3 a4).bind fun t237 => ((ratlineref12_Scan.f kj5 l0 a2 a3 a4).bind fun t240 => ((ratlinelaw11_Pairs.f kj5 t237 t240).bind fun t243 => (if t243 = true then ((ratlinelaw12_awake.f kj5).bind fun t244 => (some t244)) else (none))))) else (none))))) else (none)) else (none))) = some r := H
            have A27 := Aside0.mk A270
            clear A270
            replace H := Option.bind_eq_some_iff.mp H
            obtain ⟨⟨t228, t229⟩, A280, H⟩ := H
            replace H : (if t226.toList = t228.toList then (if (t227 == t229) = true then ((omap_Apply.f l0 l1).bind fun t230 => ((ratlineref12_Apply.f kj5 l0 l1).bind fun t233 => ((ratlinelaw11_Pairs.f kj5 t230 t233).bind fun t236 => (if t236 = true then ((omap_Scan.f l0 a2 a3 a4).bind fun t237 => ((ratlineref12_Scan.f kj5 l0 a2 a3 a4).bind fun t240 => ((ratlinelaw11_Pairs.f kj5 t237 t240).bind fun t243 => (if t243 = true then ((ratlinelaw12_awake.f kj5).bind fun t244 => (some t244)) else (none))))) else (none))))) else (none)) else (none)) = some r := H
            have A28 := Aside0.mk A280
            clear A280
            by_cases c29 : t226.toList = t228.toList
            · rw [if_pos c29] at H
              have c29b0 : (t226.toList == t228.toList) = true := beq_iff_eq.mpr c29
              have c29b1 : (t226.toList != t228.toList) = false := bne_eq_false_iff_eq.mpr c29
              clear c29
              by_cases c30 : (t227 == t229) = true
              · rw [if_pos c30] at H
                have c30b0 : (t227 == t229) = true := c30
                (try (have c30b1 : decide (t227 = t229) = true := by simpa using c30))
                (try (have c30b2 : (t227 == t229) = true := by simpa using c30))
                clear c30
                replace H := Option.bind_eq_some_iff.mp H
                obtain ⟨t230, A310, H⟩ := H
                replace H : ((ratlineref12_Apply.f kj5 l0 l1).bind fun t233 => ((ratlinelaw11_Pairs.f kj5 t230 t233).bind fun t236 => (if t236 = true then ((omap_Scan.f l0 a2 a3 a4).bind fun t237 => ((ratlineref12_Scan.f kj5 l0 a2 a3 a4).bind fun t240 => ((ratlinelaw11_Pairs.f kj5 t237 t240).bind fun t243 => (if t243 = true then ((ratlinelaw12_awake.f kj5).bind fun t244 => (some t244)) else (none))))) else (none)))) = some r := H
                have A31 := Aside0.mk A310
                clear A310
                replace H := Option.bind_eq_some_iff.mp H
                obtain ⟨t233, A320, H⟩ := H
                replace H : ((ratlinelaw11_Pairs.f kj5 t230 t233).bind fun t236 => (if t236 = true then ((omap_Scan.f l0 a2 a3 a4).bind fun t237 => ((ratlineref12_Scan.f kj5 l0 a2 a3 a4).bind fun t240 => ((ratlinelaw11_Pairs.f kj5 t237 t240).bind fun t243 => (if t243 = true then ((ratlinelaw12_awake.f kj5).bind fun t244 => (some t244)) else (none))))) else (none))) = some r := H
                have A32 := Aside0.mk A320
                clear A320
                replace H := Option.bind_eq_some_iff.mp H
                obtain ⟨t236, A330, H⟩ := H
                replace H : (if t236 = true then ((omap_Scan.f l0 a2 a3 a4).bind fun t237 => ((ratlineref12_Scan.f kj5 l0 a2 a3 a4).bind fun t240 => ((ratlinelaw11_Pairs.f kj5 t237 t240).bind fun t243 => (if t243 = true then ((ratlinelaw12_awake.f kj5).bind fun t244 => (some t244)) else (none))))) else (none)) = some r := H
                have A33 := Aside0.mk A330
                clear A330
                by_cases c34 : t236 = true
                · subst c34
                  have H1 : ((omap_Scan.f l0 a2 a3 a4).bind fun t237 => ((ratlineref12_Scan.f kj5 l0 a2 a3 a4).bind fun t240 => ((ratlinelaw11_Pairs.f kj5 t237 t240).bind fun t243 => (if t243 = true then ((ratlinelaw12_awake.f kj5).bind fun t244 => (some t244)) else (none))))) = some r := by rw [if_pos rfl] at H; exact H
                  clear H
                  have H := H1
                  clear H1
                  replace H := Option.bind_eq_some_iff.mp H
                  obtain ⟨t237, A350, H⟩ := H
                  replace H : ((ratlineref12_Scan.f kj5 l0 a2 a3 a4).bind fun t240 => ((ratlinelaw11_Pairs.f kj5 t237 t240).bind fun t243 => (if t243 = true then ((ratlinelaw12_awake.f kj5).bind fun t244 => (some t244)) else (none)))) = some r := H
                  have A35 := Aside0.mk A350
                  clear A350
                  replace H := Option.bind_eq_some_iff.mp H
                  obtain ⟨t240, A360, H⟩ := H
                  replace H : ((ratlinelaw11_Pairs.f kj5 t237 t240).bind fun t243 => (if t243 = true then ((ratlinelaw12_awake.f kj5).bind fun t244 => (some t244)) else (none))) = some r := H
                  have A36 := Aside0.mk A360
                  clear A360
                  replace H := Option.bind_eq_some_iff.mp H
                  obtain ⟨t243, A370, H⟩ := H
                  replace H : (if t243 = true then ((ratlinelaw12_awake.f kj5).bind fun t244 => (some t244)) else (none)) = some r := H
                  have A37 := Aside0.mk A370
                  clear A370
                  by_cases c38 : t243 = true
                  · subst c38
                    have H1 : ((ratlinelaw12_awake.f kj5).bind fun t244 => (some t244)) = some r := by rw [if_pos rfl] at H; exact H
                    clear H
                    have H := H1
                    clear H1
                    replace H := Option.bind_eq_some_iff.mp H
                    obtain ⟨t244, A390, H⟩ := H
                    replace H : (some t244) = some r := H
                    have A39 := Aside0.mk A390
                    clear A390
                    obtain rfl := Option.some.inj H
                    go_wp2_with (first | ((with_reducible refine gate_callee (f := 16) rfl ?_); refine goesL_ (some 36) rfl rfl Try.func16 (by kernel_rfl) rfl #[.slice A0 l0.length c0] rfl (by (try simp only [List.map_toArray, List.map_cons, List.map_nil]); first | done | rfl | (simp only [List.length_drop, List.length_take]; rfl)) ?_; (with_reducible refine (omap_Right.calls kj5 _ _ l0 t222 _ ?side1 ?side2 A22.out).mono ?_); (case side1 => repeat (first | exact (Kd.C_below HR0.out HB.out) | (with_reducible refine Kd.C_alloc ?_ _) | (with_reducible refine Kd.C_drewN ?_ _) | (with_reducible refine Kd.C_drew ?_))); (case side2 => exact HC0.out); rintro e w40 ⟨rfl, hb⟩; refine ⟨_, rfl, ?_⟩; have n0_ := Aside0.mk (below_step (by repeat (first | (with_reducible first | exact HB.out | apply below_alloc | apply pw_below_drewN | apply below_drew1) | exact HB.out)) hb); clear HB; have HB := n0_; clear n0_; (try clear hb); (try clear hb2); (try clear hk); (try clear hi)) | ((with_reducible refine gate_callee (f := 17) rfl ?_); refine goesL_ (some 38) rfl rfl Try.func17 (by kernel_rfl) rfl #[.slice A0 l0.length c0] rfl (by (try simp only [List.map_toArray, List.map_cons, List.map_nil]); first | done | rfl | (simp only [List.length_drop, List.length_take]; rfl)) ?_; (with_reducible refine (ratlineref12_Right.calls kj5 _ _ l0 t223 _ ?side1 ?side2 A23.out).mono ?_); (case side1 => repeat (first | exact (Kd.C_below HR0.out HB.out) | (with_reducible refine Kd.C_alloc ?_ _) | (with_reducible refine Kd.C_drewN ?_ _) | (with_reducible refine Kd.C_drew ?_))); (case side2 => exact HC0.out); rintro e w' ⟨rfl, ⟨nd, rfl⟩⟩; refine ⟨_, rfl, ?_⟩) | ((with_reducible refine gate_callee (f := 17) rfl ?_); refine goesL_ (some 41) rfl rfl Try.func17 (by kernel_rfl) rfl #[.slice A0 l0.length c0] rfl (by (try simp only [List.map_toArray, List.map_cons, List.map_nil]); first | done | rfl | (simp only [List.length_drop, List.length_take]; rfl)) ?_; (with_reducible refine (ratlineref12_Right.calls kj5 _ _ l0 true _ ?side1 ?side2 A25.out).mono ?_); (case side1 => repeat (first | exact (Kd.C_below HR0.out (by repeat (first | (with_reducible first | exact HB.out | apply below_alloc | apply pw_below_drewN | apply below_drew1) | exact HB.out))) | (with_reducible refine Kd.C_alloc ?_ _) | (with_reducible refine Kd.C_drewN ?_ _) | (with_reducible refine Kd.C_drew ?_))); (case side2 => exact HC0.out); rintro e w' ⟨rfl, ⟨nd, rfl⟩⟩; refine ⟨_, rfl, ?_⟩) | ((with_reducible refine gate_callee (f := 18) rfl ?_); refine goesL_ (some 47) rfl rfl Try.func18 (by kernel_rfl) rfl #[.slice A0 l0.length c0, .string a2] rfl (by (try simp only [List.map_toArray, List.map_cons, List.map_nil]); first | done | rfl | (simp only [List.length_drop, List.length_take]; rfl)) ?_; (with_reducible refine (omap_Get.calls _ _ l0 a2 t226 t227 _ ?side1 ?side2 A27.out).mono ?_); (case side1 => repeat (first | exact (Kd.C_below HR0.out (by repeat (first | (with_reducible first | exact HB.out | apply below_alloc | apply pw_below_drewN | apply below_drew1) | exact HB.out))) | (with_reducible refine Kd.C_alloc ?_ _) | (with_reducible refine Kd.C_drewN ?_ _) | (with_reducible refine Kd.C_drew ?_))); (case side2 => exact HC0.out); rintro e w41 ⟨rfl, hb⟩; refine ⟨_, rfl, ?_⟩; have n0_ := Aside0.mk (below_step (by repeat (first | (with_reducible first | exact HB.out | apply below_alloc | apply pw_below_drewN | apply below_drew1) | exact HB.out)) hb); clear HB; have HB := n0_; clear n0_; (try clear hb); (try clear hb2); (try clear hk); (try clear hi)) | ((with_reducible refine gate_callee (f := 19) rfl ?_); refine goesL_ (some 53) rfl rfl Try.func19 (by kernel_rfl) rfl #[.slice A0 l0.length c0, .string a2] rfl (by (try simp only [List.map_toArray, List.map_cons, List.map_nil]); first | done | rfl | (simp only [List.length_drop, List.length_take]; rfl)) ?_; (with_reducible refine (ratlineref12_Get.calls kj5 _ _ l0 a2 t228 t229 _ ?side1 ?side2 A28.out).mono ?_); (case side1 => repeat (first | exact (Kd.C_below HR0.out HB.out) | (with_reducible refine Kd.C_alloc ?_ _) | (with_reducible refine Kd.C_drewN ?_ _) | (with_reducible refine Kd.C_drew ?_))); (case side2 => exact HC0.out); rintro e w' ⟨rfl, ⟨nd, rfl⟩⟩; refine ⟨_, rfl, ?_⟩) | (go_at_call 21; (with_reducible refine (omap_Apply.calls _ _ l0 _ _ l1 t230 _ ?side1 ?side2 ?side3 ?side4 A31.out).mono ?_); (case side1 => repeat (first | exact (Kd.C_below HR0.out (by repeat (first | (with_reducible first | exact HB.out | apply below_alloc | apply pw_below_drewN | apply below_drew1) | exact HB.out))) | (with_reducible refine Kd.C_alloc ?_ _) | (with_reducible refine Kd.C_drewN ?_ _) | (with_reducible refine Kd.C_drew ?_))); (case side2 => exact HC0.out); (case side3 => repeat (first | exact (Kd.C_below HR1.out (by repeat (first | (with_reducible first | exact HB.out | apply below_alloc | apply pw_below_drewN | apply below_drew1) | exact HB.out))) | (with_reducible refine Kd.C_alloc ?_ _) | (with_reducible refine Kd.C_drewN ?_ _) | (with_reducible refine Kd.C_drew ?_))); (case side4 => exact HC1.out); rintro e w42 ⟨v231, rfl, ho0, hb⟩; have n0_ := Aside0.mk (Kd.R_lower ho0 (below_size (by repeat (first | (with_reducible first | exact HB.out | apply below_alloc | apply pw_below_drewN | apply below_drew1) | exact HB.out)))); have n1_ := Aside0.mk (below_step (by repeat (first | (with_reducible first | exact HB.out | apply below_alloc | apply pw_below_drewN | apply below_drew1) | exact HB.out)) hb); clear HB; have HO232 := n0_; have HB := n1_; clear n0_ n1_; (try clear hb); (try clear hb2); (try clear hk); (try clear hi); (try clear ho0)) | (go_at_call 22; (with_reducible refine (ratlineref12_Apply.calls kj5 _ _ l0 _ _ l1 t233 _ ?side1 ?side2 ?side3 ?side4 A32.out).mono ?_); (case side1 => repeat (first | exact (Kd.C_below HR0.out HB.out) | (with_reducible refine Kd.C_alloc ?_ _) | (with_reducible refine Kd.C_drewN ?_ _) | (with_reducible refine Kd.C_drew ?_))); (case side2 => exact HC0.out); (case side3 => repeat (first | exact (Kd.C_below HR1.out HB.out) | (with_reducible refine Kd.C_alloc ?_ _) | (with_reducible refine Kd.C_drewN ?_ _) | (with_reducible refine Kd.C_drew ?_))); (case side4 => exact HC1.out); rintro e w43 ⟨v234, rfl, ho0, hb⟩; have n0_ := Aside0.mk (Kd.R_elder' (by (with_reducible repeat (first | apply Kd.R_alloc | apply Kd.R_drewN | apply Kd.R_drew)); exact HO232.out) (Kd.R_base ho0) hb); have n1_ := Aside0.mk (Kd.R_lower (Kd.R_new' ho0 (Kd.R_lt (by (with_reducible repeat (first | apply Kd.R_alloc | apply Kd.R_drewN | apply Kd.R_drew)); exact HO232.out))) (below_size (by repeat (first | (with_reducible first | exact HB.out | apply below_alloc | apply pw_below_drewN | apply below_drew1) | exact HB.out)))); have n2_ := Aside0.mk (below_step (by repeat (first | (with_reducible first | exact HB.out | apply below_alloc | apply pw_below_drewN | apply below_drew1) | exact HB.out)) hb); clear HO232; clear HB; have HO232 := n0_; have HO235 := n1_; have HB := n2_; clear n0_ n1_ n2_; (try clear hb); (try clear hb2); (try clear hk); (try clear hi); (try clear ho0); obtain ⟨Ao44, co44, eo44⟩ := Kd.R_slice HO232.out; subst eo44; obtain ⟨Ao45, co45, eo45⟩ := Kd.R_slice HO235.out; subst eo45) | (go_at_call 20; (with_reducible refine (ratlinelaw11_Pairs.calls kj5 _ _ t230 _ _ t233 true _ ?side1 ?side2 ?side3 ?side4 A33.out).mono ?_); (case side1 => repeat (first | exact (Kd.R_reads' HO232.out).2.2 | (with_reducible refine Kd.C_alloc ?_ _) | (with_reducible refine Kd.C_drewN ?_ _) | (with_reducible refine Kd.C_drew ?_))); (case side2 => exact (Kd.R_reads' HO232.out).2.1); (case side3 => repeat (first | exact (Kd.R_reads' HO235.out).2.2 | (with_reducible refine Kd.C_alloc ?_ _) | (with_reducible refine Kd.C_drewN ?_ _) | (with_reducible refine Kd.C_drew ?_))); (case side4 => exact (Kd.R_reads' HO235.out).2.1); rintro e w' ⟨rfl, ⟨nd, rfl⟩⟩) | (go_at_call 23; (with_reducible refine (omap_Scan.calls _ _ l0 a2 a3 a4 t237 _ ?side1 ?side2 A35.out).mono ?_); (case side1 => repeat (first | exact (Kd.C_below HR0.out (by repeat (first | (with_reducible first | exact HB.out | apply below_alloc | apply pw_below_drewN | apply below_drew1) | exact HB.out))) | (with_reducible refine Kd.C_alloc ?_ _) | (with_reducible refine Kd.C_drewN ?_ _) | (with_reducible refine Kd.C_drew ?_))); (case side2 => exact HC0.out); rintro e w46 ⟨v238, rfl, ho0, hb⟩; have n0_ := Aside0.mk (Kd.R_elder' (by (with_reducible repeat (first | apply Kd.R_alloc | apply Kd.R_drewN | apply Kd.R_drew)); exact HO232.out) (Kd.R_base ho0) hb); have n1_ := Aside0.mk (Kd.R_elder' (by (with_reducible repeat (first | apply Kd.R_alloc | apply Kd.R_drewN | apply Kd.R_drew)); exact HO235.out) (Kd.R_base ho0) hb); have n2_ := Aside0.mk (Kd.R_lower (Kd.R_new' (Kd.R_new' ho0 (Kd.R_lt (by (with_reducible repeat (first | apply Kd.R_alloc | apply Kd.R_drewN | apply Kd.R_drew)); exact HO232.out))) (Kd.R_lt (by (with_reducible repeat (first | apply Kd.R_alloc | apply Kd.R_drewN | apply Kd.R_drew)); exact HO235.out))) (below_size (by repeat (first | (with_reducible first | exact HB.out | apply below_alloc | apply pw_below_drewN | apply below_drew1) | exact HB.out)))); have n3_ := Aside0.mk (below_step (by repeat (first | (with_reducible first | exact HB.out | apply below_alloc | apply pw_below_drewN | apply below_drew1) | exact HB.out)) hb); clear HO232; clear HO235; clear HB; have HO232 := n0_; have HO235 := n1_; have HO239 := n2_; have HB := n3_; clear n0_ n1_ n2_ n3_; (try clear hb); (try clear hb2); (try clear hk); (try clear hi); (try clear ho0)) | (go_at_call 24; (with_reducible refine (ratlineref12_Scan.calls kj5 _ _ l0 a2 a3 a4 t240 _ ?side1 ?side2 A36.out).mono ?_); (case side1 => repeat (first | exact (Kd.C_below HR0.out HB.out) | (with_reducible refine Kd.C_alloc ?_ _) | (with_reducible refine Kd.C_drewN ?_ _) | (with_reducible refine Kd.C_drew ?_))); (case side2 => exact HC0.out); rintro e w47 ⟨v241, rfl, ho0, hb⟩; have n0_ := Aside0.mk (Kd.R_elder' (by (with_reducible repeat (first | apply Kd.R_alloc | apply Kd.R_drewN | apply Kd.R_drew)); exact HO232.out) (Kd.R_base ho0) hb); have n1_ := Aside0.mk (Kd.R_elder' (by (with_reducible repeat (first | apply Kd.R_alloc | apply Kd.R_drewN | apply Kd.R_drew)); exact HO235.out) (Kd.R_base ho0) hb); have n2_ := Aside0.mk (Kd.R_elder' (by (with_reducible repeat (first | apply Kd.R_alloc | apply Kd.R_drewN | apply Kd.R_drew)); exact HO239.out) (Kd.R_base ho0) hb); have n3_ := Aside0.mk (Kd.R_lower (Kd.R_new' (Kd.R_new' (Kd.R_new' ho0 (Kd.R_lt (by (with_reducible repeat (first | apply Kd.R_alloc | apply Kd.R_drewN | apply Kd.R_drew)); exact HO232.out))) (Kd.R_lt (by (with_reducible repeat (first | apply Kd.R_alloc | apply Kd.R_drewN | apply Kd.R_drew)); exact HO235.out))) (Kd.R_lt (by (with_reducible repeat (first | apply Kd.R_alloc | apply Kd.R_drewN | apply Kd.R_drew)); exact HO239.out))) (below_size (by repeat (first | (with_reducible first | exact HB.out | apply below_alloc | apply pw_below_drewN | apply below_drew1) | exact HB.out)))); have n4_ := Aside0.mk (below_step (by repeat (first | (with_reducible first | exact HB.out | apply below_alloc | apply pw_below_drewN | apply below_drew1) | exact HB.out)) hb); clear HO232; clear HO235; clear HO239; clear HB; have HO232 := n0_; have HO235 := n1_; have HO239 := n2_; have HO242 := n3_; have HB := n4_; clear n0_ n1_ n2_ n3_ n4_; (try clear hb); (try clear hb2); (try clear hk); (try clear hi); (try clear ho0); obtain ⟨Ao48, co48, eo48⟩ := Kd.R_slice HO239.out; subst eo48; obtain ⟨Ao49, co49, eo49⟩ := Kd.R_slice HO242.out; subst eo49) | (go_at_call 20; (with_reducible refine (ratlinelaw11_Pairs.calls kj5 _ _ t237 _ _ t240 true _ ?side1 ?side2 ?side3 ?side4 A37.out).mono ?_); (case side1 => repeat (first | exact (Kd.R_reads' HO239.out).2.2 | (with_reducible refine Kd.C_alloc ?_ _) | (with_reducible refine Kd.C_drewN ?_ _) | (with_reducible refine Kd.C_drew ?_))); (case side2 => exact (Kd.R_reads' HO239.out).2.1); (case side3 => repeat (first | exact (Kd.R_reads' HO242.out).2.2 | (with_reducible refine Kd.C_alloc ?_ _) | (with_reducible refine Kd.C_drewN ?_ _) | (with_reducible refine Kd.C_drew ?_))); (case side4 => exact (Kd.R_reads' HO242.out).2.1); rintro e w' ⟨rfl, ⟨nd, rfl⟩⟩) | (go_at_call 15; (with_reducible refine (ratlinelaw12_awake.calls kj5  t244 _ A39.out).mono ?_); rintro e w50 ⟨rfl, hb⟩; have n0_ := Aside0.mk (Kd.R_below (by (with_reducible repeat (first | apply Kd.R_alloc | apply Kd.R_drewN | apply Kd.R_drew)); exact HO232.out) hb); have n1_ := Aside0.mk (Kd.R_below (by (with_reducible repeat (first | apply Kd.R_alloc | apply Kd.R_drewN | apply Kd.R_drew)); exact HO235.out) hb); have n2_ := Aside0.mk (Kd.R_below (by (with_reducible repeat (first | apply Kd.R_alloc | apply Kd.R_drewN | apply Kd.R_drew)); exact HO239.out) hb); have n3_ := Aside0.mk (Kd.R_below (by (with_reducible repeat (first | apply Kd.R_alloc | apply Kd.R_drewN | apply Kd.R_drew)); exact HO242.out) hb); have n4_ := Aside0.mk (below_step (by repeat (first | (with_reducible first | exact HB.out | apply below_alloc | apply pw_below_drewN | apply below_drew1) | exact HB.out)) hb); clear HO232; clear HO235; clear HO239; clear HO242; clear HB; have HO232 := n0_; have HO235 := n1_; have HO239 := n2_; have HO242 := n3_; have HB := n4_; clear n0_ n1_ n2_ n3_ n4_; (try clear hb); (try clear hb2); (try clear hk); (try clear hi)))
                    go_ret
                    exact ⟨by first | rfl | (simp [errW_none, errW_some] <;> rfl) | (simp [*, errW_none, errW_some] <;> rfl), by repeat (first | (with_reducible first | exact HB.out | apply below_alloc | apply pw_below_drewN | apply below_drew1) | exact HB.out)⟩
                  · replace c38 := Bool.eq_false_iff.mpr c38
                    subst c38
                    have H1 : (none) = some r := by rw [if_neg (show ¬ (false = true) by decide)] at H; exact H
                    clear H
                    have H := H1
                    clear H1
                    exact absurd H (by simp)
                · replace c34 := Bool.eq_false_iff.mpr c34
                  subst c34
                  have H1 : (none) = some r := by rw [if_neg (show ¬ (false = true) by decide)] at H; exact H
                  clear H
                  have H := H1
                  clear H1
                  exact absurd H (by simp)
              · rw [if_neg c30] at H
                exact absurd H (by simp)
            · rw [if_neg c29] at H
              exact absurd H (by simp)
          · replace c26 := Bool.eq_false_iff.mpr c26
            subst c26
            have H1 : ((ratlinelaw12_awake.f kj5).bind fun t225 => (some t225)) = some r := by rw [if_neg (show ¬ (false = true) by decide)] at H; exact H
            clear H
            have H := H1
            clear H1
            replace H := Option.bind_eq_some_iff.mp H
            obtain ⟨t225, A510, H⟩ := H
            replace H : (some t225) = some r := H
            have A51 := Aside0.mk A510
            clear A510
            obtain rfl := Option.some.inj H
            go_wp2_with (first | ((with_reducible refine gate_callee (f := 16) rfl ?_); refine goesL_ (some 36) rfl rfl Try.func16 (by kernel_rfl) rfl #[.slice A0 l0.length c0] rfl (by (try simp only [List.map_toArray, List.map_cons, List.map_nil]); first | done | rfl | (simp only [List.length_drop, List.length_take]; rfl)) ?_; (with_reducible refine (omap_Right.calls kj5 _ _ l0 t222 _ ?side1 ?side2 A22.out).mono ?_); (case side1 => repeat (first | exact (Kd.C_below HR0.out HB.out) | (with_reducible refine Kd.C_alloc ?_ _) | (with_reducible refine Kd.C_drewN ?_ _) | (with_reducible refine Kd.C_drew ?_))); (case side2 => exact HC0.out); rintro e w52 ⟨rfl, hb⟩; refine ⟨_, rfl, ?_⟩; have n0_ := Aside0.mk (below_step (by repeat (first | (with_reducible first | exact HB.out | apply below_alloc | apply pw_below_drewN | apply below_drew1) | exact HB.out)) hb); clear HB; have HB := n0_; clear n0_; (try clear hb); (try clear hb2); (try clear hk); (try clear hi)) | ((with_reducible refine gate_callee (f := 17) rfl ?_); refine goesL_ (some 38) rfl rfl Try.func17 (by kernel_rfl) rfl #[.slice A0 l0.length c0] rfl (by (try simp only [List.map_toArray, List.map_cons, List.map_nil]); first | done | rfl | (simp only [List.length_drop, List.length_take]; rfl)) ?_; (with_reducible refine (ratlineref12_Right.calls kj5 _ _ l0 t223 _ ?side1 ?side2 A23.out).mono ?_); (case side1 => repeat (first | exact (Kd.C_below HR0.out HB.out) | (with_reducible refine Kd.C_alloc ?_ _) | (with_reducible refine Kd.C_drewN ?_ _) | (with_reducible refine Kd.C_drew ?_))); (case side2 => exact HC0.out); rintro e w' ⟨rfl, ⟨nd, rfl⟩⟩; refine ⟨_, rfl, ?_⟩) | ((with_reducible refine gate_callee (f := 17) rfl ?_); refine goesL_ (some 41) rfl rfl Try.func17 (by kernel_rfl) rfl #[.slice A0 l0.length c0] rfl (by (try simp only [List.map_toArray, List.map_cons, List.map_nil]); first | done | rfl | (simp only [List.length_drop, List.length_take]; rfl)) ?_; (with_reducible refine (ratlineref12_Right.calls kj5 _ _ l0 false _ ?side1 ?side2 A25.out).mono ?_); (case side1 => repeat (first | exact (Kd.C_below HR0.out (by repeat (first | (with_reducible first | exact HB.out | apply below_alloc | apply pw_below_drewN | apply below_drew1) | exact HB.out))) | (with_reducible refine Kd.C_alloc ?_ _) | (with_reducible refine Kd.C_drewN ?_ _) | (with_reducible refine Kd.C_drew ?_))); (case side2 => exact HC0.out); rintro e w' ⟨rfl, ⟨nd, rfl⟩⟩; refine ⟨_, rfl, ?_⟩) | (go_at_call 15; (with_reducible refine (ratlinelaw12_awake.calls kj5  t225 _ A51.out).mono ?_); rintro e w53 ⟨rfl, hb⟩; have n0_ := Aside0.mk (below_step (by repeat (first | (with_reducible first | exact HB.out | apply below_alloc | apply pw_below_drewN | apply below_drew1) | exact HB.out)) hb); clear HB; have HB := n0_; clear n0_; (try clear hb); (try clear hb2); (try clear hk); (try clear hi); (try apply_assumption)))
            go_ret
            exact ⟨by first | rfl | (simp [errW_none, errW_some] <;> rfl) | (simp [*, errW_none, errW_some] <;> rfl), by repeat (first | (with_reducible first | exact HB.out | apply below_alloc | apply pw_below_drewN | apply below_drew1) | exact HB.out)⟩

end Go.Proofs.Ytkncjpafehnmnaa.P

end

section
set_option linter.unusedVariables false
set_option linter.unusedSimpArgs false
namespace Go.Proofs.YtkncjpafehnmnaaL
open Go Go.RowKit Go.Proofs.YtkncjpafehnmnaaG Go.Proofs.Ytkncjpafehnmnaa.P Go.Proofs.YtkncjpafehnmnaaW.PrintWords Go.Proofs.YtkncjpafehnmnaaW.PrintMore
theorem rd_pr (l : List MPr) {j : Nat} (h : j < l.length) : rd_T39 l (j : Int) = l[j] := getD_at h
theorem rd_op (l : List MOp) {j : Nat} (h : j < l.length) : rd_T36 l (j : Int) = l[j] := getD_at h
def ShortP (e : MPr) : Prop := e.f0.size ≤ 70 ∧ e.f1.size ≤ 300
instance (e : MPr) : Decidable (ShortP e) := inferInstanceAs (Decidable (_ ∧ _))
theorem pfew_loop (l : List MPr) (most : Int) (hl : l.length < 9223372036854775800) :
    ∀ (m j : Nat), j + m = l.length → Ev (fun k => ratlinelaw12_few.l0 k l most l (l.length : Int) (j : Int)) (decide (∀ e ∈ l.drop j, ShortP e) && decide ((l.length : Int) ≤ most)) := by
  intro m
  induction m with
  | zero =>
    intro j hj
    obtain rfl : j = l.length := by omega
    refine ev_step (fun k => by rw [ratlinelaw12_few.l0, if_neg (Int.lt_irrefl _)]) ?_
    rw [List.drop_length]
    simpa using ev_some _
  | succ m ih =>
    intro j hj
    have hlt : j < l.length := by omega
    refine ev_step (fun k => by rw [ratlinelaw12_few.l0, if_pos (by omega), if_pos (by omega), if_pos (by omega), rd_pr l hlt, up1 (by omega)]) ?_
    rw [List.drop_eq_getElem_cons hlt]
    by_cases h1 : ((l[j].f0.size : Nat) : Int) > 70
    · refine ev_pos h1 ?_
      rw [decide_eq_false (fun h => by have := (h l[j] (List.mem_cons_self ..)).1; omega)]
      exact ev_some _
    · refine ev_neg h1 ?_
      by_cases h2 : ((l[j].f1.size : Nat) : Int) > 300
      · refine ev_pos h2 ?_
        rw [decide_eq_false (fun h => by have := (h l[j] (List.mem_cons_self ..)).2; omega)]
        exact ev_some _
      · refine ev_neg h2 ?_
        have e0 : (∀ e ∈ l[j] :: l.drop (j + 1), ShortP e) ↔ ∀ e ∈ l.drop (j + 1), ShortP e := ⟨fun h e he => h e (List.mem_cons_of_mem _ he), fun h e he => by
          rcases List.mem_cons.1 he with rfl | he
          · exact ⟨by omega, by omega⟩
          · exact h e he⟩
        rw [decide_eq_decide.2 e0]
        exact ih (j + 1) (by omega)
theorem pfew_f (l : List MPr) (most : Int) (hl : l.length < 9223372036854775800) : Ev (fun k => ratlinelaw12_few.f k l most) (decide (∀ e ∈ l, ShortP e) && decide ((l.length : Int) ≤ most)) := by
  have := pfew_loop l most hl l.length 0 (by omega)
  rwa [List.drop_zero] at this
def ShortO (o : MOp) : Prop := o.f1.size ≤ 70 ∧ o.f2.size ≤ 300
instance (e : MOp) : Decidable (ShortO e) := inferInstanceAs (Decidable (_ ∧ _))
theorem ofew_loop (l : List MOp) (most : Int) (hl : l.length < 9223372036854775800) :
    ∀ (m j : Nat), j + m = l.length → Ev (fun k => ratlinelaw04_Few.l0 k l most l (l.length : Int) (j : Int)) (decide (∀ e ∈ l.drop j, ShortO e) && decide ((l.length : Int) ≤ most)) := by
  intro m
  induction m with
  | zero =>
    intro j hj
    obtain rfl : j = l.length := by omega
    refine ev_step (fun k => by rw [ratlinelaw04_Few.l0, if_neg (Int.lt_irrefl _)]) ?_
    rw [List.drop_length]
    simpa using ev_some _
  | succ m ih =>
    intro j hj
    have hlt : j < l.length := by omega
    refine ev_step (fun k => by rw [ratlinelaw04_Few.l0, if_pos (by omega), if_pos (by omega), if_pos (by omega), rd_op l hlt, up1 (by omega)]) ?_
    rw [List.drop_eq_getElem_cons hlt]
    by_cases h1 : ((l[j].f1.size : Nat) : Int) > 70
    · refine ev_pos h1 ?_
      rw [decide_eq_false (fun h => by have := (h l[j] (List.mem_cons_self ..)).1; omega)]
      exact ev_some _
    · refine ev_neg h1 ?_
      by_cases h2 : ((l[j].f2.size : Nat) : Int) > 300
      · refine ev_pos h2 ?_
        rw [decide_eq_false (fun h => by have := (h l[j] (List.mem_cons_self ..)).2; omega)]
        exact ev_some _
      · refine ev_neg h2 ?_
        have e0 : (∀ e ∈ l[j] :: l.drop (j + 1), ShortO e) ↔ ∀ e ∈ l.drop (j + 1), ShortO e := ⟨fun h e he => h e (List.mem_cons_of_mem _ he), fun h e he => by
          rcases List.mem_cons.1 he with rfl | he
          · exact ⟨by omega, by omega⟩
          · exact h e he⟩
        rw [decide_eq_decide.2 e0]
        exact ih (j + 1) (by omega)
theorem ofew_f (l : List MOp) (most : Int) (hl : l.length < 9223372036854775800) : Ev (fun k => ratlinelaw04_Few.f k l most) (decide (∀ e ∈ l, ShortO e) && decide ((l.length : Int) ≤ most)) := by
  have := ofew_loop l most hl l.length 0 (by omega)
  rwa [List.drop_zero] at this
theorem pairs_loop (l : List MPr) (hl : l.length < 1000000000) : ∀ (m j : Nat), j + m = l.length → Ev (fun k => ratlinelaw11_Pairs.l0 k l l (l.length : Int) (j : Int)) true := by
  intro m
  induction m with
  | zero =>
    intro j hj
    obtain rfl : j = l.length := by omega
    exact ev_step (fun k => by rw [ratlinelaw11_Pairs.l0, if_neg (Int.lt_irrefl _)]) (ev_some _)
  | succ m ih =>
    intro j hj
    refine ev_step (fun k => by rw [ratlinelaw11_Pairs.l0, if_pos (by omega), if_pos (by omega), if_pos (by omega), if_pos (by omega), up1 (by omega)]) ?_
    exact ev_neg (by simp) (ih (j + 1) (by omega))
theorem pairs_same (l : List MPr) (hl : l.length < 1000000000) : Ev (fun k => ratlinelaw11_Pairs.f k l l) true := by
  unfold ratlinelaw11_Pairs.f
  exact ev_pos rfl (pairs_loop l hl l.length 0 (by omega))
def PairK (p : MPr) : Prop := 1 ≤ p.f0.size ∧ p.f0.size ≤ 64 ∧ p.f1.size ≤ 256
instance (p : MPr) : Decidable (PairK p) := inferInstanceAs (Decidable (_ ∧ _))
def behind (prev : Option ByteArray) (p : MPr) : Bool := match prev with | none => true | some q => Op.bytesLess q.toList p.f0.toList
def rightB : Option ByteArray → List MPr → Bool
  | _, [] => true
  | prev, p :: r => decide (PairK p) && behind prev p && rightB (some p.f0) r
def RightM (m : List MPr) : Prop := (∀ p ∈ m, PairK p) ∧ oRise m
instance (m : List MPr) : Decidable (RightM m) := inferInstanceAs (Decidable (_ ∧ _))
theorem rightB_iff : ∀ (m : List MPr) (prev : Option ByteArray), rightB prev m = true ↔ (∀ p ∈ m, PairK p) ∧ oRise m ∧ (∀ q, prev = some q → ∀ p ∈ m, lt q p.f0)
  | [], prev => ⟨fun _ => ⟨by simp, List.Pairwise.nil, by simp⟩, fun _ => rfl⟩
  | p :: r, prev => by
    rw [rightB, Bool.and_eq_true, Bool.and_eq_true, decide_eq_true_eq, rightB_iff r (some p.f0)]
    constructor
    · rintro ⟨⟨h1, h2⟩, h3, h4, h5⟩
      have h6 := h5 p.f0 rfl
      refine ⟨fun x hx => ?_, List.pairwise_cons.2 ⟨h6, h4⟩, fun q hq x hx => ?_⟩
      · rcases List.mem_cons.1 hx with rfl | hx
        · exact h1
        · exact h3 x hx
      · subst hq
        have h7 : lt q p.f0 := h2
        rcases List.mem_cons.1 hx with rfl | hx
        · exact h7
        · exact lt_trans h7 (h6 x hx)
    · rintro ⟨h1, h2, h3⟩
      obtain ⟨h4, h5⟩ := List.pairwise_cons.1 h2
      refine ⟨⟨h1 p (by simp), ?_⟩, fun x hx => h1 x (by simp [hx]), h5, fun q hq x hx => ?_⟩
      · cases prev with
        | none => rfl
        | some q => exact h3 q rfl p (by simp)
      · injection hq with hq
        subst hq
        exact h4 x hx
theorem rightB_right (m : List MPr) : rightB none m = decide (RightM m) := by
  rw [Bool.eq_iff_iff, rightB_iff, decide_eq_true_eq]
  exact ⟨fun h => ⟨h.1, h.2.1⟩, fun h => ⟨h.1, h.2, by simp⟩⟩
def prevAt (l : List MPr) (j : Nat) : Option ByteArray := if j = 0 then none else (l[j - 1]?).map (·.f0)
theorem prevAt_succ {l : List MPr} {j : Nat} (h : j < l.length) : prevAt l (j + 1) = some l[j].f0 := by
  unfold prevAt
  rw [if_neg (by omega), Nat.add_sub_cancel, List.getElem?_eq_getElem h]
  rfl
theorem putK_f (p : MPr) : batch_Op.f 1 p.f0 p.f1 = some (decide (PairK p)) := by
  rw [opK_f ⟨1, p.f0, p.f1⟩]
  congr 1
  refine decide_eq_decide.2 ?_
  show (1 ≤ p.f0.size ∧ p.f0.size ≤ 64 ∧ (1 : Int) ≤ 1 ∧ (p.f1.size : Int) ≤ (if (1 : Int) = 0 then 0 else 256)) ↔ (1 ≤ p.f0.size ∧ p.f0.size ≤ 64 ∧ p.f1.size ≤ 256)
  rw [if_neg (by decide)]
  constructor
  · rintro ⟨a, b, c, d⟩; exact ⟨a, b, by omega⟩
  · rintro ⟨a, b, c⟩; exact ⟨a, b, by decide, by omega⟩
theorem oright_loop (l : List MPr) (hl : l.length < 9223372036854775800) :
    ∀ (m j : Nat), j + m = l.length → Ev (fun k => omap_Right.l0 k l l (l.length : Int) (j : Int)) (rightB (prevAt l j) (l.drop j)) := by
  intro m
  induction m with
  | zero =>
    intro j hj
    obtain rfl : j = l.length := by omega
    refine ev_step (fun k => by rw [omap_Right.l0, if_neg (Int.lt_irrefl _)]) ?_
    rw [List.drop_length]
    exact ev_some _
  | succ m ih =>
    intro j hj
    have hlt : j < l.length := by omega
    refine ev_step (fun k => by rw [omap_Right.l0, if_pos (by omega), if_pos (by omega), if_pos (by omega), rd_pr l hlt, up1 (by omega)]) ?_
    rw [List.drop_eq_getElem_cons hlt, rightB, ← prevAt_succ hlt]
    refine ev_bind (putK_f _) ?_
    by_cases h1 : PairK l[j]
    · refine ev_pos (decide_eq_true h1) ?_
      rw [decide_eq_true h1, Bool.true_and]
      cases j with
      | zero =>
        refine ev_neg (by omega) ?_
        exact ih 1 (by omega)
      | succ j =>
        have hm : wrap64 (((j + 1 : Nat) : Int) - 1) = (j : Int) := by unfold wrap64; omega
        refine ev_pos (by omega) ?_
        rw [hm, rd_pr l (show j < l.length by omega)]
        refine ev_pos (by omega) (ev_pos (by omega) ?_)
        rw [prevAt_succ (show j < l.length by omega)]
        by_cases h2 : Op.bytesLess l[j].f0.toList l[j + 1].f0.toList = true
        · refine ev_pos h2 ?_
          rw [show behind (some l[j].f0) l[j + 1] = true from h2, Bool.true_and]
          exact ih (j + 1 + 1) (by omega)
        · refine ev_neg h2 ?_
          rw [show behind (some l[j].f0) l[j + 1] = false from by simpa [behind] using h2, Bool.false_and]
          exact ev_some _
    · refine ev_neg (by rw [decide_eq_false h1]; decide) ?_
      rw [decide_eq_false h1]
      exact ev_some _
theorem oright_f (l : List MPr) (hl : l.length < 9223372036854775800) : Ev (fun k => omap_Right.f k l) (decide (RightM l)) := by
  have := oright_loop l hl l.length 0 (by omega)
  rw [List.drop_zero, show prevAt l 0 = none from rfl, rightB_right] at this
  exact this
theorem oget_f {m : List MPr} (hm : m.length ≤ 1000000) (hr : oRise m) (key : ByteArray) : omap_Get.f m key = some ((oVal m key).getD ⟨#[]⟩, (oVal m key).isSome) := by
  unfold omap_Get.f
  have hf : omap_find.f m key = some ((oAt m key : Int), oIs m key) := by unfold omap_find.f; rw [if_pos ⟨hm, hr⟩]
  rw [hf]
  show (if oIs m key = true then _ else _) = _
  obtain ⟨A, mid, B, h⟩ := cut_of (key := key) hr
  rw [h.val, h.is, h.at]
  rcases h.mids with rfl | ⟨p, rfl, hp⟩
  · rfl
  · have hlt : A.length < m.length := by rw [h.eq]; simp
    show (if (!([p] : List MPr).isEmpty) = true then if (0 : Int) ≤ (A.length : Int) then if (A.length : Int) < (m.length : Int) then some ((rd_T39 m (A.length : Int)).f1, true) else none else none else some ((⟨#[]⟩ : ByteArray), false)) = _
    rw [if_pos (show (!([p] : List MPr).isEmpty) = true from rfl), if_pos (by omega), if_pos (by omega), rd_pr m hlt]
    have : m[A.length] = p := by
      have e := h.eq
      subst e
      simp
    rw [this]
    rfl
def oEnd (m : List MPr) (tk : ByteArray) : Nat := if tk.toList = [] then m.length else oAt m tk
/-- What is scanned. -/
def oScan (m : List MPr) (fr tk : ByteArray) (limit : Int) : List MPr := ((m.take (oEnd m tk)).drop (oAt m fr)).take limit.toNat
theorem oAt_le (m : List MPr) (key : ByteArray) : oAt m key ≤ m.length := (List.takeWhile_sublist _).length_le
theorem take_drop_take {α : Type} (m : List α) (a e : Nat) (lim : Int) (hl : m.length ≤ 1000000) (he : e ≤ m.length) (ha : a ≤ m.length) :
    (m.take ((mx (a : Int) (mn (e : Int) (wrap64 ((a : Int) + (mn (mx lim 0) (m.length : Int)))))) : Int).toNat).drop a = ((m.take e).drop a).take lim.toNat ∧ (a : Int) ≤ mx (a : Int) (mn (e : Int) (wrap64 ((a : Int) + (mn (mx lim 0) (m.length : Int))))) ∧ mx (a : Int) (mn (e : Int) (wrap64 ((a : Int) + (mn (mx lim 0) (m.length : Int))))) ≤ (m.length : Int) := by
  obtain ⟨q, hq⟩ : ∃ q : Nat, mn (mx lim 0) (m.length : Int) = (q : Int) ∧ q = min lim.toNat m.length := by
    refine ⟨min lim.toNat m.length, ?_, rfl⟩
    unfold mn mx
    split <;> split <;> omega
  rw [hq.1]
  have hw : wrap64 ((a : Int) + (q : Int)) = ((a + q : Nat) : Int) := by unfold wrap64; omega
  rw [hw]
  have hx : mx (a : Int) (mn (e : Int) ((a + q : Nat) : Int)) = ((max a (min e (a + q)) : Nat) : Int) := by
    unfold mn mx
    split <;> split <;> omega
  rw [hx, Int.toNat_natCast]
  refine ⟨?_, by omega, by omega⟩
  apply List.ext_getElem?
  intro i
  simp only [List.getElem?_drop, List.getElem?_take]
  by_cases h1 : a + i < e
  · rw [if_pos h1]
    by_cases h2 : i < lim.toNat
    · rw [if_pos h2]
      by_cases h3 : a + i < m.length
      · rw [if_pos (by omega)]
      · rw [List.getElem?_eq_none (by omega), ite_self]
    · rw [if_neg h2, if_neg (by omega)]
  · rw [if_neg h1, ite_self, if_neg (by omega)]
theorem oscan_f {m : List MPr} (hm : m.length ≤ 1000000) (hr : oRise m) (fr tk : ByteArray) (lim : Int) : omap_Scan.f m fr tk lim = some (oScan m fr tk lim) := by
  unfold omap_Scan.f
  have hf : ∀ key, omap_find.f m key = some ((oAt m key : Int), oIs m key) := fun key => by unfold omap_find.f; rw [if_pos ⟨hm, hr⟩]
  have hc : ∀ l : List MPr, l.length ≤ 1000000 → api_Pair.f l = some l := fun l hl => by unfold api_Pair.f; rw [if_pos (by omega)]
  rw [hf fr]
  unfold oScan oEnd
  by_cases ht : tk.toList = []
  · simp only [Option.bind_some]
    rw [if_pos ht, if_pos ht]
    obtain ⟨h1, h2, h3⟩ := take_drop_take m (oAt m fr) m.length lim hm (Nat.le_refl _) (oAt_le m fr)
    rw [if_pos (by omega), if_pos h2, if_pos h3, Int.toNat_natCast, h1, hc _ (by simp only [List.length_take, List.length_drop]; omega)]
    rfl
  · simp only [Option.bind_some]
    rw [if_neg ht, if_neg ht, hf tk]
    obtain ⟨h1, h2, h3⟩ := take_drop_take m (oAt m fr) (oAt m tk) lim hm (oAt_le m tk) (oAt_le m fr)
    simp only [Option.bind_some]
    rw [if_pos (by omega), if_pos h2, if_pos h3, Int.toNat_natCast, h1, hc _ (by simp only [List.length_take, List.length_drop]; omega)]
    rfl
theorem oScan_len (m : List MPr) (fr tk : ByteArray) (lim : Int) : (oScan m fr tk lim).length ≤ m.length := by
  unfold oScan
  simp only [List.length_take, List.length_drop]
  omega
theorem oapply_f {m : List MPr} (hm : m.length ≤ 1000) (hr : oRise m) {l : List MOp} (hl : l.length ≤ 1000) : omap_Apply.f m l = some (oAll m l) := by unfold omap_Apply.f; rw [if_pos ⟨hm, hl, hr⟩]
end Go.Proofs.YtkncjpafehnmnaaL

end

section
set_option linter.unusedVariables false
set_option linter.unusedSimpArgs false
namespace Go.Proofs.YtkncjpafehnmnaaL
open Go Go.RowKit Go.Proofs.YtkncjpafehnmnaaG Go.Proofs.Ytkncjpafehnmnaa.P Go.Proofs.YtkncjpafehnmnaaW.PrintWords Go.Proofs.YtkncjpafehnmnaaW.PrintMore
theorem rright_loop (l : List MPr) (hl : l.length < 9223372036854775800) :
    ∀ (m j : Nat), j + m = l.length → Ev (fun k => ratlineref12_Right.l0 k l (j : Int)) (rightB (prevAt l j) (l.drop j)) := by
  intro m
  induction m with
  | zero =>
    intro j hj
    obtain rfl : j = l.length := by omega
    refine ev_step (fun k => by rw [ratlineref12_Right.l0, if_neg (Int.lt_irrefl _)]) ?_
    rw [List.drop_length]
    exact ev_some _
  | succ m ih =>
    intro j hj
    have hlt : j < l.length := by omega
    refine ev_step (fun k => by rw [ratlineref12_Right.l0, if_pos (by omega), if_pos (by omega), rd_pr l hlt, up1 (by omega)]) ?_
    rw [List.drop_eq_getElem_cons hlt, rightB, ← prevAt_succ hlt]
    by_cases h1 : ((l[j].f0.size : Nat) : Int) < 1
    · refine ev_pos h1 ?_
      rw [decide_eq_false (fun h : PairK l[j] => by have := h.1; omega)]
      exact ev_some _
    refine ev_neg h1 ?_
    by_cases h2 : ((l[j].f0.size : Nat) : Int) > 64
    · refine ev_pos h2 ?_
      rw [decide_eq_false (fun h : PairK l[j] => by have := h.2.1; omega)]
      exact ev_some _
    refine ev_neg h2 ?_
    by_cases h3 : ((l[j].f1.size : Nat) : Int) > 256
    · refine ev_pos h3 ?_
      rw [decide_eq_false (fun h : PairK l[j] => by have := h.2.2; omega)]
      exact ev_some _
    refine ev_neg h3 ?_
    rw [decide_eq_true (show PairK l[j] from ⟨by omega, by omega, by omega⟩), Bool.true_and]
    cases j with
    | zero =>
      refine ev_neg (by omega) ?_
      exact ih 1 (by omega)
    | succ j =>
      have hm : wrap64 (((j + 1 : Nat) : Int) - 1) = (j : Int) := by unfold wrap64; omega
      refine ev_pos (by omega) ?_
      rw [hm, rd_pr l (show j < l.length by omega)]
      refine ev_pos (by omega) (ev_pos (by omega) ?_)
      rw [prevAt_succ (show j < l.length by omega)]
      by_cases h2 : Op.bytesLess l[j].f0.toList l[j + 1].f0.toList = true
      · refine ev_pos h2 ?_
        rw [show behind (some l[j].f0) l[j + 1] = true from h2, Bool.true_and]
        exact ih (j + 1 + 1) (by omega)
      · refine ev_neg h2 ?_
        rw [show behind (some l[j].f0) l[j + 1] = false from by simpa [behind] using h2, Bool.false_and]
        exact ev_some _
theorem rright_f (l : List MPr) (hl : l.length < 9223372036854775800) : Ev (fun k => ratlineref12_Right.f k l) (decide (RightM l)) := by
  have := rright_loop l hl l.length 0 (by omega)
  rw [List.drop_zero, show prevAt l 0 = none from rfl, rightB_right] at this
  exact this
def gVal (key : ByteArray) : List MPr → ByteArray × Bool
  | [] => (⟨#[]⟩, false)
  | p :: r => if p.f0.toList = key.toList then (p.f1, true) else gVal key r
theorem rget_loop (l : List MPr) (key : ByteArray) (hl : l.length < 9223372036854775800) :
    ∀ (m j : Nat), j + m = l.length → Ev (fun k => ratlineref12_Get.l0 k l key (j : Int)) (gVal key (l.drop j)) := by
  intro m
  induction m with
  | zero =>
    intro j hj
    obtain rfl : j = l.length := by omega
    refine ev_step (fun k => by rw [ratlineref12_Get.l0, if_neg (Int.lt_irrefl _)]) ?_
    rw [List.drop_length]
    exact ev_some _
  | succ m ih =>
    intro j hj
    have hlt : j < l.length := by omega
    refine ev_step (fun k => by rw [ratlineref12_Get.l0, if_pos (by omega), if_pos (by omega), rd_pr l hlt, up1 (by omega)]) ?_
    rw [List.drop_eq_getElem_cons hlt, gVal]
    by_cases h1 : l[j].f0.toList = key.toList
    · rw [if_pos h1]
      exact ev_pos h1 (ev_some _)
    · rw [if_neg h1]
      exact ev_neg h1 (ih (j + 1) (by omega))
theorem gVal_app (key : ByteArray) : ∀ (A C : List MPr), (∀ p ∈ A, p.f0 ≠ key) → gVal key (A ++ C) = gVal key C
  | [], C, _ => rfl
  | p :: A, C, h => by
    rw [List.cons_append, gVal, if_neg (fun e => h p (by simp) (ba_ext e))]
    exact gVal_app key A C (fun q hq => h q (by simp [hq]))
theorem gVal_val {m : List MPr} (hr : oRise m) (key : ByteArray) : gVal key m = ((oVal m key).getD ⟨#[]⟩, (oVal m key).isSome) := by
  obtain ⟨A, mid, B, h⟩ := cut_of (key := key) hr
  rw [h.val, h.eq, gVal_app key A _ (fun p hp e => lt_irrefl key (by have := h.low p hp; rwa [e] at this))]
  rcases h.mids with rfl | ⟨p, rfl, hp⟩
  · have : gVal key B = gVal key (B ++ []) := by rw [List.append_nil]
    show gVal key B = _
    rw [this, gVal_app key B [] (fun p hp e => lt_irrefl key (by have := h.high p hp; rwa [e] at this))]
    rfl
  · show gVal key (p :: B) = _
    rw [gVal, if_pos (by rw [hp])]
    rfl
theorem rget_f {m : List MPr} (hl : m.length < 9223372036854775800) (hr : oRise m) (key : ByteArray) : Ev (fun k => ratlineref12_Get.f k m key) ((oVal m key).getD ⟨#[]⟩, (oVal m key).isSome) := by
  have := rget_loop m key hl m.length 0 (by omega)
  rw [List.drop_zero, gVal_val hr] at this
  exact this
def rOne (o : MOp) : Bool → List MPr → List MPr
  | done, [] => if done = true then [] else [⟨o.f1, o.f2⟩]
  | done, p :: r => if done = false ∧ ¬ lt p.f0 o.f1 then [⟨o.f1, o.f2⟩] ++ ((if p.f0.toList = o.f1.toList then [] else [p]) ++ rOne o true r) else (if p.f0.toList = o.f1.toList then [] else [p]) ++ rOne o done r
theorem rone_loop (l : List MPr) (o : MOp) (hl : l.length < 1000000) :
    ∀ (m j : Nat) (done : Bool) (out : List MPr), j + m = l.length → out.length ≤ 1000000 + 2 * j → Ev (fun k => ratlineref12_one.l0 k l out done (j : Int) o.f0 o.f1 o.f2) (out ++ rOne o done (l.drop j)) := by
  intro m
  induction m with
  | zero =>
    intro j done out hj ho
    obtain rfl : j = l.length := by omega
    refine ev_step (fun k => by rw [ratlineref12_one.l0, if_neg (Int.lt_irrefl _)]) ?_
    rw [List.drop_length, rOne]
    cases done with
    | true =>
      simp only [if_true, List.append_nil]
      exact ev_some _
    | false =>
      simp only [Bool.false_eq_true, if_false]
      exact ev_pos (by omega) (ev_some _)
  | succ m ih =>
    intro j done out hj ho
    have hlt : j < l.length := by omega
    rw [List.drop_eq_getElem_cons hlt, rOne]
    have hstep : ∀ (d : Bool) (out' : List MPr), out'.length ≤ 1000000 + 2 * j + 1 → Ev (fun k => if l[j].f0.toList = o.f1.toList then (ratlineref12_one.l0 k l out' d (wrap64 ((j : Int) + 1)) o.f0 o.f1 o.f2) else (if out'.length < 4398046511104 then (ratlineref12_one.l0 k l (out' ++ [(⟨l[j].f0, l[j].f1⟩ : MPr)]) d (wrap64 ((j : Int) + 1)) o.f0 o.f1 o.f2) else (none))) (out' ++ ((if l[j].f0.toList = o.f1.toList then [] else [l[j]]) ++ rOne o d (l.drop (j + 1)))) := by
      intro d out' ho'
      rw [up1 (by omega)]
      by_cases h1 : l[j].f0.toList = o.f1.toList
      · rw [if_pos h1, List.nil_append]
        exact ev_pos h1 (ih (j + 1) d out' (by omega) (by omega))
      · rw [if_neg h1, ← List.append_assoc]
        exact ev_neg h1 (ev_pos (by omega) (ih (j + 1) d _ (by omega) (by rw [List.length_append]; simp; omega)))
    have hj1 : ∀ (d : Bool) (out' : List MPr), out'.length ≤ 1000000 + 2 * j + 1 → Ev (fun k => ratlineref12_one.j1 k l out' d (j : Int) false o.f0 o.f1 o.f2) (out' ++ ((if l[j].f0.toList = o.f1.toList then [] else [l[j]]) ++ rOne o d (l.drop (j + 1)))) := by
      intro d out' ho'
      refine ev_step (fun k => by rw [ratlineref12_one.j1, if_neg (by decide), if_pos (by omega), if_pos (by omega), rd_pr l hlt]) ?_
      exact hstep d out' ho'
    cases done with
    | true =>
      rw [if_neg (fun h => by cases h.1)]
      refine ev_step (fun k => by rw [ratlineref12_one.l0, if_pos (by omega), if_pos rfl]) ?_
      exact hj1 true out (by omega)
    | false =>
      refine ev_step (fun k => by rw [ratlineref12_one.l0, if_pos (by omega), if_neg (by decide), if_pos (by omega), rd_pr l hlt]) ?_
      by_cases h1 : lt l[j].f0 o.f1
      · rw [if_neg (fun h => h.2 h1), show Op.bytesLess l[j].f0.toList o.f1.toList = true from h1]
        exact hj1 false out (by omega)
      · rw [if_pos ⟨rfl, h1⟩, nlt_iff.2 h1, ← List.append_assoc]
        refine ev_step (fun k => by rw [show (!false) = true from rfl, ratlineref12_one.j1, if_pos rfl, if_pos (by omega)]) ?_
        refine ev_bind rfl ?_
        refine ev_pos (by omega) (ev_pos (by omega) ?_)
        rw [rd_pr l hlt]
        exact hstep true _ (by rw [List.length_append]; simp; omega)
theorem rOne_low (o : MOp) : ∀ (A C : List MPr) (done : Bool), (∀ p ∈ A, lt p.f0 o.f1) → rOne o done (A ++ C) = A ++ rOne o done C
  | [], C, done, _ => rfl
  | p :: A, C, done, h => by
    have hp := h p (by simp)
    rw [List.cons_append, rOne, if_neg (fun z => z.2 hp), if_neg (fun e => lt_irrefl o.f1 (by have e2 := ba_ext e; rwa [e2] at hp)), rOne_low o A C done (fun q hq => h q (by simp [hq]))]
    rfl
theorem rOne_high (o : MOp) : ∀ (B : List MPr), (∀ p ∈ B, lt o.f1 p.f0) → rOne o true B = B
  | [], _ => rfl
  | p :: B, h => by
    have hp := h p (by simp)
    rw [rOne, if_neg (fun z => by cases z.1), if_neg (fun e => lt_irrefl o.f1 (by have e2 := ba_ext e; rwa [e2] at hp)), rOne_high o B (fun q hq => h q (by simp [hq]))]
    rfl
theorem rOne_do {m : List MPr} (hr : oRise m) (o : MOp) (hk : OpK o) : rOne o (o.f0 == 0) m = oDo m o := by
  obtain ⟨A, mid, B, h⟩ := cut_of (key := o.f1) hr
  rw [oDo_cut h hk, h.eq, rOne_low o A _ _ h.low]
  congr 1
  unfold oNew
  by_cases h0 : o.f0 = 0
  · rw [if_pos h0, show (o.f0 == 0) = true by simpa using h0]
    rcases h.mids with rfl | ⟨p, rfl, hp⟩
    · exact rOne_high o B h.high
    · show rOne o true (p :: B) = B
      rw [rOne, if_neg (fun z => by cases z.1), if_pos (by rw [hp]), List.nil_append, rOne_high o B h.high]
  · rw [if_neg h0, show (o.f0 == 0) = false by simpa using h0]
    rcases h.mids with rfl | ⟨p, rfl, hp⟩
    · show rOne o false B = [⟨o.f1, o.f2⟩] ++ B
      cases B with
      | nil => rfl
      | cons q B =>
        have hq := h.high q (by simp)
        rw [rOne, if_pos ⟨rfl, lt_asymm hq⟩, if_neg (fun e => lt_irrefl o.f1 (by have e2 := ba_ext e; rwa [e2] at hq)), rOne_high o B (fun x hx => h.high x (by simp [hx]))]
        rfl
    · show rOne o false (p :: B) = [⟨o.f1, o.f2⟩] ++ B
      rw [rOne, if_pos ⟨rfl, by rw [hp]; exact lt_irrefl _⟩, if_pos (by rw [hp]), List.nil_append, rOne_high o B h.high]
theorem rop_f (o : MOp) (hw : 0 ≤ o.f0) : ratlineref04_Op.f o.f0 o.f1 o.f2 = some (decide (OpK o)) := by
  unfold ratlineref04_Op.f
  by_cases h1 : ((o.f1.size : Nat) : Int) < 1
  · rw [if_pos h1, decide_eq_false (fun h : OpK o => by have := h.1; omega)]
  rw [if_neg h1]
  by_cases h2 : ((o.f1.size : Nat) : Int) > 64
  · rw [if_pos h2, decide_eq_false (fun h : OpK o => by have := h.2.1; omega)]
  rw [if_neg h2]
  by_cases h3 : o.f0 = 1
  · rw [if_pos h3]
    by_cases h4 : ((o.f2.size : Nat) : Int) ≤ 256
    · rw [if_pos h4, decide_eq_true (show OpK o from ⟨by omega, by omega, by omega, by rw [if_neg (by omega)]; exact h4⟩)]
    · rw [if_neg h4, if_neg (by omega), decide_eq_false (fun h : OpK o => by have := h.2.2.2; rw [if_neg (by omega)] at this; omega)]
  · rw [if_neg h3]
    by_cases h4 : o.f0 = 0
    · rw [if_pos h4]
      congr 1
      rw [Bool.eq_iff_iff, decide_eq_true_eq, beq_iff_eq, ba_nil_iff]
      exact ⟨fun h => ⟨by omega, by omega, by omega, by rw [if_pos h4]; omega⟩, fun h => by have := h.2.2.2; rw [if_pos h4] at this; omega⟩
    · rw [if_neg h4, decide_eq_false (fun h : OpK o => by have := h.2.2.1; omega)]
theorem rapply_loop (l : List MOp) (hw : ∀ o ∈ l, 0 ≤ o.f0) (hl : l.length ≤ 1000) :
    ∀ (m j : Nat) (out : List MPr), j + m = l.length → out.length ≤ 1000 + j → oRise out → Ev (fun k => ratlineref12_Apply.l0 k l out (j : Int)) (oAll out (l.drop j)) := by
  intro m
  induction m with
  | zero =>
    intro j out hj ho hr
    obtain rfl : j = l.length := by omega
    refine ev_step (fun k => by rw [ratlineref12_Apply.l0, if_neg (Int.lt_irrefl _)]) ?_
    rw [List.drop_length]
    exact ev_some _
  | succ m ih =>
    intro j out hj ho hr
    have hlt : j < l.length := by omega
    rw [List.drop_eq_getElem_cons hlt]
    show Ev _ (oAll (oDo out l[j]) (l.drop (j + 1)))
    refine ev_step (fun k => by rw [ratlineref12_Apply.l0, if_pos (by omega), if_pos (by omega), rd_op l hlt, up1 (by omega)]) ?_
    refine ev_bind (rop_f l[j] (hw _ (List.getElem_mem _))) ?_
    by_cases hk : OpK l[j]
    · refine ev_pos (decide_eq_true hk) ?_
      have hone := rone_loop out l[j] (by omega) out.length 0 (l[j].f0 == 0) [] (by omega) (by simp)
      rw [List.drop_zero, List.nil_append, rOne_do hr l[j] hk] at hone
      refine ev_call (g := fun k => ratlineref12_one.f k out l[j].f0 l[j].f1 l[j].f2) hone ?_
      exact ih (j + 1) _ (by omega) (by have := oDo_len out l[j]; omega) (oDo_rise _ hr)
    · refine ev_neg (by rw [decide_eq_false hk]; decide) ?_
      have : oDo out l[j] = out := by unfold oDo; rw [if_neg hk]
      rw [this]
      exact ih (j + 1) _ (by omega) (by omega) hr
theorem rapply_f {m : List MPr} (hm : m.length ≤ 1000) (hr : oRise m) {l : List MOp} (hl : l.length ≤ 1000) (hw : ∀ o ∈ l, 0 ≤ o.f0) : Ev (fun k => ratlineref12_Apply.f k m l) (oAll m l) := by
  unfold ratlineref12_Apply.f
  refine ev_pos (by simp; omega) ?_
  have := rapply_loop l hw hl l.length 0 m (by omega) (by omega) hr
  rw [List.drop_zero] at this
  exact this
def sel (fr tk : ByteArray) (p : MPr) : Bool := !(Op.bytesLess p.f0.toList fr.toList) && (decide (tk.toList = []) || Op.bytesLess p.f0.toList tk.toList)
def rScan (fr tk : ByteArray) (lim : Int) : List MPr → List MPr → List MPr
  | out, [] => out
  | out, p :: r => rScan fr tk lim (if (out.length : Int) < lim ∧ sel fr tk p = true then out ++ [p] else out) r
theorem rscan_loop (l : List MPr) (fr tk : ByteArray) (lim : Int) (hl : l.length < 1000000) :
    ∀ (m j : Nat) (out : List MPr), j + m = l.length → out.length ≤ j → Ev (fun k => ratlineref12_Scan.l0 k l fr tk lim out (j : Int)) (rScan fr tk lim out (l.drop j)) := by
  intro m
  induction m with
  | zero =>
    intro j out hj ho
    obtain rfl : j = l.length := by omega
    refine ev_step (fun k => by rw [ratlineref12_Scan.l0, if_neg (Int.lt_irrefl _)]) ?_
    rw [List.drop_length]
    exact ev_some _
  | succ m ih =>
    intro j out hj ho
    have hlt : j < l.length := by omega
    rw [List.drop_eq_getElem_cons hlt, rScan]
    refine ev_step (fun k => by rw [ratlineref12_Scan.l0, if_pos (by omega), rd_pr l hlt, up1 (by omega)]) ?_
    by_cases h1 : (out.length : Int) < lim
    · refine ev_pos h1 (ev_pos (by omega) ?_)
      by_cases h2 : Op.bytesLess l[j].f0.toList fr.toList = true
      · rw [if_neg (fun h => by have := h.2; unfold sel at this; rw [h2] at this; simp at this)]
        exact ev_pos h2 (ih (j + 1) out (by omega) (by omega))
      · refine ev_neg h2 ?_
        have h2' : Op.bytesLess l[j].f0.toList fr.toList = false := by simpa using h2
        by_cases h3 : tk.toList = []
        · rw [if_pos ⟨h1, by unfold sel; rw [h2', decide_eq_true h3]; rfl⟩]
          exact ev_pos h3 (ev_pos (by omega) (ih (j + 1) _ (by omega) (by rw [List.length_append]; simp; omega)))
        · refine ev_neg h3 ?_
          by_cases h4 : Op.bytesLess l[j].f0.toList tk.toList = true
          · rw [if_pos ⟨h1, by unfold sel; rw [h2', h4]; simp⟩]
            exact ev_pos h4 (ev_pos (by omega) (ih (j + 1) _ (by omega) (by rw [List.length_append]; simp; omega)))
          · rw [if_neg (fun h => by have := h.2; unfold sel at this; rw [h2', decide_eq_false h3] at this; simp at this; exact h4 this)]
            exact ev_neg h4 (ih (j + 1) out (by omega) (by omega))
    · rw [if_neg (fun h => h1 h.1)]
      exact ev_neg h1 (ih (j + 1) out (by omega) (by omega))
theorem rScan_eq (fr tk : ByteArray) (lim : Int) : ∀ (l out : List MPr), rScan fr tk lim out l = out ++ (l.filter (sel fr tk)).take (lim.toNat - out.length)
  | [], out => by simp [rScan]
  | p :: r, out => by
    rw [rScan, rScan_eq fr tk lim r]
    by_cases h : sel fr tk p = true
    · rw [List.filter_cons_of_pos h]
      by_cases h1 : (out.length : Int) < lim
      · rw [if_pos ⟨h1, h⟩, List.append_assoc]
        congr 1
        rw [show lim.toNat - out.length = (lim.toNat - (out ++ [p]).length) + 1 by rw [List.length_append]; simp; omega, List.take_succ_cons]
        rfl
      · rw [if_neg (fun z => h1 z.1), show lim.toNat - out.length = 0 by omega]
        simp
    · rw [List.filter_cons_of_neg h, if_neg (fun z => h z.2)]
theorem sel_cut {m : List MPr} (hr : oRise m) (fr tk : ByteArray) : m.filter (sel fr tk) = (m.take (oEnd m tk)).drop (oAt m fr) := by
  have hsplit : m.filter (sel fr tk) = (m.filter fun p => decide (tk.toList = []) || Op.bytesLess p.f0.toList tk.toList).filter fun p => !(Op.bytesLess p.f0.toList fr.toList) := by
    rw [List.filter_filter]
    rfl
  have hend : (m.filter fun p => decide (tk.toList = []) || Op.bytesLess p.f0.toList tk.toList) = m.take (oEnd m tk) := by
    unfold oEnd
    by_cases ht : tk.toList = []
    · rw [if_pos ht, List.take_length]
      exact List.filter_eq_self.2 (fun p _ => by rw [decide_eq_true ht]; rfl)
    · rw [if_neg ht]
      obtain ⟨A, mid, B, h⟩ := cut_of (key := tk) hr
      rw [h.at]
      conv => lhs; rw [h.eq]
      conv => rhs; rw [h.eq]
      rw [List.take_left, List.filter_append, List.filter_eq_self.2 (fun p hp => by rw [show Op.bytesLess p.f0.toList tk.toList = true from h.low p hp, Bool.or_true]), List.filter_eq_nil_iff.2 (fun p hp hb => ?_), List.append_nil]
      rw [decide_eq_false ht, Bool.false_or] at hb
      have hb' : lt p.f0 tk := hb
      rcases List.mem_append.1 hp with hx | hx
      · rcases h.mids with e | ⟨q, e, hq⟩
        · rw [e] at hx; simp at hx
        · rw [e] at hx
          rw [List.mem_singleton.1 hx, hq] at hb'
          exact lt_irrefl _ hb'
      · exact lt_asymm hb' (h.high p hx)
  rw [hsplit, hend]
  obtain ⟨A, mid, B, h⟩ := cut_of (key := fr) hr
  obtain ⟨e, he⟩ : ∃ e, e = oEnd m tk := ⟨_, rfl⟩
  rw [h.at, ← he]
  conv => lhs; rw [h.eq]
  conv => rhs; rw [h.eq]
  rw [List.take_append, List.filter_append, List.drop_append, List.filter_eq_nil_iff.2 (fun p hp hb => by
    have := h.low p (List.mem_of_mem_take hp)
    rw [show Op.bytesLess p.f0.toList fr.toList = true from this] at hb
    cases hb), List.filter_eq_self.2 (fun p hp => by
    have hx := List.mem_of_mem_take hp
    rw [nlt_iff.2]
    · rfl
    · intro hb
      rcases List.mem_append.1 hx with hx | hx
      · rcases h.mids with e | ⟨q, e, hq⟩
        · rw [e] at hx; simp at hx
        · rw [e] at hx
          rw [List.mem_singleton.1 hx, hq] at hb
          exact lt_irrefl _ hb
      · exact lt_asymm hb (h.high p hx)), List.nil_append, List.length_take]
  rw [show (A.take e).drop A.length = [] from List.drop_eq_nil_of_le (by rw [List.length_take]; omega), List.nil_append]
  by_cases hA : e ≤ A.length
  · rw [show e - A.length = 0 by omega]; simp
  · rw [show A.length - min e A.length = 0 by omega, List.drop_zero]
theorem rscan_f {m : List MPr} (hm : m.length < 1000000) (hr : oRise m) (fr tk : ByteArray) (lim : Int) : Ev (fun k => ratlineref12_Scan.f k m fr tk lim) (oScan m fr tk lim) := by
  have := rscan_loop m fr tk lim hm m.length 0 [] (by omega) (by simp)
  rw [List.drop_zero, rScan_eq, List.nil_append, List.length_nil, Nat.sub_zero, sel_cut hr] at this
  exact this
end Go.Proofs.YtkncjpafehnmnaaL

end

section
set_option linter.unusedVariables false
namespace Go.Proofs.YtkncjpafehnmnaaL
open Go Go.RowKit Go.Proofs.YtkncjpafehnmnaaG Go.Proofs.Ytkncjpafehnmnaa.P Go.Proofs.YtkncjpafehnmnaaW.PrintWords Go.Proofs.YtkncjpafehnmnaaW.PrintMore
theorem awake_ten : ratlinelaw12_awake.f 10 = some true := by kernel_rfl
theorem awake12 : Ev (fun k => ratlinelaw12_awake.f k) true := Ev.of ratlinelaw12_awake.mono awake_ten
end Go.Proofs.YtkncjpafehnmnaaL

end

section
set_option linter.unusedVariables false
namespace Go.Proofs.Ytkncjpafehnmnaa.Pure
open Go Go.RowKit Go.Proofs.Ytkncjpafehnmnaa.P Go.Proofs.YtkncjpafehnmnaaG Go.Proofs.YtkncjpafehnmnaaL Go.Proofs.YtkncjpafehnmnaaW.PrintWords Go.Proofs.YtkncjpafehnmnaaW.PrintMore Go.Proofs.YtkncjpafehnmnaaW.PrintLast
theorem tells_j (m : List MPr) (l : List MOp) (a2 a3 : ByteArray) (a4 : Int) (b : Bool) (h : b = false → m.length ≤ 60 ∧ l.length ≤ 40) (hw : ∀ o ∈ l, 0 ≤ o.f0) (hl : m.length < 9223372036854775800) : Ev (fun k => ratlinelaw12_OmapTells.j0 k m l a2 a3 a4 b) true := by
  cases b with
  | true =>
    refine ev_step (fun k => by rw [ratlinelaw12_OmapTells.j0, if_pos rfl]) ?_
    exact ev_call awake12 (ev_some _)
  | false =>
    obtain ⟨h1, h2⟩ := h rfl
    refine ev_step (fun k => by rw [ratlinelaw12_OmapTells.j0, if_neg (by decide)]) ?_
    refine ev_call (oright_f m hl) (ev_call (rright_f m hl) (ev_neg (by simp) (ev_call (rright_f m hl) ?_)))
    by_cases hr : RightM m
    · refine ev_pos (decide_eq_true hr) ?_
      refine ev_bind (oget_f (by omega) hr.2 a2) (ev_call (rget_f hl hr.2 a2) (ev_pos rfl (ev_pos (by simp) ?_)))
      refine ev_bind (oapply_f (by omega) hr.2 (by omega)) (ev_call (rapply_f (by omega) hr.2 (by omega) hw) ?_)
      refine ev_call (pairs_same _ (by have := oAll_len l m; omega)) (ev_pos rfl ?_)
      refine ev_bind (oscan_f (by omega) hr.2 a2 a3 a4) (ev_call (rscan_f (by omega) hr.2 a2 a3 a4) ?_)
      refine ev_call (pairs_same _ (by have := oScan_len m a2 a3 a4; omega)) (ev_pos rfl ?_)
      exact ev_call awake12 (ev_some _)
    · refine ev_neg (by rw [decide_eq_false hr]; decide) ?_
      exact ev_call awake12 (ev_some _)
theorem OmapTells (m : List MPr) (_ : m.length ≤ maxLen) (hm : m.length * 32 ≤ 140737488351232) (_ : ∀ p ∈ m, p.f0.size ≤ maxLen ∧ p.f1.size ≤ maxLen)
    (l : List MOp) (_ : l.length ≤ maxLen) (hl : l.length * 40 ≤ 140737488351232) (hw : ∀ o ∈ l, (Lit.int .u8 o.f0).wf = true ∧ o.f1.size ≤ maxLen ∧ o.f2.size ≤ maxLen)
    (a2 : ByteArray) (_ : a2.size ≤ maxLen) (a3 : ByteArray) (_ : a3.size ≤ maxLen) (a4 : Int) (_ : (Lit.int .i64 a4).wf = true) :
    ∃ k, ratlinelaw12_OmapTells.f k m l a2 a3 a4 = some true := by
  have hw' : ∀ o ∈ l, 0 ≤ o.f0 := fun o ho => by
    have := (hw o ho).1
    simp [Lit.wf, IntKind.min, IntKind.max, IntKind.bits, IntKind.signed] at this
    omega
  refine Ev.rounds (g := fun k => ratlinelaw12_OmapTells.f k m l a2 a3 a4) ?_
  unfold ratlinelaw12_OmapTells.f
  have hj := fun b h => tells_j m l a2 a3 a4 b h hw' (by omega)
  have ht : Ev (fun k => ratlinelaw12_OmapTells.j0 k m l a2 a3 a4 true) true := hj true (fun h => by cases h)
  refine ev_call (pfew_f m 60 (by omega)) ?_
  by_cases h1 : (∀ e ∈ m, ShortP e) ∧ ((m.length : Int) ≤ 60)
  · refine ev_pos (by simpa using h1) ?_
    refine ev_call (ofew_f l 40 (by omega)) ?_
    by_cases h2 : (∀ e ∈ l, ShortO e) ∧ ((l.length : Int) ≤ 40)
    · refine ev_pos (by simpa using h2) ?_
      by_cases h3 : ((a2.size : Nat) : Int) > 70
      · exact ev_pos h3 ht
      · exact ev_neg h3 (hj _ (fun _ => ⟨by omega, by omega⟩))
    · exact ev_neg (by simpa using h2) ht
  · exact ev_neg (by simpa using h1) ht
end Go.Proofs.Ytkncjpafehnmnaa.Pure

end

section
set_option linter.unusedVariables false
namespace Go.Proofs.YtkncjpafehnmnaaG
open Go Go.RowKit Go.Proofs.YtkncjpafehnmnaaW.PrintWords

/-- What is trodden of this type is of this kind, and is right. -/
def Opens {α : Type} (P : Program) (t : TypeId) (d : Kd α) (wf : α → Prop) : Prop :=
  ∀ (H : Type) (enc : TypeId × Value → H) (w : World) (base : Nat) (sp : Nat → Bool) (held : Bool) (fuel : Nat) (cs : List Value) (x : DataW H × List MemPlace),
    DataW.trod enc P w base sp held fuel t cs = some x → ∃ a, d.K w a cs ∧ wf a
section
variable {P : Program} {t e : TypeId}
theorem opens_int {k : IntKind} (ht : P.underlying t = some (.int k)) : Opens P t (Kd.int k) (fun n => (Lit.int k n).wf = true) := by
  intro H enc w base sp held fuel cs x h
  obtain ⟨n, rfl, _, hw⟩ := DataW.trod_int ht h
  exact ⟨n, rfl, hw⟩
theorem opens_string (ht : P.underlying t = some .string) : Opens P t Kd.string (fun s => s.size ≤ maxLen) := by
  intro H enc w base sp held fuel cs x h
  obtain ⟨n, rfl, _, hm⟩ := DataW.trod_string ht h
  exact ⟨n, rfl, hm⟩
theorem build {α : Type} {Q : Nat → α → Prop} : ∀ n : Nat, (∀ i, i < n → ∃ a, Q i a) → ∃ l : List α, l.length = n ∧ ∀ i a, l[i]? = some a → Q i a := by
  intro n
  induction n with
  | zero => intro _; exact ⟨[], rfl, fun i a h => by simp at h⟩
  | succ n ih =>
    intro h
    obtain ⟨l, hl, hq⟩ := ih (fun i hi => h i (by omega))
    obtain ⟨a, ha⟩ := h n (by omega)
    refine ⟨l ++ [a], by simp [hl], fun i b hb => ?_⟩
    by_cases hi : i < n
    · rw [List.getElem?_append_left (by omega)] at hb
      exact hq i b hb
    · rw [List.getElem?_append_right (by omega)] at hb
      by_cases hin : i = n
      · subst hin
        rw [hl, Nat.sub_self] at hb
        simp at hb
        exact hb ▸ ha
      · rw [List.getElem?_eq_none (by simp; omega)] at hb
        cases hb
theorem opens_row {α : Type} {d : Kd α} {wf : α → Prop} (hc : P.cellsOf e = d.sz) (ht : P.underlying t = some (.slice e)) (he : Opens P e d wf)
    {H : Type} {enc : TypeId × Value → H} {w : World} {base : Nat} {sp : Nat → Bool} {held : Bool} {fuel : Nat} {cs : List Value} {x : DataW H × List MemPlace} (h : DataW.trod enc P w base sp held fuel t cs = some x) :
    ∃ (A : Option Addr) (c : Nat) (xs : List α), cs = [.slice A xs.length c] ∧ xs.length ≤ c ∧ c ≤ maxLen ∧ d.C w A xs.length xs ∧ ∀ a ∈ xs, wf a := by
  rcases DataW.trod_slice ht h with ⟨rfl, _⟩ | ⟨ad, len, cap, elems, rest, n, _, rfl, _, hb, hl, hm, hn, hel, _, _⟩
  · exact ⟨none, 0, [], rfl, Nat.le_refl _, by decide, Kd.C_nil d w, fun a ha => by cases ha⟩
  · obtain ⟨xs, hxl, hx⟩ := build (Q := fun i a => wf a ∧ ∃ c, c.length = d.sz ∧ d.K w a c ∧ ∀ j u, c[j]? = some u → w.cell? (ad.add (i * d.sz + j)) = some u) len (fun i hi => by
      have h1 := hel i hi
      rw [List.getElem?_eq_getElem (by omega)] at h1
      obtain ⟨cs', hcs, htr⟩ := Option.bind_eq_some_iff.1 h1
      obtain ⟨a, ha, hw⟩ := he H enc w base sp held n cs' _ htr
      have hlen := d.K_len ha
      obtain ⟨_, hlen2, hcell⟩ := World.cells?_some hcs
      refine ⟨a, hw, cs', hlen, ha, fun j u hj => ?_⟩
      have hjl : j < cs'.length := by
        by_cases hjl : j < cs'.length
        · exact hjl
        · rw [List.getElem?_eq_none (by omega)] at hj; cases hj
      have h2 := hcell j (by omega)
      rw [hc] at h2
      have hadd : (ad.add (i * d.sz)).add j = ad.add (i * d.sz + j) := Addr.add_add ad _ _
      rw [← hadd, h2, hj])
    have hmax : maxLen ≤ 9223372036854775807 := by decide
    refine ⟨some ad, cap, xs, by rw [hxl], by omega, hm, ⟨rfl, by omega, fun _ => ⟨ad, rfl, fun j p hp => (hx j p hp).2⟩⟩, fun a ha => ?_⟩
    obtain ⟨i, hi⟩ := List.mem_iff_getElem?.1 ha
    exact (hx i a hi).1
theorem Opens.iso {α β : Type} {d : Kd α} {wf : α → Prop} (h : Opens P t d wf) (f : β → α) (g : α → β) (hfg : ∀ a, f (g a) = a) : Opens P t (Kd.iso d f) (fun b => wf (f b)) := by
  intro H enc w base sp held fuel cs x htr
  obtain ⟨a, ha, hw⟩ := h H enc w base sp held fuel cs x htr
  exact ⟨g a, by show d.K w (f (g a)) cs; rw [hfg]; exact ha, by show wf (f (g a)); rw [hfg]; exact hw⟩
end

/-- A field of a struct. -/
theorem opens_field {α : Type} {P : Program} {t e : TypeId} {fs : Array Field} {d : Kd α} {wf : α → Prop} {off i : Nat} {f : Field} (ht : P.underlying t = some (.struct fs)) (hi : fs[i]? = some f) (hft : f.type = e) (hfo : f.offset = off) (hc : P.cellsOf e = d.sz) (he : Opens P e d wf)
    {H : Type} {enc : TypeId × Value → H} {w : World} {base : Nat} {sp : Nat → Bool} {held : Bool} {fuel : Nat} {cs : List Value} {x : DataW H × List MemPlace} (h : DataW.trod enc P w base sp held fuel t cs = some x) :
    ∃ a, d.K w a ((cs.drop off).take d.sz) ∧ wf a := by
  obtain ⟨xs, n, _, _, _, hn, hf⟩ := DataW.trod_struct ht h
  have h1 := hf i f hi
  have hil : i < xs.length := by
    rw [hn]
    exact (Array.getElem?_eq_some_iff.1 hi).1
  rw [List.getElem?_eq_getElem hil, hft, hfo, hc] at h1
  exact he H enc w base sp held n _ _ h1
theorem opens_cells {P : Program} {t : TypeId} {fs : Array Field} (ht : P.underlying t = some (.struct fs)) {H : Type} {enc : TypeId × Value → H} {w : World} {base : Nat} {sp : Nat → Bool} {held : Bool} {fuel : Nat} {cs : List Value} {x : DataW H × List MemPlace} (h : DataW.trod enc P w base sp held fuel t cs = some x) :
    cs.length = P.cellsOf t := by
  obtain ⟨xs, n, _, _, hl, _⟩ := DataW.trod_struct ht h
  exact hl
theorem opens_struct2 {α β : Type} {P : Program} {t ta tb : TypeId} {fs : Array Field} {a : Kd α} {b : Kd β} {wa : α → Prop} {wb : β → Prop} (ht : P.underlying t = some (.struct fs)) (hc : P.cellsOf t = a.sz + b.sz)
    (f0 : (fs[0]?).map (fun f => (f.type, f.offset)) = some (ta, 0)) (f1 : (fs[1]?).map (fun f => (f.type, f.offset)) = some (tb, a.sz)) (ca : P.cellsOf ta = a.sz) (cb : P.cellsOf tb = b.sz) (oa : Opens P ta a wa) (ob : Opens P tb b wb) :
    Opens P t (Kd.pair a b) (fun x => wa x.1 ∧ wb x.2) := by
  intro H enc w base sp held fuel cs x h
  obtain ⟨g0, e0, q0⟩ := Option.map_eq_some_iff.1 f0
  obtain ⟨g1, e1, q1⟩ := Option.map_eq_some_iff.1 f1
  simp only [Prod.mk.injEq] at q0 q1
  obtain ⟨x0, k0, w0⟩ := opens_field ht e0 q0.1 q0.2 ca oa h
  obtain ⟨x1, k1, w1⟩ := opens_field ht e1 q1.1 q1.2 cb ob h
  have hl := opens_cells ht h
  have hsp : (cs.drop a.sz).take b.sz = cs.drop a.sz := List.take_of_length_le (by rw [List.length_drop]; omega)
  rw [List.drop_zero] at k0
  rw [hsp] at k1
  exact ⟨(x0, x1), ⟨cs.take a.sz, cs.drop a.sz, (List.take_append_drop _ _).symm, k0, k1⟩, w0, w1⟩
theorem opens_struct3 {α β γ : Type} {P : Program} {t ta tb tc : TypeId} {fs : Array Field} {a : Kd α} {b : Kd β} {c : Kd γ} {wa : α → Prop} {wb : β → Prop} {wc : γ → Prop} (ht : P.underlying t = some (.struct fs)) (hc : P.cellsOf t = a.sz + (b.sz + c.sz))
    (f0 : (fs[0]?).map (fun f => (f.type, f.offset)) = some (ta, 0)) (f1 : (fs[1]?).map (fun f => (f.type, f.offset)) = some (tb, a.sz)) (f2 : (fs[2]?).map (fun f => (f.type, f.offset)) = some (tc, a.sz + b.sz)) (ca : P.cellsOf ta = a.sz) (cb : P.cellsOf tb = b.sz) (cc : P.cellsOf tc = c.sz) (oa : Opens P ta a wa) (ob : Opens P tb b wb) (oc : Opens P tc c wc) :
    Opens P t (Kd.pair a (Kd.pair b c)) (fun x => wa x.1 ∧ wb x.2.1 ∧ wc x.2.2) := by
  intro H enc w base sp held fuel cs x h
  obtain ⟨g0, e0, q0⟩ := Option.map_eq_some_iff.1 f0
  obtain ⟨g1, e1, q1⟩ := Option.map_eq_some_iff.1 f1
  obtain ⟨g2, e2, q2⟩ := Option.map_eq_some_iff.1 f2
  simp only [Prod.mk.injEq] at q0 q1 q2
  obtain ⟨x0, k0, w0⟩ := opens_field ht e0 q0.1 q0.2 ca oa h
  obtain ⟨x1, k1, w1⟩ := opens_field ht e1 q1.1 q1.2 cb ob h
  obtain ⟨x2, k2, w2⟩ := opens_field ht e2 q2.1 q2.2 cc oc h
  have hl := opens_cells ht h
  have hsp : (cs.drop (a.sz + b.sz)).take c.sz = (cs.drop a.sz).drop b.sz := by rw [List.take_of_length_le (by rw [List.length_drop]; omega), List.drop_drop]
  rw [List.drop_zero] at k0
  rw [hsp] at k2
  exact ⟨(x0, x1, x2), ⟨cs.take a.sz, cs.drop a.sz, (List.take_append_drop _ _).symm, k0, _, _, (List.take_append_drop b.sz _).symm, k1, k2⟩, w0, w1, w2⟩
/-- A row's slice is no longer than its weight allows. -/
theorem sized_row {H : Type} {enc : TypeId × Value → H} {P : Program} {W : World} {base : Nat} {spare : Nat → Bool} {held : Bool} {t e : TypeId} {a : Option Addr} {len cap : Nat} {d : DataW H} {ps : List MemPlace} {ts : List TypeId} {ds : List (DataW H)} {j : Nat}
    (hsz : (DataW.weightsEach P ts ds).all (· ≤ reachBytes) = true) (ht : ts[j]? = some t) (hd : ds[j]? = some d) (hu : P.underlying t = some (.slice e)) (B : Nat) (hB : P.bytesOf e = B)
    (h : DataW.Trod enc P W base spare held t (.slice a len cap) d ps) : len * B ≤ 140737488351232 := by
  obtain ⟨fuel, hf⟩ := h
  rcases DataW.trod_slice hu hf with ⟨hcs, _⟩ | ⟨ad, l, c, elems, rest, n, _, hcs, hx, _, _, _, hn, _⟩
  · simp only [Value.cells, List.cons.injEq, Value.slice.injEq, and_true] at hcs
    obtain ⟨rfl, rfl, rfl⟩ := hcs
    rw [Nat.zero_mul]; omega
  · simp only [Value.cells, List.cons.injEq, Value.slice.injEq, and_true] at hcs
    obtain ⟨rfl, rfl, rfl⟩ := hcs
    obtain ⟨hx, _⟩ := Prod.mk.inj hx
    subst hx
    have z := sized_slice hsz ht hd hu
    rw [hB, List.length_map, List.length_map] at z
    exact Nat.le_trans (Nat.mul_le_mul_right _ (by omega)) z
end Go.Proofs.YtkncjpafehnmnaaG

end

section
set_option linter.unusedVariables false
namespace Go.Proofs.Ytkncjpafehnmnaa.omapTells
open Go Go.ChangeShapes Go.WideShapes Go.ChangeAt Go.RowKit Go.Proofs.YtkncjpafehnmnaaG Go.Proofs.Ytkncjpafehnmnaa.P Go.Proofs.YtkncjpafehnmnaaW.PrintWords
open Go.ChangeMaps (open_string shut_string)
theorem own : ownKnob Try.prog.godebug = none := by kernel_rfl
theorem laidOut : laidOutB Try.prog = true := by kernel_rfl
set_option maxRecDepth 100000 in
theorem lifted (os : Os) (started : os.Started) (H : Type) (enc : TypeId × Value → H) :
    ReturnsInHanded {} Try.checked os 3 .any (Rows.omapTellsSpec.pre6 enc Try.prog Try.f3 Rows.omapTellsRow.domain false) (Rows.omapTellsSpec.post enc Try.prog Try.f3 false true false false) := by
  refine returnsInHanded_of_change_sized (C := Try.checked) own started (by kernel_rfl) Try.func3
    (ChangeSpec.witness6 (enc := enc) (C := Try.checked) false ⟨#[], #[.slice none 0 0, .slice none 0 0, .string ⟨#[]⟩, .string ⟨#[]⟩, .int .i64 0], []⟩ 8 (by kernel_rfl) (by kernel_rfl) (by kernel_rfl) (by kernel_rfl)) ?_
  intro W base args ds gs before hval0 hW hcnd hsz0 _
  have hsz : (DataW.weightsEach Try.prog (Try.f3.params.toList ++ Rows.omapTellsSpec.plain.varTypes Try.prog) (ds ++ gs)).all (· ≤ reachBytes) = true := hsz0
  have hval : ∀ (j : Nat) t v, Try.f3.params[j]? = some t → args[j]? = some v → Value.okWide Try.prog W .any base t v := hval0
  have hW' := hW
  obtain ⟨p, q, hA0, hV, rfl, hfz, hnd⟩ := hW
  have hA : DataW.TrodAll enc Try.prog W 0 (fun _ => true) true Try.f3.params.toList args.toList ds p := hA0
  rw [Try.params3] at hA hval hsz
  obtain ⟨v0, vs0, d0, ds0, p0, q0, hargs, rfl, rfl, h0, r0⟩ := trodAll_cons hA
  obtain ⟨v1, vs1, d1, ds1, p1, q1, rfl, rfl, rfl, h1, r1⟩ := trodAll_cons r0
  obtain ⟨v2, vs2, d2, ds2, p2, q2, rfl, rfl, rfl, h2, r2⟩ := trodAll_cons r1
  obtain ⟨v3, vs3, d3, ds3, p3, q3, rfl, rfl, rfl, h3, r3⟩ := trodAll_cons r2
  obtain ⟨v4, vs4, d4, ds4, p4, q4, rfl, rfl, rfl, h4, r4⟩ := trodAll_cons r3
  obtain ⟨rfl, rfl, rfl⟩ := trodAll_nil r4
  obtain rfl : args = #[v0, v1, v2, v3, v4] := by cases args; simp_all
  obtain ⟨rfl, rfl⟩ := trodVars_none hV
  obtain ⟨a0, len0, cap0, rfl⟩ := okWide_slice Try.underlying22 (hval 0 22 v0 rfl rfl)
  have k0 := h0
  have y0 := sized_row hsz (j := 0) (t := 22) rfl rfl Try.underlying22 32 (by kernel_rfl) h0
  have lt0 : ∀ x ∈ p0, x.block < W.heap.size := by obtain ⟨m, hm⟩ := k0; exact DataW.trod_lt m _ _ _ hm
  obtain ⟨fuel0, hf0⟩ := h0
  obtain ⟨A0, c0, l0, hcs0, hl0, hm0, hC0, hw0⟩ := opens_row (by kernel_rfl) Try.underlying22 (show Opens Try.prog 39 k39 _ from Opens.iso (opens_struct2 (ta := 9) (tb := 9) Try.underlying39 (by kernel_rfl) (by kernel_rfl) (by kernel_rfl) (by kernel_rfl) (by kernel_rfl) (opens_string Try.underlying9) (opens_string Try.underlying9)) (fun x : S39 => (x.f0, x.f1)) (fun q => ⟨q.1, q.2⟩) (fun _ => rfl)) hf0
  simp only [Value.cells, List.cons.injEq, Value.slice.injEq, and_true] at hcs0
  obtain ⟨rfl, rfl, rfl⟩ := hcs0
  obtain ⟨a1, len1, cap1, rfl⟩ := okWide_slice Try.underlying23 (hval 1 23 v1 rfl rfl)
  have k1 := h1
  have y1 := sized_row hsz (j := 1) (t := 23) rfl rfl Try.underlying23 40 (by kernel_rfl) h1
  have lt1 : ∀ x ∈ p1, x.block < W.heap.size := by obtain ⟨m, hm⟩ := k1; exact DataW.trod_lt m _ _ _ hm
  obtain ⟨fuel1, hf1⟩ := h1
  obtain ⟨A1, c1, l1, hcs1, hl1, hm1, hC1, hw1⟩ := opens_row (by kernel_rfl) Try.underlying23 (show Opens Try.prog 36 k36 _ from Opens.iso (opens_struct3 (ta := 5) (tb := 9) (tc := 9) Try.underlying36 (by kernel_rfl) (by kernel_rfl) (by kernel_rfl) (by kernel_rfl) (by kernel_rfl) (by kernel_rfl) (by kernel_rfl) (opens_int Try.underlying5) (opens_string Try.underlying9) (opens_string Try.underlying9)) (fun x : S36 => (x.f0, x.f1, x.f2)) (fun q => ⟨q.1, q.2.1, q.2.2⟩) (fun _ => rfl)) hf1
  simp only [Value.cells, List.cons.injEq, Value.slice.injEq, and_true] at hcs1
  obtain ⟨rfl, rfl, rfl⟩ := hcs1
  obtain ⟨a2, rfl, rfl, rfl, w2⟩ := open_string Try.underlying9 (hval 2 9 v2 rfl rfl) h2
  obtain ⟨a3, rfl, rfl, rfl, w3⟩ := open_string Try.underlying9 (hval 3 9 v3 rfl rfl) h3
  obtain ⟨a4, rfl, rfl, rfl, w4⟩ := open_int Try.underlying3 (hval 4 3 v4 rfl rfl) h4
  obtain ⟨k, h⟩ := Pure.OmapTells l0 (Nat.le_trans hl0 hm0) y0 hw0 l1 (Nat.le_trans hl1 hm1) y1 hw1 a2 w2 a3 w3 a4 w4
  clear hA0 hval0 hsz0 hsz
  refine (P.ratlinelaw12_OmapTells.calls k _ _ l0 _ _ l1 a2 a3 a4 true W hC0 hl0 hC1 hl1 h).mono fun e W' ⟨he, bel⟩ => ?_
  subst he
  exact ⟨_, rfl, _, _, _, [], _, [], hW', trodAll_mk1 (shut_bool Try.underlying4 _), (trodAll_cons_mk (Below.trod laidOut (by kernel_rfl) (of_decide_eq_true (by kernel_rfl)) k0 bel lt0) (trodAll_cons_mk (Below.trod laidOut (by kernel_rfl) (of_decide_eq_true (by kernel_rfl)) k1 bel lt1) (trodAll_cons_mk (shut_string Try.underlying9 w2) (trodAll_cons_mk (shut_string Try.underlying9 w3) (trodAll_cons_mk (shut_int Try.underlying3 w4) trodAll_mk0))))), rfl, bel.frame _, fun h => by cases h⟩
theorem over : Rows.omapTellsRow.holds Try.pinned (OpenSpec.ofChange Rows.omapTellsSpec) :=
  OpenClaim.holds_of_wide 3 Try.f3 rfl rfl rfl rfl rfl rfl rfl ⟨rfl, rfl, rfl, rfl, rfl⟩ rfl rfl rfl rfl rfl (by kernel_rfl) Try.func3 (by kernel_rfl)
    (of_decide_eq_true (by kernel_rfl)) (by unfold Func.isWrapper; first | (rw [if_pos (by decide +kernel)]; kernel_rfl) | (rw [if_neg (by decide +kernel)]; exact ⟨rfl, rfl⟩))
    (fun os started H enc _ => lifted os started H enc)
theorem proved : Rows.OmapTellsSaid := over
#print axioms proved
end Go.Proofs.Ytkncjpafehnmnaa.omapTells
namespace Go.Proofs.Ytkncjpafehnmnaa
/-- The row, under a short name, for the claim. -/
theorem omapTells_holds : Rows.OmapTellsSaid := omapTells.proved
end Go.Proofs.Ytkncjpafehnmnaa

end
