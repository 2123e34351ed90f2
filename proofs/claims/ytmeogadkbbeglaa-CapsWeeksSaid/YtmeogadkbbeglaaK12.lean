/- Printed by the turned printer (wip/fltpatch.py, wip/tools/pp.sh) out of the translation: what functions compute, and their walks. -/
import Derived.Test.YtmeogadkbbeglaaK3
namespace Go.Proofs.YtmeogadkbbeglaaQ
open Go.RowKit Go.Proofs.YtmeogadkbbeglaaW.PrintWords Go.Proofs.YtmeogadkbbeglaaW.PrintLast Go.Proofs.YtmeogadkbbeglaaW.PrintMore
attribute [local go_sem] max2_int min2_int max_two min_two max_three min_three max_four min_four   -- for this text's walks alone
set_option linter.unusedVariables false
set_option linter.unusedSimpArgs false
def fareboxref07_bands.l0 : Nat → List (S48) → Int → Int → Option (Bool)
  | 0, _, _, _ => none
  | k + 1, x0, x3, x4 => if x4 < (x0.length : Int) then (if 0 ≤ x4 then (if ((rd_T48 x0 x4).f0) < x3 then (some false) else (if ((rd_T48 x0 x4).f1) ≤ ((rd_T48 x0 x4).f0) then (some false) else (if ((rd_T48 x0 x4).f1) > 1440 then (some false) else (fareboxref07_bands.l0 k x0 ((rd_T48 x0 x4).f1) (wrap64 (x4 + 1)))))) else (none)) else (some true)
def fareboxref07_bands.f (k : Nat) (l0 : List (S48)) : Option (Bool) := if (l0.length : Int) > 8 then (some false) else (fareboxref07_bands.l0 k l0 0 0)
set_option maxHeartbeats 8000000 in
set_option maxRecDepth 100000 in
theorem fareboxref07_bands.calls (k : Nat) (A0 : Option Addr) (c0 : Nat) (l0 : List (S48)) (r : Bool) (w : World) (hr0 : Kd.C k48 w A0 l0.length l0) (hc0 : l0.length ≤ c0) (h : fareboxref07_bands.f k l0 = some r) :
    Calls Try.prog 82 #[.slice A0 l0.length c0] w fun e w' => e = .returned (.bool r) ∧ Drawn0 w w' := by
  have HR0 := Aside0.mk hr0
  have HC0 := Aside0.mk hc0
  clear hr0 hc0
  have H : (if (l0.length : Int) > 8 then (some false) else (fareboxref07_bands.l0 k l0 0 0)) = some r := h
  clear h
  by_cases c2 : (l0.length : Int) > 8
  · rw [if_pos c2] at H
    have c2b0 : decide (8 < (l0.length : Int)) = true := decide_eq_true c2
    have c2b1 : decide (8 < l0.length) = true := decide_eq_true (by omega)
    clear c2
    obtain rfl := Option.some.inj H
    go_enter Try.func82, Try.ntmps82
    go_wp2
    repeat (go_quiet (fail); try go_wp2)
    go_ret
    exact ⟨by first | rfl | (simp; done) | (simp [*]; done), by repeat (first | exact Drawn0.refl _ | apply Drawn0.step)⟩
  · rw [if_neg c2] at H
    have c2b0 : decide (8 < (l0.length : Int)) = false := decide_eq_false c2
    have c2b1 : decide (8 < l0.length) = false := decide_eq_false (by omega)
    clear c2
    have H' := Aside0.mk H
    clear H
    go_enter Try.func82, Try.ntmps82
    go_wp2
    repeat (go_quiet (fail); try go_wp2)
    go_loopg [3, 4] k (fun kq v3 v4 w' => ∃ (x3_1 : Int) (x4_1 : Int), v3 = .int .i64 x3_1 ∧ v4 = .int .i64 x4_1 ∧ Aside0 (fareboxref07_bands.l0 kq l0 x3_1 x4_1 = some r) ∧ Aside0 (kq ≤ k) ∧ Drawn0 w w')
    case atStart => exact ⟨(0), (0), (by first | rfl | (simp; done) | (simp [*]; done)), (by first | rfl | (simp; done) | (simp [*]; done)), H', ⟨Nat.le_refl _⟩, by repeat (first | exact Drawn0.refl _ | apply Drawn0.step)⟩
    case round =>
      clear H'
      try clear c2
      try clear c2b0
      try clear c2b1
      try clear p2
      obtain ⟨x3_1, x4_1, rfl, rfl, HA, HK1, ⟨m1, rfl⟩⟩ := hrel
      cases gk with
      | zero => exact absurd HA.out (by simp [fareboxref07_bands.l0])
      | succ k1 =>
        have H := HA.out
        clear HA
        simp only [fareboxref07_bands.l0] at H
        by_cases c3 : x4_1 < (l0.length : Int)
        · rw [if_pos c3] at H
          have c3b0 : decide (x4_1 < (l0.length : Int)) = true := decide_eq_true c3
          clear c3
          by_cases c4 : 0 ≤ x4_1
          · rw [if_pos c4] at H
            have c4b0 : decide (0 ≤ x4_1) = true := decide_eq_true c4
            clear c4
            by_cases c5 : ((rd_T48 l0 x4_1).f0) < x3_1
            · rw [if_pos c5] at H
              have c5b0 : decide (((rd_T48 l0 x4_1).f0) < x3_1) = true := decide_eq_true c5
              clear c5
              obtain rfl := Option.some.inj H
              have p408 : 0 ≤ (x4_1 : Int) := of_decide_eq_true (by first | (with_reducible assumption) | assumption)
              have q408 : x4_1 < (l0.length : Int) := of_decide_eq_true (by first | (with_reducible assumption) | assumption)
              obtain ⟨ad408, e408, hx408_0, hx408_1⟩ := at_T48 HR0.out x4_1 p408 q408
              cases e408
              replace p408 := eq_true p408
              replace q408 := eq_true q408
              go_wp2
              repeat (go_quiet (fail); try go_wp2)
              go_ret
              exact ⟨by first | rfl | (simp; done) | (simp [*]; done), by repeat (first | exact Drawn0.refl _ | apply Drawn0.step)⟩
            · rw [if_neg c5] at H
              have c5b0 : decide (((rd_T48 l0 x4_1).f0) < x3_1) = false := decide_eq_false c5
              clear c5
              by_cases c6 : ((rd_T48 l0 x4_1).f1) ≤ ((rd_T48 l0 x4_1).f0)
              · rw [if_pos c6] at H
                have c6b0 : decide (((rd_T48 l0 x4_1).f1) ≤ ((rd_T48 l0 x4_1).f0)) = true := decide_eq_true c6
                clear c6
                obtain rfl := Option.some.inj H
                have p408 : 0 ≤ (x4_1 : Int) := of_decide_eq_true (by first | (with_reducible assumption) | assumption)
                have q408 : x4_1 < (l0.length : Int) := of_decide_eq_true (by first | (with_reducible assumption) | assumption)
                obtain ⟨ad408, e408, hx408_0, hx408_1⟩ := at_T48 HR0.out x4_1 p408 q408
                cases e408
                replace p408 := eq_true p408
                replace q408 := eq_true q408
                have p409 : 0 ≤ (x4_1 : Int) := of_decide_eq_true (by first | (with_reducible assumption) | assumption)
                have q409 : x4_1 < (l0.length : Int) := of_decide_eq_true (by first | (with_reducible assumption) | assumption)
                obtain ⟨ad409, e409, hx409_0, hx409_1⟩ := at_T48 HR0.out x4_1 p409 q409
                obtain rfl : ad408 = ad409 := (by injection e409)
                replace p409 := eq_true p409
                replace q409 := eq_true q409
                have p410 : 0 ≤ (x4_1 : Int) := of_decide_eq_true (by first | (with_reducible assumption) | assumption)
                have q410 : x4_1 < (l0.length : Int) := of_decide_eq_true (by first | (with_reducible assumption) | assumption)
                obtain ⟨ad410, e410, hx410_0, hx410_1⟩ := at_T48 HR0.out x4_1 p410 q410
                obtain rfl : ad408 = ad410 := (by injection e410)
                replace p410 := eq_true p410
                replace q410 := eq_true q410
                go_wp2
                repeat (go_quiet (fail); try go_wp2)
                go_ret
                exact ⟨by first | rfl | (simp; done) | (simp [*]; done), by repeat (first | exact Drawn0.refl _ | apply Drawn0.step)⟩
              · rw [if_neg c6] at H
                have c6b0 : decide (((rd_T48 l0 x4_1).f1) ≤ ((rd_T48 l0 x4_1).f0)) = false := decide_eq_false c6
                clear c6
                by_cases c7 : ((rd_T48 l0 x4_1).f1) > 1440
                · rw [if_pos c7] at H
                  have c7b0 : decide (1440 < ((rd_T48 l0 x4_1).f1)) = true := decide_eq_true c7
                  clear c7
                  obtain rfl := Option.some.inj H
                  have p408 : 0 ≤ (x4_1 : Int) := of_decide_eq_true (by first | (with_reducible assumption) | assumption)
                  have q408 : x4_1 < (l0.length : Int) := of_decide_eq_true (by first | (with_reducible assumption) | assumption)
                  obtain ⟨ad408, e408, hx408_0, hx408_1⟩ := at_T48 HR0.out x4_1 p408 q408
                  cases e408
                  replace p408 := eq_true p408
                  replace q408 := eq_true q408
                  have p409 : 0 ≤ (x4_1 : Int) := of_decide_eq_true (by first | (with_reducible assumption) | assumption)
                  have q409 : x4_1 < (l0.length : Int) := of_decide_eq_true (by first | (with_reducible assumption) | assumption)
                  obtain ⟨ad409, e409, hx409_0, hx409_1⟩ := at_T48 HR0.out x4_1 p409 q409
                  obtain rfl : ad408 = ad409 := (by injection e409)
                  replace p409 := eq_true p409
                  replace q409 := eq_true q409
                  have p410 : 0 ≤ (x4_1 : Int) := of_decide_eq_true (by first | (with_reducible assumption) | assumption)
                  have q410 : x4_1 < (l0.length : Int) := of_decide_eq_true (by first | (with_reducible assumption) | assumption)
                  obtain ⟨ad410, e410, hx410_0, hx410_1⟩ := at_T48 HR0.out x4_1 p410 q410
                  obtain rfl : ad408 = ad410 := (by injection e410)
                  replace p410 := eq_true p410
                  replace q410 := eq_true q410
                  have p411 : 0 ≤ (x4_1 : Int) := of_decide_eq_true (by first | (with_reducible assumption) | assumption)
                  have q411 : x4_1 < (l0.length : Int) := of_decide_eq_true (by first | (with_reducible assumption) | assumption)
                  obtain ⟨ad411, e411, hx411_0, hx411_1⟩ := at_T48 HR0.out x4_1 p411 q411
                  obtain rfl : ad408 = ad411 := (by injection e411)
                  replace p411 := eq_true p411
                  replace q411 := eq_true q411
                  go_wp2
                  repeat (go_quiet (fail); try go_wp2)
                  go_ret
                  exact ⟨by first | rfl | (simp; done) | (simp [*]; done), by repeat (first | exact Drawn0.refl _ | apply Drawn0.step)⟩
                · rw [if_neg c7] at H
                  have c7b0 : decide (1440 < ((rd_T48 l0 x4_1).f1)) = false := decide_eq_false c7
                  clear c7
                  have H' := Aside0.mk H
                  clear H
                  have p408 : 0 ≤ (x4_1 : Int) := of_decide_eq_true (by first | (with_reducible assumption) | assumption)
                  have q408 : x4_1 < (l0.length : Int) := of_decide_eq_true (by first | (with_reducible assumption) | assumption)
                  obtain ⟨ad408, e408, hx408_0, hx408_1⟩ := at_T48 HR0.out x4_1 p408 q408
                  cases e408
                  replace p408 := eq_true p408
                  replace q408 := eq_true q408
                  have p409 : 0 ≤ (x4_1 : Int) := of_decide_eq_true (by first | (with_reducible assumption) | assumption)
                  have q409 : x4_1 < (l0.length : Int) := of_decide_eq_true (by first | (with_reducible assumption) | assumption)
                  obtain ⟨ad409, e409, hx409_0, hx409_1⟩ := at_T48 HR0.out x4_1 p409 q409
                  obtain rfl : ad408 = ad409 := (by injection e409)
                  replace p409 := eq_true p409
                  replace q409 := eq_true q409
                  have p410 : 0 ≤ (x4_1 : Int) := of_decide_eq_true (by first | (with_reducible assumption) | assumption)
                  have q410 : x4_1 < (l0.length : Int) := of_decide_eq_true (by first | (with_reducible assumption) | assumption)
                  obtain ⟨ad410, e410, hx410_0, hx410_1⟩ := at_T48 HR0.out x4_1 p410 q410
                  obtain rfl : ad408 = ad410 := (by injection e410)
                  replace p410 := eq_true p410
                  replace q410 := eq_true q410
                  have p411 : 0 ≤ (x4_1 : Int) := of_decide_eq_true (by first | (with_reducible assumption) | assumption)
                  have q411 : x4_1 < (l0.length : Int) := of_decide_eq_true (by first | (with_reducible assumption) | assumption)
                  obtain ⟨ad411, e411, hx411_0, hx411_1⟩ := at_T48 HR0.out x4_1 p411 q411
                  obtain rfl : ad408 = ad411 := (by injection e411)
                  replace p411 := eq_true p411
                  replace q411 := eq_true q411
                  have p412 : 0 ≤ (x4_1 : Int) := of_decide_eq_true (by first | (with_reducible assumption) | assumption)
                  have q412 : x4_1 < (l0.length : Int) := of_decide_eq_true (by first | (with_reducible assumption) | assumption)
                  obtain ⟨ad412, e412, hx412_0, hx412_1⟩ := at_T48 HR0.out x4_1 p412 q412
                  obtain rfl : ad408 = ad412 := (by injection e412)
                  replace p412 := eq_true p412
                  replace q412 := eq_true q412
                  go_wp2
                  repeat (go_quiet (fail); try go_wp2)
                  go_roundg k1
                  case measure => have := HK1.out; omega
                  case rel => exact ⟨((rd_T48 l0 x4_1).f1), (wrap64 (x4_1 + 1)), (by first | rfl | (simp; done) | (simp [*]; done)), (by first | rfl | (simp; done) | (simp [*]; done)), H', ⟨by have := HK1.out; omega⟩, by repeat (first | exact Drawn0.refl _ | apply Drawn0.step)⟩
          · rw [if_neg c4] at H
            exact absurd H (by simp)
        · rw [if_neg c3] at H
          have c3b0 : decide (x4_1 < (l0.length : Int)) = false := decide_eq_false c3
          clear c3
          obtain rfl := Option.some.inj H
          go_wp2
          repeat (go_quiet (fail); try go_wp2)
          go_ret
          exact ⟨by first | rfl | (simp; done) | (simp [*]; done), by repeat (first | exact Drawn0.refl _ | apply Drawn0.step)⟩
end Go.Proofs.YtmeogadkbbeglaaQ
