/- What the claim's walk leans on: Q26, Q27. -/
import Derived.Test.YtmeogadkbbeglaaK1
import Derived.Test.YtmeogadkbbeglaaK6
import Derived.Test.YtmeogadkbbeglaaK3
import Derived.Test.YtmeogadkbbeglaaK4
import Derived.Test.YtmeogadkbbeglaaK5
section
namespace Go.Proofs.YtmeogadkbbeglaaQ
open Go.RowKit Go.Proofs.YtmeogadkbbeglaaW.PrintWords Go.Proofs.YtmeogadkbbeglaaW.PrintLast Go.Proofs.YtmeogadkbbeglaaW.PrintMore
attribute [local go_sem] max2_int min2_int max_two min_two max_three min_three max_four min_four   -- for this text's walks alone
set_option linter.unusedVariables false
set_option linter.unusedSimpArgs false
def fareboxref07_bands.l0 : Nat → List (S48) → Int → Int → Option (Bool)
  | 0, _, _, _ => none
  | k + 1, x0, x3, x4 => if x4 < (x0.length : Int) then (if 0 ≤ x4 then (if ((rd_T48 x0 x4).f0) < x3 then (some false) else (if ((rd_T48 x0 x4).f1) ≤ ((rd_T48 x0 x4).f0) then (some false) else (if ((rd_T48 x0 x4).f1) > 1440 then (some false) else (fareboxref07_bands.l0 k x0 ((rd_T48 x0 x4).f1) (wrap64 (x4 + 1)))))) else (none)) else (some true)
def fareboxref07_bands.f (k : Nat) (l0 : List (S48)) : Option (Bool) := if (l0.length : Int) > 8 then (some false) else (fareboxref07_bands.l0 k l0 0 0)
set_option maxHeartbeats 8000000 in
set_option maxRecDepth 100000 in
theorem fareboxref07_bands.calls (k : Nat) (A0 : Option Addr) (c0 : Nat) (l0 : List (S48)) (r : Bool) (w : World) (hr0 : Kd.C k48 w A0 l0.length l0) (hc0 : l0.length ≤ c0) (h : fareboxref07_bands.f k l0 = some r) :
    Calls Try.prog 82 #[.slice A0 l0.length c0] w fun e w' => e = .returned (.bool r) ∧ Drawn0 w w' := by
  have HR0 := Aside0.mk hr0
  have HC0 := Aside0.mk hc0
  clear hr0 hc0
  have H : (if (l0.length : Int) > 8 then (some false) else (fareboxref07_bands.l0 k l0 0 0)) = some r := h
  clear h
  by_cases c2 : (l0.length : Int) > 8
  · rw [if_pos c2] at H
    have c2b0 : decide (8 < (l0.length : Int)) = true := decide_eq_true c2
    have c2b1 : decide (8 < l0.length) = true := decide_eq_true (by omega)
    clear c2
    obtain rfl := Option.some.inj H
    go_enter Try.func82, Try.ntmps82
    go_wp2
    repeat (go_quiet (fail); try go_wp2)
    go_ret
    exact ⟨by first | rfl | (simp; done) | (simp [*]; done), by repeat (first | exact Drawn0.refl _ | apply Drawn0.step)⟩
  · rw [if_neg c2] at H
    have c2b0 : decide (8 < (l0.length : Int)) = false := decide_eq_false c2
    have c2b1 : decide (8 < l0.length) = false := decide_eq_false (by omega)
    clear c2
    have H' := Aside0.mk H
    clear H
    go_enter Try.func82, Try.ntmps82
    go_wp2
    repeat (go_quiet (fail); try go_wp2)
    go_loopg [3, 4] k (fun kq v3 v4 w' => ∃ (x3_1 : Int) (x4_1 : Int), v3 = .int .i64 x3_1 ∧ v4 = .int .i64 x4_1 ∧ Aside0 (fareboxref07_bands.l0 kq l0 x3_1 x4_1 = some r) ∧ Aside0 (kq ≤ k) ∧ Drawn0 w w')
    case atStart => exact ⟨(0), (0), (by first | rfl | (simp; done) | (simp [*]; done)), (by first | rfl | (simp; done) | (simp [*]; done)), H', ⟨Nat.le_refl _⟩, by repeat (first | exact Drawn0.refl _ | apply Drawn0.step)⟩
    case round =>
      clear H'
      try clear c2
      try clear c2b0
      try clear c2b1
      try clear p2
      obtain ⟨x3_1, x4_1, rfl, rfl, HA, HK1, ⟨m1, rfl⟩⟩ := hrel
      cases gk with
      | zero => exact absurd HA.out (by simp [fareboxref07_bands.l0])
      | succ k1 =>
        have H := HA.out
        clear HA
        simp only [fareboxref07_bands.l0] at H
        by_cases c3 : x4_1 < (l0.length : Int)
        · rw [if_pos c3] at H
          have c3b0 : decide (x4_1 < (l0.length : Int)) = true := decide_eq_true c3
          clear c3
          by_cases c4 : 0 ≤ x4_1
          · rw [if_pos c4] at H
            have c4b0 : decide (0 ≤ x4_1) = true := decide_eq_true c4
            clear c4
            by_cases c5 : ((rd_T48 l0 x4_1).f0) < x3_1
            · rw [if_pos c5] at H
              have c5b0 : decide (((rd_T48 l0 x4_1).f0) < x3_1) = true := decide_eq_true c5
              clear c5
              obtain rfl := Option.some.inj H
              have p441 : 0 ≤ (x4_1 : Int) := of_decide_eq_true (by first | (with_reducible assumption) | assumption)
              have q441 : x4_1 < (l0.length : Int) := of_decide_eq_true (by first | (with_reducible assumption) | assumption)
              obtain ⟨ad441, e441, hx441_0, hx441_1⟩ := at_T48 HR0.out x4_1 p441 q441
              cases e441
              replace p441 := eq_true p441
              replace q441 := eq_true q441
              go_wp2
              repeat (go_quiet (fail); try go_wp2)
              go_ret
              exact ⟨by first | rfl | (simp; done) | (simp [*]; done), by repeat (first | exact Drawn0.refl _ | apply Drawn0.step)⟩
            · rw [if_neg c5] at H
              have c5b0 : decide (((rd_T48 l0 x4_1).f0) < x3_1) = false := decide_eq_false c5
              clear c5
              by_cases c6 : ((rd_T48 l0 x4_1).f1) ≤ ((rd_T48 l0 x4_1).f0)
              · rw [if_pos c6] at H
                have c6b0 : decide (((rd_T48 l0 x4_1).f1) ≤ ((rd_T48 l0 x4_1).f0)) = true := decide_eq_true c6
                clear c6
                obtain rfl := Option.some.inj H
                have p441 : 0 ≤ (x4_1 : Int) := of_decide_eq_true (by first | (with_reducible assumption) | assumption)
                have q441 : x4_1 < (l0.length : Int) := of_decide_eq_true (by first | (with_reducible assumption) | assumption)
                obtain ⟨ad441, e441, hx441_0, hx441_1⟩ := at_T48 HR0.out x4_1 p441 q441
                cases e441
                replace p441 := eq_true p441
                replace q441 := eq_true q441
                have p442 : 0 ≤ (x4_1 : Int) := of_decide_eq_true (by first | (with_reducible assumption) | assumption)
                have q442 : x4_1 < (l0.length : Int) := of_decide_eq_true (by first | (with_reducible assumption) | assumption)
                obtain ⟨ad442, e442, hx442_0, hx442_1⟩ := at_T48 HR0.out x4_1 p442 q442
                obtain rfl : ad441 = ad442 := (by injection e442)
                replace p442 := eq_true p442
                replace q442 := eq_true q442
                have p443 : 0 ≤ (x4_1 : Int) := of_decide_eq_true (by first | (with_reducible assumption) | assumption)
                have q443 : x4_1 < (l0.length : Int) := of_decide_eq_true (by first | (with_reducible assumption) | assumption)
                obtain ⟨ad443, e443, hx443_0, hx443_1⟩ := at_T48 HR0.out x4_1 p443 q443
                obtain rfl : ad441 = ad443 := (by injection e443)
                replace p443 := eq_true p443
                replace q443 := eq_true q443
                go_wp2
                repeat (go_quiet (fail); try go_wp2)
                go_ret
                exact ⟨by first | rfl | (simp; done) | (simp [*]; done), by repeat (first | exact Drawn0.refl _ | apply Drawn0.step)⟩
              · rw [if_neg c6] at H
                have c6b0 : decide (((rd_T48 l0 x4_1).f1) ≤ ((rd_T48 l0 x4_1).f0)) = false := decide_eq_false c6
                clear c6
                by_cases c7 : ((rd_T48 l0 x4_1).f1) > 1440
                · rw [if_pos c7] at H
                  have c7b0 : decide (1440 < ((rd_T48 l0 x4_1).f1)) = true := decide_eq_true c7
                  clear c7
                  obtain rfl := Option.some.inj H
                  have p441 : 0 ≤ (x4_1 : Int) := of_decide_eq_true (by first | (with_reducible assumption) | assumption)
                  have q441 : x4_1 < (l0.length : Int) := of_decide_eq_true (by first | (with_reducible assumption) | assumption)
                  obtain ⟨ad441, e441, hx441_0, hx441_1⟩ := at_T48 HR0.out x4_1 p441 q441
                  cases e441
                  replace p441 := eq_true p441
                  replace q441 := eq_true q441
                  have p442 : 0 ≤ (x4_1 : Int) := of_decide_eq_true (by first | (with_reducible assumption) | assumption)
                  have q442 : x4_1 < (l0.length : Int) := of_decide_eq_true (by first | (with_reducible assumption) | assumption)
                  obtain ⟨ad442, e442, hx442_0, hx442_1⟩ := at_T48 HR0.out x4_1 p442 q442
                  obtain rfl : ad441 = ad442 := (by injection e442)
                  replace p442 := eq_true p442
                  replace q442 := eq_true q442
                  have p443 : 0 ≤ (x4_1 : Int) := of_decide_eq_true (by first | (with_reducible assumption) | assumption)
                  have q443 : x4_1 < (l0.length : Int) := of_decide_eq_true (by first | (with_reducible assumption) | assumption)
                  obtain ⟨ad443, e443, hx443_0, hx443_1⟩ := at_T48 HR0.out x4_1 p443 q443
                  obtain rfl : ad441 = ad443 := (by injection e443)
                  replace p443 := eq_true p443
                  replace q443 := eq_true q443
                  have p444 : 0 ≤ (x4_1 : Int) := of_decide_eq_true (by first | (with_reducible assumption) | assumption)
                  have q444 : x4_1 < (l0.length : Int) := of_decide_eq_true (by first | (with_reducible assumption) | assumption)
                  obtain ⟨ad444, e444, hx444_0, hx444_1⟩ := at_T48 HR0.out x4_1 p444 q444
                  obtain rfl : ad441 = ad444 := (by injection e444)
                  replace p444 := eq_true p444
                  replace q444 := eq_true q444
                  go_wp2
                  repeat (go_quiet (fail); try go_wp2)
                  go_ret
                  exact ⟨by first | rfl | (simp; done) | (simp [*]; done), by repeat (first | exact Drawn0.refl _ | apply Drawn0.step)⟩
                · rw [if_neg c7] at H
                  have c7b0 : decide (1440 < ((rd_T48 l0 x4_1).f1)) = false := decide_eq_false c7
                  clear c7
                  have H' := Aside0.mk H
                  clear H
                  have p441 : 0 ≤ (x4_1 : Int) := of_decide_eq_true (by first | (with_reducible assumption) | assumption)
                  have q441 : x4_1 < (l0.length : Int) := of_decide_eq_true (by first | (with_reducible assumption) | assumption)
                  obtain ⟨ad441, e441, hx441_0, hx441_1⟩ := at_T48 HR0.out x4_1 p441 q441
                  cases e441
                  replace p441 := eq_true p441
                  replace q441 := eq_true q441
                  have p442 : 0 ≤ (x4_1 : Int) := of_decide_eq_true (by first | (with_reducible assumption) | assumption)
                  have q442 : x4_1 < (l0.length : Int) := of_decide_eq_true (by first | (with_reducible assumption) | assumption)
                  obtain ⟨ad442, e442, hx442_0, hx442_1⟩ := at_T48 HR0.out x4_1 p442 q442
                  obtain rfl : ad441 = ad442 := (by injection e442)
                  replace p442 := eq_true p442
                  replace q442 := eq_true q442
                  have p443 : 0 ≤ (x4_1 : Int) := of_decide_eq_true (by first | (with_reducible assumption) | assumption)
                  have q443 : x4_1 < (l0.length : Int) := of_decide_eq_true (by first | (with_reducible assumption) | assumption)
                  obtain ⟨ad443, e443, hx443_0, hx443_1⟩ := at_T48 HR0.out x4_1 p443 q443
                  obtain rfl : ad441 = ad443 := (by injection e443)
                  replace p443 := eq_true p443
                  replace q443 := eq_true q443
                  have p444 : 0 ≤ (x4_1 : Int) := of_decide_eq_true (by first | (with_reducible assumption) | assumption)
                  have q444 : x4_1 < (l0.length : Int) := of_decide_eq_true (by first | (with_reducible assumption) | assumption)
                  obtain ⟨ad444, e444, hx444_0, hx444_1⟩ := at_T48 HR0.out x4_1 p444 q444
                  obtain rfl : ad441 = ad444 := (by injection e444)
                  replace p444 := eq_true p444
                  replace q444 := eq_true q444
                  have p445 : 0 ≤ (x4_1 : Int) := of_decide_eq_true (by first | (with_reducible assumption) | assumption)
                  have q445 : x4_1 < (l0.length : Int) := of_decide_eq_true (by first | (with_reducible assumption) | assumption)
                  obtain ⟨ad445, e445, hx445_0, hx445_1⟩ := at_T48 HR0.out x4_1 p445 q445
                  obtain rfl : ad441 = ad445 := (by injection e445)
                  replace p445 := eq_true p445
                  replace q445 := eq_true q445
                  go_wp2
                  repeat (go_quiet (fail); try go_wp2)
                  go_roundg k1
                  case measure => have := HK1.out; omega
                  case rel => exact ⟨((rd_T48 l0 x4_1).f1), (wrap64 (x4_1 + 1)), (by first | rfl | (simp; done) | (simp [*]; done)), (by first | rfl | (simp; done) | (simp [*]; done)), H', ⟨by have := HK1.out; omega⟩, by repeat (first | exact Drawn0.refl _ | apply Drawn0.step)⟩
          · rw [if_neg c4] at H
            exact absurd H (by simp)
        · rw [if_neg c3] at H
          have c3b0 : decide (x4_1 < (l0.length : Int)) = false := decide_eq_false c3
          clear c3
          obtain rfl := Option.some.inj H
          go_wp2
          repeat (go_quiet (fail); try go_wp2)
          go_ret
          exact ⟨by first | rfl | (simp; done) | (simp [*]; done), by repeat (first | exact Drawn0.refl _ | apply Drawn0.step)⟩
def fareboxref05_Rate.f (a0 : Nat) : Option (Bool) := (fareboxref05_parts.f a0).bind fun bt446 => (if bt446.2.2.2 = true then (if bt446.1 = true then (some false) else (if bt446.2.2.1 < (-52) then (some true) else (if bt446.2.2.1 = (-52) then (if bt446.2.1 = 4503599627370496 then (some true) else (some (bt446.2.1 == 0))) else (some (bt446.2.1 == 0))))) else (some false))
set_option maxHeartbeats 8000000 in
set_option maxRecDepth 100000 in
theorem fareboxref05_Rate.calls (a0 : Nat) (r : Bool) (w : World) (h : fareboxref05_Rate.f a0 = some r) :
    Calls Try.prog 83 #[.float .f64 a0] w fun e w' => e = .returned (.bool r) ∧ Drawn0 w w' := by
  have H : ((fareboxref05_parts.f a0).bind fun bt446 => (if bt446.2.2.2 = true then (if bt446.1 = true then (some false) else (if bt446.2.2.1 < (-52) then (some true) else (if bt446.2.2.1 = (-52) then (if bt446.2.1 = 4503599627370496 then (some true) else (some (bt446.2.1 == 0))) else (some (bt446.2.1 == 0))))) else (some false))) = some r := h
  clear h
  replace H := Option.bind_eq_some_iff.mp H
  obtain ⟨⟨t446, t447, t448, t449⟩, A20, H⟩ := H
  replace H : (if t449 = true then (if t446 = true then (some false) else (if t448 < (-52) then (some true) else (if t448 = (-52) then (if t447 = 4503599627370496 then (some true) else (some (t447 == 0))) else (some (t447 == 0))))) else (some false)) = some r := H
  have A2 := Aside0.mk A20
  clear A20
  by_cases c3 : t449 = true
  · subst c3
    have H1 : (if t446 = true then (some false) else (if t448 < (-52) then (some true) else (if t448 = (-52) then (if t447 = 4503599627370496 then (some true) else (some (t447 == 0))) else (some (t447 == 0))))) = some r := by rw [if_pos rfl] at H; exact H
    clear H
    have H := H1
    clear H1
    by_cases c4 : t446 = true
    · subst c4
      have H1 : (some false) = some r := by rw [if_pos rfl] at H; exact H
      clear H
      have H := H1
      clear H1
      obtain rfl := Option.some.inj H
      go_enter Try.func83, Try.ntmps83
      go_wp2_with (first | ((with_reducible refine gate_callee (f := 132) rfl ?_); refine goesL_ (some 9) rfl rfl Try.func132 (by kernel_rfl) rfl #[.float .f64 a0] rfl (by (try simp only [List.map_toArray, List.map_cons, List.map_nil]); first | done | rfl | (simp only [List.length_drop, List.length_take]; rfl)) ?_; (with_reducible refine (fareboxref05_parts.calls a0 true t447 t448 true _ A2.out).mono ?_); rintro e w' ⟨rfl, ⟨nd, rfl⟩⟩; refine ⟨_, rfl, ?_⟩))
      go_ret
      exact ⟨by first | rfl | (simp; done) | (simp [*]; done), by repeat (first | exact Drawn0.refl _ | apply Drawn0.step)⟩
    · replace c4 := Bool.eq_false_iff.mpr c4
      subst c4
      have H1 : (if t448 < (-52) then (some true) else (if t448 = (-52) then (if t447 = 4503599627370496 then (some true) else (some (t447 == 0))) else (some (t447 == 0)))) = some r := by rw [if_neg (show ¬ (false = true) by decide)] at H; exact H
      clear H
      have H := H1
      clear H1
      by_cases c5 : t448 < (-52)
      · rw [if_pos c5] at H
        have c5b0 : decide (t448 < (-52)) = true := decide_eq_true c5
        clear c5
        obtain rfl := Option.some.inj H
        go_enter Try.func83, Try.ntmps83
        go_wp2_with (first | ((with_reducible refine gate_callee (f := 132) rfl ?_); refine goesL_ (some 9) rfl rfl Try.func132 (by kernel_rfl) rfl #[.float .f64 a0] rfl (by (try simp only [List.map_toArray, List.map_cons, List.map_nil]); first | done | rfl | (simp only [List.length_drop, List.length_take]; rfl)) ?_; (with_reducible refine (fareboxref05_parts.calls a0 false t447 t448 true _ A2.out).mono ?_); rintro e w' ⟨rfl, ⟨nd, rfl⟩⟩; refine ⟨_, rfl, ?_⟩))
        go_ret
        exact ⟨by first | rfl | (simp; done) | (simp [*]; done), by repeat (first | exact Drawn0.refl _ | apply Drawn0.step)⟩
      · rw [if_neg c5] at H
        have c5b0 : decide (t448 < (-52)) = false := decide_eq_false c5
        clear c5
        by_cases c6 : t448 = (-52)
        · rw [if_pos c6] at H
          have c6b0 : (t448 == (-52)) = true := beq_iff_eq.mpr c6
          have c6b1 : (t448 != (-52)) = false := bne_eq_false_iff_eq.mpr c6
          clear c6
          by_cases c7 : t447 = 4503599627370496
          · rw [if_pos c7] at H
            have c7b0 : (t447 == 4503599627370496) = true := beq_iff_eq.mpr c7
            have c7b1 : (t447 != 4503599627370496) = false := bne_eq_false_iff_eq.mpr c7
            clear c7
            obtain rfl := Option.some.inj H
            go_enter Try.func83, Try.ntmps83
            go_wp2_with (first | ((with_reducible refine gate_callee (f := 132) rfl ?_); refine goesL_ (some 9) rfl rfl Try.func132 (by kernel_rfl) rfl #[.float .f64 a0] rfl (by (try simp only [List.map_toArray, List.map_cons, List.map_nil]); first | done | rfl | (simp only [List.length_drop, List.length_take]; rfl)) ?_; (with_reducible refine (fareboxref05_parts.calls a0 false t447 t448 true _ A2.out).mono ?_); rintro e w' ⟨rfl, ⟨nd, rfl⟩⟩; refine ⟨_, rfl, ?_⟩))
            go_ret
            exact ⟨by first | rfl | (simp; done) | (simp [*]; done), by repeat (first | exact Drawn0.refl _ | apply Drawn0.step)⟩
          · rw [if_neg c7] at H
            have c7b0 : (t447 == 4503599627370496) = false := beq_eq_false_iff_ne.mpr c7
            have c7b1 : (t447 != 4503599627370496) = true := bne_iff_ne.mpr c7
            obtain rfl := Option.some.inj H
            go_enter Try.func83, Try.ntmps83
            go_wp2_with (first | ((with_reducible refine gate_callee (f := 132) rfl ?_); refine goesL_ (some 9) rfl rfl Try.func132 (by kernel_rfl) rfl #[.float .f64 a0] rfl (by (try simp only [List.map_toArray, List.map_cons, List.map_nil]); first | done | rfl | (simp only [List.length_drop, List.length_take]; rfl)) ?_; (with_reducible refine (fareboxref05_parts.calls a0 false t447 t448 true _ A2.out).mono ?_); rintro e w' ⟨rfl, ⟨nd, rfl⟩⟩; refine ⟨_, rfl, ?_⟩))
            go_ret
            exact ⟨by first | rfl | (simp; done) | (simp [*]; done), by repeat (first | exact Drawn0.refl _ | apply Drawn0.step)⟩
        · rw [if_neg c6] at H
          have c6b0 : (t448 == (-52)) = false := beq_eq_false_iff_ne.mpr c6
          have c6b1 : (t448 != (-52)) = true := bne_iff_ne.mpr c6
          obtain rfl := Option.some.inj H
          go_enter Try.func83, Try.ntmps83
          go_wp2_with (first | ((with_reducible refine gate_callee (f := 132) rfl ?_); refine goesL_ (some 9) rfl rfl Try.func132 (by kernel_rfl) rfl #[.float .f64 a0] rfl (by (try simp only [List.map_toArray, List.map_cons, List.map_nil]); first | done | rfl | (simp only [List.length_drop, List.length_take]; rfl)) ?_; (with_reducible refine (fareboxref05_parts.calls a0 false t447 t448 true _ A2.out).mono ?_); rintro e w' ⟨rfl, ⟨nd, rfl⟩⟩; refine ⟨_, rfl, ?_⟩))
          go_ret
          exact ⟨by first | rfl | (simp; done) | (simp [*]; done), by repeat (first | exact Drawn0.refl _ | apply Drawn0.step)⟩
  · replace c3 := Bool.eq_false_iff.mpr c3
    subst c3
    have H1 : (some false) = some r := by rw [if_neg (show ¬ (false = true) by decide)] at H; exact H
    clear H
    have H := H1
    clear H1
    obtain rfl := Option.some.inj H
    go_enter Try.func83, Try.ntmps83
    go_wp2_with (first | ((with_reducible refine gate_callee (f := 132) rfl ?_); refine goesL_ (some 9) rfl rfl Try.func132 (by kernel_rfl) rfl #[.float .f64 a0] rfl (by (try simp only [List.map_toArray, List.map_cons, List.map_nil]); first | done | rfl | (simp only [List.length_drop, List.length_take]; rfl)) ?_; (with_reducible refine (fareboxref05_parts.calls a0 t446 t447 t448 false _ A2.out).mono ?_); rintro e w' ⟨rfl, ⟨nd, rfl⟩⟩; refine ⟨_, rfl, ?_⟩))
    go_ret
    exact ⟨by first | rfl | (simp; done) | (simp [*]; done), by repeat (first | exact Drawn0.refl _ | apply Drawn0.step)⟩
def fareboxref07_minutes.f (a0 : Int) (a1 : Int) : Option (Bool) := if a0 ≥ a1 then (some (decide (a0 ≤ 1440))) else (some false)
set_option maxHeartbeats 8000000 in
set_option maxRecDepth 100000 in
theorem fareboxref07_minutes.calls (a0 : Int) (a1 : Int) (r : Bool) (w : World) (h : fareboxref07_minutes.f a0 a1 = some r) :
    Calls Try.prog 84 #[.int .i64 a0, .int .i64 a1] w fun e w' => e = .returned (.bool r) ∧ Drawn0 w w' := by
  have H : (if a0 ≥ a1 then (some (decide (a0 ≤ 1440))) else (some false)) = some r := h
  clear h
  by_cases c3 : a0 ≥ a1
  · rw [if_pos c3] at H
    have c3b0 : decide (a1 ≤ a0) = true := decide_eq_true c3
    clear c3
    obtain rfl := Option.some.inj H
    go_enter Try.func84, Try.ntmps84
    go_wp2
    go_ret
    exact ⟨by first | rfl | (simp; done) | (simp [*]; done), by repeat (first | exact Drawn0.refl _ | apply Drawn0.step)⟩
  · rw [if_neg c3] at H
    have c3b0 : decide (a1 ≤ a0) = false := decide_eq_false c3
    clear c3
    obtain rfl := Option.some.inj H
    go_enter Try.func84, Try.ntmps84
    go_wp2
    go_ret
    exact ⟨by first | rfl | (simp; done) | (simp [*]; done), by repeat (first | exact Drawn0.refl _ | apply Drawn0.step)⟩
end Go.Proofs.YtmeogadkbbeglaaQ
end
section
namespace Go.Proofs.YtmeogadkbbeglaaQ
open Go.RowKit Go.Proofs.YtmeogadkbbeglaaW.PrintWords Go.Proofs.YtmeogadkbbeglaaW.PrintLast Go.Proofs.YtmeogadkbbeglaaW.PrintMore
attribute [local go_sem] max2_int min2_int max_two min_two max_three min_three max_four min_four   -- for this text's walks alone
set_option linter.unusedVariables false
set_option linter.unusedSimpArgs false
def fareboxref07_Right.j0 : Nat → Bool → List (S35) → List (S39) → List (S48) → Nat → Int → Int → Int → Int → Int → Int → Int → Int → Int → Int → Option (Int)
  | 0, _, _, _, _, _, _, _, _, _, _, _, _, _, _, _ => none
  | k + 1, x36, x451000, x451001, x451002, x451003, x451004, x451005, x451006, x451007, x451008, x451009, x451010, x451011, x451012, x451013 => if x36 = true then (some 70) else ((fareboxref05_Rate.f x451003).bind fun t457 => (if t457 = true then ((fareboxref07_minutes.f x451009 1).bind fun t458 => (if t458 = true then ((fareboxref07_minutes.f x451007 0).bind fun t459 => (if t459 = true then ((fareboxref07_minutes.f x451010 0).bind fun t460 => (if t460 = true then ((fareboxref07_minutes.f x451011 0).bind fun t461 => (if t461 = true then ((fareboxref07_minutes.f x451012 0).bind fun t462 => (if t462 = true then (some 0) else (some 70))) else (some 70))) else (some 70))) else (some 70))) else (some 70))) else (some 51)))
def fareboxref07_Right.f (k : Nat) (l0_0 : List (S35)) (l0_1 : List (S39)) (l0_2 : List (S48)) (a0_3 : Nat) (a0_4 : Int) (a0_5 : Int) (a0_6 : Int) (a0_7 : Int) (a0_8 : Int) (a0_9 : Int) (a0_10 : Int) (a0_11 : Int) (a0_12 : Int) (a0_13 : Int) : Option (Int) := (fareboxref07_stations.f k l0_0).bind fun bt451 => (if bt451.2 = true then ((fareboxref07_spans.f k l0_1 bt451.1).bind fun t453 => (if t453 = true then ((fareboxref07_prices.f k l0_0 l0_1 l0_2 a0_3 a0_4 a0_5 a0_6 a0_7 a0_8 a0_9 a0_10 a0_11 a0_12 a0_13).bind fun t454 => (if t454 = true then ((fareboxref07_wider.f k l0_1).bind fun t455 => ((fareboxref07_bands.f k l0_2).bind fun t456 => (if t455 = true then (fareboxref07_Right.j0 k (!t456) l0_0 l0_1 l0_2 a0_3 a0_4 a0_5 a0_6 a0_7 a0_8 a0_9 a0_10 a0_11 a0_12 a0_13) else (fareboxref07_Right.j0 k true l0_0 l0_1 l0_2 a0_3 a0_4 a0_5 a0_6 a0_7 a0_8 a0_9 a0_10 a0_11 a0_12 a0_13)))) else (some 50))) else (some 70))) else (some 70))
set_option maxHeartbeats 8000000 in
set_option maxRecDepth 100000 in
theorem fareboxref07_Right.calls (k : Nat) (A0_0 : Option Addr) (c0_0 : Nat) (l0_0 : List (S35)) (A0_1 : Option Addr) (c0_1 : Nat) (l0_1 : List (S39)) (A0_2 : Option Addr) (c0_2 : Nat) (l0_2 : List (S48)) (a0_3 : Nat) (a0_4 : Int) (a0_5 : Int) (a0_6 : Int) (a0_7 : Int) (a0_8 : Int) (a0_9 : Int) (a0_10 : Int) (a0_11 : Int) (a0_12 : Int) (a0_13 : Int) (r : Int) (w : World) (hr0_0 : Kd.C k35 w A0_0 l0_0.length l0_0) (hc0_0 : l0_0.length ≤ c0_0) (hr0_1 : Kd.C k39 w A0_1 l0_1.length l0_1) (hc0_1 : l0_1.length ≤ c0_1) (hr0_2 : Kd.C k48 w A0_2 l0_2.length l0_2) (hc0_2 : l0_2.length ≤ c0_2) (h : fareboxref07_Right.f k l0_0 l0_1 l0_2 a0_3 a0_4 a0_5 a0_6 a0_7 a0_8 a0_9 a0_10 a0_11 a0_12 a0_13 = some r) :
    Calls Try.prog 30 #[.agg #[.slice A0_0 l0_0.length c0_0, .slice A0_1 l0_1.length c0_1, .slice A0_2 l0_2.length c0_2, .float .f64 a0_3, .int .i64 a0_4, .int .i64 a0_5, .int .i64 a0_6, .int .i64 a0_7, .int .i64 a0_8, .int .i64 a0_9, .int .i64 a0_10, .int .i64 a0_11, .int .i64 a0_12, .int .i64 a0_13]] w fun e w' => e = .returned (.int .i64 r) ∧ Below w.heap.size w w' := by
  have hu27 := Try.underlying27
  have HR0_0 := Aside0.mk hr0_0
  have HC0_0 := Aside0.mk hc0_0
  clear hr0_0 hc0_0
  have HR0_1 := Aside0.mk hr0_1
  have HC0_1 := Aside0.mk hc0_1
  clear hr0_1 hc0_1
  have HR0_2 := Aside0.mk hr0_2
  have HC0_2 := Aside0.mk hc0_2
  clear hr0_2 hc0_2
  have HB := Aside0.mk (Below.refl w.heap.size w)
  have H : ((fareboxref07_stations.f k l0_0).bind fun bt451 => (if bt451.2 = true then ((fareboxref07_spans.f k l0_1 bt451.1).bind fun t453 => (if t453 = true then ((fareboxref07_prices.f k l0_0 l0_1 l0_2 a0_3 a0_4 a0_5 a0_6 a0_7 a0_8 a0_9 a0_10 a0_11 a0_12 a0_13).bind fun t454 => (if t454 = true then ((fareboxref07_wider.f k l0_1).bind fun t455 => ((fareboxref07_bands.f k l0_2).bind fun t456 => (if t455 = true then (fareboxref07_Right.j0 k (!t456) l0_0 l0_1 l0_2 a0_3 a0_4 a0_5 a0_6 a0_7 a0_8 a0_9 a0_10 a0_11 a0_12 a0_13) else (fareboxref07_Right.j0 k true l0_0 l0_1 l0_2 a0_3 a0_4 a0_5 a0_6 a0_7 a0_8 a0_9 a0_10 a0_11 a0_12 a0_13)))) else (some 50))) else (some 70))) else (some 70))) = some r := h
  clear h
  replace H := Option.bind_eq_some_iff.mp H
  obtain ⟨⟨t451, t452⟩, A20, H⟩ := H
  replace H : (if t452 = true then ((fareboxref07_spans.f k l0_1 t451).bind fun t453 => (if t453 = true then ((fareboxref07_prices.f k l0_0 l0_1 l0_2 a0_3 a0_4 a0_5 a0_6 a0_7 a0_8 a0_9 a0_10 a0_11 a0_12 a0_13).bind fun t454 => (if t454 = true then ((fareboxref07_wider.f k l0_1).bind fun t455 => ((fareboxref07_bands.f k l0_2).bind fun t456 => (if t455 = true then (fareboxref07_Right.j0 k (!t456) l0_0 l0_1 l0_2 a0_3 a0_4 a0_5 a0_6 a0_7 a0_8 a0_9 a0_10 a0_11 a0_12 a0_13) else (fareboxref07_Right.j0 k true l0_0 l0_1 l0_2 a0_3 a0_4 a0_5 a0_6 a0_7 a0_8 a0_9 a0_10 a0_11 a0_12 a0_13)))) else (some 50))) else (some 70))) else (some 70)) = some r := H
  have A2 := Aside0.mk A20
  clear A20
  by_cases c3 : t452 = true
  · subst c3
    have H1 : ((fareboxref07_spans.f k l0_1 t451).bind fun t453 => (if t453 = true then ((fareboxref07_prices.f k l0_0 l0_1 l0_2 a0_3 a0_4 a0_5 a0_6 a0_7 a0_8 a0_9 a0_10 a0_11 a0_12 a0_13).bind fun t454 => (if t454 = true then ((fareboxref07_wider.f k l0_1).bind fun t455 => ((fareboxref07_bands.f k l0_2).bind fun t456 => (if t455 = true then (fareboxref07_Right.j0 k (!t456) l0_0 l0_1 l0_2 a0_3 a0_4 a0_5 a0_6 a0_7 a0_8 a0_9 a0_10 a0_11 a0_12 a0_13) else (fareboxref07_Right.j0 k true l0_0 l0_1 l0_2 a0_3 a0_4 a0_5 a0_6 a0_7 a0_8 a0_9 a0_10 a0_11 a0_12 a0_13)))) else (some 50))) else (some 70))) = some r := by rw [if_pos rfl] at H; exact H
    clear H
    have H := H1
    clear H1
    replace H := Option.bind_eq_some_iff.mp H
    obtain ⟨t453, A40, H⟩ := H
    replace H : (if t453 = true then ((fareboxref07_prices.f k l0_0 l0_1 l0_2 a0_3 a0_4 a0_5 a0_6 a0_7 a0_8 a0_9 a0_10 a0_11 a0_12 a0_13).bind fun t454 => (if t454 = true then ((fareboxref07_wider.f k l0_1).bind fun t455 => ((fareboxref07_bands.f k l0_2).bind fun t456 => (if t455 = true then (fareboxref07_Right.j0 k (!t456) l0_0 l0_1 l0_2 a0_3 a0_4 a0_5 a0_6 a0_7 a0_8 a0_9 a0_10 a0_11 a0_12 a0_13) else (fareboxref07_Right.j0 k true l0_0 l0_1 l0_2 a0_3 a0_4 a0_5 a0_6 a0_7 a0_8 a0_9 a0_10 a0_11 a0_12 a0_13)))) else (some 50))) else (some 70)) = some r := H
    have A4 := Aside0.mk A40
    clear A40
    by_cases c5 : t453 = true
    · subst c5
      have H1 : ((fareboxref07_prices.f k l0_0 l0_1 l0_2 a0_3 a0_4 a0_5 a0_6 a0_7 a0_8 a0_9 a0_10 a0_11 a0_12 a0_13).bind fun t454 => (if t454 = true then ((fareboxref07_wider.f k l0_1).bind fun t455 => ((fareboxref07_bands.f k l0_2).bind fun t456 => (if t455 = true then (fareboxref07_Right.j0 k (!t456) l0_0 l0_1 l0_2 a0_3 a0_4 a0_5 a0_6 a0_7 a0_8 a0_9 a0_10 a0_11 a0_12 a0_13) else (fareboxref07_Right.j0 k true l0_0 l0_1 l0_2 a0_3 a0_4 a0_5 a0_6 a0_7 a0_8 a0_9 a0_10 a0_11 a0_12 a0_13)))) else (some 50))) = some r := by rw [if_pos rfl] at H; exact H
      clear H
      have H := H1
      clear H1
      replace H := Option.bind_eq_some_iff.mp H
      obtain ⟨t454, A60, H⟩ := H
      replace H : (if t454 = true then ((fareboxref07_wider.f k l0_1).bind fun t455 => ((fareboxref07_bands.f k l0_2).bind fun t456 => (if t455 = true then (fareboxref07_Right.j0 k (!t456) l0_0 l0_1 l0_2 a0_3 a0_4 a0_5 a0_6 a0_7 a0_8 a0_9 a0_10 a0_11 a0_12 a0_13) else (fareboxref07_Right.j0 k true l0_0 l0_1 l0_2 a0_3 a0_4 a0_5 a0_6 a0_7 a0_8 a0_9 a0_10 a0_11 a0_12 a0_13)))) else (some 50)) = some r := H
      have A6 := Aside0.mk A60
      clear A60
      by_cases c7 : t454 = true
      · subst c7
        have H1 : ((fareboxref07_wider.f k l0_1).bind fun t455 => ((fareboxref07_bands.f k l0_2).bind fun t456 => (if t455 = true then (fareboxref07_Right.j0 k (!t456) l0_0 l0_1 l0_2 a0_3 a0_4 a0_5 a0_6 a0_7 a0_8 a0_9 a0_10 a0_11 a0_12 a0_13) else (fareboxref07_Right.j0 k true l0_0 l0_1 l0_2 a0_3 a0_4 a0_5 a0_6 a0_7 a0_8 a0_9 a0_10 a0_11 a0_12 a0_13)))) = some r := by rw [if_pos rfl] at H; exact H
        clear H
        have H := H1
        clear H1
        replace H := Option.bind_eq_some_iff.mp H
        obtain ⟨t455, A80, H⟩ := H
        replace H : ((fareboxref07_bands.f k l0_2).bind fun t456 => (if t455 = true then (fareboxref07_Right.j0 k (!t456) l0_0 l0_1 l0_2 a0_3 a0_4 a0_5 a0_6 a0_7 a0_8 a0_9 a0_10 a0_11 a0_12 a0_13) else (fareboxref07_Right.j0 k true l0_0 l0_1 l0_2 a0_3 a0_4 a0_5 a0_6 a0_7 a0_8 a0_9 a0_10 a0_11 a0_12 a0_13))) = some r := H
        have A8 := Aside0.mk A80
        clear A80
        replace H := Option.bind_eq_some_iff.mp H
        obtain ⟨t456, A90, H⟩ := H
        replace H : (if t455 = true then (fareboxref07_Right.j0 k (!t456) l0_0 l0_1 l0_2 a0_3 a0_4 a0_5 a0_6 a0_7 a0_8 a0_9 a0_10 a0_11 a0_12 a0_13) else (fareboxref07_Right.j0 k true l0_0 l0_1 l0_2 a0_3 a0_4 a0_5 a0_6 a0_7 a0_8 a0_9 a0_10 a0_11 a0_12 a0_13)) = some r := H
        have A9 := Aside0.mk A90
        clear A90
        have HC10 := Aside0.mk H
        clear H
        go_enter Try.func30, Try.ntmps30
        go_upto_region 12 with (first | ((with_reducible refine gate_dst (N := 1) rfl ?_); refine box_event ?hg (N := 1) ?hd (cs := #[.slice A0_0 l0_0.length c0_0, .slice A0_1 l0_1.length c0_1, .slice A0_2 l0_2.length c0_2, .float .f64 a0_3, .int .i64 a0_4, .int .i64 a0_5, .int .i64 a0_6, .int .i64 a0_7, .int .i64 a0_8, .int .i64 a0_9, .int .i64 a0_10, .int .i64 a0_11, .int .i64 a0_12, .int .i64 a0_13]) (t := 27) ?hr ?_; (case hd => rfl); (case hg => rfl); (case hr => first | (go_simp; done) | (go_simp; rfl)); intro gb450 hg w11 hbox hb; have n0_ := Aside0.mk (below_step (by repeat (first | (with_reducible first | exact HB.out | apply below_alloc | apply pw_below_drewN | apply below_drew1) | exact HB.out)) hb); have n1_ := Aside0.mk (hbox); have n2_ := Aside0.mk ((by rw [hg]; exact (below_size (by repeat (first | (with_reducible first | exact HB.out | apply below_alloc | apply pw_below_drewN | apply below_drew1) | exact HB.out))) : w.heap.size ≤ gb450)); have n3_ := Aside0.mk ((by rw [hg]; exact (below_size (by repeat (first | (with_reducible first | exact HB.out | apply below_alloc | apply pw_below_drewN | apply below_drew1) | exact HB.out))) : w.heap.size ≤ gb450)); clear HB; have HB := n0_; have BK450 := n1_; have GW450 := n2_; have GE450 := n3_; clear n0_ n1_ n2_ n3_; clear hb hbox hg; have hcz12_0 : w11.cell? ⟨gb450, 0, none⟩ = some (.slice A0_0 l0_0.length c0_0) := (blk_cell BK450.out 0).trans rfl; have hcz12_1 : w11.cell? ⟨gb450, 1, none⟩ = some (.slice A0_1 l0_1.length c0_1) := (blk_cell BK450.out 1).trans rfl; have hcz12_2 : w11.cell? ⟨gb450, 2, none⟩ = some (.slice A0_2 l0_2.length c0_2) := (blk_cell BK450.out 2).trans rfl; have hcz12_3 : w11.cell? ⟨gb450, 3, none⟩ = some (.float .f64 a0_3) := (blk_cell BK450.out 3).trans rfl; have hcz12_4 : w11.cell? ⟨gb450, 4, none⟩ = some (.int .i64 a0_4) := (blk_cell BK450.out 4).trans rfl; have hcz12_5 : w11.cell? ⟨gb450, 5, none⟩ = some (.int .i64 a0_5) := (blk_cell BK450.out 5).trans rfl; have hcz12_6 : w11.cell? ⟨gb450, 6, none⟩ = some (.int .i64 a0_6) := (blk_cell BK450.out 6).trans rfl; have hcz12_7 : w11.cell? ⟨gb450, 7, none⟩ = some (.int .i64 a0_7) := (blk_cell BK450.out 7).trans rfl; have hcz12_8 : w11.cell? ⟨gb450, 8, none⟩ = some (.int .i64 a0_8) := (blk_cell BK450.out 8).trans rfl; have hcz12_9 : w11.cell? ⟨gb450, 9, none⟩ = some (.int .i64 a0_9) := (blk_cell BK450.out 9).trans rfl; have hcz12_10 : w11.cell? ⟨gb450, 10, none⟩ = some (.int .i64 a0_10) := (blk_cell BK450.out 10).trans rfl; have hcz12_11 : w11.cell? ⟨gb450, 11, none⟩ = some (.int .i64 a0_11) := (blk_cell BK450.out 11).trans rfl; have hcz12_12 : w11.cell? ⟨gb450, 12, none⟩ = some (.int .i64 a0_12) := (blk_cell BK450.out 12).trans rfl; have hcz12_13 : w11.cell? ⟨gb450, 13, none⟩ = some (.int .i64 a0_13) := (blk_cell BK450.out 13).trans rfl; have hfz12_0 := blk_frozen BK450.out 0; have hfz12_1 := blk_frozen BK450.out 1; have hfz12_2 := blk_frozen BK450.out 2; have hfz12_3 := blk_frozen BK450.out 3; have hfz12_4 := blk_frozen BK450.out 4; have hfz12_5 := blk_frozen BK450.out 5; have hfz12_6 := blk_frozen BK450.out 6; have hfz12_7 := blk_frozen BK450.out 7; have hfz12_8 := blk_frozen BK450.out 8; have hfz12_9 := blk_frozen BK450.out 9; have hfz12_10 := blk_frozen BK450.out 10; have hfz12_11 := blk_frozen BK450.out 11; have hfz12_12 := blk_frozen BK450.out 12; have hfz12_13 := blk_frozen BK450.out 13) | ((with_reducible refine gate_callee (f := 78) rfl ?_); refine goesL_ (some 10) rfl rfl Try.func78 (by kernel_rfl) rfl #[.slice A0_0 l0_0.length c0_0] rfl (by (try simp only [List.map_toArray, List.map_cons, List.map_nil]); first | done | rfl | (simp only [List.length_drop, List.length_take]; rfl)) ?_; (with_reducible refine (fareboxref07_stations.calls k _ _ l0_0 t451 true _ ?side1 ?side2 A2.out).mono ?_); (case side1 => repeat (first | exact (Kd.C_below HR0_0.out HB.out) | (with_reducible refine Kd.C_alloc ?_ _) | (with_reducible refine Kd.C_drewN ?_ _) | (with_reducible refine Kd.C_drew ?_))); (case side2 => exact HC0_0.out); rintro e w13 ⟨rfl, hb⟩; refine ⟨_, rfl, ?_⟩; have n0_ := Aside0.mk (blk_below (g := gb450) (o := .cells #[.slice A0_0 l0_0.length c0_0, .slice A0_1 l0_1.length c0_1, .slice A0_2 l0_2.length c0_2, .float .f64 a0_3, .int .i64 a0_4, .int .i64 a0_5, .int .i64 a0_6, .int .i64 a0_7, .int .i64 a0_8, .int .i64 a0_9, .int .i64 a0_10, .int .i64 a0_11, .int .i64 a0_12, .int .i64 a0_13] 27 (0, 0)) (by (with_reducible repeat (first | refine blk_drewN ?_ _ | refine blk_drew ?_ | refine blk_alloc ?_ _)); exact BK450.out) hb); have n1_ := Aside0.mk (below_step (by repeat (first | (with_reducible first | exact HB.out | apply below_alloc | apply pw_below_drewN | apply below_drew1 | refine below_set ?_ GE450.out) | exact HB.out)) hb); clear BK450; clear HB; have BK450 := n0_; have HB := n1_; clear n0_ n1_; (try clear hb); (try clear hb2); (try clear hk); (try clear hi); have hcz14_0 : w13.cell? ⟨gb450, 0, none⟩ = some (.slice A0_0 l0_0.length c0_0) := (blk_cell BK450.out 0).trans rfl; have hcz14_1 : w13.cell? ⟨gb450, 1, none⟩ = some (.slice A0_1 l0_1.length c0_1) := (blk_cell BK450.out 1).trans rfl; have hcz14_2 : w13.cell? ⟨gb450, 2, none⟩ = some (.slice A0_2 l0_2.length c0_2) := (blk_cell BK450.out 2).trans rfl; have hcz14_3 : w13.cell? ⟨gb450, 3, none⟩ = some (.float .f64 a0_3) := (blk_cell BK450.out 3).trans rfl; have hcz14_4 : w13.cell? ⟨gb450, 4, none⟩ = some (.int .i64 a0_4) := (blk_cell BK450.out 4).trans rfl; have hcz14_5 : w13.cell? ⟨gb450, 5, none⟩ = some (.int .i64 a0_5) := (blk_cell BK450.out 5).trans rfl; have hcz14_6 : w13.cell? ⟨gb450, 6, none⟩ = some (.int .i64 a0_6) := (blk_cell BK450.out 6).trans rfl; have hcz14_7 : w13.cell? ⟨gb450, 7, none⟩ = some (.int .i64 a0_7) := (blk_cell BK450.out 7).trans rfl; have hcz14_8 : w13.cell? ⟨gb450, 8, none⟩ = some (.int .i64 a0_8) := (blk_cell BK450.out 8).trans rfl; have hcz14_9 : w13.cell? ⟨gb450, 9, none⟩ = some (.int .i64 a0_9) := (blk_cell BK450.out 9).trans rfl; have hcz14_10 : w13.cell? ⟨gb450, 10, none⟩ = some (.int .i64 a0_10) := (blk_cell BK450.out 10).trans rfl; have hcz14_11 : w13.cell? ⟨gb450, 11, none⟩ = some (.int .i64 a0_11) := (blk_cell BK450.out 11).trans rfl; have hcz14_12 : w13.cell? ⟨gb450, 12, none⟩ = some (.int .i64 a0_12) := (blk_cell BK450.out 12).trans rfl; have hcz14_13 : w13.cell? ⟨gb450, 13, none⟩ = some (.int .i64 a0_13) := (blk_cell BK450.out 13).trans rfl; have hfz14_0 := blk_frozen BK450.out 0; have hfz14_1 := blk_frozen BK450.out 1; have hfz14_2 := blk_frozen BK450.out 2; have hfz14_3 := blk_frozen BK450.out 3; have hfz14_4 := blk_frozen BK450.out 4; have hfz14_5 := blk_frozen BK450.out 5; have hfz14_6 := blk_frozen BK450.out 6; have hfz14_7 := blk_frozen BK450.out 7; have hfz14_8 := blk_frozen BK450.out 8; have hfz14_9 := blk_frozen BK450.out 9; have hfz14_10 := blk_frozen BK450.out 10; have hfz14_11 := blk_frozen BK450.out 11; have hfz14_12 := blk_frozen BK450.out 12; have hfz14_13 := blk_frozen BK450.out 13) | ((with_reducible refine gate_callee (f := 79) rfl ?_); refine goesL_ (some 18) rfl rfl Try.func79 (by kernel_rfl) rfl #[.slice A0_1 l0_1.length c0_1, .int .i64 t451] rfl (by (try simp only [List.map_toArray, List.map_cons, List.map_nil]); first | done | rfl | (simp only [List.length_drop, List.length_take]; rfl)) ?_; (with_reducible refine (fareboxref07_spans.calls k _ _ l0_1 t451 true _ ?side1 ?side2 A4.out).mono ?_); (case side1 => repeat (first | exact (Kd.C_below HR0_1.out HB.out) | (with_reducible refine Kd.C_alloc ?_ _) | (with_reducible refine Kd.C_drewN ?_ _) | (with_reducible refine Kd.C_drew ?_))); (case side2 => exact HC0_1.out); rintro e w' ⟨rfl, ⟨nd, rfl⟩⟩; refine ⟨_, rfl, ?_⟩) | ((with_reducible refine gate_callee (f := 80) rfl ?_); refine goesL_ (some 22) rfl rfl Try.func80 (by kernel_rfl) rfl #[.agg #[.slice A0_0 l0_0.length c0_0, .slice A0_1 l0_1.length c0_1, .slice A0_2 l0_2.length c0_2, .float .f64 a0_3, .int .i64 a0_4, .int .i64 a0_5, .int .i64 a0_6, .int .i64 a0_7, .int .i64 a0_8, .int .i64 a0_9, .int .i64 a0_10, .int .i64 a0_11, .int .i64 a0_12, .int .i64 a0_13]] rfl (by (try simp only [List.map_toArray, List.map_cons, List.map_nil]); first | done | rfl | (simp only [List.length_drop, List.length_take]; rfl)) ?_; (with_reducible refine (fareboxref07_prices.calls k _ _ l0_0 _ _ l0_1 _ _ l0_2 a0_3 a0_4 a0_5 a0_6 a0_7 a0_8 a0_9 a0_10 a0_11 a0_12 a0_13 true _ ?side1 ?side2 ?side3 ?side4 ?side5 ?side6 A6.out).mono ?_); (case side1 => repeat (first | exact (Kd.C_below HR0_0.out (by repeat (first | (with_reducible first | exact HB.out | apply below_alloc | apply pw_below_drewN | apply below_drew1 | refine below_set ?_ GE450.out) | exact HB.out))) | (with_reducible refine Kd.C_alloc ?_ _) | (with_reducible refine Kd.C_drewN ?_ _) | (with_reducible refine Kd.C_drew ?_))); (case side2 => exact HC0_0.out); (case side3 => repeat (first | exact (Kd.C_below HR0_1.out (by repeat (first | (with_reducible first | exact HB.out | apply below_alloc | apply pw_below_drewN | apply below_drew1 | refine below_set ?_ GE450.out) | exact HB.out))) | (with_reducible refine Kd.C_alloc ?_ _) | (with_reducible refine Kd.C_drewN ?_ _) | (with_reducible refine Kd.C_drew ?_))); (case side4 => exact HC0_1.out); (case side5 => repeat (first | exact (Kd.C_below HR0_2.out (by repeat (first | (with_reducible first | exact HB.out | apply below_alloc | apply pw_below_drewN | apply below_drew1 | refine below_set ?_ GE450.out) | exact HB.out))) | (with_reducible refine Kd.C_alloc ?_ _) | (with_reducible refine Kd.C_drewN ?_ _) | (with_reducible refine Kd.C_drew ?_))); (case side6 => exact HC0_2.out); rintro e w15 ⟨rfl, hb⟩; refine ⟨_, rfl, ?_⟩; have n0_ := Aside0.mk (blk_below (g := gb450) (o := .cells #[.slice A0_0 l0_0.length c0_0, .slice A0_1 l0_1.length c0_1, .slice A0_2 l0_2.length c0_2, .float .f64 a0_3, .int .i64 a0_4, .int .i64 a0_5, .int .i64 a0_6, .int .i64 a0_7, .int .i64 a0_8, .int .i64 a0_9, .int .i64 a0_10, .int .i64 a0_11, .int .i64 a0_12, .int .i64 a0_13] 27 (0, 0)) (by (with_reducible repeat (first | refine blk_drewN ?_ _ | refine blk_drew ?_ | refine blk_alloc ?_ _)); exact BK450.out) hb); have n1_ := Aside0.mk (below_step (by repeat (first | (with_reducible first | exact HB.out | apply below_alloc | apply pw_below_drewN | apply below_drew1 | refine below_set ?_ GE450.out) | exact HB.out)) hb); clear BK450; clear HB; have BK450 := n0_; have HB := n1_; clear n0_ n1_; (try clear hb); (try clear hb2); (try clear hk); (try clear hi); have hcz16_0 : w15.cell? ⟨gb450, 0, none⟩ = some (.slice A0_0 l0_0.length c0_0) := (blk_cell BK450.out 0).trans rfl; have hcz16_1 : w15.cell? ⟨gb450, 1, none⟩ = some (.slice A0_1 l0_1.length c0_1) := (blk_cell BK450.out 1).trans rfl; have hcz16_2 : w15.cell? ⟨gb450, 2, none⟩ = some (.slice A0_2 l0_2.length c0_2) := (blk_cell BK450.out 2).trans rfl; have hcz16_3 : w15.cell? ⟨gb450, 3, none⟩ = some (.float .f64 a0_3) := (blk_cell BK450.out 3).trans rfl; have hcz16_4 : w15.cell? ⟨gb450, 4, none⟩ = some (.int .i64 a0_4) := (blk_cell BK450.out 4).trans rfl; have hcz16_5 : w15.cell? ⟨gb450, 5, none⟩ = some (.int .i64 a0_5) := (blk_cell BK450.out 5).trans rfl; have hcz16_6 : w15.cell? ⟨gb450, 6, none⟩ = some (.int .i64 a0_6) := (blk_cell BK450.out 6).trans rfl; have hcz16_7 : w15.cell? ⟨gb450, 7, none⟩ = some (.int .i64 a0_7) := (blk_cell BK450.out 7).trans rfl; have hcz16_8 : w15.cell? ⟨gb450, 8, none⟩ = some (.int .i64 a0_8) := (blk_cell BK450.out 8).trans rfl; have hcz16_9 : w15.cell? ⟨gb450, 9, none⟩ = some (.int .i64 a0_9) := (blk_cell BK450.out 9).trans rfl; have hcz16_10 : w15.cell? ⟨gb450, 10, none⟩ = some (.int .i64 a0_10) := (blk_cell BK450.out 10).trans rfl; have hcz16_11 : w15.cell? ⟨gb450, 11, none⟩ = some (.int .i64 a0_11) := (blk_cell BK450.out 11).trans rfl; have hcz16_12 : w15.cell? ⟨gb450, 12, none⟩ = some (.int .i64 a0_12) := (blk_cell BK450.out 12).trans rfl; have hcz16_13 : w15.cell? ⟨gb450, 13, none⟩ = some (.int .i64 a0_13) := (blk_cell BK450.out 13).trans rfl; have hfz16_0 := blk_frozen BK450.out 0; have hfz16_1 := blk_frozen BK450.out 1; have hfz16_2 := blk_frozen BK450.out 2; have hfz16_3 := blk_frozen BK450.out 3; have hfz16_4 := blk_frozen BK450.out 4; have hfz16_5 := blk_frozen BK450.out 5; have hfz16_6 := blk_frozen BK450.out 6; have hfz16_7 := blk_frozen BK450.out 7; have hfz16_8 := blk_frozen BK450.out 8; have hfz16_9 := blk_frozen BK450.out 9; have hfz16_10 := blk_frozen BK450.out 10; have hfz16_11 := blk_frozen BK450.out 11; have hfz16_12 := blk_frozen BK450.out 12; have hfz16_13 := blk_frozen BK450.out 13) | ((with_reducible refine gate_callee (f := 81) rfl ?_); refine goesL_ (some 27) rfl rfl Try.func81 (by kernel_rfl) rfl #[.slice A0_1 l0_1.length c0_1] rfl (by (try simp only [List.map_toArray, List.map_cons, List.map_nil]); first | done | rfl | (simp only [List.length_drop, List.length_take]; rfl)) ?_; (with_reducible refine (fareboxref07_wider.calls k _ _ l0_1 t455 _ ?side1 ?side2 A8.out).mono ?_); (case side1 => repeat (first | exact (Kd.C_below HR0_1.out HB.out) | (with_reducible refine Kd.C_alloc ?_ _) | (with_reducible refine Kd.C_drewN ?_ _) | (with_reducible refine Kd.C_drew ?_))); (case side2 => exact HC0_1.out); rintro e w17 ⟨rfl, hb⟩; refine ⟨_, rfl, ?_⟩; have n0_ := Aside0.mk (blk_below (g := gb450) (o := .cells #[.slice A0_0 l0_0.length c0_0, .slice A0_1 l0_1.length c0_1, .slice A0_2 l0_2.length c0_2, .float .f64 a0_3, .int .i64 a0_4, .int .i64 a0_5, .int .i64 a0_6, .int .i64 a0_7, .int .i64 a0_8, .int .i64 a0_9, .int .i64 a0_10, .int .i64 a0_11, .int .i64 a0_12, .int .i64 a0_13] 27 (0, 0)) (by (with_reducible repeat (first | refine blk_drewN ?_ _ | refine blk_drew ?_ | refine blk_alloc ?_ _)); exact BK450.out) hb); have n1_ := Aside0.mk (below_step (by repeat (first | (with_reducible first | exact HB.out | apply below_alloc | apply pw_below_drewN | apply below_drew1 | refine below_set ?_ GE450.out) | exact HB.out)) hb); clear BK450; clear HB; have BK450 := n0_; have HB := n1_; clear n0_ n1_; (try clear hb); (try clear hb2); (try clear hk); (try clear hi); have hcz18_0 : w17.cell? ⟨gb450, 0, none⟩ = some (.slice A0_0 l0_0.length c0_0) := (blk_cell BK450.out 0).trans rfl; have hcz18_1 : w17.cell? ⟨gb450, 1, none⟩ = some (.slice A0_1 l0_1.length c0_1) := (blk_cell BK450.out 1).trans rfl; have hcz18_2 : w17.cell? ⟨gb450, 2, none⟩ = some (.slice A0_2 l0_2.length c0_2) := (blk_cell BK450.out 2).trans rfl; have hcz18_3 : w17.cell? ⟨gb450, 3, none⟩ = some (.float .f64 a0_3) := (blk_cell BK450.out 3).trans rfl; have hcz18_4 : w17.cell? ⟨gb450, 4, none⟩ = some (.int .i64 a0_4) := (blk_cell BK450.out 4).trans rfl; have hcz18_5 : w17.cell? ⟨gb450, 5, none⟩ = some (.int .i64 a0_5) := (blk_cell BK450.out 5).trans rfl; have hcz18_6 : w17.cell? ⟨gb450, 6, none⟩ = some (.int .i64 a0_6) := (blk_cell BK450.out 6).trans rfl; have hcz18_7 : w17.cell? ⟨gb450, 7, none⟩ = some (.int .i64 a0_7) := (blk_cell BK450.out 7).trans rfl; have hcz18_8 : w17.cell? ⟨gb450, 8, none⟩ = some (.int .i64 a0_8) := (blk_cell BK450.out 8).trans rfl; have hcz18_9 : w17.cell? ⟨gb450, 9, none⟩ = some (.int .i64 a0_9) := (blk_cell BK450.out 9).trans rfl; have hcz18_10 : w17.cell? ⟨gb450, 10, none⟩ = some (.int .i64 a0_10) := (blk_cell BK450.out 10).trans rfl; have hcz18_11 : w17.cell? ⟨gb450, 11, none⟩ = some (.int .i64 a0_11) := (blk_cell BK450.out 11).trans rfl; have hcz18_12 : w17.cell? ⟨gb450, 12, none⟩ = some (.int .i64 a0_12) := (blk_cell BK450.out 12).trans rfl; have hcz18_13 : w17.cell? ⟨gb450, 13, none⟩ = some (.int .i64 a0_13) := (blk_cell BK450.out 13).trans rfl; have hfz18_0 := blk_frozen BK450.out 0; have hfz18_1 := blk_frozen BK450.out 1; have hfz18_2 := blk_frozen BK450.out 2; have hfz18_3 := blk_frozen BK450.out 3; have hfz18_4 := blk_frozen BK450.out 4; have hfz18_5 := blk_frozen BK450.out 5; have hfz18_6 := blk_frozen BK450.out 6; have hfz18_7 := blk_frozen BK450.out 7; have hfz18_8 := blk_frozen BK450.out 8; have hfz18_9 := blk_frozen BK450.out 9; have hfz18_10 := blk_frozen BK450.out 10; have hfz18_11 := blk_frozen BK450.out 11; have hfz18_12 := blk_frozen BK450.out 12; have hfz18_13 := blk_frozen BK450.out 13) | ((with_reducible refine gate_callee (f := 82) rfl ?_); refine goesL_ (some 30) rfl rfl Try.func82 (by kernel_rfl) rfl #[.slice A0_2 l0_2.length c0_2] rfl (by (try simp only [List.map_toArray, List.map_cons, List.map_nil]); first | done | rfl | (simp only [List.length_drop, List.length_take]; rfl)) ?_; (with_reducible refine (fareboxref07_bands.calls k _ _ l0_2 t456 _ ?side1 ?side2 A9.out).mono ?_); (case side1 => repeat (first | exact (Kd.C_below HR0_2.out HB.out) | (with_reducible refine Kd.C_alloc ?_ _) | (with_reducible refine Kd.C_drewN ?_ _) | (with_reducible refine Kd.C_drew ?_))); (case side2 => exact HC0_2.out); rintro e w' ⟨rfl, ⟨nd, rfl⟩⟩; refine ⟨_, rfl, ?_⟩))
        (try simp only [Act.put, List.setIfInBounds_toArray, List.set_cons_zero, List.set_cons_succ])
        go_cut [36] (fun v36 wc => ∃ (kq : Nat) (x36_9 : Bool), v36 = .bool x36_9 ∧ Aside0 (fareboxref07_Right.j0 kq x36_9 l0_0 l0_1 l0_2 a0_3 a0_4 a0_5 a0_6 a0_7 a0_8 a0_9 a0_10 a0_11 a0_12 a0_13 = some r) ∧ Aside0 (kq ≤ k) ∧ Aside0 (wc.heap[gb450]? = some (.cells #[(.slice A0_0 l0_0.length c0_0), (.slice A0_1 l0_1.length c0_1), (.slice A0_2 l0_2.length c0_2), .float .f64 a0_3, .int .i64 a0_4, .int .i64 a0_5, .int .i64 a0_6, .int .i64 a0_7, .int .i64 a0_8, .int .i64 a0_9, .int .i64 a0_10, .int .i64 a0_11, .int .i64 a0_12, .int .i64 a0_13] 27 (0, 0))) ∧ Aside0 (Below w.heap.size w wc))
        case first =>
          have H := HC10.out
          clear HC10
          by_cases c19 : t455 = true
          · subst c19
            have H1 : (fareboxref07_Right.j0 k (!t456) l0_0 l0_1 l0_2 a0_3 a0_4 a0_5 a0_6 a0_7 a0_8 a0_9 a0_10 a0_11 a0_12 a0_13) = some r := by rw [if_pos rfl] at H; exact H
            clear H
            have H := H1
            clear H1
            have H' := Aside0.mk H
            clear H
            go_wp2
            go_meet
            case rel => exact ⟨_, (!t456), (by first | rfl | (simp; done) | (simp [*]; done)), H', ⟨by first | omega | exact Nat.le_refl _⟩, ⟨by (with_reducible repeat (first | refine blk_drewN ?_ _ | refine blk_drew ?_ | refine blk_alloc ?_ _)); exact BK450.out⟩, ⟨by repeat (first | (with_reducible first | exact HB.out | apply below_alloc | apply pw_below_drewN | apply below_drew1 | refine below_set ?_ GE450.out) | exact HB.out)⟩⟩
          · replace c19 := Bool.eq_false_iff.mpr c19
            subst c19
            have H1 : (fareboxref07_Right.j0 k true l0_0 l0_1 l0_2 a0_3 a0_4 a0_5 a0_6 a0_7 a0_8 a0_9 a0_10 a0_11 a0_12 a0_13) = some r := by rw [if_neg (show ¬ (false = true) by decide)] at H; exact H
            clear H
            have H := H1
            clear H1
            have H' := Aside0.mk H
            clear H
            go_wp2
            go_meet
            case rel => exact ⟨_, (true), (by first | rfl | (simp; done) | (simp [*]; done)), H', ⟨by first | omega | exact Nat.le_refl _⟩, ⟨by (with_reducible repeat (first | refine blk_drewN ?_ _ | refine blk_drew ?_ | refine blk_alloc ?_ _)); exact BK450.out⟩, ⟨by repeat (first | (with_reducible first | exact HB.out | apply below_alloc | apply pw_below_drewN | apply below_drew1 | refine below_set ?_ GE450.out) | exact HB.out)⟩⟩
        case rest =>
          clear HC10
          try clear c1
          try clear p2
          try clear c3
          try clear c5
          try clear c7
          try clear c8
          try clear c19
          try clear hcz12_0
          try clear hcz12_1
          try clear hcz12_10
          try clear hcz12_11
          try clear hcz12_12
          try clear hcz12_13
          try clear hcz12_2
          try clear hcz12_3
          try clear hcz12_4
          try clear hcz12_5
          try clear hcz12_6
          try clear hcz12_7
          try clear hcz12_8
          try clear hcz12_9
          try clear hcz14_0
          try clear hcz14_1
          try clear hcz14_10
          try clear hcz14_11
          try clear hcz14_12
          try clear hcz14_13
          try clear hcz14_2
          try clear hcz14_3
          try clear hcz14_4
          try clear hcz14_5
          try clear hcz14_6
          try clear hcz14_7
          try clear hcz14_8
          try clear hcz14_9
          try clear hcz16_0
          try clear hcz16_1
          try clear hcz16_10
          try clear hcz16_11
          try clear hcz16_12
          try clear hcz16_13
          try clear hcz16_2
          try clear hcz16_3
          try clear hcz16_4
          try clear hcz16_5
          try clear hcz16_6
          try clear hcz16_7
          try clear hcz16_8
          try clear hcz16_9
          try clear hcz18_0
          try clear hcz18_1
          try clear hcz18_10
          try clear hcz18_11
          try clear hcz18_12
          try clear hcz18_13
          try clear hcz18_2
          try clear hcz18_3
          try clear hcz18_4
          try clear hcz18_5
          try clear hcz18_6
          try clear hcz18_7
          try clear hcz18_8
          try clear hcz18_9
          try clear hfz12_0
          try clear hfz12_1
          try clear hfz12_10
          try clear hfz12_11
          try clear hfz12_12
          try clear hfz12_13
          try clear hfz12_2
          try clear hfz12_3
          try clear hfz12_4
          try clear hfz12_5
          try clear hfz12_6
          try clear hfz12_7
          try clear hfz12_8
          try clear hfz12_9
          try clear hfz14_0
          try clear hfz14_1
          try clear hfz14_10
          try clear hfz14_11
          try clear hfz14_12
          try clear hfz14_13
          try clear hfz14_2
          try clear hfz14_3
          try clear hfz14_4
          try clear hfz14_5
          try clear hfz14_6
          try clear hfz14_7
          try clear hfz14_8
          try clear hfz14_9
          try clear hfz16_0
          try clear hfz16_1
          try clear hfz16_10
          try clear hfz16_11
          try clear hfz16_12
          try clear hfz16_13
          try clear hfz16_2
          try clear hfz16_3
          try clear hfz16_4
          try clear hfz16_5
          try clear hfz16_6
          try clear hfz16_7
          try clear hfz16_8
          try clear hfz16_9
          try clear hfz18_0
          try clear hfz18_1
          try clear hfz18_10
          try clear hfz18_11
          try clear hfz18_12
          try clear hfz18_13
          try clear hfz18_2
          try clear hfz18_3
          try clear hfz18_4
          try clear hfz18_5
          try clear hfz18_6
          try clear hfz18_7
          try clear hfz18_8
          try clear hfz18_9
          obtain ⟨kq, x36_9, rfl, HA, HJ9, BK450, HB⟩ := hcut
          cases kq with
          | zero => exact absurd HA.out (by simp [fareboxref07_Right.j0])
          | succ kj9 =>
            have H := HA.out
            clear HA
            simp only [fareboxref07_Right.j0] at H
            by_cases c20 : x36_9 = true
            · subst c20
              have H1 : (some 70) = some r := by rw [if_pos rfl] at H; exact H
              clear H
              have H := H1
              clear H1
              obtain rfl := Option.some.inj H
              go_wp2
              go_ret
              exact ⟨by first | rfl | (simp [errW_none, errW_some] <;> rfl) | (simp [*, errW_none, errW_some] <;> rfl), by repeat (first | (with_reducible first | exact HB.out | apply below_alloc | apply pw_below_drewN | apply below_drew1 | refine below_set ?_ GE450.out) | exact HB.out)⟩
            · replace c20 := Bool.eq_false_iff.mpr c20
              subst c20
              have H1 : ((fareboxref05_Rate.f a0_3).bind fun t457 => (if t457 = true then ((fareboxref07_minutes.f a0_9 1).bind fun t458 => (if t458 = true then ((fareboxref07_minutes.f a0_7 0).bind fun t459 => (if t459 = true then ((fareboxref07_minutes.f a0_10 0).bind fun t460 => (if t460 = true then ((fareboxref07_minutes.f a0_11 0).bind fun t461 => (if t461 = true then ((fareboxref07_minutes.f a0_12 0).bind fun t462 => (if t462 = true then (some 0) else (some 70))) else (some 70))) else (some 70))) else (some 70))) else (some 70))) else (some 51))) = some r := by rw [if_neg (show ¬ (false = true) by decide)] at H; exact H
              clear H
              have H := H1
              clear H1
              replace H := Option.bind_eq_some_iff.mp H
              obtain ⟨t457, A210, H⟩ := H
              replace H : (if t457 = true then ((fareboxref07_minutes.f a0_9 1).bind fun t458 => (if t458 = true then ((fareboxref07_minutes.f a0_7 0).bind fun t459 => (if t459 = true then ((fareboxref07_minutes.f a0_10 0).bind fun t460 => (if t460 = true then ((fareboxref07_minutes.f a0_11 0).bind fun t461 => (if t461 = true then ((fareboxref07_minutes.f a0_12 0).bind fun t462 => (if t462 = true then (some 0) else (some 70))) else (some 70))) else (some 70))) else (some 70))) else (some 70))) else (some 51)) = some r := H
              have A21 := Aside0.mk A210
              clear A210
              by_cases c22 : t457 = true
              · subst c22
                have H1 : ((fareboxref07_minutes.f a0_9 1).bind fun t458 => (if t458 = true then ((fareboxref07_minutes.f a0_7 0).bind fun t459 => (if t459 = true then ((fareboxref07_minutes.f a0_10 0).bind fun t460 => (if t460 = true then ((fareboxref07_minutes.f a0_11 0).bind fun t461 => (if t461 = true then ((fareboxref07_minutes.f a0_12 0).bind fun t462 => (if t462 = true then (some 0) else (some 70))) else (some 70))) else (some 70))) else (some 70))) else (some 70))) = some r := by rw [if_pos rfl] at H; exact H
                clear H
                have H := H1
                clear H1
                replace H := Option.bind_eq_some_iff.mp H
                obtain ⟨t458, A230, H⟩ := H
                replace H : (if t458 = true then ((fareboxref07_minutes.f a0_7 0).bind fun t459 => (if t459 = true then ((fareboxref07_minutes.f a0_10 0).bind fun t460 => (if t460 = true then ((fareboxref07_minutes.f a0_11 0).bind fun t461 => (if t461 = true then ((fareboxref07_minutes.f a0_12 0).bind fun t462 => (if t462 = true then (some 0) else (some 70))) else (some 70))) else (some 70))) else (some 70))) else (some 70)) = some r := H
                have A23 := Aside0.mk A230
                clear A230
                by_cases c24 : t458 = true
                · subst c24
                  have H1 : ((fareboxref07_minutes.f a0_7 0).bind fun t459 => (if t459 = true then ((fareboxref07_minutes.f a0_10 0).bind fun t460 => (if t460 = true then ((fareboxref07_minutes.f a0_11 0).bind fun t461 => (if t461 = true then ((fareboxref07_minutes.f a0_12 0).bind fun t462 => (if t462 = true then (some 0) else (some 70))) else (some 70))) else (some 70))) else (some 70))) = some r := by rw [if_pos rfl] at H; exact H
                  clear H
                  have H := H1
                  clear H1
                  replace H := Option.bind_eq_some_iff.mp H
                  obtain ⟨t459, A250, H⟩ := H
                  replace H : (if t459 = true then ((fareboxref07_minutes.f a0_10 0).bind fun t460 => (if t460 = true then ((fareboxref07_minutes.f a0_11 0).bind fun t461 => (if t461 = true then ((fareboxref07_minutes.f a0_12 0).bind fun t462 => (if t462 = true then (some 0) else (some 70))) else (some 70))) else (some 70))) else (some 70)) = some r := H
                  have A25 := Aside0.mk A250
                  clear A250
                  by_cases c26 : t459 = true
                  · subst c26
                    have H1 : ((fareboxref07_minutes.f a0_10 0).bind fun t460 => (if t460 = true then ((fareboxref07_minutes.f a0_11 0).bind fun t461 => (if t461 = true then ((fareboxref07_minutes.f a0_12 0).bind fun t462 => (if t462 = true then (some 0) else (some 70))) else (some 70))) else (some 70))) = some r := by rw [if_pos rfl] at H; exact H
                    clear H
                    have H := H1
                    clear H1
                    replace H := Option.bind_eq_some_iff.mp H
                    obtain ⟨t460, A270, H⟩ := H
                    replace H : (if t460 = true then ((fareboxref07_minutes.f a0_11 0).bind fun t461 => (if t461 = true then ((fareboxref07_minutes.f a0_12 0).bind fun t462 => (if t462 = true then (some 0) else (some 70))) else (some 70))) else (some 70)) = some r := H
                    have A27 := Aside0.mk A270
                    clear A270
                    by_cases c28 : t460 = true
                    · subst c28
                      have H1 : ((fareboxref07_minutes.f a0_11 0).bind fun t461 => (if t461 = true then ((fareboxref07_minutes.f a0_12 0).bind fun t462 => (if t462 = true then (some 0) else (some 70))) else (some 70))) = some r := by rw [if_pos rfl] at H; exact H
                      clear H
                      have H := H1
                      clear H1
                      replace H := Option.bind_eq_some_iff.mp H
                      obtain ⟨t461, A290, H⟩ := H
                      replace H : (if t461 = true then ((fareboxref07_minutes.f a0_12 0).bind fun t462 => (if t462 = true then (some 0) else (some 70))) else (some 70)) = some r := H
                      have A29 := Aside0.mk A290
                      clear A290
                      by_cases c30 : t461 = true
                      · subst c30
                        have H1 : ((fareboxref07_minutes.f a0_12 0).bind fun t462 => (if t462 = true then (some 0) else (some 70))) = some r := by rw [if_pos rfl] at H; exact H
                        clear H
                        have H := H1
                        clear H1
                        replace H := Option.bind_eq_some_iff.mp H
                        obtain ⟨t462, A310, H⟩ := H
                        replace H : (if t462 = true then (some 0) else (some 70)) = some r := H
                        have A31 := Aside0.mk A310
                        clear A310
                        by_cases c32 : t462 = true
                        · subst c32
                          have H1 : (some 0) = some r := by rw [if_pos rfl] at H; exact H
                          clear H
                          have H := H1
                          clear H1
                          obtain rfl := Option.some.inj H
                          have hcz33_0 : wc.cell? ⟨gb450, 0, none⟩ = some (.slice A0_0 l0_0.length c0_0) := (blk_cell BK450.out 0).trans rfl
                          have hcz33_1 : wc.cell? ⟨gb450, 1, none⟩ = some (.slice A0_1 l0_1.length c0_1) := (blk_cell BK450.out 1).trans rfl
                          have hcz33_2 : wc.cell? ⟨gb450, 2, none⟩ = some (.slice A0_2 l0_2.length c0_2) := (blk_cell BK450.out 2).trans rfl
                          have hcz33_3 : wc.cell? ⟨gb450, 3, none⟩ = some (.float .f64 a0_3) := (blk_cell BK450.out 3).trans rfl
                          have hcz33_4 : wc.cell? ⟨gb450, 4, none⟩ = some (.int .i64 a0_4) := (blk_cell BK450.out 4).trans rfl
                          have hcz33_5 : wc.cell? ⟨gb450, 5, none⟩ = some (.int .i64 a0_5) := (blk_cell BK450.out 5).trans rfl
                          have hcz33_6 : wc.cell? ⟨gb450, 6, none⟩ = some (.int .i64 a0_6) := (blk_cell BK450.out 6).trans rfl
                          have hcz33_7 : wc.cell? ⟨gb450, 7, none⟩ = some (.int .i64 a0_7) := (blk_cell BK450.out 7).trans rfl
                          have hcz33_8 : wc.cell? ⟨gb450, 8, none⟩ = some (.int .i64 a0_8) := (blk_cell BK450.out 8).trans rfl
                          have hcz33_9 : wc.cell? ⟨gb450, 9, none⟩ = some (.int .i64 a0_9) := (blk_cell BK450.out 9).trans rfl
                          have hcz33_10 : wc.cell? ⟨gb450, 10, none⟩ = some (.int .i64 a0_10) := (blk_cell BK450.out 10).trans rfl
                          have hcz33_11 : wc.cell? ⟨gb450, 11, none⟩ = some (.int .i64 a0_11) := (blk_cell BK450.out 11).trans rfl
                          have hcz33_12 : wc.cell? ⟨gb450, 12, none⟩ = some (.int .i64 a0_12) := (blk_cell BK450.out 12).trans rfl
                          have hcz33_13 : wc.cell? ⟨gb450, 13, none⟩ = some (.int .i64 a0_13) := (blk_cell BK450.out 13).trans rfl
                          have hfz33_0 := blk_frozen BK450.out 0
                          have hfz33_1 := blk_frozen BK450.out 1
                          have hfz33_2 := blk_frozen BK450.out 2
                          have hfz33_3 := blk_frozen BK450.out 3
                          have hfz33_4 := blk_frozen BK450.out 4
                          have hfz33_5 := blk_frozen BK450.out 5
                          have hfz33_6 := blk_frozen BK450.out 6
                          have hfz33_7 := blk_frozen BK450.out 7
                          have hfz33_8 := blk_frozen BK450.out 8
                          have hfz33_9 := blk_frozen BK450.out 9
                          have hfz33_10 := blk_frozen BK450.out 10
                          have hfz33_11 := blk_frozen BK450.out 11
                          have hfz33_12 := blk_frozen BK450.out 12
                          have hfz33_13 := blk_frozen BK450.out 13
                          go_wp2_with (first | ((with_reducible refine gate_callee (f := 83) rfl ?_); refine goesL_ (some 39) rfl rfl Try.func83 (by kernel_rfl) rfl #[.float .f64 a0_3] rfl (by (try simp only [List.map_toArray, List.map_cons, List.map_nil]); first | done | rfl | (simp only [List.length_drop, List.length_take]; rfl)) ?_; (with_reducible refine (fareboxref05_Rate.calls a0_3 true _ A21.out).mono ?_); rintro e w' ⟨rfl, ⟨nd, rfl⟩⟩; refine ⟨_, rfl, ?_⟩) | ((with_reducible refine gate_callee (f := 84) rfl ?_); refine goesL_ (some 44) rfl rfl Try.func84 (by kernel_rfl) rfl #[.int .i64 a0_9, .int .i64 1] rfl (by (try simp only [List.map_toArray, List.map_cons, List.map_nil]); first | done | rfl | (simp only [List.length_drop, List.length_take]; rfl)) ?_; (with_reducible refine (fareboxref07_minutes.calls a0_9 1 true _ A23.out).mono ?_); rintro e w' ⟨rfl, ⟨nd, rfl⟩⟩; refine ⟨_, rfl, ?_⟩) | (go_at_call 84; (with_reducible refine (fareboxref07_minutes.calls a0_7 0 true _ A25.out).mono ?_); rintro e w' ⟨rfl, ⟨nd, rfl⟩⟩) | (go_at_call 84; (with_reducible refine (fareboxref07_minutes.calls a0_10 0 true _ A27.out).mono ?_); rintro e w' ⟨rfl, ⟨nd, rfl⟩⟩) | (go_at_call 84; (with_reducible refine (fareboxref07_minutes.calls a0_11 0 true _ A29.out).mono ?_); rintro e w' ⟨rfl, ⟨nd, rfl⟩⟩) | (go_at_call 84; (with_reducible refine (fareboxref07_minutes.calls a0_12 0 true _ A31.out).mono ?_); rintro e w' ⟨rfl, ⟨nd, rfl⟩⟩))
                          go_ret
                          exact ⟨by first | rfl | (simp [errW_none, errW_some] <;> rfl) | (simp [*, errW_none, errW_some] <;> rfl), by repeat (first | (with_reducible first | exact HB.out | apply below_alloc | apply pw_below_drewN | apply below_drew1 | refine below_set ?_ GE450.out) | exact HB.out)⟩
                        · replace c32 := Bool.eq_false_iff.mpr c32
                          subst c32
                          have H1 : (some 70) = some r := by rw [if_neg (show ¬ (false = true) by decide)] at H; exact H
                          clear H
                          have H := H1
                          clear H1
                          obtain rfl := Option.some.inj H
                          have hcz34_0 : wc.cell? ⟨gb450, 0, none⟩ = some (.slice A0_0 l0_0.length c0_0) := (blk_cell BK450.out 0).trans rfl
                          have hcz34_1 : wc.cell? ⟨gb450, 1, none⟩ = some (.slice A0_1 l0_1.length c0_1) := (blk_cell BK450.out 1).trans rfl
                          have hcz34_2 : wc.cell? ⟨gb450, 2, none⟩ = some (.slice A0_2 l0_2.length c0_2) := (blk_cell BK450.out 2).trans rfl
                          have hcz34_3 : wc.cell? ⟨gb450, 3, none⟩ = some (.float .f64 a0_3) := (blk_cell BK450.out 3).trans rfl
                          have hcz34_4 : wc.cell? ⟨gb450, 4, none⟩ = some (.int .i64 a0_4) := (blk_cell BK450.out 4).trans rfl
                          have hcz34_5 : wc.cell? ⟨gb450, 5, none⟩ = some (.int .i64 a0_5) := (blk_cell BK450.out 5).trans rfl
                          have hcz34_6 : wc.cell? ⟨gb450, 6, none⟩ = some (.int .i64 a0_6) := (blk_cell BK450.out 6).trans rfl
                          have hcz34_7 : wc.cell? ⟨gb450, 7, none⟩ = some (.int .i64 a0_7) := (blk_cell BK450.out 7).trans rfl
                          have hcz34_8 : wc.cell? ⟨gb450, 8, none⟩ = some (.int .i64 a0_8) := (blk_cell BK450.out 8).trans rfl
                          have hcz34_9 : wc.cell? ⟨gb450, 9, none⟩ = some (.int .i64 a0_9) := (blk_cell BK450.out 9).trans rfl
                          have hcz34_10 : wc.cell? ⟨gb450, 10, none⟩ = some (.int .i64 a0_10) := (blk_cell BK450.out 10).trans rfl
                          have hcz34_11 : wc.cell? ⟨gb450, 11, none⟩ = some (.int .i64 a0_11) := (blk_cell BK450.out 11).trans rfl
                          have hcz34_12 : wc.cell? ⟨gb450, 12, none⟩ = some (.int .i64 a0_12) := (blk_cell BK450.out 12).trans rfl
                          have hcz34_13 : wc.cell? ⟨gb450, 13, none⟩ = some (.int .i64 a0_13) := (blk_cell BK450.out 13).trans rfl
                          have hfz34_0 := blk_frozen BK450.out 0
                          have hfz34_1 := blk_frozen BK450.out 1
                          have hfz34_2 := blk_frozen BK450.out 2
                          have hfz34_3 := blk_frozen BK450.out 3
                          have hfz34_4 := blk_frozen BK450.out 4
                          have hfz34_5 := blk_frozen BK450.out 5
                          have hfz34_6 := blk_frozen BK450.out 6
                          have hfz34_7 := blk_frozen BK450.out 7
                          have hfz34_8 := blk_frozen BK450.out 8
                          have hfz34_9 := blk_frozen BK450.out 9
                          have hfz34_10 := blk_frozen BK450.out 10
                          have hfz34_11 := blk_frozen BK450.out 11
                          have hfz34_12 := blk_frozen BK450.out 12
                          have hfz34_13 := blk_frozen BK450.out 13
                          go_wp2_with (first | ((with_reducible refine gate_callee (f := 83) rfl ?_); refine goesL_ (some 39) rfl rfl Try.func83 (by kernel_rfl) rfl #[.float .f64 a0_3] rfl (by (try simp only [List.map_toArray, List.map_cons, List.map_nil]); first | done | rfl | (simp only [List.length_drop, List.length_take]; rfl)) ?_; (with_reducible refine (fareboxref05_Rate.calls a0_3 true _ A21.out).mono ?_); rintro e w' ⟨rfl, ⟨nd, rfl⟩⟩; refine ⟨_, rfl, ?_⟩) | ((with_reducible refine gate_callee (f := 84) rfl ?_); refine goesL_ (some 44) rfl rfl Try.func84 (by kernel_rfl) rfl #[.int .i64 a0_9, .int .i64 1] rfl (by (try simp only [List.map_toArray, List.map_cons, List.map_nil]); first | done | rfl | (simp only [List.length_drop, List.length_take]; rfl)) ?_; (with_reducible refine (fareboxref07_minutes.calls a0_9 1 true _ A23.out).mono ?_); rintro e w' ⟨rfl, ⟨nd, rfl⟩⟩; refine ⟨_, rfl, ?_⟩) | (go_at_call 84; (with_reducible refine (fareboxref07_minutes.calls a0_7 0 true _ A25.out).mono ?_); rintro e w' ⟨rfl, ⟨nd, rfl⟩⟩) | (go_at_call 84; (with_reducible refine (fareboxref07_minutes.calls a0_10 0 true _ A27.out).mono ?_); rintro e w' ⟨rfl, ⟨nd, rfl⟩⟩) | (go_at_call 84; (with_reducible refine (fareboxref07_minutes.calls a0_11 0 true _ A29.out).mono ?_); rintro e w' ⟨rfl, ⟨nd, rfl⟩⟩) | (go_at_call 84; (with_reducible refine (fareboxref07_minutes.calls a0_12 0 false _ A31.out).mono ?_); rintro e w' ⟨rfl, ⟨nd, rfl⟩⟩))
                          go_ret
                          exact ⟨by first | rfl | (simp [errW_none, errW_some] <;> rfl) | (simp [*, errW_none, errW_some] <;> rfl), by repeat (first | (with_reducible first | exact HB.out | apply below_alloc | apply pw_below_drewN | apply below_drew1 | refine below_set ?_ GE450.out) | exact HB.out)⟩
                      · replace c30 := Bool.eq_false_iff.mpr c30
                        subst c30
                        have H1 : (some 70) = some r := by rw [if_neg (show ¬ (false = true) by decide)] at H; exact H
                        clear H
                        have H := H1
                        clear H1
                        obtain rfl := Option.some.inj H
                        have hcz35_0 : wc.cell? ⟨gb450, 0, none⟩ = some (.slice A0_0 l0_0.length c0_0) := (blk_cell BK450.out 0).trans rfl
                        have hcz35_1 : wc.cell? ⟨gb450, 1, none⟩ = some (.slice A0_1 l0_1.length c0_1) := (blk_cell BK450.out 1).trans rfl
                        have hcz35_2 : wc.cell? ⟨gb450, 2, none⟩ = some (.slice A0_2 l0_2.length c0_2) := (blk_cell BK450.out 2).trans rfl
                        have hcz35_3 : wc.cell? ⟨gb450, 3, none⟩ = some (.float .f64 a0_3) := (blk_cell BK450.out 3).trans rfl
                        have hcz35_4 : wc.cell? ⟨gb450, 4, none⟩ = some (.int .i64 a0_4) := (blk_cell BK450.out 4).trans rfl
                        have hcz35_5 : wc.cell? ⟨gb450, 5, none⟩ = some (.int .i64 a0_5) := (blk_cell BK450.out 5).trans rfl
                        have hcz35_6 : wc.cell? ⟨gb450, 6, none⟩ = some (.int .i64 a0_6) := (blk_cell BK450.out 6).trans rfl
                        have hcz35_7 : wc.cell? ⟨gb450, 7, none⟩ = some (.int .i64 a0_7) := (blk_cell BK450.out 7).trans rfl
                        have hcz35_8 : wc.cell? ⟨gb450, 8, none⟩ = some (.int .i64 a0_8) := (blk_cell BK450.out 8).trans rfl
                        have hcz35_9 : wc.cell? ⟨gb450, 9, none⟩ = some (.int .i64 a0_9) := (blk_cell BK450.out 9).trans rfl
                        have hcz35_10 : wc.cell? ⟨gb450, 10, none⟩ = some (.int .i64 a0_10) := (blk_cell BK450.out 10).trans rfl
                        have hcz35_11 : wc.cell? ⟨gb450, 11, none⟩ = some (.int .i64 a0_11) := (blk_cell BK450.out 11).trans rfl
                        have hcz35_12 : wc.cell? ⟨gb450, 12, none⟩ = some (.int .i64 a0_12) := (blk_cell BK450.out 12).trans rfl
                        have hcz35_13 : wc.cell? ⟨gb450, 13, none⟩ = some (.int .i64 a0_13) := (blk_cell BK450.out 13).trans rfl
                        have hfz35_0 := blk_frozen BK450.out 0
                        have hfz35_1 := blk_frozen BK450.out 1
                        have hfz35_2 := blk_frozen BK450.out 2
                        have hfz35_3 := blk_frozen BK450.out 3
                        have hfz35_4 := blk_frozen BK450.out 4
                        have hfz35_5 := blk_frozen BK450.out 5
                        have hfz35_6 := blk_frozen BK450.out 6
                        have hfz35_7 := blk_frozen BK450.out 7
                        have hfz35_8 := blk_frozen BK450.out 8
                        have hfz35_9 := blk_frozen BK450.out 9
                        have hfz35_10 := blk_frozen BK450.out 10
                        have hfz35_11 := blk_frozen BK450.out 11
                        have hfz35_12 := blk_frozen BK450.out 12
                        have hfz35_13 := blk_frozen BK450.out 13
                        go_wp2_with (first | ((with_reducible refine gate_callee (f := 83) rfl ?_); refine goesL_ (some 39) rfl rfl Try.func83 (by kernel_rfl) rfl #[.float .f64 a0_3] rfl (by (try simp only [List.map_toArray, List.map_cons, List.map_nil]); first | done | rfl | (simp only [List.length_drop, List.length_take]; rfl)) ?_; (with_reducible refine (fareboxref05_Rate.calls a0_3 true _ A21.out).mono ?_); rintro e w' ⟨rfl, ⟨nd, rfl⟩⟩; refine ⟨_, rfl, ?_⟩) | ((with_reducible refine gate_callee (f := 84) rfl ?_); refine goesL_ (some 44) rfl rfl Try.func84 (by kernel_rfl) rfl #[.int .i64 a0_9, .int .i64 1] rfl (by (try simp only [List.map_toArray, List.map_cons, List.map_nil]); first | done | rfl | (simp only [List.length_drop, List.length_take]; rfl)) ?_; (with_reducible refine (fareboxref07_minutes.calls a0_9 1 true _ A23.out).mono ?_); rintro e w' ⟨rfl, ⟨nd, rfl⟩⟩; refine ⟨_, rfl, ?_⟩) | (go_at_call 84; (with_reducible refine (fareboxref07_minutes.calls a0_7 0 true _ A25.out).mono ?_); rintro e w' ⟨rfl, ⟨nd, rfl⟩⟩) | (go_at_call 84; (with_reducible refine (fareboxref07_minutes.calls a0_10 0 true _ A27.out).mono ?_); rintro e w' ⟨rfl, ⟨nd, rfl⟩⟩) | (go_at_call 84; (with_reducible refine (fareboxref07_minutes.calls a0_11 0 false _ A29.out).mono ?_); rintro e w' ⟨rfl, ⟨nd, rfl⟩⟩))
                        go_ret
                        exact ⟨by first | rfl | (simp [errW_none, errW_some] <;> rfl) | (simp [*, errW_none, errW_some] <;> rfl), by repeat (first | (with_reducible first | exact HB.out | apply below_alloc | apply pw_below_drewN | apply below_drew1 | refine below_set ?_ GE450.out) | exact HB.out)⟩
                    · replace c28 := Bool.eq_false_iff.mpr c28
                      subst c28
                      have H1 : (some 70) = some r := by rw [if_neg (show ¬ (false = true) by decide)] at H; exact H
                      clear H
                      have H := H1
                      clear H1
                      obtain rfl := Option.some.inj H
                      have hcz36_0 : wc.cell? ⟨gb450, 0, none⟩ = some (.slice A0_0 l0_0.length c0_0) := (blk_cell BK450.out 0).trans rfl
                      have hcz36_1 : wc.cell? ⟨gb450, 1, none⟩ = some (.slice A0_1 l0_1.length c0_1) := (blk_cell BK450.out 1).trans rfl
                      have hcz36_2 : wc.cell? ⟨gb450, 2, none⟩ = some (.slice A0_2 l0_2.length c0_2) := (blk_cell BK450.out 2).trans rfl
                      have hcz36_3 : wc.cell? ⟨gb450, 3, none⟩ = some (.float .f64 a0_3) := (blk_cell BK450.out 3).trans rfl
                      have hcz36_4 : wc.cell? ⟨gb450, 4, none⟩ = some (.int .i64 a0_4) := (blk_cell BK450.out 4).trans rfl
                      have hcz36_5 : wc.cell? ⟨gb450, 5, none⟩ = some (.int .i64 a0_5) := (blk_cell BK450.out 5).trans rfl
                      have hcz36_6 : wc.cell? ⟨gb450, 6, none⟩ = some (.int .i64 a0_6) := (blk_cell BK450.out 6).trans rfl
                      have hcz36_7 : wc.cell? ⟨gb450, 7, none⟩ = some (.int .i64 a0_7) := (blk_cell BK450.out 7).trans rfl
                      have hcz36_8 : wc.cell? ⟨gb450, 8, none⟩ = some (.int .i64 a0_8) := (blk_cell BK450.out 8).trans rfl
                      have hcz36_9 : wc.cell? ⟨gb450, 9, none⟩ = some (.int .i64 a0_9) := (blk_cell BK450.out 9).trans rfl
                      have hcz36_10 : wc.cell? ⟨gb450, 10, none⟩ = some (.int .i64 a0_10) := (blk_cell BK450.out 10).trans rfl
                      have hcz36_11 : wc.cell? ⟨gb450, 11, none⟩ = some (.int .i64 a0_11) := (blk_cell BK450.out 11).trans rfl
                      have hcz36_12 : wc.cell? ⟨gb450, 12, none⟩ = some (.int .i64 a0_12) := (blk_cell BK450.out 12).trans rfl
                      have hcz36_13 : wc.cell? ⟨gb450, 13, none⟩ = some (.int .i64 a0_13) := (blk_cell BK450.out 13).trans rfl
                      have hfz36_0 := blk_frozen BK450.out 0
                      have hfz36_1 := blk_frozen BK450.out 1
                      have hfz36_2 := blk_frozen BK450.out 2
                      have hfz36_3 := blk_frozen BK450.out 3
                      have hfz36_4 := blk_frozen BK450.out 4
                      have hfz36_5 := blk_frozen BK450.out 5
                      have hfz36_6 := blk_frozen BK450.out 6
                      have hfz36_7 := blk_frozen BK450.out 7
                      have hfz36_8 := blk_frozen BK450.out 8
                      have hfz36_9 := blk_frozen BK450.out 9
                      have hfz36_10 := blk_frozen BK450.out 10
                      have hfz36_11 := blk_frozen BK450.out 11
                      have hfz36_12 := blk_frozen BK450.out 12
                      have hfz36_13 := blk_frozen BK450.out 13
                      go_wp2_with (first | ((with_reducible refine gate_callee (f := 83) rfl ?_); refine goesL_ (some 39) rfl rfl Try.func83 (by kernel_rfl) rfl #[.float .f64 a0_3] rfl (by (try simp only [List.map_toArray, List.map_cons, List.map_nil]); first | done | rfl | (simp only [List.length_drop, List.length_take]; rfl)) ?_; (with_reducible refine (fareboxref05_Rate.calls a0_3 true _ A21.out).mono ?_); rintro e w' ⟨rfl, ⟨nd, rfl⟩⟩; refine ⟨_, rfl, ?_⟩) | ((with_reducible refine gate_callee (f := 84) rfl ?_); refine goesL_ (some 44) rfl rfl Try.func84 (by kernel_rfl) rfl #[.int .i64 a0_9, .int .i64 1] rfl (by (try simp only [List.map_toArray, List.map_cons, List.map_nil]); first | done | rfl | (simp only [List.length_drop, List.length_take]; rfl)) ?_; (with_reducible refine (fareboxref07_minutes.calls a0_9 1 true _ A23.out).mono ?_); rintro e w' ⟨rfl, ⟨nd, rfl⟩⟩; refine ⟨_, rfl, ?_⟩) | (go_at_call 84; (with_reducible refine (fareboxref07_minutes.calls a0_7 0 true _ A25.out).mono ?_); rintro e w' ⟨rfl, ⟨nd, rfl⟩⟩) | (go_at_call 84; (with_reducible refine (fareboxref07_minutes.calls a0_10 0 false _ A27.out).mono ?_); rintro e w' ⟨rfl, ⟨nd, rfl⟩⟩))
                      go_ret
                      exact ⟨by first | rfl | (simp [errW_none, errW_some] <;> rfl) | (simp [*, errW_none, errW_some] <;> rfl), by repeat (first | (with_reducible first | exact HB.out | apply below_alloc | apply pw_below_drewN | apply below_drew1 | refine below_set ?_ GE450.out) | exact HB.out)⟩
                  · replace c26 := Bool.eq_false_iff.mpr c26
                    subst c26
                    have H1 : (some 70) = some r := by rw [if_neg (show ¬ (false = true) by decide)] at H; exact H
                    clear H
                    have H := H1
                    clear H1
                    obtain rfl := Option.some.inj H
                    have hcz37_0 : wc.cell? ⟨gb450, 0, none⟩ = some (.slice A0_0 l0_0.length c0_0) := (blk_cell BK450.out 0).trans rfl
                    have hcz37_1 : wc.cell? ⟨gb450, 1, none⟩ = some (.slice A0_1 l0_1.length c0_1) := (blk_cell BK450.out 1).trans rfl
                    have hcz37_2 : wc.cell? ⟨gb450, 2, none⟩ = some (.slice A0_2 l0_2.length c0_2) := (blk_cell BK450.out 2).trans rfl
                    have hcz37_3 : wc.cell? ⟨gb450, 3, none⟩ = some (.float .f64 a0_3) := (blk_cell BK450.out 3).trans rfl
                    have hcz37_4 : wc.cell? ⟨gb450, 4, none⟩ = some (.int .i64 a0_4) := (blk_cell BK450.out 4).trans rfl
                    have hcz37_5 : wc.cell? ⟨gb450, 5, none⟩ = some (.int .i64 a0_5) := (blk_cell BK450.out 5).trans rfl
                    have hcz37_6 : wc.cell? ⟨gb450, 6, none⟩ = some (.int .i64 a0_6) := (blk_cell BK450.out 6).trans rfl
                    have hcz37_7 : wc.cell? ⟨gb450, 7, none⟩ = some (.int .i64 a0_7) := (blk_cell BK450.out 7).trans rfl
                    have hcz37_8 : wc.cell? ⟨gb450, 8, none⟩ = some (.int .i64 a0_8) := (blk_cell BK450.out 8).trans rfl
                    have hcz37_9 : wc.cell? ⟨gb450, 9, none⟩ = some (.int .i64 a0_9) := (blk_cell BK450.out 9).trans rfl
                    have hcz37_10 : wc.cell? ⟨gb450, 10, none⟩ = some (.int .i64 a0_10) := (blk_cell BK450.out 10).trans rfl
                    have hcz37_11 : wc.cell? ⟨gb450, 11, none⟩ = some (.int .i64 a0_11) := (blk_cell BK450.out 11).trans rfl
                    have hcz37_12 : wc.cell? ⟨gb450, 12, none⟩ = some (.int .i64 a0_12) := (blk_cell BK450.out 12).trans rfl
                    have hcz37_13 : wc.cell? ⟨gb450, 13, none⟩ = some (.int .i64 a0_13) := (blk_cell BK450.out 13).trans rfl
                    have hfz37_0 := blk_frozen BK450.out 0
                    have hfz37_1 := blk_frozen BK450.out 1
                    have hfz37_2 := blk_frozen BK450.out 2
                    have hfz37_3 := blk_frozen BK450.out 3
                    have hfz37_4 := blk_frozen BK450.out 4
                    have hfz37_5 := blk_frozen BK450.out 5
                    have hfz37_6 := blk_frozen BK450.out 6
                    have hfz37_7 := blk_frozen BK450.out 7
                    have hfz37_8 := blk_frozen BK450.out 8
                    have hfz37_9 := blk_frozen BK450.out 9
                    have hfz37_10 := blk_frozen BK450.out 10
                    have hfz37_11 := blk_frozen BK450.out 11
                    have hfz37_12 := blk_frozen BK450.out 12
                    have hfz37_13 := blk_frozen BK450.out 13
                    go_wp2_with (first | ((with_reducible refine gate_callee (f := 83) rfl ?_); refine goesL_ (some 39) rfl rfl Try.func83 (by kernel_rfl) rfl #[.float .f64 a0_3] rfl (by (try simp only [List.map_toArray, List.map_cons, List.map_nil]); first | done | rfl | (simp only [List.length_drop, List.length_take]; rfl)) ?_; (with_reducible refine (fareboxref05_Rate.calls a0_3 true _ A21.out).mono ?_); rintro e w' ⟨rfl, ⟨nd, rfl⟩⟩; refine ⟨_, rfl, ?_⟩) | ((with_reducible refine gate_callee (f := 84) rfl ?_); refine goesL_ (some 44) rfl rfl Try.func84 (by kernel_rfl) rfl #[.int .i64 a0_9, .int .i64 1] rfl (by (try simp only [List.map_toArray, List.map_cons, List.map_nil]); first | done | rfl | (simp only [List.length_drop, List.length_take]; rfl)) ?_; (with_reducible refine (fareboxref07_minutes.calls a0_9 1 true _ A23.out).mono ?_); rintro e w' ⟨rfl, ⟨nd, rfl⟩⟩; refine ⟨_, rfl, ?_⟩) | (go_at_call 84; (with_reducible refine (fareboxref07_minutes.calls a0_7 0 false _ A25.out).mono ?_); rintro e w' ⟨rfl, ⟨nd, rfl⟩⟩))
                    go_ret
                    exact ⟨by first | rfl | (simp [errW_none, errW_some] <;> rfl) | (simp [*, errW_none, errW_some] <;> rfl), by repeat (first | (with_reducible first | exact HB.out | apply below_alloc | apply pw_below_drewN | apply below_drew1 | refine below_set ?_ GE450.out) | exact HB.out)⟩
                · replace c24 := Bool.eq_false_iff.mpr c24
                  subst c24
                  have H1 : (some 70) = some r := by rw [if_neg (show ¬ (false = true) by decide)] at H; exact H
                  clear H
                  have H := H1
                  clear H1
                  obtain rfl := Option.some.inj H
                  have hcz38_0 : wc.cell? ⟨gb450, 0, none⟩ = some (.slice A0_0 l0_0.length c0_0) := (blk_cell BK450.out 0).trans rfl
                  have hcz38_1 : wc.cell? ⟨gb450, 1, none⟩ = some (.slice A0_1 l0_1.length c0_1) := (blk_cell BK450.out 1).trans rfl
                  have hcz38_2 : wc.cell? ⟨gb450, 2, none⟩ = some (.slice A0_2 l0_2.length c0_2) := (blk_cell BK450.out 2).trans rfl
                  have hcz38_3 : wc.cell? ⟨gb450, 3, none⟩ = some (.float .f64 a0_3) := (blk_cell BK450.out 3).trans rfl
                  have hcz38_4 : wc.cell? ⟨gb450, 4, none⟩ = some (.int .i64 a0_4) := (blk_cell BK450.out 4).trans rfl
                  have hcz38_5 : wc.cell? ⟨gb450, 5, none⟩ = some (.int .i64 a0_5) := (blk_cell BK450.out 5).trans rfl
                  have hcz38_6 : wc.cell? ⟨gb450, 6, none⟩ = some (.int .i64 a0_6) := (blk_cell BK450.out 6).trans rfl
                  have hcz38_7 : wc.cell? ⟨gb450, 7, none⟩ = some (.int .i64 a0_7) := (blk_cell BK450.out 7).trans rfl
                  have hcz38_8 : wc.cell? ⟨gb450, 8, none⟩ = some (.int .i64 a0_8) := (blk_cell BK450.out 8).trans rfl
                  have hcz38_9 : wc.cell? ⟨gb450, 9, none⟩ = some (.int .i64 a0_9) := (blk_cell BK450.out 9).trans rfl
                  have hcz38_10 : wc.cell? ⟨gb450, 10, none⟩ = some (.int .i64 a0_10) := (blk_cell BK450.out 10).trans rfl
                  have hcz38_11 : wc.cell? ⟨gb450, 11, none⟩ = some (.int .i64 a0_11) := (blk_cell BK450.out 11).trans rfl
                  have hcz38_12 : wc.cell? ⟨gb450, 12, none⟩ = some (.int .i64 a0_12) := (blk_cell BK450.out 12).trans rfl
                  have hcz38_13 : wc.cell? ⟨gb450, 13, none⟩ = some (.int .i64 a0_13) := (blk_cell BK450.out 13).trans rfl
                  have hfz38_0 := blk_frozen BK450.out 0
                  have hfz38_1 := blk_frozen BK450.out 1
                  have hfz38_2 := blk_frozen BK450.out 2
                  have hfz38_3 := blk_frozen BK450.out 3
                  have hfz38_4 := blk_frozen BK450.out 4
                  have hfz38_5 := blk_frozen BK450.out 5
                  have hfz38_6 := blk_frozen BK450.out 6
                  have hfz38_7 := blk_frozen BK450.out 7
                  have hfz38_8 := blk_frozen BK450.out 8
                  have hfz38_9 := blk_frozen BK450.out 9
                  have hfz38_10 := blk_frozen BK450.out 10
                  have hfz38_11 := blk_frozen BK450.out 11
                  have hfz38_12 := blk_frozen BK450.out 12
                  have hfz38_13 := blk_frozen BK450.out 13
                  go_wp2_with (first | ((with_reducible refine gate_callee (f := 83) rfl ?_); refine goesL_ (some 39) rfl rfl Try.func83 (by kernel_rfl) rfl #[.float .f64 a0_3] rfl (by (try simp only [List.map_toArray, List.map_cons, List.map_nil]); first | done | rfl | (simp only [List.length_drop, List.length_take]; rfl)) ?_; (with_reducible refine (fareboxref05_Rate.calls a0_3 true _ A21.out).mono ?_); rintro e w' ⟨rfl, ⟨nd, rfl⟩⟩; refine ⟨_, rfl, ?_⟩) | ((with_reducible refine gate_callee (f := 84) rfl ?_); refine goesL_ (some 44) rfl rfl Try.func84 (by kernel_rfl) rfl #[.int .i64 a0_9, .int .i64 1] rfl (by (try simp only [List.map_toArray, List.map_cons, List.map_nil]); first | done | rfl | (simp only [List.length_drop, List.length_take]; rfl)) ?_; (with_reducible refine (fareboxref07_minutes.calls a0_9 1 false _ A23.out).mono ?_); rintro e w' ⟨rfl, ⟨nd, rfl⟩⟩; refine ⟨_, rfl, ?_⟩))
                  go_ret
                  exact ⟨by first | rfl | (simp [errW_none, errW_some] <;> rfl) | (simp [*, errW_none, errW_some] <;> rfl), by repeat (first | (with_reducible first | exact HB.out | apply below_alloc | apply pw_below_drewN | apply below_drew1 | refine below_set ?_ GE450.out) | exact HB.out)⟩
              · replace c22 := Bool.eq_false_iff.mpr c22
                subst c22
                have H1 : (some 51) = some r := by rw [if_neg (show ¬ (false = true) by decide)] at H; exact H
                clear H
                have H := H1
                clear H1
                obtain rfl := Option.some.inj H
                have hcz39_0 : wc.cell? ⟨gb450, 0, none⟩ = some (.slice A0_0 l0_0.length c0_0) := (blk_cell BK450.out 0).trans rfl
                have hcz39_1 : wc.cell? ⟨gb450, 1, none⟩ = some (.slice A0_1 l0_1.length c0_1) := (blk_cell BK450.out 1).trans rfl
                have hcz39_2 : wc.cell? ⟨gb450, 2, none⟩ = some (.slice A0_2 l0_2.length c0_2) := (blk_cell BK450.out 2).trans rfl
                have hcz39_3 : wc.cell? ⟨gb450, 3, none⟩ = some (.float .f64 a0_3) := (blk_cell BK450.out 3).trans rfl
                have hcz39_4 : wc.cell? ⟨gb450, 4, none⟩ = some (.int .i64 a0_4) := (blk_cell BK450.out 4).trans rfl
                have hcz39_5 : wc.cell? ⟨gb450, 5, none⟩ = some (.int .i64 a0_5) := (blk_cell BK450.out 5).trans rfl
                have hcz39_6 : wc.cell? ⟨gb450, 6, none⟩ = some (.int .i64 a0_6) := (blk_cell BK450.out 6).trans rfl
                have hcz39_7 : wc.cell? ⟨gb450, 7, none⟩ = some (.int .i64 a0_7) := (blk_cell BK450.out 7).trans rfl
                have hcz39_8 : wc.cell? ⟨gb450, 8, none⟩ = some (.int .i64 a0_8) := (blk_cell BK450.out 8).trans rfl
                have hcz39_9 : wc.cell? ⟨gb450, 9, none⟩ = some (.int .i64 a0_9) := (blk_cell BK450.out 9).trans rfl
                have hcz39_10 : wc.cell? ⟨gb450, 10, none⟩ = some (.int .i64 a0_10) := (blk_cell BK450.out 10).trans rfl
                have hcz39_11 : wc.cell? ⟨gb450, 11, none⟩ = some (.int .i64 a0_11) := (blk_cell BK450.out 11).trans rfl
                have hcz39_12 : wc.cell? ⟨gb450, 12, none⟩ = some (.int .i64 a0_12) := (blk_cell BK450.out 12).trans rfl
                have hcz39_13 : wc.cell? ⟨gb450, 13, none⟩ = some (.int .i64 a0_13) := (blk_cell BK450.out 13).trans rfl
                have hfz39_0 := blk_frozen BK450.out 0
                have hfz39_1 := blk_frozen BK450.out 1
                have hfz39_2 := blk_frozen BK450.out 2
                have hfz39_3 := blk_frozen BK450.out 3
                have hfz39_4 := blk_frozen BK450.out 4
                have hfz39_5 := blk_frozen BK450.out 5
                have hfz39_6 := blk_frozen BK450.out 6
                have hfz39_7 := blk_frozen BK450.out 7
                have hfz39_8 := blk_frozen BK450.out 8
                have hfz39_9 := blk_frozen BK450.out 9
                have hfz39_10 := blk_frozen BK450.out 10
                have hfz39_11 := blk_frozen BK450.out 11
                have hfz39_12 := blk_frozen BK450.out 12
                have hfz39_13 := blk_frozen BK450.out 13
                go_wp2_with (first | ((with_reducible refine gate_callee (f := 83) rfl ?_); refine goesL_ (some 39) rfl rfl Try.func83 (by kernel_rfl) rfl #[.float .f64 a0_3] rfl (by (try simp only [List.map_toArray, List.map_cons, List.map_nil]); first | done | rfl | (simp only [List.length_drop, List.length_take]; rfl)) ?_; (with_reducible refine (fareboxref05_Rate.calls a0_3 false _ A21.out).mono ?_); rintro e w' ⟨rfl, ⟨nd, rfl⟩⟩; refine ⟨_, rfl, ?_⟩))
                go_ret
                exact ⟨by first | rfl | (simp [errW_none, errW_some] <;> rfl) | (simp [*, errW_none, errW_some] <;> rfl), by repeat (first | (with_reducible first | exact HB.out | apply below_alloc | apply pw_below_drewN | apply below_drew1 | refine below_set ?_ GE450.out) | exact HB.out)⟩
      · replace c7 := Bool.eq_false_iff.mpr c7
        subst c7
        have H1 : (some 50) = some r := by rw [if_neg (show ¬ (false = true) by decide)] at H; exact H
        clear H
        have H := H1
        clear H1
        obtain rfl := Option.some.inj H
        go_enter Try.func30, Try.ntmps30
        go_wp2_with (first | ((with_reducible refine gate_dst (N := 1) rfl ?_); refine box_event ?hg (N := 1) ?hd (cs := #[.slice A0_0 l0_0.length c0_0, .slice A0_1 l0_1.length c0_1, .slice A0_2 l0_2.length c0_2, .float .f64 a0_3, .int .i64 a0_4, .int .i64 a0_5, .int .i64 a0_6, .int .i64 a0_7, .int .i64 a0_8, .int .i64 a0_9, .int .i64 a0_10, .int .i64 a0_11, .int .i64 a0_12, .int .i64 a0_13]) (t := 27) ?hr ?_; (case hd => rfl); (case hg => rfl); (case hr => first | (go_simp; done) | (go_simp; rfl)); intro gb450 hg w40 hbox hb; have n0_ := Aside0.mk (below_step (by repeat (first | (with_reducible first | exact HB.out | apply below_alloc | apply pw_below_drewN | apply below_drew1) | exact HB.out)) hb); have n1_ := Aside0.mk (hbox); have n2_ := Aside0.mk ((by rw [hg]; exact (below_size (by repeat (first | (with_reducible first | exact HB.out | apply below_alloc | apply pw_below_drewN | apply below_drew1) | exact HB.out))) : w.heap.size ≤ gb450)); have n3_ := Aside0.mk ((by rw [hg]; exact (below_size (by repeat (first | (with_reducible first | exact HB.out | apply below_alloc | apply pw_below_drewN | apply below_drew1) | exact HB.out))) : w.heap.size ≤ gb450)); clear HB; have HB := n0_; have BK450 := n1_; have GW450 := n2_; have GE450 := n3_; clear n0_ n1_ n2_ n3_; clear hb hbox hg; have hcz41_0 : w40.cell? ⟨gb450, 0, none⟩ = some (.slice A0_0 l0_0.length c0_0) := (blk_cell BK450.out 0).trans rfl; have hcz41_1 : w40.cell? ⟨gb450, 1, none⟩ = some (.slice A0_1 l0_1.length c0_1) := (blk_cell BK450.out 1).trans rfl; have hcz41_2 : w40.cell? ⟨gb450, 2, none⟩ = some (.slice A0_2 l0_2.length c0_2) := (blk_cell BK450.out 2).trans rfl; have hcz41_3 : w40.cell? ⟨gb450, 3, none⟩ = some (.float .f64 a0_3) := (blk_cell BK450.out 3).trans rfl; have hcz41_4 : w40.cell? ⟨gb450, 4, none⟩ = some (.int .i64 a0_4) := (blk_cell BK450.out 4).trans rfl; have hcz41_5 : w40.cell? ⟨gb450, 5, none⟩ = some (.int .i64 a0_5) := (blk_cell BK450.out 5).trans rfl; have hcz41_6 : w40.cell? ⟨gb450, 6, none⟩ = some (.int .i64 a0_6) := (blk_cell BK450.out 6).trans rfl; have hcz41_7 : w40.cell? ⟨gb450, 7, none⟩ = some (.int .i64 a0_7) := (blk_cell BK450.out 7).trans rfl; have hcz41_8 : w40.cell? ⟨gb450, 8, none⟩ = some (.int .i64 a0_8) := (blk_cell BK450.out 8).trans rfl; have hcz41_9 : w40.cell? ⟨gb450, 9, none⟩ = some (.int .i64 a0_9) := (blk_cell BK450.out 9).trans rfl; have hcz41_10 : w40.cell? ⟨gb450, 10, none⟩ = some (.int .i64 a0_10) := (blk_cell BK450.out 10).trans rfl; have hcz41_11 : w40.cell? ⟨gb450, 11, none⟩ = some (.int .i64 a0_11) := (blk_cell BK450.out 11).trans rfl; have hcz41_12 : w40.cell? ⟨gb450, 12, none⟩ = some (.int .i64 a0_12) := (blk_cell BK450.out 12).trans rfl; have hcz41_13 : w40.cell? ⟨gb450, 13, none⟩ = some (.int .i64 a0_13) := (blk_cell BK450.out 13).trans rfl; have hfz41_0 := blk_frozen BK450.out 0; have hfz41_1 := blk_frozen BK450.out 1; have hfz41_2 := blk_frozen BK450.out 2; have hfz41_3 := blk_frozen BK450.out 3; have hfz41_4 := blk_frozen BK450.out 4; have hfz41_5 := blk_frozen BK450.out 5; have hfz41_6 := blk_frozen BK450.out 6; have hfz41_7 := blk_frozen BK450.out 7; have hfz41_8 := blk_frozen BK450.out 8; have hfz41_9 := blk_frozen BK450.out 9; have hfz41_10 := blk_frozen BK450.out 10; have hfz41_11 := blk_frozen BK450.out 11; have hfz41_12 := blk_frozen BK450.out 12; have hfz41_13 := blk_frozen BK450.out 13) | ((with_reducible refine gate_callee (f := 78) rfl ?_); refine goesL_ (some 10) rfl rfl Try.func78 (by kernel_rfl) rfl #[.slice A0_0 l0_0.length c0_0] rfl (by (try simp only [List.map_toArray, List.map_cons, List.map_nil]); first | done | rfl | (simp only [List.length_drop, List.length_take]; rfl)) ?_; (with_reducible refine (fareboxref07_stations.calls k _ _ l0_0 t451 true _ ?side1 ?side2 A2.out).mono ?_); (case side1 => repeat (first | exact (Kd.C_below HR0_0.out HB.out) | (with_reducible refine Kd.C_alloc ?_ _) | (with_reducible refine Kd.C_drewN ?_ _) | (with_reducible refine Kd.C_drew ?_))); (case side2 => exact HC0_0.out); rintro e w42 ⟨rfl, hb⟩; refine ⟨_, rfl, ?_⟩; have n0_ := Aside0.mk (blk_below (g := gb450) (o := .cells #[.slice A0_0 l0_0.length c0_0, .slice A0_1 l0_1.length c0_1, .slice A0_2 l0_2.length c0_2, .float .f64 a0_3, .int .i64 a0_4, .int .i64 a0_5, .int .i64 a0_6, .int .i64 a0_7, .int .i64 a0_8, .int .i64 a0_9, .int .i64 a0_10, .int .i64 a0_11, .int .i64 a0_12, .int .i64 a0_13] 27 (0, 0)) (by (with_reducible repeat (first | refine blk_drewN ?_ _ | refine blk_drew ?_ | refine blk_alloc ?_ _)); exact BK450.out) hb); have n1_ := Aside0.mk (below_step (by repeat (first | (with_reducible first | exact HB.out | apply below_alloc | apply pw_below_drewN | apply below_drew1 | refine below_set ?_ GE450.out) | exact HB.out)) hb); clear BK450; clear HB; have BK450 := n0_; have HB := n1_; clear n0_ n1_; (try clear hb); (try clear hb2); (try clear hk); (try clear hi); have hcz43_0 : w42.cell? ⟨gb450, 0, none⟩ = some (.slice A0_0 l0_0.length c0_0) := (blk_cell BK450.out 0).trans rfl; have hcz43_1 : w42.cell? ⟨gb450, 1, none⟩ = some (.slice A0_1 l0_1.length c0_1) := (blk_cell BK450.out 1).trans rfl; have hcz43_2 : w42.cell? ⟨gb450, 2, none⟩ = some (.slice A0_2 l0_2.length c0_2) := (blk_cell BK450.out 2).trans rfl; have hcz43_3 : w42.cell? ⟨gb450, 3, none⟩ = some (.float .f64 a0_3) := (blk_cell BK450.out 3).trans rfl; have hcz43_4 : w42.cell? ⟨gb450, 4, none⟩ = some (.int .i64 a0_4) := (blk_cell BK450.out 4).trans rfl; have hcz43_5 : w42.cell? ⟨gb450, 5, none⟩ = some (.int .i64 a0_5) := (blk_cell BK450.out 5).trans rfl; have hcz43_6 : w42.cell? ⟨gb450, 6, none⟩ = some (.int .i64 a0_6) := (blk_cell BK450.out 6).trans rfl; have hcz43_7 : w42.cell? ⟨gb450, 7, none⟩ = some (.int .i64 a0_7) := (blk_cell BK450.out 7).trans rfl; have hcz43_8 : w42.cell? ⟨gb450, 8, none⟩ = some (.int .i64 a0_8) := (blk_cell BK450.out 8).trans rfl; have hcz43_9 : w42.cell? ⟨gb450, 9, none⟩ = some (.int .i64 a0_9) := (blk_cell BK450.out 9).trans rfl; have hcz43_10 : w42.cell? ⟨gb450, 10, none⟩ = some (.int .i64 a0_10) := (blk_cell BK450.out 10).trans rfl; have hcz43_11 : w42.cell? ⟨gb450, 11, none⟩ = some (.int .i64 a0_11) := (blk_cell BK450.out 11).trans rfl; have hcz43_12 : w42.cell? ⟨gb450, 12, none⟩ = some (.int .i64 a0_12) := (blk_cell BK450.out 12).trans rfl; have hcz43_13 : w42.cell? ⟨gb450, 13, none⟩ = some (.int .i64 a0_13) := (blk_cell BK450.out 13).trans rfl; have hfz43_0 := blk_frozen BK450.out 0; have hfz43_1 := blk_frozen BK450.out 1; have hfz43_2 := blk_frozen BK450.out 2; have hfz43_3 := blk_frozen BK450.out 3; have hfz43_4 := blk_frozen BK450.out 4; have hfz43_5 := blk_frozen BK450.out 5; have hfz43_6 := blk_frozen BK450.out 6; have hfz43_7 := blk_frozen BK450.out 7; have hfz43_8 := blk_frozen BK450.out 8; have hfz43_9 := blk_frozen BK450.out 9; have hfz43_10 := blk_frozen BK450.out 10; have hfz43_11 := blk_frozen BK450.out 11; have hfz43_12 := blk_frozen BK450.out 12; have hfz43_13 := blk_frozen BK450.out 13) | ((with_reducible refine gate_callee (f := 79) rfl ?_); refine goesL_ (some 18) rfl rfl Try.func79 (by kernel_rfl) rfl #[.slice A0_1 l0_1.length c0_1, .int .i64 t451] rfl (by (try simp only [List.map_toArray, List.map_cons, List.map_nil]); first | done | rfl | (simp only [List.length_drop, List.length_take]; rfl)) ?_; (with_reducible refine (fareboxref07_spans.calls k _ _ l0_1 t451 true _ ?side1 ?side2 A4.out).mono ?_); (case side1 => repeat (first | exact (Kd.C_below HR0_1.out HB.out) | (with_reducible refine Kd.C_alloc ?_ _) | (with_reducible refine Kd.C_drewN ?_ _) | (with_reducible refine Kd.C_drew ?_))); (case side2 => exact HC0_1.out); rintro e w' ⟨rfl, ⟨nd, rfl⟩⟩; refine ⟨_, rfl, ?_⟩) | ((with_reducible refine gate_callee (f := 80) rfl ?_); refine goesL_ (some 22) rfl rfl Try.func80 (by kernel_rfl) rfl #[.agg #[.slice A0_0 l0_0.length c0_0, .slice A0_1 l0_1.length c0_1, .slice A0_2 l0_2.length c0_2, .float .f64 a0_3, .int .i64 a0_4, .int .i64 a0_5, .int .i64 a0_6, .int .i64 a0_7, .int .i64 a0_8, .int .i64 a0_9, .int .i64 a0_10, .int .i64 a0_11, .int .i64 a0_12, .int .i64 a0_13]] rfl (by (try simp only [List.map_toArray, List.map_cons, List.map_nil]); first | done | rfl | (simp only [List.length_drop, List.length_take]; rfl)) ?_; (with_reducible refine (fareboxref07_prices.calls k _ _ l0_0 _ _ l0_1 _ _ l0_2 a0_3 a0_4 a0_5 a0_6 a0_7 a0_8 a0_9 a0_10 a0_11 a0_12 a0_13 false _ ?side1 ?side2 ?side3 ?side4 ?side5 ?side6 A6.out).mono ?_); (case side1 => repeat (first | exact (Kd.C_below HR0_0.out (by repeat (first | (with_reducible first | exact HB.out | apply below_alloc | apply pw_below_drewN | apply below_drew1 | refine below_set ?_ GE450.out) | exact HB.out))) | (with_reducible refine Kd.C_alloc ?_ _) | (with_reducible refine Kd.C_drewN ?_ _) | (with_reducible refine Kd.C_drew ?_))); (case side2 => exact HC0_0.out); (case side3 => repeat (first | exact (Kd.C_below HR0_1.out (by repeat (first | (with_reducible first | exact HB.out | apply below_alloc | apply pw_below_drewN | apply below_drew1 | refine below_set ?_ GE450.out) | exact HB.out))) | (with_reducible refine Kd.C_alloc ?_ _) | (with_reducible refine Kd.C_drewN ?_ _) | (with_reducible refine Kd.C_drew ?_))); (case side4 => exact HC0_1.out); (case side5 => repeat (first | exact (Kd.C_below HR0_2.out (by repeat (first | (with_reducible first | exact HB.out | apply below_alloc | apply pw_below_drewN | apply below_drew1 | refine below_set ?_ GE450.out) | exact HB.out))) | (with_reducible refine Kd.C_alloc ?_ _) | (with_reducible refine Kd.C_drewN ?_ _) | (with_reducible refine Kd.C_drew ?_))); (case side6 => exact HC0_2.out); rintro e w44 ⟨rfl, hb⟩; refine ⟨_, rfl, ?_⟩; have n0_ := Aside0.mk (blk_below (g := gb450) (o := .cells #[.slice A0_0 l0_0.length c0_0, .slice A0_1 l0_1.length c0_1, .slice A0_2 l0_2.length c0_2, .float .f64 a0_3, .int .i64 a0_4, .int .i64 a0_5, .int .i64 a0_6, .int .i64 a0_7, .int .i64 a0_8, .int .i64 a0_9, .int .i64 a0_10, .int .i64 a0_11, .int .i64 a0_12, .int .i64 a0_13] 27 (0, 0)) (by (with_reducible repeat (first | refine blk_drewN ?_ _ | refine blk_drew ?_ | refine blk_alloc ?_ _)); exact BK450.out) hb); have n1_ := Aside0.mk (below_step (by repeat (first | (with_reducible first | exact HB.out | apply below_alloc | apply pw_below_drewN | apply below_drew1 | refine below_set ?_ GE450.out) | exact HB.out)) hb); clear BK450; clear HB; have BK450 := n0_; have HB := n1_; clear n0_ n1_; (try clear hb); (try clear hb2); (try clear hk); (try clear hi)))
        go_ret
        exact ⟨by first | rfl | (simp [errW_none, errW_some] <;> rfl) | (simp [*, errW_none, errW_some] <;> rfl), by repeat (first | (with_reducible first | exact HB.out | apply below_alloc | apply pw_below_drewN | apply below_drew1 | refine below_set ?_ GE450.out) | exact HB.out)⟩
    · replace c5 := Bool.eq_false_iff.mpr c5
      subst c5
      have H1 : (some 70) = some r := by rw [if_neg (show ¬ (false = true) by decide)] at H; exact H
      clear H
      have H := H1
      clear H1
      obtain rfl := Option.some.inj H
      go_enter Try.func30, Try.ntmps30
      go_wp2_with (first | ((with_reducible refine gate_dst (N := 1) rfl ?_); refine box_event ?hg (N := 1) ?hd (cs := #[.slice A0_0 l0_0.length c0_0, .slice A0_1 l0_1.length c0_1, .slice A0_2 l0_2.length c0_2, .float .f64 a0_3, .int .i64 a0_4, .int .i64 a0_5, .int .i64 a0_6, .int .i64 a0_7, .int .i64 a0_8, .int .i64 a0_9, .int .i64 a0_10, .int .i64 a0_11, .int .i64 a0_12, .int .i64 a0_13]) (t := 27) ?hr ?_; (case hd => rfl); (case hg => rfl); (case hr => first | (go_simp; done) | (go_simp; rfl)); intro gb450 hg w45 hbox hb; have n0_ := Aside0.mk (below_step (by repeat (first | (with_reducible first | exact HB.out | apply below_alloc | apply pw_below_drewN | apply below_drew1) | exact HB.out)) hb); have n1_ := Aside0.mk (hbox); have n2_ := Aside0.mk ((by rw [hg]; exact (below_size (by repeat (first | (with_reducible first | exact HB.out | apply below_alloc | apply pw_below_drewN | apply below_drew1) | exact HB.out))) : w.heap.size ≤ gb450)); have n3_ := Aside0.mk ((by rw [hg]; exact (below_size (by repeat (first | (with_reducible first | exact HB.out | apply below_alloc | apply pw_below_drewN | apply below_drew1) | exact HB.out))) : w.heap.size ≤ gb450)); clear HB; have HB := n0_; have BK450 := n1_; have GW450 := n2_; have GE450 := n3_; clear n0_ n1_ n2_ n3_; clear hb hbox hg; have hcz46_0 : w45.cell? ⟨gb450, 0, none⟩ = some (.slice A0_0 l0_0.length c0_0) := (blk_cell BK450.out 0).trans rfl; have hcz46_1 : w45.cell? ⟨gb450, 1, none⟩ = some (.slice A0_1 l0_1.length c0_1) := (blk_cell BK450.out 1).trans rfl; have hcz46_2 : w45.cell? ⟨gb450, 2, none⟩ = some (.slice A0_2 l0_2.length c0_2) := (blk_cell BK450.out 2).trans rfl; have hcz46_3 : w45.cell? ⟨gb450, 3, none⟩ = some (.float .f64 a0_3) := (blk_cell BK450.out 3).trans rfl; have hcz46_4 : w45.cell? ⟨gb450, 4, none⟩ = some (.int .i64 a0_4) := (blk_cell BK450.out 4).trans rfl; have hcz46_5 : w45.cell? ⟨gb450, 5, none⟩ = some (.int .i64 a0_5) := (blk_cell BK450.out 5).trans rfl; have hcz46_6 : w45.cell? ⟨gb450, 6, none⟩ = some (.int .i64 a0_6) := (blk_cell BK450.out 6).trans rfl; have hcz46_7 : w45.cell? ⟨gb450, 7, none⟩ = some (.int .i64 a0_7) := (blk_cell BK450.out 7).trans rfl; have hcz46_8 : w45.cell? ⟨gb450, 8, none⟩ = some (.int .i64 a0_8) := (blk_cell BK450.out 8).trans rfl; have hcz46_9 : w45.cell? ⟨gb450, 9, none⟩ = some (.int .i64 a0_9) := (blk_cell BK450.out 9).trans rfl; have hcz46_10 : w45.cell? ⟨gb450, 10, none⟩ = some (.int .i64 a0_10) := (blk_cell BK450.out 10).trans rfl; have hcz46_11 : w45.cell? ⟨gb450, 11, none⟩ = some (.int .i64 a0_11) := (blk_cell BK450.out 11).trans rfl; have hcz46_12 : w45.cell? ⟨gb450, 12, none⟩ = some (.int .i64 a0_12) := (blk_cell BK450.out 12).trans rfl; have hcz46_13 : w45.cell? ⟨gb450, 13, none⟩ = some (.int .i64 a0_13) := (blk_cell BK450.out 13).trans rfl; have hfz46_0 := blk_frozen BK450.out 0; have hfz46_1 := blk_frozen BK450.out 1; have hfz46_2 := blk_frozen BK450.out 2; have hfz46_3 := blk_frozen BK450.out 3; have hfz46_4 := blk_frozen BK450.out 4; have hfz46_5 := blk_frozen BK450.out 5; have hfz46_6 := blk_frozen BK450.out 6; have hfz46_7 := blk_frozen BK450.out 7; have hfz46_8 := blk_frozen BK450.out 8; have hfz46_9 := blk_frozen BK450.out 9; have hfz46_10 := blk_frozen BK450.out 10; have hfz46_11 := blk_frozen BK450.out 11; have hfz46_12 := blk_frozen BK450.out 12; have hfz46_13 := blk_frozen BK450.out 13) | ((with_reducible refine gate_callee (f := 78) rfl ?_); refine goesL_ (some 10) rfl rfl Try.func78 (by kernel_rfl) rfl #[.slice A0_0 l0_0.length c0_0] rfl (by (try simp only [List.map_toArray, List.map_cons, List.map_nil]); first | done | rfl | (simp only [List.length_drop, List.length_take]; rfl)) ?_; (with_reducible refine (fareboxref07_stations.calls k _ _ l0_0 t451 true _ ?side1 ?side2 A2.out).mono ?_); (case side1 => repeat (first | exact (Kd.C_below HR0_0.out HB.out) | (with_reducible refine Kd.C_alloc ?_ _) | (with_reducible refine Kd.C_drewN ?_ _) | (with_reducible refine Kd.C_drew ?_))); (case side2 => exact HC0_0.out); rintro e w47 ⟨rfl, hb⟩; refine ⟨_, rfl, ?_⟩; have n0_ := Aside0.mk (blk_below (g := gb450) (o := .cells #[.slice A0_0 l0_0.length c0_0, .slice A0_1 l0_1.length c0_1, .slice A0_2 l0_2.length c0_2, .float .f64 a0_3, .int .i64 a0_4, .int .i64 a0_5, .int .i64 a0_6, .int .i64 a0_7, .int .i64 a0_8, .int .i64 a0_9, .int .i64 a0_10, .int .i64 a0_11, .int .i64 a0_12, .int .i64 a0_13] 27 (0, 0)) (by (with_reducible repeat (first | refine blk_drewN ?_ _ | refine blk_drew ?_ | refine blk_alloc ?_ _)); exact BK450.out) hb); have n1_ := Aside0.mk (below_step (by repeat (first | (with_reducible first | exact HB.out | apply below_alloc | apply pw_below_drewN | apply below_drew1 | refine below_set ?_ GE450.out) | exact HB.out)) hb); clear BK450; clear HB; have BK450 := n0_; have HB := n1_; clear n0_ n1_; (try clear hb); (try clear hb2); (try clear hk); (try clear hi); have hcz48_0 : w47.cell? ⟨gb450, 0, none⟩ = some (.slice A0_0 l0_0.length c0_0) := (blk_cell BK450.out 0).trans rfl; have hcz48_1 : w47.cell? ⟨gb450, 1, none⟩ = some (.slice A0_1 l0_1.length c0_1) := (blk_cell BK450.out 1).trans rfl; have hcz48_2 : w47.cell? ⟨gb450, 2, none⟩ = some (.slice A0_2 l0_2.length c0_2) := (blk_cell BK450.out 2).trans rfl; have hcz48_3 : w47.cell? ⟨gb450, 3, none⟩ = some (.float .f64 a0_3) := (blk_cell BK450.out 3).trans rfl; have hcz48_4 : w47.cell? ⟨gb450, 4, none⟩ = some (.int .i64 a0_4) := (blk_cell BK450.out 4).trans rfl; have hcz48_5 : w47.cell? ⟨gb450, 5, none⟩ = some (.int .i64 a0_5) := (blk_cell BK450.out 5).trans rfl; have hcz48_6 : w47.cell? ⟨gb450, 6, none⟩ = some (.int .i64 a0_6) := (blk_cell BK450.out 6).trans rfl; have hcz48_7 : w47.cell? ⟨gb450, 7, none⟩ = some (.int .i64 a0_7) := (blk_cell BK450.out 7).trans rfl; have hcz48_8 : w47.cell? ⟨gb450, 8, none⟩ = some (.int .i64 a0_8) := (blk_cell BK450.out 8).trans rfl; have hcz48_9 : w47.cell? ⟨gb450, 9, none⟩ = some (.int .i64 a0_9) := (blk_cell BK450.out 9).trans rfl; have hcz48_10 : w47.cell? ⟨gb450, 10, none⟩ = some (.int .i64 a0_10) := (blk_cell BK450.out 10).trans rfl; have hcz48_11 : w47.cell? ⟨gb450, 11, none⟩ = some (.int .i64 a0_11) := (blk_cell BK450.out 11).trans rfl; have hcz48_12 : w47.cell? ⟨gb450, 12, none⟩ = some (.int .i64 a0_12) := (blk_cell BK450.out 12).trans rfl; have hcz48_13 : w47.cell? ⟨gb450, 13, none⟩ = some (.int .i64 a0_13) := (blk_cell BK450.out 13).trans rfl; have hfz48_0 := blk_frozen BK450.out 0; have hfz48_1 := blk_frozen BK450.out 1; have hfz48_2 := blk_frozen BK450.out 2; have hfz48_3 := blk_frozen BK450.out 3; have hfz48_4 := blk_frozen BK450.out 4; have hfz48_5 := blk_frozen BK450.out 5; have hfz48_6 := blk_frozen BK450.out 6; have hfz48_7 := blk_frozen BK450.out 7; have hfz48_8 := blk_frozen BK450.out 8; have hfz48_9 := blk_frozen BK450.out 9; have hfz48_10 := blk_frozen BK450.out 10; have hfz48_11 := blk_frozen BK450.out 11; have hfz48_12 := blk_frozen BK450.out 12; have hfz48_13 := blk_frozen BK450.out 13) | ((with_reducible refine gate_callee (f := 79) rfl ?_); refine goesL_ (some 18) rfl rfl Try.func79 (by kernel_rfl) rfl #[.slice A0_1 l0_1.length c0_1, .int .i64 t451] rfl (by (try simp only [List.map_toArray, List.map_cons, List.map_nil]); first | done | rfl | (simp only [List.length_drop, List.length_take]; rfl)) ?_; (with_reducible refine (fareboxref07_spans.calls k _ _ l0_1 t451 false _ ?side1 ?side2 A4.out).mono ?_); (case side1 => repeat (first | exact (Kd.C_below HR0_1.out HB.out) | (with_reducible refine Kd.C_alloc ?_ _) | (with_reducible refine Kd.C_drewN ?_ _) | (with_reducible refine Kd.C_drew ?_))); (case side2 => exact HC0_1.out); rintro e w' ⟨rfl, ⟨nd, rfl⟩⟩; refine ⟨_, rfl, ?_⟩))
      go_ret
      exact ⟨by first | rfl | (simp [errW_none, errW_some] <;> rfl) | (simp [*, errW_none, errW_some] <;> rfl), by repeat (first | (with_reducible first | exact HB.out | apply below_alloc | apply pw_below_drewN | apply below_drew1 | refine below_set ?_ GE450.out) | exact HB.out)⟩
  · replace c3 := Bool.eq_false_iff.mpr c3
    subst c3
    have H1 : (some 70) = some r := by rw [if_neg (show ¬ (false = true) by decide)] at H; exact H
    clear H
    have H := H1
    clear H1
    obtain rfl := Option.some.inj H
    go_enter Try.func30, Try.ntmps30
    go_wp2_with (first | ((with_reducible refine gate_dst (N := 1) rfl ?_); refine box_event ?hg (N := 1) ?hd (cs := #[.slice A0_0 l0_0.length c0_0, .slice A0_1 l0_1.length c0_1, .slice A0_2 l0_2.length c0_2, .float .f64 a0_3, .int .i64 a0_4, .int .i64 a0_5, .int .i64 a0_6, .int .i64 a0_7, .int .i64 a0_8, .int .i64 a0_9, .int .i64 a0_10, .int .i64 a0_11, .int .i64 a0_12, .int .i64 a0_13]) (t := 27) ?hr ?_; (case hd => rfl); (case hg => rfl); (case hr => first | (go_simp; done) | (go_simp; rfl)); intro gb450 hg w49 hbox hb; have n0_ := Aside0.mk (below_step (by repeat (first | (with_reducible first | exact HB.out | apply below_alloc | apply pw_below_drewN | apply below_drew1) | exact HB.out)) hb); have n1_ := Aside0.mk (hbox); have n2_ := Aside0.mk ((by rw [hg]; exact (below_size (by repeat (first | (with_reducible first | exact HB.out | apply below_alloc | apply pw_below_drewN | apply below_drew1) | exact HB.out))) : w.heap.size ≤ gb450)); have n3_ := Aside0.mk ((by rw [hg]; exact (below_size (by repeat (first | (with_reducible first | exact HB.out | apply below_alloc | apply pw_below_drewN | apply below_drew1) | exact HB.out))) : w.heap.size ≤ gb450)); clear HB; have HB := n0_; have BK450 := n1_; have GW450 := n2_; have GE450 := n3_; clear n0_ n1_ n2_ n3_; clear hb hbox hg; have hcz50_0 : w49.cell? ⟨gb450, 0, none⟩ = some (.slice A0_0 l0_0.length c0_0) := (blk_cell BK450.out 0).trans rfl; have hcz50_1 : w49.cell? ⟨gb450, 1, none⟩ = some (.slice A0_1 l0_1.length c0_1) := (blk_cell BK450.out 1).trans rfl; have hcz50_2 : w49.cell? ⟨gb450, 2, none⟩ = some (.slice A0_2 l0_2.length c0_2) := (blk_cell BK450.out 2).trans rfl; have hcz50_3 : w49.cell? ⟨gb450, 3, none⟩ = some (.float .f64 a0_3) := (blk_cell BK450.out 3).trans rfl; have hcz50_4 : w49.cell? ⟨gb450, 4, none⟩ = some (.int .i64 a0_4) := (blk_cell BK450.out 4).trans rfl; have hcz50_5 : w49.cell? ⟨gb450, 5, none⟩ = some (.int .i64 a0_5) := (blk_cell BK450.out 5).trans rfl; have hcz50_6 : w49.cell? ⟨gb450, 6, none⟩ = some (.int .i64 a0_6) := (blk_cell BK450.out 6).trans rfl; have hcz50_7 : w49.cell? ⟨gb450, 7, none⟩ = some (.int .i64 a0_7) := (blk_cell BK450.out 7).trans rfl; have hcz50_8 : w49.cell? ⟨gb450, 8, none⟩ = some (.int .i64 a0_8) := (blk_cell BK450.out 8).trans rfl; have hcz50_9 : w49.cell? ⟨gb450, 9, none⟩ = some (.int .i64 a0_9) := (blk_cell BK450.out 9).trans rfl; have hcz50_10 : w49.cell? ⟨gb450, 10, none⟩ = some (.int .i64 a0_10) := (blk_cell BK450.out 10).trans rfl; have hcz50_11 : w49.cell? ⟨gb450, 11, none⟩ = some (.int .i64 a0_11) := (blk_cell BK450.out 11).trans rfl; have hcz50_12 : w49.cell? ⟨gb450, 12, none⟩ = some (.int .i64 a0_12) := (blk_cell BK450.out 12).trans rfl; have hcz50_13 : w49.cell? ⟨gb450, 13, none⟩ = some (.int .i64 a0_13) := (blk_cell BK450.out 13).trans rfl; have hfz50_0 := blk_frozen BK450.out 0; have hfz50_1 := blk_frozen BK450.out 1; have hfz50_2 := blk_frozen BK450.out 2; have hfz50_3 := blk_frozen BK450.out 3; have hfz50_4 := blk_frozen BK450.out 4; have hfz50_5 := blk_frozen BK450.out 5; have hfz50_6 := blk_frozen BK450.out 6; have hfz50_7 := blk_frozen BK450.out 7; have hfz50_8 := blk_frozen BK450.out 8; have hfz50_9 := blk_frozen BK450.out 9; have hfz50_10 := blk_frozen BK450.out 10; have hfz50_11 := blk_frozen BK450.out 11; have hfz50_12 := blk_frozen BK450.out 12; have hfz50_13 := blk_frozen BK450.out 13) | ((with_reducible refine gate_callee (f := 78) rfl ?_); refine goesL_ (some 10) rfl rfl Try.func78 (by kernel_rfl) rfl #[.slice A0_0 l0_0.length c0_0] rfl (by (try simp only [List.map_toArray, List.map_cons, List.map_nil]); first | done | rfl | (simp only [List.length_drop, List.length_take]; rfl)) ?_; (with_reducible refine (fareboxref07_stations.calls k _ _ l0_0 t451 false _ ?side1 ?side2 A2.out).mono ?_); (case side1 => repeat (first | exact (Kd.C_below HR0_0.out HB.out) | (with_reducible refine Kd.C_alloc ?_ _) | (with_reducible refine Kd.C_drewN ?_ _) | (with_reducible refine Kd.C_drew ?_))); (case side2 => exact HC0_0.out); rintro e w51 ⟨rfl, hb⟩; refine ⟨_, rfl, ?_⟩; have n0_ := Aside0.mk (blk_below (g := gb450) (o := .cells #[.slice A0_0 l0_0.length c0_0, .slice A0_1 l0_1.length c0_1, .slice A0_2 l0_2.length c0_2, .float .f64 a0_3, .int .i64 a0_4, .int .i64 a0_5, .int .i64 a0_6, .int .i64 a0_7, .int .i64 a0_8, .int .i64 a0_9, .int .i64 a0_10, .int .i64 a0_11, .int .i64 a0_12, .int .i64 a0_13] 27 (0, 0)) (by (with_reducible repeat (first | refine blk_drewN ?_ _ | refine blk_drew ?_ | refine blk_alloc ?_ _)); exact BK450.out) hb); have n1_ := Aside0.mk (below_step (by repeat (first | (with_reducible first | exact HB.out | apply below_alloc | apply pw_below_drewN | apply below_drew1 | refine below_set ?_ GE450.out) | exact HB.out)) hb); clear BK450; clear HB; have BK450 := n0_; have HB := n1_; clear n0_ n1_; (try clear hb); (try clear hb2); (try clear hk); (try clear hi)))
    go_ret
    exact ⟨by first | rfl | (simp [errW_none, errW_some] <;> rfl) | (simp [*, errW_none, errW_some] <;> rfl), by repeat (first | (with_reducible first | exact HB.out | apply below_alloc | apply pw_below_drewN | apply below_drew1 | refine below_set ?_ GE450.out) | exact HB.out)⟩
end Go.Proofs.YtmeogadkbbeglaaQ
end
