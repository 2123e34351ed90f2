/- What the claim's walk leans on: Qfref05Rate, Qfref07minutes. -/
import Derived.Test.YtmeogadkbbeglaaK3
import Derived.Test.YtmeogadkbbeglaaK13
section
namespace Go.Proofs.YtmeogadkbbeglaaQ
open Go.RowKit Go.Proofs.YtmeogadkbbeglaaW.PrintWords Go.Proofs.YtmeogadkbbeglaaW.PrintLast Go.Proofs.YtmeogadkbbeglaaW.PrintMore
attribute [local go_sem] max2_int min2_int max_two min_two max_three min_three max_four min_four   -- for this text's walks alone
set_option linter.unusedVariables false
set_option linter.unusedSimpArgs false
def fareboxref05_Rate.f (a0 : Nat) : Option (Bool) := (fareboxref05_parts.f a0).bind fun bt413 => (if bt413.2.2.2 = true then (if bt413.1 = true then (some false) else (if bt413.2.2.1 < (-52) then (some true) else (if bt413.2.2.1 = (-52) then (if bt413.2.1 = 4503599627370496 then (some true) else (some (bt413.2.1 == 0))) else (some (bt413.2.1 == 0))))) else (some false))
set_option maxHeartbeats 8000000 in
set_option maxRecDepth 100000 in
theorem fareboxref05_Rate.calls (a0 : Nat) (r : Bool) (w : World) (h : fareboxref05_Rate.f a0 = some r) :
    Calls Try.prog 83 #[.float .f64 a0] w fun e w' => e = .returned (.bool r) ∧ Drawn0 w w' := by
  have H : ((fareboxref05_parts.f a0).bind fun bt413 => (if bt413.2.2.2 = true then (if bt413.1 = true then (some false) else (if bt413.2.2.1 < (-52) then (some true) else (if bt413.2.2.1 = (-52) then (if bt413.2.1 = 4503599627370496 then (some true) else (some (bt413.2.1 == 0))) else (some (bt413.2.1 == 0))))) else (some false))) = some r := h
  clear h
  replace H := Option.bind_eq_some_iff.mp H
  obtain ⟨⟨t413, t414, t415, t416⟩, A20, H⟩ := H
  replace H : (if t416 = true then (if t413 = true then (some false) else (if t415 < (-52) then (some true) else (if t415 = (-52) then (if t414 = 4503599627370496 then (some true) else (some (t414 == 0))) else (some (t414 == 0))))) else (some false)) = some r := H
  have A2 := Aside0.mk A20
  clear A20
  by_cases c3 : t416 = true
  · subst c3
    have H1 : (if t413 = true then (some false) else (if t415 < (-52) then (some true) else (if t415 = (-52) then (if t414 = 4503599627370496 then (some true) else (some (t414 == 0))) else (some (t414 == 0))))) = some r := by rw [if_pos rfl] at H; exact H
    clear H
    have H := H1
    clear H1
    by_cases c4 : t413 = true
    · subst c4
      have H1 : (some false) = some r := by rw [if_pos rfl] at H; exact H
      clear H
      have H := H1
      clear H1
      obtain rfl := Option.some.inj H
      go_enter Try.func83, Try.ntmps83
      go_wp2_with (first | ((with_reducible refine gate_callee (f := 132) rfl ?_); refine goesL_ (some 9) rfl rfl Try.func132 (by kernel_rfl) rfl #[.float .f64 a0] rfl (by (try simp only [List.map_toArray, List.map_cons, List.map_nil]); first | done | rfl | (simp only [List.length_drop, List.length_take]; rfl)) ?_; (with_reducible refine (fareboxref05_parts.calls a0 true t414 t415 true _ A2.out).mono ?_); rintro e w' ⟨rfl, ⟨nd, rfl⟩⟩; refine ⟨_, rfl, ?_⟩))
      go_ret
      exact ⟨by first | rfl | (simp; done) | (simp [*]; done), by repeat (first | exact Drawn0.refl _ | apply Drawn0.step)⟩
    · replace c4 := Bool.eq_false_iff.mpr c4
      subst c4
      have H1 : (if t415 < (-52) then (some true) else (if t415 = (-52) then (if t414 = 4503599627370496 then (some true) else (some (t414 == 0))) else (some (t414 == 0)))) = some r := by rw [if_neg (show ¬ (false = true) by decide)] at H; exact H
      clear H
      have H := H1
      clear H1
      by_cases c5 : t415 < (-52)
      · rw [if_pos c5] at H
        have c5b0 : decide (t415 < (-52)) = true := decide_eq_true c5
        clear c5
        obtain rfl := Option.some.inj H
        go_enter Try.func83, Try.ntmps83
        go_wp2_with (first | ((with_reducible refine gate_callee (f := 132) rfl ?_); refine goesL_ (some 9) rfl rfl Try.func132 (by kernel_rfl) rfl #[.float .f64 a0] rfl (by (try simp only [List.map_toArray, List.map_cons, List.map_nil]); first | done | rfl | (simp only [List.length_drop, List.length_take]; rfl)) ?_; (with_reducible refine (fareboxref05_parts.calls a0 false t414 t415 true _ A2.out).mono ?_); rintro e w' ⟨rfl, ⟨nd, rfl⟩⟩; refine ⟨_, rfl, ?_⟩))
        go_ret
        exact ⟨by first | rfl | (simp; done) | (simp [*]; done), by repeat (first | exact Drawn0.refl _ | apply Drawn0.step)⟩
      · rw [if_neg c5] at H
        have c5b0 : decide (t415 < (-52)) = false := decide_eq_false c5
        clear c5
        by_cases c6 : t415 = (-52)
        · rw [if_pos c6] at H
          have c6b0 : (t415 == (-52)) = true := beq_iff_eq.mpr c6
          have c6b1 : (t415 != (-52)) = false := bne_eq_false_iff_eq.mpr c6
          clear c6
          by_cases c7 : t414 = 4503599627370496
          · rw [if_pos c7] at H
            have c7b0 : (t414 == 4503599627370496) = true := beq_iff_eq.mpr c7
            have c7b1 : (t414 != 4503599627370496) = false := bne_eq_false_iff_eq.mpr c7
            clear c7
            obtain rfl := Option.some.inj H
            go_enter Try.func83, Try.ntmps83
            go_wp2_with (first | ((with_reducible refine gate_callee (f := 132) rfl ?_); refine goesL_ (some 9) rfl rfl Try.func132 (by kernel_rfl) rfl #[.float .f64 a0] rfl (by (try simp only [List.map_toArray, List.map_cons, List.map_nil]); first | done | rfl | (simp only [List.length_drop, List.length_take]; rfl)) ?_; (with_reducible refine (fareboxref05_parts.calls a0 false t414 t415 true _ A2.out).mono ?_); rintro e w' ⟨rfl, ⟨nd, rfl⟩⟩; refine ⟨_, rfl, ?_⟩))
            go_ret
            exact ⟨by first | rfl | (simp; done) | (simp [*]; done), by repeat (first | exact Drawn0.refl _ | apply Drawn0.step)⟩
          · rw [if_neg c7] at H
            have c7b0 : (t414 == 4503599627370496) = false := beq_eq_false_iff_ne.mpr c7
            have c7b1 : (t414 != 4503599627370496) = true := bne_iff_ne.mpr c7
            obtain rfl := Option.some.inj H
            go_enter Try.func83, Try.ntmps83
            go_wp2_with (first | ((with_reducible refine gate_callee (f := 132) rfl ?_); refine goesL_ (some 9) rfl rfl Try.func132 (by kernel_rfl) rfl #[.float .f64 a0] rfl (by (try simp only [List.map_toArray, List.map_cons, List.map_nil]); first | done | rfl | (simp only [List.length_drop, List.length_take]; rfl)) ?_; (with_reducible refine (fareboxref05_parts.calls a0 false t414 t415 true _ A2.out).mono ?_); rintro e w' ⟨rfl, ⟨nd, rfl⟩⟩; refine ⟨_, rfl, ?_⟩))
            go_ret
            exact ⟨by first | rfl | (simp; done) | (simp [*]; done), by repeat (first | exact Drawn0.refl _ | apply Drawn0.step)⟩
        · rw [if_neg c6] at H
          have c6b0 : (t415 == (-52)) = false := beq_eq_false_iff_ne.mpr c6
          have c6b1 : (t415 != (-52)) = true := bne_iff_ne.mpr c6
          obtain rfl := Option.some.inj H
          go_enter Try.func83, Try.ntmps83
          go_wp2_with (first | ((with_reducible refine gate_callee (f := 132) rfl ?_); refine goesL_ (some 9) rfl rfl Try.func132 (by kernel_rfl) rfl #[.float .f64 a0] rfl (by (try simp only [List.map_toArray, List.map_cons, List.map_nil]); first | done | rfl | (simp only [List.length_drop, List.length_take]; rfl)) ?_; (with_reducible refine (fareboxref05_parts.calls a0 false t414 t415 true _ A2.out).mono ?_); rintro e w' ⟨rfl, ⟨nd, rfl⟩⟩; refine ⟨_, rfl, ?_⟩))
          go_ret
          exact ⟨by first | rfl | (simp; done) | (simp [*]; done), by repeat (first | exact Drawn0.refl _ | apply Drawn0.step)⟩
  · replace c3 := Bool.eq_false_iff.mpr c3
    subst c3
    have H1 : (some false) = some r := by rw [if_neg (show ¬ (false = true) by decide)] at H; exact H
    clear H
    have H := H1
    clear H1
    obtain rfl := Option.some.inj H
    go_enter Try.func83, Try.ntmps83
    go_wp2_with (first | ((with_reducible refine gate_callee (f := 132) rfl ?_); refine goesL_ (some 9) rfl rfl Try.func132 (by kernel_rfl) rfl #[.float .f64 a0] rfl (by (try simp only [List.map_toArray, List.map_cons, List.map_nil]); first | done | rfl | (simp only [List.length_drop, List.length_take]; rfl)) ?_; (with_reducible refine (fareboxref05_parts.calls a0 t413 t414 t415 false _ A2.out).mono ?_); rintro e w' ⟨rfl, ⟨nd, rfl⟩⟩; refine ⟨_, rfl, ?_⟩))
    go_ret
    exact ⟨by first | rfl | (simp; done) | (simp [*]; done), by repeat (first | exact Drawn0.refl _ | apply Drawn0.step)⟩
end Go.Proofs.YtmeogadkbbeglaaQ
end
section
namespace Go.Proofs.YtmeogadkbbeglaaQ
open Go.RowKit Go.Proofs.YtmeogadkbbeglaaW.PrintWords Go.Proofs.YtmeogadkbbeglaaW.PrintLast Go.Proofs.YtmeogadkbbeglaaW.PrintMore
attribute [local go_sem] max2_int min2_int max_two min_two max_three min_three max_four min_four   -- for this text's walks alone
set_option linter.unusedVariables false
set_option linter.unusedSimpArgs false
def fareboxref07_minutes.f (a0 : Int) (a1 : Int) : Option (Bool) := if a0 ≥ a1 then (some (decide (a0 ≤ 1440))) else (some false)
set_option maxHeartbeats 8000000 in
set_option maxRecDepth 100000 in
theorem fareboxref07_minutes.calls (a0 : Int) (a1 : Int) (r : Bool) (w : World) (h : fareboxref07_minutes.f a0 a1 = some r) :
    Calls Try.prog 84 #[.int .i64 a0, .int .i64 a1] w fun e w' => e = .returned (.bool r) ∧ Drawn0 w w' := by
  have H : (if a0 ≥ a1 then (some (decide (a0 ≤ 1440))) else (some false)) = some r := h
  clear h
  by_cases c3 : a0 ≥ a1
  · rw [if_pos c3] at H
    have c3b0 : decide (a1 ≤ a0) = true := decide_eq_true c3
    clear c3
    obtain rfl := Option.some.inj H
    go_enter Try.func84, Try.ntmps84
    go_wp2
    go_ret
    exact ⟨by first | rfl | (simp; done) | (simp [*]; done), by repeat (first | exact Drawn0.refl _ | apply Drawn0.step)⟩
  · rw [if_neg c3] at H
    have c3b0 : decide (a1 ≤ a0) = false := decide_eq_false c3
    clear c3
    obtain rfl := Option.some.inj H
    go_enter Try.func84, Try.ntmps84
    go_wp2
    go_ret
    exact ⟨by first | rfl | (simp; done) | (simp [*]; done), by repeat (first | exact Drawn0.refl _ | apply Drawn0.step)⟩
end Go.Proofs.YtmeogadkbbeglaaQ
end
