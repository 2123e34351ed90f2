/- The clock's and its reference's printed functions: travel days, weeks. -/
import Derived.Test.YtmeogadkbbeglaaK4
import Derived.Test.YtmeogadkbbeglaaK5
import Derived.Test.YtmeogadkbbeglaaK3
namespace Go.Proofs.Ytmeogadkbbeglaa
open Go.RowKit Go.Proofs.YtmeogadkbbeglaaQ Go.Proofs.YtmeogadkbbeglaaW.PrintWords Go.Proofs.YtmeogadkbbeglaaW.PrintLast Go.Proofs.YtmeogadkbbeglaaW.PrintMore
set_option linter.unusedVariables false
set_option linter.unusedSimpArgs false
def timeB (t : Int) : Bool := decide (0 ≤ t ∧ t ≤ 2147483648)
def dayB (d : Int) : Bool := decide (-1099511627776 ≤ d ∧ d ≤ 1099511627776)
def dayF (t : Int) : Int := (t - 270) / 1440
def dayR (t : Int) : Int × Int := if timeB t then (dayF t, 0) else (0, 60)
def wkdF (d : Int) : Int := if dayB d then d % 7 else 0
def weekF (d : Int) : Int := if dayB d then d / 7 else 0
theorem tmod_cases (a : Int) (b : Int) (hb : 0 < b) : Int.tmod a b = a % b ∨ (a < 0 ∧ Int.tmod a b = a % b - b ∧ 0 < a % b) := by
  rcases Int.lt_or_le a 0 with h | h
  · by_cases hd : b ∣ a
    · left; rw [Int.tmod_eq_emod]; simp [hd]
    · right
      refine ⟨h, ?_, ?_⟩
      · rw [Int.tmod_eq_emod]; rw [if_neg (by simp [hd]; omega)]; omega
      · have := Int.emod_nonneg a (show b ≠ 0 by omega)
        have h2 : a % b ≠ 0 := fun e => hd (Int.dvd_of_emod_eq_zero e)
        omega
  · left; exact Int.tmod_eq_emod_of_nonneg h
theorem tdiv_cases (a : Int) (b : Int) (hb : 0 < b) : (Int.tmod a b = a % b ∧ Int.tdiv a b = a / b) ∨ (a < 0 ∧ Int.tmod a b = a % b - b ∧ 0 < a % b ∧ Int.tdiv a b = a / b + 1) := by
  have h1 := Int.mul_tdiv_add_tmod a b
  have h2 := Int.mul_ediv_add_emod a b
  rcases tmod_cases a b hb with h | ⟨h, h3, h4⟩
  · left
    refine ⟨h, ?_⟩
    have : b * Int.tdiv a b = b * (a / b) := by omega
    exact Int.eq_of_mul_eq_mul_left (by omega) this
  · right
    refine ⟨h, h3, h4, ?_⟩
    have : b * Int.tdiv a b = b * (a / b + 1) := by rw [Int.mul_add]; omega
    exact Int.eq_of_mul_eq_mul_left (by omega) this
theorem cright_f (t : Int) : clock_Right.f t = some (timeB t) := by
  unfold clock_Right.f timeB
  by_cases h : 0 ≤ t
  · rw [if_pos h]; congr 1; apply decide_eq_decide.2; omega
  · rw [if_neg h]; congr 1; symm; apply decide_eq_false; omega
theorem csaid_f (d : Int) : clock_said.f d = some (dayB d) := by
  unfold clock_said.f dayB
  by_cases h : -1099511627776 ≤ d
  · rw [if_pos h]; congr 1; apply decide_eq_decide.2; omega
  · rw [if_neg h]; congr 1; symm; apply decide_eq_false; omega
theorem cday_f (t : Int) : clock_Day.f t = some (dayR t) := by
  simp only [clock_Day.f, cright_f, Option.bind_some, dayR]
  cases h : timeB t
  · rfl
  · have h2 : 0 ≤ t ∧ t ≤ 2147483648 := of_decide_eq_true h
    simp only [if_true, dayF]
    have e1 : wrap64 (wrap64 (t + 1440) - 270) = t + 1170 := by unfold wrap64; omega
    rw [e1, Int.tdiv_eq_ediv_of_nonneg (by omega)]
    have e2 : wrap64 (wrap64 ((t + 1170) / 1440) - 1) = (t - 270) / 1440 := by unfold wrap64; omega
    rw [e2]
theorem cweekday_f (d : Int) : clock_Weekday.f d = some (wkdF d) := by
  simp only [clock_Weekday.f, csaid_f, Option.bind_some, wkdF]
  cases h : dayB d
  · rfl
  · have h2 : -1099511627776 ≤ d ∧ d ≤ 1099511627776 := of_decide_eq_true h
    simp only [if_true]
    congr 1
    have e : wrap64 (Int.tmod d 7 + 7) = Int.tmod d 7 + 7 := by
      rcases tmod_cases d 7 (by omega) with e | ⟨_, e, _⟩ <;> rw [e] <;> unfold wrap64 <;> omega
    rw [e]
    rcases tmod_cases d 7 (by omega) with e | ⟨_, e, _⟩
    · rw [e, Int.tmod_eq_emod_of_nonneg (by omega)]; omega
    · rw [e, Int.tmod_eq_emod_of_nonneg (by omega)]; omega
theorem cweek_f (d : Int) : clock_Week.f d = some (weekF d) := by
  simp only [clock_Week.f, csaid_f, cweekday_f, Option.bind_some, weekF, wkdF]
  cases h : dayB d
  · rfl
  · have h2 : -1099511627776 ≤ d ∧ d ≤ 1099511627776 := of_decide_eq_true h
    simp only [if_true]
    congr 1
    have e : wrap64 (d - d % 7) = d - d % 7 := by unfold wrap64; omega
    rw [e]
    rcases tdiv_cases (d - d % 7) 7 (by omega) with ⟨_, e⟩ | ⟨_, _, e, _⟩
    · rw [e]; unfold wrap64; omega
    · omega
theorem rwithin_f (d : Int) : fareboxref06_within.f d = some (dayB d) := by
  unfold fareboxref06_within.f dayB
  by_cases h : d ≥ -1099511627776
  · rw [if_pos h]; congr 1; apply decide_eq_decide.2; omega
  · rw [if_neg h]; congr 1; symm; apply decide_eq_false; omega
theorem rdown_f (a b : Int) (hb : 0 < b) (h : -4611686018427387904 ≤ a ∧ a ≤ 4611686018427387904) : fareboxref06_down.f a b = some (a / b) := by
  have hq : -4611686018427387904 ≤ a / b ∧ a / b ≤ 4611686018427387904 := by
    constructor
    · have := Int.le_ediv_of_mul_le hb (show -4611686018427387904 * b ≤ a by
        have : -4611686018427387904 * b ≤ -4611686018427387904 * 1 := Int.mul_le_mul_of_nonpos_left (by omega) (by omega)
        omega)
      exact this
    · rcases Int.lt_or_le a 0 with h1 | h1
      · have := Int.ediv_neg_of_neg_of_pos h1 hb; omega
      · have := Int.ediv_le_self b h1; omega
  unfold fareboxref06_down.f
  rw [if_neg (by omega)]
  have hm := Int.emod_nonneg a (show b ≠ 0 by omega)
  rcases tdiv_cases a b hb with ⟨e1, e2⟩ | ⟨_, e1, e3, e2⟩
  · rw [e1, e2, if_neg (by omega)]; congr 1; unfold wrap64; omega
  · have := Int.emod_lt_of_pos a hb
    rw [e1, e2, if_pos (by omega)]; congr 1
    unfold wrap64; omega
end Go.Proofs.Ytmeogadkbbeglaa
