/- What the claim's walk leans on: U06, Fgn07. -/
import Derived.Test.YtmeogadkbbeglaaK3
import Derived.Test.YtmeogadkbbeglaaK4
import Derived.Test.YtmeogadkbbeglaaK2
import Derived.Test.YtmeogadkbbeglaaH2
import Derived.Test.YtmeogadkbbeglaaH3
section
namespace Go.Proofs.Ytmeogadkbbeglaa
open Go.RowKit Go.Proofs.YtmeogadkbbeglaaQ Go.Proofs.YtmeogadkbbeglaaW.PrintWords Go.Proofs.YtmeogadkbbeglaaW.PrintLast Go.Proofs.YtmeogadkbbeglaaW.PrintMore
set_option linter.unusedVariables false
set_option linter.unusedSimpArgs false
def timeB (t : Int) : Bool := decide (0 ≤ t ∧ t ≤ 2147483648)
def dayB (d : Int) : Bool := decide (-1099511627776 ≤ d ∧ d ≤ 1099511627776)
def dayF (t : Int) : Int := (t - 270) / 1440
def dayR (t : Int) : Int × Int := if timeB t then (dayF t, 0) else (0, 60)
def wkdF (d : Int) : Int := if dayB d then d % 7 else 0
def weekF (d : Int) : Int := if dayB d then d / 7 else 0
theorem tmod_cases (a : Int) (b : Int) (hb : 0 < b) : Int.tmod a b = a % b ∨ (a < 0 ∧ Int.tmod a b = a % b - b ∧ 0 < a % b) := by
  rcases Int.lt_or_le a 0 with h | h
  · by_cases hd : b ∣ a
    · left; rw [Int.tmod_eq_emod]; simp [hd]
    · right
      refine ⟨h, ?_, ?_⟩
      · rw [Int.tmod_eq_emod]; rw [if_neg (by simp [hd]; omega)]; omega
      · have := Int.emod_nonneg a (show b ≠ 0 by omega)
        have h2 : a % b ≠ 0 := fun e => hd (Int.dvd_of_emod_eq_zero e)
        omega
  · left; exact Int.tmod_eq_emod_of_nonneg h
theorem tdiv_cases (a : Int) (b : Int) (hb : 0 < b) : (Int.tmod a b = a % b ∧ Int.tdiv a b = a / b) ∨ (a < 0 ∧ Int.tmod a b = a % b - b ∧ 0 < a % b ∧ Int.tdiv a b = a / b + 1) := by
  have h1 := Int.mul_tdiv_add_tmod a b
  have h2 := Int.mul_ediv_add_emod a b
  rcases tmod_cases a b hb with h | ⟨h, h3, h4⟩
  · left
    refine ⟨h, ?_⟩
    have : b * Int.tdiv a b = b * (a / b) := by omega
    exact Int.eq_of_mul_eq_mul_left (by omega) this
  · right
    refine ⟨h, h3, h4, ?_⟩
    have : b * Int.tdiv a b = b * (a / b + 1) := by rw [Int.mul_add]; omega
    exact Int.eq_of_mul_eq_mul_left (by omega) this
theorem cright_f (t : Int) : clock_Right.f t = some (timeB t) := by
  unfold clock_Right.f timeB
  by_cases h : 0 ≤ t
  · rw [if_pos h]; congr 1; apply decide_eq_decide.2; omega
  · rw [if_neg h]; congr 1; symm; apply decide_eq_false; omega
theorem csaid_f (d : Int) : clock_said.f d = some (dayB d) := by
  unfold clock_said.f dayB
  by_cases h : -1099511627776 ≤ d
  · rw [if_pos h]; congr 1; apply decide_eq_decide.2; omega
  · rw [if_neg h]; congr 1; symm; apply decide_eq_false; omega
theorem cday_f (t : Int) : clock_Day.f t = some (dayR t) := by
  simp only [clock_Day.f, cright_f, Option.bind_some, dayR]
  cases h : timeB t
  · rfl
  · have h2 : 0 ≤ t ∧ t ≤ 2147483648 := of_decide_eq_true h
    simp only [if_true, dayF]
    have e1 : wrap64 (wrap64 (t + 1440) - 270) = t + 1170 := by unfold wrap64; omega
    rw [e1, Int.tdiv_eq_ediv_of_nonneg (by omega)]
    have e2 : wrap64 (wrap64 ((t + 1170) / 1440) - 1) = (t - 270) / 1440 := by unfold wrap64; omega
    rw [e2]
theorem cweekday_f (d : Int) : clock_Weekday.f d = some (wkdF d) := by
  simp only [clock_Weekday.f, csaid_f, Option.bind_some, wkdF]
  cases h : dayB d
  · rfl
  · have h2 : -1099511627776 ≤ d ∧ d ≤ 1099511627776 := of_decide_eq_true h
    simp only [if_true]
    congr 1
    have e : wrap64 (Int.tmod d 7 + 7) = Int.tmod d 7 + 7 := by
      rcases tmod_cases d 7 (by omega) with e | ⟨_, e, _⟩ <;> rw [e] <;> unfold wrap64 <;> omega
    rw [e]
    rcases tmod_cases d 7 (by omega) with e | ⟨_, e, _⟩
    · rw [e, Int.tmod_eq_emod_of_nonneg (by omega)]; omega
    · rw [e, Int.tmod_eq_emod_of_nonneg (by omega)]; omega
theorem cweek_f (d : Int) : clock_Week.f d = some (weekF d) := by
  simp only [clock_Week.f, csaid_f, cweekday_f, Option.bind_some, weekF, wkdF]
  cases h : dayB d
  · rfl
  · have h2 : -1099511627776 ≤ d ∧ d ≤ 1099511627776 := of_decide_eq_true h
    simp only [if_true]
    congr 1
    have e : wrap64 (d - d % 7) = d - d % 7 := by unfold wrap64; omega
    rw [e]
    rcases tdiv_cases (d - d % 7) 7 (by omega) with ⟨_, e⟩ | ⟨_, _, e, _⟩
    · rw [e]; unfold wrap64; omega
    · omega
end Go.Proofs.Ytmeogadkbbeglaa
end
section
namespace Go.Proofs.YtmeogadkbbeglaaQ
open Go.RowKit Go.Proofs.Ytmeogadkbbeglaa Go.Proofs.YtmeogadkbbeglaaW.PrintWords
set_option linter.unusedVariables false
def tariff_Right.f (l0_0 : List S35) (l0_1 : List S39) (l0_2 : List S48) (a0_3 : Nat) (a0_4 a0_5 a0_6 a0_7 a0_8 a0_9 a0_10 a0_11 a0_12 a0_13 : Int) : Option Int := if Tariff.fits (toT l0_0 l0_1 l0_2 a0_3 a0_4 a0_5 a0_6 a0_7 a0_8 a0_9 a0_10 a0_11 a0_12 a0_13) then some (rightF (toT l0_0 l0_1 l0_2 a0_3 a0_4 a0_5 a0_6 a0_7 a0_8 a0_9 a0_10 a0_11 a0_12 a0_13)) else none
theorem tariff_Right.calls (A0_0 : Option Addr) (c0_0 : Nat) (l0_0 : List S35) (A0_1 : Option Addr) (c0_1 : Nat) (l0_1 : List S39) (A0_2 : Option Addr) (c0_2 : Nat) (l0_2 : List S48) (a0_3 : Nat) (a0_4 a0_5 a0_6 a0_7 a0_8 a0_9 a0_10 a0_11 a0_12 a0_13 : Int) (r : Int) (w : World) (hr0_0 : Kd.C k35 w A0_0 l0_0.length l0_0) (hc0_0 : l0_0.length ≤ c0_0) (hr0_1 : Kd.C k39 w A0_1 l0_1.length l0_1) (hc0_1 : l0_1.length ≤ c0_1) (hr0_2 : Kd.C k48 w A0_2 l0_2.length l0_2) (hc0_2 : l0_2.length ≤ c0_2) (h : tariff_Right.f l0_0 l0_1 l0_2 a0_3 a0_4 a0_5 a0_6 a0_7 a0_8 a0_9 a0_10 a0_11 a0_12 a0_13 = some r) :
    Calls Try.prog 28 #[.agg #[.slice A0_0 l0_0.length c0_0, .slice A0_1 l0_1.length c0_1, .slice A0_2 l0_2.length c0_2, .float .f64 a0_3, .int .i64 a0_4, .int .i64 a0_5, .int .i64 a0_6, .int .i64 a0_7, .int .i64 a0_8, .int .i64 a0_9, .int .i64 a0_10, .int .i64 a0_11, .int .i64 a0_12, .int .i64 a0_13]] w fun e w' => e = .returned (.int .i64 r) ∧ Below w.heap.size w w' := by
  unfold tariff_Right.f at h
  split at h
  · rename_i hf
    cases h
    have hA := at_of A0_0 c0_0 l0_0 A0_1 c0_1 l0_1 A0_2 c0_2 l0_2 a0_3 a0_4 a0_5 a0_6 a0_7 a0_8 a0_9 a0_10 a0_11 a0_12 a0_13 hr0_0 hc0_0 hr0_1 hc0_1 hr0_2 hc0_2 hf
    have := right_calls _ _ w hA
    rw [cells_of] at this
    exact this
  · cases h
def tariff_Span.f (l0_0 : List S35) (l0_1 : List S39) (l0_2 : List S48) (a0_3 : Nat) (a0_4 a0_5 a0_6 a0_7 a0_8 a0_9 a0_10 a0_11 a0_12 a0_13 : Int) (a1 : Int) (a2 : Int) : Option (Int × Int × Int × Int × Int × Bool) := if Tariff.fits (toT l0_0 l0_1 l0_2 a0_3 a0_4 a0_5 a0_6 a0_7 a0_8 a0_9 a0_10 a0_11 a0_12 a0_13) then some (match spFind (toT l0_0 l0_1 l0_2 a0_3 a0_4 a0_5 a0_6 a0_7 a0_8 a0_9 a0_10 a0_11 a0_12 a0_13).sp a1 a2 with | some s => (s.frm, s.to, s.single, s.daily, s.weekly, true) | none => (0, 0, 0, 0, 0, false)) else none
theorem tariff_Span.calls (A0_0 : Option Addr) (c0_0 : Nat) (l0_0 : List S35) (A0_1 : Option Addr) (c0_1 : Nat) (l0_1 : List S39) (A0_2 : Option Addr) (c0_2 : Nat) (l0_2 : List S48) (a0_3 : Nat) (a0_4 a0_5 a0_6 a0_7 a0_8 a0_9 a0_10 a0_11 a0_12 a0_13 : Int) (a1 : Int) (a2 : Int) (r1 : Int) (r2 : Int) (r3 : Int) (r4 : Int) (r5 : Int) (r6 : Bool) (w : World) (hr0_0 : Kd.C k35 w A0_0 l0_0.length l0_0) (hc0_0 : l0_0.length ≤ c0_0) (hr0_1 : Kd.C k39 w A0_1 l0_1.length l0_1) (hc0_1 : l0_1.length ≤ c0_1) (hr0_2 : Kd.C k48 w A0_2 l0_2.length l0_2) (hc0_2 : l0_2.length ≤ c0_2) (h : tariff_Span.f l0_0 l0_1 l0_2 a0_3 a0_4 a0_5 a0_6 a0_7 a0_8 a0_9 a0_10 a0_11 a0_12 a0_13 a1 a2 = some (r1, r2, r3, r4, r5, r6)) :
    Calls Try.prog 32 #[.agg #[.slice A0_0 l0_0.length c0_0, .slice A0_1 l0_1.length c0_1, .slice A0_2 l0_2.length c0_2, .float .f64 a0_3, .int .i64 a0_4, .int .i64 a0_5, .int .i64 a0_6, .int .i64 a0_7, .int .i64 a0_8, .int .i64 a0_9, .int .i64 a0_10, .int .i64 a0_11, .int .i64 a0_12, .int .i64 a0_13], .int .i64 a1, .int .i64 a2] w fun e w' => e = .returned (.tuple #[.agg #[.int .i64 r1, .int .i64 r2, .int .i64 r3, .int .i64 r4, .int .i64 r5], .bool r6]) ∧ Below w.heap.size w w' := by
  unfold tariff_Span.f at h
  split at h
  · rename_i hf
    have hA := at_of A0_0 c0_0 l0_0 A0_1 c0_1 l0_1 A0_2 c0_2 l0_2 a0_3 a0_4 a0_5 a0_6 a0_7 a0_8 a0_9 a0_10 a0_11 a0_12 a0_13 hr0_0 hc0_0 hr0_1 hc0_1 hr0_2 hc0_2 hf
    have hc := span_calls _ _ a1 a2 w hA
    rw [cells_of] at hc
    cases hs : spFind (toT l0_0 l0_1 l0_2 a0_3 a0_4 a0_5 a0_6 a0_7 a0_8 a0_9 a0_10 a0_11 a0_12 a0_13).sp a1 a2 <;> rw [hs] at h hc <;> cases h <;> exact hc
  · cases h
theorem right_f {t : Tariff} (h : Tariff.fits t) : tariff_Right.f ((t).st.map ofSt) ((t).sp.map ofSp) ((t).pk.map ofBd) (t).off (t).bus (t).busDaily (t).busWeekly (t).hopper (t).most (t).longest (t).change (t).passback (t).delay (t).threshold = some (rightF t) := by
  unfold tariff_Right.f; rw [toT_of, if_pos h]
theorem span_f {t : Tariff} (h : Tariff.fits t) (a b : Int) : tariff_Span.f ((t).st.map ofSt) ((t).sp.map ofSp) ((t).pk.map ofBd) (t).off (t).bus (t).busDaily (t).busWeekly (t).hopper (t).most (t).longest (t).change (t).passback (t).delay (t).threshold a b = some (match spFind t.sp a b with | some s => (s.frm, s.to, s.single, s.daily, s.weekly, true) | none => (0, 0, 0, 0, 0, false)) := by
  unfold tariff_Span.f; rw [toT_of, if_pos h]
end Go.Proofs.YtmeogadkbbeglaaQ
end
