/- The walks of package money, and of its reference: rates. -/
import Derived.Test.YtmeogadkbbeglaaW07a
import Derived.Test.YtmeogadkbbeglaaFlt
import Derived.Laws.Externs
namespace Go.Proofs.Ytmeogadkbbeglaa
open Go.RowKit
set_option maxHeartbeats 400000

theorem bits_run (b : Nat) (w : World) : (callFunc 134 #[.float .f64 b]).run Try.prog w = .ok (.value (.int .u64 b)) w := by
  rw [run_callFunc_extern Try.func134 (by kernel_rfl) (by kernel_rfl) (by kernel_rfl) (e := Go.Extern.MathFloatBits.float64bits) (by kernel_rfl)]
  rfl

theorem sg_neg (b : Nat) (hb : b < 18446744073709551616) (h : 9223372036854775808 ≤ b) : decide (wrap64 (b : Int) < 0) = sgB b := by
  unfold sgB
  rw [decide_eq_true h]
  apply decide_eq_true
  unfold wrap64
  omega
theorem sg_pos (b : Nat) (_hb : b < 18446744073709551616) (h : ¬ 9223372036854775808 ≤ b) : decide ((b : Int) < 0) = sgB b := by
  unfold sgB
  rw [decide_eq_false h]
  apply decide_eq_false
  omega

theorem signbit_calls (b : Nat) (hb : b < 18446744073709551616) (w : World) :
    Calls Try.prog 130 #[.float .f64 b] w fun e w' => e = .returned (.bool (sgB b)) ∧ w = w' := by
  have hx := bits_run b
  by_cases h : 9223372036854775808 ≤ b
  all_goals
    go_enter Try.func130, Try.ntmps130
    go_wp2
    go_ret
    exact ⟨ret_bool (by first | exact sg_neg b hb h | exact sg_pos b hb h), rfl⟩

theorem rate_calls (b : Nat) (hb : b < 18446744073709551616) (w : World) :
    Calls Try.prog 76 #[.float .f64 b] w fun e w' => e = .returned (.bool (rateOk b)) ∧ w = w' := by
  rw [← rate_of b hb]
  cases hg : geZ b <;> cases hl : leO b <;> cases hs : sgB b
  all_goals
    unfold geZ at hg
    unfold leO oneBits at hl
    go_enter Try.func76, Try.ntmps76
    go_wp2_with (go_at_call 130; (with_reducible refine (signbit_calls _ hb _).mono ?_); rintro e w' ⟨rfl, rfl⟩)
    go_ret
    exact ⟨rfl, rfl⟩
end Go.Proofs.Ytmeogadkbbeglaa
