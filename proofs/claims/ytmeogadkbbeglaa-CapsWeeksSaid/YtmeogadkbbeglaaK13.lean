/- The contracts of the reference's floats, in the printed functions' form. -/
import Derived.Test.YtmeogadkbbeglaaH4
import Derived.Test.YtmeogadkbbeglaaK3
namespace Go.Proofs.YtmeogadkbbeglaaQ
open Go.RowKit Go.Proofs.Ytmeogadkbbeglaa Go.Proofs.YtmeogadkbbeglaaW.PrintWords
set_option linter.unusedVariables false
def fareboxref05_parts.f (a0 : Nat) : Option (Bool × Int × Int × Bool) := if a0 < 18446744073709551616 then some ((partsF a0).1, ((partsF a0).2.1 : Int), (partsF a0).2.2.1, (partsF a0).2.2.2) else none
theorem fareboxref05_parts.calls (a0 : Nat) (r1 : Bool) (r2 : Int) (r3 : Int) (r4 : Bool) (w : World) (h : fareboxref05_parts.f a0 = some (r1, r2, r3, r4)) :
    Calls Try.prog 132 #[.float .f64 a0] w fun e w' => e = .returned (.tuple #[.bool r1, .int .u64 r2, .int .i64 r3, .bool r4]) ∧ Drawn0 w w' := by
  unfold fareboxref05_parts.f at h
  split at h
  · rename_i hb
    cases h
    refine (parts_calls a0 hb w).mono ?_
    rintro e w' ⟨rfl, rfl⟩
    exact ⟨rfl, Drawn0.refl _⟩
  · cases h
theorem parts_f {b : Nat} (h : b < 18446744073709551616) : fareboxref05_parts.f b = some ((partsF b).1, ((partsF b).2.1 : Int), (partsF b).2.2.1, (partsF b).2.2.2) := by
  unfold fareboxref05_parts.f; rw [if_pos h]
end Go.Proofs.YtmeogadkbbeglaaQ
