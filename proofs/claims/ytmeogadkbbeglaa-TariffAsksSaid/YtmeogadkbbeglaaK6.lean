/- What the reference's printed functions on tariffs compute: the same as the plain functions. -/
import Derived.Test.YtmeogadkbbeglaaH3
import Derived.Test.YtmeogadkbbeglaaK2
import Derived.Test.YtmeogadkbbeglaaK1
import Derived.Test.YtmeogadkbbeglaaK3
import Derived.Test.YtmeogadkbbeglaaK5
import Derived.Test.YtmeogadkbbeglaaK4
namespace Go.Proofs.Ytmeogadkbbeglaa
open Go.RowKit Go.Proofs.YtmeogadkbbeglaaQ Go.Proofs.YtmeogadkbbeglaaW.PrintWords Go.Proofs.YtmeogadkbbeglaaW.PrintLast Go.Proofs.YtmeogadkbbeglaaW.PrintMore
set_option linter.unusedVariables false
theorem rd_st (l : List Station) (i : Nat) (h : i < l.length) : rd_T35 (l.map ofSt) i = ofSt l[i] := by
  simp [rd_T35, List.getD_eq_getElem?_getD, h]
theorem rd_sp (l : List Span) (i : Nat) (h : i < l.length) : rd_T39 (l.map ofSp) i = ofSp l[i] := by
  simp [rd_T39, List.getD_eq_getElem?_getD, h]
theorem wrap_up {i : Nat} (h : i < 9223372036854775807) : wrap64 ((i : Int) + 1) = ((i + 1 : Nat) : Int) := by unfold wrap64; omega
theorem ite_out {α : Type} {c : Prop} [Decidable c] {a b x : α} (h1 : c → a = x) (h2 : ¬ c → b = x) : (if c then a else b) = x := by
  split
  · exact h1 ‹_›
  · exact h2 ‹_›
theorem price_f (n : Int) : fareboxref07_price.f n = some (priceB n) := by
  unfold fareboxref07_price.f priceB inB
  by_cases h : n ≥ 0
  · rw [if_pos h]; congr 1; apply decide_eq_decide.2; omega
  · rw [if_neg h]; congr 1; symm; apply decide_eq_false; omega
theorem rate_f {b : Nat} (h : b < 18446744073709551616) : fareboxref05_Rate.f b = some (rateOk b) := by
  simp only [fareboxref05_Rate.f, parts_f h, Option.bind_some]
  unfold partsF rateOk
  have e1 : minusB b = decide (9223372036854775808 ≤ b) := by unfold minusB; rw [Bool.eq_iff_iff]; simp; omega
  have e2 : powN b = b / 4503599627370496 % 2048 := rfl
  by_cases p1 : powN b = 2047
  · simp only [p1, if_true]
    rw [if_neg (by simp)]
    congr 1; symm; apply decide_eq_false; omega
  · by_cases p0 : powN b = 0
    · simp only [p0, if_true, if_neg (show ¬ (0 : Nat) = 2047 by decide), e1]
      by_cases hm : 9223372036854775808 ≤ b
      · simp only [hm, decide_true, if_true]; congr 1; symm; apply decide_eq_false; omega
      · simp only [hm, decide_false, Bool.false_eq_true, if_false]
        rw [if_pos (by omega)]; congr 1; symm; apply decide_eq_true; omega
    · simp only [p1, p0, if_false, if_true, e1]
      by_cases hm : 9223372036854775808 ≤ b
      · simp only [hm, decide_true, if_true]; congr 1; symm; apply decide_eq_false; omega
      · simp only [hm, decide_false, Bool.false_eq_true, if_false]
        refine ite_out (fun _ => ?_) (fun _ => ite_out (fun _ => ite_out (fun _ => ?_) (fun _ => ?_)) (fun _ => ?_))
        · congr 1; symm; apply decide_eq_true; omega
        · congr 1; symm; apply decide_eq_true; omega
        · congr 1; rw [Bool.eq_iff_iff]; simp; omega
        · congr 1; rw [Bool.eq_iff_iff]; simp; omega
end Go.Proofs.Ytmeogadkbbeglaa
