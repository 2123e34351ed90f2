/- Numbers of money.Scale's last step: shifts and masks of 64 bits. -/
import Derived.Test.YtmeogadkbbeglaaW05
import Derived.Laws.Bits64b
namespace Go.Proofs.Ytmeogadkbbeglaa
open Go.RowKit

def fracF (b : Nat) : Nat := if b / 4503599627370496 = 0 then b % 4503599627370496 else b % 4503599627370496 + 4503599627370496
def byF (b : Nat) : Nat := if b / 4503599627370496 = 0 then 1074 else 1075 - b / 4503599627370496
/-- n times the rate of these bits, rounded, halves upwards -/
def scaleV (n b : Nat) : Nat := (n * fracF b / 2 ^ (byF b - 1) + 1) / 2

theorem and52 (b : Nat) (hb : b < 18446744073709551616) : bits .and .u64 (b : Int) 4503599627370495 = ((b % 4503599627370496 : Nat) : Int) := by
  have h := bits_and_u64_nat b 4503599627370495 hb (by omega)
  have e : b &&& 4503599627370495 = b % 4503599627370496 := Nat.and_two_pow_sub_one_eq_mod b 52
  rw [e] at h
  exact h
theorem or_add (a c k : Nat) (hc : c < 2 ^ k) (h1 : a * 2 ^ k < 18446744073709551616) (h2 : c < 18446744073709551616) : bits .or .u64 ((a * 2 ^ k : Nat) : Int) (c : Int) = ((a * 2 ^ k + c : Nat) : Int) := by
  have h := bits_or_u64_nat (a * 2 ^ k) c h1 h2
  have e : a * 2 ^ k ||| c = a * 2 ^ k + c := by
    have := Nat.two_pow_add_eq_or_of_lt hc a
    rw [Nat.mul_comm a]; exact this.symm
  rw [e] at h
  exact h
theorem or52 (m : Nat) (hm : m < 4503599627370496) : bits .or .u64 (m : Int) 4503599627370496 = ((m + 4503599627370496 : Nat) : Int) := by
  have h := bits_or_u64_nat m 4503599627370496 (by omega) (by omega)
  have e : m ||| 4503599627370496 = m + 4503599627370496 := by
    have := Nat.two_pow_add_eq_or_of_lt (i := 52) (b := m) (by omega) 1
    rw [Nat.or_comm, Nat.add_comm]; simpa using this.symm
  rw [e] at h
  exact h
theorem and1 (b : Nat) (hb : b < 18446744073709551616) : bits .and .u64 (b : Int) 1 = ((b % 2 : Nat) : Int) := by
  have h := bits_and_u64_nat b 1 hb (by omega)
  have e : b &&& 1 = b % 2 := Nat.and_two_pow_sub_one_eq_mod b 1
  rw [e] at h
  exact h
theorem or0 (b : Nat) (hb : b < 18446744073709551616) : bits .or .u64 (b : Int) 0 = (b : Int) := by
  have h := bits_or_u64_nat b 0 hb (by omega)
  rw [Nat.or_zero] at h
  exact h
theorem fin_half (L : Nat) (hL : L < 4611686018427387904) : wrap64 (IntKind.u64.wrap (bits .or .u64 ((L : Int) / 2) 0 + bits .and .u64 (L : Int) 1)) = (((L + 1) / 2 : Nat) : Int) := by
  have e : (L : Int) / 2 = ((L / 2 : Nat) : Int) := by omega
  rw [e, or0 _ (by omega), and1 _ (by omega), IntKind.wrap_u64]
  unfold wrap64
  omega

theorem prod_lt (n f : Nat) (hn : n ≤ 9007199254740992) (hf : f < 9007199254740992) : n * f < 81129638414606681695789005144064 := by
  have h : n * f ≤ 9007199254740992 * 9007199254740991 := Nat.mul_le_mul hn (by omega)
  omega

theorem case_a (P k : Nat) (hP : P < 81129638414606681695789005144064) :
    wrap64 (IntKind.u64.wrap (bits .or .u64 (((P / 18446744073709551616 : Nat) : Int) / 2 ^ k / 2) 0 + bits .and .u64 (((P / 18446744073709551616 : Nat) : Int) / 2 ^ k) 1)) = (((P / 2 ^ (64 + k) + 1) / 2 : Nat) : Int) := by
  have e : ((P / 18446744073709551616 : Nat) : Int) / 2 ^ k = ((P / 18446744073709551616 / 2 ^ k : Nat) : Int) := by
    rw [Int.natCast_ediv (P / 18446744073709551616) (2 ^ k), Int.natCast_pow]; rfl
  have e2 : P / 18446744073709551616 / 2 ^ k = P / 2 ^ (64 + k) := by
    rw [Nat.pow_add, Nat.div_div_eq_div_mul]
  have hl : P / 18446744073709551616 / 2 ^ k ≤ P / 18446744073709551616 := Nat.div_le_self _ _
  rw [e, e2, fin_half _ (by omega)]

theorem case_b (P : Nat) (hP : P < 81129638414606681695789005144064) :
    wrap64 (IntKind.u64.wrap (bits .or .u64 (bits .or .u64 (((P / 18446744073709551616 : Nat) : Int) * 2) (((P % 18446744073709551616 : Nat) : Int) / 9223372036854775808) / 2) (((P / 18446744073709551616 : Nat) : Int) / 9223372036854775808 * 9223372036854775808)
      + bits .and .u64 (bits .or .u64 (((P / 18446744073709551616 : Nat) : Int) * 2) (((P % 18446744073709551616 : Nat) : Int) / 9223372036854775808)) 1)) = (((P / 9223372036854775808 + 1) / 2 : Nat) : Int) := by
  have z : ((P / 18446744073709551616 : Nat) : Int) / 9223372036854775808 * 9223372036854775808 = 0 := by omega
  have e1 : ((P / 18446744073709551616 : Nat) : Int) * 2 = ((P / 18446744073709551616 * 2 ^ 1 : Nat) : Int) := by omega
  have e2 : ((P % 18446744073709551616 : Nat) : Int) / 9223372036854775808 = ((P % 18446744073709551616 / 9223372036854775808 : Nat) : Int) := by omega
  have e3 : P / 18446744073709551616 * 2 ^ 1 + P % 18446744073709551616 / 9223372036854775808 = P / 9223372036854775808 := by omega
  rw [z, e1, e2, or_add _ _ 1 (by omega) (by omega) (by omega), e3, fin_half _ (by omega)]

theorem case_c (P s : Nat) (hP : P < 81129638414606681695789005144064) (h1 : 51 ≤ s) (h2 : s ≤ 62) :
    wrap64 (IntKind.u64.wrap (bits .or .u64 (bits .or .u64 (IntKind.u64.wrap (((P / 18446744073709551616 : Nat) : Int) * 2 ^ (64 - s))) (((P % 18446744073709551616 : Nat) : Int) / 2 ^ s) / 2) (IntKind.u64.wrap (((P / 18446744073709551616 : Nat) : Int) / 2 ^ s * 9223372036854775808))
      + bits .and .u64 (bits .or .u64 (IntKind.u64.wrap (((P / 18446744073709551616 : Nat) : Int) * 2 ^ (64 - s))) (((P % 18446744073709551616 : Nat) : Int) / 2 ^ s)) 1)) = (((P / 2 ^ s + 1) / 2 : Nat) : Int) := by
  have hc : s = 51 ∨ s = 52 ∨ s = 53 ∨ s = 54 ∨ s = 55 ∨ s = 56 ∨ s = 57 ∨ s = 58 ∨ s = 59 ∨ s = 60 ∨ s = 61 ∨ s = 62 := by omega
  have hz : ((P / 18446744073709551616 : Nat) : Int) / 2 ^ s = 0 := by
    apply Int.ediv_eq_zero_of_lt (by omega)
    rcases hc with rfl | rfl | rfl | rfl | rfl | rfl | rfl | rfl | rfl | rfl | rfl | rfl <;> simp <;> omega
  rw [hz]
  have e1 : IntKind.u64.wrap (((P / 18446744073709551616 : Nat) : Int) * 2 ^ (64 - s)) = ((P / 18446744073709551616 * 2 ^ (64 - s) : Nat) : Int) := by
    rw [IntKind.wrap_u64]
    rcases hc with rfl | rfl | rfl | rfl | rfl | rfl | rfl | rfl | rfl | rfl | rfl | rfl <;> simp <;> omega
  have e2 : ((P % 18446744073709551616 : Nat) : Int) / 2 ^ s = ((P % 18446744073709551616 / 2 ^ s : Nat) : Int) := by
    rw [Int.natCast_ediv, Int.natCast_pow]; rfl
  have b1 : P % 18446744073709551616 / 2 ^ s < 2 ^ (64 - s) := by
    rcases hc with rfl | rfl | rfl | rfl | rfl | rfl | rfl | rfl | rfl | rfl | rfl | rfl <;> simp <;> omega
  have b2 : P / 18446744073709551616 * 2 ^ (64 - s) < 18446744073709551616 := by
    rcases hc with rfl | rfl | rfl | rfl | rfl | rfl | rfl | rfl | rfl | rfl | rfl | rfl <;> simp <;> omega
  have e3 : P / 18446744073709551616 * 2 ^ (64 - s) + P % 18446744073709551616 / 2 ^ s = P / 2 ^ s := by
    rcases hc with rfl | rfl | rfl | rfl | rfl | rfl | rfl | rfl | rfl | rfl | rfl | rfl <;> simp <;> omega
  have b3 : P / 2 ^ s < 4611686018427387904 := by
    rcases hc with rfl | rfl | rfl | rfl | rfl | rfl | rfl | rfl | rfl | rfl | rfl | rfl <;> simp <;> omega
  have b4 : P % 18446744073709551616 / 2 ^ s ≤ P % 18446744073709551616 := Nat.div_le_self _ _
  have w0 : IntKind.u64.wrap (0 * 9223372036854775808 : Int) = 0 := by rw [IntKind.wrap_u64]; omega
  rw [w0, e1, e2, or_add _ _ (64 - s) b1 b2 (by omega), e3, fin_half _ b3]

/-- what money.Scale answers -/
def scaleF (n : Int) (b : Nat) : Int × Int := if inB 0 n 9007199254740992 = false then (0, 50) else if rateOk b = false then (0, 51) else ((scaleV n.toNat b : Nat), 0)

theorem scaleV_far (n b : Nat) (hP : n * fracF b < 81129638414606681695789005144064) (h : 107 < byF b) : scaleV n b = 0 := by
  unfold scaleV
  have h2 : 2 ^ 107 ≤ 2 ^ (byF b - 1) := Nat.pow_le_pow_right (by decide) (by omega)
  have h3 : (2 : Nat) ^ 107 = 162259276829213363391578010288128 := by decide
  rw [h3] at h2
  rw [Nat.div_eq_of_lt (Nat.lt_of_lt_of_le (by omega) h2)]

/-- what tariff.Single answers -/
def singleF (t : Tariff) (a b : Int) (peak : Bool) : Int × Int := match spFind t.sp a b with
  | none => (0, 1)
  | some s => if priceB s.single = false then (0, 50) else if peak = true then (s.single, 0) else scaleF s.single t.off

end Go.Proofs.Ytmeogadkbbeglaa
