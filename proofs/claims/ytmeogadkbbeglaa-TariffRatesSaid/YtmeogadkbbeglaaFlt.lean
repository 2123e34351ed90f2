/- Floats of 64 bits as the model compares them, in plain numbers. -/
import Ieee.Arith
import Derived.Test.YtmeogadkbbeglaaData
import GoSem.Core.Float
namespace Go.Proofs.Ytmeogadkbbeglaa

def oneBits : Nat := 4607182418800017408
/-- what Go's '>= 0', '<= 1' tell of a float's bits -/
def geZ (b : Nat) : Bool := FloatKind.f64.format.order b 0 == some .gt || FloatKind.f64.format.order b 0 == some .eq
def leO (b : Nat) : Bool := FloatKind.f64.format.order b oneBits == some .lt || FloatKind.f64.format.order b oneBits == some .eq
def sgB (b : Nat) : Bool := decide (9223372036854775808 ≤ b)

open Ieee in
theorem fmt : FloatKind.f64.format = double := rfl

/-- a finite number's magnitude, in the least place -/
def rv (r : Nat) : Nat := if r < 4503599627370496 then r else (4503599627370496 + r % 4503599627370496) * 2 ^ (r / 4503599627370496 - 1)

theorem rv_mono {r s : Nat} (h : r < s) : rv r < rv s := by
  unfold rv
  have e1 := Nat.div_add_mod r 4503599627370496
  have e2 := Nat.div_add_mod s 4503599627370496
  have m1 := Nat.mod_lt r (show 0 < 4503599627370496 by decide)
  have m2 := Nat.mod_lt s (show 0 < 4503599627370496 by decide)
  generalize r / 4503599627370496 = a at *
  generalize s / 4503599627370496 = b at *
  generalize r % 4503599627370496 = m at *
  generalize s % 4503599627370496 = n at *
  have hp : 0 < 2 ^ (b - 1) := Nat.two_pow_pos _
  split
  · split
    · omega
    · have : 4503599627370496 + n ≤ (4503599627370496 + n) * 2 ^ (b - 1) := Nat.le_mul_of_pos_right _ hp
      omega
  · rw [if_neg (by omega)]
    by_cases hab : a = b
    · subst hab
      exact Nat.mul_lt_mul_of_pos_right (by omega) hp
    · have hlt : a < b := by omega
      have h1 : (4503599627370496 + m) * 2 ^ (a - 1) < (4503599627370496 * 2) * 2 ^ (a - 1) := Nat.mul_lt_mul_of_pos_right (by omega) (Nat.two_pow_pos _)
      have h2 : (4503599627370496 * 2) * 2 ^ (a - 1) = 4503599627370496 * 2 ^ a := by
        obtain ⟨a, rfl⟩ : ∃ k, a = k + 1 := ⟨a - 1, by omega⟩
        rw [Nat.add_sub_cancel, Nat.pow_succ, Nat.mul_assoc, Nat.mul_comm 2]
      have h3 : 2 ^ a ≤ 2 ^ (b - 1) := Nat.pow_le_pow_right (by decide) (by omega)
      have h4 : 4503599627370496 * 2 ^ a ≤ 4503599627370496 * 2 ^ (b - 1) := Nat.mul_le_mul_left _ h3
      have h5 : 4503599627370496 * 2 ^ (b - 1) ≤ (4503599627370496 + n) * 2 ^ (b - 1) := Nat.mul_le_mul_right _ (by omega)
      omega

theorem rv_lt_iff (r s : Nat) : rv r < rv s ↔ r < s := by
  refine ⟨fun h => ?_, rv_mono⟩
  rcases Nat.lt_trichotomy r s with h1 | h1 | h1
  · exact h1
  · subst h1; omega
  · have := rv_mono h1; omega
theorem rv_eq_iff (r s : Nat) : rv r = rv s ↔ r = s := by
  refine ⟨fun h => ?_, fun h => by rw [h]⟩
  rcases Nat.lt_trichotomy r s with h1 | h1 | h1
  · have := rv_mono h1; omega
  · exact h1
  · have := rv_mono h1; omega

open Ieee in
theorem read_fin (b : Nat) (h : b % 9223372036854775808 < 9218868437227405312) :
    ∃ m k : Nat, double.read b = .number (b / 9223372036854775808 % 2 == 1) m ((k : Int) - 1074) ∧ m * 2 ^ k = rv (b % 9223372036854775808) := by
  have hs : double.signWeight = 9223372036854775808 := rfl
  have hb : double.binade = 4503599627370496 := rfl
  have hi : double.infRung = 9218868437227405312 := rfl
  have hl : double.leastPlace = -1074 := rfl
  unfold Format.read
  simp only [hs, hb, hi, hl]
  generalize b % 9223372036854775808 = r at *
  unfold rv
  split
  · exact ⟨r, 0, by simp, by simp⟩
  · exact ⟨_, r / 4503599627370496 - 1, by congr 1, rfl⟩

theorem shl (m k : Nat) : m <<< k = m * 2 ^ k := Nat.shiftLeft_eq m k

theorem scaled (m n a b c : Nat) : (m * 2 ^ (a - c)) < (n * 2 ^ (b - c)) ↔ m * 2 ^ (a - c) * 2 ^ c < n * 2 ^ (b - c) * 2 ^ c :=
  ⟨fun h => Nat.mul_lt_mul_of_pos_right h (Nat.two_pow_pos _), fun h => Nat.lt_of_mul_lt_mul_right h⟩

open Ieee in
/-- two numbers that are not negative -/
theorem order_pos (b c : Nat) (hb : b < 9218868437227405312) (hc : c < 9218868437227405312) : FloatKind.f64.format.order b c = some (compare b c) := by
  obtain ⟨m, k, e1, v1⟩ := read_fin b (by omega)
  obtain ⟨n, j, e2, v2⟩ := read_fin c (by omega)
  rw [Nat.mod_eq_of_lt (by omega)] at v1 v2
  have z1 : (b / 9223372036854775808 % 2 == 1) = false := by rw [Nat.div_eq_of_lt (by omega)]; rfl
  have z2 : (c / 9223372036854775808 % 2 == 1) = false := by rw [Nat.div_eq_of_lt (by omega)]; rfl
  rw [z1] at e1
  rw [z2] at e2
  show (double.read b).order (double.read c) = _
  rw [e1, e2]
  simp only [Datum.order, signed, Bool.false_eq_true, if_false, shl]
  have hbase : ∃ q : Nat, min ((k : Int) - 1074) ((j : Int) - 1074) = (q : Int) - 1074 ∧ q ≤ k ∧ q ≤ j := ⟨min k j, by omega, by omega, by omega⟩
  obtain ⟨q, hq, q1, q2⟩ := hbase
  rw [hq]
  have t1 : ((k : Int) - 1074 - ((q : Int) - 1074)).toNat = k - q := by omega
  have t2 : ((j : Int) - 1074 - ((q : Int) - 1074)).toNat = j - q := by omega
  rw [t1, t2]
  have p1 : m * 2 ^ (k - q) * 2 ^ q = rv b := by rw [Nat.mul_assoc, ← Nat.pow_add, Nat.sub_add_cancel q1, v1]
  have p2 : n * 2 ^ (j - q) * 2 ^ q = rv c := by rw [Nat.mul_assoc, ← Nat.pow_add, Nat.sub_add_cancel q2, v2]
  have hlt : (m * 2 ^ (k - q)) < (n * 2 ^ (j - q)) ↔ b < c := by rw [← rv_lt_iff b c, ← p1, ← p2]; exact ⟨fun h => Nat.mul_lt_mul_of_pos_right h (Nat.two_pow_pos _), fun h => Nat.lt_of_mul_lt_mul_right h⟩
  have hgt : (n * 2 ^ (j - q)) < (m * 2 ^ (k - q)) ↔ c < b := by rw [← rv_lt_iff c b, ← p1, ← p2]; exact ⟨fun h => Nat.mul_lt_mul_of_pos_right h (Nat.two_pow_pos _), fun h => Nat.lt_of_mul_lt_mul_right h⟩
  congr 1
  generalize m * 2 ^ (k - q) = x at *
  generalize n * 2 ^ (j - q) = y at *
  rcases Nat.lt_trichotomy b c with h | h | h
  · rw [Nat.compare_eq_lt.2 h, Int.compare_eq_lt]; omega
  · have : x = y := by omega
    subst this; subst h
    rw [Nat.compare_eq_eq.2 rfl, Int.compare_eq_eq]
  · rw [Nat.compare_eq_gt.2 h, Int.compare_eq_gt]; omega

open Ieee in
theorem rate_of (b : Nat) (hb : b < 18446744073709551616) : (geZ b && leO b && !sgB b) = rateOk b := by
  unfold geZ leO sgB rateOk oneBits
  by_cases h0 : b < 9218868437227405312
  · rw [order_pos b 0 h0 (by omega), order_pos b _ h0 (by omega)]
    by_cases h1 : b ≤ 4607182418800017408
    · have a1 : (compare b 0 == Ordering.gt || compare b 0 == Ordering.eq) = true := by
        rcases Nat.eq_zero_or_pos b with h | h
        · subst h; rfl
        · rw [Nat.compare_eq_gt.2 h]; rfl
      have a2 : (compare b 4607182418800017408 == Ordering.lt || compare b 4607182418800017408 == Ordering.eq) = true := by
        rcases Nat.lt_or_eq_of_le h1 with h | h
        · rw [Nat.compare_eq_lt.2 h]; rfl
        · rw [Nat.compare_eq_eq.2 h]; rfl
      simp only [Option.some_beq_some]
      rw [a1, a2, decide_eq_false (by omega), decide_eq_true h1]; rfl
    · have a2 : (compare b 4607182418800017408 == Ordering.lt || compare b 4607182418800017408 == Ordering.eq) = false := by
        rw [Nat.compare_eq_gt.2 (by omega)]; rfl
      simp only [Option.some_beq_some]
      rw [a2, decide_eq_false (p := b ≤ 4607182418800017408) h1]; simp
  · rw [decide_eq_false (p := b ≤ 4607182418800017408) (by omega)]
    by_cases hs : 9223372036854775808 ≤ b
    · rw [decide_eq_true hs]; simp
    · have e : FloatKind.f64.format.order b 4607182418800017408 = none ∨ FloatKind.f64.format.order b 4607182418800017408 = some .gt := by
        show (double.read b).order (double.read 4607182418800017408) = none ∨ (double.read b).order (double.read 4607182418800017408) = some .gt
        obtain ⟨n, j, e2, -⟩ := read_fin 4607182418800017408 (by omega)
        rw [e2]
        have hs' : double.signWeight = 9223372036854775808 := rfl
        have hb' : double.binade = 4503599627370496 := rfl
        have hi : double.infRung = 9218868437227405312 := rfl
        have z : (b / 9223372036854775808 % 2 == 1) = false := by rw [Nat.div_eq_of_lt (by omega)]; rfl
        unfold Format.read
        simp only [hs', hb', hi]
        rw [z, Nat.mod_eq_of_lt (show b < 9223372036854775808 by omega), if_neg (by omega), if_neg h0]
        split
        · right; rfl
        · left; rfl
      rcases e with e | e
      · rw [e]; simp
      · rw [e]; simp

end Go.Proofs.Ytmeogadkbbeglaa
