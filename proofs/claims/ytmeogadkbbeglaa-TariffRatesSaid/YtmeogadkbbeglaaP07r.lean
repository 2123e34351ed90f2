/- Plain laws of rates: a greater rate makes no fare less. -/
import Derived.Test.YtmeogadkbbeglaaP07
namespace Go.Proofs.Ytmeogadkbbeglaa
set_option maxRecDepth 20000

theorem frac_mono {b c : Nat} (h : b ≤ c) (hc : c ≤ 4607182418800017408) : ∃ d, byF b = byF c + d ∧ fracF b ≤ fracF c * 2 ^ d := by
  have eb := Nat.div_add_mod b 4503599627370496
  have ec := Nat.div_add_mod c 4503599627370496
  have lb := Nat.mod_lt b (show 0 < 4503599627370496 by decide)
  have lc := Nat.mod_lt c (show 0 < 4503599627370496 by decide)
  have hx : c / 4503599627370496 ≤ 1023 := by omega
  unfold byF fracF
  generalize b / 4503599627370496 = x at *
  generalize c / 4503599627370496 = y at *
  generalize b % 4503599627370496 = m at *
  generalize c % 4503599627370496 = n at *
  have hp : ∀ d : Nat, 0 < d → (2 : Nat) ≤ 2 ^ d := fun d hd => by
    have := Nat.pow_le_pow_right (show 0 < 2 by decide) hd
    simpa using this
  by_cases hy : y = 0
  · have : x = 0 := by omega
    subst hy; subst this
    exact ⟨0, rfl, by simp; omega⟩
  · by_cases h0 : x = 0
    · subst h0
      simp only [if_true, if_neg hy]
      refine ⟨y - 1, by omega, ?_⟩
      have : 1 ≤ 2 ^ (y - 1) := Nat.two_pow_pos _
      have := Nat.mul_le_mul_left (n + 4503599627370496) this
      omega
    · simp only [if_neg hy, if_neg h0]
      refine ⟨y - x, by omega, ?_⟩
      by_cases hd : y - x = 0
      · rw [hd]; simp; omega
      · have h2 := hp (y - x) (by omega)
        generalize 2 ^ (y - x) = p at *
        have h3 : (n + 4503599627370496) * 2 ≤ (n + 4503599627370496) * p := Nat.mul_le_mul_left _ h2
        generalize (n + 4503599627370496) * p = q at *
        exact Nat.le_trans (Nat.le_trans (show m + 4503599627370496 ≤ 4503599627370496 * 2 from by rw [Nat.mul_two]; exact Nat.add_le_add_right (Nat.le_of_lt lb) _) (Nat.mul_le_mul_right 2 (Nat.le_add_left _ _))) h3
theorem scaleV_rate {n b c : Nat} (h : b ≤ c) (hc : rateOk c = true) : scaleV n b ≤ scaleV n c := by
  have hc' : c ≤ 4607182418800017408 := by simpa [rateOk] using hc
  obtain ⟨d, hd, hf⟩ := frac_mono h hc'
  have hy : 52 ≤ byF c := by unfold byF; split <;> omega
  unfold scaleV
  rw [hd, show byF c + d - 1 = byF c - 1 + d by omega, Nat.pow_add]
  have h1 : n * fracF b / (2 ^ (byF c - 1) * 2 ^ d) ≤ n * fracF c / 2 ^ (byF c - 1) := by
    rw [← Nat.mul_div_mul_right (n * fracF c) (2 ^ (byF c - 1)) (Nat.two_pow_pos d), Nat.mul_assoc n (fracF c)]
    exact Nat.div_le_div_right (Nat.mul_le_mul_left _ hf)
  omega
theorem rate_lt {b : Nat} (h : rateOk b = true) : b < 9218868437227405312 := by
  have : b ≤ 4607182418800017408 := by simpa [rateOk] using h
  omega

end Go.Proofs.Ytmeogadkbbeglaa
