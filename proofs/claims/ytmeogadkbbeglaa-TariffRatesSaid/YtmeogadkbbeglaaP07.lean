/- Plain laws of tariffs: what follows where tariff.Right answers OK. -/
import Derived.Test.YtmeogadkbbeglaaW05n
namespace Go.Proofs.Ytmeogadkbbeglaa

theorem mn_comm (a b : Int) : mn a b = mn b a := by unfold mn; split <;> split <;> omega
theorem mx_comm (a b : Int) : mx a b = mx b a := by unfold mx; split <;> split <;> omega
theorem spFind_comm (l : List Span) (a b : Int) : spFind l a b = spFind l b a := by unfold spFind; rw [mn_comm a b, mx_comm a b]
theorem single_comm (t : Tariff) (a b : Int) (p : Bool) : singleF t a b p = singleF t b a p := by unfold singleF; rw [spFind_comm]

/-- what Right's OK says -/
theorem right_ok {t : Tariff} (h : rightF t = 0) : R6 t ∧ minsB t = true := by
  have r0 : R0 t := by
    cases hst : stationsF t.st with
    | none => simp [rightF, hst] at h
    | some m =>
      cases hsp : spansF t.sp m with
      | false => simp [rightF, hst, hsp] at h
      | true => exact ⟨m, hst, hsp⟩
  have r1 : R1 t := by
    cases hp : pricesB t with
    | false => have := rf_prices r0 hp; omega
    | true => exact ⟨r0, hp⟩
  have r2 : R2 t := by
    cases hp : t.sp.all spPrice with
    | false => have := rf_sp r1 hp; omega
    | true => exact ⟨r1, hp⟩
  have r3 : R3 t := by
    cases hp : t.sp.all (fun a => t.sp.all (fun b => wide1 a b)) with
    | false => have := rf_wide r2 hp; omega
    | true => exact ⟨r2, hp⟩
  have r4 : R4 t := by
    cases hp : bandsF t.pk with
    | false => have := rf_bands r3 hp; omega
    | true => exact ⟨r3, hp⟩
  have r5 : R5 t := by
    cases hp : rateOk t.off with
    | false => have := rf_rate r4 hp; omega
    | true => exact ⟨r4, hp⟩
  have r6 : R6 t := by
    cases hp : inB 1 t.longest 1440 with
    | false => have := rf_long r5 hp; omega
    | true => exact ⟨r5, hp⟩
  cases hp : minsB t with
  | false => have := rf_mins r6 hp; omega
  | true => exact ⟨r6, rfl⟩
theorem ok_price {t : Tariff} (h : rightF t = 0) {s : Span} (hs : s ∈ t.sp) : priceB s.single = true ∧ priceB s.daily = true ∧ priceB s.weekly = true := by
  have := (right_ok h).1.1.1.1.1.2
  rw [List.all_eq_true] at this
  have := this s hs
  simp [spPrice] at this
  exact ⟨this.1.1, this.1.2, this.2⟩
theorem ok_rate {t : Tariff} (h : rightF t = 0) : rateOk t.off = true := (right_ok h).1.1.2
theorem ok_wide {t : Tariff} (h : rightF t = 0) {a b : Span} (ha : a ∈ t.sp) (hb : b ∈ t.sp) (hf : b.frm ≤ a.frm) (ht : a.to ≤ b.to) : a.single ≤ b.single ∧ a.daily ≤ b.daily ∧ a.weekly ≤ b.weekly := by
  have := (right_ok h).1.1.1.1.2
  rw [List.all_eq_true] at this
  have := this a ha
  rw [List.all_eq_true] at this
  have := this b hb
  simp [wide1, spWithin, spLe] at this
  rcases this with h1 | h1
  · omega
  · exact h1
theorem find_mem {l : List Span} {a b : Int} {s : Span} (h : spFind l a b = some s) : s ∈ l ∧ s.frm = mn a b ∧ s.to = mx a b := by
  unfold spFind at h
  have h1 := List.mem_of_find?_eq_some h
  have h2 := List.find?_some h
  simp at h2
  exact ⟨h1, h2.1, h2.2⟩

theorem frac_le {b : Nat} (h : rateOk b = true) : fracF b ≤ 2 ^ byF b := by
  have hb : b ≤ 4607182418800017408 := by simpa [rateOk] using h
  unfold fracF byF
  split
  · have h52 : ∀ k, 52 ≤ k → (2 : Nat) ^ 52 ≤ 2 ^ k := fun k hk => Nat.pow_le_pow_right (by decide) hk
    have := h52 1074 (by decide)
    generalize (2 : Nat) ^ 1074 = q at *
    clear h52
    have e : (2 : Nat) ^ 52 = 4503599627370496 := by decide
    have := Nat.mod_lt b (show 0 < 4503599627370496 by decide)
    omega
  · by_cases hx : b / 4503599627370496 = 1023
    · rw [hx]
      have e : (2 : Nat) ^ (1075 - 1023) = 4503599627370496 := by decide
      rw [e]; omega
    · have : (2 : Nat) ^ 53 ≤ 2 ^ (1075 - b / 4503599627370496) := Nat.pow_le_pow_right (by decide) (by omega)
      have e : (2 : Nat) ^ 53 = 9007199254740992 := by decide
      have := Nat.mod_lt b (show 0 < 4503599627370496 by decide)
      omega
theorem scaleV_le {n b : Nat} (h : rateOk b = true) : scaleV n b ≤ n := by
  unfold scaleV
  have hf := frac_le h
  have hy : 52 ≤ byF b := by
    have hb : b ≤ 4607182418800017408 := by simpa [rateOk] using h
    unfold byF; split <;> omega
  have h2 : 2 ^ byF b = 2 ^ (byF b - 1) * 2 := by rw [← Nat.pow_succ]; congr 1; omega
  have h3 : n * fracF b ≤ n * (2 ^ (byF b - 1) * 2) := Nat.mul_le_mul_left _ (by omega)
  have h4 : n * fracF b / 2 ^ (byF b - 1) ≤ n * 2 := by
    have : n * (2 ^ (byF b - 1) * 2) / 2 ^ (byF b - 1) = n * 2 := by
      rw [Nat.mul_comm (2 ^ (byF b - 1)), ← Nat.mul_assoc, Nat.mul_div_cancel _ (Nat.two_pow_pos _)]
    rw [← this]
    exact Nat.div_le_div_right h3
  omega
theorem scaleV_mono {n m b : Nat} (h : n ≤ m) : scaleV n b ≤ scaleV m b := by
  unfold scaleV
  have h1 : n * fracF b / 2 ^ (byF b - 1) ≤ m * fracF b / 2 ^ (byF b - 1) := Nat.div_le_div_right (Nat.mul_le_mul_right _ h)
  omega

theorem scaleF_ok {n : Int} {b : Nat} (hn : priceB n = true) (h : rateOk b = true) : scaleF n b = (((scaleV n.toNat b : Nat) : Int), (0 : Int)) := by
  have h1 : 0 ≤ n ∧ n ≤ 1048576 := by simpa [priceB, inB] using hn
  have h2 : inB 0 n 9007199254740992 = true := by simp [inB]; omega
  simp [scaleF, h2, h]

/-- fares of spans, where the tariff may be -/
theorem single_none {t : Tariff} {a b : Int} {p : Bool} (h : spFind t.sp a b = none) : singleF t a b p = (0, 1) := by simp [singleF, h]
theorem single_peak {t : Tariff} {a b : Int} {s : Span} (h : rightF t = 0) (hf : spFind t.sp a b = some s) : singleF t a b true = (s.single, 0) := by
  simp [singleF, hf, (ok_price h (find_mem hf).1).1]
theorem single_off {t : Tariff} {a b : Int} {s : Span} (h : rightF t = 0) (hf : spFind t.sp a b = some s) : singleF t a b false = (((scaleV s.single.toNat t.off : Nat) : Int), (0 : Int)) := by
  simp only [singleF, hf, (ok_price h (find_mem hf).1).1]
  simp [scaleF_ok (ok_price h (find_mem hf).1).1 (ok_rate h)]
theorem off_le {t : Tariff} {a b : Int} {s : Span} (h : rightF t = 0) (hf : spFind t.sp a b = some s) : ((scaleV s.single.toNat t.off : Nat) : Int) ≤ s.single := by
  have h1 : 0 ≤ s.single ∧ s.single ≤ 1048576 := by simpa [priceB, inB] using (ok_price h (find_mem hf).1).1
  have := scaleV_le (n := s.single.toNat) (ok_rate h)
  omega

end Go.Proofs.Ytmeogadkbbeglaa
