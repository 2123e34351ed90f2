/- The walk of money.Scale. -/
import Derived.Test.YtmeogadkbbeglaaW05n
import Derived.Test.YtmeogadkbbeglaaShelf
namespace Go.Proofs.Ytmeogadkbbeglaa
open Go.RowKit
set_option maxHeartbeats 800000

theorem mright_calls (n : Int) (w : World) :
    Calls Try.prog 133 #[.int .i64 n] w fun e w' => e = .returned (.bool (inB (-9007199254740992) n 9007199254740992)) ∧ w = w' := by
  by_cases h : -9007199254740992 ≤ n <;> by_cases h2 : n ≤ 9007199254740992
  all_goals
    go_enter Try.func133, Try.ntmps133
    go_wp2
    go_ret
    exact ⟨ret_bool (by simp [inB, h, h2]), rfl⟩

theorem ret2_int {k : IntKind} {a b : Int} {c : Value} (h : a = b) : Ending.returned (.tuple #[.int k a, c]) = .returned (.tuple #[.int k b, c]) := by rw [h]
theorem frac_of (e m : Nat) (hm : m < 4503599627370496) (h0 : 0 < e) : fracF (e * 4503599627370496 + m) = m + 4503599627370496 := by
  unfold fracF; rw [if_neg (by omega)]; omega
theorem by_of (e m : Nat) (hm : m < 4503599627370496) (h0 : 0 < e) : byF (e * 4503599627370496 + m) = 1075 - e := by
  unfold byF; rw [if_neg (by omega)]; omega

theorem scale_far (n e m : Nat) (hn : n ≤ 9007199254740992) (he : e ≤ 1023) (hm : m < 4503599627370496) (w : World) (h0 : 0 < e) (h64 : 107 < 1075 - e) (hr : rateOk (e * 4503599627370496 + m) = true) :
    Calls Try.prog 89 #[.int .i64 n, .float .f64 (e * 4503599627370496 + m : Nat)] w fun e' w' => e' = .returned (.tuple #[.int .i64 (scaleV n (e * 4503599627370496 + m) : Nat), .int .i64 0]) ∧ Below w.heap.size w w' := by
  have HF := Lib.hid (frac_of e m hm h0)
  have HY := Lib.hid (by_of e m hm h0)
  have hlt : e * 4503599627370496 + m < 18446744073709551616 := by omega
  have hx := bits_run (e * 4503599627370496 + m)
  have h1 : inB (-9007199254740992) n 9007199254740992 = true := by simp [inB]; omega
  have hA : bits .and .u64 (((e * 4503599627370496 + m : Nat)) : Int) 4503599627370495 = (m : Int) := by rw [and52 _ hlt]; congr 1; omega
  have hE : (((e * 4503599627370496 + m : Nat)) : Int) / 4503599627370496 = (e : Int) := by omega
  have hO := or52 m hm
  generalize e * 4503599627370496 + m = b at *
  generalize hf : m + 4503599627370496 = f at *
  have hfl : f < 9007199254740992 := by omega
  have HFF := Lib.hid hf
  clear hf
  go_enter Try.func89, Try.ntmps89
  go_wp2_with (first | (go_at_call 133; (with_reducible refine (mright_calls _ _).mono ?_); rintro e w' ⟨rfl, rfl⟩; rw [h1]) | (go_at_call 76; (with_reducible refine (rate_calls _ hlt _).mono ?_); rintro e w' ⟨rfl, rfl⟩; rw [hr]))
  refine (Try.bits_Mul64 _ _ (by omega) (by omega) _).mono ?_
  have hP := prod_lt n f hn hfl
  have hhl : n * f / 18446744073709551616 < 4398046511104 := by omega
  have hll : n * f % 18446744073709551616 < 18446744073709551616 := by omega
  generalize hhi : n * f / 18446744073709551616 = hi at *
  generalize hlo : n * f % 18446744073709551616 = lo at *
  have HH := Lib.hid hhi
  have HL := Lib.hid hlo
  have HP := Lib.hid hP
  clear hhi hlo hP
  rintro _ w1 ⟨rfl, hw1⟩
  subst hw1
  go_wp2_with fail
  go_ret2
  refine ⟨ret2_int ?_, by (repeat (first | (with_reducible exact Below.refl _ _) | (with_reducible refine bAlloc ?_ _) | (with_reducible refine bDrewN ?_ _) | (with_reducible refine bDrew ?_) | (with_reducible refine bSet ?_ (by first | exact Nat.le_refl _ | (simp; omega) | omega) _) | (with_reducible refine bThen ?_ (by with_reducible assumption))))⟩
  rw [scaleV_far _ _ (by rw [HF.out]; exact HP.out) (by rw [HY.out]; exact h64)]; rfl

theorem scale_a (n e m : Nat) (hn : n ≤ 9007199254740992) (he : e ≤ 1023) (hm : m < 4503599627370496) (w : World) (h0 : 0 < e) (h64 : 64 < 1075 - e) (h107 : 1075 - e ≤ 107) (hr : rateOk (e * 4503599627370496 + m) = true) :
    Calls Try.prog 89 #[.int .i64 n, .float .f64 (e * 4503599627370496 + m : Nat)] w fun e' w' => e' = .returned (.tuple #[.int .i64 (scaleV n (e * 4503599627370496 + m) : Nat), .int .i64 0]) ∧ Below w.heap.size w w' := by
  have HF := Lib.hid (frac_of e m hm h0)
  have HY := Lib.hid (by_of e m hm h0)
  have hlt : e * 4503599627370496 + m < 18446744073709551616 := by omega
  have hx := bits_run (e * 4503599627370496 + m)
  have h1 : inB (-9007199254740992) n 9007199254740992 = true := by simp [inB]; omega
  have hA : bits .and .u64 (((e * 4503599627370496 + m : Nat)) : Int) 4503599627370495 = (m : Int) := by rw [and52 _ hlt]; congr 1; omega
  have hE : (((e * 4503599627370496 + m : Nat)) : Int) / 4503599627370496 = (e : Int) := by omega
  have hO := or52 m hm
  generalize e * 4503599627370496 + m = b at *
  generalize hf : m + 4503599627370496 = f at *
  have hfl : f < 9007199254740992 := by omega
  have HFF := Lib.hid hf
  clear hf
  go_enter Try.func89, Try.ntmps89
  go_wp2_with (first | (go_at_call 133; (with_reducible refine (mright_calls _ _).mono ?_); rintro e w' ⟨rfl, rfl⟩; rw [h1]) | (go_at_call 76; (with_reducible refine (rate_calls _ hlt _).mono ?_); rintro e w' ⟨rfl, rfl⟩; rw [hr]))
  refine (Try.bits_Mul64 _ _ (by omega) (by omega) _).mono ?_
  have hP := prod_lt n f hn hfl
  have hhl : n * f / 18446744073709551616 < 4398046511104 := by omega
  have hll : n * f % 18446744073709551616 < 18446744073709551616 := by omega
  generalize hhi : n * f / 18446744073709551616 = hi at *
  generalize hlo : n * f % 18446744073709551616 = lo at *
  have HH := Lib.hid hhi
  have HL := Lib.hid hlo
  have HP := Lib.hid hP
  clear hhi hlo hP
  rintro _ w1 ⟨rfl, hw1⟩
  subst hw1
  go_wp2_with fail
  go_quiet (fail)
  go_wp2_with fail
  go_ret2
  refine ⟨ret2_int ?_, by (repeat (first | (with_reducible exact Below.refl _ _) | (with_reducible refine bAlloc ?_ _) | (with_reducible refine bDrewN ?_ _) | (with_reducible refine bDrew ?_) | (with_reducible refine bSet ?_ (by first | exact Nat.le_refl _ | (simp; omega) | omega) _) | (with_reducible refine bThen ?_ (by with_reducible assumption))))⟩
  have hc := case_a (n * f) (1075 - e - 65) HP.out
  rw [HH.out] at hc
  rw [hc]
  unfold scaleV
  rw [HF.out, HY.out, show 64 + (1075 - e - 65) = 1075 - e - 1 from by omega]

theorem scale_b (n e m : Nat) (hn : n ≤ 9007199254740992) (he : e ≤ 1023) (hm : m < 4503599627370496) (w : World) (h0 : 0 < e) (h64 : 1075 - e = 64) (hr : rateOk (e * 4503599627370496 + m) = true) :
    Calls Try.prog 89 #[.int .i64 n, .float .f64 (e * 4503599627370496 + m : Nat)] w fun e' w' => e' = .returned (.tuple #[.int .i64 (scaleV n (e * 4503599627370496 + m) : Nat), .int .i64 0]) ∧ Below w.heap.size w w' := by
  have HF := Lib.hid (frac_of e m hm h0)
  have HY := Lib.hid (by_of e m hm h0)
  have hlt : e * 4503599627370496 + m < 18446744073709551616 := by omega
  have hx := bits_run (e * 4503599627370496 + m)
  have h1 : inB (-9007199254740992) n 9007199254740992 = true := by simp [inB]; omega
  have hA : bits .and .u64 (((e * 4503599627370496 + m : Nat)) : Int) 4503599627370495 = (m : Int) := by rw [and52 _ hlt]; congr 1; omega
  have hE : (((e * 4503599627370496 + m : Nat)) : Int) / 4503599627370496 = (e : Int) := by omega
  have hO := or52 m hm
  generalize e * 4503599627370496 + m = b at *
  generalize hf : m + 4503599627370496 = f at *
  have hfl : f < 9007199254740992 := by omega
  have HFF := Lib.hid hf
  clear hf
  go_enter Try.func89, Try.ntmps89
  go_wp2_with (first | (go_at_call 133; (with_reducible refine (mright_calls _ _).mono ?_); rintro e w' ⟨rfl, rfl⟩; rw [h1]) | (go_at_call 76; (with_reducible refine (rate_calls _ hlt _).mono ?_); rintro e w' ⟨rfl, rfl⟩; rw [hr]))
  refine (Try.bits_Mul64 _ _ (by omega) (by omega) _).mono ?_
  have hP := prod_lt n f hn hfl
  have hhl : n * f / 18446744073709551616 < 4398046511104 := by omega
  have hll : n * f % 18446744073709551616 < 18446744073709551616 := by omega
  generalize hhi : n * f / 18446744073709551616 = hi at *
  generalize hlo : n * f % 18446744073709551616 = lo at *
  have HH := Lib.hid hhi
  have HL := Lib.hid hlo
  have HP := Lib.hid hP
  clear hhi hlo hP
  rintro _ w1 ⟨rfl, hw1⟩
  subst hw1
  go_wp2_with fail
  go_ret2
  refine ⟨ret2_int ?_, by (repeat (first | (with_reducible exact Below.refl _ _) | (with_reducible refine bAlloc ?_ _) | (with_reducible refine bDrewN ?_ _) | (with_reducible refine bDrew ?_) | (with_reducible refine bSet ?_ (by first | exact Nat.le_refl _ | (simp; omega) | omega) _) | (with_reducible refine bThen ?_ (by with_reducible assumption))))⟩
  have hc := case_b (n * f) HP.out
  rw [HH.out, HL.out] at hc
  rw [hc]
  unfold scaleV
  rw [HF.out, HY.out, h64]

theorem scale_c (n e m : Nat) (hn : n ≤ 9007199254740992) (he : e ≤ 1023) (hm : m < 4503599627370496) (w : World) (h0 : 0 < e) (h64 : 1075 - e < 64) (hr : rateOk (e * 4503599627370496 + m) = true) :
    Calls Try.prog 89 #[.int .i64 n, .float .f64 (e * 4503599627370496 + m : Nat)] w fun e' w' => e' = .returned (.tuple #[.int .i64 (scaleV n (e * 4503599627370496 + m) : Nat), .int .i64 0]) ∧ Below w.heap.size w w' := by
  have HF := Lib.hid (frac_of e m hm h0)
  have HY := Lib.hid (by_of e m hm h0)
  have hlt : e * 4503599627370496 + m < 18446744073709551616 := by omega
  have hx := bits_run (e * 4503599627370496 + m)
  have h1 : inB (-9007199254740992) n 9007199254740992 = true := by simp [inB]; omega
  have hA : bits .and .u64 (((e * 4503599627370496 + m : Nat)) : Int) 4503599627370495 = (m : Int) := by rw [and52 _ hlt]; congr 1; omega
  have hE : (((e * 4503599627370496 + m : Nat)) : Int) / 4503599627370496 = (e : Int) := by omega
  have hO := or52 m hm
  generalize e * 4503599627370496 + m = b at *
  generalize hf : m + 4503599627370496 = f at *
  have hfl : f < 9007199254740992 := by omega
  have HFF := Lib.hid hf
  clear hf
  go_enter Try.func89, Try.ntmps89
  go_wp2_with (first | (go_at_call 133; (with_reducible refine (mright_calls _ _).mono ?_); rintro e w' ⟨rfl, rfl⟩; rw [h1]) | (go_at_call 76; (with_reducible refine (rate_calls _ hlt _).mono ?_); rintro e w' ⟨rfl, rfl⟩; rw [hr]))
  refine (Try.bits_Mul64 _ _ (by omega) (by omega) _).mono ?_
  have hP := prod_lt n f hn hfl
  have hhl : n * f / 18446744073709551616 < 4398046511104 := by omega
  have hll : n * f % 18446744073709551616 < 18446744073709551616 := by omega
  generalize hhi : n * f / 18446744073709551616 = hi at *
  generalize hlo : n * f % 18446744073709551616 = lo at *
  have HH := Lib.hid hhi
  have HL := Lib.hid hlo
  have HP := Lib.hid hP
  clear hhi hlo hP
  rintro _ w1 ⟨rfl, hw1⟩
  subst hw1
  go_wp2_with fail
  go_quiet (fail)
  go_wp2_with fail
  go_ret2
  refine ⟨ret2_int ?_, by (repeat (first | (with_reducible exact Below.refl _ _) | (with_reducible refine bAlloc ?_ _) | (with_reducible refine bDrewN ?_ _) | (with_reducible refine bDrew ?_) | (with_reducible refine bSet ?_ (by first | exact Nat.le_refl _ | (simp; omega) | omega) _) | (with_reducible refine bThen ?_ (by with_reducible assumption))))⟩
  have hc := case_c (n * f) (1075 - e - 1) HP.out (by omega) (by omega)
  rw [HH.out, HL.out, show 64 - (1075 - e - 1) = 65 - (1075 - e) from by omega] at hc
  rw [hc]
  unfold scaleV
  rw [HF.out, HY.out]

theorem scale_zero (n m : Nat) (hn : n ≤ 9007199254740992) (hm : m < 4503599627370496) (w : World) (hr : rateOk m = true) :
    Calls Try.prog 89 #[.int .i64 n, .float .f64 m] w fun e' w' => e' = .returned (.tuple #[.int .i64 (scaleV n m : Nat), .int .i64 0]) ∧ Below w.heap.size w w' := by
  have HV : Hid (scaleV n m = 0) := scaleV_far n m (prod_lt n _ hn (by unfold fracF; split <;> omega)) (by unfold byF; rw [if_pos (by omega)]; omega)
  have hlt : m < 18446744073709551616 := by omega
  have hx := bits_run m
  have h1 : inB (-9007199254740992) n 9007199254740992 = true := by simp [inB]; omega
  have hA : bits .and .u64 (m : Int) 4503599627370495 = (m : Int) := by rw [and52 _ hlt]; congr 1; omega
  have hE : (m : Int) / 4503599627370496 = 0 := by omega
  go_enter Try.func89, Try.ntmps89
  go_wp2_with (first | (go_at_call 133; (with_reducible refine (mright_calls _ _).mono ?_); rintro e w' ⟨rfl, rfl⟩; rw [h1]) | (go_at_call 76; (with_reducible refine (rate_calls _ hlt _).mono ?_); rintro e w' ⟨rfl, rfl⟩; rw [hr]))
  refine (Try.bits_Mul64 _ _ (by omega) (by omega) _).mono ?_
  have hP := prod_lt n m hn (by omega)
  generalize hhi : n * m / 18446744073709551616 = hi at *
  generalize hlo : n * m % 18446744073709551616 = lo at *
  clear hhi hlo hP
  rintro _ w1 ⟨rfl, hw1⟩
  subst hw1
  go_wp2_with fail
  go_ret2
  exact ⟨ret2_int (by rw [HV.out]; rfl), by (repeat (first | (with_reducible exact Below.refl _ _) | (with_reducible refine bAlloc ?_ _) | (with_reducible refine bDrewN ?_ _) | (with_reducible refine bDrew ?_) | (with_reducible refine bSet ?_ (by first | exact Nat.le_refl _ | (simp; omega) | omega) _) | (with_reducible refine bThen ?_ (by with_reducible assumption))))⟩

/-- money.Scale answers what P5.2 says, of whatever amount and rate. -/
theorem scale_calls (n : Int) (b : Nat) (hb : b < 18446744073709551616) (w : World) :
    Calls Try.prog 89 #[.int .i64 n, .float .f64 b] w fun e' w' => e' = .returned (.tuple #[.int .i64 (scaleF n b).1, .int .i64 (scaleF n b).2]) ∧ Below w.heap.size w w' := by
  cases h1 : inB 0 n 9007199254740992
  · have e1 : scaleF n b = (0, 50) := by simp [scaleF, h1]
    rw [e1]
    by_cases h0 : n < 0
    · go_enter Try.func89, Try.ntmps89
      go_wp2_with fail
      go_ret2
      exact ⟨rfl, Below.refl _ _⟩
    · have h2 : inB (-9007199254740992) n 9007199254740992 = false := by simp [inB] at h1 ⊢; omega
      go_enter Try.func89, Try.ntmps89
      go_wp2_with (go_at_call 133; (with_reducible refine (mright_calls _ _).mono ?_); rintro e w' ⟨rfl, rfl⟩; rw [h2])
      go_ret2
      exact ⟨rfl, Below.refl _ _⟩
  · have h0 : 0 ≤ n ∧ n ≤ 9007199254740992 := by simpa [inB] using h1
    cases hr : rateOk b
    · have e1 : scaleF n b = (0, 51) := by simp [scaleF, h1, hr]
      rw [e1]
      have hlt := hb
      have h2 : inB (-9007199254740992) n 9007199254740992 = true := by simp [inB]; omega
      have h3 : ¬ n < 0 := by omega
      go_enter Try.func89, Try.ntmps89
      go_wp2_with (first | (go_at_call 133; (with_reducible refine (mright_calls _ _).mono ?_); rintro e w' ⟨rfl, rfl⟩; rw [h2]) | (go_at_call 76; (with_reducible refine (rate_calls _ hlt _).mono ?_); rintro e w' ⟨rfl, rfl⟩; rw [hr]))
      go_ret2
      exact ⟨rfl, Below.refl _ _⟩
    · obtain ⟨n, rfl⟩ := Int.eq_ofNat_of_zero_le h0.1
      have e1 : scaleF (n : Int) b = (((scaleV n b : Nat) : Int), (0 : Int)) := by simp [scaleF, h1, hr]
      rw [e1]
      have hbb : b ≤ 4607182418800017408 := by simpa [rateOk] using hr
      by_cases he : b / 4503599627370496 = 0
      · exact scale_zero n b (by omega) (by omega) w hr
      · have eb : b = b / 4503599627370496 * 4503599627370496 + b % 4503599627370496 := by omega
        generalize hE : b / 4503599627370496 = e at *
        generalize hM : b % 4503599627370496 = m at *
        have hm : m < 4503599627370496 := by omega
        have he' : e ≤ 1023 := by omega
        clear hE hM
        subst eb
        by_cases c1 : 107 < 1075 - e
        · exact scale_far n e m (by omega) he' hm w (by omega) c1 hr
        by_cases c2 : 64 < 1075 - e
        · exact scale_a n e m (by omega) he' hm w (by omega) c2 (by omega) hr
        by_cases c3 : 1075 - e = 64
        · exact scale_b n e m (by omega) he' hm w (by omega) c3 hr
        · exact scale_c n e m (by omega) he' hm w (by omega) (by omega) hr

end Go.Proofs.Ytmeogadkbbeglaa
