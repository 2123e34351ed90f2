/- What the claim's walk leans on: U07b, W07u. -/
import Derived.Test.YtmeogadkbbeglaaK6
import Derived.Test.YtmeogadkbbeglaaK8
import Derived.Test.YtmeogadkbbeglaaW07k
import Derived.Test.YtmeogadkbbeglaaH3
section
namespace Go.Proofs.Ytmeogadkbbeglaa
open Go.RowKit Go.Proofs.YtmeogadkbbeglaaQ Go.Proofs.YtmeogadkbbeglaaW.PrintWords Go.Proofs.YtmeogadkbbeglaaW.PrintLast Go.Proofs.YtmeogadkbbeglaaW.PrintMore
set_option linter.unusedVariables false
def stOut : Option Station → Int × Int × Int × Bool
  | some s => (s.id, s.zone, s.grp, true)
  | none => (0, 0, 0, false)
def spOut : Option Span → Int × Int × Int × Int × Int × Bool
  | some s => (s.frm, s.to, s.single, s.daily, s.weekly, true)
  | none => (0, 0, 0, 0, 0, false)
theorem refst_l (t : Tariff) (h : Tariff.fits t) (id : Int) : ∀ (d i : Nat), i + d = t.st.length → Ev (fun k => fareboxref07_Station.l0 k id i ((t).st.map ofSt) ((t).sp.map ofSp) ((t).pk.map ofBd) (t).off (t).bus (t).busDaily (t).busWeekly (t).hopper (t).most (t).longest (t).change (t).passback (t).delay (t).threshold) (stOut (stFind (t.st.drop i) id))
  | 0, i, hd => by
    refine Ev.step (f := fun _ => some (0, 0, 0, false)) (fun k => ?_) ?_
    · simp only [fareboxref07_Station.l0, List.length_map]
      rw [if_neg (by omega)]
    · rw [List.drop_of_length_le (by omega)]; exact Ev.now _
  | d + 1, i, hd => by
    have hi : i < t.st.length := by omega
    have hl := h.1
    rw [drop_cons hi]
    by_cases he : t.st[i].id = id
    · have e : stFind (t.st[i] :: t.st.drop (i + 1)) id = some t.st[i] := by unfold stFind; rw [List.find?_cons_of_pos]; simpa using he
      rw [e]
      refine Ev.step (f := fun _ => some _) (fun k => ?_) (Ev.now _)
      simp only [fareboxref07_Station.l0, List.length_map, rd_st t.st i hi, ofSt]
      rw [if_pos (by omega), if_pos (by omega), if_pos he]
      rfl
    · have e : stFind (t.st[i] :: t.st.drop (i + 1)) id = stFind (t.st.drop (i + 1)) id := by unfold stFind; rw [List.find?_cons_of_neg]; simpa using he
      rw [e]
      refine Ev.step (f := fun k => fareboxref07_Station.l0 k id ((i + 1 : Nat) : Int) ((t).st.map ofSt) ((t).sp.map ofSp) ((t).pk.map ofBd) (t).off (t).bus (t).busDaily (t).busWeekly (t).hopper (t).most (t).longest (t).change (t).passback (t).delay (t).threshold) (fun k => ?_) (refst_l t h id d (i + 1) (by omega))
      simp only [fareboxref07_Station.l0, List.length_map, rd_st t.st i hi, ofSt, wrap_up (i := i) (by omega)]
      rw [if_pos (by omega), if_pos (by omega), if_neg he]
theorem refst_ev (t : Tariff) (h : Tariff.fits t) (id : Int) : Ev (fun k => fareboxref07_Station.f k ((t).st.map ofSt) ((t).sp.map ofSp) ((t).pk.map ofBd) (t).off (t).bus (t).busDaily (t).busWeekly (t).hopper (t).most (t).longest (t).change (t).passback (t).delay (t).threshold id) (stOut (stFind t.st id)) := by
  have := refst_l t h id t.st.length 0 (by omega)
  rw [List.drop_zero] at this
  exact this
theorem refsp_l (t : Tariff) (h : Tariff.fits t) (a b : Int) : ∀ (d i : Nat), i + d = t.sp.length → Ev (fun k => fareboxref07_Span.l0 k a b i ((t).st.map ofSt) ((t).sp.map ofSp) ((t).pk.map ofBd) (t).off (t).bus (t).busDaily (t).busWeekly (t).hopper (t).most (t).longest (t).change (t).passback (t).delay (t).threshold) (spOut (spFind (t.sp.drop i) a b))
  | 0, i, hd => by
    refine Ev.step (f := fun _ => some (0, 0, 0, 0, 0, false)) (fun k => ?_) ?_
    · simp only [fareboxref07_Span.l0, List.length_map]
      rw [if_neg (by omega)]
    · rw [List.drop_of_length_le (by omega)]; exact Ev.now _
  | d + 1, i, hd => by
    have hi : i < t.sp.length := by omega
    have hl := h.2.1
    have em : Go.Proofs.YtmeogadkbbeglaaW.PrintWords.mn a b = Go.Proofs.Ytmeogadkbbeglaa.mn a b := by unfold Go.Proofs.YtmeogadkbbeglaaW.PrintWords.mn Go.Proofs.Ytmeogadkbbeglaa.mn; split <;> split <;> omega
    have ex : Go.Proofs.YtmeogadkbbeglaaW.PrintWords.mx a b = Go.Proofs.Ytmeogadkbbeglaa.mx a b := rfl
    rw [drop_cons hi]
    by_cases he : t.sp[i].frm = Go.Proofs.Ytmeogadkbbeglaa.mn a b ∧ t.sp[i].to = Go.Proofs.Ytmeogadkbbeglaa.mx a b
    · have e : spFind (t.sp[i] :: t.sp.drop (i + 1)) a b = some t.sp[i] := by unfold spFind; rw [List.find?_cons_of_pos]; simpa using he
      rw [e]
      refine Ev.step (f := fun _ => some _) (fun k => ?_) (Ev.now _)
      simp only [fareboxref07_Span.l0, List.length_map, rd_sp t.sp i hi, ofSp, em, ex]
      rw [if_pos (by omega), if_pos (by omega), if_pos he.1, if_pos he.2]
      rfl
    · have e : spFind (t.sp[i] :: t.sp.drop (i + 1)) a b = spFind (t.sp.drop (i + 1)) a b := by
        unfold spFind
        rw [List.find?_cons_of_neg]
        simpa using he
      rw [e]
      refine Ev.step (f := fun k => fareboxref07_Span.l0 k a b ((i + 1 : Nat) : Int) ((t).st.map ofSt) ((t).sp.map ofSp) ((t).pk.map ofBd) (t).off (t).bus (t).busDaily (t).busWeekly (t).hopper (t).most (t).longest (t).change (t).passback (t).delay (t).threshold) (fun k => ?_) (refsp_l t h a b d (i + 1) (by omega))
      simp only [fareboxref07_Span.l0, List.length_map, rd_sp t.sp i hi, ofSp, em, ex, wrap_up (i := i) (by omega)]
      rw [if_pos (by omega), if_pos (by omega)]
      refine ite_out (fun h1 => ite_out (fun h2 => absurd ⟨h1, h2⟩ he) (fun _ => rfl)) (fun _ => rfl)
theorem refsp_ev (t : Tariff) (h : Tariff.fits t) (a b : Int) : Ev (fun k => fareboxref07_Span.f k ((t).st.map ofSt) ((t).sp.map ofSp) ((t).pk.map ofBd) (t).off (t).bus (t).busDaily (t).busWeekly (t).hopper (t).most (t).longest (t).change (t).passback (t).delay (t).threshold a b) (spOut (spFind t.sp a b)) := by
  have := refsp_l t h a b t.sp.length 0 (by omega)
  rw [List.drop_zero] at this
  exact this
def dig (V : Nat) : List Int := [((V % 4294967296 : Nat) : Int), ((V / 4294967296 % 4294967296 : Nat) : Int), ((V / 18446744073709551616 % 4294967296 : Nat) : Int), ((V / 79228162514264337593543950336 : Nat) : Int)]
theorem tdiv_nat (a b : Nat) : Int.tdiv (a : Int) (b : Int) = ((a / b : Nat) : Int) := by rw [Int.tdiv_eq_ediv_of_nonneg (by omega)]; rfl
theorem tmod_nat (a b : Nat) : Int.tmod (a : Int) (b : Int) = ((a % b : Nat) : Int) := by rw [Int.tmod_eq_emod_of_nonneg (by omega)]; rfl
theorem u64_nat (a : Nat) (h : a < 18446744073709551616) : IntKind.u64.wrap (a : Int) = (a : Int) := by rw [IntKind.wrap_u64]; omega
theorem half_digit (d e : Nat) (hd : d < 4294967296) : IntKind.u64.wrap ((IntKind.u64.wrap (Int.tdiv (d : Int) 2)) + (IntKind.u64.wrap ((Int.tmod (e : Int) 2) * 2147483648))) = ((d / 2 + e % 2 * 2147483648 : Nat) : Int) := by
  have e1 : Int.tdiv (d : Int) 2 = ((d / 2 : Nat) : Int) := tdiv_nat d 2
  have e2 : Int.tmod (e : Int) 2 = ((e % 2 : Nat) : Int) := tmod_nat e 2
  rw [e1, e2, IntKind.wrap_u64, IntKind.wrap_u64, IntKind.wrap_u64]
  omega
theorem half_digit0 (d : Nat) (hd : d < 4294967296) : IntKind.u64.wrap ((IntKind.u64.wrap (Int.tdiv (d : Int) 2)) + (0 * 2147483648)) = ((d / 2 : Nat) : Int) := by
  have e1 : Int.tdiv (d : Int) 2 = ((d / 2 : Nat) : Int) := tdiv_nat d 2
  rw [e1, IntKind.wrap_u64, IntKind.wrap_u64]
  omega
theorem halve (d0 d1 d2 d3 : Nat) (h0 : d0 < 4294967296) (h1 : d1 < 4294967296) (h2 : d2 < 4294967296) (h3 : d3 < 4294967296) (x h : Int) {r : Int × Int}
    (hr : Ev (fun k => fareboxref05_Scale.l0 k (wrap64 (x + 1)) [((d0 / 2 + d1 % 2 * 2147483648 : Nat) : Int), ((d1 / 2 + d2 % 2 * 2147483648 : Nat) : Int), ((d2 / 2 + d3 % 2 * 2147483648 : Nat) : Int), ((d3 / 2 : Nat) : Int)] h) r) :
    Ev (fun k => fareboxref05_Scale.l1 k x [(d0 : Int), (d1 : Int), (d2 : Int), (d3 : Int)] h 0) r := by
  have w0 : wrap64 ((0 : Int) + 1) = 1 := by unfold wrap64; omega
  have w1 : wrap64 ((1 : Int) + 1) = 2 := by unfold wrap64; omega
  have w2 : wrap64 ((2 : Int) + 1) = 3 := by unfold wrap64; omega
  have w3 : wrap64 ((3 : Int) + 1) = 4 := by unfold wrap64; omega
  refine Ev.step (f := fun k => fareboxref05_Scale.l1 k x [((d0 / 2 + d1 % 2 * 2147483648 : Nat) : Int), (d1 : Int), (d2 : Int), (d3 : Int)] h 1) (fun k => ?_) ?_
  · simp only [fareboxref05_Scale.l1, w0]
    rw [show rd [(d0 : Int), (d1 : Int), (d2 : Int), (d3 : Int)] 0 = (d0 : Int) from rfl, show rd [(d0 : Int), (d1 : Int), (d2 : Int), (d3 : Int)] 1 = (d1 : Int) from rfl, half_digit d0 d1 h0]
    rfl
  refine Ev.step (f := fun k => fareboxref05_Scale.l1 k x [((d0 / 2 + d1 % 2 * 2147483648 : Nat) : Int), ((d1 / 2 + d2 % 2 * 2147483648 : Nat) : Int), (d2 : Int), (d3 : Int)] h 2) (fun k => ?_) ?_
  · simp only [fareboxref05_Scale.l1, w1]
    generalize ((d0 / 2 + d1 % 2 * 2147483648 : Nat) : Int) = e0
    rw [show rd [e0, (d1 : Int), (d2 : Int), (d3 : Int)] 1 = (d1 : Int) from rfl, show rd [e0, (d1 : Int), (d2 : Int), (d3 : Int)] 2 = (d2 : Int) from rfl, half_digit d1 d2 h1]
    rfl
  refine Ev.step (f := fun k => fareboxref05_Scale.l1 k x [((d0 / 2 + d1 % 2 * 2147483648 : Nat) : Int), ((d1 / 2 + d2 % 2 * 2147483648 : Nat) : Int), ((d2 / 2 + d3 % 2 * 2147483648 : Nat) : Int), (d3 : Int)] h 3) (fun k => ?_) ?_
  · simp only [fareboxref05_Scale.l1, w2]
    generalize ((d0 / 2 + d1 % 2 * 2147483648 : Nat) : Int) = e0
    generalize ((d1 / 2 + d2 % 2 * 2147483648 : Nat) : Int) = e1
    rw [show rd [e0, e1, (d2 : Int), (d3 : Int)] 2 = (d2 : Int) from rfl, show rd [e0, e1, (d2 : Int), (d3 : Int)] 3 = (d3 : Int) from rfl, half_digit d2 d3 h2]
    rfl
  refine Ev.step (f := fun k => fareboxref05_Scale.l1 k x [((d0 / 2 + d1 % 2 * 2147483648 : Nat) : Int), ((d1 / 2 + d2 % 2 * 2147483648 : Nat) : Int), ((d2 / 2 + d3 % 2 * 2147483648 : Nat) : Int), ((d3 / 2 : Nat) : Int)] h 4) (fun k => ?_) ?_
  · simp only [fareboxref05_Scale.l1, w3]
    generalize ((d0 / 2 + d1 % 2 * 2147483648 : Nat) : Int) = e0
    generalize ((d1 / 2 + d2 % 2 * 2147483648 : Nat) : Int) = e1
    generalize ((d2 / 2 + d3 % 2 * 2147483648 : Nat) : Int) = e2
    rw [show rd [e0, e1, e2, (d3 : Int)] 3 = (d3 : Int) from rfl, half_digit0 d3 h3]
    rfl
  refine Ev.step (f := fun k => fareboxref05_Scale.l0 k (wrap64 (x + 1)) [((d0 / 2 + d1 % 2 * 2147483648 : Nat) : Int), ((d1 / 2 + d2 % 2 * 2147483648 : Nat) : Int), ((d2 / 2 + d3 % 2 * 2147483648 : Nat) : Int), ((d3 / 2 : Nat) : Int)] h) (fun k => ?_) hr
  simp only [fareboxref05_Scale.l1]
  rfl
theorem dig_half (V : Nat) (hV : V < 340282366920938463463374607431768211456) : [((V % 4294967296 / 2 + V / 4294967296 % 4294967296 % 2 * 2147483648 : Nat) : Int), ((V / 4294967296 % 4294967296 / 2 + V / 18446744073709551616 % 4294967296 % 2 * 2147483648 : Nat) : Int), ((V / 18446744073709551616 % 4294967296 / 2 + V / 79228162514264337593543950336 % 2 * 2147483648 : Nat) : Int), ((V / 79228162514264337593543950336 / 2 : Nat) : Int)] = dig (V / 2) := by
  unfold dig
  have a : V % 4294967296 / 2 + V / 4294967296 % 4294967296 % 2 * 2147483648 = V / 2 % 4294967296 := by omega
  have b : V / 4294967296 % 4294967296 / 2 + V / 18446744073709551616 % 4294967296 % 2 * 2147483648 = V / 2 / 4294967296 % 4294967296 := by omega
  have c : V / 18446744073709551616 % 4294967296 / 2 + V / 79228162514264337593543950336 % 2 * 2147483648 = V / 2 / 18446744073709551616 % 4294967296 := by omega
  have d : V / 79228162514264337593543950336 / 2 = V / 2 / 79228162514264337593543950336 := by omega
  rw [a, b, c, d]
theorem halves (p : Nat) : ∀ (V : Nat) (h : Int), V < 340282366920938463463374607431768211456 → p ≤ 2000 → V / 2 ^ p < 4611686018427387904 → (p = 0 → 0 ≤ h ∧ h ≤ 1) →
    Ev (fun k => fareboxref05_Scale.l0 k (-(p : Int)) (dig V) h) (((V / 2 ^ p : Nat) : Int) + (if p = 0 then h else ((V / 2 ^ (p - 1) % 2 : Nat) : Int)), 0) := by
  induction p with
  | zero =>
    intro V h hV hp hs hh
    have hh := hh rfl
    simp only [Nat.pow_zero, Nat.div_one] at hs
    refine Ev.step (f := fun _ => some _) (fun k => ?_) (Ev.now _)
    rw [show dig V = [((V % 4294967296 : Nat) : Int), ((V / 4294967296 % 4294967296 : Nat) : Int), ((V / 18446744073709551616 % 4294967296 : Nat) : Int), ((V / 79228162514264337593543950336 : Nat) : Int)] from rfl]
    have e : wrap64 (((((V / 4294967296 % 4294967296 : Nat) : Int) * 4294967296 % 18446744073709551616 + ((V % 4294967296 : Nat) : Int)) % 18446744073709551616 + h) % 18446744073709551616) = (V : Int) + h := by
      unfold wrap64; omega
    generalize ((V % 4294967296 : Nat) : Int) = x0 at *
    generalize ((V / 4294967296 % 4294967296 : Nat) : Int) = x1 at *
    generalize ((V / 18446744073709551616 % 4294967296 : Nat) : Int) = x2 at *
    generalize ((V / 79228162514264337593543950336 : Nat) : Int) = x3 at *
    simp only [fareboxref05_Scale.l0]
    refine (if_neg (by omega)).trans ((if_pos (by simp)).trans ((if_pos (by simp)).trans ?_))
    rw [show rd [x0, x1, x2, x3] 1 = x1 from rfl, show rd [x0, x1, x2, x3] 0 = x0 from rfl]
    simp only [Nat.pow_zero, Nat.div_one, if_true, IntKind.wrap_u64]
    rw [e]
  | succ p ih =>
    intro V h hV hp hs hh
    have hlt : V / 79228162514264337593543950336 < 4294967296 := by omega
    refine Ev.step (f := fun k => fareboxref05_Scale.l1 k (-((p + 1 : Nat) : Int)) (dig V) (Int.tmod ((V % 4294967296 : Nat) : Int) 2) 0) (fun k => ?_) ?_
    · simp only [fareboxref05_Scale.l0]
      refine (if_pos (by omega)).trans ((if_pos (by simp [dig])).trans ?_)
      rfl
    · have e2 : Int.tmod ((V % 4294967296 : Nat) : Int) 2 = ((V % 2 : Nat) : Int) := by
        rw [show (2 : Int) = ((2 : Nat) : Int) from rfl, tmod_nat]; congr 1; omega
      rw [e2]
      refine halve _ _ _ _ (by omega) (by omega) (by omega) hlt _ _ ?_
      rw [dig_half V hV]
      have ew : wrap64 (-((p + 1 : Nat) : Int) + 1) = -(p : Int) := by unfold wrap64; omega
      rw [ew]
      have e3 : V / 2 / 2 ^ p = V / 2 ^ (p + 1) := by rw [Nat.div_div_eq_div_mul, Nat.pow_succ, Nat.mul_comm]
      have := ih (V / 2) ((V % 2 : Nat) : Int) (by omega) (by omega) (by rw [e3]; exact hs) (fun _ => by omega)
      rw [e3] at this
      have e4 : (if p = 0 then ((V % 2 : Nat) : Int) else ((V / 2 / 2 ^ (p - 1) % 2 : Nat) : Int)) = (if p + 1 = 0 then h else ((V / 2 ^ (p + 1 - 1) % 2 : Nat) : Int)) := by
        rw [if_neg (Nat.succ_ne_zero p)]
        cases p with
        | zero => simp
        | succ q =>
          rw [if_neg (Nat.succ_ne_zero q)]
          congr 2
          rw [Nat.div_div_eq_div_mul, show q + 1 - 1 = q from rfl, show q + 1 + 1 - 1 = q + 1 from rfl, Nat.pow_succ, Nat.mul_comm]
      rw [e4] at this
      exact this
theorem long_mul (a w : Nat) (ha : a ≤ 9007199254740992) (hw : w < 9007199254740992) {r : Int × Int} (c : Int)
    (h : Ev (fun k => fareboxref05_Scale.l0 k c (dig (a * w)) 0) r) :
    Ev (fun k => (some (([Int.tmod (IntKind.u64.wrap ((Int.tmod (IntKind.u64.wrap (a : Int)) 4294967296) * (Int.tmod (w : Int) 4294967296))) 4294967296, Int.tmod (IntKind.u64.wrap ((IntKind.u64.wrap ((IntKind.u64.wrap ((IntKind.u64.wrap (Int.tdiv (IntKind.u64.wrap (a : Int)) 4294967296)) * (Int.tmod (w : Int) 4294967296))) + (IntKind.u64.wrap ((IntKind.u64.wrap (Int.tdiv (w : Int) 4294967296)) * (Int.tmod (IntKind.u64.wrap (a : Int)) 4294967296))))) + (IntKind.u64.wrap (Int.tdiv (IntKind.u64.wrap ((Int.tmod (IntKind.u64.wrap (a : Int)) 4294967296) * (Int.tmod (w : Int) 4294967296))) 4294967296)))) 4294967296, IntKind.u64.wrap ((IntKind.u64.wrap ((IntKind.u64.wrap (Int.tdiv (IntKind.u64.wrap (a : Int)) 4294967296)) * (IntKind.u64.wrap (Int.tdiv (w : Int) 4294967296)))) + (IntKind.u64.wrap (Int.tdiv (IntKind.u64.wrap ((IntKind.u64.wrap ((IntKind.u64.wrap ((IntKind.u64.wrap (Int.tdiv (IntKind.u64.wrap (a : Int)) 4294967296)) * (Int.tmod (w : Int) 4294967296))) + (IntKind.u64.wrap ((IntKind.u64.wrap (Int.tdiv (w : Int) 4294967296)) * (Int.tmod (IntKind.u64.wrap (a : Int)) 4294967296))))) + (IntKind.u64.wrap (Int.tdiv (IntKind.u64.wrap ((Int.tmod (IntKind.u64.wrap (a : Int)) 4294967296) * (Int.tmod (w : Int) 4294967296))) 4294967296)))) 4294967296))), 0] : List Int) : List Int)).bind fun y474 => (if 2 < (y474.length : Int) then (if 3 < (y474.length : Int) then ((some (y474.set (3 : Int).toNat (IntKind.u64.wrap (Int.tdiv (rd y474 2) 4294967296)) : List Int)).bind fun y478 => (fareboxref05_Scale.l0 k c (y478.set (2 : Int).toNat (Int.tmod (rd y478 2) 4294967296)) 0)) else (none)) else (none))) r := by
  have m1 : Int.tmod (a : Int) 4294967296 = ((a % 4294967296 : Nat) : Int) := tmod_nat a 4294967296
  have m2 : Int.tmod (w : Int) 4294967296 = ((w % 4294967296 : Nat) : Int) := tmod_nat w 4294967296
  have q1 : Int.tdiv (a : Int) 4294967296 = ((a / 4294967296 : Nat) : Int) := tdiv_nat a 4294967296
  have q2 : Int.tdiv (w : Int) 4294967296 = ((w / 4294967296 : Nat) : Int) := tdiv_nat w 4294967296
  have l0 : a % 4294967296 < 4294967296 := by omega
  have l1 : w % 4294967296 < 4294967296 := by omega
  have l2 : a / 4294967296 ≤ 2097152 := by omega
  have l3 : w / 4294967296 ≤ 2097152 := by omega
  have ea : a = a / 4294967296 * 4294967296 + a % 4294967296 := by omega
  have ew : w = w / 4294967296 * 4294967296 + w % 4294967296 := by omega
  rw [u64_nat a (by omega), m1, m2, q1, q2]
  generalize a % 4294967296 = a0 at *
  generalize w % 4294967296 = w0 at *
  generalize a / 4294967296 = a1 at *
  generalize w / 4294967296 = w1 at *
  have n0 : a0 * w0 ≤ 4294967295 * 4294967295 := Nat.mul_le_mul (by omega) (by omega)
  have n1 : a1 * w0 ≤ 2097152 * 4294967295 := Nat.mul_le_mul (by omega) (by omega)
  have n2 : w1 * a0 ≤ 2097152 * 4294967295 := Nat.mul_le_mul (by omega) (by omega)
  have n3 : a1 * w1 ≤ 2097152 * 2097152 := Nat.mul_le_mul (by omega) (by omega)
  have eV : a * w = a0 * w0 + (a1 * w0 + w1 * a0) * 4294967296 + a1 * w1 * 18446744073709551616 := by
    rw [ea, ew, Nat.add_mul, Nat.mul_add, Nat.mul_add, show a1 * 4294967296 * (w1 * 4294967296) = a1 * w1 * 18446744073709551616 from by rw [Nat.mul_assoc, Nat.mul_left_comm 4294967296, ← Nat.mul_assoc],
      show a1 * 4294967296 * w0 = a1 * w0 * 4294967296 from by rw [Nat.mul_assoc, Nat.mul_comm 4294967296, ← Nat.mul_assoc],
      show a0 * (w1 * 4294967296) = w1 * a0 * 4294967296 from by rw [← Nat.mul_assoc, Nat.mul_comm a0 w1]]
    omega
  simp only [← Int.natCast_mul, u64_nat w1 (show w1 < 18446744073709551616 by omega), u64_nat a1 (show a1 < 18446744073709551616 by omega)]
  rw [eV] at h
  generalize a0 * w0 = x at *
  generalize a1 * w0 = y at *
  generalize w1 * a0 = z at *
  generalize a1 * w1 = u at *
  have r1 : Int.tmod (x : Int) 4294967296 = ((x % 4294967296 : Nat) : Int) := tmod_nat x 4294967296
  have r2 : Int.tdiv (x : Int) 4294967296 = ((x / 4294967296 : Nat) : Int) := tdiv_nat x 4294967296
  have r3 : ∀ n : Nat, Int.tdiv (n : Int) 4294967296 = ((n / 4294967296 : Nat) : Int) := fun n => tdiv_nat n 4294967296
  have r4 : ∀ n : Nat, Int.tmod (n : Int) 4294967296 = ((n % 4294967296 : Nat) : Int) := fun n => tmod_nat n 4294967296
  have s1 : IntKind.u64.wrap (((y : Int)) + (z : Int)) = ((y + z : Nat) : Int) := by rw [IntKind.wrap_u64]; omega
  rw [u64_nat x (by omega), u64_nat y (by omega), u64_nat z (by omega), u64_nat u (by omega), r1, r2, s1, u64_nat (x / 4294967296) (by omega), ← Int.natCast_add, u64_nat (y + z + x / 4294967296) (by omega), r3, r4, u64_nat ((y + z + x / 4294967296) / 4294967296) (by omega), ← Int.natCast_add, u64_nat (u + (y + z + x / 4294967296) / 4294967296) (by omega)]
  refine Ev.congr (fun k => ?_) h
  simp only [Option.bind_some]
  refine (if_pos (by simp)).trans ((if_pos (by simp)).trans ?_)
  generalize hD : u + (y + z + x / 4294967296) / 4294967296 = D
  rw [show ∀ p q s : Int, rd [p, q, (D : Int), s] 2 = (D : Int) from fun _ _ _ => rfl, r3, u64_nat (D / 4294967296) (by omega)]
  simp only [show ((3 : Int).toNat) = 3 from rfl, show ((2 : Int).toNat) = 2 from rfl, List.set_cons_succ, List.set_cons_zero]
  rw [show ∀ p q s : Int, rd [p, q, (D : Int), s] 2 = (D : Int) from fun _ _ _ => rfl, r4]
  congr 1
  unfold dig
  congr 1
  · omega
  · congr 1
    · omega
    · congr 1
      · omega
      · congr 1; omega
theorem refscale_ev (n : Int) (b : Nat) (h : b < 18446744073709551616) : Ev (fun k => fareboxref05_Scale.f k n b) (scaleF n b) := by
  have er : fareboxref05_Right.f n = some (inB (-9007199254740992) n 9007199254740992) := by
    unfold fareboxref05_Right.f inB
    by_cases h : n ≥ -9007199254740992
    · rw [if_pos h]; congr 1; apply decide_eq_decide.2; omega
    · rw [if_neg h]; congr 1; symm; apply decide_eq_false; omega
  have h50 : inB 0 n 9007199254740992 = false → scaleF n b = (0, 50) := fun hh => by simp [scaleF, hh]
  have hbad : Ev (fun k => fareboxref05_Scale.j0 k n b true) (0, 50) := by
    refine Ev.step (f := fun _ => some (0, 50)) (fun k => ?_) (Ev.now _)
    simp only [fareboxref05_Scale.j0]; rfl
  unfold fareboxref05_Scale.f
  simp only [er, Option.bind_some]
  by_cases hn : 0 ≤ n ∧ n ≤ 9007199254740992
  · have i1 : inB (-9007199254740992) n 9007199254740992 = true := decide_eq_true (by omega)
    have i2 : inB 0 n 9007199254740992 = true := decide_eq_true (by omega)
    simp only [i1, if_true]
    rw [decide_eq_false (by omega)]
    cases hr : rateOk b with
    | false =>
      have e : scaleF n b = (0, 51) := by simp [scaleF, i2, hr]
      rw [e]
      refine Ev.step (f := fun _ => some (0, 51)) (fun k => ?_) (Ev.now _)
      simp only [fareboxref05_Scale.j0, rate_f h, hr, Option.bind_some]; rfl
    | true =>
      have hb : b ≤ 4607182418800017408 := by simpa [rateOk] using hr
      obtain ⟨a, rfl⟩ : ∃ a : Nat, n = a := ⟨n.toNat, by omega⟩
      have hw : (partsF b).2.1 = fracF b ∧ (partsF b).2.2.1 = -(byF b : Int) := by
        unfold partsF fracF byF
        have e2 : powN b = b / 4503599627370496 := by unfold powN; omega
        rw [e2, if_neg (by omega)]
        by_cases hz : b / 4503599627370496 = 0
        · rw [if_pos hz, if_pos hz, if_pos hz]; exact ⟨rfl, rfl⟩
        · rw [if_neg hz, if_neg hz, if_neg hz]; refine ⟨rfl, ?_⟩; show ((b / 4503599627370496 : Nat) : Int) - 1075 = -((1075 - b / 4503599627370496 : Nat) : Int); omega
      have hf : fracF b < 9007199254740992 := by unfold fracF; split <;> omega
      have hy : 52 ≤ byF b ∧ byF b ≤ 1074 := by unfold byF; split <;> omega
      have e : scaleF (a : Int) b = (((scaleV a b : Nat) : Int), 0) := by simp [scaleF, i2, hr]
      rw [e]
      refine Ev.step (fun k => ?_) (long_mul a (fracF b) (by omega) hf (-(byF b : Int)) ?_)
      · simp only [fareboxref05_Scale.j0, rate_f h, hr, parts_f h, hw.1, hw.2, Option.bind_some]
        rfl
      · have hP : a * fracF b ≤ 9007199254740992 * 9007199254740991 := Nat.mul_le_mul (by omega) (by omega)
        have h2 : a * fracF b / 2 ^ byF b < 4611686018427387904 := by
          have : 2 ^ 52 ≤ 2 ^ byF b := Nat.pow_le_pow_right (by decide) hy.1
          have h3 : a * fracF b / 2 ^ byF b ≤ a * fracF b / 2 ^ 52 := Nat.div_le_div_left this (by decide)
          omega
        have := halves (byF b) (a * fracF b) 0 (by omega) (by omega) h2 (fun h => by omega)
        have ee : ((a * fracF b / 2 ^ byF b : Nat) : Int) + (if byF b = 0 then 0 else ((a * fracF b / 2 ^ (byF b - 1) % 2 : Nat) : Int)) = ((scaleV a b : Nat) : Int) := by
          rw [if_neg (by omega)]
          unfold scaleV
          have e3 : a * fracF b / 2 ^ byF b = a * fracF b / 2 ^ (byF b - 1) / 2 := by
            rw [Nat.div_div_eq_div_mul, ← Nat.pow_succ]; congr 2; omega
          rw [e3]; omega
        rw [ee] at this
        exact this
  · rw [h50 (decide_eq_false (by omega))]
    cases hi : inB (-9007199254740992) n 9007199254740992 with
    | false => exact hbad
    | true =>
      have hi2 : -9007199254740992 ≤ n ∧ n ≤ 9007199254740992 := of_decide_eq_true hi
      simp only [if_true]
      rw [decide_eq_true (show n < 0 by omega)]
      exact hbad
theorem refsingle_ev (t : Tariff) (h : Tariff.fits t) (a b : Int) (p : Bool) : Ev (fun k => fareboxref07_Single.f k ((t).st.map ofSt) ((t).sp.map ofSp) ((t).pk.map ofBd) (t).off (t).bus (t).busDaily (t).busWeekly (t).hopper (t).most (t).longest (t).change (t).passback (t).delay (t).threshold a b p) (singleF t a b p) := by
  unfold fareboxref07_Single.f
  refine Ev.bind (refsp_ev t h a b) ?_
  cases hs : spFind t.sp a b with
  | none => simp only [spOut, singleF, hs]; exact Ev.now _
  | some s =>
    simp only [spOut, singleF, hs, if_true, price_f, Option.bind_some]
    cases hp : priceB s.single with
    | false => exact Ev.now _
    | true =>
      cases p with
      | true => exact Ev.now _
      | false =>
        simp only [if_true, Bool.false_eq_true, if_false, Bool.true_eq_false]
        exact Ev.bind (refscale_ev s.single t.off h.2.2.2) (Ev.now _)
end Go.Proofs.Ytmeogadkbbeglaa
end
section
namespace Go.Proofs.Ytmeogadkbbeglaa
open Go.RowKit Go.Proofs.YtmeogadkbbeglaaQ
set_option maxHeartbeats 1600000
set_option maxRecDepth 100000
theorem refst_calls (t : Tariff) (m : TMem) (id : Int) (w : World) (h : t.At w m) (c1 : t.st.length ≤ m.c1) (c2 : t.sp.length ≤ m.c2) (c3 : t.pk.length ≤ m.c3) :
    Calls Try.prog 34 #[.agg (t.cells m), .int .i64 id] w fun e w' => e = .returned (stRes (stFind t.st id)) ∧ Below w.heap.size w w' := by
  obtain ⟨k, hk⟩ := (refst_ev t (fits_at h) id).rounds
  obtain ⟨r0, r1, r2⟩ := at_C h
  cases hs : stFind t.st id <;> rw [hs] at hk <;>
  · have := fareboxref07_Station.calls k _ m.c1 _ _ m.c2 _ _ m.c3 _ _ _ _ _ _ _ _ _ _ _ _ _ _ _ _ _ w r0 (by simpa using c1) r1 (by simpa using c2) r2 (by simpa using c3) hk
    simp only [List.length_map] at this
    exact this.mono fun e w' hh => ⟨hh.1, by first | exact hh.2.below | exact hh.2⟩
theorem refsp_calls (t : Tariff) (m : TMem) (a b : Int) (w : World) (h : t.At w m) (c1 : t.st.length ≤ m.c1) (c2 : t.sp.length ≤ m.c2) (c3 : t.pk.length ≤ m.c3) :
    Calls Try.prog 35 #[.agg (t.cells m), .int .i64 a, .int .i64 b] w fun e w' => e = .returned (spRes (spFind t.sp a b)) ∧ Below w.heap.size w w' := by
  obtain ⟨k, hk⟩ := (refsp_ev t (fits_at h) a b).rounds
  obtain ⟨r0, r1, r2⟩ := at_C h
  cases hs : spFind t.sp a b <;> rw [hs] at hk <;>
  · have := fareboxref07_Span.calls k _ m.c1 _ _ m.c2 _ _ m.c3 _ _ _ _ _ _ _ _ _ _ _ _ _ _ _ _ _ _ _ _ w r0 (by simpa using c1) r1 (by simpa using c2) r2 (by simpa using c3) hk
    simp only [List.length_map] at this
    exact this.mono fun e w' hh => ⟨hh.1, by first | exact hh.2.below | exact hh.2⟩
theorem refsingle_calls (t : Tariff) (m : TMem) (a b : Int) (p : Bool) (w : World) (h : t.At w m) (c1 : t.st.length ≤ m.c1) (c2 : t.sp.length ≤ m.c2) (c3 : t.pk.length ≤ m.c3) :
    Calls Try.prog 36 #[.agg (t.cells m), .int .i64 a, .int .i64 b, .bool p] w fun e w' => e = .returned (.tuple #[.int .i64 (singleF t a b p).1, .int .i64 (singleF t a b p).2]) ∧ Below w.heap.size w w' := by
  obtain ⟨k, hk⟩ := (refsingle_ev t (fits_at h) a b p).rounds
  obtain ⟨r0, r1, r2⟩ := at_C h
  have := fareboxref07_Single.calls (k := k) (c0_0 := m.c1) (c0_1 := m.c2) (c0_2 := m.c3) (w := w) (hr0_0 := r0) (hc0_0 := by simpa using c1) (hr0_1 := r1) (hc0_1 := by simpa using c2) (hr0_2 := r2) (hc0_2 := by simpa using c3) (h := hk)
  simp only [List.length_map] at this
  exact this.mono fun e w' hh => ⟨hh.1, by first | exact hh.2.below | exact hh.2⟩
theorem asks_calls (t : Tariff) (m : TMem) (id a b : Int) (peak : Bool) (w : World) (hT : t.At w m) (h24 : t.st.length * 24 ≤ 140737488351232) (h40 : t.sp.length * 40 ≤ 140737488351232) (h16 : t.pk.length * 16 ≤ 140737488351232) (c1 : t.st.length ≤ m.c1) (c2 : t.sp.length ≤ m.c2) (c3 : t.pk.length ≤ m.c3) :
    Calls Try.prog 4 #[.agg (t.cells m), .int .i64 id, .int .i64 a, .int .i64 b, .bool peak] w fun e w' => e = .returned (.bool true) ∧ Below w.heap.size w w' := by
  have HB := Below.refl w.heap.size w
  have HX := Box.new w (t.cells m) 27
  have hB := bAlloc (Below.refl w.heap.size w) (.cells (t.cells m) 27)
  replace hT := hT.keep hB
  have hst := fun (m : TMem) (w : World) (h : t.At w m) => station_calls t m id w h
  have hsp := fun (m : TMem) (w : World) (h : t.At w m) => span_calls t m a b w h
  have hsi := fun (m : TMem) (w : World) (h : t.At w m) => single_calls t m a b peak w h
  have rst := fun (w : World) (h : t.At w m) => refst_calls t m id w h c1 c2 c3
  have rsp := fun (w : World) (h : t.At w m) => refsp_calls t m a b w h c1 c2 c3
  have rsi := fun (w : World) (h : t.At w m) => refsingle_calls t m a b peak w h c1 c2 c3
  have e1 : ∀ o : Option Station, stRes o = .tuple #[.agg #[.int .i64 (stOut o).1, .int .i64 (stOut o).2.1, .int .i64 (stOut o).2.2.1], .bool (stOut o).2.2.2] := fun o => by cases o <;> rfl
  have e2 : ∀ o : Option Span, spRes o = .tuple #[.agg #[.int .i64 (spOut o).1, .int .i64 (spOut o).2.1, .int .i64 (spOut o).2.2.1, .int .i64 (spOut o).2.2.2.1, .int .i64 (spOut o).2.2.2.2.1], .bool (spOut o).2.2.2.2.2] := fun o => by cases o <;> rfl
  rw [e1] at hst rst
  rw [e2] at hsp rsp
  generalize stOut (stFind t.st id) = os at *
  generalize spOut (spFind t.sp a b) = op at *
  generalize singleF t a b peak = on at *
  obtain ⟨s1, s2, s3, s4⟩ := os
  obtain ⟨p1, p2, p3, p4, p5, p6⟩ := op
  obtain ⟨n1, n2⟩ := on
  simp only at hst hsp hsi rst rsp rsi
  go_enter Try.func4, Try.ntmps4
  go_wp2_with fail
  refine (awake07_calls _).mono ?_
  rintro _ wq ⟨rfl, hb⟩; replace HX := HX.below' hb; replace hB := bThen hB hb; replace hT := hT.keep hb; clear hb; (try clear t0 t1 t2 t3 t4 t5 t6 t7 t8 t9 t10 t11 t12 t13 lt0); obtain ⟨t0, t1, t2, t3, t4, t5, t6, t7, t8, t9, t10, t11, t12, t13⟩ := tcells HX; have lt0 := HX.lt
  go_wp2_with fail
  have hTq := hT; have HXq := HX; have hBq := hB; refine (lent_calls t m _ hT h24 h40 h16).mono ?_; rintro _ wl ⟨m', rfl, ⟨g1, g2, g3, hL⟩, hb⟩; have hA := hL.at_ hT
  go_wp2_with fail
  have hlts := hL.lts; have HYl := Box.new wl (t.cells m') 27; have hql := bAlloc hb (.cells (t.cells m') 27); replace hL := hL.keep (bAlloc (Below.refl _ _) (.cells (t.cells m') 27)); have hU := hA.keep (bAlloc (Below.refl _ _) (.cells (t.cells m') 27)); have HBX := Nat.le_refl wq.heap.size; generalize wl.alloc (.cells (t.cells m') 27) = wv at *; generalize hwl : wl.heap.size = bl at *; clear hA hb; (try clear t0 t1 t2 t3 t4 t5 t6 t7 t8 t9 t10 t11 t12 t13 lt0); have HY := HYl; clear HYl; have hq := hql; clear hql
  refine (hst m' _ hU).mono ?_
  rintro _ wx ⟨rfl, hb⟩; replace HY := HY.below' hb; replace hq := bThen hq hb; replace hU := hU.keep hb; replace hL := hL.keep hb; clear hb; (try clear u0 u1 u2 u3 u4 u5 u6 u7 u8 u9 u10 u11 u12 u13 lt1); (try clear t0 t1 t2 t3 t4 t5 t6 t7 t8 t9 t10 t11 t12 t13 lt0); obtain ⟨u0, u1, u2, u3, u4, u5, u6, u7, u8, u9, u10, u11, u12, u13⟩ := tcells HY; have lt1 := HY.lt; have HXw := HXq.below' hq; obtain ⟨t0, t1, t2, t3, t4, t5, t6, t7, t8, t9, t10, t11, t12, t13⟩ := tcells HXw; have lt0 := HXw.lt
  go_wp2_with fail
  have HBX0 := Box.new wx #[.int .i64 s1, .int .i64 s2, .int .i64 s3] 35; have hz := bAlloc (Below.refl wx.heap.size wx) (.cells #[.int .i64 s1, .int .i64 s2, .int .i64 s3] 35); have hbig := HY.lt; replace HY := HY.below' hz; replace hq := bThen hq hz; replace hU := hU.keep hz; replace hL := hL.keep hz
  have HS := HBX0
  have hbs := hbig
  clear HBX0 hbig
  generalize wx.alloc _ = wy at *
  generalize wx.heap.size = bs at *
  refine (hsp m' _ hU).mono ?_
  rintro _ wx ⟨rfl, hb⟩; replace HS := HS.below' hb; replace HY := HY.below' hb; replace hq := bThen hq hb; replace hU := hU.keep hb; replace hL := hL.keep hb; clear hb; (try clear u0 u1 u2 u3 u4 u5 u6 u7 u8 u9 u10 u11 u12 u13 lt1); (try clear t0 t1 t2 t3 t4 t5 t6 t7 t8 t9 t10 t11 t12 t13 lt0); obtain ⟨u0, u1, u2, u3, u4, u5, u6, u7, u8, u9, u10, u11, u12, u13⟩ := tcells HY; have lt1 := HY.lt; have HXw := HXq.below' hq; obtain ⟨t0, t1, t2, t3, t4, t5, t6, t7, t8, t9, t10, t11, t12, t13⟩ := tcells HXw; have lt0 := HXw.lt
  go_wp2_with fail
  have HBX0 := Box.new wx #[.int .i64 p1, .int .i64 p2, .int .i64 p3, .int .i64 p4, .int .i64 p5] 39; have hz := bAlloc (Below.refl wx.heap.size wx) (.cells #[.int .i64 p1, .int .i64 p2, .int .i64 p3, .int .i64 p4, .int .i64 p5] 39); have hbig := HY.lt; replace HY := HY.below' hz; replace hq := bThen hq hz; replace hU := hU.keep hz; replace hL := hL.keep hz
  replace HS := HS.below' hz
  have HP := HBX0
  have hbp := hbig
  clear HBX0 hbig hz
  generalize wx.alloc _ = wy2 at *
  generalize wx.heap.size = bp at *
  refine (hsi m' _ hU).mono ?_
  rintro _ wx ⟨rfl, hb⟩; replace HS := HS.below' hb; replace HP := HP.below' hb; replace HY := HY.below' hb; replace hq := bThen hq hb; replace hU := hU.keep hb; replace hL := hL.keep hb; clear hb; (try clear u0 u1 u2 u3 u4 u5 u6 u7 u8 u9 u10 u11 u12 u13 lt1); (try clear t0 t1 t2 t3 t4 t5 t6 t7 t8 t9 t10 t11 t12 t13 lt0); obtain ⟨u0, u1, u2, u3, u4, u5, u6, u7, u8, u9, u10, u11, u12, u13⟩ := tcells HY; have lt1 := HY.lt; have HXw := HXq.below' hq; obtain ⟨t0, t1, t2, t3, t4, t5, t6, t7, t8, t9, t10, t11, t12, t13⟩ := tcells HXw; have lt0 := HXw.lt
  go_wp2_with fail
  refine (kept_calls t m' m _ _ g1 g2 g3 hL hU (hTq.keep hq) hq.size).mono ?_; rintro _ wk ⟨rfl, hbk⟩; have hq0 := hq; replace hq := hq.trans hbk.below; replace HX := HXq.below' hq; replace hT := hTq.keep hq; replace hB := bThen hBq hq; clear hL hU HY hwl; (try clear t0 t1 t2 t3 t4 t5 t6 t7 t8 t9 t10 t11 t12 t13 lt0); (try clear u0 u1 u2 u3 u4 u5 u6 u7 u8 u9 u10 u11 u12 u13 lt1); obtain ⟨t0, t1, t2, t3, t4, t5, t6, t7, t8, t9, t10, t11, t12, t13⟩ := tcells HX; have lt0 := HX.lt
  obtain ⟨gl1, gl2, gl3⟩ := hlts
  replace HS := HS.but hbk (by omega) (by omega) (by omega)
  replace HP := HP.but hbk (by omega) (by omega) (by omega)
  clear hbk hq0 hz
  go_wp2_with fail
  refine (rst _ hT).mono ?_
  rintro _ wq ⟨rfl, hb⟩; replace HX := HX.below' hb; replace hB := bThen hB hb; replace hT := hT.keep hb; (try clear t0 t1 t2 t3 t4 t5 t6 t7 t8 t9 t10 t11 t12 t13 lt0); obtain ⟨t0, t1, t2, t3, t4, t5, t6, t7, t8, t9, t10, t11, t12, t13⟩ := tcells HX; have lt0 := HX.lt
  replace HS := HS.below' hb
  replace HP := HP.below' hb
  clear hb
  go_wp2_with fail
  have HBX0 := Box.new wq #[.int .i64 s1, .int .i64 s2, .int .i64 s3] 35; have hz := bAlloc (Below.refl wq.heap.size wq) (.cells #[.int .i64 s1, .int .i64 s2, .int .i64 s3] 35); replace HX := HX.below' hz; replace hB := bThen hB hz; replace hT := hT.keep hz; (try clear t0 t1 t2 t3 t4 t5 t6 t7 t8 t9 t10 t11 t12 t13 lt0); obtain ⟨t0, t1, t2, t3, t4, t5, t6, t7, t8, t9, t10, t11, t12, t13⟩ := tcells HX; have lt0 := HX.lt
  replace HS := HS.below' hz
  replace HP := HP.below' hz
  have HU := HBX0
  clear HBX0 hz
  generalize wq.alloc _ = wz at *
  generalize wq.heap.size = bu at *
  refine (rsp _ hT).mono ?_
  rintro _ wq ⟨rfl, hb⟩; replace HX := HX.below' hb; replace hB := bThen hB hb; replace hT := hT.keep hb; (try clear t0 t1 t2 t3 t4 t5 t6 t7 t8 t9 t10 t11 t12 t13 lt0); obtain ⟨t0, t1, t2, t3, t4, t5, t6, t7, t8, t9, t10, t11, t12, t13⟩ := tcells HX; have lt0 := HX.lt
  replace HS := HS.below' hb
  replace HP := HP.below' hb
  replace HU := HU.below' hb
  clear hb
  go_wp2_with fail
  have HBX0 := Box.new wq #[.int .i64 p1, .int .i64 p2, .int .i64 p3, .int .i64 p4, .int .i64 p5] 39; have hz := bAlloc (Below.refl wq.heap.size wq) (.cells #[.int .i64 p1, .int .i64 p2, .int .i64 p3, .int .i64 p4, .int .i64 p5] 39); replace HX := HX.below' hz; replace hB := bThen hB hz; replace hT := hT.keep hz; (try clear t0 t1 t2 t3 t4 t5 t6 t7 t8 t9 t10 t11 t12 t13 lt0); obtain ⟨t0, t1, t2, t3, t4, t5, t6, t7, t8, t9, t10, t11, t12, t13⟩ := tcells HX; have lt0 := HX.lt
  replace HS := HS.below' hz
  replace HP := HP.below' hz
  replace HU := HU.below' hz
  have HV := HBX0
  clear HBX0 hz
  generalize wq.alloc _ = wz2 at *
  generalize wq.heap.size = bv at *
  refine (rsi _ hT).mono ?_
  rintro _ wq ⟨rfl, hb⟩; replace HX := HX.below' hb; replace hB := bThen hB hb; replace hT := hT.keep hb; (try clear t0 t1 t2 t3 t4 t5 t6 t7 t8 t9 t10 t11 t12 t13 lt0); obtain ⟨t0, t1, t2, t3, t4, t5, t6, t7, t8, t9, t10, t11, t12, t13⟩ := tcells HX; have lt0 := HX.lt
  replace HS := HS.below' hb
  replace HP := HP.below' hb
  replace HU := HU.below' hb
  replace HV := HV.below' hb
  clear hb
  have HSa := (HS).cell 0; have HSb := (HS).cell 1; have HSc := (HS).cell 2; have HSl := (HS).lt; simp at HSa HSb HSc
  have HUa := (HU).cell 0; have HUb := (HU).cell 1; have HUc := (HU).cell 2; have HUl := (HU).lt; simp at HUa HUb HUc
  have HPa := (HP).cell 0; have HPb := (HP).cell 1; have HPc := (HP).cell 2; have HPd := (HP).cell 3; have HPe := (HP).cell 4; have HPl := (HP).lt; simp at HPa HPb HPc HPd HPe
  have HVa := (HV).cell 0; have HVb := (HV).cell 1; have HVc := (HV).cell 2; have HVd := (HV).cell 3; have HVe := (HV).cell 4; have HVl := (HV).lt; simp at HVa HVb HVc HVd HVe
  go_wp2_with fail
  go_ret
  exact ⟨rfl, hB⟩
end Go.Proofs.Ytmeogadkbbeglaa
end
