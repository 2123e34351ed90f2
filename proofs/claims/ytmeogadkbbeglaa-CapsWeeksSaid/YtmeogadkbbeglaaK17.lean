/- What the claim's walk leans on: P19, W19. -/
import Derived.Test.YtmeogadkbbeglaaH3
import Derived.Test.YtmeogadkbbeglaaH2
import Derived.Test.YtmeogadkbbeglaaK4
import Derived.Test.YtmeogadkbbeglaaK6
import Derived.Test.YtmeogadkbbeglaaK3
import Derived.Test.YtmeogadkbbeglaaK5
import Derived.Test.YtmeogadkbbeglaaK16
section
namespace Go.Proofs.Ytmeogadkbbeglaa
set_option linter.unusedVariables false
def zWith (z : Int × Int) (lo hi : Int) : Int × Int := if lo = 0 then z else if z.1 = 0 then (lo, hi) else (mn z.1 lo, mx z.2 hi)
def spanOf (t : Tariff) (z : Int × Int) (f : Span → Int) : Int := match spFind t.sp z.1 z.2 with
  | some s => f s
  | none => f ⟨0, 0, 0, 0, 0⟩
def heldF (t : Tariff) (z : Int × Int) (rail bus : Int) (f : Span → Int) : Int := if z.1 = 0 then rail + bus else mn (rail + bus) (mx (spanOf t z f) bus)
structure DAcc where
  rail : Int
  bus : Int
  most : Int
  z1 : Int
  z2 : Int
/-- a day's step: the error, and what is there then -/
def dayStep (t : Tariff) (day : Int) (a : DAcc) (p : Priced) : Int × DAcc :=
  if p.j.kind < 1 ∨ 4 < p.j.kind then (1, a)
  else if p.fare < 0 ∨ 1048576 < p.fare then (50, a)
  else if timeB p.j.start = false ∨ dayF p.j.start ≠ day then (60, a)
  else if p.j.kind = 4 then (0, { a with bus := a.bus + p.fare })
  else if p.j.kind ≠ 1 then (0, { a with most := a.most + p.fare })
  else match stFind t.st p.j.frm, stFind t.st p.j.dst with
    | some x, some y => (0, { a with rail := a.rail + p.fare, z1 := (zWith (a.z1, a.z2) (mn x.zone y.zone) (mx x.zone y.zone)).1, z2 := (zWith (a.z1, a.z2) (mn x.zone y.zone) (mx x.zone y.zone)).2 })
    | _, _ => (1, a)
def dayGo (t : Tariff) (day : Int) : List Priced → DAcc → Int × DAcc
  | [], a => (0, a)
  | p :: r, a => if (dayStep t day a p).1 = 0 then dayGo t day r (dayStep t day a p).2 else dayStep t day a p
theorem dayGo_cons (t : Tariff) (day : Int) (p : Priced) (r : List Priced) (a : DAcc) : dayGo t day (p :: r) a = if (dayStep t day a p).1 = 0 then dayGo t day r (dayStep t day a p).2 else dayStep t day a p := rfl
def DayC.zero : DayC := ⟨0, 0, 0, 0, 0, 0, 0⟩
def dayEnd (t : Tariff) (day : Int) (a : DAcc) : DayC := ⟨day, a.rail, mn a.bus t.busDaily, heldF t (a.z1, a.z2) a.rail (mn a.bus t.busDaily) Span.daily, a.most, a.z1, a.z2⟩
/-- what caps.Day answers -/
def dayC (t : Tariff) (day : Int) (l : List Priced) : DayC × Int :=
  if rightF t ≠ 0 then (DayC.zero, rightF t)
  else if 2000 < l.length then (DayC.zero, 2)
  else if (dayGo t day l ⟨0, 0, 0, 0, 0⟩).1 ≠ 0 then (DayC.zero, (dayGo t day l ⟨0, 0, 0, 0, 0⟩).1)
  else (dayEnd t day (dayGo t day l ⟨0, 0, 0, 0, 0⟩).2, 0)
/-- the bounds that hold all along -/
structure DAcc.Ok (a : DAcc) (k : Nat) : Prop where
  r1 : 0 ≤ a.rail
  r2 : a.rail ≤ 1048576 * k
  b1 : 0 ≤ a.bus
  b2 : a.bus ≤ 1048576 * k
  m1 : 0 ≤ a.most
  m2 : a.most ≤ 1048576 * k
theorem DAcc.Ok.zero : DAcc.Ok ⟨0, 0, 0, 0, 0⟩ 0 := ⟨by simp, by simp, by simp, by simp, by simp, by simp⟩
theorem DAcc.Ok.step {t : Tariff} {day : Int} {a : DAcc} {p : Priced} {k : Nat} (h : a.Ok k) (h0 : (dayStep t day a p).1 = 0) : (dayStep t day a p).2.Ok (k + 1) := by
  obtain ⟨r1, r2, b1, b2, m1, m2⟩ := h
  have e : (1048576 : Int) * ((k + 1 : Nat) : Int) = 1048576 * (k : Int) + 1048576 := by omega
  unfold dayStep at h0 ⊢
  by_cases h1 : p.j.kind < 1 ∨ 4 < p.j.kind
  · rw [if_pos h1] at h0; exact absurd h0 (by simp)
  rw [if_neg h1] at h0 ⊢
  by_cases h2 : p.fare < 0 ∨ 1048576 < p.fare
  · rw [if_pos h2] at h0; exact absurd h0 (by simp)
  rw [if_neg h2] at h0 ⊢
  by_cases h3 : timeB p.j.start = false ∨ dayF p.j.start ≠ day
  · rw [if_pos h3] at h0; exact absurd h0 (by simp)
  rw [if_neg h3] at h0 ⊢
  by_cases h4 : p.j.kind = 4
  · rw [if_pos h4]
    constructor <;> simp only <;> omega
  rw [if_neg h4] at h0 ⊢
  by_cases h5 : p.j.kind ≠ 1
  · rw [if_pos h5]
    constructor <;> simp only <;> omega
  rw [if_neg h5] at h0 ⊢
  split
  · constructor <;> simp only <;> omega
  · rename_i hno
    split at h0
    · rename_i x y hx hy
      exact absurd hy (hno x y hx)
    · exact absurd h0 (by simp)
def sumB (n : Int) : Bool := decide (0 ≤ n ∧ n ≤ 1099511627776)
def lateB (d : DayC) : Option DayC → Bool
  | none => false
  | some x => decide (d.day ≤ x.day) || (weekF d.day != weekF x.day)
/-- what bad answers -/
def badF (t : Tariff) (d : DayC) (ahead : Option DayC) : Int :=
  if lateB d ahead = true then 60
  else if (sumB d.rail && (sumB d.bus && (sumB d.capped && sumB d.most))) = false then 50
  else if d.capped < d.bus then 50
  else if d.low = 0 ∧ d.high = 0 then 0
  else if (spFind t.sp d.low d.high).isSome = false ∨ d.low < 1 ∨ d.high < d.low then 1
  else 0
structure WAcc where
  rail : Int
  bus : Int
  most : Int
  z1 : Int
  z2 : Int
def wkStep (a : WAcc) (d : DayC) : WAcc := ⟨a.rail + (d.capped - d.bus), a.bus + d.bus, a.most + d.most, (zWith (a.z1, a.z2) d.low d.high).1, (zWith (a.z1, a.z2) d.low d.high).2⟩
def wkGo (t : Tariff) : List DayC → Option DayC → WAcc → Int × WAcc
  | [], _, a => (0, a)
  | d :: r, ahead, a => if badF t d ahead = 0 then wkGo t r (some d) (wkStep a d) else (badF t d ahead, a)
theorem wkGo_cons (t : Tariff) (d : DayC) (r : List DayC) (o : Option DayC) (a : WAcc) : wkGo t (d :: r) o a = if badF t d o = 0 then wkGo t r (some d) (wkStep a d) else (badF t d o, a) := rfl
def wkEnd (t : Tariff) (a : WAcc) : Int := heldF t (a.z1, a.z2) a.rail (mn a.bus t.busWeekly) Span.weekly + a.most
/-- what caps.Week answers -/
def weekC (t : Tariff) (l : List DayC) : Int × Int :=
  if rightF t ≠ 0 then (0, rightF t)
  else if 7 < l.length then (0, 2)
  else if (wkGo t l none ⟨0, 0, 0, 0, 0⟩).1 ≠ 0 then (0, (wkGo t l none ⟨0, 0, 0, 0, 0⟩).1)
  else (wkEnd t (wkGo t l none ⟨0, 0, 0, 0, 0⟩).2, 0)
structure WAcc.Ok (a : WAcc) (k : Nat) : Prop where
  r1 : 0 ≤ a.rail
  r2 : a.rail ≤ 1099511627776 * k
  b1 : 0 ≤ a.bus
  b2 : a.bus ≤ 1099511627776 * k
  m1 : 0 ≤ a.most
  m2 : a.most ≤ 1099511627776 * k
theorem WAcc.Ok.zero : WAcc.Ok ⟨0, 0, 0, 0, 0⟩ 0 := ⟨by simp, by simp, by simp, by simp, by simp, by simp⟩
theorem bad_ok {t : Tariff} {d : DayC} {o : Option DayC} (h : badF t d o = 0) : lateB d o = false ∧ (0 ≤ d.rail ∧ d.rail ≤ 1099511627776) ∧ (0 ≤ d.bus ∧ d.bus ≤ 1099511627776) ∧ (0 ≤ d.capped ∧ d.capped ≤ 1099511627776) ∧ (0 ≤ d.most ∧ d.most ≤ 1099511627776) ∧ d.bus ≤ d.capped ∧
    ((d.low = 0 ∧ d.high = 0) ∨ ((spFind t.sp d.low d.high).isSome = true ∧ 1 ≤ d.low ∧ d.low ≤ d.high)) := by
  unfold badF at h
  by_cases h1 : lateB d o = true
  · rw [if_pos h1] at h; exact absurd h (by decide)
  rw [if_neg h1] at h
  by_cases h2 : (sumB d.rail && (sumB d.bus && (sumB d.capped && sumB d.most))) = false
  · rw [if_pos h2] at h; exact absurd h (by decide)
  rw [if_neg h2] at h
  by_cases h3 : d.capped < d.bus
  · rw [if_pos h3] at h; exact absurd h (by decide)
  rw [if_neg h3] at h
  have h2' : (sumB d.rail && (sumB d.bus && (sumB d.capped && sumB d.most))) = true := by cases hh : (sumB d.rail && (sumB d.bus && (sumB d.capped && sumB d.most))) <;> simp_all
  simp only [Bool.and_eq_true, sumB, decide_eq_true_eq] at h2'
  refine ⟨by cases hh : lateB d o <;> simp_all, h2'.1, h2'.2.1, h2'.2.2.1, h2'.2.2.2, by omega, ?_⟩
  by_cases h4 : d.low = 0 ∧ d.high = 0
  · exact .inl h4
  rw [if_neg h4] at h
  by_cases h5 : (spFind t.sp d.low d.high).isSome = false ∨ d.low < 1 ∨ d.high < d.low
  · rw [if_pos h5] at h; exact absurd h (by decide)
  · right
    refine ⟨?_, by omega, by omega⟩
    cases hh : (spFind t.sp d.low d.high).isSome
    · exact absurd (.inl hh) h5
    · rfl
theorem WAcc.Ok.step {t : Tariff} {d : DayC} {o : Option DayC} {a : WAcc} {k : Nat} (h : a.Ok k) (h0 : badF t d o = 0) : (wkStep a d).Ok (k + 1) := by
  obtain ⟨r1, r2, b1, b2, m1, m2⟩ := h
  obtain ⟨-, hr, hb, hc, hm, hcb, -⟩ := bad_ok h0
  have e : (1099511627776 : Int) * ((k + 1 : Nat) : Int) = 1099511627776 * (k : Int) + 1099511627776 := by omega
  constructor <;> simp only [wkStep] <;> omega
end Go.Proofs.Ytmeogadkbbeglaa
end
section
namespace Go.Proofs.Ytmeogadkbbeglaa
open Go.RowKit Go.Proofs.YtmeogadkbbeglaaQ
set_option maxHeartbeats 1600000
set_option maxRecDepth 100000
theorem with_calls (z1 z2 lo hi : Int) (w : World) :
    Calls Try.prog 97 #[.agg #[.int .i64 z1, .int .i64 z2], .int .i64 lo, .int .i64 hi] w fun e w' => e = .returned (.agg #[.int .i64 (zWith (z1, z2) lo hi).1, .int .i64 (zWith (z1, z2) lo hi).2]) ∧ Below w.heap.size w w' := by
  have HB := Below.refl w.heap.size w
  by_cases h1 : lo = 0
  · have e : zWith (z1, z2) lo hi = (z1, z2) := by simp [zWith, h1]
    rw [e]
    subst h1
    go_enter Try.func97, Try.ntmps97
    go_wp2_with fail
    refine bodyPost_ret (v := .agg #[.int .i64 z1, .int .i64 z2]) (by simp [results, Try.results97, go_sem]) rfl ⟨rfl, by (repeat (first | (with_reducible exact HB) | (with_reducible refine bAlloc ?_ _) | (with_reducible refine bDrewN ?_ _) | (with_reducible refine bDrew ?_) | (with_reducible refine bSet ?_ (by first | exact Nat.le_refl _ | (simp; omega) | omega) _) | (with_reducible refine bThen ?_ (by with_reducible assumption))))⟩
  · by_cases h2 : z1 = 0
    · have e : zWith (z1, z2) lo hi = (lo, hi) := by simp [zWith, h1, h2]
      rw [e]
      subst h2
      go_enter Try.func97, Try.ntmps97
      go_wp2_with fail
      refine bodyPost_ret (v := .agg #[.int .i64 lo, .int .i64 hi]) (by simp [results, Try.results97, go_sem]) rfl ⟨rfl, by (repeat (first | (with_reducible exact HB) | (with_reducible refine bAlloc ?_ _) | (with_reducible refine bDrewN ?_ _) | (with_reducible refine bDrew ?_) | (with_reducible refine bSet ?_ (by first | exact Nat.le_refl _ | (simp; omega) | omega) _) | (with_reducible refine bThen ?_ (by with_reducible assumption))))⟩
    · have e : zWith (z1, z2) lo hi = (mn z1 lo, mx z2 hi) := by simp [zWith, h1, h2]
      rw [e]
      go_enter Try.func97, Try.ntmps97
      go_wp2_with fail
      all_goals
        refine bodyPost_ret (v := .agg #[.int .i64 (mn z1 lo), .int .i64 (mx z2 hi)]) (by simp [results, Try.results97, go_sem]; simp only [mn, mx]; grind) rfl ⟨rfl, by (repeat (first | (with_reducible exact HB) | (with_reducible refine bAlloc ?_ _) | (with_reducible refine bDrewN ?_ _) | (with_reducible refine bDrew ?_) | (with_reducible refine bSet ?_ (by first | exact Nat.le_refl _ | (simp; omega) | omega) _) | (with_reducible refine bThen ?_ (by with_reducible assumption))))⟩
theorem day2_calls (s : Span) (w : World) :
    Calls Try.prog 99 #[.agg #[.int .i64 s.frm, .int .i64 s.to, .int .i64 s.single, .int .i64 s.daily, .int .i64 s.weekly]] w fun e w' => e = .returned (.int .i64 s.daily) ∧ Below w.heap.size w w' := by
  have HB := Below.refl w.heap.size w
  go_enter Try.func99, Try.ntmps99
  go_wp2_with fail
  go_ret
  exact ⟨rfl, by (repeat (first | (with_reducible exact HB) | (with_reducible refine bAlloc ?_ _) | (with_reducible refine bDrewN ?_ _) | (with_reducible refine bDrew ?_) | (with_reducible refine bSet ?_ (by first | exact Nat.le_refl _ | (simp; omega) | omega) _) | (with_reducible refine bThen ?_ (by with_reducible assumption))))⟩
theorem week1_calls (s : Span) (w : World) :
    Calls Try.prog 102 #[.agg #[.int .i64 s.frm, .int .i64 s.to, .int .i64 s.single, .int .i64 s.daily, .int .i64 s.weekly]] w fun e w' => e = .returned (.int .i64 s.weekly) ∧ Below w.heap.size w w' := by
  have HB := Below.refl w.heap.size w
  go_enter Try.func102, Try.ntmps102
  go_wp2_with fail
  go_ret
  exact ⟨rfl, by (repeat (first | (with_reducible exact HB) | (with_reducible refine bAlloc ?_ _) | (with_reducible refine bDrewN ?_ _) | (with_reducible refine bDrew ?_) | (with_reducible refine bSet ?_ (by first | exact Nat.le_refl _ | (simp; omega) | omega) _) | (with_reducible refine bThen ?_ (by with_reducible assumption))))⟩
theorem heldDay_calls (tr : Tariff) (m : TMem) (z1 z2 rail bus : Int) (w : World) (hT : tr.At w m) (hr : -4611686018427387904 ≤ rail ∧ rail ≤ 2305843009213693952) (hb : -4611686018427387904 ≤ bus ∧ bus ≤ 2305843009213693952) :
    Calls Try.prog 98 #[.agg (tr.cells m), .agg #[.int .i64 z1, .int .i64 z2], .int .i64 rail, .int .i64 bus, .func (.func 99) #[] #[]] w fun e w' => e = .returned (.int .i64 (heldF tr (z1, z2) rail bus Span.daily)) ∧ Below w.heap.size w w' := by
  have HX := (Box.new w (tr.cells m) 27).alloc (.cells #[.int .i64 z1, .int .i64 z2] 128)
  have HZ := Box.new' (w := w.alloc (.cells (tr.cells m) 27)) (b := w.heap.size + 1) (by simp) #[.int .i64 z1, .int .i64 z2] 128
  have hB := bAlloc (bAlloc (Below.refl w.heap.size w) (.cells (tr.cells m) 27)) (.cells #[.int .i64 z1, .int .i64 z2] 128)
  replace hT := hT.keep hB
  by_cases h1 : z1 = 0
  · have e : heldF tr (z1, z2) rail bus Span.daily = rail + bus := by simp [heldF, h1]
    rw [e]
    clear e
    subst h1
    go_enter Try.func98, Try.ntmps98
    go_wp2_with fail
    go_ret
    exact ⟨ret_int rfl, hB⟩
  · have S := fun W h => span_calls tr m z1 z2 W h
    have e : heldF tr (z1, z2) rail bus Span.daily = mn (rail + bus) (mx (spanOf tr (z1, z2) Span.daily) bus) := by simp [heldF, h1]
    rw [e]
    have e2 : ∀ o : Option Span, spRes o = .tuple #[.agg #[.int .i64 (spOut o).1, .int .i64 (spOut o).2.1, .int .i64 (spOut o).2.2.1, .int .i64 (spOut o).2.2.2.1, .int .i64 (spOut o).2.2.2.2.1], .bool (spOut o).2.2.2.2.2] := fun o => by cases o <;> rfl
    have e3 : spanOf tr (z1, z2) Span.daily = Span.daily ⟨(spOut (spFind tr.sp z1 z2)).1, (spOut (spFind tr.sp z1 z2)).2.1, (spOut (spFind tr.sp z1 z2)).2.2.1, (spOut (spFind tr.sp z1 z2)).2.2.2.1, (spOut (spFind tr.sp z1 z2)).2.2.2.2.1⟩ := by
      unfold spanOf
      cases spFind tr.sp z1 z2 <;> rfl
    rw [e2] at S
    rw [e3]
    clear e e2 e3
    generalize spOut (spFind tr.sp z1 z2) = o at *
    obtain ⟨s1, s2, s3, s4, s5, s6⟩ := o
    simp only at S ⊢
    have G := day2_calls ⟨s1, s2, s3, s4, s5⟩
    simp only at G
    go_enter Try.func98, Try.ntmps98
    go_wp2_with fail
    refine (S _ hT).mono ?_
    rintro _ wq ⟨rfl, hb2⟩
    replace hB := bThen hB hb2
    clear hb2
    go_wp2_with fail
    refine (G _).mono ?_
    rintro _ wp ⟨rfl, hb2⟩
    go_wp2_with fail
    all_goals
      go_ret
      exact ⟨ret_int (by simp only [mn, mx]; grind), bThen (by (repeat (first | (with_reducible exact hB) | (with_reducible refine bAlloc ?_ _) | (with_reducible refine bDrewN ?_ _) | (with_reducible refine bDrew ?_) | (with_reducible refine bSet ?_ (by first | exact Nat.le_refl _ | (simp; omega) | omega) _) | (with_reducible refine bThen ?_ (by with_reducible assumption))))) hb2⟩
theorem heldWeek_calls (tr : Tariff) (m : TMem) (z1 z2 rail bus : Int) (w : World) (hT : tr.At w m) (hr : -4611686018427387904 ≤ rail ∧ rail ≤ 2305843009213693952) (hb : -4611686018427387904 ≤ bus ∧ bus ≤ 2305843009213693952) :
    Calls Try.prog 98 #[.agg (tr.cells m), .agg #[.int .i64 z1, .int .i64 z2], .int .i64 rail, .int .i64 bus, .func (.func 102) #[] #[]] w fun e w' => e = .returned (.int .i64 (heldF tr (z1, z2) rail bus Span.weekly)) ∧ Below w.heap.size w w' := by
  have HX := (Box.new w (tr.cells m) 27).alloc (.cells #[.int .i64 z1, .int .i64 z2] 128)
  have HZ := Box.new' (w := w.alloc (.cells (tr.cells m) 27)) (b := w.heap.size + 1) (by simp) #[.int .i64 z1, .int .i64 z2] 128
  have hB := bAlloc (bAlloc (Below.refl w.heap.size w) (.cells (tr.cells m) 27)) (.cells #[.int .i64 z1, .int .i64 z2] 128)
  replace hT := hT.keep hB
  by_cases h1 : z1 = 0
  · have e : heldF tr (z1, z2) rail bus Span.weekly = rail + bus := by simp [heldF, h1]
    rw [e]
    clear e
    subst h1
    go_enter Try.func98, Try.ntmps98
    go_wp2_with fail
    go_ret
    exact ⟨ret_int rfl, hB⟩
  · have S := fun W h => span_calls tr m z1 z2 W h
    have e : heldF tr (z1, z2) rail bus Span.weekly = mn (rail + bus) (mx (spanOf tr (z1, z2) Span.weekly) bus) := by simp [heldF, h1]
    rw [e]
    have e2 : ∀ o : Option Span, spRes o = .tuple #[.agg #[.int .i64 (spOut o).1, .int .i64 (spOut o).2.1, .int .i64 (spOut o).2.2.1, .int .i64 (spOut o).2.2.2.1, .int .i64 (spOut o).2.2.2.2.1], .bool (spOut o).2.2.2.2.2] := fun o => by cases o <;> rfl
    have e3 : spanOf tr (z1, z2) Span.weekly = Span.weekly ⟨(spOut (spFind tr.sp z1 z2)).1, (spOut (spFind tr.sp z1 z2)).2.1, (spOut (spFind tr.sp z1 z2)).2.2.1, (spOut (spFind tr.sp z1 z2)).2.2.2.1, (spOut (spFind tr.sp z1 z2)).2.2.2.2.1⟩ := by
      unfold spanOf
      cases spFind tr.sp z1 z2 <;> rfl
    rw [e2] at S
    rw [e3]
    clear e e2 e3
    generalize spOut (spFind tr.sp z1 z2) = o at *
    obtain ⟨s1, s2, s3, s4, s5, s6⟩ := o
    simp only at S ⊢
    have G := week1_calls ⟨s1, s2, s3, s4, s5⟩
    simp only at G
    go_enter Try.func98, Try.ntmps98
    go_wp2_with fail
    refine (S _ hT).mono ?_
    rintro _ wq ⟨rfl, hb2⟩
    replace hB := bThen hB hb2
    clear hb2
    go_wp2_with fail
    refine (G _).mono ?_
    rintro _ wp ⟨rfl, hb2⟩
    go_wp2_with fail
    all_goals
      go_ret
      exact ⟨ret_int (by simp only [mn, mx]; grind), bThen (by (repeat (first | (with_reducible exact hB) | (with_reducible refine bAlloc ?_ _) | (with_reducible refine bDrewN ?_ _) | (with_reducible refine bDrew ?_) | (with_reducible refine bSet ?_ (by first | exact Nat.le_refl _ | (simp; omega) | omega) _) | (with_reducible refine bThen ?_ (by with_reducible assumption))))) hb2⟩
end Go.Proofs.Ytmeogadkbbeglaa
end
