/- What the claim's walk leans on: U07, W18, P19, W19, W19b, U18c. -/
import Derived.Test.YtmeogadkbbeglaaH4
import Derived.Test.YtmeogadkbbeglaaH3
import Derived.Test.YtmeogadkbbeglaaK3
import Derived.Test.YtmeogadkbbeglaaK2
import Derived.Test.YtmeogadkbbeglaaK6
import Derived.Test.YtmeogadkbbeglaaK5
import Derived.Test.YtmeogadkbbeglaaK4
section
namespace Go.Proofs.Ytmeogadkbbeglaa
open Go.RowKit Go.Proofs.YtmeogadkbbeglaaQ Go.Proofs.YtmeogadkbbeglaaW.PrintWords Go.Proofs.YtmeogadkbbeglaaW.PrintLast Go.Proofs.YtmeogadkbbeglaaW.PrintMore
set_option linter.unusedVariables false
set_option linter.unusedSimpArgs false
theorem wrap_up {i : Nat} (h : i < 9223372036854775807) : wrap64 ((i : Int) + 1) = ((i + 1 : Nat) : Int) := by unfold wrap64; omega
def tri : Nat → Nat
  | 0 => 0
  | d + 1 => tri d + (d + 1)
theorem tri_eq : ∀ d : Nat, 2 * tri d = d * (d + 1)
  | 0 => rfl
  | d + 1 => by have := tri_eq d; simp only [tri]; rw [Nat.mul_add, this]; simp only [Nat.mul_add, Nat.add_mul]; omega
end Go.Proofs.Ytmeogadkbbeglaa
end
section
namespace Go.Proofs.Ytmeogadkbbeglaa
open Go.RowKit Go.Proofs.YtmeogadkbbeglaaQ
set_option maxHeartbeats 1600000
set_option maxRecDepth 100000
/-- the lists' lengths are within their capacities -/
structure TMem.Caps (m : TMem) (t : Tariff) : Prop where
  k1 : t.st.length ≤ m.c1
  k2 : t.sp.length ≤ m.c2
  k3 : t.pk.length ≤ m.c3
theorem plain_calls2 (w : World) : Calls Try.prog 70 #[] w fun e w' => ∃ m : TMem, e = .returned (.agg (plainT.cells m)) ∧ m.Caps plainT ∧ plainT.At w' m ∧ Below w.heap.size w w' := by
  have HB := Below.refl w.heap.size w
  go_enter Try.func70, Try.ntmps70
  go_wp2_with fail
  refine bodyPost_ret (v := .agg (plainT.cells ⟨some ⟨w.heap.size + 1, 0, none⟩, 2, some ⟨w.heap.size + 1 + 1, 0, none⟩, 3, none, 0⟩)) (by simp [results, Try.results70, go_sem]; simp [plainT]) rfl ?_
  refine ⟨_, rfl, ⟨Nat.le_refl _, Nat.le_refl _, Nat.le_refl _⟩, ⟨?_, ?_, sliceAt_nil _ _ _ _, by simp [plainT]⟩, by (repeat (first | (with_reducible exact HB) | (with_reducible refine bAlloc ?_ _) | (with_reducible refine bDrewN ?_ _) | (with_reducible refine bDrew ?_) | (with_reducible refine bSet ?_ (by first | exact Nat.le_refl _ | (simp; omega) | omega) _) | (with_reducible refine bThen ?_ (by with_reducible assumption))))⟩
  · exact sliceAt_box ((Box.new' (by simp) _ _).alloc _) (fun _ => rfl) (by simp [plainT]) (fun k v hk => by simpa [plainT, Station.vals] using hk)
  · exact sliceAt_box (Box.new' (by simp) _ _) (fun _ => rfl) (by simp [plainT]) (fun k v hk => by simpa [plainT, Span.vals] using hk)
end Go.Proofs.Ytmeogadkbbeglaa
end
section
namespace Go.Proofs.Ytmeogadkbbeglaa
set_option linter.unusedVariables false
def zWith (z : Int × Int) (lo hi : Int) : Int × Int := if lo = 0 then z else if z.1 = 0 then (lo, hi) else (mn z.1 lo, mx z.2 hi)
def spanOf (t : Tariff) (z : Int × Int) (f : Span → Int) : Int := match spFind t.sp z.1 z.2 with
  | some s => f s
  | none => f ⟨0, 0, 0, 0, 0⟩
def heldF (t : Tariff) (z : Int × Int) (rail bus : Int) (f : Span → Int) : Int := if z.1 = 0 then rail + bus else mn (rail + bus) (mx (spanOf t z f) bus)
structure DAcc where
  rail : Int
  bus : Int
  most : Int
  z1 : Int
  z2 : Int
/-- a day's step: the error, and what is there then -/
def dayStep (t : Tariff) (day : Int) (a : DAcc) (p : Priced) : Int × DAcc :=
  if p.j.kind < 1 ∨ 4 < p.j.kind then (1, a)
  else if p.fare < 0 ∨ 1048576 < p.fare then (50, a)
  else if timeB p.j.start = false ∨ dayF p.j.start ≠ day then (60, a)
  else if p.j.kind = 4 then (0, { a with bus := a.bus + p.fare })
  else if p.j.kind ≠ 1 then (0, { a with most := a.most + p.fare })
  else match stFind t.st p.j.frm, stFind t.st p.j.dst with
    | some x, some y => (0, { a with rail := a.rail + p.fare, z1 := (zWith (a.z1, a.z2) (mn x.zone y.zone) (mx x.zone y.zone)).1, z2 := (zWith (a.z1, a.z2) (mn x.zone y.zone) (mx x.zone y.zone)).2 })
    | _, _ => (1, a)
def dayGo (t : Tariff) (day : Int) : List Priced → DAcc → Int × DAcc
  | [], a => (0, a)
  | p :: r, a => if (dayStep t day a p).1 = 0 then dayGo t day r (dayStep t day a p).2 else dayStep t day a p
theorem dayGo_cons (t : Tariff) (day : Int) (p : Priced) (r : List Priced) (a : DAcc) : dayGo t day (p :: r) a = if (dayStep t day a p).1 = 0 then dayGo t day r (dayStep t day a p).2 else dayStep t day a p := rfl
def DayC.zero : DayC := ⟨0, 0, 0, 0, 0, 0, 0⟩
def dayEnd (t : Tariff) (day : Int) (a : DAcc) : DayC := ⟨day, a.rail, mn a.bus t.busDaily, heldF t (a.z1, a.z2) a.rail (mn a.bus t.busDaily) Span.daily, a.most, a.z1, a.z2⟩
/-- what caps.Day answers -/
def dayC (t : Tariff) (day : Int) (l : List Priced) : DayC × Int :=
  if rightF t ≠ 0 then (DayC.zero, rightF t)
  else if 2000 < l.length then (DayC.zero, 2)
  else if (dayGo t day l ⟨0, 0, 0, 0, 0⟩).1 ≠ 0 then (DayC.zero, (dayGo t day l ⟨0, 0, 0, 0, 0⟩).1)
  else (dayEnd t day (dayGo t day l ⟨0, 0, 0, 0, 0⟩).2, 0)
/-- the bounds that hold all along -/
structure DAcc.Ok (a : DAcc) (k : Nat) : Prop where
  r1 : 0 ≤ a.rail
  r2 : a.rail ≤ 1048576 * k
  b1 : 0 ≤ a.bus
  b2 : a.bus ≤ 1048576 * k
  m1 : 0 ≤ a.most
  m2 : a.most ≤ 1048576 * k
theorem DAcc.Ok.zero : DAcc.Ok ⟨0, 0, 0, 0, 0⟩ 0 := ⟨by simp, by simp, by simp, by simp, by simp, by simp⟩
theorem DAcc.Ok.step {t : Tariff} {day : Int} {a : DAcc} {p : Priced} {k : Nat} (h : a.Ok k) (h0 : (dayStep t day a p).1 = 0) : (dayStep t day a p).2.Ok (k + 1) := by
  obtain ⟨r1, r2, b1, b2, m1, m2⟩ := h
  have e : (1048576 : Int) * ((k + 1 : Nat) : Int) = 1048576 * (k : Int) + 1048576 := by omega
  unfold dayStep at h0 ⊢
  by_cases h1 : p.j.kind < 1 ∨ 4 < p.j.kind
  · rw [if_pos h1] at h0; exact absurd h0 (by simp)
  rw [if_neg h1] at h0 ⊢
  by_cases h2 : p.fare < 0 ∨ 1048576 < p.fare
  · rw [if_pos h2] at h0; exact absurd h0 (by simp)
  rw [if_neg h2] at h0 ⊢
  by_cases h3 : timeB p.j.start = false ∨ dayF p.j.start ≠ day
  · rw [if_pos h3] at h0; exact absurd h0 (by simp)
  rw [if_neg h3] at h0 ⊢
  by_cases h4 : p.j.kind = 4
  · rw [if_pos h4]
    constructor <;> simp only <;> omega
  rw [if_neg h4] at h0 ⊢
  by_cases h5 : p.j.kind ≠ 1
  · rw [if_pos h5]
    constructor <;> simp only <;> omega
  rw [if_neg h5] at h0 ⊢
  split
  · constructor <;> simp only <;> omega
  · rename_i hno
    split at h0
    · rename_i x y hx hy
      exact absurd hy (hno x y hx)
    · exact absurd h0 (by simp)
def sumB (n : Int) : Bool := decide (0 ≤ n ∧ n ≤ 1099511627776)
def lateB (d : DayC) : Option DayC → Bool
  | none => false
  | some x => decide (d.day ≤ x.day) || (weekF d.day != weekF x.day)
/-- what bad answers -/
def badF (t : Tariff) (d : DayC) (ahead : Option DayC) : Int :=
  if lateB d ahead = true then 60
  else if (sumB d.rail && (sumB d.bus && (sumB d.capped && sumB d.most))) = false then 50
  else if d.capped < d.bus then 50
  else if d.low = 0 ∧ d.high = 0 then 0
  else if (spFind t.sp d.low d.high).isSome = false ∨ d.low < 1 ∨ d.high < d.low then 1
  else 0
structure WAcc where
  rail : Int
  bus : Int
  most : Int
  z1 : Int
  z2 : Int
def wkStep (a : WAcc) (d : DayC) : WAcc := ⟨a.rail + (d.capped - d.bus), a.bus + d.bus, a.most + d.most, (zWith (a.z1, a.z2) d.low d.high).1, (zWith (a.z1, a.z2) d.low d.high).2⟩
def wkGo (t : Tariff) : List DayC → Option DayC → WAcc → Int × WAcc
  | [], _, a => (0, a)
  | d :: r, ahead, a => if badF t d ahead = 0 then wkGo t r (some d) (wkStep a d) else (badF t d ahead, a)
theorem wkGo_cons (t : Tariff) (d : DayC) (r : List DayC) (o : Option DayC) (a : WAcc) : wkGo t (d :: r) o a = if badF t d o = 0 then wkGo t r (some d) (wkStep a d) else (badF t d o, a) := rfl
def wkEnd (t : Tariff) (a : WAcc) : Int := heldF t (a.z1, a.z2) a.rail (mn a.bus t.busWeekly) Span.weekly + a.most
/-- what caps.Week answers -/
def weekC (t : Tariff) (l : List DayC) : Int × Int :=
  if rightF t ≠ 0 then (0, rightF t)
  else if 7 < l.length then (0, 2)
  else if (wkGo t l none ⟨0, 0, 0, 0, 0⟩).1 ≠ 0 then (0, (wkGo t l none ⟨0, 0, 0, 0, 0⟩).1)
  else (wkEnd t (wkGo t l none ⟨0, 0, 0, 0, 0⟩).2, 0)
structure WAcc.Ok (a : WAcc) (k : Nat) : Prop where
  r1 : 0 ≤ a.rail
  r2 : a.rail ≤ 1099511627776 * k
  b1 : 0 ≤ a.bus
  b2 : a.bus ≤ 1099511627776 * k
  m1 : 0 ≤ a.most
  m2 : a.most ≤ 1099511627776 * k
theorem WAcc.Ok.zero : WAcc.Ok ⟨0, 0, 0, 0, 0⟩ 0 := ⟨by simp, by simp, by simp, by simp, by simp, by simp⟩
theorem bad_ok {t : Tariff} {d : DayC} {o : Option DayC} (h : badF t d o = 0) : lateB d o = false ∧ (0 ≤ d.rail ∧ d.rail ≤ 1099511627776) ∧ (0 ≤ d.bus ∧ d.bus ≤ 1099511627776) ∧ (0 ≤ d.capped ∧ d.capped ≤ 1099511627776) ∧ (0 ≤ d.most ∧ d.most ≤ 1099511627776) ∧ d.bus ≤ d.capped ∧
    ((d.low = 0 ∧ d.high = 0) ∨ ((spFind t.sp d.low d.high).isSome = true ∧ 1 ≤ d.low ∧ d.low ≤ d.high)) := by
  unfold badF at h
  by_cases h1 : lateB d o = true
  · rw [if_pos h1] at h; exact absurd h (by decide)
  rw [if_neg h1] at h
  by_cases h2 : (sumB d.rail && (sumB d.bus && (sumB d.capped && sumB d.most))) = false
  · rw [if_pos h2] at h; exact absurd h (by decide)
  rw [if_neg h2] at h
  by_cases h3 : d.capped < d.bus
  · rw [if_pos h3] at h; exact absurd h (by decide)
  rw [if_neg h3] at h
  have h2' : (sumB d.rail && (sumB d.bus && (sumB d.capped && sumB d.most))) = true := by cases hh : (sumB d.rail && (sumB d.bus && (sumB d.capped && sumB d.most))) <;> simp_all
  simp only [Bool.and_eq_true, sumB, decide_eq_true_eq] at h2'
  refine ⟨by cases hh : lateB d o <;> simp_all, h2'.1, h2'.2.1, h2'.2.2.1, h2'.2.2.2, by omega, ?_⟩
  by_cases h4 : d.low = 0 ∧ d.high = 0
  · exact .inl h4
  rw [if_neg h4] at h
  by_cases h5 : (spFind t.sp d.low d.high).isSome = false ∨ d.low < 1 ∨ d.high < d.low
  · rw [if_pos h5] at h; exact absurd h (by decide)
  · right
    refine ⟨?_, by omega, by omega⟩
    cases hh : (spFind t.sp d.low d.high).isSome
    · exact absurd (.inl hh) h5
    · rfl
theorem WAcc.Ok.step {t : Tariff} {d : DayC} {o : Option DayC} {a : WAcc} {k : Nat} (h : a.Ok k) (h0 : badF t d o = 0) : (wkStep a d).Ok (k + 1) := by
  obtain ⟨r1, r2, b1, b2, m1, m2⟩ := h
  obtain ⟨-, hr, hb, hc, hm, hcb, -⟩ := bad_ok h0
  have e : (1099511627776 : Int) * ((k + 1 : Nat) : Int) = 1099511627776 * (k : Int) + 1099511627776 := by omega
  constructor <;> simp only [wkStep] <;> omega
end Go.Proofs.Ytmeogadkbbeglaa
end
section
namespace Go.Proofs.Ytmeogadkbbeglaa
open Go.RowKit Go.Proofs.YtmeogadkbbeglaaQ
set_option maxHeartbeats 1600000
set_option maxRecDepth 100000
theorem with_calls (z1 z2 lo hi : Int) (w : World) :
    Calls Try.prog 97 #[.agg #[.int .i64 z1, .int .i64 z2], .int .i64 lo, .int .i64 hi] w fun e w' => e = .returned (.agg #[.int .i64 (zWith (z1, z2) lo hi).1, .int .i64 (zWith (z1, z2) lo hi).2]) ∧ Below w.heap.size w w' := by
  have HB := Below.refl w.heap.size w
  by_cases h1 : lo = 0
  · have e : zWith (z1, z2) lo hi = (z1, z2) := by simp [zWith, h1]
    rw [e]
    subst h1
    go_enter Try.func97, Try.ntmps97
    go_wp2_with fail
    refine bodyPost_ret (v := .agg #[.int .i64 z1, .int .i64 z2]) (by simp [results, Try.results97, go_sem]) rfl ⟨rfl, by (repeat (first | (with_reducible exact HB) | (with_reducible refine bAlloc ?_ _) | (with_reducible refine bDrewN ?_ _) | (with_reducible refine bDrew ?_) | (with_reducible refine bSet ?_ (by first | exact Nat.le_refl _ | (simp; omega) | omega) _) | (with_reducible refine bThen ?_ (by with_reducible assumption))))⟩
  · by_cases h2 : z1 = 0
    · have e : zWith (z1, z2) lo hi = (lo, hi) := by simp [zWith, h1, h2]
      rw [e]
      subst h2
      go_enter Try.func97, Try.ntmps97
      go_wp2_with fail
      refine bodyPost_ret (v := .agg #[.int .i64 lo, .int .i64 hi]) (by simp [results, Try.results97, go_sem]) rfl ⟨rfl, by (repeat (first | (with_reducible exact HB) | (with_reducible refine bAlloc ?_ _) | (with_reducible refine bDrewN ?_ _) | (with_reducible refine bDrew ?_) | (with_reducible refine bSet ?_ (by first | exact Nat.le_refl _ | (simp; omega) | omega) _) | (with_reducible refine bThen ?_ (by with_reducible assumption))))⟩
    · have e : zWith (z1, z2) lo hi = (mn z1 lo, mx z2 hi) := by simp [zWith, h1, h2]
      rw [e]
      go_enter Try.func97, Try.ntmps97
      go_wp2_with fail
      all_goals
        refine bodyPost_ret (v := .agg #[.int .i64 (mn z1 lo), .int .i64 (mx z2 hi)]) (by simp [results, Try.results97, go_sem]; simp only [mn, mx]; grind) rfl ⟨rfl, by (repeat (first | (with_reducible exact HB) | (with_reducible refine bAlloc ?_ _) | (with_reducible refine bDrewN ?_ _) | (with_reducible refine bDrew ?_) | (with_reducible refine bSet ?_ (by first | exact Nat.le_refl _ | (simp; omega) | omega) _) | (with_reducible refine bThen ?_ (by with_reducible assumption))))⟩
theorem day2_calls (s : Span) (w : World) :
    Calls Try.prog 99 #[.agg #[.int .i64 s.frm, .int .i64 s.to, .int .i64 s.single, .int .i64 s.daily, .int .i64 s.weekly]] w fun e w' => e = .returned (.int .i64 s.daily) ∧ Below w.heap.size w w' := by
  have HB := Below.refl w.heap.size w
  go_enter Try.func99, Try.ntmps99
  go_wp2_with fail
  go_ret
  exact ⟨rfl, by (repeat (first | (with_reducible exact HB) | (with_reducible refine bAlloc ?_ _) | (with_reducible refine bDrewN ?_ _) | (with_reducible refine bDrew ?_) | (with_reducible refine bSet ?_ (by first | exact Nat.le_refl _ | (simp; omega) | omega) _) | (with_reducible refine bThen ?_ (by with_reducible assumption))))⟩
theorem week1_calls (s : Span) (w : World) :
    Calls Try.prog 102 #[.agg #[.int .i64 s.frm, .int .i64 s.to, .int .i64 s.single, .int .i64 s.daily, .int .i64 s.weekly]] w fun e w' => e = .returned (.int .i64 s.weekly) ∧ Below w.heap.size w w' := by
  have HB := Below.refl w.heap.size w
  go_enter Try.func102, Try.ntmps102
  go_wp2_with fail
  go_ret
  exact ⟨rfl, by (repeat (first | (with_reducible exact HB) | (with_reducible refine bAlloc ?_ _) | (with_reducible refine bDrewN ?_ _) | (with_reducible refine bDrew ?_) | (with_reducible refine bSet ?_ (by first | exact Nat.le_refl _ | (simp; omega) | omega) _) | (with_reducible refine bThen ?_ (by with_reducible assumption))))⟩
theorem heldDay_calls (tr : Tariff) (m : TMem) (z1 z2 rail bus : Int) (w : World) (hT : tr.At w m) (hr : -4611686018427387904 ≤ rail ∧ rail ≤ 2305843009213693952) (hb : -4611686018427387904 ≤ bus ∧ bus ≤ 2305843009213693952) :
    Calls Try.prog 98 #[.agg (tr.cells m), .agg #[.int .i64 z1, .int .i64 z2], .int .i64 rail, .int .i64 bus, .func (.func 99) #[] #[]] w fun e w' => e = .returned (.int .i64 (heldF tr (z1, z2) rail bus Span.daily)) ∧ Below w.heap.size w w' := by
  have HX := (Box.new w (tr.cells m) 27).alloc (.cells #[.int .i64 z1, .int .i64 z2] 128)
  have HZ := Box.new' (w := w.alloc (.cells (tr.cells m) 27)) (b := w.heap.size + 1) (by simp) #[.int .i64 z1, .int .i64 z2] 128
  have hB := bAlloc (bAlloc (Below.refl w.heap.size w) (.cells (tr.cells m) 27)) (.cells #[.int .i64 z1, .int .i64 z2] 128)
  replace hT := hT.keep hB
  by_cases h1 : z1 = 0
  · have e : heldF tr (z1, z2) rail bus Span.daily = rail + bus := by simp [heldF, h1]
    rw [e]
    clear e
    subst h1
    go_enter Try.func98, Try.ntmps98
    go_wp2_with fail
    go_ret
    exact ⟨ret_int rfl, hB⟩
  · have S := fun W h => span_calls tr m z1 z2 W h
    have e : heldF tr (z1, z2) rail bus Span.daily = mn (rail + bus) (mx (spanOf tr (z1, z2) Span.daily) bus) := by simp [heldF, h1]
    rw [e]
    have e2 : ∀ o : Option Span, spRes o = .tuple #[.agg #[.int .i64 (spOut o).1, .int .i64 (spOut o).2.1, .int .i64 (spOut o).2.2.1, .int .i64 (spOut o).2.2.2.1, .int .i64 (spOut o).2.2.2.2.1], .bool (spOut o).2.2.2.2.2] := fun o => by cases o <;> rfl
    have e3 : spanOf tr (z1, z2) Span.daily = Span.daily ⟨(spOut (spFind tr.sp z1 z2)).1, (spOut (spFind tr.sp z1 z2)).2.1, (spOut (spFind tr.sp z1 z2)).2.2.1, (spOut (spFind tr.sp z1 z2)).2.2.2.1, (spOut (spFind tr.sp z1 z2)).2.2.2.2.1⟩ := by
      unfold spanOf
      cases spFind tr.sp z1 z2 <;> rfl
    rw [e2] at S
    rw [e3]
    clear e e2 e3
    generalize spOut (spFind tr.sp z1 z2) = o at *
    obtain ⟨s1, s2, s3, s4, s5, s6⟩ := o
    simp only at S ⊢
    have G := day2_calls ⟨s1, s2, s3, s4, s5⟩
    simp only at G
    go_enter Try.func98, Try.ntmps98
    go_wp2_with fail
    refine (S _ hT).mono ?_
    rintro _ wq ⟨rfl, hb2⟩
    replace hB := bThen hB hb2
    clear hb2
    go_wp2_with fail
    refine (G _).mono ?_
    rintro _ wp ⟨rfl, hb2⟩
    go_wp2_with fail
    all_goals
      go_ret
      exact ⟨ret_int (by simp only [mn, mx]; grind), bThen (by (repeat (first | (with_reducible exact hB) | (with_reducible refine bAlloc ?_ _) | (with_reducible refine bDrewN ?_ _) | (with_reducible refine bDrew ?_) | (with_reducible refine bSet ?_ (by first | exact Nat.le_refl _ | (simp; omega) | omega) _) | (with_reducible refine bThen ?_ (by with_reducible assumption))))) hb2⟩
theorem heldWeek_calls (tr : Tariff) (m : TMem) (z1 z2 rail bus : Int) (w : World) (hT : tr.At w m) (hr : -4611686018427387904 ≤ rail ∧ rail ≤ 2305843009213693952) (hb : -4611686018427387904 ≤ bus ∧ bus ≤ 2305843009213693952) :
    Calls Try.prog 98 #[.agg (tr.cells m), .agg #[.int .i64 z1, .int .i64 z2], .int .i64 rail, .int .i64 bus, .func (.func 102) #[] #[]] w fun e w' => e = .returned (.int .i64 (heldF tr (z1, z2) rail bus Span.weekly)) ∧ Below w.heap.size w w' := by
  have HX := (Box.new w (tr.cells m) 27).alloc (.cells #[.int .i64 z1, .int .i64 z2] 128)
  have HZ := Box.new' (w := w.alloc (.cells (tr.cells m) 27)) (b := w.heap.size + 1) (by simp) #[.int .i64 z1, .int .i64 z2] 128
  have hB := bAlloc (bAlloc (Below.refl w.heap.size w) (.cells (tr.cells m) 27)) (.cells #[.int .i64 z1, .int .i64 z2] 128)
  replace hT := hT.keep hB
  by_cases h1 : z1 = 0
  · have e : heldF tr (z1, z2) rail bus Span.weekly = rail + bus := by simp [heldF, h1]
    rw [e]
    clear e
    subst h1
    go_enter Try.func98, Try.ntmps98
    go_wp2_with fail
    go_ret
    exact ⟨ret_int rfl, hB⟩
  · have S := fun W h => span_calls tr m z1 z2 W h
    have e : heldF tr (z1, z2) rail bus Span.weekly = mn (rail + bus) (mx (spanOf tr (z1, z2) Span.weekly) bus) := by simp [heldF, h1]
    rw [e]
    have e2 : ∀ o : Option Span, spRes o = .tuple #[.agg #[.int .i64 (spOut o).1, .int .i64 (spOut o).2.1, .int .i64 (spOut o).2.2.1, .int .i64 (spOut o).2.2.2.1, .int .i64 (spOut o).2.2.2.2.1], .bool (spOut o).2.2.2.2.2] := fun o => by cases o <;> rfl
    have e3 : spanOf tr (z1, z2) Span.weekly = Span.weekly ⟨(spOut (spFind tr.sp z1 z2)).1, (spOut (spFind tr.sp z1 z2)).2.1, (spOut (spFind tr.sp z1 z2)).2.2.1, (spOut (spFind tr.sp z1 z2)).2.2.2.1, (spOut (spFind tr.sp z1 z2)).2.2.2.2.1⟩ := by
      unfold spanOf
      cases spFind tr.sp z1 z2 <;> rfl
    rw [e2] at S
    rw [e3]
    clear e e2 e3
    generalize spOut (spFind tr.sp z1 z2) = o at *
    obtain ⟨s1, s2, s3, s4, s5, s6⟩ := o
    simp only at S ⊢
    have G := week1_calls ⟨s1, s2, s3, s4, s5⟩
    simp only at G
    go_enter Try.func98, Try.ntmps98
    go_wp2_with fail
    refine (S _ hT).mono ?_
    rintro _ wq ⟨rfl, hb2⟩
    replace hB := bThen hB hb2
    clear hb2
    go_wp2_with fail
    refine (G _).mono ?_
    rintro _ wp ⟨rfl, hb2⟩
    go_wp2_with fail
    all_goals
      go_ret
      exact ⟨ret_int (by simp only [mn, mx]; grind), bThen (by (repeat (first | (with_reducible exact hB) | (with_reducible refine bAlloc ?_ _) | (with_reducible refine bDrewN ?_ _) | (with_reducible refine bDrew ?_) | (with_reducible refine bSet ?_ (by first | exact Nat.le_refl _ | (simp; omega) | omega) _) | (with_reducible refine bThen ?_ (by with_reducible assumption))))) hb2⟩
end Go.Proofs.Ytmeogadkbbeglaa
end
section
namespace Go.Proofs.Ytmeogadkbbeglaa
open Go.RowKit Go.Proofs.YtmeogadkbbeglaaQ
set_option linter.unusedVariables false
set_option maxHeartbeats 3200000
set_option maxRecDepth 100000
/-- All of w's blocks but p and q are as they were. -/
structure Spare (p q : Nat) (w w' : World) : Prop where
  os : w'.os = w.os
  tape : w'.tape = w.tape
  output : w'.output = w.output
  size : w.heap.size ≤ w'.heap.size
  block : ∀ k, k < w.heap.size → k ≠ p → k ≠ q → w'.heap[k]? = w.heap[k]?
theorem Spare.of {p q : Nat} {w w' : World} (h : Below w.heap.size w w') : Spare p q w w' := ⟨h.os, h.tape, h.output, h.size, fun k hk _ _ => h.block k hk⟩
theorem Spare.trans {p q : Nat} {a b c : World} (h : Spare p q a b) (k : Spare p q b c) : Spare p q a c :=
  ⟨k.os.trans h.os, k.tape.trans h.tape, k.output.trans h.output, Nat.le_trans h.size k.size, fun i hi h1 h2 => (k.block i (Nat.lt_of_lt_of_le hi h.size) h1 h2).trans (h.block i hi h1 h2)⟩
theorem Spare.set {p q : Nat} {w W : World} (h : Spare p q w W) {a : Addr} (ha : a.block = p ∨ a.block = q) (u : Value) : Spare p q w (W.setCell a u) :=
  have k := bSet (B := 0) (Below.refl 0 W) (p := a) (Nat.zero_le _) u
  ⟨k.os.trans h.os, k.tape.trans h.tape, k.output.trans h.output, Nat.le_trans h.size k.size, fun i hi h1 h2 => (Below.heap_setCell W a u i (by omega)).trans (h.block i hi h1 h2)⟩
theorem Spare.below {p q B : Nat} {w w' : World} (h : Spare p q w w') (hp : B ≤ p) (hq : B ≤ q) (hB : B ≤ w.heap.size) : Below B w w' :=
  ⟨h.os, h.tape, h.output, h.size, fun k hk => h.block k (by omega) (by omega) (by omega)⟩
theorem Box.spare {p q b : Nat} {w w' : World} {cs : Array Value} {T : TypeId} (h : Box w b cs T) (k : Spare p q w w') (h1 : b ≠ p) (h2 : b ≠ q) : Box w' b cs T := (k.block b h.lt h1 h2).trans h
def DAcc.out (a : DAcc) (day : Int) : Array Value := #[.int .i64 day, .int .i64 a.rail, .int .i64 a.bus, .int .i64 0, .int .i64 a.most, .int .i64 0, .int .i64 0]
def DAcc.zs (a : DAcc) : Array Value := #[.int .i64 a.z1, .int .i64 a.z2]
theorem endBelow {p q : Nat} {w W : World} {cs ds : Array Value} {S T : TypeId} (h1 : Box w p cs S) (h2 : Box w q ds T) (h : Below w.heap.size w W) : Box W p cs S ∧ Box W q ds T ∧ Spare p q w W :=
  ⟨h1.below' h, h2.below' h, Spare.of h⟩
theorem take_calls (t : Tariff) (m : TMem) (day : Int) (a : DAcc) (p : Priced) (bd bo bt bz : Nat) (w : World) (hT : t.At w m)
    (HD : Box w bd #[.int .i64 day] 3) (HO : Box w bo (a.out day) 57) (HX : Box w bt (t.cells m) 27) (HZ : Box w bz a.zs 128)
    (n1 : bd ≠ bo) (n2 : bd ≠ bz) (n3 : bt ≠ bo) (n4 : bt ≠ bz) (n5 : bo ≠ bz)
    (r1 : 0 ≤ a.rail ∧ a.rail ≤ 1152921504606846976) (r2 : 0 ≤ a.bus ∧ a.bus ≤ 1152921504606846976) (r3 : 0 ≤ a.most ∧ a.most ≤ 1152921504606846976) :
    Calls Try.prog 96 #[.agg #[.int .i64 p.j.kind, .int .i64 p.j.frm, .int .i64 p.j.dst, .int .i64 p.j.start, .int .i64 p.j.stop, .bool p.j.free, .int .i64 p.fare], .pointer (some ⟨bd, 0, none⟩), .pointer (some ⟨bo, 0, none⟩), .pointer (some ⟨bt, 0, none⟩), .pointer (some ⟨bz, 0, none⟩)] w fun e w' =>
      e = .returned (.int .i64 (dayStep t day a p).1) ∧ Box w' bo ((dayStep t day a p).2.out day) 57 ∧ Box w' bz (dayStep t day a p).2.zs 128 ∧ Spare bo bz w w' := by
  obtain ⟨⟨jk, jf, jd, js, je, jb⟩, fare⟩ := p
  obtain ⟨ra, bu, mo, z1, z2⟩ := a
  simp only at r1 r2 r3 HO HZ ⊢
  have HB := Below.refl w.heap.size w
  have ld := HD.lt
  have lo := HO.lt
  have lt := HX.lt
  have lz := HZ.lt
  have hd : ∀ W, Calls Try.prog 67 #[.int .i64 js] W fun e w' => e = .returned (.tuple #[.int .i64 (dayR js).1, .int .i64 (dayR js).2]) ∧ Below W.heap.size W w' := fun W => (clock_Day.calls js (dayR js).1 (dayR js).2 W (cday_f js)).mono fun _ _ h => ⟨h.1, h.2.below⟩
  by_cases h1 : jk < 1 ∨ 4 < jk
  · have e : dayStep t day ⟨ra, bu, mo, z1, z2⟩ ⟨⟨jk, jf, jd, js, je, jb⟩, fare⟩ = (1, ⟨ra, bu, mo, z1, z2⟩) := by simp only [dayStep, h1, if_true]
    rw [e]
    clear e hd
    rcases h1 with h1 | h1
    all_goals
      go_enter Try.func96, Try.ntmps96
      go_wp2_with fail
      go_ret
      exact ⟨rfl, endBelow HO HZ (by (repeat (first | (with_reducible exact HB) | (with_reducible refine bAlloc ?_ _) | (with_reducible refine bDrewN ?_ _) | (with_reducible refine bDrew ?_) | (with_reducible refine bSet ?_ (by first | exact Nat.le_refl _ | (simp; omega) | omega) _) | (with_reducible refine bThen ?_ (by with_reducible assumption)))))⟩
  · by_cases h2 : fare < 0 ∨ 1048576 < fare
    · have e : dayStep t day ⟨ra, bu, mo, z1, z2⟩ ⟨⟨jk, jf, jd, js, je, jb⟩, fare⟩ = (50, ⟨ra, bu, mo, z1, z2⟩) := by simp only [dayStep, h1, h2, if_true, if_false]
      rw [e]
      clear e hd
      have h1a : ¬ jk < 1 := by omega
      have h1b : ¬ 4 < jk := by omega
      clear h1
      rcases h2 with h2 | h2
      all_goals
        go_enter Try.func96, Try.ntmps96
        go_wp2_with fail
        all_goals try omega
        all_goals
          go_ret
          exact ⟨rfl, endBelow HO HZ (by (repeat (first | (with_reducible exact HB) | (with_reducible refine bAlloc ?_ _) | (with_reducible refine bDrewN ?_ _) | (with_reducible refine bDrew ?_) | (with_reducible refine bSet ?_ (by first | exact Nat.le_refl _ | (simp; omega) | omega) _) | (with_reducible refine bThen ?_ (by with_reducible assumption)))))⟩
    · have h1a : ¬ jk < 1 := by omega
      have h1b : ¬ 4 < jk := by omega
      have h2a : ¬ fare < 0 := by omega
      have h2b : ¬ 1048576 < fare := by omega
      have HO7 : Box w bo #[.int .i64 day, .int .i64 ra, .int .i64 bu, .int .i64 0, .int .i64 mo, .int .i64 0, .int .i64 0] 57 := HO
      have HZ2 : Box w bz #[.int .i64 z1, .int .i64 z2] 128 := HZ
      by_cases h3 : timeB js = false ∨ dayF js ≠ day
      · have e : dayStep t day ⟨ra, bu, mo, z1, z2⟩ ⟨⟨jk, jf, jd, js, je, jb⟩, fare⟩ = (60, ⟨ra, bu, mo, z1, z2⟩) := by simp only [dayStep, h1, h2, h3, if_true, if_false]
        rw [e]
        clear e h1 h2
        cases ht : timeB js
        · simp only [dayR, ht, Bool.false_eq_true, if_false] at hd
          clear h3 ht
          go_enter Try.func96, Try.ntmps96
          go_wp2_with fail
          refine (hd _).mono ?_
          rintro _ wq ⟨rfl, hb⟩
          replace HB : Below w.heap.size w wq := bThen (by (repeat (first | (with_reducible exact HB) | (with_reducible refine bAlloc ?_ _) | (with_reducible refine bDrewN ?_ _) | (with_reducible refine bDrew ?_) | (with_reducible refine bSet ?_ (by first | exact Nat.le_refl _ | (simp; omega) | omega) _) | (with_reducible refine bThen ?_ (by with_reducible assumption))))) hb
          go_wp2_with fail
          go_ret
          exact ⟨rfl, endBelow HO HZ (by (repeat (first | (with_reducible exact HB) | (with_reducible refine bAlloc ?_ _) | (with_reducible refine bDrewN ?_ _) | (with_reducible refine bDrew ?_) | (with_reducible refine bSet ?_ (by first | exact Nat.le_refl _ | (simp; omega) | omega) _) | (with_reducible refine bThen ?_ (by with_reducible assumption)))))⟩
        · simp only [dayR, ht, if_true] at hd
          have hne : dayF js ≠ day := by rcases h3 with h | h; rw [ht] at h; cases h; exact h
          generalize dayF js = on at *
          clear h3 ht
          go_enter Try.func96, Try.ntmps96
          go_wp2_with fail
          refine (hd _).mono ?_
          rintro _ wq ⟨rfl, hb⟩
          replace HB : Below w.heap.size w wq := bThen (by (repeat (first | (with_reducible exact HB) | (with_reducible refine bAlloc ?_ _) | (with_reducible refine bDrewN ?_ _) | (with_reducible refine bDrew ?_) | (with_reducible refine bSet ?_ (by first | exact Nat.le_refl _ | (simp; omega) | omega) _) | (with_reducible refine bThen ?_ (by with_reducible assumption))))) hb
          have HD2 := HD.below' HB
          have HD2a := (HD2).cell 0; have HD2l := (HD2).lt; simp at HD2a
          go_wp2_with fail
          go_ret
          exact ⟨rfl, endBelow HO HZ (by (repeat (first | (with_reducible exact HB) | (with_reducible refine bAlloc ?_ _) | (with_reducible refine bDrewN ?_ _) | (with_reducible refine bDrew ?_) | (with_reducible refine bSet ?_ (by first | exact Nat.le_refl _ | (simp; omega) | omega) _) | (with_reducible refine bThen ?_ (by with_reducible assumption)))))⟩
      · have ht : timeB js = true := by cases h : timeB js; exact absurd (.inl h) h3; rfl
        have hday : dayF js = day := Decidable.byContradiction fun h => h3 (.inr h)
        simp only [dayR, ht, if_true, hday] at hd
        by_cases h4 : jk = 4
        · have e : dayStep t day ⟨ra, bu, mo, z1, z2⟩ ⟨⟨jk, jf, jd, js, je, jb⟩, fare⟩ = (0, ⟨ra, bu + fare, mo, z1, z2⟩) := by simp only [dayStep]; rw [if_neg h1, if_neg h2, if_neg h3, if_pos h4]
          rw [e]
          clear e h1 h2 h3 ht hday
          subst h4
          have HP := (Box.new w #[.int .i64 4, .int .i64 jf, .int .i64 jd, .int .i64 js, .int .i64 je, .bool jb, .int .i64 fare] 55).alloc (.cells #[.int .i64 4, .int .i64 jf, .int .i64 jd, .int .i64 js, .int .i64 je, .bool jb] 50)
          have HJ := Box.new' (w := w.alloc (.cells #[.int .i64 4, .int .i64 jf, .int .i64 jd, .int .i64 js, .int .i64 je, .bool jb, .int .i64 fare] 55)) (b := w.heap.size + 1) (by simp) #[.int .i64 4, .int .i64 jf, .int .i64 jd, .int .i64 js, .int .i64 je, .bool jb] 50
          go_enter Try.func96, Try.ntmps96
          go_wp2_with fail
          refine (hd _).mono ?_
          rintro _ wq ⟨rfl, hb⟩
          replace HP := HP.below' hb
          replace HJ := HJ.below' hb
          replace HB : Below w.heap.size w wq := bThen (by (repeat (first | (with_reducible exact HB) | (with_reducible refine bAlloc ?_ _) | (with_reducible refine bDrewN ?_ _) | (with_reducible refine bDrew ?_) | (with_reducible refine bSet ?_ (by first | exact Nat.le_refl _ | (simp; omega) | omega) _) | (with_reducible refine bThen ?_ (by with_reducible assumption))))) hb
          have HPa := (HP).cell 0; have HPb := (HP).cell 1; have HPc := (HP).cell 2; have HPd := (HP).cell 3; have HPe := (HP).cell 4; have HPf := (HP).cell 5; have HPg := (HP).cell 6; have HPl := (HP).lt; simp at HPa HPb HPc HPd HPe HPf HPg
          have HJa := (HJ).cell 0; have HJb := (HJ).cell 1; have HJc := (HJ).cell 2; have HJd := (HJ).cell 3; have HJe := (HJ).cell 4; have HJf := (HJ).cell 5; have HJl := (HJ).lt; simp at HJa HJb HJc HJd HJe HJf
          have HD2 := HD.below' HB
          have HO2 := HO7.below' HB
          have HZ3 := HZ2.below' HB
          have HX2 := HX.below' HB
          have HD2a := (HD2).cell 0; have HD2l := (HD2).lt; simp at HD2a
          have HO2a := (HO2).cell 0; have HO2b := (HO2).cell 1; have HO2c := (HO2).cell 2; have HO2d := (HO2).cell 3; have HO2e := (HO2).cell 4; have HO2f := (HO2).cell 5; have HO2g := (HO2).cell 6; have HO2l := (HO2).lt; simp at HO2a HO2b HO2c HO2d HO2e HO2f HO2g
          have y2 := HO2.free 2
          go_wp2_with fail
          go_ret
          exact ⟨rfl, (HO2.set 2 _).cast (by simp [DAcc.out]), HZ3.other _ (by show bz ≠ bo; omega) _, Spare.set (p := bo) (q := bz) (Spare.of HB) (by simp) _⟩
        · by_cases h5 : jk = 1
          · skip
            subst h5
            clear h4
            have S1 := fun W h => station_calls t m jf W h
            have S2 := fun W h => station_calls t m jd W h
            have e : dayStep t day ⟨ra, bu, mo, z1, z2⟩ ⟨⟨1, jf, jd, js, je, jb⟩, fare⟩ = (match stFind t.st jf, stFind t.st jd with
                | some x, some y => (0, { rail := ra + fare, bus := bu, most := mo, z1 := (zWith (z1, z2) (mn x.zone y.zone) (mx x.zone y.zone)).1, z2 := (zWith (z1, z2) (mn x.zone y.zone) (mx x.zone y.zone)).2 })
                | _, _ => (1, ⟨ra, bu, mo, z1, z2⟩)) := by simp only [dayStep]; rw [if_neg (by decide), if_neg h2, if_neg h3, if_neg (by decide), if_neg (by decide)]; all_goals (cases stFind t.st jf <;> cases stFind t.st jd <;> rfl)
            rw [e]
            clear e h1 h2 h3 ht hday
            have HP := (Box.new w #[.int .i64 1, .int .i64 jf, .int .i64 jd, .int .i64 js, .int .i64 je, .bool jb, .int .i64 fare] 55).alloc (.cells #[.int .i64 1, .int .i64 jf, .int .i64 jd, .int .i64 js, .int .i64 je, .bool jb] 50)
            have HJ := Box.new' (w := w.alloc (.cells #[.int .i64 1, .int .i64 jf, .int .i64 jd, .int .i64 js, .int .i64 je, .bool jb, .int .i64 fare] 55)) (b := w.heap.size + 1) (by simp) #[.int .i64 1, .int .i64 jf, .int .i64 jd, .int .i64 js, .int .i64 je, .bool jb] 50
            cases hx : stFind t.st jf with
            | none =>
              cases hy : stFind t.st jd with
              | none =>
                rw [hx] at S1
                rw [hy] at S2
                simp only [stRes] at S1 S2
                go_enter Try.func96, Try.ntmps96
                go_wp2_with fail
                refine (hd _).mono ?_
                rintro _ wq ⟨rfl, hb⟩
                replace HP := HP.below' hb
                replace HJ := HJ.below' hb
                replace HB : Below w.heap.size w wq := bThen (by (repeat (first | (with_reducible exact HB) | (with_reducible refine bAlloc ?_ _) | (with_reducible refine bDrewN ?_ _) | (with_reducible refine bDrew ?_) | (with_reducible refine bSet ?_ (by first | exact Nat.le_refl _ | (simp; omega) | omega) _) | (with_reducible refine bThen ?_ (by with_reducible assumption))))) hb
                have HPa := (HP).cell 0; have HPb := (HP).cell 1; have HPc := (HP).cell 2; have HPd := (HP).cell 3; have HPe := (HP).cell 4; have HPf := (HP).cell 5; have HPg := (HP).cell 6; have HPl := (HP).lt; simp at HPa HPb HPc HPd HPe HPf HPg
                have HJa := (HJ).cell 0; have HJb := (HJ).cell 1; have HJc := (HJ).cell 2; have HJd := (HJ).cell 3; have HJe := (HJ).cell 4; have HJf := (HJ).cell 5; have HJl := (HJ).lt; simp at HJa HJb HJc HJd HJe HJf
                have HD2 := HD.below' HB
                have HX2 := HX.below' HB
                have HD2a := (HD2).cell 0; have HD2l := (HD2).lt; simp at HD2a
                obtain ⟨t0, t1, t2, t3, t4, t5, t6, t7, t8, t9, t10, t11, t12, t13⟩ := tcells HX2
                have lt0 := HX2.lt
                go_wp2_with fail
                refine (S1 _ (hT.keep HB)).mono ?_
                rintro _ w3 ⟨rfl, hb3⟩
                clear t0 t1 t2 t3 t4 t5 t6 t7 t8 t9 t10 t11 t12 t13 lt0 HX2 HD2a HD2l HD2 HPa HPb HPc HPd HPe HPf HPg HPl HJa HJb HJc HJd HJe HJf HJl
                replace HP := HP.below' hb3
                replace HJ := HJ.below' hb3
                have HB3 : Below w.heap.size w w3 := bThen HB hb3
                clear hb3
                have HPa := (HP).cell 0; have HPb := (HP).cell 1; have HPc := (HP).cell 2; have HPd := (HP).cell 3; have HPe := (HP).cell 4; have HPf := (HP).cell 5; have HPg := (HP).cell 6; have HPl := (HP).lt; simp at HPa HPb HPc HPd HPe HPf HPg
                have HJa := (HJ).cell 0; have HJb := (HJ).cell 1; have HJc := (HJ).cell 2; have HJd := (HJ).cell 3; have HJe := (HJ).cell 4; have HJf := (HJ).cell 5; have HJl := (HJ).lt; simp at HJa HJb HJc HJd HJe HJf
                have HX2 := HX.below' HB3
                obtain ⟨t0, t1, t2, t3, t4, t5, t6, t7, t8, t9, t10, t11, t12, t13⟩ := tcells HX2
                have lt0 := HX2.lt
                have HF := Box.new w3 #[.int .i64 0, .int .i64 0, .int .i64 0] 35
                have hz := bAlloc (Below.refl w3.heap.size w3) (.cells #[.int .i64 0, .int .i64 0, .int .i64 0] 35)
                go_wp2_with fail
                refine (S2 _ ((hT.keep HB3).keep hz)).mono ?_
                rintro _ w4 ⟨rfl, hb4⟩
                clear t0 t1 t2 t3 t4 t5 t6 t7 t8 t9 t10 t11 t12 t13 lt0 HX2 HPa HPb HPc HPd HPe HPf HPg HPl HJa HJb HJc HJd HJe HJf HJl
                have hz4 := bThen hz hb4
                replace HP := HP.below' hz4
                replace HJ := HJ.below' hz4
                replace HF := HF.below' hb4
                have HB4 : Below w.heap.size w w4 := bThen HB3 hz4
                clear hz hb4 hz4
                have HPa := (HP).cell 0; have HPb := (HP).cell 1; have HPc := (HP).cell 2; have HPd := (HP).cell 3; have HPe := (HP).cell 4; have HPf := (HP).cell 5; have HPg := (HP).cell 6; have HPl := (HP).lt; simp at HPa HPb HPc HPd HPe HPf HPg
                have HFa := (HF).cell 0; have HFb := (HF).cell 1; have HFc := (HF).cell 2; have HFl := (HF).lt; simp at HFa HFb HFc
                have HO2 := HO7.below' HB4
                have HZ3 := HZ2.below' HB4
                have HO2a := (HO2).cell 0; have HO2b := (HO2).cell 1; have HO2c := (HO2).cell 2; have HO2d := (HO2).cell 3; have HO2e := (HO2).cell 4; have HO2f := (HO2).cell 5; have HO2g := (HO2).cell 6; have HO2l := (HO2).lt; simp at HO2a HO2b HO2c HO2d HO2e HO2f HO2g
                have HZ3a := (HZ3).cell 0; have HZ3b := (HZ3).cell 1; have HZ3l := (HZ3).lt; simp at HZ3a HZ3b
                have y1 := HO2.free 1
                have z0 := HZ3.free 0
                have z1' := HZ3.free 1
                go_wp2_with fail
                go_ret
                exact ⟨rfl, endBelow HO HZ (by (repeat (first | (with_reducible exact HB4) | (with_reducible refine bAlloc ?_ _) | (with_reducible refine bDrewN ?_ _) | (with_reducible refine bDrew ?_) | (with_reducible refine bSet ?_ (by first | exact Nat.le_refl _ | (simp; omega) | omega) _) | (with_reducible refine bThen ?_ (by with_reducible assumption)))))⟩
              | some y =>
                rw [hx] at S1
                rw [hy] at S2
                simp only [stRes] at S1 S2
                go_enter Try.func96, Try.ntmps96
                go_wp2_with fail
                refine (hd _).mono ?_
                rintro _ wq ⟨rfl, hb⟩
                replace HP := HP.below' hb
                replace HJ := HJ.below' hb
                replace HB : Below w.heap.size w wq := bThen (by (repeat (first | (with_reducible exact HB) | (with_reducible refine bAlloc ?_ _) | (with_reducible refine bDrewN ?_ _) | (with_reducible refine bDrew ?_) | (with_reducible refine bSet ?_ (by first | exact Nat.le_refl _ | (simp; omega) | omega) _) | (with_reducible refine bThen ?_ (by with_reducible assumption))))) hb
                have HPa := (HP).cell 0; have HPb := (HP).cell 1; have HPc := (HP).cell 2; have HPd := (HP).cell 3; have HPe := (HP).cell 4; have HPf := (HP).cell 5; have HPg := (HP).cell 6; have HPl := (HP).lt; simp at HPa HPb HPc HPd HPe HPf HPg
                have HJa := (HJ).cell 0; have HJb := (HJ).cell 1; have HJc := (HJ).cell 2; have HJd := (HJ).cell 3; have HJe := (HJ).cell 4; have HJf := (HJ).cell 5; have HJl := (HJ).lt; simp at HJa HJb HJc HJd HJe HJf
                have HD2 := HD.below' HB
                have HX2 := HX.below' HB
                have HD2a := (HD2).cell 0; have HD2l := (HD2).lt; simp at HD2a
                obtain ⟨t0, t1, t2, t3, t4, t5, t6, t7, t8, t9, t10, t11, t12, t13⟩ := tcells HX2
                have lt0 := HX2.lt
                go_wp2_with fail
                refine (S1 _ (hT.keep HB)).mono ?_
                rintro _ w3 ⟨rfl, hb3⟩
                clear t0 t1 t2 t3 t4 t5 t6 t7 t8 t9 t10 t11 t12 t13 lt0 HX2 HD2a HD2l HD2 HPa HPb HPc HPd HPe HPf HPg HPl HJa HJb HJc HJd HJe HJf HJl
                replace HP := HP.below' hb3
                replace HJ := HJ.below' hb3
                have HB3 : Below w.heap.size w w3 := bThen HB hb3
                clear hb3
                have HPa := (HP).cell 0; have HPb := (HP).cell 1; have HPc := (HP).cell 2; have HPd := (HP).cell 3; have HPe := (HP).cell 4; have HPf := (HP).cell 5; have HPg := (HP).cell 6; have HPl := (HP).lt; simp at HPa HPb HPc HPd HPe HPf HPg
                have HJa := (HJ).cell 0; have HJb := (HJ).cell 1; have HJc := (HJ).cell 2; have HJd := (HJ).cell 3; have HJe := (HJ).cell 4; have HJf := (HJ).cell 5; have HJl := (HJ).lt; simp at HJa HJb HJc HJd HJe HJf
                have HX2 := HX.below' HB3
                obtain ⟨t0, t1, t2, t3, t4, t5, t6, t7, t8, t9, t10, t11, t12, t13⟩ := tcells HX2
                have lt0 := HX2.lt
                have HF := Box.new w3 #[.int .i64 0, .int .i64 0, .int .i64 0] 35
                have hz := bAlloc (Below.refl w3.heap.size w3) (.cells #[.int .i64 0, .int .i64 0, .int .i64 0] 35)
                go_wp2_with fail
                refine (S2 _ ((hT.keep HB3).keep hz)).mono ?_
                rintro _ w4 ⟨rfl, hb4⟩
                clear t0 t1 t2 t3 t4 t5 t6 t7 t8 t9 t10 t11 t12 t13 lt0 HX2 HPa HPb HPc HPd HPe HPf HPg HPl HJa HJb HJc HJd HJe HJf HJl
                have hz4 := bThen hz hb4
                replace HP := HP.below' hz4
                replace HJ := HJ.below' hz4
                replace HF := HF.below' hb4
                have HB4 : Below w.heap.size w w4 := bThen HB3 hz4
                clear hz hb4 hz4
                have HPa := (HP).cell 0; have HPb := (HP).cell 1; have HPc := (HP).cell 2; have HPd := (HP).cell 3; have HPe := (HP).cell 4; have HPf := (HP).cell 5; have HPg := (HP).cell 6; have HPl := (HP).lt; simp at HPa HPb HPc HPd HPe HPf HPg
                have HFa := (HF).cell 0; have HFb := (HF).cell 1; have HFc := (HF).cell 2; have HFl := (HF).lt; simp at HFa HFb HFc
                have HO2 := HO7.below' HB4
                have HZ3 := HZ2.below' HB4
                have HO2a := (HO2).cell 0; have HO2b := (HO2).cell 1; have HO2c := (HO2).cell 2; have HO2d := (HO2).cell 3; have HO2e := (HO2).cell 4; have HO2f := (HO2).cell 5; have HO2g := (HO2).cell 6; have HO2l := (HO2).lt; simp at HO2a HO2b HO2c HO2d HO2e HO2f HO2g
                have HZ3a := (HZ3).cell 0; have HZ3b := (HZ3).cell 1; have HZ3l := (HZ3).lt; simp at HZ3a HZ3b
                have y1 := HO2.free 1
                have z0 := HZ3.free 0
                have z1' := HZ3.free 1
                go_wp2_with fail
                go_ret
                exact ⟨rfl, endBelow HO HZ (by (repeat (first | (with_reducible exact HB4) | (with_reducible refine bAlloc ?_ _) | (with_reducible refine bDrewN ?_ _) | (with_reducible refine bDrew ?_) | (with_reducible refine bSet ?_ (by first | exact Nat.le_refl _ | (simp; omega) | omega) _) | (with_reducible refine bThen ?_ (by with_reducible assumption)))))⟩
            | some x =>
              cases hy : stFind t.st jd with
              | none =>
                rw [hx] at S1
                rw [hy] at S2
                simp only [stRes] at S1 S2
                go_enter Try.func96, Try.ntmps96
                go_wp2_with fail
                refine (hd _).mono ?_
                rintro _ wq ⟨rfl, hb⟩
                replace HP := HP.below' hb
                replace HJ := HJ.below' hb
                replace HB : Below w.heap.size w wq := bThen (by (repeat (first | (with_reducible exact HB) | (with_reducible refine bAlloc ?_ _) | (with_reducible refine bDrewN ?_ _) | (with_reducible refine bDrew ?_) | (with_reducible refine bSet ?_ (by first | exact Nat.le_refl _ | (simp; omega) | omega) _) | (with_reducible refine bThen ?_ (by with_reducible assumption))))) hb
                have HPa := (HP).cell 0; have HPb := (HP).cell 1; have HPc := (HP).cell 2; have HPd := (HP).cell 3; have HPe := (HP).cell 4; have HPf := (HP).cell 5; have HPg := (HP).cell 6; have HPl := (HP).lt; simp at HPa HPb HPc HPd HPe HPf HPg
                have HJa := (HJ).cell 0; have HJb := (HJ).cell 1; have HJc := (HJ).cell 2; have HJd := (HJ).cell 3; have HJe := (HJ).cell 4; have HJf := (HJ).cell 5; have HJl := (HJ).lt; simp at HJa HJb HJc HJd HJe HJf
                have HD2 := HD.below' HB
                have HX2 := HX.below' HB
                have HD2a := (HD2).cell 0; have HD2l := (HD2).lt; simp at HD2a
                obtain ⟨t0, t1, t2, t3, t4, t5, t6, t7, t8, t9, t10, t11, t12, t13⟩ := tcells HX2
                have lt0 := HX2.lt
                go_wp2_with fail
                refine (S1 _ (hT.keep HB)).mono ?_
                rintro _ w3 ⟨rfl, hb3⟩
                clear t0 t1 t2 t3 t4 t5 t6 t7 t8 t9 t10 t11 t12 t13 lt0 HX2 HD2a HD2l HD2 HPa HPb HPc HPd HPe HPf HPg HPl HJa HJb HJc HJd HJe HJf HJl
                replace HP := HP.below' hb3
                replace HJ := HJ.below' hb3
                have HB3 : Below w.heap.size w w3 := bThen HB hb3
                clear hb3
                have HPa := (HP).cell 0; have HPb := (HP).cell 1; have HPc := (HP).cell 2; have HPd := (HP).cell 3; have HPe := (HP).cell 4; have HPf := (HP).cell 5; have HPg := (HP).cell 6; have HPl := (HP).lt; simp at HPa HPb HPc HPd HPe HPf HPg
                have HJa := (HJ).cell 0; have HJb := (HJ).cell 1; have HJc := (HJ).cell 2; have HJd := (HJ).cell 3; have HJe := (HJ).cell 4; have HJf := (HJ).cell 5; have HJl := (HJ).lt; simp at HJa HJb HJc HJd HJe HJf
                have HX2 := HX.below' HB3
                obtain ⟨t0, t1, t2, t3, t4, t5, t6, t7, t8, t9, t10, t11, t12, t13⟩ := tcells HX2
                have lt0 := HX2.lt
                have HF := Box.new w3 #[.int .i64 x.id, .int .i64 x.zone, .int .i64 x.grp] 35
                have hz := bAlloc (Below.refl w3.heap.size w3) (.cells #[.int .i64 x.id, .int .i64 x.zone, .int .i64 x.grp] 35)
                go_wp2_with fail
                refine (S2 _ ((hT.keep HB3).keep hz)).mono ?_
                rintro _ w4 ⟨rfl, hb4⟩
                clear t0 t1 t2 t3 t4 t5 t6 t7 t8 t9 t10 t11 t12 t13 lt0 HX2 HPa HPb HPc HPd HPe HPf HPg HPl HJa HJb HJc HJd HJe HJf HJl
                have hz4 := bThen hz hb4
                replace HP := HP.below' hz4
                replace HJ := HJ.below' hz4
                replace HF := HF.below' hb4
                have HB4 : Below w.heap.size w w4 := bThen HB3 hz4
                clear hz hb4 hz4
                have HPa := (HP).cell 0; have HPb := (HP).cell 1; have HPc := (HP).cell 2; have HPd := (HP).cell 3; have HPe := (HP).cell 4; have HPf := (HP).cell 5; have HPg := (HP).cell 6; have HPl := (HP).lt; simp at HPa HPb HPc HPd HPe HPf HPg
                have HFa := (HF).cell 0; have HFb := (HF).cell 1; have HFc := (HF).cell 2; have HFl := (HF).lt; simp at HFa HFb HFc
                have HO2 := HO7.below' HB4
                have HZ3 := HZ2.below' HB4
                have HO2a := (HO2).cell 0; have HO2b := (HO2).cell 1; have HO2c := (HO2).cell 2; have HO2d := (HO2).cell 3; have HO2e := (HO2).cell 4; have HO2f := (HO2).cell 5; have HO2g := (HO2).cell 6; have HO2l := (HO2).lt; simp at HO2a HO2b HO2c HO2d HO2e HO2f HO2g
                have HZ3a := (HZ3).cell 0; have HZ3b := (HZ3).cell 1; have HZ3l := (HZ3).lt; simp at HZ3a HZ3b
                have y1 := HO2.free 1
                have z0 := HZ3.free 0
                have z1' := HZ3.free 1
                go_wp2_with fail
                go_ret
                exact ⟨rfl, endBelow HO HZ (by (repeat (first | (with_reducible exact HB4) | (with_reducible refine bAlloc ?_ _) | (with_reducible refine bDrewN ?_ _) | (with_reducible refine bDrew ?_) | (with_reducible refine bSet ?_ (by first | exact Nat.le_refl _ | (simp; omega) | omega) _) | (with_reducible refine bThen ?_ (by with_reducible assumption)))))⟩
              | some y =>
                rw [hx] at S1
                rw [hy] at S2
                simp only [stRes] at S1 S2
                go_enter Try.func96, Try.ntmps96
                go_wp2_with fail
                refine (hd _).mono ?_
                rintro _ wq ⟨rfl, hb⟩
                replace HP := HP.below' hb
                replace HJ := HJ.below' hb
                replace HB : Below w.heap.size w wq := bThen (by (repeat (first | (with_reducible exact HB) | (with_reducible refine bAlloc ?_ _) | (with_reducible refine bDrewN ?_ _) | (with_reducible refine bDrew ?_) | (with_reducible refine bSet ?_ (by first | exact Nat.le_refl _ | (simp; omega) | omega) _) | (with_reducible refine bThen ?_ (by with_reducible assumption))))) hb
                have HPa := (HP).cell 0; have HPb := (HP).cell 1; have HPc := (HP).cell 2; have HPd := (HP).cell 3; have HPe := (HP).cell 4; have HPf := (HP).cell 5; have HPg := (HP).cell 6; have HPl := (HP).lt; simp at HPa HPb HPc HPd HPe HPf HPg
                have HJa := (HJ).cell 0; have HJb := (HJ).cell 1; have HJc := (HJ).cell 2; have HJd := (HJ).cell 3; have HJe := (HJ).cell 4; have HJf := (HJ).cell 5; have HJl := (HJ).lt; simp at HJa HJb HJc HJd HJe HJf
                have HD2 := HD.below' HB
                have HX2 := HX.below' HB
                have HD2a := (HD2).cell 0; have HD2l := (HD2).lt; simp at HD2a
                obtain ⟨t0, t1, t2, t3, t4, t5, t6, t7, t8, t9, t10, t11, t12, t13⟩ := tcells HX2
                have lt0 := HX2.lt
                go_wp2_with fail
                refine (S1 _ (hT.keep HB)).mono ?_
                rintro _ w3 ⟨rfl, hb3⟩
                clear t0 t1 t2 t3 t4 t5 t6 t7 t8 t9 t10 t11 t12 t13 lt0 HX2 HD2a HD2l HD2 HPa HPb HPc HPd HPe HPf HPg HPl HJa HJb HJc HJd HJe HJf HJl
                replace HP := HP.below' hb3
                replace HJ := HJ.below' hb3
                have HB3 : Below w.heap.size w w3 := bThen HB hb3
                clear hb3
                have HPa := (HP).cell 0; have HPb := (HP).cell 1; have HPc := (HP).cell 2; have HPd := (HP).cell 3; have HPe := (HP).cell 4; have HPf := (HP).cell 5; have HPg := (HP).cell 6; have HPl := (HP).lt; simp at HPa HPb HPc HPd HPe HPf HPg
                have HJa := (HJ).cell 0; have HJb := (HJ).cell 1; have HJc := (HJ).cell 2; have HJd := (HJ).cell 3; have HJe := (HJ).cell 4; have HJf := (HJ).cell 5; have HJl := (HJ).lt; simp at HJa HJb HJc HJd HJe HJf
                have HX2 := HX.below' HB3
                obtain ⟨t0, t1, t2, t3, t4, t5, t6, t7, t8, t9, t10, t11, t12, t13⟩ := tcells HX2
                have lt0 := HX2.lt
                have HF := Box.new w3 #[.int .i64 x.id, .int .i64 x.zone, .int .i64 x.grp] 35
                have hz := bAlloc (Below.refl w3.heap.size w3) (.cells #[.int .i64 x.id, .int .i64 x.zone, .int .i64 x.grp] 35)
                go_wp2_with fail
                refine (S2 _ ((hT.keep HB3).keep hz)).mono ?_
                rintro _ w4 ⟨rfl, hb4⟩
                clear t0 t1 t2 t3 t4 t5 t6 t7 t8 t9 t10 t11 t12 t13 lt0 HX2 HPa HPb HPc HPd HPe HPf HPg HPl HJa HJb HJc HJd HJe HJf HJl
                have hz4 := bThen hz hb4
                replace HP := HP.below' hz4
                replace HJ := HJ.below' hz4
                replace HF := HF.below' hb4
                have HB4 : Below w.heap.size w w4 := bThen HB3 hz4
                clear hz hb4 hz4
                have HPa := (HP).cell 0; have HPb := (HP).cell 1; have HPc := (HP).cell 2; have HPd := (HP).cell 3; have HPe := (HP).cell 4; have HPf := (HP).cell 5; have HPg := (HP).cell 6; have HPl := (HP).lt; simp at HPa HPb HPc HPd HPe HPf HPg
                have HFa := (HF).cell 0; have HFb := (HF).cell 1; have HFc := (HF).cell 2; have HFl := (HF).lt; simp at HFa HFb HFc
                have HO2 := HO7.below' HB4
                have HZ3 := HZ2.below' HB4
                have HO2a := (HO2).cell 0; have HO2b := (HO2).cell 1; have HO2c := (HO2).cell 2; have HO2d := (HO2).cell 3; have HO2e := (HO2).cell 4; have HO2f := (HO2).cell 5; have HO2g := (HO2).cell 6; have HO2l := (HO2).lt; simp at HO2a HO2b HO2c HO2d HO2e HO2f HO2g
                have HZ3a := (HZ3).cell 0; have HZ3b := (HZ3).cell 1; have HZ3l := (HZ3).lt; simp at HZ3a HZ3b
                have y1 := HO2.free 1
                have z0 := HZ3.free 0
                have z1' := HZ3.free 1
                have HG := Box.new w4 #[.int .i64 y.id, .int .i64 y.zone, .int .i64 y.grp] 35
                have s3 := HB3.size
                have s4 := HB4.size
                have nF : w3.heap.size ≠ bo := by omega
                have nF' : bo ≠ w3.heap.size := by omega
                have hz := bAlloc (Below.refl w4.heap.size w4) (.cells #[.int .i64 y.id, .int .i64 y.zone, .int .i64 y.grp] 35)
                go_wp2_with fail
                all_goals
                  refine (with_calls _ _ _ _ _).mono ?_
                  rintro _ w6 ⟨rfl, hb6⟩
                  have HZ5 := ((HZ3.other ⟨bo, 1, none⟩ (by show bz ≠ bo; omega) (.int .i64 (ra + fare))).alloc (.cells #[.int .i64 y.id, .int .i64 y.zone, .int .i64 y.grp] 35)).below' hb6
                  have HO5 := ((HO2.set 1 (.int .i64 (ra + fare))).alloc (.cells #[.int .i64 y.id, .int .i64 y.zone, .int .i64 y.grp] 35)).below' hb6
                  have SP := ((Spare.set (p := bo) (q := bz) (Spare.of HB4) (a := ⟨bo, 1, none⟩) (by simp) (.int .i64 (ra + fare))).trans (Spare.of (bAlloc (Below.refl _ _) (.cells #[.int .i64 y.id, .int .i64 y.zone, .int .i64 y.grp] 35)))).trans (Spare.of hb6)
                  have HZ5a := (HZ5).cell 0; have HZ5b := (HZ5).cell 1; have HZ5l := (HZ5).lt; simp at HZ5a HZ5b
                  have z0 := HZ5.free 0
                  have z1' := HZ5.free 1
                  go_wp2_with fail
                  go_ret
                  refine ⟨rfl, ?_, ?_, ?_⟩
                  · exact ((HO5.other ⟨bz, 0, none⟩ (by show bo ≠ bz; omega) _).other ⟨bz, 1, none⟩ (by show bo ≠ bz; omega) _).cast (by simp [DAcc.out])
                  · exact ((HZ5.set 0 _).set 1 _).cast (by simp only [DAcc.zs, mn, mx]; simp; grind)
                  · exact Spare.set (p := bo) (q := bz) (Spare.set (p := bo) (q := bz) SP (by simp) _) (by simp) _
          · have e : dayStep t day ⟨ra, bu, mo, z1, z2⟩ ⟨⟨jk, jf, jd, js, je, jb⟩, fare⟩ = (0, ⟨ra, bu, mo + fare, z1, z2⟩) := by simp only [dayStep, h1, h2, h3, h4, h5, if_true, if_false, ne_eq, not_false_eq_true]
            rw [e]
            clear e h1 h2 h3 ht hday
            obtain rfl | rfl : jk = 2 ∨ jk = 3 := by omega
            · skip
              have HP := (Box.new w #[.int .i64 2, .int .i64 jf, .int .i64 jd, .int .i64 js, .int .i64 je, .bool jb, .int .i64 fare] 55).alloc (.cells #[.int .i64 2, .int .i64 jf, .int .i64 jd, .int .i64 js, .int .i64 je, .bool jb] 50)
              have HJ := Box.new' (w := w.alloc (.cells #[.int .i64 2, .int .i64 jf, .int .i64 jd, .int .i64 js, .int .i64 je, .bool jb, .int .i64 fare] 55)) (b := w.heap.size + 1) (by simp) #[.int .i64 2, .int .i64 jf, .int .i64 jd, .int .i64 js, .int .i64 je, .bool jb] 50
              go_enter Try.func96, Try.ntmps96
              go_wp2_with fail
              refine (hd _).mono ?_
              rintro _ wq ⟨rfl, hb⟩
              replace HP := HP.below' hb
              replace HJ := HJ.below' hb
              replace HB : Below w.heap.size w wq := bThen (by (repeat (first | (with_reducible exact HB) | (with_reducible refine bAlloc ?_ _) | (with_reducible refine bDrewN ?_ _) | (with_reducible refine bDrew ?_) | (with_reducible refine bSet ?_ (by first | exact Nat.le_refl _ | (simp; omega) | omega) _) | (with_reducible refine bThen ?_ (by with_reducible assumption))))) hb
              have HPa := (HP).cell 0; have HPb := (HP).cell 1; have HPc := (HP).cell 2; have HPd := (HP).cell 3; have HPe := (HP).cell 4; have HPf := (HP).cell 5; have HPg := (HP).cell 6; have HPl := (HP).lt; simp at HPa HPb HPc HPd HPe HPf HPg
              have HJa := (HJ).cell 0; have HJb := (HJ).cell 1; have HJc := (HJ).cell 2; have HJd := (HJ).cell 3; have HJe := (HJ).cell 4; have HJf := (HJ).cell 5; have HJl := (HJ).lt; simp at HJa HJb HJc HJd HJe HJf
              have HD2 := HD.below' HB
              have HO2 := HO7.below' HB
              have HZ3 := HZ2.below' HB
              have HX2 := HX.below' HB
              have HD2a := (HD2).cell 0; have HD2l := (HD2).lt; simp at HD2a
              have HO2a := (HO2).cell 0; have HO2b := (HO2).cell 1; have HO2c := (HO2).cell 2; have HO2d := (HO2).cell 3; have HO2e := (HO2).cell 4; have HO2f := (HO2).cell 5; have HO2g := (HO2).cell 6; have HO2l := (HO2).lt; simp at HO2a HO2b HO2c HO2d HO2e HO2f HO2g
              have y4 := HO2.free 4
              go_wp2_with fail
              go_ret
              exact ⟨rfl, (HO2.set 4 _).cast (by simp [DAcc.out]), HZ3.other _ (by show bz ≠ bo; omega) _, Spare.set (p := bo) (q := bz) (Spare.of HB) (by simp) _⟩
            · skip
              have HP := (Box.new w #[.int .i64 3, .int .i64 jf, .int .i64 jd, .int .i64 js, .int .i64 je, .bool jb, .int .i64 fare] 55).alloc (.cells #[.int .i64 3, .int .i64 jf, .int .i64 jd, .int .i64 js, .int .i64 je, .bool jb] 50)
              have HJ := Box.new' (w := w.alloc (.cells #[.int .i64 3, .int .i64 jf, .int .i64 jd, .int .i64 js, .int .i64 je, .bool jb, .int .i64 fare] 55)) (b := w.heap.size + 1) (by simp) #[.int .i64 3, .int .i64 jf, .int .i64 jd, .int .i64 js, .int .i64 je, .bool jb] 50
              go_enter Try.func96, Try.ntmps96
              go_wp2_with fail
              refine (hd _).mono ?_
              rintro _ wq ⟨rfl, hb⟩
              replace HP := HP.below' hb
              replace HJ := HJ.below' hb
              replace HB : Below w.heap.size w wq := bThen (by (repeat (first | (with_reducible exact HB) | (with_reducible refine bAlloc ?_ _) | (with_reducible refine bDrewN ?_ _) | (with_reducible refine bDrew ?_) | (with_reducible refine bSet ?_ (by first | exact Nat.le_refl _ | (simp; omega) | omega) _) | (with_reducible refine bThen ?_ (by with_reducible assumption))))) hb
              have HPa := (HP).cell 0; have HPb := (HP).cell 1; have HPc := (HP).cell 2; have HPd := (HP).cell 3; have HPe := (HP).cell 4; have HPf := (HP).cell 5; have HPg := (HP).cell 6; have HPl := (HP).lt; simp at HPa HPb HPc HPd HPe HPf HPg
              have HJa := (HJ).cell 0; have HJb := (HJ).cell 1; have HJc := (HJ).cell 2; have HJd := (HJ).cell 3; have HJe := (HJ).cell 4; have HJf := (HJ).cell 5; have HJl := (HJ).lt; simp at HJa HJb HJc HJd HJe HJf
              have HD2 := HD.below' HB
              have HO2 := HO7.below' HB
              have HZ3 := HZ2.below' HB
              have HX2 := HX.below' HB
              have HD2a := (HD2).cell 0; have HD2l := (HD2).lt; simp at HD2a
              have HO2a := (HO2).cell 0; have HO2b := (HO2).cell 1; have HO2c := (HO2).cell 2; have HO2d := (HO2).cell 3; have HO2e := (HO2).cell 4; have HO2f := (HO2).cell 5; have HO2g := (HO2).cell 6; have HO2l := (HO2).lt; simp at HO2a HO2b HO2c HO2d HO2e HO2f HO2g
              have y4 := HO2.free 4
              go_wp2_with fail
              go_ret
              exact ⟨rfl, (HO2.set 4 _).cast (by simp [DAcc.out]), HZ3.other _ (by show bz ≠ bo; omega) _, Spare.set (p := bo) (q := bz) (Spare.of HB) (by simp) _⟩
end Go.Proofs.Ytmeogadkbbeglaa
end
section
namespace Go.Proofs.Ytmeogadkbbeglaa
open Go.RowKit
theorem ok_prices {t : Tariff} (h : rightF t = 0) : (0 ≤ t.bus ∧ t.bus ≤ 1048576) ∧ (0 ≤ t.busDaily ∧ t.busDaily ≤ 1048576) ∧ (0 ≤ t.busWeekly ∧ t.busWeekly ≤ 1048576) ∧ (0 ≤ t.most ∧ t.most ≤ 1048576) := by
  have := (right_ok h).1.1.1.1.1.1.2
  simp [pricesB, priceB, inB] at this
  omega
end Go.Proofs.Ytmeogadkbbeglaa
end
