/- What the claim's walk leans on: U19n, Open18, Open19, W19n. -/
import Derived.Test.YtmeogadkbbeglaaK11
import Derived.Test.YtmeogadkbbeglaaK9
import Derived.Test.YtmeogadkbbeglaaK8
import Derived.Test.YtmeogadkbbeglaaOpen
import Derived.Test.YtmeogadkbbeglaaK3
section
namespace Go.Proofs.Ytmeogadkbbeglaa
open Go.RowKit Go.Proofs.YtmeogadkbbeglaaQ Go.Proofs.YtmeogadkbbeglaaW.PrintWords Go.Proofs.YtmeogadkbbeglaaW.PrintLast Go.Proofs.YtmeogadkbbeglaaW.PrintMore
set_option linter.unusedVariables false
set_option linter.unusedSimpArgs false
/-- what rows of journeys come to, day by day -/
def weekDays (t : Tariff) (first : Int) : List (List Priced) → Int → Option (List DayC)
  | [], _ => some []
  | r :: rs, i => if (dayC t (first + i) r).2 = 0 then (weekDays t first rs (i + 1)).map (fun l => (dayC t (first + i) r).1 :: l) else none
theorem weekDays_ok {t : Tariff} {w : Int} : ∀ {rows : List (List Priced)} {i : Int} {L : List DayC}, 0 ≤ i → i + rows.length ≤ 7 → weekDays t (7 * w) rows i = some L → InWeek w (7 * w + i) L ∧ (∀ d ∈ L, DOk t d) ∧ L.length = rows.length ∧ (L ≠ [] → rightF t = 0)
  | [], i, L, h0, hl, h => by simp only [weekDays, Option.some.injEq] at h; subst h; exact ⟨trivial, by simp, rfl, fun h => absurd rfl h⟩
  | r :: rs, i, L, h0, hl, h => by
    rw [List.length_cons] at hl
    simp only [weekDays] at h
    split at h
    · rename_i hd
      rw [Option.map_eq_some_iff] at h
      obtain ⟨M, hM, rfl⟩ := h
      obtain ⟨k1, k2, k3⟩ := day_ok hd
      obtain ⟨m1, m2, m3, m4⟩ := weekDays_ok (by omega) (by omega) hM
      refine ⟨⟨by rw [k2]; omega, by rw [k2]; omega, by rw [k2]; rw [show 7 * w + i + 1 = 7 * w + (i + 1) by omega]; exact m1⟩, fun d hdm => ?_, by simp [m3], fun _ => k1⟩
      rcases List.mem_cons.1 hdm with rfl | hdm
      · exact k3
      · exact m2 d hdm
    · cases h
def daysRes (acc : List DayC) : Option (List DayC) → List S57 × Bool
  | none => ([], false)
  | some l => ((acc ++ l).map ofDy, true)
abbrev ofRows (rows : List (List Priced)) : List (List S55) := rows.map (List.map ofPr)
theorem rd_row (rows : List (List Priced)) (i : Nat) (h : i < rows.length) : rd_L14 (ofRows rows) i = (rows[i]).map ofPr := by
  simp [rd_L14, List.getD_eq_getElem?_getD, h]
theorem days_l (t : Tariff) (h : Tariff.fits t) (first : Int) (hf : -4611686018427387904 ≤ first ∧ first ≤ 4611686018427387904) (rows : List (List Priced)) (hr : ∀ r ∈ rows, r.length ≤ 140737488351232) : ∀ (n i : Nat) (acc : List DayC), i + n = (rows.take 7).length → acc.length ≤ i →
    Ev (fun k => fareboxlaw19_days.l0 k first (ofRows rows) (acc.map ofDy) i ((t).st.map ofSt) ((t).sp.map ofSp) ((t).pk.map ofBd) (t).off (t).bus (t).busDaily (t).busWeekly (t).hopper (t).most (t).longest (t).change (t).passback (t).delay (t).threshold) (daysRes acc (weekDays t first ((rows.take 7).drop i) i)) := by
  intro n
  induction n with
  | zero =>
    intro i acc hi ha
    rw [List.drop_of_length_le (by omega)]
    rw [List.length_take] at hi
    refine Ev.step (f := fun k => fareboxlaw19_days.j1 k first (ofRows rows) (acc.map ofDy) i false ((t).st.map ofSt) ((t).sp.map ofSp) ((t).pk.map ofBd) (t).off (t).bus (t).busDaily (t).busWeekly (t).hopper (t).most (t).longest (t).change (t).passback (t).delay (t).threshold) (fun k => ?_) (Ev.step (f := fun _ => some (daysRes acc (some []))) (fun k => ?_) (Ev.now _))
    · simp only [fareboxlaw19_days.l0, List.length_map]
      by_cases hlt : (i : Int) < (rows.length : Int)
      · rw [if_pos hlt, decide_eq_false (by omega)]
      · rw [if_neg hlt]
    · simp [fareboxlaw19_days.j1, daysRes]
  | succ n ih =>
    intro i acc hi ha
    have hi7 : i < (rows.take 7).length := by omega
    rw [List.length_take] at hi
    have hir : i < rows.length := by omega
    have hget : (rows.take 7)[i] = rows[i] := List.getElem_take
    rw [drop_cons hi7, hget]
    have hd := cday19_f h (first + (i : Int)) (hr rows[i] (List.getElem_mem hir))
    refine Ev.step (f := fun k => fareboxlaw19_days.j1 k first (ofRows rows) (acc.map ofDy) i true ((t).st.map ofSt) ((t).sp.map ofSp) ((t).pk.map ofBd) (t).off (t).bus (t).busDaily (t).busWeekly (t).hopper (t).most (t).longest (t).change (t).passback (t).delay (t).threshold) (fun k => ?_) ?_
    · simp only [fareboxlaw19_days.l0, List.length_map]
      rw [if_pos (by omega), decide_eq_true (by omega)]
    · simp only [weekDays]
      have ew : wrap64 (first + (i : Int)) = first + (i : Int) := by unfold wrap64; omega
      by_cases h0 : (dayC t (first + (i : Int)) rows[i]).2 = 0
      · rw [if_pos h0]
        have ih' := ih (i + 1) (acc ++ [(dayC t (first + (i : Int)) rows[i]).1]) (by rw [List.length_take]; omega) (by simp; omega)
        have e : daysRes acc ((weekDays t first ((rows.take 7).drop (i + 1)) ((i : Int) + 1)).map (fun l => (dayC t (first + (i : Int)) rows[i]).1 :: l)) = daysRes (acc ++ [(dayC t (first + (i : Int)) rows[i]).1]) (weekDays t first ((rows.take 7).drop (i + 1)) ((i + 1 : Nat) : Int)) := by
          rw [show ((i + 1 : Nat) : Int) = (i : Int) + 1 by omega]
          cases weekDays t first ((rows.take 7).drop (i + 1)) ((i : Int) + 1) <;> simp [daysRes]
        rw [e]
        refine Ev.step (fun k => ?_) ih'
        simp only [fareboxlaw19_days.j1, List.length_map, rd_row rows i hir, ew, hd, Option.bind_some, dayTup, h0, wrap_up (i := i) (by omega)]
        rw [if_pos trivial, if_pos (by omega), if_pos (by omega), if_pos trivial, if_pos (by omega)]
        simp [ofDy]
      · rw [if_neg h0]
        refine Ev.step (f := fun _ => some (([] : List S57), false)) (fun k => ?_) (Ev.now _)
        simp only [fareboxlaw19_days.j1, List.length_map, rd_row rows i hir, ew, hd, Option.bind_some, dayTup]
        rw [if_pos trivial, if_pos (by omega), if_pos (by omega), if_neg h0]
theorem days_ev (t : Tariff) (h : Tariff.fits t) (first : Int) (hf : -4611686018427387904 ≤ first ∧ first ≤ 4611686018427387904) (rows : List (List Priced)) (hr : ∀ r ∈ rows, r.length ≤ 140737488351232) :
    Ev (fun k => fareboxlaw19_days.f k ((t).st.map ofSt) ((t).sp.map ofSp) ((t).pk.map ofBd) (t).off (t).bus (t).busDaily (t).busWeekly (t).hopper (t).most (t).longest (t).change (t).passback (t).delay (t).threshold first (ofRows rows)) (daysRes [] (weekDays t first (rows.take 7) 0)) :=
  days_l t h first hf rows hr (rows.take 7).length 0 [] (by simp) (by simp)
theorem rd_dy (l : List DayC) (i : Nat) (h : i < l.length) : rd_T57 (l.map ofDy) i = ofDy l[i] := by
  simp [rd_T57, List.getD_eq_getElem?_getD, h]
theorem capSum_bound {t : Tariff} (hr : rightF t = 0) : ∀ (l : List DayC), (∀ d ∈ l, DOk t d) → 0 ≤ capSum l ∧ capSum l ≤ 1099511627776 * l.length ∧ 0 ≤ mostSum l ∧ mostSum l ≤ 1099511627776 * l.length
  | [], h => by simp [capSum, mostSum]
  | d :: r, h => by
    have ih := capSum_bound hr r fun x hx => h x (List.mem_cons_of_mem _ hx)
    have hd := h d (List.mem_cons_self ..)
    have hs := spanOf_range hr (d.low, d.high)
    obtain ⟨-, hp, -⟩ := ok_prices hr
    have h1 := hd.capd
    have h2 : mx (spanOf t (d.low, d.high) Span.daily) t.busDaily ≤ 1048576 := by unfold mx; split <;> omega
    have h3 := hd.most
    have h4 := hd.low
    have h5 := hd.bus
    simp only [capSum, mostSum, List.length_cons]
    omega
theorem sums_snoc (l : List DayC) (d : DayC) : capSum (l ++ [d]) = capSum l + d.capped ∧ mostSum (l ++ [d]) = mostSum l + d.most := by
  induction l with
  | nil => simp [capSum, mostSum]
  | cons a r ih => simp only [List.cons_append, capSum, mostSum, ih]; omega
theorem zAll_snoc : ∀ (l : List DayC) (d : DayC) (z : Int × Int), zAll (l ++ [d]) z = zWith (zAll l z) d.low d.high
  | [], d, z => rfl
  | a :: r, d, z => by simp only [List.cons_append, zAll]; exact zAll_snoc r d _
theorem pmx (a b : Int) : Go.Proofs.YtmeogadkbbeglaaW.PrintWords.mx a b = mx a b := rfl
theorem zWith_low {t : Tariff} {z : Int × Int} {lo hi : Int} (hz : ZOk t z.1 z.2) (h : ZOk t lo hi) : zWith z lo hi = (if lo > 0 then (if z.1 = 0 then lo else if lo < z.1 then lo else z.1) else z.1, mx z.2 hi) := by
  obtain ⟨a, b⟩ := z
  simp only at hz ⊢
  unfold zWith mn mx
  simp only
  rcases h with ⟨h1, h2⟩ | ⟨h1, h2, -⟩
  · rw [if_pos h1, if_neg (show ¬ lo > 0 by omega)]
    refine Prod.ext rfl ?_
    show b = if b < hi then hi else b
    rcases hz with ⟨h3, h4⟩ | ⟨h3, h4, -⟩ <;> rw [if_neg (by omega)]
  · rw [if_neg (show ¬ lo = 0 by omega), if_pos (show lo > 0 by omega)]
    by_cases h3 : a = 0
    · rw [if_pos h3]
      refine Prod.ext (by rw [if_pos h3]) ?_
      rw [if_pos h3]
      show hi = if b < hi then hi else b
      rcases hz with ⟨h3, h4⟩ | ⟨h3, h4, -⟩ <;> split <;> omega
    · rw [if_neg h3]
      refine Prod.ext ?_ (by rw [if_neg h3])
      rw [if_neg h3]
      show (if a < lo then a else lo) = (if lo < a then lo else a)
      split <;> split <;> omega
theorem hold_l (t : Tariff) (h : Tariff.fits t) (hr : rightF t = 0) {w : Int} (h0 : -1000000 ≤ w) (h1 : w ≤ 1000000) (L : List DayC) (hl : L.length ≤ 7) (hw : InWeek w (7 * w) L) (hd : ∀ d ∈ L, DOk t d) : ∀ (n i : Nat), i + n = L.length →
    Ev (fun k => fareboxlaw19_CapsHold.l0 k (L.map ofDy) (capSum (L.take i) + mostSum (L.take i)) (mostSum (L.take i)) (zAll (L.take i) (0, 0)).1 (zAll (L.take i) (0, 0)).2 i ((t).st.map ofSt) ((t).sp.map ofSp) ((t).pk.map ofBd) (t).off (t).bus (t).busDaily (t).busWeekly (t).hopper (t).most (t).longest (t).change (t).passback (t).delay (t).threshold) true := by
  intro n
  induction n with
  | zero =>
    intro i hi
    have ht : L.take i = L := List.take_of_length_le (by omega)
    rw [ht]
    obtain ⟨k1, k2, k3, k4⟩ := week_ok hr h0 h1 hl hw hd
    have hb := capSum_bound hr L hd
    have hsp := spanOf_range hr (zAll L (0, 0))
    obtain ⟨-, -, hbw, -⟩ := ok_prices hr
    have hwk := cweek19_f h (l := L) (by omega)
    refine Ev.step (f := fun _ => some true) (fun k => ?_) (Ev.now _)
    simp only [fareboxlaw19_CapsHold.l0, List.length_map]
    rw [if_neg (by omega), hwk]
    simp only [Option.bind_some]
    rw [if_pos k1]
    obtain ⟨q, hq, hqd⟩ : ∃ q, tariff_Span.f ((t).st.map ofSt) ((t).sp.map ofSp) ((t).pk.map ofBd) (t).off (t).bus (t).busDaily (t).busWeekly (t).hopper (t).most (t).longest (t).change (t).passback (t).delay (t).threshold (zAll L (0, 0)).1 (zAll L (0, 0)).2 = some q ∧ q.2.2.2.2.1 = spanOf t (zAll L (0, 0)) Span.weekly := ⟨_, span_f h (zAll L (0, 0)).1 (zAll L (0, 0)).2, by unfold spanOf; cases spFind t.sp (zAll L (0, 0)).1 (zAll L (0, 0)).2 <;> rfl⟩
    have hmx : 0 ≤ mx (spanOf t (zAll L (0, 0)) Span.weekly) t.busWeekly ∧ mx (spanOf t (zAll L (0, 0)) Span.weekly) t.busWeekly ≤ 1048576 := by unfold mx; split <;> omega
    have ew : wrap64 (Go.Proofs.YtmeogadkbbeglaaW.PrintWords.mx (spanOf t (zAll L (0, 0)) Span.weekly) t.busWeekly + mostSum L) = mx (spanOf t (zAll L (0, 0)) Span.weekly) t.busWeekly + mostSum L := by rw [pmx]; unfold wrap64; omega
    rw [hq]
    simp only [Option.bind_some]
    rw [hqd, ew, if_pos k2, if_pos k3, decide_eq_true k4]
  | succ n ih =>
    intro i hi
    have hil : i < L.length := by omega
    have hdi := hd L[i] (List.getElem_mem hil)
    have htk : L.take (i + 1) = L.take i ++ [L[i]] := List.take_succ_eq_append_getElem hil
    have hdt : ∀ d ∈ L.take i, DOk t d := fun d hdm => hd d (List.mem_of_mem_take hdm)
    have hb := capSum_bound hr (L.take i) hdt
    have hlt : (L.take i).length ≤ 7 := by rw [List.length_take]; omega
    have hz := zAll_ok (t := t) (L.take i) (0, 0) hdt (.inl ⟨rfl, rfl⟩)
    have hz0 : ZOk t (zAll (L.take i) (0, 0)).1 (zAll (L.take i) (0, 0)).2 := hz
    have hzw := zWith_low (z := zAll (L.take i) (0, 0)) hz0 hdi.z
    have ih' := ih (i + 1) (by omega)
    rw [htk, (sums_snoc _ _).1, (sums_snoc _ _).2, zAll_snoc, hzw] at ih'
    have hs := spanOf_range hr (L[i].low, L[i].high)
    obtain ⟨-, hp, -⟩ := ok_prices hr
    have d1 := hdi.high
    have d2 := hdi.capd
    have d3 := hdi.busd
    have d4 := hdi.low
    have d5 := hdi.most
    have d6 := hdi.rail
    have d7 := hdi.bus
    have hmx : mx (spanOf t (L[i].low, L[i].high) Span.daily) t.busDaily ≤ 1048576 := by unfold mx; split <;> omega
    generalize hD : L[i] = D at *
    obtain ⟨dd, drail, dbus, dcap, dmost, dlow, dhigh⟩ := D
    simp only at *
    refine Ev.step (f := fun k => fareboxlaw19_CapsHold.j2 k (L.map ofDy) (capSum (L.take i) + mostSum (L.take i)) (mostSum (L.take i)) (zAll (L.take i) (0, 0)).1 (zAll (L.take i) (0, 0)).2 i false ((t).st.map ofSt) ((t).sp.map ofSp) ((t).pk.map ofBd) (t).off (t).bus (t).busDaily (t).busWeekly (t).hopper (t).most (t).longest (t).change (t).passback (t).delay (t).threshold dd drail dbus dcap dmost dlow dhigh) (fun k => ?_) (Ev.step (fun k => ?_) ih')
    · obtain ⟨q, hq, hqd⟩ : ∃ q, tariff_Span.f ((t).st.map ofSt) ((t).sp.map ofSp) ((t).pk.map ofBd) (t).off (t).bus (t).busDaily (t).busWeekly (t).hopper (t).most (t).longest (t).change (t).passback (t).delay (t).threshold dlow dhigh = some q ∧ q.2.2.2.1 = spanOf t (dlow, dhigh) Span.daily := ⟨_, span_f h dlow dhigh, by unfold spanOf; cases spFind t.sp dlow dhigh <;> rfl⟩
      have ew : wrap64 (drail + dbus) = drail + dbus := by unfold wrap64; omega
      have d2' : ¬ dcap > Go.Proofs.YtmeogadkbbeglaaW.PrintWords.mx (spanOf t (dlow, dhigh) Span.daily) t.busDaily := by rw [pmx]; omega
      simp only [fareboxlaw19_CapsHold.l0, List.length_map, rd_dy L i hil, hD, ofDy, hq, Option.bind_some, hqd, ew]
      rw [if_pos (by omega), if_pos (by omega), if_neg (by omega), if_neg d2', if_neg (by omega), decide_eq_false (by omega)]
    · have e1 : wrap64 (wrap64 (capSum (L.take i) + mostSum (L.take i) + dcap) + dmost) = capSum (L.take i) + dcap + (mostSum (L.take i) + dmost) := by unfold wrap64; omega
      have e2 : wrap64 (mostSum (L.take i) + dmost) = mostSum (L.take i) + dmost := by unfold wrap64; omega
      simp only [fareboxlaw19_CapsHold.j2, e1, e2, pmx, wrap_up (i := i) (by omega), Bool.false_eq_true, if_false]
      by_cases hl0 : dlow > 0
      · simp only [hl0, if_true]
        by_cases hz1 : (zAll (L.take i) (0, 0)).1 = 0
        · simp only [hz1, if_true]
        · simp only [hz1, if_false]
          by_cases hz2 : dlow < (zAll (L.take i) (0, 0)).1
          · simp only [hz2, if_true]
          · simp only [hz2, if_false]
      · simp only [hl0, if_false]
theorem hold_ev (t : Tariff) (h : Tariff.fits t) (w : Int) (rows : List (List Priced)) (hrw : ∀ r ∈ rows, r.length ≤ 140737488351232) : Ev (fun k => fareboxlaw19_CapsHold.f k ((t).st.map ofSt) ((t).sp.map ofSp) ((t).pk.map ofBd) (t).off (t).bus (t).busDaily (t).busWeekly (t).hopper (t).most (t).longest (t).change (t).passback (t).delay (t).threshold w (ofRows rows)) true := by
  simp only [fareboxlaw19_CapsHold.f, fareboxlaw19_awake.f, Option.bind_some, if_true]
  by_cases h0 : w < 0
  · simp only [h0, if_true]
    refine Ev.step (f := fun _ => some true) (fun k => ?_) (Ev.now _)
    simp only [fareboxlaw19_CapsHold.j0, if_true]
  · simp only [h0, if_false]
    by_cases h1 : w > 100000
    · rw [decide_eq_true h1]
      refine Ev.step (f := fun _ => some true) (fun k => ?_) (Ev.now _)
      simp only [fareboxlaw19_CapsHold.j0, if_true]
    · rw [decide_eq_false h1]
      have ew : wrap64 (7 * w) = 7 * w := by unfold wrap64; omega
      have hd := days_ev t h (7 * w) (by omega) rows hrw
      cases hD : weekDays t (7 * w) (rows.take 7) 0 with
      | none =>
        rw [hD] at hd
        refine Ev.step (f := fun k => (fareboxlaw19_days.f k ((t).st.map ofSt) ((t).sp.map ofSp) ((t).pk.map ofBd) (t).off (t).bus (t).busDaily (t).busWeekly (t).hopper (t).most (t).longest (t).change (t).passback (t).delay (t).threshold (7 * w) (ofRows rows)).bind fun b => if b.2 = true then fareboxlaw19_CapsHold.l0 k b.1 0 0 0 0 0 ((t).st.map ofSt) ((t).sp.map ofSp) ((t).pk.map ofBd) (t).off (t).bus (t).busDaily (t).busWeekly (t).hopper (t).most (t).longest (t).change (t).passback (t).delay (t).threshold else some true) (fun k => ?_) (Ev.bind hd ?_)
        · simp only [fareboxlaw19_CapsHold.j0, ew, Bool.false_eq_true, if_false]
        · simp only [daysRes, Bool.false_eq_true, if_false]; exact Ev.now _
      | some L =>
        rw [hD] at hd
        obtain ⟨k1, k2, k3, k4⟩ := weekDays_ok (by omega) (by rw [List.length_take]; omega) hD
        rw [Int.add_zero] at k1
        have hl7 : L.length ≤ 7 := by rw [k3, List.length_take]; omega
        refine Ev.step (f := fun k => (fareboxlaw19_days.f k ((t).st.map ofSt) ((t).sp.map ofSp) ((t).pk.map ofBd) (t).off (t).bus (t).busDaily (t).busWeekly (t).hopper (t).most (t).longest (t).change (t).passback (t).delay (t).threshold (7 * w) (ofRows rows)).bind fun b => if b.2 = true then fareboxlaw19_CapsHold.l0 k b.1 0 0 0 0 0 ((t).st.map ofSt) ((t).sp.map ofSp) ((t).pk.map ofBd) (t).off (t).bus (t).busDaily (t).busWeekly (t).hopper (t).most (t).longest (t).change (t).passback (t).delay (t).threshold else some true) (fun k => ?_) (Ev.bind hd ?_)
        · simp only [fareboxlaw19_CapsHold.j0, ew, Bool.false_eq_true, if_false]
        · simp only [daysRes, if_true, List.nil_append]
          by_cases hr : rightF t = 0
          · exact hold_l t h hr (by omega) (by omega) L hl7 k1 k2 L.length 0 (by omega)
          · have hL : L = [] := by
              cases L with
              | nil => rfl
              | cons a b => exact absurd (k4 (by simp)) hr
            subst hL
            refine Ev.step (f := fun _ => some true) (fun k => ?_) (Ev.now _)
            have hwk := cweek19_f h (l := []) (by simp)
            have e : weekC t [] = (0, rightF t) := by unfold weekC; rw [if_pos hr]
            rw [e] at hwk
            simp only [List.map_nil] at hwk ⊢
            simp only [fareboxlaw19_CapsHold.l0, List.length_nil]
            rw [if_neg (by simp), hwk]
            simp only [Option.bind_some]
            rw [if_neg hr, right_f h]
            simp
end Go.Proofs.Ytmeogadkbbeglaa
end
section
namespace Go.Proofs.Ytmeogadkbbeglaa
open Go.RowKit Go.ChangeShapes Go.WideShapes Go.ChangeAt
set_option linter.unusedVariables false
def Journey.wf (s : Journey) : Prop := s.kind.in64 ∧ s.frm.in64 ∧ s.dst.in64 ∧ s.start.in64 ∧ s.stop.in64 ∧ True
theorem open_Journey {H : Type} {enc : TypeId × Value → H} {w : World} {base fuel : Nat} {spare : Nat → Bool} {held : Bool} {cs : List Value} {x : DataW H × List MemPlace} (h : DataW.trod enc Try.prog w base spare held fuel 50 cs = some x) : ∃ s : Journey, cs = s.vals ∧ s.wf := by
  obtain ⟨xs, n, rfl, hx, hl, hn, hf⟩ := DataW.trod_struct Try.underlying50 h
  have hc : Try.prog.cellsOf 50 = 6 := by kernel_rfl
  rw [hc] at hl
  have c_i : Try.prog.cellsOf 3 = 1 := by kernel_rfl
  have c_b : Try.prog.cellsOf 4 = 1 := by kernel_rfl
  obtain ⟨d0, d1, d2, d3, d4, d5, rfl⟩ := len_6 _ hl
  have g0 := hf 0 _ rfl
  rw [List.getElem?_eq_getElem (show 0 < xs.length by rw [hn]; decide)] at g0
  obtain ⟨n0, e0, -, b0⟩ := DataW.trod_int Try.underlying3 g0
  simp [c_i] at e0
  subst e0
  have g1 := hf 1 _ rfl
  rw [List.getElem?_eq_getElem (show 1 < xs.length by rw [hn]; decide)] at g1
  obtain ⟨n1, e1, -, b1⟩ := DataW.trod_int Try.underlying3 g1
  simp [c_i] at e1
  subst e1
  have g2 := hf 2 _ rfl
  rw [List.getElem?_eq_getElem (show 2 < xs.length by rw [hn]; decide)] at g2
  obtain ⟨n2, e2, -, b2⟩ := DataW.trod_int Try.underlying3 g2
  simp [c_i] at e2
  subst e2
  have g3 := hf 3 _ rfl
  rw [List.getElem?_eq_getElem (show 3 < xs.length by rw [hn]; decide)] at g3
  obtain ⟨n3, e3, -, b3⟩ := DataW.trod_int Try.underlying3 g3
  simp [c_i] at e3
  subst e3
  have g4 := hf 4 _ rfl
  rw [List.getElem?_eq_getElem (show 4 < xs.length by rw [hn]; decide)] at g4
  obtain ⟨n4, e4, -, b4⟩ := DataW.trod_int Try.underlying3 g4
  simp [c_i] at e4
  subst e4
  have g5 := hf 5 _ rfl
  rw [List.getElem?_eq_getElem (show 5 < xs.length by rw [hn]; decide)] at g5
  obtain ⟨n5, e5, -⟩ := DataW.trod_bool Try.underlying4 g5
  simp [c_b] at e5
  subst e5
  exact ⟨⟨n0, n1, n2, n3, n4, n5⟩, rfl, in64_of b0, in64_of b1, in64_of b2, in64_of b3, in64_of b4, trivial⟩
def DayC.wf (s : DayC) : Prop := s.day.in64 ∧ s.rail.in64 ∧ s.bus.in64 ∧ s.capped.in64 ∧ s.most.in64 ∧ s.low.in64 ∧ s.high.in64
def Tap.wf (s : Tap) : Prop := s.device.in64 ∧ s.counter.in64 ∧ s.token.size ≤ maxLen ∧ s.kind.in64 ∧ s.place.in64 ∧ s.time.in64
def Outage.wf (s : Outage) : Prop := s.station.in64 ∧ s.frm.in64 ∧ s.til.in64
def Priced.wf (p : Priced) : Prop := p.j.wf ∧ p.fare.in64
theorem open_Priced {H : Type} {enc : TypeId × Value → H} {w : World} {base fuel : Nat} {spare : Nat → Bool} {held : Bool} {cs : List Value} {x : DataW H × List MemPlace} (h : DataW.trod enc Try.prog w base spare held fuel 55 cs = some x) : ∃ s : Priced, cs = s.vals ∧ s.wf := by
  obtain ⟨xs, n, rfl, hx, hl, hn, hf⟩ := DataW.trod_struct Try.underlying55 h
  have hc : Try.prog.cellsOf 55 = 7 := by kernel_rfl
  rw [hc] at hl
  have c_i : Try.prog.cellsOf 3 = 1 := by kernel_rfl
  have c_j : Try.prog.cellsOf 50 = 6 := by kernel_rfl
  obtain ⟨d0, d1, d2, d3, d4, d5, d6, rfl⟩ := len_7 _ hl
  have g0 := hf 0 _ rfl
  rw [List.getElem?_eq_getElem (show 0 < xs.length by rw [hn]; decide)] at g0
  obtain ⟨j, e0, wj⟩ := open_Journey g0
  simp [c_j, Journey.vals] at e0
  obtain ⟨rfl, rfl, rfl, rfl, rfl, rfl⟩ := e0
  have g1 := hf 1 _ rfl
  rw [List.getElem?_eq_getElem (show 1 < xs.length by rw [hn]; decide)] at g1
  obtain ⟨n1, e1, -, b1⟩ := DataW.trod_int Try.underlying3 g1
  simp [c_i] at e1
  subst e1
  exact ⟨⟨j, n1⟩, rfl, wj, in64_of b1⟩
instance : Nonempty Priced := ⟨⟨⟨0, 0, 0, 0, 0, false⟩, 0⟩⟩
instance : Nonempty DayC := ⟨⟨0, 0, 0, 0, 0, 0, 0⟩⟩
instance : Nonempty Journey := ⟨⟨0, 0, 0, 0, 0, false⟩⟩
instance : Nonempty Tap := ⟨⟨0, 0, ⟨#[]⟩, 0, 0, 0⟩⟩
instance : Nonempty Outage := ⟨⟨0, 0, 0⟩⟩
end Go.Proofs.Ytmeogadkbbeglaa
end
section
namespace Go.Proofs.Ytmeogadkbbeglaa
open Go.RowKit Go.ChangeShapes Go.WideShapes Go.ChangeAt Go.Proofs.YtmeogadkbbeglaaQ Go.Proofs.YtmeogadkbbeglaaW.PrintWords
set_option linter.unusedVariables false
theorem weightsAll_mem {H : Type} {P : Program} {e : TypeId} {p : Nat → Bool} : ∀ {l : List (DataW H)}, (DataW.weightsAll P e l).all p = true → ∀ d ∈ l, (d.weights P e).all p = true
  | [], h, d, hd => by cases hd
  | a :: r, h, d, hd => by
    simp only [DataW.weightsAll, List.all_append, Bool.and_eq_true] at h
    rcases List.mem_cons.1 hd with rfl | hd
    · exact h.1
    · exact weightsAll_mem h.2 d hd
/-- The same, the elements' own sizes handed on. -/
theorem slice_open2 {α : Type} [Nonempty α] {H : Type} {enc : TypeId × Value → H} {P : Program} {w : World} {fuel : Nat} {spare : Nat → Bool} {held : Bool} {t e : TypeId} {cs : List Value} {x : DataW H × List MemPlace} {sz : Nat} {vals : α → List Value} {wf : α → Prop}
    (ht : P.underlying t = some (.slice e)) (hc : P.cellsOf e = sz) (h1 : 0 < sz) (hs : ∀ a, (vals a).length = sz)
    (hel : ∀ (fuel : Nat) (cs : List Value) (x : DataW H × List MemPlace), (x.1.weights P e).all (· ≤ reachBytes) = true → DataW.trod enc P w 0 spare held fuel e cs = some x → ∃ a : α, cs = vals a ∧ wf a)
    (hw : (x.1.weights P t).all (· ≤ reachBytes) = true) (hb : 0 < P.bytesOf e)
    (h : DataW.trod enc P w 0 spare held fuel t cs = some x) :
    ∃ (A : Option Addr) (xs : List α) (c : Nat), cs = [.slice A xs.length c] ∧ xs.length ≤ c ∧ c ≤ maxLen ∧ SliceAt w sz vals A xs ∧ xs.length * P.bytesOf e ≤ 140737488351232 ∧ (∀ a ∈ xs, wf a) := by
  rcases Go.Deep.open_slice ht h with ⟨rfl, rfl⟩ | ⟨a, len, cap, m, n, D, Pl, rfl, _, hlc, hcm, hm, hx, hi⟩
  · exact ⟨none, [], 0, rfl, by simp, by simp, ⟨by simp, fun i x hx => by simp at hx⟩, by simp, by simp⟩
  · have hlm : len ≤ m := by rw [hm]; split <;> omega
    have hwi : ∀ i, i < len → ((D i).weights P e).all (· ≤ reachBytes) = true := fun i hil => by
      rw [hx] at hw
      simp only [DataW.weights, ht, List.all_cons, List.all_append, Bool.and_eq_true] at hw
      exact weightsAll_mem hw.2.1 _ (List.mem_map.2 ⟨i, List.mem_range.2 hil, rfl⟩)
    have hp : ∀ i, i < len → ∃ s : α, w.cells? 0 (a.add (i * sz)) sz = some (vals s) ∧ wf s := fun i hil => by
      obtain ⟨cs', hc', ht'⟩ := hi i (by omega)
      obtain ⟨s, rfl, hwf⟩ := hel _ _ _ (hwi i hil) ht'
      rw [hc] at hc'
      exact ⟨s, hc', hwf⟩
    obtain ⟨f, hf⟩ := choose_fun hp
    have hbytes : len * P.bytesOf e ≤ 140737488351232 := by
      rw [hx] at hw
      simp only [DataW.weights, ht, List.all_cons, Bool.and_eq_true, decide_eq_true_eq] at hw
      have := hw.1
      simp only [List.length_map, List.length_range] at this
      have h2 : len * P.bytesOf e ≤ (len + (m - len)) * P.bytesOf e := Nat.mul_le_mul_right _ (by omega)
      exact Nat.le_trans h2 (Nat.le_trans this (by decide))
    have hlen : len ≤ 140737488351232 := Nat.le_trans (Nat.le_mul_of_pos_right _ hb) hbytes
    refine ⟨some a, (List.range len).map f, cap, by simp, by simpa using hlc, hcm, ⟨by simpa using hlen, fun i s hs' => ?_⟩, by simpa using hbytes, ?_⟩
    · have hil : i < len := by
        have := (List.getElem?_eq_some_iff.1 hs').1
        simpa using this
      rw [List.getElem?_map, List.getElem?_range hil] at hs'
      simp at hs'
      subst hs'
      obtain ⟨-, -, hcell⟩ := World.cells?_some (hf i hil).1
      have hsp : a.spot = none := by
        obtain ⟨-, -, hcell0⟩ := World.cells?_some (hf 0 (by omega)).1
        have h0 := hcell0 0 h1
        have hv : 0 < (vals (f 0)).length := by rw [hs]; exact h1
        rw [List.getElem?_eq_getElem hv, Nat.zero_mul] at h0
        exact spot_none (a := a) (by simpa [Addr.add] using h0)
      obtain ⟨b, off, sp⟩ := a
      simp only at hsp
      subst hsp
      refine ⟨b, off, rfl, fun j v hv => ?_⟩
      have hj : j < sz := by
        have := (List.getElem?_eq_some_iff.1 hv).1
        rwa [hs] at this
      have := hcell j hj
      rw [add_flat, add_flat] at this
      rw [this]; exact hv
    · intro s hs'
      obtain ⟨i, hil, rfl⟩ := List.mem_map.1 hs'
      exact (hf i (List.mem_range.1 hil)).2
/-- a row among rows: where it lies, its room, what it holds -/
structure PRow where
  A : Option Addr
  c : Nat
  l : List Priced
instance : Nonempty PRow := ⟨⟨none, 0, []⟩⟩
def PRow.vals (r : PRow) : List Value := [.slice r.A r.l.length r.c]
def PRow.In (W : World) (r : PRow) : Prop := r.l.length ≤ r.c ∧ SliceAt W 7 Priced.vals r.A r.l ∧ r.l.length * 56 ≤ 140737488351232 ∧ ∀ p ∈ r.l, p.wf
theorem open_PRow {H : Type} {enc : TypeId × Value → H} {w : World} {fuel : Nat} {spare : Nat → Bool} {held : Bool} {cs : List Value} {x : DataW H × List MemPlace} (hw : (x.1.weights Try.prog 53).all (· ≤ reachBytes) = true) (h : DataW.trod enc Try.prog w 0 spare held fuel 53 cs = some x) : ∃ r : PRow, cs = r.vals ∧ r.In w := by
  have hb : Try.prog.bytesOf 55 = 56 := by kernel_rfl
  obtain ⟨A, l, c, e, n1, -, n2, n3, n4⟩ := slice_open (vals := Priced.vals) (wf := Priced.wf) Try.underlying53 (show Try.prog.cellsOf 55 = 7 by kernel_rfl) (by decide) (fun _ => rfl) (fun _ _ _ hh => open_Priced hh) hw (by rw [hb]; decide) h
  rw [hb] at n3
  exact ⟨⟨A, c, l⟩, e, n1, n2, n3, n4⟩
theorem C_of_sliceAt' {α β : Type} {d : Kd α} {w : World} {A : Option Addr} {sz : Nat} {xs : List β} {vals : β → List Value} (g : β → α) (h : SliceAt w sz vals A xs) (hK : ∀ x ∈ xs, d.K w (g x) (vals x)) (hs : d.sz = sz) (hv : ∀ x, (vals x).length = sz) {n : Nat} (hn : xs.length = n) : d.C w A n (xs.map g) := by
  subst hn
  refine ⟨by simp, by have := h.1; omega, fun h0 => ?_⟩
  obtain ⟨b, off, e, -⟩ := h.2 0 xs[0] (by simp [h0])
  refine ⟨⟨b, off, none⟩, e, fun j p hj => ?_⟩
  rw [List.getElem?_map, Option.map_eq_some_iff] at hj
  obtain ⟨y, hy, rfl⟩ := hj
  refine ⟨vals y, by rw [hv, hs], hK y (List.mem_of_getElem? hy), fun i u hu => ?_⟩
  obtain ⟨b', off', e', hc⟩ := h.2 j y hy
  rw [e] at e'
  cases e'
  have := hc i u hu
  rwa [addFlat, ← Nat.add_assoc, hs]
theorem rows_C {w : World} {A : Option Addr} {rows : List PRow} (h : SliceAt w 1 PRow.vals A rows) (hr : ∀ r ∈ rows, r.In w) : Kd.C (Kd.slice 55 k55) w A rows.length ((rows.map PRow.l).map (List.map ofPr)) := by
  rw [List.map_map]
  refine C_of_sliceAt' (d := Kd.slice 55 k55) _ h (fun r hm => ?_) rfl (fun _ => rfl) rfl
  obtain ⟨h1, h2, -⟩ := hr r hm
  exact ⟨r.A, r.c, by simp [PRow.vals], by simpa using h1, C_of_sliceAt (n := (r.l.map ofPr).length) ofPr h2 (fun x => k55_mk w (ofPr x)) rfl (fun _ => rfl) (by simp)⟩
end Go.Proofs.Ytmeogadkbbeglaa
end
section
namespace Go.Proofs.Ytmeogadkbbeglaa
open Go.RowKit Go.Proofs.YtmeogadkbbeglaaQ Go.Proofs.YtmeogadkbbeglaaW.PrintWords
set_option linter.unusedVariables false
theorem capshold_calls (t : Tariff) (m : TMem) (week : Int) (rows : List PRow) (A : Option Addr) (c : Nat) (w : World) (h : t.At w m) (hc : m.Caps t) (hA : SliceAt w 1 PRow.vals A rows) (hl : rows.length ≤ c) (hr : ∀ r ∈ rows, r.In w) :
    Calls Try.prog 12 #[.agg (t.cells m), .int .i64 week, .slice A rows.length c] w fun e w' => e = .returned (.bool true) ∧ Below w.heap.size w w' := by
  obtain ⟨k, hk⟩ := (hold_ev t (fits_at h) week (rows.map PRow.l) (fun r hm => by
    obtain ⟨p, hp, rfl⟩ := List.mem_map.1 hm
    exact (hr p hp).2.1.len)).rounds
  obtain ⟨r0, r1, r2⟩ := at_C h
  have r3 := rows_C hA hr
  have := fareboxlaw19_CapsHold.calls (k := k) (c0_0 := m.c1) (c0_1 := m.c2) (c0_2 := m.c3) (w := w) (hr0_0 := r0) (hc0_0 := by simpa using hc.k1) (hr0_1 := r1) (hc0_1 := by simpa using hc.k2) (hr0_2 := r2) (hc0_2 := by simpa using hc.k3) (A2 := A) (c2 := c) (hr2 := by simpa using r3) (hc2 := by simpa using hl) (h := hk)
  simp only [List.length_map] at this
  exact this
end Go.Proofs.Ytmeogadkbbeglaa
end
