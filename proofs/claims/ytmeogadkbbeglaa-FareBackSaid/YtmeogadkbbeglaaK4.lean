/- What the claim's walk leans on: U06, W06, Fgn06, Fgn07. -/
import Derived.Test.YtmeogadkbbeglaaK2
import Derived.Test.YtmeogadkbbeglaaK3
import Derived.Test.YtmeogadkbbeglaaK1
import Derived.Test.YtmeogadkbbeglaaH3
import Derived.Test.YtmeogadkbbeglaaH2
section
namespace Go.Proofs.Ytmeogadkbbeglaa
open Go.RowKit Go.Proofs.YtmeogadkbbeglaaQ Go.Proofs.YtmeogadkbbeglaaW.PrintWords Go.Proofs.YtmeogadkbbeglaaW.PrintLast Go.Proofs.YtmeogadkbbeglaaW.PrintMore
set_option linter.unusedVariables false
set_option linter.unusedSimpArgs false
def timeB (t : Int) : Bool := decide (0 ≤ t ∧ t ≤ 2147483648)
def dayB (d : Int) : Bool := decide (-1099511627776 ≤ d ∧ d ≤ 1099511627776)
def dayF (t : Int) : Int := (t - 270) / 1440
def dayR (t : Int) : Int × Int := if timeB t then (dayF t, 0) else (0, 60)
def wkdF (d : Int) : Int := if dayB d then d % 7 else 0
theorem tmod_cases (a : Int) (b : Int) (hb : 0 < b) : Int.tmod a b = a % b ∨ (a < 0 ∧ Int.tmod a b = a % b - b ∧ 0 < a % b) := by
  rcases Int.lt_or_le a 0 with h | h
  · by_cases hd : b ∣ a
    · left; rw [Int.tmod_eq_emod]; simp [hd]
    · right
      refine ⟨h, ?_, ?_⟩
      · rw [Int.tmod_eq_emod]; rw [if_neg (by simp [hd]; omega)]; omega
      · have := Int.emod_nonneg a (show b ≠ 0 by omega)
        have h2 : a % b ≠ 0 := fun e => hd (Int.dvd_of_emod_eq_zero e)
        omega
  · left; exact Int.tmod_eq_emod_of_nonneg h
theorem cright_f (t : Int) : clock_Right.f t = some (timeB t) := by
  unfold clock_Right.f timeB
  by_cases h : 0 ≤ t
  · rw [if_pos h]; congr 1; apply decide_eq_decide.2; omega
  · rw [if_neg h]; congr 1; symm; apply decide_eq_false; omega
theorem csaid_f (d : Int) : clock_said.f d = some (dayB d) := by
  unfold clock_said.f dayB
  by_cases h : -1099511627776 ≤ d
  · rw [if_pos h]; congr 1; apply decide_eq_decide.2; omega
  · rw [if_neg h]; congr 1; symm; apply decide_eq_false; omega
theorem cday_f (t : Int) : clock_Day.f t = some (dayR t) := by
  simp only [clock_Day.f, cright_f, Option.bind_some, dayR]
  cases h : timeB t
  · rfl
  · have h2 : 0 ≤ t ∧ t ≤ 2147483648 := of_decide_eq_true h
    simp only [if_true, dayF]
    have e1 : wrap64 (wrap64 (t + 1440) - 270) = t + 1170 := by unfold wrap64; omega
    rw [e1, Int.tdiv_eq_ediv_of_nonneg (by omega)]
    have e2 : wrap64 (wrap64 ((t + 1170) / 1440) - 1) = (t - 270) / 1440 := by unfold wrap64; omega
    rw [e2]
theorem cweekday_f (d : Int) : clock_Weekday.f d = some (wkdF d) := by
  simp only [clock_Weekday.f, csaid_f, Option.bind_some, wkdF]
  cases h : dayB d
  · rfl
  · have h2 : -1099511627776 ≤ d ∧ d ≤ 1099511627776 := of_decide_eq_true h
    simp only [if_true]
    congr 1
    have e : wrap64 (Int.tmod d 7 + 7) = Int.tmod d 7 + 7 := by
      rcases tmod_cases d 7 (by omega) with e | ⟨_, e, _⟩ <;> rw [e] <;> unfold wrap64 <;> omega
    rw [e]
    rcases tmod_cases d 7 (by omega) with e | ⟨_, e, _⟩
    · rw [e, Int.tmod_eq_emod_of_nonneg (by omega)]; omega
    · rw [e, Int.tmod_eq_emod_of_nonneg (by omega)]; omega
end Go.Proofs.Ytmeogadkbbeglaa
end
section
namespace Go.Proofs.Ytmeogadkbbeglaa
open Go.RowKit Go.Proofs.YtmeogadkbbeglaaQ
set_option maxHeartbeats 800000
set_option linter.unusedSimpArgs false
set_option maxRecDepth 100000
def inBand (t : Int) (b : Band) : Bool := decide (b.frm ≤ Int.tmod t 1440) && decide (Int.tmod t 1440 < b.to)
theorem peak1_calls (b : Band) (t : Int) (p : Addr) (w : World) (hp : w.cell? p = some (.int .i64 t)) :
    Calls Try.prog 156 #[.agg #[.int .i64 b.frm, .int .i64 b.to], .pointer (some p)] w fun e w' => e = .returned (.bool (inBand t b)) ∧ Below w.heap.size w w' := by
  have HB := Below.refl w.heap.size w
  have hlt := World.block_lt_of_cell? w p hp
  by_cases h1 : b.frm ≤ Int.tmod t 1440
  all_goals
    go_enter Try.func156, Try.ntmps156
    go_wp2_with fail
    go_ret
    exact ⟨ret_bool (by simp [inBand, h1]; try omega), by (repeat (first | (with_reducible exact HB) | (with_reducible refine bAlloc ?_ _) | (with_reducible refine bDrewN ?_ _) | (with_reducible refine bDrew ?_) | (with_reducible refine bSet ?_ (by first | exact Nat.le_refl _ | (simp; omega) | omega) _) | (with_reducible refine bThen ?_ (by with_reducible assumption))))⟩
theorem index_band (l : List Band) (A : Option Addr) (c : Nat) (q0 : Value) (p : Band → Bool) (w : World) (hA : SliceAt w 2 Band.vals A l)
    (hf : ∀ (x : Band) (W : World), x ∈ l → Below w.heap.size w W → Calls Try.prog 156 #[.agg #[.int .i64 x.frm, .int .i64 x.to], q0] W fun e w' => e = .returned (.bool (p x)) ∧ Below W.heap.size W w') :
    Calls Try.prog 164 #[.slice A l.length c, .func (.func 156) #[] #[q0]] w fun e w' => e = .returned (.int .i64 (idxI l p)) ∧ Below w.heap.size w w' := by
  have hm := hA.len
  have HB := Below.refl w.heap.size w
  have HF := Lib.hid hf
  clear hf
  go_enter Try.func164, Try.ntmps164
  go_wp2_with fail
  go_loopw [8] (fun i wr => ∃ k : Nat, k ≤ l.length ∧ i = .int .i64 k ∧ Hid ((l.take k).all (fun x => !p x) = true) ∧ Below w.heap.size w wr) (fun i _ => l.length - (intOf i).toNat)
  case atStart => exact ⟨0, by omega, rfl, rfl, HB⟩
  case round =>
    obtain ⟨k, hk, rfl, hall, hB⟩ := hrel
    by_cases hlt : k < l.length
    · obtain ⟨b, off, rfl, c0, c1⟩ := elem2 hA hB k hlt
      cases hp : p l[k]
      · go_wp2_with (go_at_call 156; refine (HF.out l[k] _ (List.getElem_mem hlt) hB).mono ?_; rintro e w' ⟨rfl, hb1⟩)
        go_roundw
        case rel => exact ⟨k + 1, by omega, by go_num, all_snoc hlt hall.out (by simp [hp]), bThen hB hb1⟩
        case measure => simp [intOf]; omega
      · go_wp2_with (go_at_call 156; refine (HF.out l[k] _ (List.getElem_mem hlt) hB).mono ?_; rintro e w' ⟨rfl, hb1⟩)
        go_ret
        exact ⟨by rw [idxI_at hlt hall.out hp]; rfl, bThen hB hb1⟩
    · go_wp2_with fail
      go_ret
      exact ⟨by rw [idxI_none hlt hall.out]; rfl, hB⟩
theorem idxI_any {α : Type} (l : List α) (p : α → Bool) : decide (0 ≤ idxI l p) = l.any p := by
  rcases idxI_cases l p with ⟨i, hi, hx, hf⟩ | ⟨hx, hf⟩
  · rw [hx, decide_eq_true (by omega)]
    have := List.find?_some hf
    symm; rw [List.any_eq_true]; exact ⟨l[i], List.getElem_mem hi, this⟩
  · rw [hx, decide_eq_false (by omega)]
    rw [List.find?_eq_none] at hf
    symm; rw [List.any_eq_false]; exact fun x hx => by simpa using hf x hx
theorem contains_band (l : List Band) (A : Option Addr) (c : Nat) (q0 : Value) (p : Band → Bool) (w : World) (hA : SliceAt w 2 Band.vals A l)
    (hf : ∀ (x : Band) (W : World), x ∈ l → Below w.heap.size w W → Calls Try.prog 156 #[.agg #[.int .i64 x.frm, .int .i64 x.to], q0] W fun e w' => e = .returned (.bool (p x)) ∧ Below W.heap.size W w') :
    Calls Try.prog 155 #[.slice A l.length c, .func (.func 156) #[] #[q0]] w fun e w' => e = .returned (.bool (l.any p)) ∧ Below w.heap.size w w' := by
  have hc := index_band l A c q0 p w hA hf
  have ha := idxI_any l p
  generalize idxI l p = i at *
  generalize l.any p = r at *
  go_enter Try.func155, Try.ntmps155
  go_wp2_with fail
  refine hc.mono ?_
  rintro _ w2 ⟨rfl, hb⟩
  go_wp2_with fail
  go_ret
  exact ⟨rfl, hb⟩
def peakF (l : List Band) (t : Int) : Bool := timeB t && decide (wkdF (dayF t) < 5) && l.any (inBand t)
theorem peak_calls (l : List Band) (A : Option Addr) (c : Nat) (t : Int) (w : World) (hA : SliceAt w 2 Band.vals A l) :
    Calls Try.prog 138 #[.slice A l.length c, .int .i64 t] w fun e w' => e = .returned (.bool (peakF l t)) ∧ Below w.heap.size w w' := by
  have HB := Below.refl w.heap.size w
  have hmf : ∀ (fn : Fn) (first cap : Array Value) (w : World), (Instr.makeFunc fn first cap).run Try.prog w = .ok (.func fn first cap) w := fun _ _ _ _ => rfl
  have hl := hA.len
  have hd : ∀ W, Calls Try.prog 67 #[.int .i64 t] W fun e w' => e = .returned (.tuple #[.int .i64 (dayR t).1, .int .i64 (dayR t).2]) ∧ Below W.heap.size W w' := fun w => (clock_Day.calls t (dayR t).1 (dayR t).2 w (cday_f t)).mono fun _ _ h => ⟨h.1, h.2.below⟩
  have hw : ∀ W, Calls Try.prog 129 #[.int .i64 (dayF t)] W fun e w' => e = .returned (.int .i64 (wkdF (dayF t))) ∧ Below W.heap.size W w' := fun w => (clock_Weekday.calls (dayF t) (wkdF (dayF t)) w (cweekday_f _)).mono fun _ _ h => ⟨h.1, h.2.below⟩
  have HId : Box (w.alloc (.cells #[.int .i64 t] 3)) w.heap.size #[.int .i64 t] 3 := Box.new _ _ _
  have hB := bAlloc HB (.cells #[.int .i64 t] 3)
  unfold peakF dayR at *
  cases ht : timeB t
  · simp only [ht, Bool.false_eq_true, if_false] at hd
    go_enter Try.func138, Try.ntmps138
    go_wp2_with fail
    refine (hd _).mono ?_
    rintro _ w2 ⟨rfl, hb⟩
    go_wp2_with fail
    go_ret
    exact ⟨rfl, bThen hB hb⟩
  · simp only [ht, if_true] at hd
    cases h5 : decide (wkdF (dayF t) < 5)
    all_goals
      go_enter Try.func138, Try.ntmps138
      go_wp2_with fail
      refine (hd _).mono ?_
      rintro _ w2 ⟨rfl, hb⟩
      have hB2 := bThen hB hb
      have HI2 := HId.below' hb
      go_wp2_with fail
      refine (hw _).mono ?_
      rintro _ w3 ⟨rfl, hb3⟩
      have hB3 := bThen hB2 hb3
      have HI3 := HI2.below' hb3
      have i3 := HI3.cell 0
      simp at i3
    · go_wp2_with fail
      go_ret
      exact ⟨rfl, hB3⟩
    · go_wp2_with fail
      refine (contains_band l A c _ (inBand t) _ (hA.keep (by (repeat (first | (with_reducible exact hB3) | (with_reducible refine bAlloc ?_ _) | (with_reducible refine bDrewN ?_ _) | (with_reducible refine bDrew ?_) | (with_reducible refine bSet ?_ (by first | exact Nat.le_refl _ | (simp; omega) | omega) _) | (with_reducible refine bThen ?_ (by with_reducible assumption)))))) (fun x W _ hb => peak1_calls x t _ W ((HI3.below' hb).cell 0))).mono ?_
      rintro _ w4 ⟨rfl, hb4⟩
      go_wp2_with fail
      go_ret
      exact ⟨ret_bool (by simp), bThen hB3 hb4⟩
end Go.Proofs.Ytmeogadkbbeglaa
end
section
namespace Go.Proofs.YtmeogadkbbeglaaQ
open Go.RowKit Go.Proofs.Ytmeogadkbbeglaa Go.Proofs.YtmeogadkbbeglaaW.PrintWords
set_option linter.unusedVariables false
def clock_Peak.f (l0 : List S48) (a1 : Int) : Option Bool := if l0.length ≤ 140737488351232 then some (peakF (l0.map bdOf) a1) else none
theorem clock_Peak.calls (A0 : Option Addr) (c0 : Nat) (l0 : List S48) (a1 : Int) (r : Bool) (w : World) (hr0 : Kd.C k48 w A0 l0.length l0) (hc0 : l0.length ≤ c0) (h : clock_Peak.f l0 a1 = some r) :
    Calls Try.prog 138 #[.slice A0 l0.length c0, .int .i64 a1] w fun e w' => e = .returned (.bool r) ∧ Below w.heap.size w w' := by
  unfold clock_Peak.f at h
  split at h
  · rename_i hl
    cases h
    have := peak_calls (l0.map bdOf) A0 c0 a1 w (sliceAt_of_C bdOf Band.vals hr0 (fun x cs h => k48_open h) rfl (fun _ => Nat.succ_pos _) hl)
    rw [List.length_map] at this
    exact this
  · cases h
theorem cpeak_f {l : List Band} (h : l.length ≤ 140737488351232) (t : Int) : clock_Peak.f (l.map ofBd) t = some (peakF l t) := by
  unfold clock_Peak.f; rw [map_back bdOf_ofBd, List.length_map, if_pos h]
end Go.Proofs.YtmeogadkbbeglaaQ
end
section
namespace Go.Proofs.YtmeogadkbbeglaaQ
open Go.RowKit Go.Proofs.Ytmeogadkbbeglaa Go.Proofs.YtmeogadkbbeglaaW.PrintWords
set_option linter.unusedVariables false
def tariff_Right.f (l0_0 : List S35) (l0_1 : List S39) (l0_2 : List S48) (a0_3 : Nat) (a0_4 a0_5 a0_6 a0_7 a0_8 a0_9 a0_10 a0_11 a0_12 a0_13 : Int) : Option Int := if Tariff.fits (toT l0_0 l0_1 l0_2 a0_3 a0_4 a0_5 a0_6 a0_7 a0_8 a0_9 a0_10 a0_11 a0_12 a0_13) then some (rightF (toT l0_0 l0_1 l0_2 a0_3 a0_4 a0_5 a0_6 a0_7 a0_8 a0_9 a0_10 a0_11 a0_12 a0_13)) else none
theorem tariff_Right.calls (A0_0 : Option Addr) (c0_0 : Nat) (l0_0 : List S35) (A0_1 : Option Addr) (c0_1 : Nat) (l0_1 : List S39) (A0_2 : Option Addr) (c0_2 : Nat) (l0_2 : List S48) (a0_3 : Nat) (a0_4 a0_5 a0_6 a0_7 a0_8 a0_9 a0_10 a0_11 a0_12 a0_13 : Int) (r : Int) (w : World) (hr0_0 : Kd.C k35 w A0_0 l0_0.length l0_0) (hc0_0 : l0_0.length ≤ c0_0) (hr0_1 : Kd.C k39 w A0_1 l0_1.length l0_1) (hc0_1 : l0_1.length ≤ c0_1) (hr0_2 : Kd.C k48 w A0_2 l0_2.length l0_2) (hc0_2 : l0_2.length ≤ c0_2) (h : tariff_Right.f l0_0 l0_1 l0_2 a0_3 a0_4 a0_5 a0_6 a0_7 a0_8 a0_9 a0_10 a0_11 a0_12 a0_13 = some r) :
    Calls Try.prog 28 #[.agg #[.slice A0_0 l0_0.length c0_0, .slice A0_1 l0_1.length c0_1, .slice A0_2 l0_2.length c0_2, .float .f64 a0_3, .int .i64 a0_4, .int .i64 a0_5, .int .i64 a0_6, .int .i64 a0_7, .int .i64 a0_8, .int .i64 a0_9, .int .i64 a0_10, .int .i64 a0_11, .int .i64 a0_12, .int .i64 a0_13]] w fun e w' => e = .returned (.int .i64 r) ∧ Below w.heap.size w w' := by
  unfold tariff_Right.f at h
  split at h
  · rename_i hf
    cases h
    have hA := at_of A0_0 c0_0 l0_0 A0_1 c0_1 l0_1 A0_2 c0_2 l0_2 a0_3 a0_4 a0_5 a0_6 a0_7 a0_8 a0_9 a0_10 a0_11 a0_12 a0_13 hr0_0 hc0_0 hr0_1 hc0_1 hr0_2 hc0_2 hf
    have := right_calls _ _ w hA
    rw [cells_of] at this
    exact this
  · cases h
def tariff_Station.f (l0_0 : List S35) (l0_1 : List S39) (l0_2 : List S48) (a0_3 : Nat) (a0_4 a0_5 a0_6 a0_7 a0_8 a0_9 a0_10 a0_11 a0_12 a0_13 : Int) (a1 : Int) : Option (Int × Int × Int × Bool) := if Tariff.fits (toT l0_0 l0_1 l0_2 a0_3 a0_4 a0_5 a0_6 a0_7 a0_8 a0_9 a0_10 a0_11 a0_12 a0_13) then some (match stFind (toT l0_0 l0_1 l0_2 a0_3 a0_4 a0_5 a0_6 a0_7 a0_8 a0_9 a0_10 a0_11 a0_12 a0_13).st a1 with | some s => (s.id, s.zone, s.grp, true) | none => (0, 0, 0, false)) else none
theorem tariff_Station.calls (A0_0 : Option Addr) (c0_0 : Nat) (l0_0 : List S35) (A0_1 : Option Addr) (c0_1 : Nat) (l0_1 : List S39) (A0_2 : Option Addr) (c0_2 : Nat) (l0_2 : List S48) (a0_3 : Nat) (a0_4 a0_5 a0_6 a0_7 a0_8 a0_9 a0_10 a0_11 a0_12 a0_13 : Int) (a1 : Int) (r1 : Int) (r2 : Int) (r3 : Int) (r4 : Bool) (w : World) (hr0_0 : Kd.C k35 w A0_0 l0_0.length l0_0) (hc0_0 : l0_0.length ≤ c0_0) (hr0_1 : Kd.C k39 w A0_1 l0_1.length l0_1) (hc0_1 : l0_1.length ≤ c0_1) (hr0_2 : Kd.C k48 w A0_2 l0_2.length l0_2) (hc0_2 : l0_2.length ≤ c0_2) (h : tariff_Station.f l0_0 l0_1 l0_2 a0_3 a0_4 a0_5 a0_6 a0_7 a0_8 a0_9 a0_10 a0_11 a0_12 a0_13 a1 = some (r1, r2, r3, r4)) :
    Calls Try.prog 31 #[.agg #[.slice A0_0 l0_0.length c0_0, .slice A0_1 l0_1.length c0_1, .slice A0_2 l0_2.length c0_2, .float .f64 a0_3, .int .i64 a0_4, .int .i64 a0_5, .int .i64 a0_6, .int .i64 a0_7, .int .i64 a0_8, .int .i64 a0_9, .int .i64 a0_10, .int .i64 a0_11, .int .i64 a0_12, .int .i64 a0_13], .int .i64 a1] w fun e w' => e = .returned (.tuple #[.agg #[.int .i64 r1, .int .i64 r2, .int .i64 r3], .bool r4]) ∧ Below w.heap.size w w' := by
  unfold tariff_Station.f at h
  split at h
  · rename_i hf
    have hA := at_of A0_0 c0_0 l0_0 A0_1 c0_1 l0_1 A0_2 c0_2 l0_2 a0_3 a0_4 a0_5 a0_6 a0_7 a0_8 a0_9 a0_10 a0_11 a0_12 a0_13 hr0_0 hc0_0 hr0_1 hc0_1 hr0_2 hc0_2 hf
    have hc := station_calls _ _ a1 w hA
    rw [cells_of] at hc
    cases hs : stFind (toT l0_0 l0_1 l0_2 a0_3 a0_4 a0_5 a0_6 a0_7 a0_8 a0_9 a0_10 a0_11 a0_12 a0_13).st a1 <;> rw [hs] at h hc <;> cases h <;> exact hc
  · cases h
def tariff_Single.f (l0_0 : List S35) (l0_1 : List S39) (l0_2 : List S48) (a0_3 : Nat) (a0_4 a0_5 a0_6 a0_7 a0_8 a0_9 a0_10 a0_11 a0_12 a0_13 : Int) (a1 : Int) (a2 : Int) (a3 : Bool) : Option (Int × Int) := if Tariff.fits (toT l0_0 l0_1 l0_2 a0_3 a0_4 a0_5 a0_6 a0_7 a0_8 a0_9 a0_10 a0_11 a0_12 a0_13) then some (singleF (toT l0_0 l0_1 l0_2 a0_3 a0_4 a0_5 a0_6 a0_7 a0_8 a0_9 a0_10 a0_11 a0_12 a0_13) a1 a2 a3) else none
theorem tariff_Single.calls (A0_0 : Option Addr) (c0_0 : Nat) (l0_0 : List S35) (A0_1 : Option Addr) (c0_1 : Nat) (l0_1 : List S39) (A0_2 : Option Addr) (c0_2 : Nat) (l0_2 : List S48) (a0_3 : Nat) (a0_4 a0_5 a0_6 a0_7 a0_8 a0_9 a0_10 a0_11 a0_12 a0_13 : Int) (a1 : Int) (a2 : Int) (a3 : Bool) (r1 : Int) (r2 : Int) (w : World) (hr0_0 : Kd.C k35 w A0_0 l0_0.length l0_0) (hc0_0 : l0_0.length ≤ c0_0) (hr0_1 : Kd.C k39 w A0_1 l0_1.length l0_1) (hc0_1 : l0_1.length ≤ c0_1) (hr0_2 : Kd.C k48 w A0_2 l0_2.length l0_2) (hc0_2 : l0_2.length ≤ c0_2) (h : tariff_Single.f l0_0 l0_1 l0_2 a0_3 a0_4 a0_5 a0_6 a0_7 a0_8 a0_9 a0_10 a0_11 a0_12 a0_13 a1 a2 a3 = some (r1, r2)) :
    Calls Try.prog 33 #[.agg #[.slice A0_0 l0_0.length c0_0, .slice A0_1 l0_1.length c0_1, .slice A0_2 l0_2.length c0_2, .float .f64 a0_3, .int .i64 a0_4, .int .i64 a0_5, .int .i64 a0_6, .int .i64 a0_7, .int .i64 a0_8, .int .i64 a0_9, .int .i64 a0_10, .int .i64 a0_11, .int .i64 a0_12, .int .i64 a0_13], .int .i64 a1, .int .i64 a2, .bool a3] w fun e w' => e = .returned (.tuple #[.int .i64 r1, .int .i64 r2]) ∧ Below w.heap.size w w' := by
  unfold tariff_Single.f at h
  split at h
  · rename_i hf
    have hA := at_of A0_0 c0_0 l0_0 A0_1 c0_1 l0_1 A0_2 c0_2 l0_2 a0_3 a0_4 a0_5 a0_6 a0_7 a0_8 a0_9 a0_10 a0_11 a0_12 a0_13 hr0_0 hc0_0 hr0_1 hc0_1 hr0_2 hc0_2 hf
    have hc := single_calls _ _ a1 a2 a3 w hA
    rw [cells_of] at hc
    have h := Option.some.inj h
    rw [h] at hc
    exact hc
  · cases h
theorem right_f {t : Tariff} (h : Tariff.fits t) : tariff_Right.f ((t).st.map ofSt) ((t).sp.map ofSp) ((t).pk.map ofBd) (t).off (t).bus (t).busDaily (t).busWeekly (t).hopper (t).most (t).longest (t).change (t).passback (t).delay (t).threshold = some (rightF t) := by
  unfold tariff_Right.f; rw [toT_of, if_pos h]
theorem station_f {t : Tariff} (h : Tariff.fits t) (i : Int) : tariff_Station.f ((t).st.map ofSt) ((t).sp.map ofSp) ((t).pk.map ofBd) (t).off (t).bus (t).busDaily (t).busWeekly (t).hopper (t).most (t).longest (t).change (t).passback (t).delay (t).threshold i = some (match stFind t.st i with | some s => (s.id, s.zone, s.grp, true) | none => (0, 0, 0, false)) := by
  unfold tariff_Station.f; rw [toT_of, if_pos h]
theorem single_f {t : Tariff} (h : Tariff.fits t) (a b : Int) (p : Bool) : tariff_Single.f ((t).st.map ofSt) ((t).sp.map ofSp) ((t).pk.map ofBd) (t).off (t).bus (t).busDaily (t).busWeekly (t).hopper (t).most (t).longest (t).change (t).passback (t).delay (t).threshold a b p = some (singleF t a b p) := by
  unfold tariff_Single.f; rw [toT_of, if_pos h]
end Go.Proofs.YtmeogadkbbeglaaQ
end
