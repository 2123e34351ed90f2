/- What the claim's walk leans on: U19m, Open18, W19m. -/
import Derived.Test.YtmeogadkbbeglaaK9
import Derived.Test.YtmeogadkbbeglaaK8
import Derived.Test.YtmeogadkbbeglaaK7
import Derived.Test.YtmeogadkbbeglaaOpen
import Derived.Test.YtmeogadkbbeglaaK3
section
namespace Go.Proofs.Ytmeogadkbbeglaa
open Go.RowKit Go.Proofs.YtmeogadkbbeglaaQ Go.Proofs.YtmeogadkbbeglaaW.PrintWords Go.Proofs.YtmeogadkbbeglaaW.PrintLast Go.Proofs.YtmeogadkbbeglaaW.PrintMore
set_option linter.unusedVariables false
set_option linter.unusedSimpArgs false
theorem and_low (a : Int) : 0 ≤ Go.bits .and .i64 a 65535 ∧ Go.bits .and .i64 a 65535 ≤ 65535 := by
  have h : Go.bits .and .i64 a 65535 = IntKind.i64.wrap ((BitVec.ofInt 64 a &&& BitVec.ofInt 64 65535).toNat : Int) := rfl
  rw [h, BitVec.toNat_and, show (BitVec.ofInt 64 65535).toNat = 65535 from by decide]
  have := Nat.and_le_right (n := (BitVec.ofInt 64 a).toNat) (m := 65535)
  rw [IntKind.wrap_i64]
  omega
theorem rd_pr (l : List Priced) (i : Int) (h0 : 0 ≤ i) (h : i < (l.length : Int)) : rd_T55 (l.map ofPr) i = ofPr (l[i.toNat]'(by omega)) := by
  have h' : i.toNat < l.length := by omega
  simp [rd_T55, List.getD_eq_getElem?_getD, h']
theorem swap_perm (l : List Priced) (a b : Nat) (ha : a < l.length) (hb : b < l.length) : ((l.set a l[b]).set b l[a]).Perm l := List.set_set_perm ha hb
theorem map_set {α β : Type} (f : α → β) (l : List α) (i : Nat) (x : α) : (l.map f).set i (f x) = (l.set i x).map f := by rw [List.map_set]
theorem mixed_l (t : Tariff) (h : Tariff.fits t) (day : Int) (l : List Priced) (hl : l.length ≤ 2000) (h0 : (dayC t day l).2 = 0) (ord : List Int) (ho : ord.length < 9223372036854775807) : ∀ (n i : Nat) (m : List Priced), i + n = ord.length → m.Perm l →
    Ev (fun k => fareboxlaw19_CapsMixed.l0 k day ord (m.map ofPr) i ((t).st.map ofSt) ((t).sp.map ofSp) ((t).pk.map ofBd) (t).off (t).bus (t).busDaily (t).busWeekly (t).hopper (t).most (t).longest (t).change (t).passback (t).delay (t).threshold (dayC t day l).1.day (dayC t day l).1.rail (dayC t day l).1.bus (dayC t day l).1.capped (dayC t day l).1.most (dayC t day l).1.low (dayC t day l).1.high) true := by
  have key : ∀ m : List Priced, m.Perm l → caps_Day.f ((t).st.map ofSt) ((t).sp.map ofSp) ((t).pk.map ofBd) (t).off (t).bus (t).busDaily (t).busWeekly (t).hopper (t).most (t).longest (t).change (t).passback (t).delay (t).threshold day (m.map ofPr) = some (dayTup (dayC t day l)) := fun m hp => by
    rw [cday19_f h day (by rw [hp.length_eq]; omega), day_perm hp.symm h0]
  intro n
  induction n with
  | zero =>
    intro i m hi hp
    refine Ev.step (f := fun _ => some true) (fun k => ?_) (Ev.now _)
    simp only [fareboxlaw19_CapsMixed.l0]
    rw [if_neg (by omega), key m hp]
    simp [dayTup, h0]
  | succ n ih =>
    intro i m hi hp
    have hlm := hp.length_eq
    by_cases hm : 0 < m.length
    · have hb1 := and_low (rd ord (i : Int))
      have ha0 := Int.tmod_nonneg (m.length : Int) hb1.1
      have ha1 := Int.tmod_lt_of_pos (Go.bits .and .i64 (rd ord (i : Int)) 65535) (show (0 : Int) < (m.length : Int) by omega)
      have hn0 := Int.tmod_nonneg (m.length : Int) (show (0 : Int) ≤ (i : Int) by omega)
      have hn1 := Int.tmod_lt_of_pos (i : Int) (show (0 : Int) < (m.length : Int) by omega)
      generalize hA : Int.tmod (Go.bits .and .i64 (rd ord (i : Int)) 65535) (m.length : Int) = A at *
      generalize hN : Int.tmod (i : Int) (m.length : Int) = N at *
      have hA' : A.toNat < m.length := by omega
      have hN' : N.toNat < m.length := by omega
      refine Ev.step (f := fun k => fareboxlaw19_CapsMixed.l0 k day ord (((m.set A.toNat m[N.toNat]).set N.toNat m[A.toNat]).map ofPr) ((i + 1 : Nat) : Int) ((t).st.map ofSt) ((t).sp.map ofSp) ((t).pk.map ofBd) (t).off (t).bus (t).busDaily (t).busWeekly (t).hopper (t).most (t).longest (t).change (t).passback (t).delay (t).threshold (dayC t day l).1.day (dayC t day l).1.rail (dayC t day l).1.bus (dayC t day l).1.capped (dayC t day l).1.most (dayC t day l).1.low (dayC t day l).1.high) (fun k => ?_) (ih (i + 1) _ (by omega) ((swap_perm m A.toNat N.toNat hA' hN').trans hp))
      simp only [fareboxlaw19_CapsMixed.l0, List.length_map, hA, hN, rd_pr m A ha0 ha1, rd_pr m N hn0 hn1, wrap_up (i := i) (by omega)]
      rw [if_pos (by omega), if_pos (by omega), if_pos (by omega), if_neg (by omega), if_pos ha0, if_pos ha1, if_pos hn0, if_pos hn1]
      congr 1
      all_goals rw [← map_set, ← map_set]
    · refine Ev.step (f := fun _ => some true) (fun k => ?_) (Ev.now _)
      simp only [fareboxlaw19_CapsMixed.l0, List.length_map]
      rw [if_pos (by omega), if_neg (by omega), key m hp]
      simp [dayTup, h0]
theorem mixed_ev (t : Tariff) (h : Tariff.fits t) (day : Int) (l : List Priced) (hl : l.length ≤ 140737488351232) (ord : List Int) (ho : ord.length < 9223372036854775807) : Ev (fun k => fareboxlaw19_CapsMixed.f k ((t).st.map ofSt) ((t).sp.map ofSp) ((t).pk.map ofBd) (t).off (t).bus (t).busDaily (t).busWeekly (t).hopper (t).most (t).longest (t).change (t).passback (t).delay (t).threshold day (l.map ofPr) ord) true := by
  simp only [fareboxlaw19_CapsMixed.f, fareboxlaw19_awake.f, Option.bind_some, cday19_f h day hl, if_true]
  by_cases h0 : (dayC t day l).2 = 0
  · have hl2 : l.length ≤ 2000 := by
      unfold dayC at h0
      by_cases hr : rightF t ≠ 0
      · rw [if_pos hr] at h0; exact absurd h0 hr
      rw [if_neg hr] at h0
      by_cases hh : 2000 < l.length
      · rw [if_pos hh] at h0; exact absurd h0 (by simp)
      · omega
    refine Ev.step (f := fun k => fareboxlaw19_CapsMixed.l0 k day ord (l.map ofPr) ((0 : Nat) : Int) ((t).st.map ofSt) ((t).sp.map ofSp) ((t).pk.map ofBd) (t).off (t).bus (t).busDaily (t).busWeekly (t).hopper (t).most (t).longest (t).change (t).passback (t).delay (t).threshold (dayC t day l).1.day (dayC t day l).1.rail (dayC t day l).1.bus (dayC t day l).1.capped (dayC t day l).1.most (dayC t day l).1.low (dayC t day l).1.high) (fun k => ?_) (mixed_l t h day l hl2 h0 ord ho ord.length 0 l (by omega) (List.Perm.refl _))
    simp only [fareboxlaw19_CapsMixed.j0, dayTup, h0, List.length_map, List.nil_append]
    rw [if_neg (by simp), if_pos (by simp; omega)]
    rfl
  · refine Ev.step (f := fun _ => some true) (fun k => ?_) (Ev.now _)
    simp only [fareboxlaw19_CapsMixed.j0, dayTup]
    have e : ((dayC t day l).2 != 0) = true := by simpa using h0
    rw [if_pos e, day_bad h0]
    rfl
end Go.Proofs.Ytmeogadkbbeglaa
end
section
namespace Go.Proofs.Ytmeogadkbbeglaa
open Go.RowKit Go.ChangeShapes Go.WideShapes Go.ChangeAt
set_option linter.unusedVariables false
def Journey.wf (s : Journey) : Prop := s.kind.in64 ∧ s.frm.in64 ∧ s.dst.in64 ∧ s.start.in64 ∧ s.stop.in64 ∧ True
theorem open_Journey {H : Type} {enc : TypeId × Value → H} {w : World} {base fuel : Nat} {spare : Nat → Bool} {held : Bool} {cs : List Value} {x : DataW H × List MemPlace} (h : DataW.trod enc Try.prog w base spare held fuel 50 cs = some x) : ∃ s : Journey, cs = s.vals ∧ s.wf := by
  obtain ⟨xs, n, rfl, hx, hl, hn, hf⟩ := DataW.trod_struct Try.underlying50 h
  have hc : Try.prog.cellsOf 50 = 6 := by kernel_rfl
  rw [hc] at hl
  have c_i : Try.prog.cellsOf 3 = 1 := by kernel_rfl
  have c_b : Try.prog.cellsOf 4 = 1 := by kernel_rfl
  obtain ⟨d0, d1, d2, d3, d4, d5, rfl⟩ := len_6 _ hl
  have g0 := hf 0 _ rfl
  rw [List.getElem?_eq_getElem (show 0 < xs.length by rw [hn]; decide)] at g0
  obtain ⟨n0, e0, -, b0⟩ := DataW.trod_int Try.underlying3 g0
  simp [c_i] at e0
  subst e0
  have g1 := hf 1 _ rfl
  rw [List.getElem?_eq_getElem (show 1 < xs.length by rw [hn]; decide)] at g1
  obtain ⟨n1, e1, -, b1⟩ := DataW.trod_int Try.underlying3 g1
  simp [c_i] at e1
  subst e1
  have g2 := hf 2 _ rfl
  rw [List.getElem?_eq_getElem (show 2 < xs.length by rw [hn]; decide)] at g2
  obtain ⟨n2, e2, -, b2⟩ := DataW.trod_int Try.underlying3 g2
  simp [c_i] at e2
  subst e2
  have g3 := hf 3 _ rfl
  rw [List.getElem?_eq_getElem (show 3 < xs.length by rw [hn]; decide)] at g3
  obtain ⟨n3, e3, -, b3⟩ := DataW.trod_int Try.underlying3 g3
  simp [c_i] at e3
  subst e3
  have g4 := hf 4 _ rfl
  rw [List.getElem?_eq_getElem (show 4 < xs.length by rw [hn]; decide)] at g4
  obtain ⟨n4, e4, -, b4⟩ := DataW.trod_int Try.underlying3 g4
  simp [c_i] at e4
  subst e4
  have g5 := hf 5 _ rfl
  rw [List.getElem?_eq_getElem (show 5 < xs.length by rw [hn]; decide)] at g5
  obtain ⟨n5, e5, -⟩ := DataW.trod_bool Try.underlying4 g5
  simp [c_b] at e5
  subst e5
  exact ⟨⟨n0, n1, n2, n3, n4, n5⟩, rfl, in64_of b0, in64_of b1, in64_of b2, in64_of b3, in64_of b4, trivial⟩
def DayC.wf (s : DayC) : Prop := s.day.in64 ∧ s.rail.in64 ∧ s.bus.in64 ∧ s.capped.in64 ∧ s.most.in64 ∧ s.low.in64 ∧ s.high.in64
def Tap.wf (s : Tap) : Prop := s.device.in64 ∧ s.counter.in64 ∧ s.token.size ≤ maxLen ∧ s.kind.in64 ∧ s.place.in64 ∧ s.time.in64
def Outage.wf (s : Outage) : Prop := s.station.in64 ∧ s.frm.in64 ∧ s.til.in64
def Priced.wf (p : Priced) : Prop := p.j.wf ∧ p.fare.in64
theorem open_Priced {H : Type} {enc : TypeId × Value → H} {w : World} {base fuel : Nat} {spare : Nat → Bool} {held : Bool} {cs : List Value} {x : DataW H × List MemPlace} (h : DataW.trod enc Try.prog w base spare held fuel 55 cs = some x) : ∃ s : Priced, cs = s.vals ∧ s.wf := by
  obtain ⟨xs, n, rfl, hx, hl, hn, hf⟩ := DataW.trod_struct Try.underlying55 h
  have hc : Try.prog.cellsOf 55 = 7 := by kernel_rfl
  rw [hc] at hl
  have c_i : Try.prog.cellsOf 3 = 1 := by kernel_rfl
  have c_j : Try.prog.cellsOf 50 = 6 := by kernel_rfl
  obtain ⟨d0, d1, d2, d3, d4, d5, d6, rfl⟩ := len_7 _ hl
  have g0 := hf 0 _ rfl
  rw [List.getElem?_eq_getElem (show 0 < xs.length by rw [hn]; decide)] at g0
  obtain ⟨j, e0, wj⟩ := open_Journey g0
  simp [c_j, Journey.vals] at e0
  obtain ⟨rfl, rfl, rfl, rfl, rfl, rfl⟩ := e0
  have g1 := hf 1 _ rfl
  rw [List.getElem?_eq_getElem (show 1 < xs.length by rw [hn]; decide)] at g1
  obtain ⟨n1, e1, -, b1⟩ := DataW.trod_int Try.underlying3 g1
  simp [c_i] at e1
  subst e1
  exact ⟨⟨j, n1⟩, rfl, wj, in64_of b1⟩
def intVals (n : Int) : List Value := [.int .i64 n]
theorem open_IntV {H : Type} {enc : TypeId × Value → H} {w : World} {base fuel : Nat} {spare : Nat → Bool} {held : Bool} {cs : List Value} {x : DataW H × List MemPlace} (h : DataW.trod enc Try.prog w base spare held fuel 3 cs = some x) : ∃ n : Int, cs = intVals n ∧ n.in64 := by
  obtain ⟨n, e, -, b⟩ := DataW.trod_int Try.underlying3 h
  exact ⟨n, e, in64_of b⟩
instance : Nonempty Priced := ⟨⟨⟨0, 0, 0, 0, 0, false⟩, 0⟩⟩
instance : Nonempty DayC := ⟨⟨0, 0, 0, 0, 0, 0, 0⟩⟩
instance : Nonempty Journey := ⟨⟨0, 0, 0, 0, 0, false⟩⟩
instance : Nonempty Tap := ⟨⟨0, 0, ⟨#[]⟩, 0, 0, 0⟩⟩
instance : Nonempty Outage := ⟨⟨0, 0, 0⟩⟩
end Go.Proofs.Ytmeogadkbbeglaa
end
section
namespace Go.Proofs.Ytmeogadkbbeglaa
open Go.RowKit Go.Proofs.YtmeogadkbbeglaaQ Go.Proofs.YtmeogadkbbeglaaW.PrintWords
set_option linter.unusedVariables false
theorem capsmixed_calls (t : Tariff) (m : TMem) (day : Int) (l : List Priced) (A : Option Addr) (c : Nat) (ord : List Int) (B : Option Addr) (d : Nat) (w : World) (h : t.At w m) (hc : m.Caps t) (hA : SliceAt w 7 Priced.vals A l) (hl : l.length ≤ c) (hB : SliceAt w 1 intVals B ord) (ho : ord.length ≤ d) :
    Calls Try.prog 14 #[.agg (t.cells m), .int .i64 day, .slice A l.length c, .slice B ord.length d] w fun e w' => e = .returned (.bool true) ∧ Below w.heap.size w w' := by
  obtain ⟨k, hk⟩ := (mixed_ev t (fits_at h) day l hA.len ord (by have := hB.len; omega)).rounds
  obtain ⟨r0, r1, r2⟩ := at_C h
  have r3 := C_of_sliceAt (n := (l.map ofPr).length) ofPr hA (fun x => k55_mk w (ofPr x)) rfl (fun _ => rfl) (by simp)
  have r4 : Kd.C (Kd.int .i64) w B ord.length ord := by
    have := C_of_sliceAt (n := ord.length) (d := Kd.int .i64) (id : Int → Int) hB (fun x => by first | rfl | exact ⟨rfl⟩ | (simp [Kd.int, Kd.scalar, intVals]; done)) rfl (fun _ => rfl) rfl
    simpa using this
  have := fareboxlaw19_CapsMixed.calls (k := k) (c0_0 := m.c1) (c0_1 := m.c2) (c0_2 := m.c3) (w := w) (hr0_0 := r0) (hc0_0 := by simpa using hc.k1) (hr0_1 := r1) (hc0_1 := by simpa using hc.k2) (hr0_2 := r2) (hc0_2 := by simpa using hc.k3) (c2 := c) (hr2 := r3) (hc2 := by simpa using hl) (c3 := d) (hr3 := r4) (hc3 := ho) (h := hk)
  simp only [List.length_map] at this
  exact this
end Go.Proofs.Ytmeogadkbbeglaa
end
