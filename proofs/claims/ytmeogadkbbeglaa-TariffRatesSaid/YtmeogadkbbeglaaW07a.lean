/- The walks of package tariff's small functions. -/
import Derived.Test.YtmeogadkbbeglaaBase
namespace Go.Proofs.Ytmeogadkbbeglaa
open Go.RowKit
set_option maxHeartbeats 400000

theorem within_calls (n lo hi : Int) (w : World) :
    Calls Try.prog 77 #[.int .i64 n, .int .i64 lo, .int .i64 hi] w fun e w' => e = .returned (.bool (inB lo n hi)) ∧ w = w' := by
  by_cases h : lo ≤ n <;> by_cases h2 : n ≤ hi
  all_goals
    go_enter Try.func77, Try.ntmps77
    go_wp2
    go_ret
    exact ⟨by simp [inB, h, h2], rfl⟩

theorem price_calls (n : Int) (w : World) :
    Calls Try.prog 75 #[.int .i64 n] w fun e w' => e = .returned (.bool (priceB n)) ∧ w = w' := by
  go_enter Try.func75, Try.ntmps75
  go_wp2_with (go_at_call 77; (with_reducible refine (within_calls _ _ _ _).mono ?_); rintro e w' ⟨rfl, rfl⟩)
  go_ret
  exact ⟨rfl, rfl⟩

theorem must_yes (b : Bool) (hb : b = true) (e : Int) (w : World) :
    Calls Try.prog 72 #[.bool b, .int .i64 e] w fun e w' => e = .returned (.tuple #[]) ∧ w = w' := by
  subst hb
  go_enter Try.func72, Try.ntmps72
  go_wp2
  go_end0
  exact ⟨rfl, rfl⟩

theorem must_no (b : Bool) (hb : b = false) (e : Int) (w : World) :
    Calls Try.prog 72 #[.bool b, .int .i64 e] w fun en w' => en = .panicked [{ v := .iface 107 (.agg #[.int .i64 e]), recovered := false }] ∧ w = w' := by
  subst hb
  go_enter Try.func72, Try.ntmps72
  go_wp2
  exact ⟨rfl, rfl, rfl⟩

theorem stations_calls (l : List Station) (A : Option Addr) (c : Nat) (w : World) (hA : SliceAt w 3 Station.vals A l) :
    Calls Try.prog 74 #[.slice A l.length c] w fun e w' => e = orBroken 70 ((stationsF l).map (.int .i64)) ∧ Below w.heap.size w w' := by
  have hm := hA.len
  have HB := Below.refl w.heap.size w
  by_cases h200 : l.length ≤ 200
  · have hb : decide ((l.length : Int) ≤ 200) = true := by simp; omega
    go_enter Try.func74, Try.ntmps74
    go_wp2_with (go_at_call 72; first | ((with_reducible refine (must_yes true rfl _ _).mono ?_); rintro e w' ⟨rfl, rfl⟩) | ((with_reducible refine (must_no false rfl _ _).mono ?_); rintro e w' ⟨rfl, rfl⟩))
    go_loopw [3, 4, 13] (fun m a i wr => ∃ (k : Nat) (most ahead : Int), k ≤ l.length ∧ m = .int .i64 most ∧ a = .int .i64 ahead ∧ i = .int .i64 k ∧ Hid (stGo (l.drop k) most ahead = stationsF l) ∧ Below w.heap.size w wr) (fun _ _ i _ => l.length - (intOf i).toNat)
    case atStart => exact ⟨0, 1, 0, by omega, rfl, rfl, rfl, by simp [Hid, stationsF, h200], HB⟩
    case round =>
      obtain ⟨k, most, ahead, hk, rfl, rfl, rfl, hst, hB⟩ := hrel
      by_cases hlt : k < l.length
      · obtain ⟨b, off, rfl, c0, c1, c2⟩ := elem3 hA hB k hlt
        rw [drop_cons hlt] at hst
        cases hz : inB 1 l[k].zone 9 <;> cases hg : inB 0 l[k].grp 65535
        all_goals
          go_wp2_with (first | (go_at_call 77; (with_reducible refine (within_calls _ _ _ _).mono ?_); rintro e w' ⟨rfl, rfl⟩) | (go_at_call 72; first | ((with_reducible refine (must_yes true rfl _ _).mono ?_); rintro e w' ⟨rfl, rfl⟩) | ((with_reducible refine (must_no false rfl _ _).mono ?_); rintro e w' ⟨rfl, rfl⟩)))
          all_goals first
          | (refine ⟨rfl, ?_, hB.alloc hB.size _⟩
             have h := hst.out
             unfold stGo stOk at h
             rw [if_neg (by simp [hz, hg]; try omega)] at h
             rw [← h]; rfl)
          | (go_quiet (fail)
             go_wp2_with fail
             go_roundw
             case rel =>
               refine ⟨k + 1, _, _, by omega, rfl, rfl, by go_num, ?_, below_drewN (hB.alloc hB.size _) _⟩
               have h := hst.out
               unfold stGo stOk at h
               rw [if_pos (by simp [hz, hg]; omega)] at h
               exact h
             case measure => simp [intOf]; omega)
          | fail
      · go_wp2_with fail
        go_ret
        obtain rfl : k = l.length := by omega
        refine ⟨?_, hB⟩
        have := hst.out
        simp [stGo] at this
        rw [← this]; rfl
  · have hb : decide ((l.length : Int) ≤ 200) = false := by simp; omega
    go_enter Try.func74, Try.ntmps74
    go_wp2_with (go_at_call 72; first | ((with_reducible refine (must_yes true rfl _ _).mono ?_); rintro e w' ⟨rfl, rfl⟩) | ((with_reducible refine (must_no false rfl _ _).mono ?_); rintro e w' ⟨rfl, rfl⟩))
    exact ⟨rfl, by simp [stationsF, h200, orBroken, brokenE], HB⟩

theorem spans_calls (l : List Span) (most : Int) (A : Option Addr) (c : Nat) (w : World) (hA : SliceAt w 5 Span.vals A l) (h1 : 1 ≤ most) (h9 : most ≤ 9) :
    Calls Try.prog 73 #[.slice A l.length c, .int .i64 most] w fun e w' => e = .returned (.bool (spansF l most)) ∧ Below w.heap.size w w' := by
  have hm := hA.len
  have HB := Below.refl w.heap.size w
  have hmm : 0 ≤ most * (most + 1) := Int.mul_nonneg (by omega) (by omega)
  have hmm2 : most * (most + 1) ≤ 90 := by
    have : most * (most + 1) ≤ 9 * (9 + 1) := Int.mul_le_mul h9 (by omega) (by omega) (by omega)
    omega
  by_cases hlen : (l.length : Int) = most * (most + 1) / 2
  · have hb : ((l.length : Int) != most * (most + 1) / 2) = false := by simp [hlen]
    have HL := Lib.hid hlen
    clear hlen
    go_enter Try.func73, Try.ntmps73
    go_wp2_with fail
    go_loopw [19] (fun i wr => ∃ (k : Nat) (f t : Int), k ≤ l.length ∧ 1 ≤ f ∧ f ≤ k + 1 ∧ 1 ≤ t ∧ t ≤ k + 2 ∧ i = .int .i64 k ∧ Hid (spGo (l.drop k) f t most = spansF l most) ∧ Box wr w.heap.size #[.int .i64 f, .int .i64 t, .int .i64 0, .int .i64 0, .int .i64 0] 39 ∧ Below w.heap.size w wr) (fun i _ => l.length - (intOf i).toNat)
    case atStart => exact ⟨0, 1, 1, by omega, by omega, by omega, by omega, by omega, rfl, by simp [Hid, spansF, HL.out], Box.new _ _ _, HB.alloc (Nat.le_refl _) _⟩
    case round =>
      obtain ⟨k, f, t, hk, hf1, hf9, ht1, ht9, rfl, hst, hX, hB⟩ := hrel
      have x0 := hX.cell 0
      have x1 := hX.cell 1
      have x2 := hX.cell 2
      have x3 := hX.cell 3
      have x4 := hX.cell 4
      have y0 := hX.free 0
      have y1 := hX.free 1
      have y2 := hX.free 2
      have y3 := hX.free 3
      have y4 := hX.free 4
      simp at x0 x1 x2 x3 x4
      have hX0 := hX.lt
      by_cases hlt : k < l.length
      · obtain ⟨b, off, rfl, c0, c1, c2, c3, c4⟩ := elem5 hA hB k hlt
        rw [drop_cons hlt] at hst
        go_wp2_with fail
        · go_roundw
          case rel =>
            refine ⟨k + 1, f + 1, f + 1, by omega, by omega, by omega, by omega, by omega, by go_num, ?_, (((((((hX.set 1 _).set 0 _).set 1 _).set 2 _).set 3 _).set 4 _).alloc _).cast (by simp), by (repeat (first | (with_reducible exact hB) | (with_reducible refine bAlloc ?_ _) | (with_reducible refine bDrewN ?_ _) | (with_reducible refine bDrew ?_) | (with_reducible refine bSet ?_ (by first | exact Nat.le_refl _ | (simp; omega) | omega) _) | (with_reducible refine bThen ?_ (by with_reducible assumption))))⟩
            have h := hst.out
            unfold spGo at h
            rw [if_pos ⟨by assumption, by assumption⟩, if_pos (by assumption)] at h
            exact h
          case measure => simp [intOf]; omega
        · go_roundw
          case rel =>
            refine ⟨k + 1, f, t + 1, by omega, by omega, by omega, by omega, by omega, by go_num, ?_, ((hX.set 1 _).alloc _).cast (by simp), by (repeat (first | (with_reducible exact hB) | (with_reducible refine bAlloc ?_ _) | (with_reducible refine bDrewN ?_ _) | (with_reducible refine bDrew ?_) | (with_reducible refine bSet ?_ (by first | exact Nat.le_refl _ | (simp; omega) | omega) _) | (with_reducible refine bThen ?_ (by with_reducible assumption))))⟩
            have h := hst.out
            unfold spGo at h
            rw [if_pos ⟨by assumption, by assumption⟩, if_neg (by omega)] at h
            exact h
          case measure => simp [intOf]; omega
        all_goals
          go_ret
          refine ⟨?_, by (repeat (first | (with_reducible exact hB) | (with_reducible refine bAlloc ?_ _) | (with_reducible refine bDrewN ?_ _) | (with_reducible refine bDrew ?_) | (with_reducible refine bSet ?_ (by first | exact Nat.le_refl _ | (simp; omega) | omega) _) | (with_reducible refine bThen ?_ (by with_reducible assumption))))⟩
          have h := hst.out
          unfold spGo at h
          rw [if_neg (by intro hh; simp_all)] at h
          rw [← h]; rfl
      · go_wp2_with fail
        go_ret
        obtain rfl : k = l.length := by omega
        refine ⟨?_, hB⟩
        have := hst.out
        simp [spGo] at this
        rw [← this]; rfl
  · have hb : ((l.length : Int) != most * (most + 1) / 2) = true := by simp [hlen]
    go_enter Try.func73, Try.ntmps73
    go_wp2_with fail
    go_ret
    exact ⟨by simp [spansF, hlen], HB⟩
end Go.Proofs.Ytmeogadkbbeglaa
