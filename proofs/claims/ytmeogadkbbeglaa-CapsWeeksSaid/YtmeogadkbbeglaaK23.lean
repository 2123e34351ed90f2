/- The reference's functions on tariffs and days, as contracts. -/
import Derived.Test.YtmeogadkbbeglaaH3
import Derived.Test.YtmeogadkbbeglaaH2
import Derived.Test.YtmeogadkbbeglaaK21
import Derived.Test.YtmeogadkbbeglaaK4
import Derived.Test.YtmeogadkbbeglaaK6
import Derived.Test.YtmeogadkbbeglaaK3
import Derived.Test.YtmeogadkbbeglaaK5
import Derived.Test.YtmeogadkbbeglaaK16
import Derived.Test.YtmeogadkbbeglaaK22
namespace Go.Proofs.Ytmeogadkbbeglaa
open Go.RowKit Go.Proofs.YtmeogadkbbeglaaQ
set_option maxHeartbeats 800000
theorem ref_right (t : Tariff) (m : TMem) (w : World) (h : t.At w m) (hc : m.Caps t) :
    Calls Try.prog 30 #[.agg (t.cells m)] w fun e w' => e = .returned (.int .i64 (rightF t)) ∧ Below w.heap.size w w' := by
  obtain ⟨k, hk⟩ := (ref_right_ev t (fits_at h)).rounds
  obtain ⟨r0, r1, r2⟩ := at_C h
  have := fareboxref07_Right.calls k _ m.c1 _ _ m.c2 _ _ m.c3 _ _ _ _ _ _ _ _ _ _ _ _ _ w r0 (by simpa using hc.k1) r1 (by simpa using hc.k2) r2 (by simpa using hc.k3) hk
  simp only [List.length_map] at this
  exact this
theorem ref_sp (t : Tariff) (m : TMem) (a b : Int) (w : World) (h : t.At w m) (hc : m.Caps t) :
    Calls Try.prog 35 #[.agg (t.cells m), .int .i64 a, .int .i64 b] w fun e w' => e = .returned (spRes (spFind t.sp a b)) ∧ Below w.heap.size w w' := by
  obtain ⟨k, hk⟩ := (refsp_ev t (fits_at h) a b).rounds
  obtain ⟨r0, r1, r2⟩ := at_C h
  cases hs : spFind t.sp a b <;> rw [hs] at hk <;>
  · have := fareboxref07_Span.calls k _ m.c1 _ _ m.c2 _ _ m.c3 _ _ _ _ _ _ _ _ _ _ _ _ _ _ _ _ _ _ _ _ w r0 (by simpa using hc.k1) r1 (by simpa using hc.k2) r2 (by simpa using hc.k3) hk
    simp only [List.length_map] at this
    exact this.mono fun e w' hh => ⟨hh.1, by first | exact hh.2.below | exact hh.2⟩
theorem rweek_f (d : Int) : fareboxref06_Week.f d = some (weekF d) := by
  simp only [fareboxref06_Week.f, rwithin_f, Option.bind_some, weekF]
  cases h : dayB d
  · rfl
  · have h2 : -1099511627776 ≤ d ∧ d ≤ 1099511627776 := of_decide_eq_true h
    simp only [if_true]
    rw [rdown_f _ _ (by omega) (by omega)]
    rfl
theorem rweek_calls (d : Int) (W : World) : Calls Try.prog 103 #[.int .i64 d] W fun e w' => e = .returned (.int .i64 (weekF d)) ∧ Below W.heap.size W w' :=
  (fareboxref06_Week.calls d (weekF d) W (rweek_f d)).mono fun _ _ h => ⟨h.1, h.2.below⟩
end Go.Proofs.Ytmeogadkbbeglaa
