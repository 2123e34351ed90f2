/- The walk of tariff.Single. -/
import Derived.Test.YtmeogadkbbeglaaW07b
import Derived.Test.YtmeogadkbbeglaaW05s
namespace Go.Proofs.Ytmeogadkbbeglaa
open Go.RowKit
set_option maxHeartbeats 800000

theorem span_none (t : Tariff) (m : TMem) (x y : Int) (w : World) (h : t.At w m) (hf : spFind t.sp x y = none) :
    Calls Try.prog 32 #[.agg (t.cells m), .int .i64 x, .int .i64 y] w fun e w' => e = .returned (.tuple #[.agg #[.int .i64 0, .int .i64 0, .int .i64 0, .int .i64 0, .int .i64 0], .bool false]) ∧ Below w.heap.size w w' := by
  have := span_calls t m x y w h
  rw [hf] at this
  exact this
theorem span_some (t : Tariff) (m : TMem) (x y : Int) (s : Span) (w : World) (h : t.At w m) (hf : spFind t.sp x y = some s) :
    Calls Try.prog 32 #[.agg (t.cells m), .int .i64 x, .int .i64 y] w fun e w' => e = .returned (.tuple #[.agg #[.int .i64 s.frm, .int .i64 s.to, .int .i64 s.single, .int .i64 s.daily, .int .i64 s.weekly], .bool true]) ∧ Below w.heap.size w w' := by
  have := span_calls t m x y w h
  rw [hf] at this
  exact this

theorem single_calls (t : Tariff) (m : TMem) (x y : Int) (peak : Bool) (w : World) (h : t.At w m) :
    Calls Try.prog 33 #[.agg (t.cells m), .int .i64 x, .int .i64 y, .bool peak] w fun e w' => e = .returned (.tuple #[.int .i64 (singleF t x y peak).1, .int .i64 (singleF t x y peak).2]) ∧ Below w.heap.size w w' := by
  have HB := Below.refl w.heap.size w
  have HT := Box.new w (t.cells m) 27
  have hoff := h.off
  cases hf : spFind t.sp x y with
  | none =>
    have e : singleF t x y peak = (0, 1) := by simp [singleF, hf]
    rw [e]
    go_enter Try.func33, Try.ntmps33
    go_wp2_with fail
    go_at_call 32
    refine (span_none _ _ _ _ _ (h.keep (by (repeat (first | (with_reducible exact HB) | (with_reducible refine bAlloc ?_ _) | (with_reducible refine bDrewN ?_ _) | (with_reducible refine bDrew ?_) | (with_reducible refine bSet ?_ (by first | exact Nat.le_refl _ | (simp; omega) | omega) _) | (with_reducible refine bThen ?_ (by with_reducible assumption)))))) hf).mono ?_
    rintro e w2 ⟨rfl, hb⟩
    have HB2 : Below w.heap.size w w2 := bThen (by (repeat (first | (with_reducible exact HB) | (with_reducible refine bAlloc ?_ _) | (with_reducible refine bDrewN ?_ _) | (with_reducible refine bDrew ?_) | (with_reducible refine bSet ?_ (by first | exact Nat.le_refl _ | (simp; omega) | omega) _) | (with_reducible refine bThen ?_ (by with_reducible assumption))))) hb
    obtain ⟨t0, t1, t2, t3, t4, t5, t6, t7, t8, t9, t10, t11, t12, t13⟩ := tcells (HT.below' hb)
    have lt0 := (HT.below' hb).lt
    go_wp2_with fail
    go_ret2
    exact ⟨rfl, by (repeat (first | (with_reducible exact HB2) | (with_reducible refine bAlloc ?_ _) | (with_reducible refine bDrewN ?_ _) | (with_reducible refine bDrew ?_) | (with_reducible refine bSet ?_ (by first | exact Nat.le_refl _ | (simp; omega) | omega) _) | (with_reducible refine bThen ?_ (by with_reducible assumption))))⟩
  | some s =>
    cases hp : priceB s.single
    · have e : singleF t x y peak = (0, 50) := by simp [singleF, hf, hp]
      rw [e]
      go_enter Try.func33, Try.ntmps33
      go_wp2_with fail
      go_at_call 32
      refine (span_some _ _ _ _ _ _ (h.keep (by (repeat (first | (with_reducible exact HB) | (with_reducible refine bAlloc ?_ _) | (with_reducible refine bDrewN ?_ _) | (with_reducible refine bDrew ?_) | (with_reducible refine bSet ?_ (by first | exact Nat.le_refl _ | (simp; omega) | omega) _) | (with_reducible refine bThen ?_ (by with_reducible assumption)))))) hf).mono ?_
      rintro e w2 ⟨rfl, hb⟩
      have HB2 : Below w.heap.size w w2 := bThen (by (repeat (first | (with_reducible exact HB) | (with_reducible refine bAlloc ?_ _) | (with_reducible refine bDrewN ?_ _) | (with_reducible refine bDrew ?_) | (with_reducible refine bSet ?_ (by first | exact Nat.le_refl _ | (simp; omega) | omega) _) | (with_reducible refine bThen ?_ (by with_reducible assumption))))) hb
      obtain ⟨t0, t1, t2, t3, t4, t5, t6, t7, t8, t9, t10, t11, t12, t13⟩ := tcells (HT.below' hb)
      have lt0 := (HT.below' hb).lt
      go_wp2_with (go_at_call 75; (with_reducible refine (price_calls _ _).mono ?_); rintro e w' ⟨rfl, rfl⟩)
      go_ret2
      exact ⟨rfl, by (repeat (first | (with_reducible exact HB2) | (with_reducible refine bAlloc ?_ _) | (with_reducible refine bDrewN ?_ _) | (with_reducible refine bDrew ?_) | (with_reducible refine bSet ?_ (by first | exact Nat.le_refl _ | (simp; omega) | omega) _) | (with_reducible refine bThen ?_ (by with_reducible assumption))))⟩
    · cases peak
      · have e : singleF t x y false = scaleF s.single t.off := by simp [singleF, hf, hp]
        rw [e]
        go_enter Try.func33, Try.ntmps33
        go_wp2_with fail
        go_at_call 32
        refine (span_some _ _ _ _ _ _ (h.keep (by (repeat (first | (with_reducible exact HB) | (with_reducible refine bAlloc ?_ _) | (with_reducible refine bDrewN ?_ _) | (with_reducible refine bDrew ?_) | (with_reducible refine bSet ?_ (by first | exact Nat.le_refl _ | (simp; omega) | omega) _) | (with_reducible refine bThen ?_ (by with_reducible assumption)))))) hf).mono ?_
        rintro e w2 ⟨rfl, hb⟩
        have HB2 : Below w.heap.size w w2 := bThen (by (repeat (first | (with_reducible exact HB) | (with_reducible refine bAlloc ?_ _) | (with_reducible refine bDrewN ?_ _) | (with_reducible refine bDrew ?_) | (with_reducible refine bSet ?_ (by first | exact Nat.le_refl _ | (simp; omega) | omega) _) | (with_reducible refine bThen ?_ (by with_reducible assumption))))) hb
        obtain ⟨t0, t1, t2, t3, t4, t5, t6, t7, t8, t9, t10, t11, t12, t13⟩ := tcells (HT.below' hb)
        have lt0 := (HT.below' hb).lt
        go_wp2_with (first | (go_at_call 75; (with_reducible refine (price_calls _ _).mono ?_); rintro e w' ⟨rfl, rfl⟩) | (go_at_call 89; (with_reducible refine (scale_calls _ _ hoff _).mono ?_); rintro e w4 ⟨rfl, hb4⟩))
        go_ret2
        exact ⟨rfl, bThen (by (repeat (first | (with_reducible exact HB2) | (with_reducible refine bAlloc ?_ _) | (with_reducible refine bDrewN ?_ _) | (with_reducible refine bDrew ?_) | (with_reducible refine bSet ?_ (by first | exact Nat.le_refl _ | (simp; omega) | omega) _) | (with_reducible refine bThen ?_ (by with_reducible assumption))))) hb4⟩
      · have e : singleF t x y true = (s.single, 0) := by simp [singleF, hf, hp]
        rw [e]
        go_enter Try.func33, Try.ntmps33
        go_wp2_with fail
        go_at_call 32
        refine (span_some _ _ _ _ _ _ (h.keep (by (repeat (first | (with_reducible exact HB) | (with_reducible refine bAlloc ?_ _) | (with_reducible refine bDrewN ?_ _) | (with_reducible refine bDrew ?_) | (with_reducible refine bSet ?_ (by first | exact Nat.le_refl _ | (simp; omega) | omega) _) | (with_reducible refine bThen ?_ (by with_reducible assumption)))))) hf).mono ?_
        rintro e w2 ⟨rfl, hb⟩
        have HB2 : Below w.heap.size w w2 := bThen (by (repeat (first | (with_reducible exact HB) | (with_reducible refine bAlloc ?_ _) | (with_reducible refine bDrewN ?_ _) | (with_reducible refine bDrew ?_) | (with_reducible refine bSet ?_ (by first | exact Nat.le_refl _ | (simp; omega) | omega) _) | (with_reducible refine bThen ?_ (by with_reducible assumption))))) hb
        obtain ⟨t0, t1, t2, t3, t4, t5, t6, t7, t8, t9, t10, t11, t12, t13⟩ := tcells (HT.below' hb)
        have lt0 := (HT.below' hb).lt
        go_wp2_with (go_at_call 75; (with_reducible refine (price_calls _ _).mono ?_); rintro e w' ⟨rfl, rfl⟩)
        go_ret2
        exact ⟨rfl, by (repeat (first | (with_reducible exact HB2) | (with_reducible refine bAlloc ?_ _) | (with_reducible refine bDrewN ?_ _) | (with_reducible refine bDrew ?_) | (with_reducible refine bSet ?_ (by first | exact Nat.le_refl _ | (simp; omega) | omega) _) | (with_reducible refine bThen ?_ (by with_reducible assumption))))⟩

end Go.Proofs.Ytmeogadkbbeglaa
