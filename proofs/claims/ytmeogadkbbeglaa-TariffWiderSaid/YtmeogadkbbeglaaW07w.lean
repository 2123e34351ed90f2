/- The walk of the law TariffWider. -/
import Derived.Test.YtmeogadkbbeglaaW07q
import Derived.Test.YtmeogadkbbeglaaP07
namespace Go.Proofs.Ytmeogadkbbeglaa
open Go.RowKit
set_option maxHeartbeats 1600000
set_option maxRecDepth 100000

theorem wider_bad (t : Tariff) (m : TMem) (a b c d : Int) (w : World) (hT : t.At w m) (hr : rightF t ≠ 0) :
    Calls Try.prog 5 #[.agg (t.cells m), .int .i64 a, .int .i64 b, .int .i64 c, .int .i64 d] w fun e w' => e = .returned (.bool true) ∧ Below w.heap.size w w' := by
  have HB := Below.refl w.heap.size w
  have HX := Box.new w (t.cells m) 27
  have hB := bAlloc (Below.refl w.heap.size w) (.cells (t.cells m) 27)
  replace hT := hT.keep hB
  go_enter Try.func5, Try.ntmps5
  go_wp2_with fail
  refine (awake07_calls _).mono ?_
  rintro _ wq ⟨rfl, hb⟩; replace HX := HX.below' hb; replace hB := bThen hB hb; replace hT := hT.keep hb; clear hb; (try clear t0 t1 t2 t3 t4 t5 t6 t7 t8 t9 t10 t11 t12 t13 lt0); obtain ⟨t0, t1, t2, t3, t4, t5, t6, t7, t8, t9, t10, t11, t12, t13⟩ := tcells HX; have lt0 := HX.lt
  go_wp2_with fail
  refine (right_calls t m _ hT).mono ?_
  rintro _ wq ⟨rfl, hb⟩; replace HX := HX.below' hb; replace hB := bThen hB hb; replace hT := hT.keep hb; clear hb; (try clear t0 t1 t2 t3 t4 t5 t6 t7 t8 t9 t10 t11 t12 t13 lt0); obtain ⟨t0, t1, t2, t3, t4, t5, t6, t7, t8, t9, t10, t11, t12, t13⟩ := tcells HX; have lt0 := HX.lt
  have hne : (rightF t != 0) = true := by simpa using hr
  go_wp2_with fail
  go_ret
  exact ⟨rfl, by (repeat (first | (with_reducible exact hB) | (with_reducible refine bAlloc ?_ _) | (with_reducible refine bDrewN ?_ _) | (with_reducible refine bDrew ?_) | (with_reducible refine bSet ?_ (by first | exact Nat.le_refl _ | (simp; omega) | omega) _) | (with_reducible refine bThen ?_ (by with_reducible assumption))))⟩

theorem wider_none (t : Tariff) (m : TMem) (a b c d : Int) (w : World) (hT : t.At w m) (hr : rightF t = 0) (hf : spFind t.sp a b = none) :
    Calls Try.prog 5 #[.agg (t.cells m), .int .i64 a, .int .i64 b, .int .i64 c, .int .i64 d] w fun e w' => e = .returned (.bool true) ∧ Below w.heap.size w w' := by
  have HR := Lib.hid hr
  have HF := Lib.hid hf
  clear hr hf
  have HX := Box.new w (t.cells m) 27
  have hB := bAlloc (Below.refl w.heap.size w) (.cells (t.cells m) 27)
  replace hT := hT.keep hB
  go_enter Try.func5, Try.ntmps5
  go_wp2_with fail
  refine (awake07_calls _).mono ?_
  rintro _ wq ⟨rfl, hb⟩; replace HX := HX.below' hb; replace hB := bThen hB hb; replace hT := hT.keep hb; clear hb; (try clear t0 t1 t2 t3 t4 t5 t6 t7 t8 t9 t10 t11 t12 t13 lt0); obtain ⟨t0, t1, t2, t3, t4, t5, t6, t7, t8, t9, t10, t11, t12, t13⟩ := tcells HX; have lt0 := HX.lt
  go_wp2_with fail
  refine (right_calls t m _ hT).mono ?_
  rw [HR.out]
  rintro _ wq ⟨rfl, hb⟩; replace HX := HX.below' hb; replace hB := bThen hB hb; replace hT := hT.keep hb; clear hb; (try clear t0 t1 t2 t3 t4 t5 t6 t7 t8 t9 t10 t11 t12 t13 lt0); obtain ⟨t0, t1, t2, t3, t4, t5, t6, t7, t8, t9, t10, t11, t12, t13⟩ := tcells HX; have lt0 := HX.lt
  go_wp2_with fail
  refine (single_calls t m a b true _ hT).mono ?_
  rw [single_none HF.out]
  rintro _ wq ⟨rfl, hb⟩; replace HX := HX.below' hb; replace hB := bThen hB hb; replace hT := hT.keep hb; clear hb; (try clear t0 t1 t2 t3 t4 t5 t6 t7 t8 t9 t10 t11 t12 t13 lt0); obtain ⟨t0, t1, t2, t3, t4, t5, t6, t7, t8, t9, t10, t11, t12, t13⟩ := tcells HX; have lt0 := HX.lt
  go_wp2_with fail
  refine (single_calls t m b a true _ hT).mono ?_
  rw [single_comm, single_none HF.out]
  rintro _ wq ⟨rfl, hb⟩; replace HX := HX.below' hb; replace hB := bThen hB hb; replace hT := hT.keep hb; clear hb; (try clear t0 t1 t2 t3 t4 t5 t6 t7 t8 t9 t10 t11 t12 t13 lt0); obtain ⟨t0, t1, t2, t3, t4, t5, t6, t7, t8, t9, t10, t11, t12, t13⟩ := tcells HX; have lt0 := HX.lt
  go_wp2_with fail
  refine (single_calls t m a b false _ hT).mono ?_
  rw [single_none HF.out]
  rintro _ wq ⟨rfl, hb⟩; replace HX := HX.below' hb; replace hB := bThen hB hb; replace hT := hT.keep hb; clear hb; (try clear t0 t1 t2 t3 t4 t5 t6 t7 t8 t9 t10 t11 t12 t13 lt0); obtain ⟨t0, t1, t2, t3, t4, t5, t6, t7, t8, t9, t10, t11, t12, t13⟩ := tcells HX; have lt0 := HX.lt
  go_wp2_with fail
  refine (single_calls t m c d true _ hT).mono ?_
  generalize singleF t c d true = s4
  obtain ⟨w4, i4⟩ := s4
  rintro _ wq ⟨rfl, hb⟩; replace HX := HX.below' hb; replace hB := bThen hB hb; replace hT := hT.keep hb; clear hb; (try clear t0 t1 t2 t3 t4 t5 t6 t7 t8 t9 t10 t11 t12 t13 lt0); obtain ⟨t0, t1, t2, t3, t4, t5, t6, t7, t8, t9, t10, t11, t12, t13⟩ := tcells HX; have lt0 := HX.lt
  go_wp2_with fail
  refine (single_calls t m c d false _ hT).mono ?_
  generalize singleF t c d false = s5
  obtain ⟨v5, k5⟩ := s5
  rintro _ wq ⟨rfl, hb⟩; replace HX := HX.below' hb; replace hB := bThen hB hb; replace hT := hT.keep hb; clear hb; (try clear t0 t1 t2 t3 t4 t5 t6 t7 t8 t9 t10 t11 t12 t13 lt0); obtain ⟨t0, t1, t2, t3, t4, t5, t6, t7, t8, t9, t10, t11, t12, t13⟩ := tcells HX; have lt0 := HX.lt
  go_wp2_with fail
  go_ret
  exact ⟨rfl, by (repeat (first | (with_reducible exact hB) | (with_reducible refine bAlloc ?_ _) | (with_reducible refine bDrewN ?_ _) | (with_reducible refine bDrew ?_) | (with_reducible refine bSet ?_ (by first | exact Nat.le_refl _ | (simp; omega) | omega) _) | (with_reducible refine bThen ?_ (by with_reducible assumption))))⟩

end Go.Proofs.Ytmeogadkbbeglaa
