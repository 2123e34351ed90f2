/- The walk of the law TariffWider where both ways have a span. -/
import Derived.Test.YtmeogadkbbeglaaW07w
namespace Go.Proofs.Ytmeogadkbbeglaa
open Go.RowKit
set_option maxHeartbeats 1600000
set_option maxRecDepth 100000

theorem wider_one (t : Tariff) (m : TMem) (a b c d : Int) (w : World) (hT : t.At w m) (hr : rightF t = 0) (s : Span) (hf : spFind t.sp a b = some s) (hg : spFind t.sp c d = none) :
    Calls Try.prog 5 #[.agg (t.cells m), .int .i64 a, .int .i64 b, .int .i64 c, .int .i64 d] w fun e w' => e = .returned (.bool true) ∧ Below w.heap.size w w' := by
  have hz0 := off_le hr hf
  have HR := Lib.hid hr
  have HA := Lib.hid (single_peak hr hf)
  have HZ := Lib.hid (single_off hr hf)
  have HW := Lib.hid (single_none (p := true) hg)
  have HV := Lib.hid (single_none (p := false) hg)
  generalize scaleV s.single.toNat t.off = z at *
  generalize s.single = x at *
  clear hr hf hg
  have HX := Box.new w (t.cells m) 27
  have hB := bAlloc (Below.refl w.heap.size w) (.cells (t.cells m) 27)
  replace hT := hT.keep hB
  go_enter Try.func5, Try.ntmps5
  go_wp2_with fail
  refine (awake07_calls _).mono ?_
  rintro _ wq ⟨rfl, hb⟩; replace HX := HX.below' hb; replace hB := bThen hB hb; replace hT := hT.keep hb; clear hb; (try clear t0 t1 t2 t3 t4 t5 t6 t7 t8 t9 t10 t11 t12 t13 lt0); obtain ⟨t0, t1, t2, t3, t4, t5, t6, t7, t8, t9, t10, t11, t12, t13⟩ := tcells HX; have lt0 := HX.lt
  go_wp2_with fail
  refine (right_calls t m _ hT).mono ?_
  rw [HR.out]
  rintro _ wq ⟨rfl, hb⟩; replace HX := HX.below' hb; replace hB := bThen hB hb; replace hT := hT.keep hb; clear hb; (try clear t0 t1 t2 t3 t4 t5 t6 t7 t8 t9 t10 t11 t12 t13 lt0); obtain ⟨t0, t1, t2, t3, t4, t5, t6, t7, t8, t9, t10, t11, t12, t13⟩ := tcells HX; have lt0 := HX.lt
  go_wp2_with fail
  refine (single_calls t m a b true _ hT).mono ?_
  rw [HA.out]
  rintro _ wq ⟨rfl, hb⟩; replace HX := HX.below' hb; replace hB := bThen hB hb; replace hT := hT.keep hb; clear hb; (try clear t0 t1 t2 t3 t4 t5 t6 t7 t8 t9 t10 t11 t12 t13 lt0); obtain ⟨t0, t1, t2, t3, t4, t5, t6, t7, t8, t9, t10, t11, t12, t13⟩ := tcells HX; have lt0 := HX.lt
  go_wp2_with fail
  refine (single_calls t m b a true _ hT).mono ?_
  rw [single_comm, HA.out]
  rintro _ wq ⟨rfl, hb⟩; replace HX := HX.below' hb; replace hB := bThen hB hb; replace hT := hT.keep hb; clear hb; (try clear t0 t1 t2 t3 t4 t5 t6 t7 t8 t9 t10 t11 t12 t13 lt0); obtain ⟨t0, t1, t2, t3, t4, t5, t6, t7, t8, t9, t10, t11, t12, t13⟩ := tcells HX; have lt0 := HX.lt
  go_wp2_with fail
  refine (single_calls t m a b false _ hT).mono ?_
  rw [HZ.out]
  rintro _ wq ⟨rfl, hb⟩; replace HX := HX.below' hb; replace hB := bThen hB hb; replace hT := hT.keep hb; clear hb; (try clear t0 t1 t2 t3 t4 t5 t6 t7 t8 t9 t10 t11 t12 t13 lt0); obtain ⟨t0, t1, t2, t3, t4, t5, t6, t7, t8, t9, t10, t11, t12, t13⟩ := tcells HX; have lt0 := HX.lt
  go_wp2_with fail
  refine (single_calls t m c d true _ hT).mono ?_
  rw [HW.out]
  rintro _ wq ⟨rfl, hb⟩; replace HX := HX.below' hb; replace hB := bThen hB hb; replace hT := hT.keep hb; clear hb; (try clear t0 t1 t2 t3 t4 t5 t6 t7 t8 t9 t10 t11 t12 t13 lt0); obtain ⟨t0, t1, t2, t3, t4, t5, t6, t7, t8, t9, t10, t11, t12, t13⟩ := tcells HX; have lt0 := HX.lt
  go_wp2_with fail
  refine (single_calls t m c d false _ hT).mono ?_
  rw [HV.out]
  rintro _ wq ⟨rfl, hb⟩; replace HX := HX.below' hb; replace hB := bThen hB hb; replace hT := hT.keep hb; clear hb; (try clear t0 t1 t2 t3 t4 t5 t6 t7 t8 t9 t10 t11 t12 t13 lt0); obtain ⟨t0, t1, t2, t3, t4, t5, t6, t7, t8, t9, t10, t11, t12, t13⟩ := tcells HX; have lt0 := HX.lt
  go_wp2_with fail
  go_ret
  exact ⟨rfl, by (repeat (first | (with_reducible exact hB) | (with_reducible refine bAlloc ?_ _) | (with_reducible refine bDrewN ?_ _) | (with_reducible refine bDrew ?_) | (with_reducible refine bSet ?_ (by first | exact Nat.le_refl _ | (simp; omega) | omega) _) | (with_reducible refine bThen ?_ (by with_reducible assumption))))⟩

theorem wider_two (t : Tariff) (m : TMem) (a b c d : Int) (w : World) (hT : t.At w m) (hr : rightF t = 0) (s r : Span) (hf : spFind t.sp a b = some s) (hg : spFind t.sp c d = some r) :
    Calls Try.prog 5 #[.agg (t.cells m), .int .i64 a, .int .i64 b, .int .i64 c, .int .i64 d] w fun e w' => e = .returned (.bool true) ∧ Below w.heap.size w w' := by
  have hz0 := off_le hr hf
  have hin : mn c d ≤ mn a b → mx a b ≤ mx c d → s.single ≤ r.single ∧ scaleV s.single.toNat t.off ≤ scaleV r.single.toNat t.off := by
    intro h1 h2
    obtain ⟨m1, f1, t1⟩ := find_mem hf
    obtain ⟨m2, f2, t2⟩ := find_mem hg
    have := (ok_wide hr m1 m2 (by omega) (by omega)).1
    exact ⟨this, scaleV_mono (by omega)⟩
  have HR := Lib.hid hr
  have HA := Lib.hid (single_peak hr hf)
  have HZ := Lib.hid (single_off hr hf)
  have HW := Lib.hid (single_peak hr hg)
  have HV := Lib.hid (single_off hr hg)
  generalize scaleV s.single.toNat t.off = z at *
  generalize s.single = x at *
  generalize scaleV r.single.toNat t.off = v at *
  generalize r.single = y at *
  have HIN := Lib.hid hin
  clear hr hf hg hin
  have HX := Box.new w (t.cells m) 27
  have hB := bAlloc (Below.refl w.heap.size w) (.cells (t.cells m) 27)
  replace hT := hT.keep hB
  go_enter Try.func5, Try.ntmps5
  go_wp2_with fail
  refine (awake07_calls _).mono ?_
  rintro _ wq ⟨rfl, hb⟩; replace HX := HX.below' hb; replace hB := bThen hB hb; replace hT := hT.keep hb; clear hb; (try clear t0 t1 t2 t3 t4 t5 t6 t7 t8 t9 t10 t11 t12 t13 lt0); obtain ⟨t0, t1, t2, t3, t4, t5, t6, t7, t8, t9, t10, t11, t12, t13⟩ := tcells HX; have lt0 := HX.lt
  go_wp2_with fail
  refine (right_calls t m _ hT).mono ?_
  rw [HR.out]
  rintro _ wq ⟨rfl, hb⟩; replace HX := HX.below' hb; replace hB := bThen hB hb; replace hT := hT.keep hb; clear hb; (try clear t0 t1 t2 t3 t4 t5 t6 t7 t8 t9 t10 t11 t12 t13 lt0); obtain ⟨t0, t1, t2, t3, t4, t5, t6, t7, t8, t9, t10, t11, t12, t13⟩ := tcells HX; have lt0 := HX.lt
  go_wp2_with fail
  refine (single_calls t m a b true _ hT).mono ?_
  rw [HA.out]
  rintro _ wq ⟨rfl, hb⟩; replace HX := HX.below' hb; replace hB := bThen hB hb; replace hT := hT.keep hb; clear hb; (try clear t0 t1 t2 t3 t4 t5 t6 t7 t8 t9 t10 t11 t12 t13 lt0); obtain ⟨t0, t1, t2, t3, t4, t5, t6, t7, t8, t9, t10, t11, t12, t13⟩ := tcells HX; have lt0 := HX.lt
  go_wp2_with fail
  refine (single_calls t m b a true _ hT).mono ?_
  rw [single_comm, HA.out]
  rintro _ wq ⟨rfl, hb⟩; replace HX := HX.below' hb; replace hB := bThen hB hb; replace hT := hT.keep hb; clear hb; (try clear t0 t1 t2 t3 t4 t5 t6 t7 t8 t9 t10 t11 t12 t13 lt0); obtain ⟨t0, t1, t2, t3, t4, t5, t6, t7, t8, t9, t10, t11, t12, t13⟩ := tcells HX; have lt0 := HX.lt
  go_wp2_with fail
  refine (single_calls t m a b false _ hT).mono ?_
  rw [HZ.out]
  rintro _ wq ⟨rfl, hb⟩; replace HX := HX.below' hb; replace hB := bThen hB hb; replace hT := hT.keep hb; clear hb; (try clear t0 t1 t2 t3 t4 t5 t6 t7 t8 t9 t10 t11 t12 t13 lt0); obtain ⟨t0, t1, t2, t3, t4, t5, t6, t7, t8, t9, t10, t11, t12, t13⟩ := tcells HX; have lt0 := HX.lt
  go_wp2_with fail
  refine (single_calls t m c d true _ hT).mono ?_
  rw [HW.out]
  rintro _ wq ⟨rfl, hb⟩; replace HX := HX.below' hb; replace hB := bThen hB hb; replace hT := hT.keep hb; clear hb; (try clear t0 t1 t2 t3 t4 t5 t6 t7 t8 t9 t10 t11 t12 t13 lt0); obtain ⟨t0, t1, t2, t3, t4, t5, t6, t7, t8, t9, t10, t11, t12, t13⟩ := tcells HX; have lt0 := HX.lt
  go_wp2_with fail
  refine (single_calls t m c d false _ hT).mono ?_
  rw [HV.out]
  rintro _ wq ⟨rfl, hb⟩; replace HX := HX.below' hb; replace hB := bThen hB hb; replace hT := hT.keep hb; clear hb; (try clear t0 t1 t2 t3 t4 t5 t6 t7 t8 t9 t10 t11 t12 t13 lt0); obtain ⟨t0, t1, t2, t3, t4, t5, t6, t7, t8, t9, t10, t11, t12, t13⟩ := tcells HX; have lt0 := HX.lt
  go_wp2_with fail
  all_goals
    go_ret
    exact ⟨ret_bool (by have hh := HIN.out; simp only [mn, mx] at hh; grind), by (repeat (first | (with_reducible exact hB) | (with_reducible refine bAlloc ?_ _) | (with_reducible refine bDrewN ?_ _) | (with_reducible refine bDrew ?_) | (with_reducible refine bSet ?_ (by first | exact Nat.le_refl _ | (simp; omega) | omega) _) | (with_reducible refine bThen ?_ (by with_reducible assumption))))⟩

/-- The law's answer, whatever comes in. -/
theorem wider_calls (t : Tariff) (m : TMem) (a b c d : Int) (w : World) (hT : t.At w m) :
    Calls Try.prog 5 #[.agg (t.cells m), .int .i64 a, .int .i64 b, .int .i64 c, .int .i64 d] w fun e w' => e = .returned (.bool true) ∧ Below w.heap.size w w' := by
  by_cases hr : rightF t = 0
  · cases hf : spFind t.sp a b with
    | none => exact wider_none t m a b c d w hT hr hf
    | some s =>
      cases hg : spFind t.sp c d with
      | none => exact wider_one t m a b c d w hT hr s hf hg
      | some r => exact wider_two t m a b c d w hT hr s r hf hg
  · exact wider_bad t m a b c d w hT hr

end Go.Proofs.Ytmeogadkbbeglaa
