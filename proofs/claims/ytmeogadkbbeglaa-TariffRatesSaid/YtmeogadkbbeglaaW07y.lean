/- The walk of the law TariffRates. -/
import Derived.Test.YtmeogadkbbeglaaW07q
import Derived.Test.YtmeogadkbbeglaaP07r
namespace Go.Proofs.Ytmeogadkbbeglaa
open Go.RowKit
set_option maxHeartbeats 1600000
set_option maxRecDepth 100000

theorem rates_calls (t : Tariff) (m : TMem) (f : Nat) (a b : Int) (w : World) (hT : t.At w m) (hf : f < 18446744073709551616) :
    Calls Try.prog 6 #[.agg (t.cells m), .float .f64 f, .int .i64 a, .int .i64 b] w fun e w' => e = .returned (.bool true) ∧ Below w.heap.size w w' := by
  have HX := Box.new w (t.cells m) 27
  have hB := bAlloc (Below.refl w.heap.size w) (.cells (t.cells m) 27)
  replace hT := hT.keep hB
  go_enter Try.func6, Try.ntmps6
  go_wp2_with fail
  refine (awake07_calls _).mono ?_
  rintro _ wq ⟨rfl, hb⟩; replace HX := HX.below' hb; replace hB := bThen hB hb; replace hT := hT.keep hb; clear hb; (try clear t0 t1 t2 t3 t4 t5 t6 t7 t8 t9 t10 t11 t12 t13 lt0); obtain ⟨t0, t1, t2, t3, t4, t5, t6, t7, t8, t9, t10, t11, t12, t13⟩ := tcells HX; have lt0 := HX.lt
  go_wp2_with fail
  have HY := Box.new wq (Tariff.cells { t with off := f } m) 27
  have hne := Nat.ne_of_lt HX.lt
  replace HX := HX.alloc (.cells (Tariff.cells { t with off := f } m) 27)
  replace hB := bAlloc hB (.cells (Tariff.cells { t with off := f } m) 27)
  replace hT := hT.keep (bAlloc (Below.refl _ _) (.cells (Tariff.cells { t with off := f } m) 27))
  clear t0 t1 t2 t3 t4 t5 t6 t7 t8 t9 t10 t11 t12 t13
  clear lt0
  dsimp only [Tariff.cells] at HX HY hB hT
  generalize hby : wq.heap.size = by_ at *
  clear hby
  generalize wq.alloc _ = wv at *
  clear wq
  replace HX : Box wv w.heap.size (Tariff.cells t m) 27 := HX
  replace HY : Box wv by_ (Tariff.cells { t with off := f } m) 27 := HY
  have hU : ({ t with off := f } : Tariff).At wv m := ⟨hT.st, hT.sp, hT.pk, hf⟩
  generalize hu : ({ t with off := f } : Tariff) = u at HY hU
  have hus : u.sp = t.sp := by rw [← hu]
  have hur : u.off = f := by rw [← hu]
  clear hu
  have HUS := Lib.hid hus
  have HUR := Lib.hid hur
  clear hus hur
  refine (right_calls t m _ hT).mono ?_
  generalize hrt : rightF t = rt
  rintro _ wq ⟨rfl, hb⟩; replace HX := HX.below' hb; replace HY := HY.below' hb; replace hB := bThen hB hb; replace hT := hT.keep hb; replace hU := hU.keep hb; clear hb; (try clear t0 t1 t2 t3 t4 t5 t6 t7 t8 t9 t10 t11 t12 t13 lt0); (try clear u0 u1 u2 u3 u4 u5 u6 u7 u8 u9 u10 u11 u12 u13 lt1); obtain ⟨t0, t1, t2, t3, t4, t5, t6, t7, t8, t9, t10, t11, t12, t13⟩ := tcells HX; have lt0 := HX.lt; obtain ⟨u0, u1, u2, u3, u4, u5, u6, u7, u8, u9, u10, u11, u12, u13⟩ := tcells HY; have lt1 := HY.lt
  go_wp2_with fail
  refine (right_calls u m _ hU).mono ?_
  generalize hru : rightF u = ru
  rintro _ wq ⟨rfl, hb⟩; replace HX := HX.below' hb; replace HY := HY.below' hb; replace hB := bThen hB hb; replace hT := hT.keep hb; replace hU := hU.keep hb; clear hb; (try clear t0 t1 t2 t3 t4 t5 t6 t7 t8 t9 t10 t11 t12 t13 lt0); (try clear u0 u1 u2 u3 u4 u5 u6 u7 u8 u9 u10 u11 u12 u13 lt1); obtain ⟨t0, t1, t2, t3, t4, t5, t6, t7, t8, t9, t10, t11, t12, t13⟩ := tcells HX; have lt0 := HX.lt; obtain ⟨u0, u1, u2, u3, u4, u5, u6, u7, u8, u9, u10, u11, u12, u13⟩ := tcells HY; have lt1 := HY.lt
  by_cases h1 : rt = 0
  case neg =>
    have hne1 : (rt != 0) = true := by simpa using h1
    clear hrt hru
    go_wp2_with fail
    go_ret
    exact ⟨rfl, by (repeat (first | (with_reducible exact hB) | (with_reducible refine bAlloc ?_ _) | (with_reducible refine bDrewN ?_ _) | (with_reducible refine bDrew ?_) | (with_reducible refine bSet ?_ (by first | exact Nat.le_refl _ | (simp; omega) | omega) _) | (with_reducible refine bThen ?_ (by with_reducible assumption))))⟩
  by_cases h2 : ru = 0
  case neg =>
    have hne1 : (rt != 0) = false := by simpa using h1
    have hne2 : (ru != 0) = true := by simpa using h2
    clear hrt hru
    go_wp2_with fail
    go_ret
    exact ⟨rfl, by (repeat (first | (with_reducible exact hB) | (with_reducible refine bAlloc ?_ _) | (with_reducible refine bDrewN ?_ _) | (with_reducible refine bDrew ?_) | (with_reducible refine bSet ?_ (by first | exact Nat.le_refl _ | (simp; omega) | omega) _) | (with_reducible refine bThen ?_ (by with_reducible assumption))))⟩
  subst h1 h2
  have HO := order_pos f t.off (by have := rate_lt (ok_rate hru); rwa [HUR.out] at this) (rate_lt (ok_rate hrt))
  cases hfd : spFind t.sp a b with
  | none =>
    have S1 := Lib.hid (single_none (p := false) hfd)
    have S2 := Lib.hid (single_none (p := true) hfd)
    rw [← HUS.out] at hfd
    have S3 := Lib.hid (single_none (p := false) hfd)
    have S4 := Lib.hid (single_none (p := true) hfd)
    clear hfd hrt hru
    have HC := Lib.hid HO
    clear HO
    go_wp2_with fail
    refine (single_calls t m a b false _ hT).mono ?_
    rw [S1.out]
    rintro _ wq ⟨rfl, hb⟩; replace HX := HX.below' hb; replace HY := HY.below' hb; replace hB := bThen hB hb; replace hT := hT.keep hb; replace hU := hU.keep hb; clear hb; (try clear t0 t1 t2 t3 t4 t5 t6 t7 t8 t9 t10 t11 t12 t13 lt0); (try clear u0 u1 u2 u3 u4 u5 u6 u7 u8 u9 u10 u11 u12 u13 lt1); obtain ⟨t0, t1, t2, t3, t4, t5, t6, t7, t8, t9, t10, t11, t12, t13⟩ := tcells HX; have lt0 := HX.lt; obtain ⟨u0, u1, u2, u3, u4, u5, u6, u7, u8, u9, u10, u11, u12, u13⟩ := tcells HY; have lt1 := HY.lt
    go_wp2_with fail
    refine (single_calls u m a b false _ hU).mono ?_
    rw [S3.out]
    rintro _ wq ⟨rfl, hb⟩; replace HX := HX.below' hb; replace HY := HY.below' hb; replace hB := bThen hB hb; replace hT := hT.keep hb; replace hU := hU.keep hb; clear hb; (try clear t0 t1 t2 t3 t4 t5 t6 t7 t8 t9 t10 t11 t12 t13 lt0); (try clear u0 u1 u2 u3 u4 u5 u6 u7 u8 u9 u10 u11 u12 u13 lt1); obtain ⟨t0, t1, t2, t3, t4, t5, t6, t7, t8, t9, t10, t11, t12, t13⟩ := tcells HX; have lt0 := HX.lt; obtain ⟨u0, u1, u2, u3, u4, u5, u6, u7, u8, u9, u10, u11, u12, u13⟩ := tcells HY; have lt1 := HY.lt
    go_wp2_with fail
    refine (single_calls t m a b true _ hT).mono ?_
    rw [S2.out]
    rintro _ wq ⟨rfl, hb⟩; replace HX := HX.below' hb; replace HY := HY.below' hb; replace hB := bThen hB hb; replace hT := hT.keep hb; replace hU := hU.keep hb; clear hb; (try clear t0 t1 t2 t3 t4 t5 t6 t7 t8 t9 t10 t11 t12 t13 lt0); (try clear u0 u1 u2 u3 u4 u5 u6 u7 u8 u9 u10 u11 u12 u13 lt1); obtain ⟨t0, t1, t2, t3, t4, t5, t6, t7, t8, t9, t10, t11, t12, t13⟩ := tcells HX; have lt0 := HX.lt; obtain ⟨u0, u1, u2, u3, u4, u5, u6, u7, u8, u9, u10, u11, u12, u13⟩ := tcells HY; have lt1 := HY.lt
    go_wp2_with fail
    refine (single_calls u m a b true _ hU).mono ?_
    rw [S4.out]
    rintro _ wq ⟨rfl, hb⟩; replace HX := HX.below' hb; replace HY := HY.below' hb; replace hB := bThen hB hb; replace hT := hT.keep hb; replace hU := hU.keep hb; clear hb; (try clear t0 t1 t2 t3 t4 t5 t6 t7 t8 t9 t10 t11 t12 t13 lt0); (try clear u0 u1 u2 u3 u4 u5 u6 u7 u8 u9 u10 u11 u12 u13 lt1); obtain ⟨t0, t1, t2, t3, t4, t5, t6, t7, t8, t9, t10, t11, t12, t13⟩ := tcells HX; have lt0 := HX.lt; obtain ⟨u0, u1, u2, u3, u4, u5, u6, u7, u8, u9, u10, u11, u12, u13⟩ := tcells HY; have lt1 := HY.lt
    have HO := HC.out
    clear HC
    rcases Nat.lt_trichotomy f t.off with hc | hc | hc
    all_goals
      first
      | rw [Nat.compare_eq_lt.2 hc] at HO
      | rw [Nat.compare_eq_eq.2 hc] at HO
      | rw [Nat.compare_eq_gt.2 hc] at HO
      clear hc
      go_wp2_with fail
      go_ret
      exact ⟨rfl, by (repeat (first | (with_reducible exact hB) | (with_reducible refine bAlloc ?_ _) | (with_reducible refine bDrewN ?_ _) | (with_reducible refine bDrew ?_) | (with_reducible refine bSet ?_ (by first | exact Nat.le_refl _ | (simp; omega) | omega) _) | (with_reducible refine bThen ?_ (by with_reducible assumption))))⟩
  | some s =>
    have S1 := Lib.hid (single_off hrt hfd)
    have S2 := Lib.hid (single_peak hrt hfd)
    have M1 := fun h => scaleV_rate (n := s.single.toNat) (b := t.off) (c := f) h (by have := ok_rate hru; rwa [HUR.out] at this)
    have M2 := fun h => scaleV_rate (n := s.single.toNat) (b := f) (c := t.off) h (ok_rate hrt)
    rw [← HUS.out] at hfd
    have S3 := Lib.hid (single_off hru hfd)
    have S4 := Lib.hid (single_peak hru hfd)
    rw [HUR.out] at S3
    generalize scaleV s.single.toNat t.off = x at *
    generalize scaleV s.single.toNat f = y at *
    generalize s.single = z at *
    clear hfd hrt hru
    have HC := Lib.hid HO
    clear HO
    go_wp2_with fail
    refine (single_calls t m a b false _ hT).mono ?_
    rw [S1.out]
    rintro _ wq ⟨rfl, hb⟩; replace HX := HX.below' hb; replace HY := HY.below' hb; replace hB := bThen hB hb; replace hT := hT.keep hb; replace hU := hU.keep hb; clear hb; (try clear t0 t1 t2 t3 t4 t5 t6 t7 t8 t9 t10 t11 t12 t13 lt0); (try clear u0 u1 u2 u3 u4 u5 u6 u7 u8 u9 u10 u11 u12 u13 lt1); obtain ⟨t0, t1, t2, t3, t4, t5, t6, t7, t8, t9, t10, t11, t12, t13⟩ := tcells HX; have lt0 := HX.lt; obtain ⟨u0, u1, u2, u3, u4, u5, u6, u7, u8, u9, u10, u11, u12, u13⟩ := tcells HY; have lt1 := HY.lt
    go_wp2_with fail
    refine (single_calls u m a b false _ hU).mono ?_
    rw [S3.out]
    rintro _ wq ⟨rfl, hb⟩; replace HX := HX.below' hb; replace HY := HY.below' hb; replace hB := bThen hB hb; replace hT := hT.keep hb; replace hU := hU.keep hb; clear hb; (try clear t0 t1 t2 t3 t4 t5 t6 t7 t8 t9 t10 t11 t12 t13 lt0); (try clear u0 u1 u2 u3 u4 u5 u6 u7 u8 u9 u10 u11 u12 u13 lt1); obtain ⟨t0, t1, t2, t3, t4, t5, t6, t7, t8, t9, t10, t11, t12, t13⟩ := tcells HX; have lt0 := HX.lt; obtain ⟨u0, u1, u2, u3, u4, u5, u6, u7, u8, u9, u10, u11, u12, u13⟩ := tcells HY; have lt1 := HY.lt
    go_wp2_with fail
    refine (single_calls t m a b true _ hT).mono ?_
    rw [S2.out]
    rintro _ wq ⟨rfl, hb⟩; replace HX := HX.below' hb; replace HY := HY.below' hb; replace hB := bThen hB hb; replace hT := hT.keep hb; replace hU := hU.keep hb; clear hb; (try clear t0 t1 t2 t3 t4 t5 t6 t7 t8 t9 t10 t11 t12 t13 lt0); (try clear u0 u1 u2 u3 u4 u5 u6 u7 u8 u9 u10 u11 u12 u13 lt1); obtain ⟨t0, t1, t2, t3, t4, t5, t6, t7, t8, t9, t10, t11, t12, t13⟩ := tcells HX; have lt0 := HX.lt; obtain ⟨u0, u1, u2, u3, u4, u5, u6, u7, u8, u9, u10, u11, u12, u13⟩ := tcells HY; have lt1 := HY.lt
    go_wp2_with fail
    refine (single_calls u m a b true _ hU).mono ?_
    rw [S4.out]
    rintro _ wq ⟨rfl, hb⟩; replace HX := HX.below' hb; replace HY := HY.below' hb; replace hB := bThen hB hb; replace hT := hT.keep hb; replace hU := hU.keep hb; clear hb; (try clear t0 t1 t2 t3 t4 t5 t6 t7 t8 t9 t10 t11 t12 t13 lt0); (try clear u0 u1 u2 u3 u4 u5 u6 u7 u8 u9 u10 u11 u12 u13 lt1); obtain ⟨t0, t1, t2, t3, t4, t5, t6, t7, t8, t9, t10, t11, t12, t13⟩ := tcells HX; have lt0 := HX.lt; obtain ⟨u0, u1, u2, u3, u4, u5, u6, u7, u8, u9, u10, u11, u12, u13⟩ := tcells HY; have lt1 := HY.lt
    have HO := HC.out
    clear HC
    rcases Nat.lt_trichotomy f t.off with hc | hc | hc
    all_goals
      first
      | rw [Nat.compare_eq_lt.2 hc] at HO
      | rw [Nat.compare_eq_eq.2 hc] at HO
      | rw [Nat.compare_eq_gt.2 hc] at HO
      first
      | (have hxy : (x : Int) ≤ (y : Int) := by have := M1 (Nat.le_of_lt hc); omega)
      | (have hxy : (y : Int) ≤ (x : Int) := by have := M2 (by omega); omega)
      clear M1 M2 hc
      go_wp2_with fail
      go_ret
      exact ⟨rfl, by (repeat (first | (with_reducible exact hB) | (with_reducible refine bAlloc ?_ _) | (with_reducible refine bDrewN ?_ _) | (with_reducible refine bDrew ?_) | (with_reducible refine bSet ?_ (by first | exact Nat.le_refl _ | (simp; omega) | omega) _) | (with_reducible refine bThen ?_ (by with_reducible assumption))))⟩
end Go.Proofs.Ytmeogadkbbeglaa
