/- The walk of the tariff law's own look at the document's examples. -/
import Derived.Test.YtmeogadkbbeglaaW07p
namespace Go.Proofs.Ytmeogadkbbeglaa
open Go.RowKit
set_option maxHeartbeats 1600000

theorem awake07_calls (w : World) : Calls Try.prog 26 #[] w fun e w' => e = .returned (.bool true) ∧ Below w.heap.size w w' := by
  have HB := Below.refl w.heap.size w
  go_enter Try.func26, Try.ntmps26
  go_wp2_with fail
  refine (plain_calls _).mono ?_
  rintro e w1 ⟨m, rfl, hT, hB1⟩
  go_wp2_with fail
  have HX := Box.new w1 (plainT.cells m) 27
  have hT2 := hT.keep (bAlloc (Below.refl _ _) (.cells (plainT.cells m) 27))
  have hB2 := bAlloc hB1 (.cells (plainT.cells m) 27)
  have hge : w.heap.size ≤ w1.heap.size := hB1.size
  have hK := bAlloc (Below.refl w1.heap.size w1) (.cells (plainT.cells m) 27)
  generalize hbx : w1.heap.size = bx at *
  have HBX := Lib.hid hbx
  clear hbx
  generalize w1.alloc (.cells (plainT.cells m) 27) = w2 at *
  refine (right_calls plainT m w2 hT2).mono ?_
  rintro e w3 ⟨rfl, hb⟩
  rw [plain_right]
  replace hK := hK.trans (hb.mono (Nat.le_of_lt HX.lt))
  replace HX := HX.below' hb
  replace hB2 := bThen hB2 hb
  replace hT2 := hT2.keep hb
  clear hb
  obtain ⟨t0, t1, t2, t3, t4, t5, t6, t7, t8, t9, t10, t11, t12, t13⟩ := tcells HX
  have lt0 := HX.lt
  go_wp2_with fail
  refine (station_some plainT m 2 _ w3 hT2 plain_st).mono ?_
  rintro e w4 ⟨rfl, hb⟩
  replace hK := hK.trans (hb.mono (Nat.le_of_lt HX.lt))
  replace HX := HX.below' hb
  replace hB2 := bThen hB2 hb
  replace hT2 := hT2.keep hb
  clear hb lt0
  clear t0 t1 t2 t3 t4 t5 t6 t7 t8 t9 t10 t11 t12 t13
  obtain ⟨t0, t1, t2, t3, t4, t5, t6, t7, t8, t9, t10, t11, t12, t13⟩ := tcells HX
  have lt0 := HX.lt
  go_wp2_with fail
  have HS := Box.new w4 #[.int .i64 2, .int .i64 2, .int .i64 7] 35
  replace hK := hK.alloc (Nat.le_of_lt HX.lt) (.cells #[.int .i64 2, .int .i64 2, .int .i64 7] 35)
  replace HX := HX.alloc (.cells #[.int .i64 2, .int .i64 2, .int .i64 7] 35)
  have hB3 := bAlloc hB2 (.cells #[.int .i64 2, .int .i64 2, .int .i64 7] 35)
  have hT3 := hT2.keep (bAlloc (Below.refl _ _) (.cells #[.int .i64 2, .int .i64 2, .int .i64 7] 35))
  have hne : bx < w4.heap.size := lt0
  generalize hbs : w4.heap.size = bs at *
  have HBS := Lib.hid hbs
  clear hbs
  generalize w4.alloc (.cells #[.int .i64 2, .int .i64 2, .int .i64 7] 35) = w5 at *
  refine (single_calls plainT m 2 1 false w5 hT3).mono ?_
  rintro e w6 ⟨rfl, hb⟩
  rw [plain_single]
  replace hK := hK.trans (hb.mono (Nat.le_of_lt HX.lt))
  replace HX := HX.below' hb
  replace HS := HS.below' hb
  replace hB3 := bThen hB3 hb
  replace hT3 := hT3.keep hb
  clear hb lt0 hT2 hB2
  clear t0 t1 t2 t3 t4 t5 t6 t7 t8 t9 t10 t11 t12 t13
  obtain ⟨t0, t1, t2, t3, t4, t5, t6, t7, t8, t9, t10, t11, t12, t13⟩ := tcells HX
  have lt0 := HX.lt
  have ltS := HS.lt
  have y9 := HX.free 9
  go_wp2_with fail
  have HX' : Box (w6.setCell ⟨bx, 9, none⟩ (.int .i64 0)) bx (plainT0.cells m) 27 := (HX.set 9 (.int .i64 0)).cast (by simp [Tariff.cells, plainT0])
  have HS' := HS.other ⟨bx, 9, none⟩ (by show bs ≠ bx; omega) (.int .i64 0)
  have hB4 := bSet hB3 (p := ⟨bx, 9, none⟩) (by show w.heap.size ≤ bx; omega) (.int .i64 0)
  have hK' := hK.setCell (p := ⟨bx, 9, none⟩) (Nat.le_refl _) (.int .i64 0)
  have hT4 : plainT0.At (w6.setCell ⟨bx, 9, none⟩ (.int .i64 0)) m := by
    have hk : Below w1.heap.size w1 (w6.setCell ⟨bx, 9, none⟩ (.int .i64 0)) := by rw [HBX.out]; exact hK'
    exact ⟨hT.st.keep hk, hT.sp.keep hk, hT.pk.keep hk, hT.off⟩
  clear hK hK' hB3 hT3 HS HX
  refine (right_calls plainT0 m _ hT4).mono ?_
  rintro e w7 ⟨rfl, hb⟩
  rw [plain_right0]
  replace HS' := HS'.below' hb
  replace hB4 := bThen hB4 hb
  clear hb lt0 hT4 HX' ltS y9 hT
  clear t0 t1 t2 t3 t4 t5 t6 t7 t8 t9 t10 t11 t12 t13
  have s2 := HS'.cell 2
  simp at s2
  go_wp2_with fail
  go_ret
  exact ⟨rfl, by (repeat (first | (with_reducible exact hB4) | (with_reducible refine bAlloc ?_ _) | (with_reducible refine bDrewN ?_ _) | (with_reducible refine bDrew ?_) | (with_reducible refine bSet ?_ (by first | exact Nat.le_refl _ | (simp; omega) | omega) _) | (with_reducible refine bThen ?_ (by with_reducible assumption))))⟩

end Go.Proofs.Ytmeogadkbbeglaa
