/- The examples of layer 19. -/
import Derived.Test.YtmeogadkbbeglaaRs
import Derived.Test.YtmeogadkbbeglaaK26
import Derived.Test.YtmeogadkbbeglaaK19
namespace Go.Proofs.Ytmeogadkbbeglaa
open Go.RowKit Go.Rg Go.Proofs.YtmeogadkbbeglaaQ
set_option maxHeartbeats 800000
set_option maxRecDepth 100000
theorem whole_calls (to_ fare : Int) (w : World) : Calls Try.prog 94 #[.int .i64 to_, .int .i64 fare] w fun e w' => e = .returned (.agg #[.int .i64 1, .int .i64 1, .int .i64 to_, .int .i64 480, .int .i64 500, .bool false, .int .i64 fare]) ∧ Below w.heap.size w w' := by
  have HB := Below.refl w.heap.size w
  go_enter Try.func94, Try.ntmps94
  go_wp2_with fail
  refine bodyPost_ret (v := .agg #[.int .i64 1, .int .i64 1, .int .i64 to_, .int .i64 480, .int .i64 500, .bool false, .int .i64 fare]) (by simp [results, Try.results94, go_sem]) rfl ⟨rfl, by (repeat (first | (with_reducible exact HB) | (with_reducible refine bAlloc ?_ _) | (with_reducible refine bDrewN ?_ _) | (with_reducible refine bDrew ?_) | (with_reducible refine bSet ?_ (by first | exact Nat.le_refl _ | (simp; omega) | omega) _) | (with_reducible refine bThen ?_ (by with_reducible assumption))))⟩
theorem ride_calls (fare : Int) (w : World) : Calls Try.prog 95 #[.int .i64 fare] w fun e w' => e = .returned (.agg #[.int .i64 4, .int .i64 9, .int .i64 9, .int .i64 480, .int .i64 480, .bool false, .int .i64 fare]) ∧ Below w.heap.size w w' := by
  have HB := Below.refl w.heap.size w
  go_enter Try.func95, Try.ntmps95
  go_wp2_with fail
  refine bodyPost_ret (v := .agg #[.int .i64 4, .int .i64 9, .int .i64 9, .int .i64 480, .int .i64 480, .bool false, .int .i64 fare]) (by simp [results, Try.results95, go_sem]) rfl ⟨rfl, by (repeat (first | (with_reducible exact HB) | (with_reducible refine bAlloc ?_ _) | (with_reducible refine bDrewN ?_ _) | (with_reducible refine bDrew ?_) | (with_reducible refine bSet ?_ (by first | exact Nat.le_refl _ | (simp; omega) | omega) _) | (with_reducible refine bThen ?_ (by with_reducible assumption))))⟩
def t19 : Tariff := { plainT with bus := 175, busDaily := 400, busWeekly := 1500 }
def w19 (to_ fare : Int) : Priced := ⟨⟨1, 1, to_, 480, 500, false⟩, fare⟩
def r19 (fare : Int) : Priced := ⟨⟨4, 9, 9, 480, 480, false⟩, fare⟩
theorem t19_a : dayC t19 0 [w19 2 300, w19 2 300, w19 2 300] = (⟨0, 900, 0, 700, 0, 1, 2⟩, 0) := by decide +kernel
theorem t19_b : dayC t19 0 [w19 1 200, r19 175, r19 175, r19 175] = (⟨0, 200, 400, 500, 0, 1, 1⟩, 0) := by decide +kernel
theorem t19_c : weekC t19 [⟨0, 900, 0, 700, 0, 1, 2⟩, ⟨1, 0, 0, 0, 900, 0, 0⟩] = (1600, 0) := by decide +kernel
theorem awake19_calls (w : World) : Calls Try.prog 41 #[] w fun e w' => e = .returned (.bool true) ∧ Below w.heap.size w w' := by
  have HB := Below.refl w.heap.size w
  go_enter Try.func41, Try.ntmps41
  go_wp2_with fail
  refine (plain_calls2 _).mono ?_
  rintro e w1 ⟨m, rfl, hcap, hT, hB1⟩
  have hge : w.heap.size ≤ w1.heap.size := hB1.size
  go_wp2_with fail
  have HX := Box.new w1 (t19.cells m) 27
  have hB := bAlloc hB1 (.cells (t19.cells m) 27)
  have hT2 : t19.At (w1.alloc (.cells (t19.cells m) 27)) m := ⟨(hT.keep (bAlloc (Below.refl _ _) _)).st, (hT.keep (bAlloc (Below.refl _ _) _)).sp, (hT.keep (bAlloc (Below.refl _ _) _)).pk, (hT.keep (bAlloc (Below.refl _ _) (.cells (t19.cells m) 27))).off⟩
  have hge2 := hB.size
  generalize hbt : w1.heap.size = bt at *
  have hwA : w1.alloc (.cells #[.slice m.a1 plainT.st.length m.c1, .slice m.a2 plainT.sp.length m.c2, .slice m.a3 plainT.pk.length m.c3, .float .f64 plainT.off, .int .i64 175, .int .i64 400, .int .i64 1500, .int .i64 plainT.hopper, .int .i64 plainT.most, .int .i64 plainT.longest, .int .i64 plainT.change, .int .i64 plainT.passback, .int .i64 plainT.delay, .int .i64 plainT.threshold] 27) = w1.alloc (.cells (t19.cells m) 27) := rfl
  rw [hwA]
  clear hwA
  generalize w1.alloc (.cells (t19.cells m) 27) = wA at *
  obtain ⟨t0, t1, t2, t3, t4, t5, t6, t7, t8, t9, t10, t11, t12, t13⟩ := tcells HX
  have hday1 := fun g W h1 h2 => day_calls t19 m 0 [w19 2 300, w19 2 300, w19 2 300] (some ⟨g, 0, none⟩) 3 W h1 h2
  rw [t19_a] at hday1
  simp only [List.length_cons, List.length_nil, Nat.reduceAdd, DayC.cells] at hday1
  have hsl1 : ∀ (W : World) (g : Nat), Box W g #[.int .i64 1, .int .i64 1, .int .i64 2, .int .i64 480, .int .i64 500, .bool false, .int .i64 300, .int .i64 1, .int .i64 1, .int .i64 2, .int .i64 480, .int .i64 500, .bool false, .int .i64 300, .int .i64 1, .int .i64 1, .int .i64 2, .int .i64 480, .int .i64 500, .bool false, .int .i64 300] 55 → SliceAt W 7 Priced.vals (some ⟨g, 0, none⟩) [w19 2 300, w19 2 300, w19 2 300] := fun W g h => sliceAt_box h (fun _ => rfl) (by simp) (fun k v hk => by simpa [w19, r19, Priced.vals, Journey.vals] using hk)
  refine wp_region_steps (StI ⟨wA, (fun i => match i with | 0 => some (.agg #[.slice m.a1 t19.st.length m.c1, .slice m.a2 t19.sp.length m.c2, .slice m.a3 t19.pk.length m.c3, .float .f64 t19.off, .int .i64 t19.bus, .int .i64 t19.busDaily, .int .i64 t19.busWeekly, .int .i64 t19.hopper, .int .i64 t19.most, .int .i64 t19.longest, .int .i64 t19.change, .int .i64 t19.passback, .int .i64 t19.delay, .int .i64 t19.threshold]) | 1 => some (.agg #[.int .i64 1, .int .i64 1, .int .i64 2, .int .i64 480, .int .i64 500, .bool false, .int .i64 300]) | 2 => some (.agg #[.int .i64 1, .int .i64 1, .int .i64 2, .int .i64 480, .int .i64 500, .bool false, .int .i64 300]) | 3 => some (.agg #[.int .i64 1, .int .i64 1, .int .i64 2, .int .i64 480, .int .i64 500, .bool false, .int .i64 300]) | 5 => some (.tuple #[.agg #[.int .i64 (DayC.mk 0 900 0 700 0 1 2).day, .int .i64 (DayC.mk 0 900 0 700 0 1 2).rail, .int .i64 (DayC.mk 0 900 0 700 0 1 2).bus, .int .i64 (DayC.mk 0 900 0 700 0 1 2).capped, .int .i64 (DayC.mk 0 900 0 700 0 1 2).most, .int .i64 (DayC.mk 0 900 0 700 0 1 2).low, .int .i64 (DayC.mk 0 900 0 700 0 1 2).high], .int .i64 0]) | 6 => some (.tuple #[.agg #[.int .i64 (DayC.mk 0 900 0 700 0 1 2).day, .int .i64 (DayC.mk 0 900 0 700 0 1 2).rail, .int .i64 (DayC.mk 0 900 0 700 0 1 2).bus, .int .i64 (DayC.mk 0 900 0 700 0 1 2).capped, .int .i64 (DayC.mk 0 900 0 700 0 1 2).most, .int .i64 (DayC.mk 0 900 0 700 0 1 2).low, .int .i64 (DayC.mk 0 900 0 700 0 1 2).high], .int .i64 0]) | 7 => some (.agg #[.int .i64 (DayC.mk 0 900 0 700 0 1 2).day, .int .i64 (DayC.mk 0 900 0 700 0 1 2).rail, .int .i64 (DayC.mk 0 900 0 700 0 1 2).bus, .int .i64 (DayC.mk 0 900 0 700 0 1 2).capped, .int .i64 (DayC.mk 0 900 0 700 0 1 2).most, .int .i64 (DayC.mk 0 900 0 700 0 1 2).low, .int .i64 (DayC.mk 0 900 0 700 0 1 2).high]) | 8 => some (.int .i64 0) | 11 => some (.int .i64 0) | _ => none), 4, #[.int .i64 1, .int .i64 1, .int .i64 2, .int .i64 480, .int .i64 500, .bool false, .int .i64 300, .int .i64 1, .int .i64 1, .int .i64 2, .int .i64 480, .int .i64 500, .bool false, .int .i64 300, .int .i64 1, .int .i64 1, .int .i64 2, .int .i64 480, .int .i64 500, .bool false, .int .i64 300], 55, 3, 9, 10, #[.int .i64 0, .int .i64 0, .int .i64 0, .int .i64 0, .int .i64 0, .int .i64 0, .int .i64 0], (#[.int .i64 (DayC.mk 0 900 0 700 0 1 2).day, .int .i64 (DayC.mk 0 900 0 700 0 1 2).rail, .int .i64 (DayC.mk 0 900 0 700 0 1 2).bus, .int .i64 (DayC.mk 0 900 0 700 0 1 2).capped, .int .i64 (DayC.mk 0 900 0 700 0 1 2).most, .int .i64 (DayC.mk 0 900 0 700 0 1 2).low, .int .i64 (DayC.mk 0 900 0 700 0 1 2).high]), 57, [0, 1, 2, 3, 4, 5, 6, 7, 9]⟩) (by kernel_rfl) (by kernel_rfl) (by kernel_rfl) 63 rfl (by kernel_rfl) ?h1 ?step1 ?fin1
  case h1 => exact StI.start _
  case step1 =>
    refine ⟨?_, ?_, ?_, ?_, ?_, ?_, ?_, ?_, ?_, ?_, ?_, ?_, trivial⟩
    · intro S w' A K hA hA0 hI hS haf hK
      have a1 : A.tmps[1]? = some (.pointer (some ⟨bt, 0, none⟩)) := (hA0 1 (by kernel_rfl)).trans rfl
      have hwB := hI.beh
      simp only at hwB
      have c0 := keep hwB t0
      have c1 := keep hwB t1
      have c2 := keep hwB t2
      have c3 := keep hwB t3
      have c4 := keep hwB t4
      have c5 := keep hwB t5
      have c6 := keep hwB t6
      have c7 := keep hwB t7
      have c8 := keep hwB t8
      have c9 := keep hwB t9
      have c10 := keep hwB t10
      have c11 := keep hwB t11
      have c12 := keep hwB t12
      have c13 := keep hwB t13
      have hk := hK _ w' (hI.quiet hS rfl (by simp) (by simp) (by simp))
      clear hA hA0 hK
      simp [Oper.wp, go_sem, a1, c0, c1, c2, c3, c4, c5, c6, c7, c8, c9, c10, c11, c12, c13]
      exact hk
    · intro S w' A K hA hA0 hI hS haf hK
      have hk := fun w'' hb => hK _ w'' (hI.call hS (by simp) rfl (by simp) (by simp) (by simp) hb)
      clear hA hA0 hK
      simp [Oper.wp, go_sem]
      refine (whole_calls 2 300 _).mono ?_
      rintro _ w'' ⟨rfl, hb⟩
      exact hk w'' hb
    · intro S w' A K hA hA0 hI hS haf hK
      have hk := fun w'' hb => hK _ w'' (hI.call hS (by simp) rfl (by simp) (by simp) (by simp) hb)
      clear hA hA0 hK
      simp [Oper.wp, go_sem]
      refine (whole_calls 2 300 _).mono ?_
      rintro _ w'' ⟨rfl, hb⟩
      exact hk w'' hb
    · intro S w' A K hA hA0 hI hS haf hK
      have hk := fun w'' hb => hK _ w'' (hI.call hS (by simp) rfl (by simp) (by simp) (by simp) hb)
      clear hA hA0 hK
      simp [Oper.wp, go_sem]
      refine (whole_calls 2 300 _).mono ?_
      rintro _ w'' ⟨rfl, hb⟩
      exact hk w'' hb
    · intro S w' A K hA hA0 hI hS haf hK
      obtain ⟨x1, s1⟩ := haf ⟨1, .data⟩ (by simp) rfl
      obtain rfl := hI.val 1 _ _ rfl s1
      have a14 := hA 14 1 _ rfl s1
      obtain ⟨x2, s2⟩ := haf ⟨2, .data⟩ (by simp) rfl
      obtain rfl := hI.val 2 _ _ rfl s2
      have a15 := hA 15 2 _ rfl s2
      obtain ⟨x3, s3⟩ := haf ⟨3, .data⟩ (by simp) rfl
      obtain rfl := hI.val 3 _ _ rfl s3
      have a16 := hA 16 3 _ rfl s3
      have hk := hK _ _ (hI.slice hS (by simp) rfl (by simp) (by simp))
      clear hA hA0 hK
      simp [Oper.wp, go_sem, a14, a15, a16]
      exact hk
    · intro S w' A K hA hA0 hI hS haf hK
      obtain ⟨x0, s0⟩ := haf ⟨0, .data⟩ (by simp) rfl
      obtain rfl := hI.val 0 _ _ rfl s0
      have a13 := hA 13 0 _ rfl s0
      obtain ⟨xs, ss⟩ := haf ⟨4, .data⟩ (by simp) rfl
      obtain ⟨g, rfl, hg⟩ := hI.sli _ ss
      have a17 := hA 17 4 _ rfl ss
      have hbx := hg (hI.early (by simp) hS)
      have hTw := hT2.keep hI.beh
      have hk := fun w'' hb => hK _ w'' (hI.call hS (by simp) rfl (by simp) (by simp) (by simp) hb)
      clear hA hA0 hK
      simp [Oper.wp, go_sem, a13, a17]
      refine (hday1 g _ hTw (hsl1 _ _ hbx)).mono ?_
      rintro _ w'' ⟨rfl, hb⟩
      exact hk w'' hb
    · intro S w' A K hA hA0 hI hS haf hK
      obtain ⟨x5, s5⟩ := haf ⟨5, .data⟩ (by simp) rfl
      obtain rfl := hI.val 5 _ _ rfl s5
      have a18 := hA 18 5 _ rfl s5
      have hwB := hI.beh
      simp only at hwB
      have hk := hK _ w' (hI.quiet hS rfl (by simp) (by simp) (by simp))
      clear hA hA0 hK
      simp [Oper.wp, go_sem, a18]
      exact hk
    · intro S w' A K hA hA0 hI hS haf hK
      obtain ⟨x6, s6⟩ := haf ⟨6, .data⟩ (by simp) rfl
      obtain rfl := hI.val 6 _ _ rfl s6
      have a12 := hA 12 6 _ rfl s6
      have hwB := hI.beh
      simp only at hwB
      have hk := hK _ w' (hI.quiet hS rfl (by simp) (by simp) (by simp))
      clear hA hA0 hK
      simp [Oper.wp, go_sem, a12]
      exact hk
    · intro S w' A K hA hA0 hI hS haf hK
      obtain ⟨x6, s6⟩ := haf ⟨6, .data⟩ (by simp) rfl
      obtain rfl := hI.val 6 _ _ rfl s6
      have a12 := hA 12 6 _ rfl s6
      have hwB := hI.beh
      simp only at hwB
      have hk := hK _ w' (hI.quiet hS rfl (by simp) (by simp) (by simp))
      clear hA hA0 hK
      simp [Oper.wp, go_sem, a12]
      exact hk
    · intro S w' A K hA hA0 hI hS haf hK
      have hk := hK _ _ (hI.alloc hS (by simp) rfl (by simp) (by simp))
      clear hA hA0 hK
      simp [Oper.wp, go_sem]
      exact hk
    · intro S w' A K hA hA0 hI hS haf hK
      obtain ⟨x7, s7⟩ := haf ⟨7, .data⟩ (by simp) rfl
      obtain rfl := hI.val 7 _ _ rfl s7
      have a19 := hA 19 7 _ rfl s7
      have hall : ∀ i ∈ [0, 1, 2, 3, 4, 5, 6, 7, 9], S i ≠ none := fun i hi => by
        simp at hi
        rcases hi with rfl | rfl | rfl | rfl | rfl | rfl | rfl | rfl | rfl
        · obtain ⟨u, hu⟩ := haf ⟨0, .phase⟩ (by simp) rfl; rw [hu]; simp
        · obtain ⟨u, hu⟩ := haf ⟨1, .phase⟩ (by simp) rfl; rw [hu]; simp
        · obtain ⟨u, hu⟩ := haf ⟨2, .phase⟩ (by simp) rfl; rw [hu]; simp
        · obtain ⟨u, hu⟩ := haf ⟨3, .phase⟩ (by simp) rfl; rw [hu]; simp
        · obtain ⟨u, hu⟩ := haf ⟨4, .phase⟩ (by simp) rfl; rw [hu]; simp
        · obtain ⟨u, hu⟩ := haf ⟨5, .chain⟩ (by simp) rfl; rw [hu]; simp
        · obtain ⟨u, hu⟩ := haf ⟨6, .phase⟩ (by simp) rfl; rw [hu]; simp
        · obtain ⟨u, hu⟩ := haf ⟨7, .data⟩ (by simp) rfl; rw [hu]; simp
        · obtain ⟨u, hu⟩ := haf ⟨9, .data⟩ (by simp) rfl; rw [hu]; simp
      obtain ⟨xa, sa⟩ := haf ⟨9, .data⟩ (by simp) rfl
      obtain ⟨b, rfl, hge, hz, -⟩ := hI.all _ sa
      have a2 := hA 2 9 _ rfl sa
      have hbx := hz hS
      simp only at hge hbx
      have c0 := hbx.cell 0
      have f0 := hbx.free 0
      have c1 := hbx.cell 1
      have f1 := hbx.free 1
      have c2 := hbx.cell 2
      have f2 := hbx.free 2
      have c3 := hbx.cell 3
      have f3 := hbx.free 3
      have c4 := hbx.cell 4
      have f4 := hbx.free 4
      have c5 := hbx.cell 5
      have f5 := hbx.free 5
      have c6 := hbx.cell 6
      have f6 := hbx.free 6
      simp at c0 c1 c2 c3 c4 c5 c6
      have hk := hK undef _ (hI.store hall rfl (by simp) (by simp) sa ((((((((hbx.set 0 (.int .i64 0)).set 1 (.int .i64 900)).set 2 (.int .i64 0)).set 3 (.int .i64 700)).set 4 (.int .i64 0)).set 5 (.int .i64 1)).set 6 (.int .i64 2)).cast (by simp)) (bSet (bSet (bSet (bSet (bSet (bSet (bSet hI.beh (p := ⟨b, 0, none⟩) hge (.int .i64 0)) (p := ⟨b, 1, none⟩) hge (.int .i64 900)) (p := ⟨b, 2, none⟩) hge (.int .i64 0)) (p := ⟨b, 3, none⟩) hge (.int .i64 700)) (p := ⟨b, 4, none⟩) hge (.int .i64 0)) (p := ⟨b, 5, none⟩) hge (.int .i64 1)) (p := ⟨b, 6, none⟩) hge (.int .i64 2)) undef)
      clear hA hA0 hK
      simp [Oper.wp, go_sem, a19, a2, c0, f0, c1, f1, c2, f2, c3, f3, c4, f4, c5, f5, c6, f6]
      exact hk
    · intro S w' A K hA hA0 hI hS haf hK
      obtain ⟨x8, s8⟩ := haf ⟨8, .data⟩ (by simp) rfl
      obtain rfl := hI.val 8 _ _ rfl s8
      have a20 := hA 20 8 _ rfl s8
      have hwB := hI.beh
      simp only at hwB
      have hk := hK _ w' (hI.quiet hS rfl (by simp) (by simp) (by simp))
      clear hA hA0 hK
      simp [Oper.wp, go_sem, a20]
      exact hk
  intro S wf hI hall
  obtain ⟨y0, e0⟩ := hall 0 (by decide)
  obtain ⟨y1, e1⟩ := hall 1 (by decide)
  obtain ⟨y2, e2⟩ := hall 2 (by decide)
  obtain ⟨y3, e3⟩ := hall 3 (by decide)
  obtain ⟨y4, e4⟩ := hall 4 (by decide)
  obtain ⟨y5, e5⟩ := hall 5 (by decide)
  obtain ⟨y6, e6⟩ := hall 6 (by decide)
  obtain ⟨y7, e7⟩ := hall 7 (by decide)
  obtain ⟨y8, e8⟩ := hall 8 (by decide)
  obtain ⟨y9, e9⟩ := hall 9 (by decide)
  obtain ⟨y10, e10⟩ := hall 10 (by decide)
  obtain ⟨y11, e11⟩ := hall 11 (by decide)
  obtain rfl := hI.val 0 _ _ rfl e0
  obtain rfl := hI.val 1 _ _ rfl e1
  obtain rfl := hI.val 2 _ _ rfl e2
  obtain rfl := hI.val 3 _ _ rfl e3
  obtain rfl := hI.val 5 _ _ rfl e5
  obtain rfl := hI.val 6 _ _ rfl e6
  obtain rfl := hI.val 7 _ _ rfl e7
  obtain rfl := hI.val 8 _ _ rfl e8
  obtain rfl := hI.val 11 _ _ rfl e11
  obtain ⟨gs, rfl, -⟩ := hI.sli _ e4
  obtain ⟨bf, rfl, hgf, HF⟩ := hI.done (by simp only; rw [e10]; simp) e9
  have hBf := hI.beh
  simp only at hgf HF hBf
  simp only [puts, e0, e1, e2, e3, e4, e5, e6, e7, e8, e9, e10, e11]
  simp only [Act.put, List.setIfInBounds_toArray, List.set_cons_succ, List.set_cons_zero]
  clear hI hall e0 e1 e2 e3 e4 e5 e6 e7 e8 e9 e10 e11
  clear t0 t1 t2 t3 t4 t5 t6 t7 t8 t9 t10 t11 t12 t13
  clear hday1 hsl1
  replace HX := HX.below' hBf
  replace hT2 := hT2.keep hBf
  replace hB := bThen hB hBf
  have HD := HF
  clear HF hBf hgf
  go_wp2_with fail
  obtain ⟨t0, t1, t2, t3, t4, t5, t6, t7, t8, t9, t10, t11, t12, t13⟩ := tcells HX
  have hday2 := fun g W h1 h2 => day_calls t19 m 0 [w19 1 200, r19 175, r19 175, r19 175] (some ⟨g, 0, none⟩) 4 W h1 h2
  rw [t19_b] at hday2
  simp only [List.length_cons, List.length_nil, Nat.reduceAdd, DayC.cells] at hday2
  have hsl2 : ∀ (W : World) (g : Nat), Box W g #[.int .i64 1, .int .i64 1, .int .i64 1, .int .i64 480, .int .i64 500, .bool false, .int .i64 200, .int .i64 4, .int .i64 9, .int .i64 9, .int .i64 480, .int .i64 480, .bool false, .int .i64 175, .int .i64 4, .int .i64 9, .int .i64 9, .int .i64 480, .int .i64 480, .bool false, .int .i64 175, .int .i64 4, .int .i64 9, .int .i64 9, .int .i64 480, .int .i64 480, .bool false, .int .i64 175] 55 → SliceAt W 7 Priced.vals (some ⟨g, 0, none⟩) [w19 1 200, r19 175, r19 175, r19 175] := fun W g h => sliceAt_box h (fun _ => rfl) (by simp) (fun k v hk => by simpa [w19, r19, Priced.vals, Journey.vals] using hk)
  generalize bf = b1 at *
  refine wp_region_steps (StI ⟨wf, (fun i => match i with | 0 => some (.agg #[.slice m.a1 t19.st.length m.c1, .slice m.a2 t19.sp.length m.c2, .slice m.a3 t19.pk.length m.c3, .float .f64 t19.off, .int .i64 t19.bus, .int .i64 t19.busDaily, .int .i64 t19.busWeekly, .int .i64 t19.hopper, .int .i64 t19.most, .int .i64 t19.longest, .int .i64 t19.change, .int .i64 t19.passback, .int .i64 t19.delay, .int .i64 t19.threshold]) | 1 => some (.agg #[.int .i64 1, .int .i64 1, .int .i64 1, .int .i64 480, .int .i64 500, .bool false, .int .i64 200]) | 2 => some (.agg #[.int .i64 4, .int .i64 9, .int .i64 9, .int .i64 480, .int .i64 480, .bool false, .int .i64 175]) | 3 => some (.agg #[.int .i64 4, .int .i64 9, .int .i64 9, .int .i64 480, .int .i64 480, .bool false, .int .i64 175]) | 4 => some (.agg #[.int .i64 4, .int .i64 9, .int .i64 9, .int .i64 480, .int .i64 480, .bool false, .int .i64 175]) | 6 => some (.tuple #[.agg #[.int .i64 (DayC.mk 0 200 400 500 0 1 1).day, .int .i64 (DayC.mk 0 200 400 500 0 1 1).rail, .int .i64 (DayC.mk 0 200 400 500 0 1 1).bus, .int .i64 (DayC.mk 0 200 400 500 0 1 1).capped, .int .i64 (DayC.mk 0 200 400 500 0 1 1).most, .int .i64 (DayC.mk 0 200 400 500 0 1 1).low, .int .i64 (DayC.mk 0 200 400 500 0 1 1).high], .int .i64 0]) | 7 => some (.tuple #[.agg #[.int .i64 (DayC.mk 0 200 400 500 0 1 1).day, .int .i64 (DayC.mk 0 200 400 500 0 1 1).rail, .int .i64 (DayC.mk 0 200 400 500 0 1 1).bus, .int .i64 (DayC.mk 0 200 400 500 0 1 1).capped, .int .i64 (DayC.mk 0 200 400 500 0 1 1).most, .int .i64 (DayC.mk 0 200 400 500 0 1 1).low, .int .i64 (DayC.mk 0 200 400 500 0 1 1).high], .int .i64 0]) | 8 => some (.agg #[.int .i64 (DayC.mk 0 200 400 500 0 1 1).day, .int .i64 (DayC.mk 0 200 400 500 0 1 1).rail, .int .i64 (DayC.mk 0 200 400 500 0 1 1).bus, .int .i64 (DayC.mk 0 200 400 500 0 1 1).capped, .int .i64 (DayC.mk 0 200 400 500 0 1 1).most, .int .i64 (DayC.mk 0 200 400 500 0 1 1).low, .int .i64 (DayC.mk 0 200 400 500 0 1 1).high]) | 9 => some (.int .i64 0) | 12 => some (.int .i64 0) | _ => none), 5, #[.int .i64 1, .int .i64 1, .int .i64 1, .int .i64 480, .int .i64 500, .bool false, .int .i64 200, .int .i64 4, .int .i64 9, .int .i64 9, .int .i64 480, .int .i64 480, .bool false, .int .i64 175, .int .i64 4, .int .i64 9, .int .i64 9, .int .i64 480, .int .i64 480, .bool false, .int .i64 175, .int .i64 4, .int .i64 9, .int .i64 9, .int .i64 480, .int .i64 480, .bool false, .int .i64 175], 55, 4, 10, 11, #[.int .i64 0, .int .i64 0, .int .i64 0, .int .i64 0, .int .i64 0, .int .i64 0, .int .i64 0], (#[.int .i64 (DayC.mk 0 200 400 500 0 1 1).day, .int .i64 (DayC.mk 0 200 400 500 0 1 1).rail, .int .i64 (DayC.mk 0 200 400 500 0 1 1).bus, .int .i64 (DayC.mk 0 200 400 500 0 1 1).capped, .int .i64 (DayC.mk 0 200 400 500 0 1 1).most, .int .i64 (DayC.mk 0 200 400 500 0 1 1).low, .int .i64 (DayC.mk 0 200 400 500 0 1 1).high]), 57, [0, 1, 2, 3, 4, 5, 6, 7, 8, 10]⟩) (by kernel_rfl) (by kernel_rfl) (by kernel_rfl) 63 rfl (by kernel_rfl) ?h2 ?step2 ?fin2
  case h2 => exact StI.start _
  case step2 =>
    refine ⟨?_, ?_, ?_, ?_, ?_, ?_, ?_, ?_, ?_, ?_, ?_, ?_, ?_, trivial⟩
    · intro S w' A K hA hA0 hI hS haf hK
      have a1 : A.tmps[1]? = some (.pointer (some ⟨bt, 0, none⟩)) := (hA0 1 (by kernel_rfl)).trans rfl
      have hwB := hI.beh
      simp only at hwB
      have c0 := keep hwB t0
      have c1 := keep hwB t1
      have c2 := keep hwB t2
      have c3 := keep hwB t3
      have c4 := keep hwB t4
      have c5 := keep hwB t5
      have c6 := keep hwB t6
      have c7 := keep hwB t7
      have c8 := keep hwB t8
      have c9 := keep hwB t9
      have c10 := keep hwB t10
      have c11 := keep hwB t11
      have c12 := keep hwB t12
      have c13 := keep hwB t13
      have hk := hK _ w' (hI.quiet hS rfl (by simp) (by simp) (by simp))
      clear hA hA0 hK
      simp [Oper.wp, go_sem, a1, c0, c1, c2, c3, c4, c5, c6, c7, c8, c9, c10, c11, c12, c13]
      exact hk
    · intro S w' A K hA hA0 hI hS haf hK
      have hk := fun w'' hb => hK _ w'' (hI.call hS (by simp) rfl (by simp) (by simp) (by simp) hb)
      clear hA hA0 hK
      simp [Oper.wp, go_sem]
      refine (whole_calls 1 200 _).mono ?_
      rintro _ w'' ⟨rfl, hb⟩
      exact hk w'' hb
    · intro S w' A K hA hA0 hI hS haf hK
      have hk := fun w'' hb => hK _ w'' (hI.call hS (by simp) rfl (by simp) (by simp) (by simp) hb)
      clear hA hA0 hK
      simp [Oper.wp, go_sem]
      refine (ride_calls 175 _).mono ?_
      rintro _ w'' ⟨rfl, hb⟩
      exact hk w'' hb
    · intro S w' A K hA hA0 hI hS haf hK
      have hk := fun w'' hb => hK _ w'' (hI.call hS (by simp) rfl (by simp) (by simp) (by simp) hb)
      clear hA hA0 hK
      simp [Oper.wp, go_sem]
      refine (ride_calls 175 _).mono ?_
      rintro _ w'' ⟨rfl, hb⟩
      exact hk w'' hb
    · intro S w' A K hA hA0 hI hS haf hK
      have hk := fun w'' hb => hK _ w'' (hI.call hS (by simp) rfl (by simp) (by simp) (by simp) hb)
      clear hA hA0 hK
      simp [Oper.wp, go_sem]
      refine (ride_calls 175 _).mono ?_
      rintro _ w'' ⟨rfl, hb⟩
      exact hk w'' hb
    · intro S w' A K hA hA0 hI hS haf hK
      obtain ⟨x1, s1⟩ := haf ⟨1, .data⟩ (by simp) rfl
      obtain rfl := hI.val 1 _ _ rfl s1
      have a23 := hA 23 1 _ rfl s1
      obtain ⟨x2, s2⟩ := haf ⟨2, .data⟩ (by simp) rfl
      obtain rfl := hI.val 2 _ _ rfl s2
      have a24 := hA 24 2 _ rfl s2
      obtain ⟨x3, s3⟩ := haf ⟨3, .data⟩ (by simp) rfl
      obtain rfl := hI.val 3 _ _ rfl s3
      have a25 := hA 25 3 _ rfl s3
      obtain ⟨x4, s4⟩ := haf ⟨4, .data⟩ (by simp) rfl
      obtain rfl := hI.val 4 _ _ rfl s4
      have a26 := hA 26 4 _ rfl s4
      have hk := hK _ _ (hI.slice hS (by simp) rfl (by simp) (by simp))
      clear hA hA0 hK
      simp [Oper.wp, go_sem, a23, a24, a25, a26]
      exact hk
    · intro S w' A K hA hA0 hI hS haf hK
      obtain ⟨x0, s0⟩ := haf ⟨0, .data⟩ (by simp) rfl
      obtain rfl := hI.val 0 _ _ rfl s0
      have a22 := hA 22 0 _ rfl s0
      obtain ⟨xs, ss⟩ := haf ⟨5, .data⟩ (by simp) rfl
      obtain ⟨g, rfl, hg⟩ := hI.sli _ ss
      have a27 := hA 27 5 _ rfl ss
      have hbx := hg (hI.early (by simp) hS)
      have hTw := hT2.keep hI.beh
      have hk := fun w'' hb => hK _ w'' (hI.call hS (by simp) rfl (by simp) (by simp) (by simp) hb)
      clear hA hA0 hK
      simp [Oper.wp, go_sem, a22, a27]
      refine (hday2 g _ hTw (hsl2 _ _ hbx)).mono ?_
      rintro _ w'' ⟨rfl, hb⟩
      exact hk w'' hb
    · intro S w' A K hA hA0 hI hS haf hK
      obtain ⟨x6, s6⟩ := haf ⟨6, .data⟩ (by simp) rfl
      obtain rfl := hI.val 6 _ _ rfl s6
      have a28 := hA 28 6 _ rfl s6
      have hwB := hI.beh
      simp only at hwB
      have hk := hK _ w' (hI.quiet hS rfl (by simp) (by simp) (by simp))
      clear hA hA0 hK
      simp [Oper.wp, go_sem, a28]
      exact hk
    · intro S w' A K hA hA0 hI hS haf hK
      obtain ⟨x7, s7⟩ := haf ⟨7, .data⟩ (by simp) rfl
      obtain rfl := hI.val 7 _ _ rfl s7
      have a21 := hA 21 7 _ rfl s7
      have hwB := hI.beh
      simp only at hwB
      have hk := hK _ w' (hI.quiet hS rfl (by simp) (by simp) (by simp))
      clear hA hA0 hK
      simp [Oper.wp, go_sem, a21]
      exact hk
    · intro S w' A K hA hA0 hI hS haf hK
      obtain ⟨x7, s7⟩ := haf ⟨7, .data⟩ (by simp) rfl
      obtain rfl := hI.val 7 _ _ rfl s7
      have a21 := hA 21 7 _ rfl s7
      have hwB := hI.beh
      simp only at hwB
      have hk := hK _ w' (hI.quiet hS rfl (by simp) (by simp) (by simp))
      clear hA hA0 hK
      simp [Oper.wp, go_sem, a21]
      exact hk
    · intro S w' A K hA hA0 hI hS haf hK
      have hk := hK _ _ (hI.alloc hS (by simp) rfl (by simp) (by simp))
      clear hA hA0 hK
      simp [Oper.wp, go_sem]
      exact hk
    · intro S w' A K hA hA0 hI hS haf hK
      obtain ⟨x8, s8⟩ := haf ⟨8, .data⟩ (by simp) rfl
      obtain rfl := hI.val 8 _ _ rfl s8
      have a29 := hA 29 8 _ rfl s8
      have hall : ∀ i ∈ [0, 1, 2, 3, 4, 5, 6, 7, 8, 10], S i ≠ none := fun i hi => by
        simp at hi
        rcases hi with rfl | rfl | rfl | rfl | rfl | rfl | rfl | rfl | rfl | rfl
        · obtain ⟨u, hu⟩ := haf ⟨0, .phase⟩ (by simp) rfl; rw [hu]; simp
        · obtain ⟨u, hu⟩ := haf ⟨1, .phase⟩ (by simp) rfl; rw [hu]; simp
        · obtain ⟨u, hu⟩ := haf ⟨2, .phase⟩ (by simp) rfl; rw [hu]; simp
        · obtain ⟨u, hu⟩ := haf ⟨3, .phase⟩ (by simp) rfl; rw [hu]; simp
        · obtain ⟨u, hu⟩ := haf ⟨4, .phase⟩ (by simp) rfl; rw [hu]; simp
        · obtain ⟨u, hu⟩ := haf ⟨5, .phase⟩ (by simp) rfl; rw [hu]; simp
        · obtain ⟨u, hu⟩ := haf ⟨6, .chain⟩ (by simp) rfl; rw [hu]; simp
        · obtain ⟨u, hu⟩ := haf ⟨7, .phase⟩ (by simp) rfl; rw [hu]; simp
        · obtain ⟨u, hu⟩ := haf ⟨8, .data⟩ (by simp) rfl; rw [hu]; simp
        · obtain ⟨u, hu⟩ := haf ⟨10, .data⟩ (by simp) rfl; rw [hu]; simp
      obtain ⟨xa, sa⟩ := haf ⟨10, .data⟩ (by simp) rfl
      obtain ⟨b, rfl, hge, hz, -⟩ := hI.all _ sa
      have a4 := hA 4 10 _ rfl sa
      have hbx := hz hS
      simp only at hge hbx
      have c0 := hbx.cell 0
      have f0 := hbx.free 0
      have c1 := hbx.cell 1
      have f1 := hbx.free 1
      have c2 := hbx.cell 2
      have f2 := hbx.free 2
      have c3 := hbx.cell 3
      have f3 := hbx.free 3
      have c4 := hbx.cell 4
      have f4 := hbx.free 4
      have c5 := hbx.cell 5
      have f5 := hbx.free 5
      have c6 := hbx.cell 6
      have f6 := hbx.free 6
      simp at c0 c1 c2 c3 c4 c5 c6
      have hk := hK undef _ (hI.store hall rfl (by simp) (by simp) sa ((((((((hbx.set 0 (.int .i64 0)).set 1 (.int .i64 200)).set 2 (.int .i64 400)).set 3 (.int .i64 500)).set 4 (.int .i64 0)).set 5 (.int .i64 1)).set 6 (.int .i64 1)).cast (by simp)) (bSet (bSet (bSet (bSet (bSet (bSet (bSet hI.beh (p := ⟨b, 0, none⟩) hge (.int .i64 0)) (p := ⟨b, 1, none⟩) hge (.int .i64 200)) (p := ⟨b, 2, none⟩) hge (.int .i64 400)) (p := ⟨b, 3, none⟩) hge (.int .i64 500)) (p := ⟨b, 4, none⟩) hge (.int .i64 0)) (p := ⟨b, 5, none⟩) hge (.int .i64 1)) (p := ⟨b, 6, none⟩) hge (.int .i64 1)) undef)
      clear hA hA0 hK
      simp [Oper.wp, go_sem, a29, a4, c0, f0, c1, f1, c2, f2, c3, f3, c4, f4, c5, f5, c6, f6]
      exact hk
    · intro S w' A K hA hA0 hI hS haf hK
      obtain ⟨x9, s9⟩ := haf ⟨9, .data⟩ (by simp) rfl
      obtain rfl := hI.val 9 _ _ rfl s9
      have a30 := hA 30 9 _ rfl s9
      have hwB := hI.beh
      simp only at hwB
      have hk := hK _ w' (hI.quiet hS rfl (by simp) (by simp) (by simp))
      clear hA hA0 hK
      simp [Oper.wp, go_sem, a30]
      exact hk
  intro S wg hI hall
  obtain ⟨y0, e0⟩ := hall 0 (by decide)
  obtain ⟨y1, e1⟩ := hall 1 (by decide)
  obtain ⟨y2, e2⟩ := hall 2 (by decide)
  obtain ⟨y3, e3⟩ := hall 3 (by decide)
  obtain ⟨y4, e4⟩ := hall 4 (by decide)
  obtain ⟨y5, e5⟩ := hall 5 (by decide)
  obtain ⟨y6, e6⟩ := hall 6 (by decide)
  obtain ⟨y7, e7⟩ := hall 7 (by decide)
  obtain ⟨y8, e8⟩ := hall 8 (by decide)
  obtain ⟨y9, e9⟩ := hall 9 (by decide)
  obtain ⟨y10, e10⟩ := hall 10 (by decide)
  obtain ⟨y11, e11⟩ := hall 11 (by decide)
  obtain ⟨y12, e12⟩ := hall 12 (by decide)
  obtain rfl := hI.val 0 _ _ rfl e0
  obtain rfl := hI.val 1 _ _ rfl e1
  obtain rfl := hI.val 2 _ _ rfl e2
  obtain rfl := hI.val 3 _ _ rfl e3
  obtain rfl := hI.val 4 _ _ rfl e4
  obtain rfl := hI.val 6 _ _ rfl e6
  obtain rfl := hI.val 7 _ _ rfl e7
  obtain rfl := hI.val 8 _ _ rfl e8
  obtain rfl := hI.val 9 _ _ rfl e9
  obtain rfl := hI.val 12 _ _ rfl e12
  obtain ⟨gs, rfl, -⟩ := hI.sli _ e5
  obtain ⟨b2, rfl, hgf, HF⟩ := hI.done (by simp only; rw [e11]; simp) e10
  have hBf := hI.beh
  simp only at hgf HF hBf
  simp only [puts, e0, e1, e2, e3, e4, e5, e6, e7, e8, e9, e10, e11, e12]
  simp only [Act.put, List.setIfInBounds_toArray, List.set_cons_succ, List.set_cons_zero]
  clear hI hall e0 e1 e2 e3 e4 e5 e6 e7 e8 e9 e10 e11 e12
  clear t0 t1 t2 t3 t4 t5 t6 t7 t8 t9 t10 t11 t12 t13
  clear hday2 hsl2
  replace HX := HX.below' hBf
  replace hT2 := hT2.keep hBf
  replace hB := bThen hB hBf
  replace HD := HD.below' hBf
  have HE := HF
  clear HF hBf hgf
  obtain ⟨t0, t1, t2, t3, t4, t5, t6, t7, t8, t9, t10, t11, t12, t13⟩ := tcells HX
  have ltx := HX.lt
  have HDa := (HD).cell 0; have HDb := (HD).cell 1; have HDc := (HD).cell 2; have HDd := (HD).cell 3; have HDe := (HD).cell 4; have HDf := (HD).cell 5; have HDg := (HD).cell 6; have HDl := (HD).lt; simp at HDa HDb HDc HDd HDe HDf HDg
  go_wp2_with fail
  have hz := bAlloc (Below.refl wg.heap.size wg) (.cells #[.int .i64 0, .int .i64 900, .int .i64 0, .int .i64 700, .int .i64 0, .int .i64 1, .int .i64 2, .int .i64 1, .int .i64 0, .int .i64 0, .int .i64 0, .int .i64 900, .int .i64 0, .int .i64 0] 57)
  have HS := Box.new wg #[.int .i64 0, .int .i64 900, .int .i64 0, .int .i64 700, .int .i64 0, .int .i64 1, .int .i64 2, .int .i64 1, .int .i64 0, .int .i64 0, .int .i64 0, .int .i64 900, .int .i64 0, .int .i64 0] 57
  have hsl : SliceAt _ 7 DayC.vals (some ⟨wg.heap.size, 0, none⟩) [⟨0, 900, 0, 700, 0, 1, 2⟩, ⟨1, 0, 0, 0, 900, 0, 0⟩] := sliceAt_box HS (fun _ => rfl) (by simp) (fun k v hk => by simpa [DayC.vals] using hk)
  have hwk := fun W h1 h2 => week_calls t19 m [⟨0, 900, 0, 700, 0, 1, 2⟩, ⟨1, 0, 0, 0, 900, 0, 0⟩] (some ⟨wg.heap.size, 0, none⟩) 2 W h1 h2
  rw [t19_c] at hwk
  simp only [List.length_cons, List.length_nil, Nat.reduceAdd] at hwk
  with_reducible refine (hwk _ (hT2.keep hz) hsl).mono ?_
  rintro _ wh ⟨rfl, hb⟩
  have hzb := bThen hz hb
  replace HD := HD.below' hzb
  replace HE := HE.below' hzb
  replace hB := bThen hB hzb
  clear hz hb hzb HS hsl hwk HDa HDb HDc HDd HDe HDf HDg HDl ltx
  clear t0 t1 t2 t3 t4 t5 t6 t7 t8 t9 t10 t11 t12 t13
  have HDa := (HD).cell 0; have HDb := (HD).cell 1; have HDc := (HD).cell 2; have HDd := (HD).cell 3; have HDe := (HD).cell 4; have HDf := (HD).cell 5; have HDg := (HD).cell 6; have HDl := (HD).lt; simp at HDa HDb HDc HDd HDe HDf HDg
  have HEa := (HE).cell 0; have HEb := (HE).cell 1; have HEc := (HE).cell 2; have HEd := (HE).cell 3; have HEe := (HE).cell 4; have HEf := (HE).cell 5; have HEg := (HE).cell 6; have HEl := (HE).lt; simp at HEa HEb HEc HEd HEe HEf HEg
  go_wp2_with fail
  go_ret
  exact ⟨rfl, hB⟩
end Go.Proofs.Ytmeogadkbbeglaa
