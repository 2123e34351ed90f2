/- Printed by the turned printer (wip/fltpatch.py, wip/tools/pp.sh) out of the translation: what functions compute, and their walks. -/
import Derived.Test.YtmeogadkbbeglaaK2
import Derived.Test.YtmeogadkbbeglaaK10
import Derived.Test.YtmeogadkbbeglaaK5
import Derived.Test.YtmeogadkbbeglaaK9
namespace Go.Proofs.YtmeogadkbbeglaaQ
open Go.RowKit Go.Proofs.YtmeogadkbbeglaaW.PrintWords Go.Proofs.YtmeogadkbbeglaaW.PrintLast Go.Proofs.YtmeogadkbbeglaaW.PrintMore
attribute [local go_sem] max2_int min2_int max_two min_two max_three min_three max_four min_four   -- for this text's walks alone
set_option linter.unusedVariables false
set_option linter.unusedSimpArgs false
mutual
def fareboxlaw19_CapsHold.j0 : Nat → Int → List (List (S55)) → Bool → Bool → List (S35) → List (S39) → List (S48) → Nat → Int → Int → Int → Int → Int → Int → Int → Int → Int → Int → Option (Bool)
  | 0, _, _, _, _, _, _, _, _, _, _, _, _, _, _, _, _, _, _ => none
  | k + 1, x1, x2, x7, x33, x138000, x138001, x138002, x138003, x138004, x138005, x138006, x138007, x138008, x138009, x138010, x138011, x138012, x138013 => if x33 = true then (some x7) else ((fareboxlaw19_days.f k x138000 x138001 x138002 x138003 x138004 x138005 x138006 x138007 x138008 x138009 x138010 x138011 x138012 x138013 (wrap64 (7 * x1)) x2).bind fun bt139 => (if bt139.2 = true then (fareboxlaw19_CapsHold.l0 k bt139.1 0 0 0 0 0 x138000 x138001 x138002 x138003 x138004 x138005 x138006 x138007 x138008 x138009 x138010 x138011 x138012 x138013) else (some true)))
def fareboxlaw19_CapsHold.l0 : Nat → List (S57) → Int → Int → Int → Int → Int → List (S35) → List (S39) → List (S48) → Nat → Int → Int → Int → Int → Int → Int → Int → Int → Int → Int → Option (Bool)
  | 0, _, _, _, _, _, _, _, _, _, _, _, _, _, _, _, _, _, _, _, _ => none
  | k + 1, x8, x10, x11, x12, x13, x14, x138000, x138001, x138002, x138003, x138004, x138005, x138006, x138007, x138008, x138009, x138010, x138011, x138012, x138013 => if x14 < (x8.length : Int) then (if 0 ≤ x14 then ((tariff_Span.f x138000 x138001 x138002 x138003 x138004 x138005 x138006 x138007 x138008 x138009 x138010 x138011 x138012 x138013 ((rd_T57 x8 x14).f5) ((rd_T57 x8 x14).f6)).bind fun bt145 => (if ((rd_T57 x8 x14).f3) > (wrap64 (((rd_T57 x8 x14).f1) + ((rd_T57 x8 x14).f2))) then (fareboxlaw19_CapsHold.j2 k x8 x10 x11 x12 x13 x14 true x138000 x138001 x138002 x138003 x138004 x138005 x138006 x138007 x138008 x138009 x138010 x138011 x138012 x138013 ((rd_T57 x8 x14).f0) ((rd_T57 x8 x14).f1) ((rd_T57 x8 x14).f2) ((rd_T57 x8 x14).f3) ((rd_T57 x8 x14).f4) ((rd_T57 x8 x14).f5) ((rd_T57 x8 x14).f6)) else (if ((rd_T57 x8 x14).f3) > (mx bt145.2.2.2.1 x138005) then (fareboxlaw19_CapsHold.j2 k x8 x10 x11 x12 x13 x14 true x138000 x138001 x138002 x138003 x138004 x138005 x138006 x138007 x138008 x138009 x138010 x138011 x138012 x138013 ((rd_T57 x8 x14).f0) ((rd_T57 x8 x14).f1) ((rd_T57 x8 x14).f2) ((rd_T57 x8 x14).f3) ((rd_T57 x8 x14).f4) ((rd_T57 x8 x14).f5) ((rd_T57 x8 x14).f6)) else (if ((rd_T57 x8 x14).f2) > x138005 then (fareboxlaw19_CapsHold.j2 k x8 x10 x11 x12 x13 x14 true x138000 x138001 x138002 x138003 x138004 x138005 x138006 x138007 x138008 x138009 x138010 x138011 x138012 x138013 ((rd_T57 x8 x14).f0) ((rd_T57 x8 x14).f1) ((rd_T57 x8 x14).f2) ((rd_T57 x8 x14).f3) ((rd_T57 x8 x14).f4) ((rd_T57 x8 x14).f5) ((rd_T57 x8 x14).f6)) else (fareboxlaw19_CapsHold.j2 k x8 x10 x11 x12 x13 x14 (decide (((rd_T57 x8 x14).f3) < ((rd_T57 x8 x14).f2))) x138000 x138001 x138002 x138003 x138004 x138005 x138006 x138007 x138008 x138009 x138010 x138011 x138012 x138013 ((rd_T57 x8 x14).f0) ((rd_T57 x8 x14).f1) ((rd_T57 x8 x14).f2) ((rd_T57 x8 x14).f3) ((rd_T57 x8 x14).f4) ((rd_T57 x8 x14).f5) ((rd_T57 x8 x14).f6)))))) else (none)) else ((caps_Week.f x138000 x138001 x138002 x138003 x138004 x138005 x138006 x138007 x138008 x138009 x138010 x138011 x138012 x138013 x8).bind fun bt152 => (if bt152.2 = 0 then ((tariff_Span.f x138000 x138001 x138002 x138003 x138004 x138005 x138006 x138007 x138008 x138009 x138010 x138011 x138012 x138013 x12 x13).bind fun bt154 => (if bt152.1 ≤ x10 then (if bt152.1 ≤ (wrap64 ((mx bt154.2.2.2.2.1 x138006) + x11)) then (some (decide (bt152.1 ≥ x11))) else (some false)) else (some false))) else ((tariff_Right.f x138000 x138001 x138002 x138003 x138004 x138005 x138006 x138007 x138008 x138009 x138010 x138011 x138012 x138013).bind fun t161 => (some (t161 == bt152.2)))))
def fareboxlaw19_CapsHold.j2 : Nat → List (S57) → Int → Int → Int → Int → Int → Bool → List (S35) → List (S39) → List (S48) → Nat → Int → Int → Int → Int → Int → Int → Int → Int → Int → Int → Int → Int → Int → Int → Int → Int → Int → Option (Bool)
  | 0, _, _, _, _, _, _, _, _, _, _, _, _, _, _, _, _, _, _, _, _, _, _, _, _, _, _, _, _ => none
  | k + 1, x8, x10, x11, x12, x13, x14, x95, x138000, x138001, x138002, x138003, x138004, x138005, x138006, x138007, x138008, x138009, x138010, x138011, x138012, x138013, x145000, x145001, x145002, x145003, x145004, x145005, x145006 => if x95 = true then (some false) else (if x145005 > 0 then (if x12 = 0 then (fareboxlaw19_CapsHold.l0 k x8 (wrap64 ((wrap64 (x10 + x145003)) + x145004)) (wrap64 (x11 + x145004)) x145005 (mx x13 x145006) (wrap64 (x14 + 1)) x138000 x138001 x138002 x138003 x138004 x138005 x138006 x138007 x138008 x138009 x138010 x138011 x138012 x138013) else (if x145005 < x12 then (fareboxlaw19_CapsHold.l0 k x8 (wrap64 ((wrap64 (x10 + x145003)) + x145004)) (wrap64 (x11 + x145004)) x145005 (mx x13 x145006) (wrap64 (x14 + 1)) x138000 x138001 x138002 x138003 x138004 x138005 x138006 x138007 x138008 x138009 x138010 x138011 x138012 x138013) else (fareboxlaw19_CapsHold.l0 k x8 (wrap64 ((wrap64 (x10 + x145003)) + x145004)) (wrap64 (x11 + x145004)) x12 (mx x13 x145006) (wrap64 (x14 + 1)) x138000 x138001 x138002 x138003 x138004 x138005 x138006 x138007 x138008 x138009 x138010 x138011 x138012 x138013))) else (fareboxlaw19_CapsHold.l0 k x8 (wrap64 ((wrap64 (x10 + x145003)) + x145004)) (wrap64 (x11 + x145004)) x12 (mx x13 x145006) (wrap64 (x14 + 1)) x138000 x138001 x138002 x138003 x138004 x138005 x138006 x138007 x138008 x138009 x138010 x138011 x138012 x138013))
end
def fareboxlaw19_CapsHold.f (k : Nat) (l0_0 : List (S35)) (l0_1 : List (S39)) (l0_2 : List (S48)) (a0_3 : Nat) (a0_4 : Int) (a0_5 : Int) (a0_6 : Int) (a0_7 : Int) (a0_8 : Int) (a0_9 : Int) (a0_10 : Int) (a0_11 : Int) (a0_12 : Int) (a0_13 : Int) (a1 : Int) (l2 : List (List (S55))) : Option (Bool) := (fareboxlaw19_awake.f).bind fun t138 => (if t138 = true then (if a1 < 0 then (fareboxlaw19_CapsHold.j0 k a1 l2 t138 true l0_0 l0_1 l0_2 a0_3 a0_4 a0_5 a0_6 a0_7 a0_8 a0_9 a0_10 a0_11 a0_12 a0_13) else (fareboxlaw19_CapsHold.j0 k a1 l2 t138 (decide (a1 > 100000)) l0_0 l0_1 l0_2 a0_3 a0_4 a0_5 a0_6 a0_7 a0_8 a0_9 a0_10 a0_11 a0_12 a0_13)) else (fareboxlaw19_CapsHold.j0 k a1 l2 t138 true l0_0 l0_1 l0_2 a0_3 a0_4 a0_5 a0_6 a0_7 a0_8 a0_9 a0_10 a0_11 a0_12 a0_13))
set_option maxHeartbeats 8000000 in
set_option maxRecDepth 100000 in
theorem fareboxlaw19_CapsHold.calls (k : Nat) (A0_0 : Option Addr) (c0_0 : Nat) (l0_0 : List (S35)) (A0_1 : Option Addr) (c0_1 : Nat) (l0_1 : List (S39)) (A0_2 : Option Addr) (c0_2 : Nat) (l0_2 : List (S48)) (a0_3 : Nat) (a0_4 : Int) (a0_5 : Int) (a0_6 : Int) (a0_7 : Int) (a0_8 : Int) (a0_9 : Int) (a0_10 : Int) (a0_11 : Int) (a0_12 : Int) (a0_13 : Int) (a1 : Int) (A2 : Option Addr) (c2 : Nat) (l2 : List (List (S55))) (r : Bool) (w : World) (hr0_0 : Kd.C k35 w A0_0 l0_0.length l0_0) (hc0_0 : l0_0.length ≤ c0_0) (hr0_1 : Kd.C k39 w A0_1 l0_1.length l0_1) (hc0_1 : l0_1.length ≤ c0_1) (hr0_2 : Kd.C k48 w A0_2 l0_2.length l0_2) (hc0_2 : l0_2.length ≤ c0_2) (hr2 : Kd.C (Kd.slice 55 k55) w A2 l2.length l2) (hc2 : l2.length ≤ c2) (h : fareboxlaw19_CapsHold.f k l0_0 l0_1 l0_2 a0_3 a0_4 a0_5 a0_6 a0_7 a0_8 a0_9 a0_10 a0_11 a0_12 a0_13 a1 l2 = some r) :
    Calls Try.prog 12 #[.agg #[.slice A0_0 l0_0.length c0_0, .slice A0_1 l0_1.length c0_1, .slice A0_2 l0_2.length c0_2, .float .f64 a0_3, .int .i64 a0_4, .int .i64 a0_5, .int .i64 a0_6, .int .i64 a0_7, .int .i64 a0_8, .int .i64 a0_9, .int .i64 a0_10, .int .i64 a0_11, .int .i64 a0_12, .int .i64 a0_13], .int .i64 a1, .slice A2 l2.length c2] w fun e w' => e = .returned (.bool r) ∧ Below w.heap.size w w' := by
  have hu27 := Try.underlying27
  have hu57 := Try.underlying57
  have hu39 := Try.underlying39
  have HR0_0 := Aside0.mk hr0_0
  have HC0_0 := Aside0.mk hc0_0
  clear hr0_0 hc0_0
  have HR0_1 := Aside0.mk hr0_1
  have HC0_1 := Aside0.mk hc0_1
  clear hr0_1 hc0_1
  have HR0_2 := Aside0.mk hr0_2
  have HC0_2 := Aside0.mk hc0_2
  clear hr0_2 hc0_2
  have HR2 := Aside0.mk hr2
  have HC2 := Aside0.mk hc2
  clear hr2 hc2
  have HB := Aside0.mk (Below.refl w.heap.size w)
  have H : ((fareboxlaw19_awake.f).bind fun t138 => (if t138 = true then (if a1 < 0 then (fareboxlaw19_CapsHold.j0 k a1 l2 t138 true l0_0 l0_1 l0_2 a0_3 a0_4 a0_5 a0_6 a0_7 a0_8 a0_9 a0_10 a0_11 a0_12 a0_13) else (fareboxlaw19_CapsHold.j0 k a1 l2 t138 (decide (a1 > 100000)) l0_0 l0_1 l0_2 a0_3 a0_4 a0_5 a0_6 a0_7 a0_8 a0_9 a0_10 a0_11 a0_12 a0_13)) else (fareboxlaw19_CapsHold.j0 k a1 l2 t138 true l0_0 l0_1 l0_2 a0_3 a0_4 a0_5 a0_6 a0_7 a0_8 a0_9 a0_10 a0_11 a0_12 a0_13))) = some r := h
  clear h
  replace H := Option.bind_eq_some_iff.mp H
  obtain ⟨t138, A40, H⟩ := H
  replace H : (if t138 = true then (if a1 < 0 then (fareboxlaw19_CapsHold.j0 k a1 l2 t138 true l0_0 l0_1 l0_2 a0_3 a0_4 a0_5 a0_6 a0_7 a0_8 a0_9 a0_10 a0_11 a0_12 a0_13) else (fareboxlaw19_CapsHold.j0 k a1 l2 t138 (decide (a1 > 100000)) l0_0 l0_1 l0_2 a0_3 a0_4 a0_5 a0_6 a0_7 a0_8 a0_9 a0_10 a0_11 a0_12 a0_13)) else (fareboxlaw19_CapsHold.j0 k a1 l2 t138 true l0_0 l0_1 l0_2 a0_3 a0_4 a0_5 a0_6 a0_7 a0_8 a0_9 a0_10 a0_11 a0_12 a0_13)) = some r := H
  have A4 := Aside0.mk A40
  clear A40
  have HC5 := Aside0.mk H
  clear H
  go_enter Try.func12, Try.ntmps12
  go_upto_region 2 with (first | ((with_reducible refine gate_dst (N := 3) rfl ?_); (try (refine gate_guard (by rfl) ?_; dsimp only)); refine box_event ?hg (N := 3) ?hd (cs := #[.slice A0_0 l0_0.length c0_0, .slice A0_1 l0_1.length c0_1, .slice A0_2 l0_2.length c0_2, .float .f64 a0_3, .int .i64 a0_4, .int .i64 a0_5, .int .i64 a0_6, .int .i64 a0_7, .int .i64 a0_8, .int .i64 a0_9, .int .i64 a0_10, .int .i64 a0_11, .int .i64 a0_12, .int .i64 a0_13]) (t := 27) ?hr ?_; (case hd => rfl); (case hg => rfl); (case hr => first | (go_simp; done) | (go_simp; rfl)); intro gb137 hg w6 hbox hb; have n0_ := Aside0.mk (below_step (by repeat (first | (with_reducible first | exact HB.out | apply below_alloc | apply pw_below_drewN | apply below_drew1) | exact HB.out)) hb); have n1_ := Aside0.mk (hbox); have n2_ := Aside0.mk ((by rw [hg]; exact (below_size (by repeat (first | (with_reducible first | exact HB.out | apply below_alloc | apply pw_below_drewN | apply below_drew1) | exact HB.out))) : w.heap.size ≤ gb137)); have n3_ := Aside0.mk ((by rw [hg]; exact (below_size (by repeat (first | (with_reducible first | exact HB.out | apply below_alloc | apply pw_below_drewN | apply below_drew1) | exact HB.out))) : w.heap.size ≤ gb137)); clear HB; have HB := n0_; have BK137 := n1_; have GW137 := n2_; have GE137 := n3_; clear n0_ n1_ n2_ n3_; clear hb hbox hg) | ((with_reducible refine gate_callee (f := 41) rfl ?_); refine goesL_ (some 23) rfl rfl Try.func41 (by kernel_rfl) rfl #[] rfl (by (try simp only [List.map_toArray, List.map_cons, List.map_nil]); first | done | rfl | (simp only [List.length_drop, List.length_take]; rfl)) ?_; (with_reducible refine (fareboxlaw19_awake.calls  t138 _ A4.out).mono ?_); rintro e w7 ⟨rfl, hb⟩; refine ⟨_, rfl, ?_⟩; have n0_ := Aside0.mk (blk_below (g := gb137) (o := .cells #[.slice A0_0 l0_0.length c0_0, .slice A0_1 l0_1.length c0_1, .slice A0_2 l0_2.length c0_2, .float .f64 a0_3, .int .i64 a0_4, .int .i64 a0_5, .int .i64 a0_6, .int .i64 a0_7, .int .i64 a0_8, .int .i64 a0_9, .int .i64 a0_10, .int .i64 a0_11, .int .i64 a0_12, .int .i64 a0_13] 27 (0, 0)) (by (with_reducible repeat (first | refine blk_drewN ?_ _ | refine blk_drew ?_ | refine blk_alloc ?_ _)); exact BK137.out) hb); have n1_ := Aside0.mk (below_step (by repeat (first | (with_reducible first | exact HB.out | apply below_alloc | apply pw_below_drewN | apply below_drew1 | refine below_set ?_ GE137.out) | exact HB.out)) hb); clear BK137; clear HB; have BK137 := n0_; have HB := n1_; clear n0_ n1_; (try clear hb); (try clear hb2); (try clear hk); (try clear hi)))
  (try simp only [Act.put, List.setIfInBounds_toArray, List.set_cons_zero, List.set_cons_succ])
  go_cut [33] (fun v33 wc => ∃ (kq : Nat) (x33_4 : Bool), v33 = .bool x33_4 ∧ Aside0 (fareboxlaw19_CapsHold.j0 kq a1 l2 t138 x33_4 l0_0 l0_1 l0_2 a0_3 a0_4 a0_5 a0_6 a0_7 a0_8 a0_9 a0_10 a0_11 a0_12 a0_13 = some r) ∧ Aside0 (kq ≤ k) ∧ Aside0 (wc.heap[gb137]? = some (.cells #[(.slice A0_0 l0_0.length c0_0), (.slice A0_1 l0_1.length c0_1), (.slice A0_2 l0_2.length c0_2), .float .f64 a0_3, .int .i64 a0_4, .int .i64 a0_5, .int .i64 a0_6, .int .i64 a0_7, .int .i64 a0_8, .int .i64 a0_9, .int .i64 a0_10, .int .i64 a0_11, .int .i64 a0_12, .int .i64 a0_13] 27 (0, 0))) ∧ Aside0 (Below w.heap.size w wc))
  case first =>
    have H := HC5.out
    clear HC5
    by_cases c8 : t138 = true
    · subst c8
      have H1 : (if a1 < 0 then (fareboxlaw19_CapsHold.j0 k a1 l2 true true l0_0 l0_1 l0_2 a0_3 a0_4 a0_5 a0_6 a0_7 a0_8 a0_9 a0_10 a0_11 a0_12 a0_13) else (fareboxlaw19_CapsHold.j0 k a1 l2 true (decide (a1 > 100000)) l0_0 l0_1 l0_2 a0_3 a0_4 a0_5 a0_6 a0_7 a0_8 a0_9 a0_10 a0_11 a0_12 a0_13)) = some r := by rw [if_pos rfl] at H; exact H
      clear H
      have H := H1
      clear H1
      by_cases c9 : a1 < 0
      · rw [if_pos c9] at H
        have c9b0 : decide (a1 < 0) = true := decide_eq_true c9
        clear c9
        (first | rw [c9b0] | (simp only [i64_w, i32_w]; rw [c9b0]) | skip)
        have H' := Aside0.mk H
        clear H
        go_wp2
        go_meet
        case rel => exact ⟨_, (true), (by first | rfl | (simp; done) | (simp [*]; done)), H', ⟨by first | omega | exact Nat.le_refl _⟩, ⟨by (with_reducible repeat (first | refine blk_drewN ?_ _ | refine blk_drew ?_ | refine blk_alloc ?_ _)); exact BK137.out⟩, ⟨by repeat (first | (with_reducible first | exact HB.out | apply below_alloc | apply pw_below_drewN | apply below_drew1 | refine below_set ?_ GE137.out) | exact HB.out)⟩⟩
      · rw [if_neg c9] at H
        have c9b0 : decide (a1 < 0) = false := decide_eq_false c9
        clear c9
        (first | rw [c9b0] | (simp only [i64_w, i32_w]; rw [c9b0]) | skip)
        have H' := Aside0.mk H
        clear H
        go_wp2
        go_meet
        case rel => exact ⟨_, (decide (a1 > 100000)), (by first | rfl | (simp; done) | (simp [*]; done)), H', ⟨by first | omega | exact Nat.le_refl _⟩, ⟨by (with_reducible repeat (first | refine blk_drewN ?_ _ | refine blk_drew ?_ | refine blk_alloc ?_ _)); exact BK137.out⟩, ⟨by repeat (first | (with_reducible first | exact HB.out | apply below_alloc | apply pw_below_drewN | apply below_drew1 | refine below_set ?_ GE137.out) | exact HB.out)⟩⟩
    · replace c8 := Bool.eq_false_iff.mpr c8
      subst c8
      have H1 : (fareboxlaw19_CapsHold.j0 k a1 l2 false true l0_0 l0_1 l0_2 a0_3 a0_4 a0_5 a0_6 a0_7 a0_8 a0_9 a0_10 a0_11 a0_12 a0_13) = some r := by rw [if_neg (show ¬ (false = true) by decide)] at H; exact H
      clear H
      have H := H1
      clear H1
      have H' := Aside0.mk H
      clear H
      go_wp2
      go_meet
      case rel => exact ⟨_, (true), (by first | rfl | (simp; done) | (simp [*]; done)), H', ⟨by first | omega | exact Nat.le_refl _⟩, ⟨by (with_reducible repeat (first | refine blk_drewN ?_ _ | refine blk_drew ?_ | refine blk_alloc ?_ _)); exact BK137.out⟩, ⟨by repeat (first | (with_reducible first | exact HB.out | apply below_alloc | apply pw_below_drewN | apply below_drew1 | refine below_set ?_ GE137.out) | exact HB.out)⟩⟩
  case rest =>
    clear HC5
    try clear c1
    try clear c2
    try clear p2
    try clear c4
    try clear c8
    try clear c9
    try clear c9b0
    obtain ⟨kq, x33_4, rfl, HA, HJ4, BK137, HB⟩ := hcut
    cases kq with
    | zero => exact absurd HA.out (by simp [fareboxlaw19_CapsHold.j0])
    | succ kj4 =>
      have H := HA.out
      clear HA
      simp only [fareboxlaw19_CapsHold.j0] at H
      by_cases c10 : x33_4 = true
      · subst c10
        have H1 : (some t138) = some r := by rw [if_pos rfl] at H; exact H
        clear H
        have H := H1
        clear H1
        obtain rfl := Option.some.inj H
        go_wp2
        go_ret
        exact ⟨by first | rfl | (simp [errW_none, errW_some] <;> rfl) | (simp [*, errW_none, errW_some] <;> rfl), by repeat (first | (with_reducible first | exact HB.out | apply below_alloc | apply pw_below_drewN | apply below_drew1 | refine below_set ?_ GE137.out) | exact HB.out)⟩
      · replace c10 := Bool.eq_false_iff.mpr c10
        subst c10
        have H1 : ((fareboxlaw19_days.f kj4 l0_0 l0_1 l0_2 a0_3 a0_4 a0_5 a0_6 a0_7 a0_8 a0_9 a0_10 a0_11 a0_12 a0_13 (wrap64 (7 * a1)) l2).bind fun bt139 => (if bt139.2 = true then (fareboxlaw19_CapsHold.l0 kj4 bt139.1 0 0 0 0 0 l0_0 l0_1 l0_2 a0_3 a0_4 a0_5 a0_6 a0_7 a0_8 a0_9 a0_10 a0_11 a0_12 a0_13) else (some true))) = some r := by rw [if_neg (show ¬ (false = true) by decide)] at H; exact H
        clear H
        have H := H1
        clear H1
        replace H := Option.bind_eq_some_iff.mp H
        obtain ⟨⟨t139, t142⟩, A110, H⟩ := H
        replace H : (if t142 = true then (fareboxlaw19_CapsHold.l0 kj4 t139 0 0 0 0 0 l0_0 l0_1 l0_2 a0_3 a0_4 a0_5 a0_6 a0_7 a0_8 a0_9 a0_10 a0_11 a0_12 a0_13) else (some true)) = some r := H
        have A11 := Aside0.mk A110
        clear A110
        by_cases c12 : t142 = true
        · subst c12
          have H1 : (fareboxlaw19_CapsHold.l0 kj4 t139 0 0 0 0 0 l0_0 l0_1 l0_2 a0_3 a0_4 a0_5 a0_6 a0_7 a0_8 a0_9 a0_10 a0_11 a0_12 a0_13) = some r := by rw [if_pos rfl] at H; exact H
          clear H
          have H := H1
          clear H1
          have H' := Aside0.mk H
          clear H
          have hcz13_0 : wc.cell? ⟨gb137, 0, none⟩ = some (.slice A0_0 l0_0.length c0_0) := (blk_cell BK137.out 0).trans rfl
          have hcz13_1 : wc.cell? ⟨gb137, 1, none⟩ = some (.slice A0_1 l0_1.length c0_1) := (blk_cell BK137.out 1).trans rfl
          have hcz13_2 : wc.cell? ⟨gb137, 2, none⟩ = some (.slice A0_2 l0_2.length c0_2) := (blk_cell BK137.out 2).trans rfl
          have hcz13_3 : wc.cell? ⟨gb137, 3, none⟩ = some (.float .f64 a0_3) := (blk_cell BK137.out 3).trans rfl
          have hcz13_4 : wc.cell? ⟨gb137, 4, none⟩ = some (.int .i64 a0_4) := (blk_cell BK137.out 4).trans rfl
          have hcz13_5 : wc.cell? ⟨gb137, 5, none⟩ = some (.int .i64 a0_5) := (blk_cell BK137.out 5).trans rfl
          have hcz13_6 : wc.cell? ⟨gb137, 6, none⟩ = some (.int .i64 a0_6) := (blk_cell BK137.out 6).trans rfl
          have hcz13_7 : wc.cell? ⟨gb137, 7, none⟩ = some (.int .i64 a0_7) := (blk_cell BK137.out 7).trans rfl
          have hcz13_8 : wc.cell? ⟨gb137, 8, none⟩ = some (.int .i64 a0_8) := (blk_cell BK137.out 8).trans rfl
          have hcz13_9 : wc.cell? ⟨gb137, 9, none⟩ = some (.int .i64 a0_9) := (blk_cell BK137.out 9).trans rfl
          have hcz13_10 : wc.cell? ⟨gb137, 10, none⟩ = some (.int .i64 a0_10) := (blk_cell BK137.out 10).trans rfl
          have hcz13_11 : wc.cell? ⟨gb137, 11, none⟩ = some (.int .i64 a0_11) := (blk_cell BK137.out 11).trans rfl
          have hcz13_12 : wc.cell? ⟨gb137, 12, none⟩ = some (.int .i64 a0_12) := (blk_cell BK137.out 12).trans rfl
          have hcz13_13 : wc.cell? ⟨gb137, 13, none⟩ = some (.int .i64 a0_13) := (blk_cell BK137.out 13).trans rfl
          have hfz13_0 := blk_frozen BK137.out 0
          have hfz13_1 := blk_frozen BK137.out 1
          have hfz13_2 := blk_frozen BK137.out 2
          have hfz13_3 := blk_frozen BK137.out 3
          have hfz13_4 := blk_frozen BK137.out 4
          have hfz13_5 := blk_frozen BK137.out 5
          have hfz13_6 := blk_frozen BK137.out 6
          have hfz13_7 := blk_frozen BK137.out 7
          have hfz13_8 := blk_frozen BK137.out 8
          have hfz13_9 := blk_frozen BK137.out 9
          have hfz13_10 := blk_frozen BK137.out 10
          have hfz13_11 := blk_frozen BK137.out 11
          have hfz13_12 := blk_frozen BK137.out 12
          have hfz13_13 := blk_frozen BK137.out 13
          go_wp2_with (first | ((with_reducible refine gate_callee (f := 46) rfl ?_); refine goesL_ (some 40) rfl rfl Try.func46 (by kernel_rfl) rfl #[.agg #[.slice A0_0 l0_0.length c0_0, .slice A0_1 l0_1.length c0_1, .slice A0_2 l0_2.length c0_2, .float .f64 a0_3, .int .i64 a0_4, .int .i64 a0_5, .int .i64 a0_6, .int .i64 a0_7, .int .i64 a0_8, .int .i64 a0_9, .int .i64 a0_10, .int .i64 a0_11, .int .i64 a0_12, .int .i64 a0_13], .int .i64 (wrap64 (7 * a1)), .slice A2 l2.length c2] rfl (by (try simp only [List.map_toArray, List.map_cons, List.map_nil]); first | done | rfl | (simp only [List.length_drop, List.length_take]; rfl)) ?_; (with_reducible refine (fareboxlaw19_days.calls kj4 _ _ l0_0 _ _ l0_1 _ _ l0_2 a0_3 a0_4 a0_5 a0_6 a0_7 a0_8 a0_9 a0_10 a0_11 a0_12 a0_13 (wrap64 (7 * a1)) _ _ l2 t139 true _ ?side1 ?side2 ?side3 ?side4 ?side5 ?side6 ?side7 ?side8 A11.out).mono ?_); (case side1 => repeat (first | exact (Kd.C_below HR0_0.out HB.out) | (with_reducible refine Kd.C_alloc ?_ _) | (with_reducible refine Kd.C_drewN ?_ _) | (with_reducible refine Kd.C_drew ?_))); (case side2 => exact HC0_0.out); (case side3 => repeat (first | exact (Kd.C_below HR0_1.out HB.out) | (with_reducible refine Kd.C_alloc ?_ _) | (with_reducible refine Kd.C_drewN ?_ _) | (with_reducible refine Kd.C_drew ?_))); (case side4 => exact HC0_1.out); (case side5 => repeat (first | exact (Kd.C_below HR0_2.out HB.out) | (with_reducible refine Kd.C_alloc ?_ _) | (with_reducible refine Kd.C_drewN ?_ _) | (with_reducible refine Kd.C_drew ?_))); (case side6 => exact HC0_2.out); (case side7 => repeat (first | exact (Kd.C_below HR2.out HB.out) | (with_reducible refine Kd.C_alloc ?_ _) | (with_reducible refine Kd.C_drewN ?_ _) | (with_reducible refine Kd.C_drew ?_))); (case side8 => exact HC2.out); rintro e w14 ⟨v140, rfl, ho0, hb⟩; refine ⟨_, rfl, ?_⟩; have n0_ := Aside0.mk (Kd.R_lower ho0 (below_size (by repeat (first | (with_reducible first | exact HB.out | apply below_alloc | apply pw_below_drewN | apply below_drew1 | refine below_set ?_ GE137.out) | exact HB.out)))); have n1_ := Aside0.mk (blk_below (g := gb137) (o := .cells #[.slice A0_0 l0_0.length c0_0, .slice A0_1 l0_1.length c0_1, .slice A0_2 l0_2.length c0_2, .float .f64 a0_3, .int .i64 a0_4, .int .i64 a0_5, .int .i64 a0_6, .int .i64 a0_7, .int .i64 a0_8, .int .i64 a0_9, .int .i64 a0_10, .int .i64 a0_11, .int .i64 a0_12, .int .i64 a0_13] 27 (0, 0)) (by (with_reducible repeat (first | refine blk_drewN ?_ _ | refine blk_drew ?_ | refine blk_alloc ?_ _)); exact BK137.out) hb); have n2_ := Aside0.mk (below_step (by repeat (first | (with_reducible first | exact HB.out | apply below_alloc | apply pw_below_drewN | apply below_drew1 | refine below_set ?_ GE137.out) | exact HB.out)) hb); clear BK137; clear HB; have HO141 := n0_; have BK137 := n1_; have HB := n2_; clear n0_ n1_ n2_; (try clear hb); (try clear hb2); (try clear hk); (try clear hi); (try clear ho0)))
          go_loopg [10, 11, 12, 13, 14] kj4 (fun kq v10 v11 v12 v13 v14 w' => ∃ (x10_2 : Int) (x11_2 : Int) (x12_2 : Int) (x13_2 : Int) (x14_2 : Int), v10 = .int .i64 x10_2 ∧ v11 = .int .i64 x11_2 ∧ v12 = .int .i64 x12_2 ∧ v13 = .int .i64 x13_2 ∧ v14 = .int .i64 x14_2 ∧ Aside0 (fareboxlaw19_CapsHold.l0 kq t139 x10_2 x11_2 x12_2 x13_2 x14_2 l0_0 l0_1 l0_2 a0_3 a0_4 a0_5 a0_6 a0_7 a0_8 a0_9 a0_10 a0_11 a0_12 a0_13 = some r) ∧ Aside0 (kq ≤ kj4) ∧ Aside0 (Kd.R k57 57 w' w.heap.size (fun _ => True) v140 t139) ∧ Aside0 (w'.heap[gb137]? = some (.cells #[(.slice A0_0 l0_0.length c0_0), (.slice A0_1 l0_1.length c0_1), (.slice A0_2 l0_2.length c0_2), .float .f64 a0_3, .int .i64 a0_4, .int .i64 a0_5, .int .i64 a0_6, .int .i64 a0_7, .int .i64 a0_8, .int .i64 a0_9, .int .i64 a0_10, .int .i64 a0_11, .int .i64 a0_12, .int .i64 a0_13] 27 (0, 0))) ∧ Aside0 (Below w.heap.size w w'))
          case atStart => exact ⟨(0), (0), (0), (0), (0), (by first | rfl | (simp; done) | (simp [*]; done)), (by first | rfl | (simp; done) | (simp [*]; done)), (by first | rfl | (simp; done) | (simp [*]; done)), (by first | rfl | (simp; done) | (simp [*]; done)), (by first | rfl | (simp; done) | (simp [*]; done)), H', ⟨Nat.le_refl _⟩, ⟨by (with_reducible repeat (first | apply Kd.R_alloc | apply Kd.R_drewN | apply Kd.R_drew)); exact HO141.out⟩, ⟨by (with_reducible repeat (first | refine blk_drewN ?_ _ | refine blk_drew ?_ | refine blk_alloc ?_ _)); exact BK137.out⟩, ⟨by repeat (first | (with_reducible first | exact HB.out | apply below_alloc | apply pw_below_drewN | apply below_drew1 | refine below_set ?_ GE137.out) | exact HB.out)⟩⟩
          case round =>
            clear H'
            try clear c1
            try clear c2
            try clear p2
            try clear c4
            try clear p6
            try clear c8
            try clear c9
            try clear c9b0
            try clear c10
            try clear c12
            try clear hcz13_0
            try clear hcz13_1
            try clear hcz13_10
            try clear hcz13_11
            try clear hcz13_12
            try clear hcz13_13
            try clear hcz13_2
            try clear hcz13_3
            try clear hcz13_4
            try clear hcz13_5
            try clear hcz13_6
            try clear hcz13_7
            try clear hcz13_8
            try clear hcz13_9
            try clear hfz13_0
            try clear hfz13_1
            try clear hfz13_10
            try clear hfz13_11
            try clear hfz13_12
            try clear hfz13_13
            try clear hfz13_2
            try clear hfz13_3
            try clear hfz13_4
            try clear hfz13_5
            try clear hfz13_6
            try clear hfz13_7
            try clear hfz13_8
            try clear hfz13_9
            try clear p2
            obtain ⟨x10_2, x11_2, x12_2, x13_2, x14_2, rfl, rfl, rfl, rfl, rfl, HA, HK2, HO_8, BK137, HB⟩ := hrel
            cases gk with
            | zero => exact absurd HA.out (by simp [fareboxlaw19_CapsHold.l0])
            | succ k2 =>
              have H := HA.out
              clear HA
              simp only [fareboxlaw19_CapsHold.l0] at H
              by_cases c15 : x14_2 < (t139.length : Int)
              · rw [if_pos c15] at H
                have c15b0 : decide (x14_2 < (t139.length : Int)) = true := decide_eq_true c15
                clear c15
                by_cases c16 : 0 ≤ x14_2
                · rw [if_pos c16] at H
                  have c16b0 : decide (0 ≤ x14_2) = true := decide_eq_true c16
                  clear c16
                  replace H := Option.bind_eq_some_iff.mp H
                  obtain ⟨⟨t145, t146, t147, t148, t149, t150⟩, A170, H⟩ := H
                  replace H : (if ((rd_T57 t139 x14_2).f3) > (wrap64 (((rd_T57 t139 x14_2).f1) + ((rd_T57 t139 x14_2).f2))) then (fareboxlaw19_CapsHold.j2 k2 t139 x10_2 x11_2 x12_2 x13_2 x14_2 true l0_0 l0_1 l0_2 a0_3 a0_4 a0_5 a0_6 a0_7 a0_8 a0_9 a0_10 a0_11 a0_12 a0_13 ((rd_T57 t139 x14_2).f0) ((rd_T57 t139 x14_2).f1) ((rd_T57 t139 x14_2).f2) ((rd_T57 t139 x14_2).f3) ((rd_T57 t139 x14_2).f4) ((rd_T57 t139 x14_2).f5) ((rd_T57 t139 x14_2).f6)) else (if ((rd_T57 t139 x14_2).f3) > (mx t148 a0_5) then (fareboxlaw19_CapsHold.j2 k2 t139 x10_2 x11_2 x12_2 x13_2 x14_2 true l0_0 l0_1 l0_2 a0_3 a0_4 a0_5 a0_6 a0_7 a0_8 a0_9 a0_10 a0_11 a0_12 a0_13 ((rd_T57 t139 x14_2).f0) ((rd_T57 t139 x14_2).f1) ((rd_T57 t139 x14_2).f2) ((rd_T57 t139 x14_2).f3) ((rd_T57 t139 x14_2).f4) ((rd_T57 t139 x14_2).f5) ((rd_T57 t139 x14_2).f6)) else (if ((rd_T57 t139 x14_2).f2) > a0_5 then (fareboxlaw19_CapsHold.j2 k2 t139 x10_2 x11_2 x12_2 x13_2 x14_2 true l0_0 l0_1 l0_2 a0_3 a0_4 a0_5 a0_6 a0_7 a0_8 a0_9 a0_10 a0_11 a0_12 a0_13 ((rd_T57 t139 x14_2).f0) ((rd_T57 t139 x14_2).f1) ((rd_T57 t139 x14_2).f2) ((rd_T57 t139 x14_2).f3) ((rd_T57 t139 x14_2).f4) ((rd_T57 t139 x14_2).f5) ((rd_T57 t139 x14_2).f6)) else (fareboxlaw19_CapsHold.j2 k2 t139 x10_2 x11_2 x12_2 x13_2 x14_2 (decide (((rd_T57 t139 x14_2).f3) < ((rd_T57 t139 x14_2).f2))) l0_0 l0_1 l0_2 a0_3 a0_4 a0_5 a0_6 a0_7 a0_8 a0_9 a0_10 a0_11 a0_12 a0_13 ((rd_T57 t139 x14_2).f0) ((rd_T57 t139 x14_2).f1) ((rd_T57 t139 x14_2).f2) ((rd_T57 t139 x14_2).f3) ((rd_T57 t139 x14_2).f4) ((rd_T57 t139 x14_2).f5) ((rd_T57 t139 x14_2).f6))))) = some r := H
                  have A17 := Aside0.mk A170
                  clear A170
                  have HC18 := Aside0.mk H
                  clear H
                  obtain ⟨Ao19, co19, eo19⟩ := Kd.R_slice HO_8.out
                  subst eo19
                  have p143 : 0 ≤ (x14_2 : Int) := of_decide_eq_true (by first | (with_reducible assumption) | assumption)
                  have q143 : x14_2 < (t139.length : Int) := of_decide_eq_true (by first | (with_reducible assumption) | assumption)
                  obtain ⟨ad143, e143, hx143_0, hx143_1, hx143_2, hx143_3, hx143_4, hx143_5, hx143_6⟩ := at_T57 (Kd.R_reads' HO_8.out).2.2 x14_2 p143 q143
                  cases e143
                  replace p143 := eq_true p143
                  replace q143 := eq_true q143
                  go_upto_region 16 with (first | ((with_reducible refine gate_dst (N := 15) rfl ?_); (try (refine gate_guard (by rfl) ?_; dsimp only)); refine box_event ?hg (N := 15) ?hd (cs := #[.int .i64 0, .int .i64 0, .int .i64 0, .int .i64 0, .int .i64 0, .int .i64 0, .int .i64 0]) (t := 57) ?hr ?_; (case hd => rfl); (case hg => rfl); (case hr => first | (go_simp; done) | (go_simp; rfl)); intro gb144 hg w20 hbox hb; have n0_ := Aside0.mk (Kd.R_below (Kd.R_elderB (by (with_reducible repeat (first | apply Kd.R_alloc | apply Kd.R_drewN | apply Kd.R_drew)); exact HO_8.out) gb144 (Nat.le_of_eq hg.symm)) hb); have n1_ := Aside0.mk (blk_below (g := gb137) (o := .cells #[.slice A0_0 l0_0.length c0_0, .slice A0_1 l0_1.length c0_1, .slice A0_2 l0_2.length c0_2, .float .f64 a0_3, .int .i64 a0_4, .int .i64 a0_5, .int .i64 a0_6, .int .i64 a0_7, .int .i64 a0_8, .int .i64 a0_9, .int .i64 a0_10, .int .i64 a0_11, .int .i64 a0_12, .int .i64 a0_13] 27 (0, 0)) (by (with_reducible repeat (first | refine blk_drewN ?_ _ | refine blk_drew ?_ | refine blk_alloc ?_ _)); exact BK137.out) hb); have n2_ := Aside0.mk (below_step (by repeat (first | (with_reducible first | exact HB.out | apply below_alloc | apply pw_below_drewN | apply below_drew1 | refine below_set ?_ GE137.out) | exact HB.out)) hb); have n3_ := Aside0.mk (hbox); have n4_ := Aside0.mk ((by rw [hg]; exact (below_size (by repeat (first | (with_reducible first | exact HB.out | apply below_alloc | apply pw_below_drewN | apply below_drew1 | refine below_set ?_ GE137.out) | exact HB.out))) : w.heap.size ≤ gb144)); have n5_ := Aside0.mk ((by rw [hg]; exact (below_size (by repeat (first | (with_reducible first | exact HB.out | apply below_alloc | apply pw_below_drewN | apply below_drew1 | refine below_set ?_ GE137.out) | exact HB.out))) : w.heap.size ≤ gb144)); have n6_ := Aside0.mk ((by rw [hg]; exact Nat.ne_of_lt (blk_lt (g := gb137) (o := .cells #[.slice A0_0 l0_0.length c0_0, .slice A0_1 l0_1.length c0_1, .slice A0_2 l0_2.length c0_2, .float .f64 a0_3, .int .i64 a0_4, .int .i64 a0_5, .int .i64 a0_6, .int .i64 a0_7, .int .i64 a0_8, .int .i64 a0_9, .int .i64 a0_10, .int .i64 a0_11, .int .i64 a0_12, .int .i64 a0_13] 27 (0, 0)) (by (with_reducible repeat (first | refine blk_drewN ?_ _ | refine blk_drew ?_ | refine blk_alloc ?_ _)); exact BK137.out)) : gb137 ≠ gb144)); have n7_ := Aside0.mk ((by rw [hg]; exact Nat.ne_of_gt (blk_lt (g := gb137) (o := .cells #[.slice A0_0 l0_0.length c0_0, .slice A0_1 l0_1.length c0_1, .slice A0_2 l0_2.length c0_2, .float .f64 a0_3, .int .i64 a0_4, .int .i64 a0_5, .int .i64 a0_6, .int .i64 a0_7, .int .i64 a0_8, .int .i64 a0_9, .int .i64 a0_10, .int .i64 a0_11, .int .i64 a0_12, .int .i64 a0_13] 27 (0, 0)) (by (with_reducible repeat (first | refine blk_drewN ?_ _ | refine blk_drew ?_ | refine blk_alloc ?_ _)); exact BK137.out)) : gb144 ≠ gb137)); clear HO_8; clear BK137; clear HB; have HO_8 := n0_; have BK137 := n1_; have HB := n2_; have BK144 := n3_; have GW144 := n4_; have GE144 := n5_; have NB137_144 := n6_; have NB144_137 := n7_; clear n0_ n1_ n2_ n3_ n4_ n5_ n6_ n7_; clear hb hbox hg; have hnb21 := NB144_137.out; have hnc21 := NB137_144.out; have hcz22_0 : w20.cell? ⟨gb144, 0, none⟩ = some (.int .i64 0) := (blk_cell BK144.out 0).trans rfl; have hcz22_1 : w20.cell? ⟨gb144, 1, none⟩ = some (.int .i64 0) := (blk_cell BK144.out 1).trans rfl; have hcz22_2 : w20.cell? ⟨gb144, 2, none⟩ = some (.int .i64 0) := (blk_cell BK144.out 2).trans rfl; have hcz22_3 : w20.cell? ⟨gb144, 3, none⟩ = some (.int .i64 0) := (blk_cell BK144.out 3).trans rfl; have hcz22_4 : w20.cell? ⟨gb144, 4, none⟩ = some (.int .i64 0) := (blk_cell BK144.out 4).trans rfl; have hcz22_5 : w20.cell? ⟨gb144, 5, none⟩ = some (.int .i64 0) := (blk_cell BK144.out 5).trans rfl; have hcz22_6 : w20.cell? ⟨gb144, 6, none⟩ = some (.int .i64 0) := (blk_cell BK144.out 6).trans rfl; have hfz22_0 := blk_frozen BK144.out 0; have hfz22_1 := blk_frozen BK144.out 1; have hfz22_2 := blk_frozen BK144.out 2; have hfz22_3 := blk_frozen BK144.out 3; have hfz22_4 := blk_frozen BK144.out 4; have hfz22_5 := blk_frozen BK144.out 5; have hfz22_6 := blk_frozen BK144.out 6; have hcz23_0 : w20.cell? ⟨gb137, 0, none⟩ = some (.slice A0_0 l0_0.length c0_0) := (blk_cell BK137.out 0).trans rfl; have hcz23_1 : w20.cell? ⟨gb137, 1, none⟩ = some (.slice A0_1 l0_1.length c0_1) := (blk_cell BK137.out 1).trans rfl; have hcz23_2 : w20.cell? ⟨gb137, 2, none⟩ = some (.slice A0_2 l0_2.length c0_2) := (blk_cell BK137.out 2).trans rfl; have hcz23_3 : w20.cell? ⟨gb137, 3, none⟩ = some (.float .f64 a0_3) := (blk_cell BK137.out 3).trans rfl; have hcz23_4 : w20.cell? ⟨gb137, 4, none⟩ = some (.int .i64 a0_4) := (blk_cell BK137.out 4).trans rfl; have hcz23_5 : w20.cell? ⟨gb137, 5, none⟩ = some (.int .i64 a0_5) := (blk_cell BK137.out 5).trans rfl; have hcz23_6 : w20.cell? ⟨gb137, 6, none⟩ = some (.int .i64 a0_6) := (blk_cell BK137.out 6).trans rfl; have hcz23_7 : w20.cell? ⟨gb137, 7, none⟩ = some (.int .i64 a0_7) := (blk_cell BK137.out 7).trans rfl; have hcz23_8 : w20.cell? ⟨gb137, 8, none⟩ = some (.int .i64 a0_8) := (blk_cell BK137.out 8).trans rfl; have hcz23_9 : w20.cell? ⟨gb137, 9, none⟩ = some (.int .i64 a0_9) := (blk_cell BK137.out 9).trans rfl; have hcz23_10 : w20.cell? ⟨gb137, 10, none⟩ = some (.int .i64 a0_10) := (blk_cell BK137.out 10).trans rfl; have hcz23_11 : w20.cell? ⟨gb137, 11, none⟩ = some (.int .i64 a0_11) := (blk_cell BK137.out 11).trans rfl; have hcz23_12 : w20.cell? ⟨gb137, 12, none⟩ = some (.int .i64 a0_12) := (blk_cell BK137.out 12).trans rfl; have hcz23_13 : w20.cell? ⟨gb137, 13, none⟩ = some (.int .i64 a0_13) := (blk_cell BK137.out 13).trans rfl; have hfz23_0 := blk_frozen BK137.out 0; have hfz23_1 := blk_frozen BK137.out 1; have hfz23_2 := blk_frozen BK137.out 2; have hfz23_3 := blk_frozen BK137.out 3; have hfz23_4 := blk_frozen BK137.out 4; have hfz23_5 := blk_frozen BK137.out 5; have hfz23_6 := blk_frozen BK137.out 6; have hfz23_7 := blk_frozen BK137.out 7; have hfz23_8 := blk_frozen BK137.out 8; have hfz23_9 := blk_frozen BK137.out 9; have hfz23_10 := blk_frozen BK137.out 10; have hfz23_11 := blk_frozen BK137.out 11; have hfz23_12 := blk_frozen BK137.out 12; have hfz23_13 := blk_frozen BK137.out 13) | ((with_reducible refine gate_callee (f := 32) rfl ?_); refine goesL_ (some 61) rfl rfl Try.func32 (by kernel_rfl) rfl #[.agg #[.slice A0_0 l0_0.length c0_0, .slice A0_1 l0_1.length c0_1, .slice A0_2 l0_2.length c0_2, .float .f64 a0_3, .int .i64 a0_4, .int .i64 a0_5, .int .i64 a0_6, .int .i64 a0_7, .int .i64 a0_8, .int .i64 a0_9, .int .i64 a0_10, .int .i64 a0_11, .int .i64 a0_12, .int .i64 a0_13], .int .i64 ((rd_T57 t139 x14_2).f5), .int .i64 ((rd_T57 t139 x14_2).f6)] rfl (by (try simp only [List.map_toArray, List.map_cons, List.map_nil]); first | done | rfl | (simp only [List.length_drop, List.length_take]; rfl)) ?_; (with_reducible refine (tariff_Span.calls _ _ l0_0 _ _ l0_1 _ _ l0_2 a0_3 a0_4 a0_5 a0_6 a0_7 a0_8 a0_9 a0_10 a0_11 a0_12 a0_13 ((rd_T57 t139 x14_2).f5) ((rd_T57 t139 x14_2).f6) t145 t146 t147 t148 t149 t150 _ ?side1 ?side2 ?side3 ?side4 ?side5 ?side6 A17.out).mono ?_); (case side1 => exact Kd.C_below HR0_0.out (by repeat (first | (with_reducible first | exact HB.out | apply below_alloc | apply pw_below_drewN | apply below_drew1 | refine below_set ?_ GE137.out | refine below_set ?_ GE144.out) | exact HB.out))); (case side2 => exact HC0_0.out); (case side3 => exact Kd.C_below HR0_1.out (by repeat (first | (with_reducible first | exact HB.out | apply below_alloc | apply pw_below_drewN | apply below_drew1 | refine below_set ?_ GE137.out | refine below_set ?_ GE144.out) | exact HB.out))); (case side4 => exact HC0_1.out); (case side5 => exact Kd.C_below HR0_2.out (by repeat (first | (with_reducible first | exact HB.out | apply below_alloc | apply pw_below_drewN | apply below_drew1 | refine below_set ?_ GE137.out | refine below_set ?_ GE144.out) | exact HB.out))); (case side6 => exact HC0_2.out); rintro e w24 ⟨rfl, hb⟩; refine ⟨_, rfl, ?_⟩; have n0_ := Aside0.mk (Kd.R_below (by (with_reducible repeat (first | apply Kd.R_alloc | apply Kd.R_drewN | apply Kd.R_drew)); exact (Kd.R_mono (Kd.R_far (p := ⟨gb144, 6, none⟩) (Kd.R_far (p := ⟨gb144, 5, none⟩) (Kd.R_far (p := ⟨gb144, 4, none⟩) (Kd.R_far (p := ⟨gb144, 3, none⟩) (Kd.R_far (p := ⟨gb144, 2, none⟩) (Kd.R_far (p := ⟨gb144, 1, none⟩) (Kd.R_far (p := ⟨gb144, 0, none⟩) (Kd.R_mono HO_8.out (fun k_ hk => (⟨hk, hk.2⟩ : _ ∧ k_ ≠ gb144))) (fun _ hk => hk.2) (.int .i64 ((rd_T57 t139 x14_2).f0))) (fun _ hk => hk.2) (.int .i64 ((rd_T57 t139 x14_2).f1))) (fun _ hk => hk.2) (.int .i64 ((rd_T57 t139 x14_2).f2))) (fun _ hk => hk.2) (.int .i64 ((rd_T57 t139 x14_2).f3))) (fun _ hk => hk.2) (.int .i64 ((rd_T57 t139 x14_2).f4))) (fun _ hk => hk.2) (.int .i64 ((rd_T57 t139 x14_2).f5))) (fun _ hk => hk.2) (.int .i64 ((rd_T57 t139 x14_2).f6))) (fun _ h_ => h_.1))) hb); have n1_ := Aside0.mk (blk_below (g := gb137) (o := .cells #[.slice A0_0 l0_0.length c0_0, .slice A0_1 l0_1.length c0_1, .slice A0_2 l0_2.length c0_2, .float .f64 a0_3, .int .i64 a0_4, .int .i64 a0_5, .int .i64 a0_6, .int .i64 a0_7, .int .i64 a0_8, .int .i64 a0_9, .int .i64 a0_10, .int .i64 a0_11, .int .i64 a0_12, .int .i64 a0_13] 27 (0, 0)) (by (with_reducible repeat (first | refine blk_drewN ?_ _ | refine blk_drew ?_ | refine blk_alloc ?_ _)); refine blk_far ?_ NB137_144.out _; (with_reducible repeat (first | refine blk_drewN ?_ _ | refine blk_drew ?_ | refine blk_alloc ?_ _)); refine blk_far ?_ NB137_144.out _; (with_reducible repeat (first | refine blk_drewN ?_ _ | refine blk_drew ?_ | refine blk_alloc ?_ _)); refine blk_far ?_ NB137_144.out _; (with_reducible repeat (first | refine blk_drewN ?_ _ | refine blk_drew ?_ | refine blk_alloc ?_ _)); refine blk_far ?_ NB137_144.out _; (with_reducible repeat (first | refine blk_drewN ?_ _ | refine blk_drew ?_ | refine blk_alloc ?_ _)); refine blk_far ?_ NB137_144.out _; (with_reducible repeat (first | refine blk_drewN ?_ _ | refine blk_drew ?_ | refine blk_alloc ?_ _)); refine blk_far ?_ NB137_144.out _; (with_reducible repeat (first | refine blk_drewN ?_ _ | refine blk_drew ?_ | refine blk_alloc ?_ _)); refine blk_far ?_ NB137_144.out _; (with_reducible repeat (first | refine blk_drewN ?_ _ | refine blk_drew ?_ | refine blk_alloc ?_ _)); exact BK137.out) hb); have n2_ := Aside0.mk (blk_below (g := gb144) (o := .cells #[.int .i64 ((rd_T57 t139 x14_2).f0), .int .i64 ((rd_T57 t139 x14_2).f1), .int .i64 ((rd_T57 t139 x14_2).f2), .int .i64 ((rd_T57 t139 x14_2).f3), .int .i64 ((rd_T57 t139 x14_2).f4), .int .i64 ((rd_T57 t139 x14_2).f5), .int .i64 ((rd_T57 t139 x14_2).f6)] 57 (0, 0)) (by (with_reducible repeat (first | refine blk_drewN ?_ _ | refine blk_drew ?_ | refine blk_alloc ?_ _)); refine blk_put (cs := #[.int .i64 ((rd_T57 t139 x14_2).f0), .int .i64 ((rd_T57 t139 x14_2).f1), .int .i64 ((rd_T57 t139 x14_2).f2), .int .i64 ((rd_T57 t139 x14_2).f3), .int .i64 ((rd_T57 t139 x14_2).f4), .int .i64 ((rd_T57 t139 x14_2).f5), .int .i64 0]) ?_ 6 _ rfl; (with_reducible repeat (first | refine blk_drewN ?_ _ | refine blk_drew ?_ | refine blk_alloc ?_ _)); refine blk_put (cs := #[.int .i64 ((rd_T57 t139 x14_2).f0), .int .i64 ((rd_T57 t139 x14_2).f1), .int .i64 ((rd_T57 t139 x14_2).f2), .int .i64 ((rd_T57 t139 x14_2).f3), .int .i64 ((rd_T57 t139 x14_2).f4), .int .i64 0, .int .i64 0]) ?_ 5 _ rfl; (with_reducible repeat (first | refine blk_drewN ?_ _ | refine blk_drew ?_ | refine blk_alloc ?_ _)); refine blk_put (cs := #[.int .i64 ((rd_T57 t139 x14_2).f0), .int .i64 ((rd_T57 t139 x14_2).f1), .int .i64 ((rd_T57 t139 x14_2).f2), .int .i64 ((rd_T57 t139 x14_2).f3), .int .i64 0, .int .i64 0, .int .i64 0]) ?_ 4 _ rfl; (with_reducible repeat (first | refine blk_drewN ?_ _ | refine blk_drew ?_ | refine blk_alloc ?_ _)); refine blk_put (cs := #[.int .i64 ((rd_T57 t139 x14_2).f0), .int .i64 ((rd_T57 t139 x14_2).f1), .int .i64 ((rd_T57 t139 x14_2).f2), .int .i64 0, .int .i64 0, .int .i64 0, .int .i64 0]) ?_ 3 _ rfl; (with_reducible repeat (first | refine blk_drewN ?_ _ | refine blk_drew ?_ | refine blk_alloc ?_ _)); refine blk_put (cs := #[.int .i64 ((rd_T57 t139 x14_2).f0), .int .i64 ((rd_T57 t139 x14_2).f1), .int .i64 0, .int .i64 0, .int .i64 0, .int .i64 0, .int .i64 0]) ?_ 2 _ rfl; (with_reducible repeat (first | refine blk_drewN ?_ _ | refine blk_drew ?_ | refine blk_alloc ?_ _)); refine blk_put (cs := #[.int .i64 ((rd_T57 t139 x14_2).f0), .int .i64 0, .int .i64 0, .int .i64 0, .int .i64 0, .int .i64 0, .int .i64 0]) ?_ 1 _ rfl; (with_reducible repeat (first | refine blk_drewN ?_ _ | refine blk_drew ?_ | refine blk_alloc ?_ _)); refine blk_put (cs := #[.int .i64 0, .int .i64 0, .int .i64 0, .int .i64 0, .int .i64 0, .int .i64 0, .int .i64 0]) ?_ 0 _ rfl; (with_reducible repeat (first | refine blk_drewN ?_ _ | refine blk_drew ?_ | refine blk_alloc ?_ _)); exact BK144.out) hb); have n3_ := Aside0.mk (below_step (by repeat (first | (with_reducible first | exact HB.out | apply below_alloc | apply pw_below_drewN | apply below_drew1 | refine below_set ?_ GE137.out | refine below_set ?_ GE144.out) | exact HB.out)) hb); clear HO_8; clear BK137; clear BK144; clear HB; have HO_8 := n0_; have BK137 := n1_; have BK144 := n2_; have HB := n3_; clear n0_ n1_ n2_ n3_; (try clear hb); (try clear hb2); (try clear hk); (try clear hi)) | ((with_reducible refine gate_dst (N := 16) rfl ?_); (try (refine gate_guard (by rfl) ?_; dsimp only)); refine box_event ?hg (N := 16) ?hd (cs := #[.int .i64 0, .int .i64 0, .int .i64 0, .int .i64 0, .int .i64 0]) (t := 39) ?hr ?_; (case hd => rfl); (case hg => rfl); (case hr => first | (go_simp; done) | (go_simp; rfl)); intro gb151 hg w25 hbox hb; have n0_ := Aside0.mk (Kd.R_below (by (with_reducible repeat (first | apply Kd.R_alloc | apply Kd.R_drewN | apply Kd.R_drew)); exact HO_8.out) hb); have n1_ := Aside0.mk (blk_below (g := gb137) (o := .cells #[.slice A0_0 l0_0.length c0_0, .slice A0_1 l0_1.length c0_1, .slice A0_2 l0_2.length c0_2, .float .f64 a0_3, .int .i64 a0_4, .int .i64 a0_5, .int .i64 a0_6, .int .i64 a0_7, .int .i64 a0_8, .int .i64 a0_9, .int .i64 a0_10, .int .i64 a0_11, .int .i64 a0_12, .int .i64 a0_13] 27 (0, 0)) (by (with_reducible repeat (first | refine blk_drewN ?_ _ | refine blk_drew ?_ | refine blk_alloc ?_ _)); exact BK137.out) hb); have n2_ := Aside0.mk (blk_below (g := gb144) (o := .cells #[.int .i64 ((rd_T57 t139 x14_2).f0), .int .i64 ((rd_T57 t139 x14_2).f1), .int .i64 ((rd_T57 t139 x14_2).f2), .int .i64 ((rd_T57 t139 x14_2).f3), .int .i64 ((rd_T57 t139 x14_2).f4), .int .i64 ((rd_T57 t139 x14_2).f5), .int .i64 ((rd_T57 t139 x14_2).f6)] 57 (0, 0)) (by (with_reducible repeat (first | refine blk_drewN ?_ _ | refine blk_drew ?_ | refine blk_alloc ?_ _)); exact BK144.out) hb); have n3_ := Aside0.mk (below_step (by repeat (first | (with_reducible first | exact HB.out | apply below_alloc | apply pw_below_drewN | apply below_drew1 | refine below_set ?_ GE137.out | refine below_set ?_ GE144.out) | exact HB.out)) hb); have n4_ := Aside0.mk (hbox); have n5_ := Aside0.mk ((by rw [hg]; exact (below_size (by repeat (first | (with_reducible first | exact HB.out | apply below_alloc | apply pw_below_drewN | apply below_drew1 | refine below_set ?_ GE137.out | refine below_set ?_ GE144.out) | exact HB.out))) : w.heap.size ≤ gb151)); have n6_ := Aside0.mk ((by rw [hg]; exact (below_size (by repeat (first | (with_reducible first | exact HB.out | apply below_alloc | apply pw_below_drewN | apply below_drew1 | refine below_set ?_ GE137.out | refine below_set ?_ GE144.out) | exact HB.out))) : w.heap.size ≤ gb151)); have n7_ := Aside0.mk ((by rw [hg]; exact Nat.ne_of_lt (blk_lt (g := gb137) (o := .cells #[.slice A0_0 l0_0.length c0_0, .slice A0_1 l0_1.length c0_1, .slice A0_2 l0_2.length c0_2, .float .f64 a0_3, .int .i64 a0_4, .int .i64 a0_5, .int .i64 a0_6, .int .i64 a0_7, .int .i64 a0_8, .int .i64 a0_9, .int .i64 a0_10, .int .i64 a0_11, .int .i64 a0_12, .int .i64 a0_13] 27 (0, 0)) (by (with_reducible repeat (first | refine blk_drewN ?_ _ | refine blk_drew ?_ | refine blk_alloc ?_ _)); exact BK137.out)) : gb137 ≠ gb151)); have n8_ := Aside0.mk ((by rw [hg]; exact Nat.ne_of_gt (blk_lt (g := gb137) (o := .cells #[.slice A0_0 l0_0.length c0_0, .slice A0_1 l0_1.length c0_1, .slice A0_2 l0_2.length c0_2, .float .f64 a0_3, .int .i64 a0_4, .int .i64 a0_5, .int .i64 a0_6, .int .i64 a0_7, .int .i64 a0_8, .int .i64 a0_9, .int .i64 a0_10, .int .i64 a0_11, .int .i64 a0_12, .int .i64 a0_13] 27 (0, 0)) (by (with_reducible repeat (first | refine blk_drewN ?_ _ | refine blk_drew ?_ | refine blk_alloc ?_ _)); exact BK137.out)) : gb151 ≠ gb137)); have n9_ := Aside0.mk ((by rw [hg]; exact Nat.ne_of_lt (blk_lt (g := gb144) (o := .cells #[.int .i64 ((rd_T57 t139 x14_2).f0), .int .i64 ((rd_T57 t139 x14_2).f1), .int .i64 ((rd_T57 t139 x14_2).f2), .int .i64 ((rd_T57 t139 x14_2).f3), .int .i64 ((rd_T57 t139 x14_2).f4), .int .i64 ((rd_T57 t139 x14_2).f5), .int .i64 ((rd_T57 t139 x14_2).f6)] 57 (0, 0)) (by (with_reducible repeat (first | refine blk_drewN ?_ _ | refine blk_drew ?_ | refine blk_alloc ?_ _)); exact BK144.out)) : gb144 ≠ gb151)); have n10_ := Aside0.mk ((by rw [hg]; exact Nat.ne_of_gt (blk_lt (g := gb144) (o := .cells #[.int .i64 ((rd_T57 t139 x14_2).f0), .int .i64 ((rd_T57 t139 x14_2).f1), .int .i64 ((rd_T57 t139 x14_2).f2), .int .i64 ((rd_T57 t139 x14_2).f3), .int .i64 ((rd_T57 t139 x14_2).f4), .int .i64 ((rd_T57 t139 x14_2).f5), .int .i64 ((rd_T57 t139 x14_2).f6)] 57 (0, 0)) (by (with_reducible repeat (first | refine blk_drewN ?_ _ | refine blk_drew ?_ | refine blk_alloc ?_ _)); exact BK144.out)) : gb151 ≠ gb144)); clear HO_8; clear BK137; clear BK144; clear HB; have HO_8 := n0_; have BK137 := n1_; have BK144 := n2_; have HB := n3_; have BK151 := n4_; have GW151 := n5_; have GE151 := n6_; have NB137_151 := n7_; have NB151_137 := n8_; have NB144_151 := n9_; have NB151_144 := n10_; clear n0_ n1_ n2_ n3_ n4_ n5_ n6_ n7_ n8_ n9_ n10_; clear hb hbox hg; have hnb26 := NB151_137.out; have hnc26 := NB137_151.out; have hnb27 := NB151_144.out; have hnc27 := NB144_151.out; have hcz28_0 : w25.cell? ⟨gb151, 0, none⟩ = some (.int .i64 0) := (blk_cell BK151.out 0).trans rfl; have hcz28_1 : w25.cell? ⟨gb151, 1, none⟩ = some (.int .i64 0) := (blk_cell BK151.out 1).trans rfl; have hcz28_2 : w25.cell? ⟨gb151, 2, none⟩ = some (.int .i64 0) := (blk_cell BK151.out 2).trans rfl; have hcz28_3 : w25.cell? ⟨gb151, 3, none⟩ = some (.int .i64 0) := (blk_cell BK151.out 3).trans rfl; have hcz28_4 : w25.cell? ⟨gb151, 4, none⟩ = some (.int .i64 0) := (blk_cell BK151.out 4).trans rfl; have hfz28_0 := blk_frozen BK151.out 0; have hfz28_1 := blk_frozen BK151.out 1; have hfz28_2 := blk_frozen BK151.out 2; have hfz28_3 := blk_frozen BK151.out 3; have hfz28_4 := blk_frozen BK151.out 4))
                  (try simp only [Act.put, List.setIfInBounds_toArray, List.set_cons_zero, List.set_cons_succ])
                  go_cut [95] (fun v95 wc => ∃ (kq : Nat) (x95_17 : Bool), v95 = .bool x95_17 ∧ Aside0 (fareboxlaw19_CapsHold.j2 kq t139 x10_2 x11_2 x12_2 x13_2 x14_2 x95_17 l0_0 l0_1 l0_2 a0_3 a0_4 a0_5 a0_6 a0_7 a0_8 a0_9 a0_10 a0_11 a0_12 a0_13 ((rd_T57 t139 x14_2).f0) ((rd_T57 t139 x14_2).f1) ((rd_T57 t139 x14_2).f2) ((rd_T57 t139 x14_2).f3) ((rd_T57 t139 x14_2).f4) ((rd_T57 t139 x14_2).f5) ((rd_T57 t139 x14_2).f6) = some r) ∧ Aside0 (kq ≤ k2) ∧ Aside0 (Kd.R k57 57 wc w.heap.size (fun k_ => k_ ≠ gb144) (.slice (some ad143) t139.length co19) t139) ∧ Aside0 (wc.heap[gb137]? = some (.cells #[(.slice A0_0 l0_0.length c0_0), (.slice A0_1 l0_1.length c0_1), (.slice A0_2 l0_2.length c0_2), .float .f64 a0_3, .int .i64 a0_4, .int .i64 a0_5, .int .i64 a0_6, .int .i64 a0_7, .int .i64 a0_8, .int .i64 a0_9, .int .i64 a0_10, .int .i64 a0_11, .int .i64 a0_12, .int .i64 a0_13] 27 (0, 0))) ∧ Aside0 (wc.heap[gb144]? = some (.cells #[.int .i64 ((rd_T57 t139 x14_2).f0), .int .i64 ((rd_T57 t139 x14_2).f1), .int .i64 ((rd_T57 t139 x14_2).f2), .int .i64 ((rd_T57 t139 x14_2).f3), .int .i64 ((rd_T57 t139 x14_2).f4), .int .i64 ((rd_T57 t139 x14_2).f5), .int .i64 ((rd_T57 t139 x14_2).f6)] 57 (0, 0))) ∧ Aside0 (wc.heap[gb151]? = some (.cells #[.int .i64 t145, .int .i64 t146, .int .i64 t147, .int .i64 t148, .int .i64 t149] 39 (0, 0))) ∧ Aside0 (Below w.heap.size w wc))
                  case first =>
                    have H := HC18.out
                    clear HC18
                    by_cases c29 : ((rd_T57 t139 x14_2).f3) > (wrap64 (((rd_T57 t139 x14_2).f1) + ((rd_T57 t139 x14_2).f2)))
                    · rw [if_pos c29] at H
                      have c29b0 : decide ((wrap64 (((rd_T57 t139 x14_2).f1) + ((rd_T57 t139 x14_2).f2))) < ((rd_T57 t139 x14_2).f3)) = true := decide_eq_true c29
                      clear c29
                      (first | rw [c29b0] | (simp only [i64_w, i32_w]; rw [c29b0]) | skip)
                      have H' := Aside0.mk H
                      clear H
                      have hnb30 := NB144_137.out
                      have hnc30 := NB137_144.out
                      have hnb31 := NB144_151.out
                      have hnc31 := NB151_144.out
                      have hcz32_0 : w25.cell? ⟨gb144, 0, none⟩ = some (.int .i64 ((rd_T57 t139 x14_2).f0)) := (blk_cell BK144.out 0).trans rfl
                      have hcz32_1 : w25.cell? ⟨gb144, 1, none⟩ = some (.int .i64 ((rd_T57 t139 x14_2).f1)) := (blk_cell BK144.out 1).trans rfl
                      have hcz32_2 : w25.cell? ⟨gb144, 2, none⟩ = some (.int .i64 ((rd_T57 t139 x14_2).f2)) := (blk_cell BK144.out 2).trans rfl
                      have hcz32_3 : w25.cell? ⟨gb144, 3, none⟩ = some (.int .i64 ((rd_T57 t139 x14_2).f3)) := (blk_cell BK144.out 3).trans rfl
                      have hcz32_4 : w25.cell? ⟨gb144, 4, none⟩ = some (.int .i64 ((rd_T57 t139 x14_2).f4)) := (blk_cell BK144.out 4).trans rfl
                      have hcz32_5 : w25.cell? ⟨gb144, 5, none⟩ = some (.int .i64 ((rd_T57 t139 x14_2).f5)) := (blk_cell BK144.out 5).trans rfl
                      have hcz32_6 : w25.cell? ⟨gb144, 6, none⟩ = some (.int .i64 ((rd_T57 t139 x14_2).f6)) := (blk_cell BK144.out 6).trans rfl
                      have hfz32_0 := blk_frozen BK144.out 0
                      have hfz32_1 := blk_frozen BK144.out 1
                      have hfz32_2 := blk_frozen BK144.out 2
                      have hfz32_3 := blk_frozen BK144.out 3
                      have hfz32_4 := blk_frozen BK144.out 4
                      have hfz32_5 := blk_frozen BK144.out 5
                      have hfz32_6 := blk_frozen BK144.out 6
                      go_wp2
                      go_meet
                      case rel => exact ⟨_, (true), (by first | rfl | (simp; done) | (simp [*]; done)), H', ⟨by have := HJ4.out; have := HK2.out; first | omega | exact Nat.le_refl _⟩, ⟨by (with_reducible repeat (first | apply Kd.R_alloc | apply Kd.R_drewN | apply Kd.R_drew)); exact Kd.R_mono (Kd.R_far (p := ⟨gb151, 4, none⟩) (Kd.R_far (p := ⟨gb151, 3, none⟩) (Kd.R_far (p := ⟨gb151, 2, none⟩) (Kd.R_far (p := ⟨gb151, 1, none⟩) (Kd.R_far (p := ⟨gb151, 0, none⟩) (Kd.R_types HO_8.out BK151.out (by decide)) (fun _ hk => hk.2) (.int .i64 t145)) (fun _ hk => hk.2) (.int .i64 t146)) (fun _ hk => hk.2) (.int .i64 t147)) (fun _ hk => hk.2) (.int .i64 t148)) (fun _ hk => hk.2) (.int .i64 t149)) (fun _ hk => hk.1.2)⟩, ⟨by (with_reducible repeat (first | refine blk_drewN ?_ _ | refine blk_drew ?_ | refine blk_alloc ?_ _)); refine blk_far ?_ NB137_151.out _; (with_reducible repeat (first | refine blk_drewN ?_ _ | refine blk_drew ?_ | refine blk_alloc ?_ _)); refine blk_far ?_ NB137_151.out _; (with_reducible repeat (first | refine blk_drewN ?_ _ | refine blk_drew ?_ | refine blk_alloc ?_ _)); refine blk_far ?_ NB137_151.out _; (with_reducible repeat (first | refine blk_drewN ?_ _ | refine blk_drew ?_ | refine blk_alloc ?_ _)); refine blk_far ?_ NB137_151.out _; (with_reducible repeat (first | refine blk_drewN ?_ _ | refine blk_drew ?_ | refine blk_alloc ?_ _)); refine blk_far ?_ NB137_151.out _; (with_reducible repeat (first | refine blk_drewN ?_ _ | refine blk_drew ?_ | refine blk_alloc ?_ _)); exact BK137.out⟩, ⟨by (with_reducible repeat (first | refine blk_drewN ?_ _ | refine blk_drew ?_ | refine blk_alloc ?_ _)); refine blk_far ?_ NB144_151.out _; (with_reducible repeat (first | refine blk_drewN ?_ _ | refine blk_drew ?_ | refine blk_alloc ?_ _)); refine blk_far ?_ NB144_151.out _; (with_reducible repeat (first | refine blk_drewN ?_ _ | refine blk_drew ?_ | refine blk_alloc ?_ _)); refine blk_far ?_ NB144_151.out _; (with_reducible repeat (first | refine blk_drewN ?_ _ | refine blk_drew ?_ | refine blk_alloc ?_ _)); refine blk_far ?_ NB144_151.out _; (with_reducible repeat (first | refine blk_drewN ?_ _ | refine blk_drew ?_ | refine blk_alloc ?_ _)); refine blk_far ?_ NB144_151.out _; (with_reducible repeat (first | refine blk_drewN ?_ _ | refine blk_drew ?_ | refine blk_alloc ?_ _)); exact BK144.out⟩, ⟨by (with_reducible repeat (first | refine blk_drewN ?_ _ | refine blk_drew ?_ | refine blk_alloc ?_ _)); refine blk_put (cs := #[.int .i64 t145, .int .i64 t146, .int .i64 t147, .int .i64 t148, .int .i64 0]) ?_ 4 _ rfl; (with_reducible repeat (first | refine blk_drewN ?_ _ | refine blk_drew ?_ | refine blk_alloc ?_ _)); refine blk_put (cs := #[.int .i64 t145, .int .i64 t146, .int .i64 t147, .int .i64 0, .int .i64 0]) ?_ 3 _ rfl; (with_reducible repeat (first | refine blk_drewN ?_ _ | refine blk_drew ?_ | refine blk_alloc ?_ _)); refine blk_put (cs := #[.int .i64 t145, .int .i64 t146, .int .i64 0, .int .i64 0, .int .i64 0]) ?_ 2 _ rfl; (with_reducible repeat (first | refine blk_drewN ?_ _ | refine blk_drew ?_ | refine blk_alloc ?_ _)); refine blk_put (cs := #[.int .i64 t145, .int .i64 0, .int .i64 0, .int .i64 0, .int .i64 0]) ?_ 1 _ rfl; (with_reducible repeat (first | refine blk_drewN ?_ _ | refine blk_drew ?_ | refine blk_alloc ?_ _)); refine blk_put (cs := #[.int .i64 0, .int .i64 0, .int .i64 0, .int .i64 0, .int .i64 0]) ?_ 0 _ rfl; (with_reducible repeat (first | refine blk_drewN ?_ _ | refine blk_drew ?_ | refine blk_alloc ?_ _)); exact BK151.out⟩, ⟨by repeat (first | (with_reducible first | exact HB.out | apply below_alloc | apply pw_below_drewN | apply below_drew1 | refine below_set ?_ GE137.out | refine below_set ?_ GE144.out | refine below_set ?_ GE151.out) | exact HB.out)⟩⟩
                    · rw [if_neg c29] at H
                      have c29b0 : decide ((wrap64 (((rd_T57 t139 x14_2).f1) + ((rd_T57 t139 x14_2).f2))) < ((rd_T57 t139 x14_2).f3)) = false := decide_eq_false c29
                      clear c29
                      (first | rw [c29b0] | (simp only [i64_w, i32_w]; rw [c29b0]) | skip)
                      obtain ⟨ji33, hji33⟩ : ∃ j_ : Int, (mx t148 a0_5) = j_ := ⟨_, rfl⟩
                      replace H : (if ((rd_T57 t139 x14_2).f3) > (ji33) then (fareboxlaw19_CapsHold.j2 k2 t139 x10_2 x11_2 x12_2 x13_2 x14_2 true l0_0 l0_1 l0_2 a0_3 a0_4 a0_5 a0_6 a0_7 a0_8 a0_9 a0_10 a0_11 a0_12 a0_13 ((rd_T57 t139 x14_2).f0) ((rd_T57 t139 x14_2).f1) ((rd_T57 t139 x14_2).f2) ((rd_T57 t139 x14_2).f3) ((rd_T57 t139 x14_2).f4) ((rd_T57 t139 x14_2).f5) ((rd_T57 t139 x14_2).f6)) else (if ((rd_T57 t139 x14_2).f2) > a0_5 then (fareboxlaw19_CapsHold.j2 k2 t139 x10_2 x11_2 x12_2 x13_2 x14_2 true l0_0 l0_1 l0_2 a0_3 a0_4 a0_5 a0_6 a0_7 a0_8 a0_9 a0_10 a0_11 a0_12 a0_13 ((rd_T57 t139 x14_2).f0) ((rd_T57 t139 x14_2).f1) ((rd_T57 t139 x14_2).f2) ((rd_T57 t139 x14_2).f3) ((rd_T57 t139 x14_2).f4) ((rd_T57 t139 x14_2).f5) ((rd_T57 t139 x14_2).f6)) else (fareboxlaw19_CapsHold.j2 k2 t139 x10_2 x11_2 x12_2 x13_2 x14_2 (decide (((rd_T57 t139 x14_2).f3) < ((rd_T57 t139 x14_2).f2))) l0_0 l0_1 l0_2 a0_3 a0_4 a0_5 a0_6 a0_7 a0_8 a0_9 a0_10 a0_11 a0_12 a0_13 ((rd_T57 t139 x14_2).f0) ((rd_T57 t139 x14_2).f1) ((rd_T57 t139 x14_2).f2) ((rd_T57 t139 x14_2).f3) ((rd_T57 t139 x14_2).f4) ((rd_T57 t139 x14_2).f5) ((rd_T57 t139 x14_2).f6)))) = some r := by first | (rw [hji33] at H; exact H) | (simp only [hji33] at H ⊢; exact H)
                      have hji33_ : (if t148 < a0_5 then a0_5 else t148) = ji33 := hji33
                      by_cases c34 : ((rd_T57 t139 x14_2).f3) > (ji33)
                      · rw [if_pos c34] at H
                        have c34b0 : decide ((ji33) < ((rd_T57 t139 x14_2).f3)) = true := decide_eq_true c34
                        clear c34
                        have H' := Aside0.mk H
                        clear H
                        have hnb35 := NB144_137.out
                        have hnc35 := NB137_144.out
                        have hnb36 := NB144_151.out
                        have hnc36 := NB151_144.out
                        have hcz37_0 : w25.cell? ⟨gb144, 0, none⟩ = some (.int .i64 ((rd_T57 t139 x14_2).f0)) := (blk_cell BK144.out 0).trans rfl
                        have hcz37_1 : w25.cell? ⟨gb144, 1, none⟩ = some (.int .i64 ((rd_T57 t139 x14_2).f1)) := (blk_cell BK144.out 1).trans rfl
                        have hcz37_2 : w25.cell? ⟨gb144, 2, none⟩ = some (.int .i64 ((rd_T57 t139 x14_2).f2)) := (blk_cell BK144.out 2).trans rfl
                        have hcz37_3 : w25.cell? ⟨gb144, 3, none⟩ = some (.int .i64 ((rd_T57 t139 x14_2).f3)) := (blk_cell BK144.out 3).trans rfl
                        have hcz37_4 : w25.cell? ⟨gb144, 4, none⟩ = some (.int .i64 ((rd_T57 t139 x14_2).f4)) := (blk_cell BK144.out 4).trans rfl
                        have hcz37_5 : w25.cell? ⟨gb144, 5, none⟩ = some (.int .i64 ((rd_T57 t139 x14_2).f5)) := (blk_cell BK144.out 5).trans rfl
                        have hcz37_6 : w25.cell? ⟨gb144, 6, none⟩ = some (.int .i64 ((rd_T57 t139 x14_2).f6)) := (blk_cell BK144.out 6).trans rfl
                        have hfz37_0 := blk_frozen BK144.out 0
                        have hfz37_1 := blk_frozen BK144.out 1
                        have hfz37_2 := blk_frozen BK144.out 2
                        have hfz37_3 := blk_frozen BK144.out 3
                        have hfz37_4 := blk_frozen BK144.out 4
                        have hfz37_5 := blk_frozen BK144.out 5
                        have hfz37_6 := blk_frozen BK144.out 6
                        have hnb38 := NB151_137.out
                        have hnc38 := NB137_151.out
                        have hcz39_0 : w25.cell? ⟨gb151, 0, none⟩ = some (.int .i64 0) := (blk_cell BK151.out 0).trans rfl
                        have hcz39_1 : w25.cell? ⟨gb151, 1, none⟩ = some (.int .i64 0) := (blk_cell BK151.out 1).trans rfl
                        have hcz39_2 : w25.cell? ⟨gb151, 2, none⟩ = some (.int .i64 0) := (blk_cell BK151.out 2).trans rfl
                        have hcz39_3 : w25.cell? ⟨gb151, 3, none⟩ = some (.int .i64 0) := (blk_cell BK151.out 3).trans rfl
                        have hcz39_4 : w25.cell? ⟨gb151, 4, none⟩ = some (.int .i64 0) := (blk_cell BK151.out 4).trans rfl
                        have hfz39_0 := blk_frozen BK151.out 0
                        have hfz39_1 := blk_frozen BK151.out 1
                        have hfz39_2 := blk_frozen BK151.out 2
                        have hfz39_3 := blk_frozen BK151.out 3
                        have hfz39_4 := blk_frozen BK151.out 4
                        have hcz40_0 : w25.cell? ⟨gb137, 0, none⟩ = some (.slice A0_0 l0_0.length c0_0) := (blk_cell BK137.out 0).trans rfl
                        have hcz40_1 : w25.cell? ⟨gb137, 1, none⟩ = some (.slice A0_1 l0_1.length c0_1) := (blk_cell BK137.out 1).trans rfl
                        have hcz40_2 : w25.cell? ⟨gb137, 2, none⟩ = some (.slice A0_2 l0_2.length c0_2) := (blk_cell BK137.out 2).trans rfl
                        have hcz40_3 : w25.cell? ⟨gb137, 3, none⟩ = some (.float .f64 a0_3) := (blk_cell BK137.out 3).trans rfl
                        have hcz40_4 : w25.cell? ⟨gb137, 4, none⟩ = some (.int .i64 a0_4) := (blk_cell BK137.out 4).trans rfl
                        have hcz40_5 : w25.cell? ⟨gb137, 5, none⟩ = some (.int .i64 a0_5) := (blk_cell BK137.out 5).trans rfl
                        have hcz40_6 : w25.cell? ⟨gb137, 6, none⟩ = some (.int .i64 a0_6) := (blk_cell BK137.out 6).trans rfl
                        have hcz40_7 : w25.cell? ⟨gb137, 7, none⟩ = some (.int .i64 a0_7) := (blk_cell BK137.out 7).trans rfl
                        have hcz40_8 : w25.cell? ⟨gb137, 8, none⟩ = some (.int .i64 a0_8) := (blk_cell BK137.out 8).trans rfl
                        have hcz40_9 : w25.cell? ⟨gb137, 9, none⟩ = some (.int .i64 a0_9) := (blk_cell BK137.out 9).trans rfl
                        have hcz40_10 : w25.cell? ⟨gb137, 10, none⟩ = some (.int .i64 a0_10) := (blk_cell BK137.out 10).trans rfl
                        have hcz40_11 : w25.cell? ⟨gb137, 11, none⟩ = some (.int .i64 a0_11) := (blk_cell BK137.out 11).trans rfl
                        have hcz40_12 : w25.cell? ⟨gb137, 12, none⟩ = some (.int .i64 a0_12) := (blk_cell BK137.out 12).trans rfl
                        have hcz40_13 : w25.cell? ⟨gb137, 13, none⟩ = some (.int .i64 a0_13) := (blk_cell BK137.out 13).trans rfl
                        have hfz40_0 := blk_frozen BK137.out 0
                        have hfz40_1 := blk_frozen BK137.out 1
                        have hfz40_2 := blk_frozen BK137.out 2
                        have hfz40_3 := blk_frozen BK137.out 3
                        have hfz40_4 := blk_frozen BK137.out 4
                        have hfz40_5 := blk_frozen BK137.out 5
                        have hfz40_6 := blk_frozen BK137.out 6
                        have hfz40_7 := blk_frozen BK137.out 7
                        have hfz40_8 := blk_frozen BK137.out 8
                        have hfz40_9 := blk_frozen BK137.out 9
                        have hfz40_10 := blk_frozen BK137.out 10
                        have hfz40_11 := blk_frozen BK137.out 11
                        have hfz40_12 := blk_frozen BK137.out 12
                        have hfz40_13 := blk_frozen BK137.out 13
                        go_wp2
                        go_meet
                        case rel => exact ⟨_, (true), (by first | rfl | (simp; done) | (simp [*]; done)), H', ⟨by have := HJ4.out; have := HK2.out; first | omega | exact Nat.le_refl _⟩, ⟨by (with_reducible repeat (first | apply Kd.R_alloc | apply Kd.R_drewN | apply Kd.R_drew)); exact Kd.R_mono (Kd.R_far (p := ⟨gb151, 4, none⟩) (Kd.R_far (p := ⟨gb151, 3, none⟩) (Kd.R_far (p := ⟨gb151, 2, none⟩) (Kd.R_far (p := ⟨gb151, 1, none⟩) (Kd.R_far (p := ⟨gb151, 0, none⟩) (Kd.R_types HO_8.out BK151.out (by decide)) (fun _ hk => hk.2) (.int .i64 t145)) (fun _ hk => hk.2) (.int .i64 t146)) (fun _ hk => hk.2) (.int .i64 t147)) (fun _ hk => hk.2) (.int .i64 t148)) (fun _ hk => hk.2) (.int .i64 t149)) (fun _ hk => hk.1.2)⟩, ⟨by (with_reducible repeat (first | refine blk_drewN ?_ _ | refine blk_drew ?_ | refine blk_alloc ?_ _)); refine blk_far ?_ NB137_151.out _; (with_reducible repeat (first | refine blk_drewN ?_ _ | refine blk_drew ?_ | refine blk_alloc ?_ _)); refine blk_far ?_ NB137_151.out _; (with_reducible repeat (first | refine blk_drewN ?_ _ | refine blk_drew ?_ | refine blk_alloc ?_ _)); refine blk_far ?_ NB137_151.out _; (with_reducible repeat (first | refine blk_drewN ?_ _ | refine blk_drew ?_ | refine blk_alloc ?_ _)); refine blk_far ?_ NB137_151.out _; (with_reducible repeat (first | refine blk_drewN ?_ _ | refine blk_drew ?_ | refine blk_alloc ?_ _)); refine blk_far ?_ NB137_151.out _; (with_reducible repeat (first | refine blk_drewN ?_ _ | refine blk_drew ?_ | refine blk_alloc ?_ _)); exact BK137.out⟩, ⟨by (with_reducible repeat (first | refine blk_drewN ?_ _ | refine blk_drew ?_ | refine blk_alloc ?_ _)); refine blk_far ?_ NB144_151.out _; (with_reducible repeat (first | refine blk_drewN ?_ _ | refine blk_drew ?_ | refine blk_alloc ?_ _)); refine blk_far ?_ NB144_151.out _; (with_reducible repeat (first | refine blk_drewN ?_ _ | refine blk_drew ?_ | refine blk_alloc ?_ _)); refine blk_far ?_ NB144_151.out _; (with_reducible repeat (first | refine blk_drewN ?_ _ | refine blk_drew ?_ | refine blk_alloc ?_ _)); refine blk_far ?_ NB144_151.out _; (with_reducible repeat (first | refine blk_drewN ?_ _ | refine blk_drew ?_ | refine blk_alloc ?_ _)); refine blk_far ?_ NB144_151.out _; (with_reducible repeat (first | refine blk_drewN ?_ _ | refine blk_drew ?_ | refine blk_alloc ?_ _)); exact BK144.out⟩, ⟨by (with_reducible repeat (first | refine blk_drewN ?_ _ | refine blk_drew ?_ | refine blk_alloc ?_ _)); refine blk_put (cs := #[.int .i64 t145, .int .i64 t146, .int .i64 t147, .int .i64 t148, .int .i64 0]) ?_ 4 _ rfl; (with_reducible repeat (first | refine blk_drewN ?_ _ | refine blk_drew ?_ | refine blk_alloc ?_ _)); refine blk_put (cs := #[.int .i64 t145, .int .i64 t146, .int .i64 t147, .int .i64 0, .int .i64 0]) ?_ 3 _ rfl; (with_reducible repeat (first | refine blk_drewN ?_ _ | refine blk_drew ?_ | refine blk_alloc ?_ _)); refine blk_put (cs := #[.int .i64 t145, .int .i64 t146, .int .i64 0, .int .i64 0, .int .i64 0]) ?_ 2 _ rfl; (with_reducible repeat (first | refine blk_drewN ?_ _ | refine blk_drew ?_ | refine blk_alloc ?_ _)); refine blk_put (cs := #[.int .i64 t145, .int .i64 0, .int .i64 0, .int .i64 0, .int .i64 0]) ?_ 1 _ rfl; (with_reducible repeat (first | refine blk_drewN ?_ _ | refine blk_drew ?_ | refine blk_alloc ?_ _)); refine blk_put (cs := #[.int .i64 0, .int .i64 0, .int .i64 0, .int .i64 0, .int .i64 0]) ?_ 0 _ rfl; (with_reducible repeat (first | refine blk_drewN ?_ _ | refine blk_drew ?_ | refine blk_alloc ?_ _)); exact BK151.out⟩, ⟨by repeat (first | (with_reducible first | exact HB.out | apply below_alloc | apply pw_below_drewN | apply below_drew1 | refine below_set ?_ GE137.out | refine below_set ?_ GE144.out | refine below_set ?_ GE151.out) | exact HB.out)⟩⟩
                      · rw [if_neg c34] at H
                        have c34b0 : decide ((ji33) < ((rd_T57 t139 x14_2).f3)) = false := decide_eq_false c34
                        clear c34
                        by_cases c41 : ((rd_T57 t139 x14_2).f2) > a0_5
                        · rw [if_pos c41] at H
                          have c41b0 : decide (a0_5 < ((rd_T57 t139 x14_2).f2)) = true := decide_eq_true c41
                          clear c41
                          have H' := Aside0.mk H
                          clear H
                          have hnb42 := NB144_137.out
                          have hnc42 := NB137_144.out
                          have hnb43 := NB144_151.out
                          have hnc43 := NB151_144.out
                          have hcz44_0 : w25.cell? ⟨gb144, 0, none⟩ = some (.int .i64 ((rd_T57 t139 x14_2).f0)) := (blk_cell BK144.out 0).trans rfl
                          have hcz44_1 : w25.cell? ⟨gb144, 1, none⟩ = some (.int .i64 ((rd_T57 t139 x14_2).f1)) := (blk_cell BK144.out 1).trans rfl
                          have hcz44_2 : w25.cell? ⟨gb144, 2, none⟩ = some (.int .i64 ((rd_T57 t139 x14_2).f2)) := (blk_cell BK144.out 2).trans rfl
                          have hcz44_3 : w25.cell? ⟨gb144, 3, none⟩ = some (.int .i64 ((rd_T57 t139 x14_2).f3)) := (blk_cell BK144.out 3).trans rfl
                          have hcz44_4 : w25.cell? ⟨gb144, 4, none⟩ = some (.int .i64 ((rd_T57 t139 x14_2).f4)) := (blk_cell BK144.out 4).trans rfl
                          have hcz44_5 : w25.cell? ⟨gb144, 5, none⟩ = some (.int .i64 ((rd_T57 t139 x14_2).f5)) := (blk_cell BK144.out 5).trans rfl
                          have hcz44_6 : w25.cell? ⟨gb144, 6, none⟩ = some (.int .i64 ((rd_T57 t139 x14_2).f6)) := (blk_cell BK144.out 6).trans rfl
                          have hfz44_0 := blk_frozen BK144.out 0
                          have hfz44_1 := blk_frozen BK144.out 1
                          have hfz44_2 := blk_frozen BK144.out 2
                          have hfz44_3 := blk_frozen BK144.out 3
                          have hfz44_4 := blk_frozen BK144.out 4
                          have hfz44_5 := blk_frozen BK144.out 5
                          have hfz44_6 := blk_frozen BK144.out 6
                          have hnb45 := NB151_137.out
                          have hnc45 := NB137_151.out
                          have hcz46_0 : w25.cell? ⟨gb151, 0, none⟩ = some (.int .i64 0) := (blk_cell BK151.out 0).trans rfl
                          have hcz46_1 : w25.cell? ⟨gb151, 1, none⟩ = some (.int .i64 0) := (blk_cell BK151.out 1).trans rfl
                          have hcz46_2 : w25.cell? ⟨gb151, 2, none⟩ = some (.int .i64 0) := (blk_cell BK151.out 2).trans rfl
                          have hcz46_3 : w25.cell? ⟨gb151, 3, none⟩ = some (.int .i64 0) := (blk_cell BK151.out 3).trans rfl
                          have hcz46_4 : w25.cell? ⟨gb151, 4, none⟩ = some (.int .i64 0) := (blk_cell BK151.out 4).trans rfl
                          have hfz46_0 := blk_frozen BK151.out 0
                          have hfz46_1 := blk_frozen BK151.out 1
                          have hfz46_2 := blk_frozen BK151.out 2
                          have hfz46_3 := blk_frozen BK151.out 3
                          have hfz46_4 := blk_frozen BK151.out 4
                          have hcz47_0 : w25.cell? ⟨gb137, 0, none⟩ = some (.slice A0_0 l0_0.length c0_0) := (blk_cell BK137.out 0).trans rfl
                          have hcz47_1 : w25.cell? ⟨gb137, 1, none⟩ = some (.slice A0_1 l0_1.length c0_1) := (blk_cell BK137.out 1).trans rfl
                          have hcz47_2 : w25.cell? ⟨gb137, 2, none⟩ = some (.slice A0_2 l0_2.length c0_2) := (blk_cell BK137.out 2).trans rfl
                          have hcz47_3 : w25.cell? ⟨gb137, 3, none⟩ = some (.float .f64 a0_3) := (blk_cell BK137.out 3).trans rfl
                          have hcz47_4 : w25.cell? ⟨gb137, 4, none⟩ = some (.int .i64 a0_4) := (blk_cell BK137.out 4).trans rfl
                          have hcz47_5 : w25.cell? ⟨gb137, 5, none⟩ = some (.int .i64 a0_5) := (blk_cell BK137.out 5).trans rfl
                          have hcz47_6 : w25.cell? ⟨gb137, 6, none⟩ = some (.int .i64 a0_6) := (blk_cell BK137.out 6).trans rfl
                          have hcz47_7 : w25.cell? ⟨gb137, 7, none⟩ = some (.int .i64 a0_7) := (blk_cell BK137.out 7).trans rfl
                          have hcz47_8 : w25.cell? ⟨gb137, 8, none⟩ = some (.int .i64 a0_8) := (blk_cell BK137.out 8).trans rfl
                          have hcz47_9 : w25.cell? ⟨gb137, 9, none⟩ = some (.int .i64 a0_9) := (blk_cell BK137.out 9).trans rfl
                          have hcz47_10 : w25.cell? ⟨gb137, 10, none⟩ = some (.int .i64 a0_10) := (blk_cell BK137.out 10).trans rfl
                          have hcz47_11 : w25.cell? ⟨gb137, 11, none⟩ = some (.int .i64 a0_11) := (blk_cell BK137.out 11).trans rfl
                          have hcz47_12 : w25.cell? ⟨gb137, 12, none⟩ = some (.int .i64 a0_12) := (blk_cell BK137.out 12).trans rfl
                          have hcz47_13 : w25.cell? ⟨gb137, 13, none⟩ = some (.int .i64 a0_13) := (blk_cell BK137.out 13).trans rfl
                          have hfz47_0 := blk_frozen BK137.out 0
                          have hfz47_1 := blk_frozen BK137.out 1
                          have hfz47_2 := blk_frozen BK137.out 2
                          have hfz47_3 := blk_frozen BK137.out 3
                          have hfz47_4 := blk_frozen BK137.out 4
                          have hfz47_5 := blk_frozen BK137.out 5
                          have hfz47_6 := blk_frozen BK137.out 6
                          have hfz47_7 := blk_frozen BK137.out 7
                          have hfz47_8 := blk_frozen BK137.out 8
                          have hfz47_9 := blk_frozen BK137.out 9
                          have hfz47_10 := blk_frozen BK137.out 10
                          have hfz47_11 := blk_frozen BK137.out 11
                          have hfz47_12 := blk_frozen BK137.out 12
                          have hfz47_13 := blk_frozen BK137.out 13
                          go_wp2
                          go_meet
                          case rel => exact ⟨_, (true), (by first | rfl | (simp; done) | (simp [*]; done)), H', ⟨by have := HJ4.out; have := HK2.out; first | omega | exact Nat.le_refl _⟩, ⟨by (with_reducible repeat (first | apply Kd.R_alloc | apply Kd.R_drewN | apply Kd.R_drew)); exact Kd.R_mono (Kd.R_far (p := ⟨gb151, 4, none⟩) (Kd.R_far (p := ⟨gb151, 3, none⟩) (Kd.R_far (p := ⟨gb151, 2, none⟩) (Kd.R_far (p := ⟨gb151, 1, none⟩) (Kd.R_far (p := ⟨gb151, 0, none⟩) (Kd.R_types HO_8.out BK151.out (by decide)) (fun _ hk => hk.2) (.int .i64 t145)) (fun _ hk => hk.2) (.int .i64 t146)) (fun _ hk => hk.2) (.int .i64 t147)) (fun _ hk => hk.2) (.int .i64 t148)) (fun _ hk => hk.2) (.int .i64 t149)) (fun _ hk => hk.1.2)⟩, ⟨by (with_reducible repeat (first | refine blk_drewN ?_ _ | refine blk_drew ?_ | refine blk_alloc ?_ _)); refine blk_far ?_ NB137_151.out _; (with_reducible repeat (first | refine blk_drewN ?_ _ | refine blk_drew ?_ | refine blk_alloc ?_ _)); refine blk_far ?_ NB137_151.out _; (with_reducible repeat (first | refine blk_drewN ?_ _ | refine blk_drew ?_ | refine blk_alloc ?_ _)); refine blk_far ?_ NB137_151.out _; (with_reducible repeat (first | refine blk_drewN ?_ _ | refine blk_drew ?_ | refine blk_alloc ?_ _)); refine blk_far ?_ NB137_151.out _; (with_reducible repeat (first | refine blk_drewN ?_ _ | refine blk_drew ?_ | refine blk_alloc ?_ _)); refine blk_far ?_ NB137_151.out _; (with_reducible repeat (first | refine blk_drewN ?_ _ | refine blk_drew ?_ | refine blk_alloc ?_ _)); exact BK137.out⟩, ⟨by (with_reducible repeat (first | refine blk_drewN ?_ _ | refine blk_drew ?_ | refine blk_alloc ?_ _)); refine blk_far ?_ NB144_151.out _; (with_reducible repeat (first | refine blk_drewN ?_ _ | refine blk_drew ?_ | refine blk_alloc ?_ _)); refine blk_far ?_ NB144_151.out _; (with_reducible repeat (first | refine blk_drewN ?_ _ | refine blk_drew ?_ | refine blk_alloc ?_ _)); refine blk_far ?_ NB144_151.out _; (with_reducible repeat (first | refine blk_drewN ?_ _ | refine blk_drew ?_ | refine blk_alloc ?_ _)); refine blk_far ?_ NB144_151.out _; (with_reducible repeat (first | refine blk_drewN ?_ _ | refine blk_drew ?_ | refine blk_alloc ?_ _)); refine blk_far ?_ NB144_151.out _; (with_reducible repeat (first | refine blk_drewN ?_ _ | refine blk_drew ?_ | refine blk_alloc ?_ _)); exact BK144.out⟩, ⟨by (with_reducible repeat (first | refine blk_drewN ?_ _ | refine blk_drew ?_ | refine blk_alloc ?_ _)); refine blk_put (cs := #[.int .i64 t145, .int .i64 t146, .int .i64 t147, .int .i64 t148, .int .i64 0]) ?_ 4 _ rfl; (with_reducible repeat (first | refine blk_drewN ?_ _ | refine blk_drew ?_ | refine blk_alloc ?_ _)); refine blk_put (cs := #[.int .i64 t145, .int .i64 t146, .int .i64 t147, .int .i64 0, .int .i64 0]) ?_ 3 _ rfl; (with_reducible repeat (first | refine blk_drewN ?_ _ | refine blk_drew ?_ | refine blk_alloc ?_ _)); refine blk_put (cs := #[.int .i64 t145, .int .i64 t146, .int .i64 0, .int .i64 0, .int .i64 0]) ?_ 2 _ rfl; (with_reducible repeat (first | refine blk_drewN ?_ _ | refine blk_drew ?_ | refine blk_alloc ?_ _)); refine blk_put (cs := #[.int .i64 t145, .int .i64 0, .int .i64 0, .int .i64 0, .int .i64 0]) ?_ 1 _ rfl; (with_reducible repeat (first | refine blk_drewN ?_ _ | refine blk_drew ?_ | refine blk_alloc ?_ _)); refine blk_put (cs := #[.int .i64 0, .int .i64 0, .int .i64 0, .int .i64 0, .int .i64 0]) ?_ 0 _ rfl; (with_reducible repeat (first | refine blk_drewN ?_ _ | refine blk_drew ?_ | refine blk_alloc ?_ _)); exact BK151.out⟩, ⟨by repeat (first | (with_reducible first | exact HB.out | apply below_alloc | apply pw_below_drewN | apply below_drew1 | refine below_set ?_ GE137.out | refine below_set ?_ GE144.out | refine below_set ?_ GE151.out) | exact HB.out)⟩⟩
                        · rw [if_neg c41] at H
                          have c41b0 : decide (a0_5 < ((rd_T57 t139 x14_2).f2)) = false := decide_eq_false c41
                          clear c41
                          have H' := Aside0.mk H
                          clear H
                          have hnb48 := NB144_137.out
                          have hnc48 := NB137_144.out
                          have hnb49 := NB144_151.out
                          have hnc49 := NB151_144.out
                          have hcz50_0 : w25.cell? ⟨gb144, 0, none⟩ = some (.int .i64 ((rd_T57 t139 x14_2).f0)) := (blk_cell BK144.out 0).trans rfl
                          have hcz50_1 : w25.cell? ⟨gb144, 1, none⟩ = some (.int .i64 ((rd_T57 t139 x14_2).f1)) := (blk_cell BK144.out 1).trans rfl
                          have hcz50_2 : w25.cell? ⟨gb144, 2, none⟩ = some (.int .i64 ((rd_T57 t139 x14_2).f2)) := (blk_cell BK144.out 2).trans rfl
                          have hcz50_3 : w25.cell? ⟨gb144, 3, none⟩ = some (.int .i64 ((rd_T57 t139 x14_2).f3)) := (blk_cell BK144.out 3).trans rfl
                          have hcz50_4 : w25.cell? ⟨gb144, 4, none⟩ = some (.int .i64 ((rd_T57 t139 x14_2).f4)) := (blk_cell BK144.out 4).trans rfl
                          have hcz50_5 : w25.cell? ⟨gb144, 5, none⟩ = some (.int .i64 ((rd_T57 t139 x14_2).f5)) := (blk_cell BK144.out 5).trans rfl
                          have hcz50_6 : w25.cell? ⟨gb144, 6, none⟩ = some (.int .i64 ((rd_T57 t139 x14_2).f6)) := (blk_cell BK144.out 6).trans rfl
                          have hfz50_0 := blk_frozen BK144.out 0
                          have hfz50_1 := blk_frozen BK144.out 1
                          have hfz50_2 := blk_frozen BK144.out 2
                          have hfz50_3 := blk_frozen BK144.out 3
                          have hfz50_4 := blk_frozen BK144.out 4
                          have hfz50_5 := blk_frozen BK144.out 5
                          have hfz50_6 := blk_frozen BK144.out 6
                          have hnb51 := NB151_137.out
                          have hnc51 := NB137_151.out
                          have hcz52_0 : w25.cell? ⟨gb151, 0, none⟩ = some (.int .i64 0) := (blk_cell BK151.out 0).trans rfl
                          have hcz52_1 : w25.cell? ⟨gb151, 1, none⟩ = some (.int .i64 0) := (blk_cell BK151.out 1).trans rfl
                          have hcz52_2 : w25.cell? ⟨gb151, 2, none⟩ = some (.int .i64 0) := (blk_cell BK151.out 2).trans rfl
                          have hcz52_3 : w25.cell? ⟨gb151, 3, none⟩ = some (.int .i64 0) := (blk_cell BK151.out 3).trans rfl
                          have hcz52_4 : w25.cell? ⟨gb151, 4, none⟩ = some (.int .i64 0) := (blk_cell BK151.out 4).trans rfl
                          have hfz52_0 := blk_frozen BK151.out 0
                          have hfz52_1 := blk_frozen BK151.out 1
                          have hfz52_2 := blk_frozen BK151.out 2
                          have hfz52_3 := blk_frozen BK151.out 3
                          have hfz52_4 := blk_frozen BK151.out 4
                          have hcz53_0 : w25.cell? ⟨gb137, 0, none⟩ = some (.slice A0_0 l0_0.length c0_0) := (blk_cell BK137.out 0).trans rfl
                          have hcz53_1 : w25.cell? ⟨gb137, 1, none⟩ = some (.slice A0_1 l0_1.length c0_1) := (blk_cell BK137.out 1).trans rfl
                          have hcz53_2 : w25.cell? ⟨gb137, 2, none⟩ = some (.slice A0_2 l0_2.length c0_2) := (blk_cell BK137.out 2).trans rfl
                          have hcz53_3 : w25.cell? ⟨gb137, 3, none⟩ = some (.float .f64 a0_3) := (blk_cell BK137.out 3).trans rfl
                          have hcz53_4 : w25.cell? ⟨gb137, 4, none⟩ = some (.int .i64 a0_4) := (blk_cell BK137.out 4).trans rfl
                          have hcz53_5 : w25.cell? ⟨gb137, 5, none⟩ = some (.int .i64 a0_5) := (blk_cell BK137.out 5).trans rfl
                          have hcz53_6 : w25.cell? ⟨gb137, 6, none⟩ = some (.int .i64 a0_6) := (blk_cell BK137.out 6).trans rfl
                          have hcz53_7 : w25.cell? ⟨gb137, 7, none⟩ = some (.int .i64 a0_7) := (blk_cell BK137.out 7).trans rfl
                          have hcz53_8 : w25.cell? ⟨gb137, 8, none⟩ = some (.int .i64 a0_8) := (blk_cell BK137.out 8).trans rfl
                          have hcz53_9 : w25.cell? ⟨gb137, 9, none⟩ = some (.int .i64 a0_9) := (blk_cell BK137.out 9).trans rfl
                          have hcz53_10 : w25.cell? ⟨gb137, 10, none⟩ = some (.int .i64 a0_10) := (blk_cell BK137.out 10).trans rfl
                          have hcz53_11 : w25.cell? ⟨gb137, 11, none⟩ = some (.int .i64 a0_11) := (blk_cell BK137.out 11).trans rfl
                          have hcz53_12 : w25.cell? ⟨gb137, 12, none⟩ = some (.int .i64 a0_12) := (blk_cell BK137.out 12).trans rfl
                          have hcz53_13 : w25.cell? ⟨gb137, 13, none⟩ = some (.int .i64 a0_13) := (blk_cell BK137.out 13).trans rfl
                          have hfz53_0 := blk_frozen BK137.out 0
                          have hfz53_1 := blk_frozen BK137.out 1
                          have hfz53_2 := blk_frozen BK137.out 2
                          have hfz53_3 := blk_frozen BK137.out 3
                          have hfz53_4 := blk_frozen BK137.out 4
                          have hfz53_5 := blk_frozen BK137.out 5
                          have hfz53_6 := blk_frozen BK137.out 6
                          have hfz53_7 := blk_frozen BK137.out 7
                          have hfz53_8 := blk_frozen BK137.out 8
                          have hfz53_9 := blk_frozen BK137.out 9
                          have hfz53_10 := blk_frozen BK137.out 10
                          have hfz53_11 := blk_frozen BK137.out 11
                          have hfz53_12 := blk_frozen BK137.out 12
                          have hfz53_13 := blk_frozen BK137.out 13
                          go_wp2
                          go_meet
                          case rel => exact ⟨_, (decide (((rd_T57 t139 x14_2).f3) < ((rd_T57 t139 x14_2).f2))), (by first | rfl | (simp; done) | (simp [*]; done)), H', ⟨by have := HJ4.out; have := HK2.out; first | omega | exact Nat.le_refl _⟩, ⟨by (with_reducible repeat (first | apply Kd.R_alloc | apply Kd.R_drewN | apply Kd.R_drew)); exact Kd.R_mono (Kd.R_far (p := ⟨gb151, 4, none⟩) (Kd.R_far (p := ⟨gb151, 3, none⟩) (Kd.R_far (p := ⟨gb151, 2, none⟩) (Kd.R_far (p := ⟨gb151, 1, none⟩) (Kd.R_far (p := ⟨gb151, 0, none⟩) (Kd.R_types HO_8.out BK151.out (by decide)) (fun _ hk => hk.2) (.int .i64 t145)) (fun _ hk => hk.2) (.int .i64 t146)) (fun _ hk => hk.2) (.int .i64 t147)) (fun _ hk => hk.2) (.int .i64 t148)) (fun _ hk => hk.2) (.int .i64 t149)) (fun _ hk => hk.1.2)⟩, ⟨by (with_reducible repeat (first | refine blk_drewN ?_ _ | refine blk_drew ?_ | refine blk_alloc ?_ _)); refine blk_far ?_ NB137_151.out _; (with_reducible repeat (first | refine blk_drewN ?_ _ | refine blk_drew ?_ | refine blk_alloc ?_ _)); refine blk_far ?_ NB137_151.out _; (with_reducible repeat (first | refine blk_drewN ?_ _ | refine blk_drew ?_ | refine blk_alloc ?_ _)); refine blk_far ?_ NB137_151.out _; (with_reducible repeat (first | refine blk_drewN ?_ _ | refine blk_drew ?_ | refine blk_alloc ?_ _)); refine blk_far ?_ NB137_151.out _; (with_reducible repeat (first | refine blk_drewN ?_ _ | refine blk_drew ?_ | refine blk_alloc ?_ _)); refine blk_far ?_ NB137_151.out _; (with_reducible repeat (first | refine blk_drewN ?_ _ | refine blk_drew ?_ | refine blk_alloc ?_ _)); exact BK137.out⟩, ⟨by (with_reducible repeat (first | refine blk_drewN ?_ _ | refine blk_drew ?_ | refine blk_alloc ?_ _)); refine blk_far ?_ NB144_151.out _; (with_reducible repeat (first | refine blk_drewN ?_ _ | refine blk_drew ?_ | refine blk_alloc ?_ _)); refine blk_far ?_ NB144_151.out _; (with_reducible repeat (first | refine blk_drewN ?_ _ | refine blk_drew ?_ | refine blk_alloc ?_ _)); refine blk_far ?_ NB144_151.out _; (with_reducible repeat (first | refine blk_drewN ?_ _ | refine blk_drew ?_ | refine blk_alloc ?_ _)); refine blk_far ?_ NB144_151.out _; (with_reducible repeat (first | refine blk_drewN ?_ _ | refine blk_drew ?_ | refine blk_alloc ?_ _)); refine blk_far ?_ NB144_151.out _; (with_reducible repeat (first | refine blk_drewN ?_ _ | refine blk_drew ?_ | refine blk_alloc ?_ _)); exact BK144.out⟩, ⟨by (with_reducible repeat (first | refine blk_drewN ?_ _ | refine blk_drew ?_ | refine blk_alloc ?_ _)); refine blk_put (cs := #[.int .i64 t145, .int .i64 t146, .int .i64 t147, .int .i64 t148, .int .i64 0]) ?_ 4 _ rfl; (with_reducible repeat (first | refine blk_drewN ?_ _ | refine blk_drew ?_ | refine blk_alloc ?_ _)); refine blk_put (cs := #[.int .i64 t145, .int .i64 t146, .int .i64 t147, .int .i64 0, .int .i64 0]) ?_ 3 _ rfl; (with_reducible repeat (first | refine blk_drewN ?_ _ | refine blk_drew ?_ | refine blk_alloc ?_ _)); refine blk_put (cs := #[.int .i64 t145, .int .i64 t146, .int .i64 0, .int .i64 0, .int .i64 0]) ?_ 2 _ rfl; (with_reducible repeat (first | refine blk_drewN ?_ _ | refine blk_drew ?_ | refine blk_alloc ?_ _)); refine blk_put (cs := #[.int .i64 t145, .int .i64 0, .int .i64 0, .int .i64 0, .int .i64 0]) ?_ 1 _ rfl; (with_reducible repeat (first | refine blk_drewN ?_ _ | refine blk_drew ?_ | refine blk_alloc ?_ _)); refine blk_put (cs := #[.int .i64 0, .int .i64 0, .int .i64 0, .int .i64 0, .int .i64 0]) ?_ 0 _ rfl; (with_reducible repeat (first | refine blk_drewN ?_ _ | refine blk_drew ?_ | refine blk_alloc ?_ _)); exact BK151.out⟩, ⟨by repeat (first | (with_reducible first | exact HB.out | apply below_alloc | apply pw_below_drewN | apply below_drew1 | refine below_set ?_ GE137.out | refine below_set ?_ GE144.out | refine below_set ?_ GE151.out) | exact HB.out)⟩⟩
                  case rest =>
                    clear HC18
                    try clear c1
                    try clear p1
                    try clear q1
                    try clear hx1
                    try clear c2
                    try clear p2
                    try clear c3
                    try clear c4
                    try clear c5
                    try clear p6
                    try clear c8
                    try clear c9
                    try clear c9b0
                    try clear c10
                    try clear c12
                    try clear p14
                    try clear q14
                    try clear hx14
                    try clear c15
                    try clear c15b0
                    try clear c16
                    try clear c16b0
                    try clear c21
                    try clear c26
                    try clear c27
                    try clear c29
                    try clear c29b0
                    try clear c30
                    try clear c31
                    try clear c32
                    try clear c34
                    try clear c34b0
                    try clear c35
                    try clear c36
                    try clear c38
                    try clear c41
                    try clear c41b0
                    try clear c42
                    try clear c43
                    try clear c45
                    try clear c46
                    try clear c48
                    try clear c49
                    try clear c51
                    try clear hcz13_0
                    try clear hcz13_1
                    try clear hcz13_10
                    try clear hcz13_11
                    try clear hcz13_12
                    try clear hcz13_13
                    try clear hcz13_2
                    try clear hcz13_3
                    try clear hcz13_4
                    try clear hcz13_5
                    try clear hcz13_6
                    try clear hcz13_7
                    try clear hcz13_8
                    try clear hcz13_9
                    try clear hcz22_0
                    try clear hcz22_1
                    try clear hcz22_2
                    try clear hcz22_3
                    try clear hcz22_4
                    try clear hcz22_5
                    try clear hcz22_6
                    try clear hcz23_0
                    try clear hcz23_1
                    try clear hcz23_10
                    try clear hcz23_11
                    try clear hcz23_12
                    try clear hcz23_13
                    try clear hcz23_2
                    try clear hcz23_3
                    try clear hcz23_4
                    try clear hcz23_5
                    try clear hcz23_6
                    try clear hcz23_7
                    try clear hcz23_8
                    try clear hcz23_9
                    try clear hcz28_0
                    try clear hcz28_1
                    try clear hcz28_2
                    try clear hcz28_3
                    try clear hcz28_4
                    try clear hcz32_0
                    try clear hcz32_1
                    try clear hcz32_2
                    try clear hcz32_3
                    try clear hcz32_4
                    try clear hcz32_5
                    try clear hcz32_6
                    try clear hcz37_0
                    try clear hcz37_1
                    try clear hcz37_2
                    try clear hcz37_3
                    try clear hcz37_4
                    try clear hcz37_5
                    try clear hcz37_6
                    try clear hcz39_0
                    try clear hcz39_1
                    try clear hcz39_2
                    try clear hcz39_3
                    try clear hcz39_4
                    try clear hcz40_0
                    try clear hcz40_1
                    try clear hcz40_10
                    try clear hcz40_11
                    try clear hcz40_12
                    try clear hcz40_13
                    try clear hcz40_2
                    try clear hcz40_3
                    try clear hcz40_4
                    try clear hcz40_5
                    try clear hcz40_6
                    try clear hcz40_7
                    try clear hcz40_8
                    try clear hcz40_9
                    try clear hcz44_0
                    try clear hcz44_1
                    try clear hcz44_2
                    try clear hcz44_3
                    try clear hcz44_4
                    try clear hcz44_5
                    try clear hcz44_6
                    try clear hcz46_0
                    try clear hcz46_1
                    try clear hcz46_2
                    try clear hcz46_3
                    try clear hcz46_4
                    try clear hcz47_0
                    try clear hcz47_1
                    try clear hcz47_10
                    try clear hcz47_11
                    try clear hcz47_12
                    try clear hcz47_13
                    try clear hcz47_2
                    try clear hcz47_3
                    try clear hcz47_4
                    try clear hcz47_5
                    try clear hcz47_6
                    try clear hcz47_7
                    try clear hcz47_8
                    try clear hcz47_9
                    try clear hcz50_0
                    try clear hcz50_1
                    try clear hcz50_2
                    try clear hcz50_3
                    try clear hcz50_4
                    try clear hcz50_5
                    try clear hcz50_6
                    try clear hcz52_0
                    try clear hcz52_1
                    try clear hcz52_2
                    try clear hcz52_3
                    try clear hcz52_4
                    try clear hcz53_0
                    try clear hcz53_1
                    try clear hcz53_10
                    try clear hcz53_11
                    try clear hcz53_12
                    try clear hcz53_13
                    try clear hcz53_2
                    try clear hcz53_3
                    try clear hcz53_4
                    try clear hcz53_5
                    try clear hcz53_6
                    try clear hcz53_7
                    try clear hcz53_8
                    try clear hcz53_9
                    try clear hfz13_0
                    try clear hfz13_1
                    try clear hfz13_10
                    try clear hfz13_11
                    try clear hfz13_12
                    try clear hfz13_13
                    try clear hfz13_2
                    try clear hfz13_3
                    try clear hfz13_4
                    try clear hfz13_5
                    try clear hfz13_6
                    try clear hfz13_7
                    try clear hfz13_8
                    try clear hfz13_9
                    try clear hfz22_0
                    try clear hfz22_1
                    try clear hfz22_2
                    try clear hfz22_3
                    try clear hfz22_4
                    try clear hfz22_5
                    try clear hfz22_6
                    try clear hfz23_0
                    try clear hfz23_1
                    try clear hfz23_10
                    try clear hfz23_11
                    try clear hfz23_12
                    try clear hfz23_13
                    try clear hfz23_2
                    try clear hfz23_3
                    try clear hfz23_4
                    try clear hfz23_5
                    try clear hfz23_6
                    try clear hfz23_7
                    try clear hfz23_8
                    try clear hfz23_9
                    try clear hfz28_0
                    try clear hfz28_1
                    try clear hfz28_2
                    try clear hfz28_3
                    try clear hfz28_4
                    try clear hfz32_0
                    try clear hfz32_1
                    try clear hfz32_2
                    try clear hfz32_3
                    try clear hfz32_4
                    try clear hfz32_5
                    try clear hfz32_6
                    try clear hfz37_0
                    try clear hfz37_1
                    try clear hfz37_2
                    try clear hfz37_3
                    try clear hfz37_4
                    try clear hfz37_5
                    try clear hfz37_6
                    try clear hfz39_0
                    try clear hfz39_1
                    try clear hfz39_2
                    try clear hfz39_3
                    try clear hfz39_4
                    try clear hfz40_0
                    try clear hfz40_1
                    try clear hfz40_10
                    try clear hfz40_11
                    try clear hfz40_12
                    try clear hfz40_13
                    try clear hfz40_2
                    try clear hfz40_3
                    try clear hfz40_4
                    try clear hfz40_5
                    try clear hfz40_6
                    try clear hfz40_7
                    try clear hfz40_8
                    try clear hfz40_9
                    try clear hfz44_0
                    try clear hfz44_1
                    try clear hfz44_2
                    try clear hfz44_3
                    try clear hfz44_4
                    try clear hfz44_5
                    try clear hfz44_6
                    try clear hfz46_0
                    try clear hfz46_1
                    try clear hfz46_2
                    try clear hfz46_3
                    try clear hfz46_4
                    try clear hfz47_0
                    try clear hfz47_1
                    try clear hfz47_10
                    try clear hfz47_11
                    try clear hfz47_12
                    try clear hfz47_13
                    try clear hfz47_2
                    try clear hfz47_3
                    try clear hfz47_4
                    try clear hfz47_5
                    try clear hfz47_6
                    try clear hfz47_7
                    try clear hfz47_8
                    try clear hfz47_9
                    try clear hfz50_0
                    try clear hfz50_1
                    try clear hfz50_2
                    try clear hfz50_3
                    try clear hfz50_4
                    try clear hfz50_5
                    try clear hfz50_6
                    try clear hfz52_0
                    try clear hfz52_1
                    try clear hfz52_2
                    try clear hfz52_3
                    try clear hfz52_4
                    try clear hfz53_0
                    try clear hfz53_1
                    try clear hfz53_10
                    try clear hfz53_11
                    try clear hfz53_12
                    try clear hfz53_13
                    try clear hfz53_2
                    try clear hfz53_3
                    try clear hfz53_4
                    try clear hfz53_5
                    try clear hfz53_6
                    try clear hfz53_7
                    try clear hfz53_8
                    try clear hfz53_9
                    try clear hx143_0
                    try clear hx143_1
                    try clear hx143_2
                    try clear hx143_3
                    try clear hx143_4
                    try clear hx143_5
                    try clear hx143_6
                    try clear p143
                    try clear p2
                    try clear p6
                    try clear q143
                    obtain ⟨kq, x95_17, rfl, HA, HJ17, HO_8, BK137, BK144, BK151, HB⟩ := hcut
                    cases kq with
                    | zero => exact absurd HA.out (by simp [fareboxlaw19_CapsHold.j2])
                    | succ kj17 =>
                      have H := HA.out
                      clear HA
                      simp only [fareboxlaw19_CapsHold.j2] at H
                      by_cases c54 : x95_17 = true
                      · subst c54
                        have H1 : (some false) = some r := by rw [if_pos rfl] at H; exact H
                        clear H
                        have H := H1
                        clear H1
                        obtain rfl := Option.some.inj H
                        go_wp2
                        go_ret
                        exact ⟨by first | rfl | (simp [errW_none, errW_some] <;> rfl) | (simp [*, errW_none, errW_some] <;> rfl), by repeat (first | (with_reducible first | exact HB.out | apply below_alloc | apply pw_below_drewN | apply below_drew1 | refine below_set ?_ GE137.out | refine below_set ?_ GE144.out | refine below_set ?_ GE151.out) | exact HB.out)⟩
                      · replace c54 := Bool.eq_false_iff.mpr c54
                        subst c54
                        have H1 : (if ((rd_T57 t139 x14_2).f5) > 0 then (if x12_2 = 0 then (fareboxlaw19_CapsHold.l0 kj17 t139 (wrap64 ((wrap64 (x10_2 + ((rd_T57 t139 x14_2).f3))) + ((rd_T57 t139 x14_2).f4))) (wrap64 (x11_2 + ((rd_T57 t139 x14_2).f4))) ((rd_T57 t139 x14_2).f5) (mx x13_2 ((rd_T57 t139 x14_2).f6)) (wrap64 (x14_2 + 1)) l0_0 l0_1 l0_2 a0_3 a0_4 a0_5 a0_6 a0_7 a0_8 a0_9 a0_10 a0_11 a0_12 a0_13) else (if ((rd_T57 t139 x14_2).f5) < x12_2 then (fareboxlaw19_CapsHold.l0 kj17 t139 (wrap64 ((wrap64 (x10_2 + ((rd_T57 t139 x14_2).f3))) + ((rd_T57 t139 x14_2).f4))) (wrap64 (x11_2 + ((rd_T57 t139 x14_2).f4))) ((rd_T57 t139 x14_2).f5) (mx x13_2 ((rd_T57 t139 x14_2).f6)) (wrap64 (x14_2 + 1)) l0_0 l0_1 l0_2 a0_3 a0_4 a0_5 a0_6 a0_7 a0_8 a0_9 a0_10 a0_11 a0_12 a0_13) else (fareboxlaw19_CapsHold.l0 kj17 t139 (wrap64 ((wrap64 (x10_2 + ((rd_T57 t139 x14_2).f3))) + ((rd_T57 t139 x14_2).f4))) (wrap64 (x11_2 + ((rd_T57 t139 x14_2).f4))) x12_2 (mx x13_2 ((rd_T57 t139 x14_2).f6)) (wrap64 (x14_2 + 1)) l0_0 l0_1 l0_2 a0_3 a0_4 a0_5 a0_6 a0_7 a0_8 a0_9 a0_10 a0_11 a0_12 a0_13))) else (fareboxlaw19_CapsHold.l0 kj17 t139 (wrap64 ((wrap64 (x10_2 + ((rd_T57 t139 x14_2).f3))) + ((rd_T57 t139 x14_2).f4))) (wrap64 (x11_2 + ((rd_T57 t139 x14_2).f4))) x12_2 (mx x13_2 ((rd_T57 t139 x14_2).f6)) (wrap64 (x14_2 + 1)) l0_0 l0_1 l0_2 a0_3 a0_4 a0_5 a0_6 a0_7 a0_8 a0_9 a0_10 a0_11 a0_12 a0_13)) = some r := by rw [if_neg (show ¬ (false = true) by decide)] at H; exact H
                        clear H
                        have H := H1
                        clear H1
                        by_cases c55 : ((rd_T57 t139 x14_2).f5) > 0
                        · rw [if_pos c55] at H
                          have c55b0 : decide (0 < ((rd_T57 t139 x14_2).f5)) = true := decide_eq_true c55
                          clear c55
                          by_cases c56 : x12_2 = 0
                          · rw [if_pos c56] at H
                            have c56b0 : (x12_2 == 0) = true := beq_iff_eq.mpr c56
                            have c56b1 : (x12_2 != 0) = false := bne_eq_false_iff_eq.mpr c56
                            clear c56
                            obtain ⟨ji57, hji57⟩ : ∃ j_ : Int, (mx x13_2 ((rd_T57 t139 x14_2).f6)) = j_ := ⟨_, rfl⟩
                            replace H : (fareboxlaw19_CapsHold.l0 kj17 t139 (wrap64 ((wrap64 (x10_2 + ((rd_T57 t139 x14_2).f3))) + ((rd_T57 t139 x14_2).f4))) (wrap64 (x11_2 + ((rd_T57 t139 x14_2).f4))) ((rd_T57 t139 x14_2).f5) ji57 (wrap64 (x14_2 + 1)) l0_0 l0_1 l0_2 a0_3 a0_4 a0_5 a0_6 a0_7 a0_8 a0_9 a0_10 a0_11 a0_12 a0_13) = some r := by first | (rw [hji57] at H; exact H) | (simp only [hji57] at H ⊢; exact H)
                            have hji57_ : (if x13_2 < ((rd_T57 t139 x14_2).f6) then ((rd_T57 t139 x14_2).f6) else x13_2) = ji57 := hji57
                            have H' := Aside0.mk H
                            clear H
                            have hnb58 := NB144_137.out
                            have hnc58 := NB137_144.out
                            have hnb59 := NB144_151.out
                            have hnc59 := NB151_144.out
                            have hcz60_0 : wc.cell? ⟨gb144, 0, none⟩ = some (.int .i64 ((rd_T57 t139 x14_2).f0)) := (blk_cell BK144.out 0).trans rfl
                            have hcz60_1 : wc.cell? ⟨gb144, 1, none⟩ = some (.int .i64 ((rd_T57 t139 x14_2).f1)) := (blk_cell BK144.out 1).trans rfl
                            have hcz60_2 : wc.cell? ⟨gb144, 2, none⟩ = some (.int .i64 ((rd_T57 t139 x14_2).f2)) := (blk_cell BK144.out 2).trans rfl
                            have hcz60_3 : wc.cell? ⟨gb144, 3, none⟩ = some (.int .i64 ((rd_T57 t139 x14_2).f3)) := (blk_cell BK144.out 3).trans rfl
                            have hcz60_4 : wc.cell? ⟨gb144, 4, none⟩ = some (.int .i64 ((rd_T57 t139 x14_2).f4)) := (blk_cell BK144.out 4).trans rfl
                            have hcz60_5 : wc.cell? ⟨gb144, 5, none⟩ = some (.int .i64 ((rd_T57 t139 x14_2).f5)) := (blk_cell BK144.out 5).trans rfl
                            have hcz60_6 : wc.cell? ⟨gb144, 6, none⟩ = some (.int .i64 ((rd_T57 t139 x14_2).f6)) := (blk_cell BK144.out 6).trans rfl
                            have hfz60_0 := blk_frozen BK144.out 0
                            have hfz60_1 := blk_frozen BK144.out 1
                            have hfz60_2 := blk_frozen BK144.out 2
                            have hfz60_3 := blk_frozen BK144.out 3
                            have hfz60_4 := blk_frozen BK144.out 4
                            have hfz60_5 := blk_frozen BK144.out 5
                            have hfz60_6 := blk_frozen BK144.out 6
                            go_wp2
                            go_roundg kj17
                            case measure => have := HJ4.out; have := HK2.out; have := HJ17.out; omega
                            case rel => exact ⟨(wrap64 ((wrap64 (x10_2 + ((rd_T57 t139 x14_2).f3))) + ((rd_T57 t139 x14_2).f4))), (wrap64 (x11_2 + ((rd_T57 t139 x14_2).f4))), (((rd_T57 t139 x14_2).f5)), (ji57), (wrap64 (x14_2 + 1)), (by first | rfl | (simp; done) | (simp [*]; done)), (by first | rfl | (simp; done) | (simp [*]; done)), (by first | rfl | (simp; done) | (simp [*]; done)), (by first | rfl | (simp; done) | (simp only [← hji57] <;> (first | rfl | simp)) | (simp [*]; done)), (by first | rfl | (simp; done) | (simp [*]; done)), H', ⟨by have := HJ4.out; have := HK2.out; have := HJ17.out; omega⟩, ⟨by (with_reducible repeat (first | apply Kd.R_alloc | apply Kd.R_drewN | apply Kd.R_drew)); exact Kd.R_mono HO_8.out (fun _ hk => trivial)⟩, ⟨by (with_reducible repeat (first | refine blk_drewN ?_ _ | refine blk_drew ?_ | refine blk_alloc ?_ _)); exact BK137.out⟩, ⟨by repeat (first | (with_reducible first | exact HB.out | apply below_alloc | apply pw_below_drewN | apply below_drew1 | refine below_set ?_ GE137.out | refine below_set ?_ GE144.out | refine below_set ?_ GE151.out) | exact HB.out)⟩⟩
                          · rw [if_neg c56] at H
                            have c56b0 : (x12_2 == 0) = false := beq_eq_false_iff_ne.mpr c56
                            have c56b1 : (x12_2 != 0) = true := bne_iff_ne.mpr c56
                            by_cases c61 : ((rd_T57 t139 x14_2).f5) < x12_2
                            · rw [if_pos c61] at H
                              have c61b0 : decide (((rd_T57 t139 x14_2).f5) < x12_2) = true := decide_eq_true c61
                              clear c61
                              obtain ⟨ji62, hji62⟩ : ∃ j_ : Int, (mx x13_2 ((rd_T57 t139 x14_2).f6)) = j_ := ⟨_, rfl⟩
                              replace H : (fareboxlaw19_CapsHold.l0 kj17 t139 (wrap64 ((wrap64 (x10_2 + ((rd_T57 t139 x14_2).f3))) + ((rd_T57 t139 x14_2).f4))) (wrap64 (x11_2 + ((rd_T57 t139 x14_2).f4))) ((rd_T57 t139 x14_2).f5) ji62 (wrap64 (x14_2 + 1)) l0_0 l0_1 l0_2 a0_3 a0_4 a0_5 a0_6 a0_7 a0_8 a0_9 a0_10 a0_11 a0_12 a0_13) = some r := by first | (rw [hji62] at H; exact H) | (simp only [hji62] at H ⊢; exact H)
                              have hji62_ : (if x13_2 < ((rd_T57 t139 x14_2).f6) then ((rd_T57 t139 x14_2).f6) else x13_2) = ji62 := hji62
                              have H' := Aside0.mk H
                              clear H
                              have hnb63 := NB144_137.out
                              have hnc63 := NB137_144.out
                              have hnb64 := NB144_151.out
                              have hnc64 := NB151_144.out
                              have hcz65_0 : wc.cell? ⟨gb144, 0, none⟩ = some (.int .i64 ((rd_T57 t139 x14_2).f0)) := (blk_cell BK144.out 0).trans rfl
                              have hcz65_1 : wc.cell? ⟨gb144, 1, none⟩ = some (.int .i64 ((rd_T57 t139 x14_2).f1)) := (blk_cell BK144.out 1).trans rfl
                              have hcz65_2 : wc.cell? ⟨gb144, 2, none⟩ = some (.int .i64 ((rd_T57 t139 x14_2).f2)) := (blk_cell BK144.out 2).trans rfl
                              have hcz65_3 : wc.cell? ⟨gb144, 3, none⟩ = some (.int .i64 ((rd_T57 t139 x14_2).f3)) := (blk_cell BK144.out 3).trans rfl
                              have hcz65_4 : wc.cell? ⟨gb144, 4, none⟩ = some (.int .i64 ((rd_T57 t139 x14_2).f4)) := (blk_cell BK144.out 4).trans rfl
                              have hcz65_5 : wc.cell? ⟨gb144, 5, none⟩ = some (.int .i64 ((rd_T57 t139 x14_2).f5)) := (blk_cell BK144.out 5).trans rfl
                              have hcz65_6 : wc.cell? ⟨gb144, 6, none⟩ = some (.int .i64 ((rd_T57 t139 x14_2).f6)) := (blk_cell BK144.out 6).trans rfl
                              have hfz65_0 := blk_frozen BK144.out 0
                              have hfz65_1 := blk_frozen BK144.out 1
                              have hfz65_2 := blk_frozen BK144.out 2
                              have hfz65_3 := blk_frozen BK144.out 3
                              have hfz65_4 := blk_frozen BK144.out 4
                              have hfz65_5 := blk_frozen BK144.out 5
                              have hfz65_6 := blk_frozen BK144.out 6
                              go_wp2
                              go_roundg kj17
                              case measure => have := HJ4.out; have := HK2.out; have := HJ17.out; omega
                              case rel => exact ⟨(wrap64 ((wrap64 (x10_2 + ((rd_T57 t139 x14_2).f3))) + ((rd_T57 t139 x14_2).f4))), (wrap64 (x11_2 + ((rd_T57 t139 x14_2).f4))), (((rd_T57 t139 x14_2).f5)), (ji62), (wrap64 (x14_2 + 1)), (by first | rfl | (simp; done) | (simp [*]; done)), (by first | rfl | (simp; done) | (simp [*]; done)), (by first | rfl | (simp; done) | (simp [*]; done)), (by first | rfl | (simp; done) | (simp only [← hji62] <;> (first | rfl | simp)) | (simp [*]; done)), (by first | rfl | (simp; done) | (simp [*]; done)), H', ⟨by have := HJ4.out; have := HK2.out; have := HJ17.out; omega⟩, ⟨by (with_reducible repeat (first | apply Kd.R_alloc | apply Kd.R_drewN | apply Kd.R_drew)); exact Kd.R_mono HO_8.out (fun _ hk => trivial)⟩, ⟨by (with_reducible repeat (first | refine blk_drewN ?_ _ | refine blk_drew ?_ | refine blk_alloc ?_ _)); exact BK137.out⟩, ⟨by repeat (first | (with_reducible first | exact HB.out | apply below_alloc | apply pw_below_drewN | apply below_drew1 | refine below_set ?_ GE137.out | refine below_set ?_ GE144.out | refine below_set ?_ GE151.out) | exact HB.out)⟩⟩
                            · rw [if_neg c61] at H
                              have c61b0 : decide (((rd_T57 t139 x14_2).f5) < x12_2) = false := decide_eq_false c61
                              clear c61
                              obtain ⟨ji66, hji66⟩ : ∃ j_ : Int, (mx x13_2 ((rd_T57 t139 x14_2).f6)) = j_ := ⟨_, rfl⟩
                              replace H : (fareboxlaw19_CapsHold.l0 kj17 t139 (wrap64 ((wrap64 (x10_2 + ((rd_T57 t139 x14_2).f3))) + ((rd_T57 t139 x14_2).f4))) (wrap64 (x11_2 + ((rd_T57 t139 x14_2).f4))) x12_2 ji66 (wrap64 (x14_2 + 1)) l0_0 l0_1 l0_2 a0_3 a0_4 a0_5 a0_6 a0_7 a0_8 a0_9 a0_10 a0_11 a0_12 a0_13) = some r := by first | (rw [hji66] at H; exact H) | (simp only [hji66] at H ⊢; exact H)
                              have hji66_ : (if x13_2 < ((rd_T57 t139 x14_2).f6) then ((rd_T57 t139 x14_2).f6) else x13_2) = ji66 := hji66
                              have H' := Aside0.mk H
                              clear H
                              have hnb67 := NB144_137.out
                              have hnc67 := NB137_144.out
                              have hnb68 := NB144_151.out
                              have hnc68 := NB151_144.out
                              have hcz69_0 : wc.cell? ⟨gb144, 0, none⟩ = some (.int .i64 ((rd_T57 t139 x14_2).f0)) := (blk_cell BK144.out 0).trans rfl
                              have hcz69_1 : wc.cell? ⟨gb144, 1, none⟩ = some (.int .i64 ((rd_T57 t139 x14_2).f1)) := (blk_cell BK144.out 1).trans rfl
                              have hcz69_2 : wc.cell? ⟨gb144, 2, none⟩ = some (.int .i64 ((rd_T57 t139 x14_2).f2)) := (blk_cell BK144.out 2).trans rfl
                              have hcz69_3 : wc.cell? ⟨gb144, 3, none⟩ = some (.int .i64 ((rd_T57 t139 x14_2).f3)) := (blk_cell BK144.out 3).trans rfl
                              have hcz69_4 : wc.cell? ⟨gb144, 4, none⟩ = some (.int .i64 ((rd_T57 t139 x14_2).f4)) := (blk_cell BK144.out 4).trans rfl
                              have hcz69_5 : wc.cell? ⟨gb144, 5, none⟩ = some (.int .i64 ((rd_T57 t139 x14_2).f5)) := (blk_cell BK144.out 5).trans rfl
                              have hcz69_6 : wc.cell? ⟨gb144, 6, none⟩ = some (.int .i64 ((rd_T57 t139 x14_2).f6)) := (blk_cell BK144.out 6).trans rfl
                              have hfz69_0 := blk_frozen BK144.out 0
                              have hfz69_1 := blk_frozen BK144.out 1
                              have hfz69_2 := blk_frozen BK144.out 2
                              have hfz69_3 := blk_frozen BK144.out 3
                              have hfz69_4 := blk_frozen BK144.out 4
                              have hfz69_5 := blk_frozen BK144.out 5
                              have hfz69_6 := blk_frozen BK144.out 6
                              go_wp2
                              go_roundg kj17
                              case measure => have := HJ4.out; have := HK2.out; have := HJ17.out; omega
                              case rel => exact ⟨(wrap64 ((wrap64 (x10_2 + ((rd_T57 t139 x14_2).f3))) + ((rd_T57 t139 x14_2).f4))), (wrap64 (x11_2 + ((rd_T57 t139 x14_2).f4))), (x12_2), (ji66), (wrap64 (x14_2 + 1)), (by first | rfl | (simp; done) | (simp [*]; done)), (by first | rfl | (simp; done) | (simp [*]; done)), (by first | rfl | (simp; done) | (simp [*]; done)), (by first | rfl | (simp; done) | (simp only [← hji66] <;> (first | rfl | simp)) | (simp [*]; done)), (by first | rfl | (simp; done) | (simp [*]; done)), H', ⟨by have := HJ4.out; have := HK2.out; have := HJ17.out; omega⟩, ⟨by (with_reducible repeat (first | apply Kd.R_alloc | apply Kd.R_drewN | apply Kd.R_drew)); exact Kd.R_mono HO_8.out (fun _ hk => trivial)⟩, ⟨by (with_reducible repeat (first | refine blk_drewN ?_ _ | refine blk_drew ?_ | refine blk_alloc ?_ _)); exact BK137.out⟩, ⟨by repeat (first | (with_reducible first | exact HB.out | apply below_alloc | apply pw_below_drewN | apply below_drew1 | refine below_set ?_ GE137.out | refine below_set ?_ GE144.out | refine below_set ?_ GE151.out) | exact HB.out)⟩⟩
                        · rw [if_neg c55] at H
                          have c55b0 : decide (0 < ((rd_T57 t139 x14_2).f5)) = false := decide_eq_false c55
                          clear c55
                          obtain ⟨ji70, hji70⟩ : ∃ j_ : Int, (mx x13_2 ((rd_T57 t139 x14_2).f6)) = j_ := ⟨_, rfl⟩
                          replace H : (fareboxlaw19_CapsHold.l0 kj17 t139 (wrap64 ((wrap64 (x10_2 + ((rd_T57 t139 x14_2).f3))) + ((rd_T57 t139 x14_2).f4))) (wrap64 (x11_2 + ((rd_T57 t139 x14_2).f4))) x12_2 ji70 (wrap64 (x14_2 + 1)) l0_0 l0_1 l0_2 a0_3 a0_4 a0_5 a0_6 a0_7 a0_8 a0_9 a0_10 a0_11 a0_12 a0_13) = some r := by first | (rw [hji70] at H; exact H) | (simp only [hji70] at H ⊢; exact H)
                          have hji70_ : (if x13_2 < ((rd_T57 t139 x14_2).f6) then ((rd_T57 t139 x14_2).f6) else x13_2) = ji70 := hji70
                          have H' := Aside0.mk H
                          clear H
                          have hnb71 := NB144_137.out
                          have hnc71 := NB137_144.out
                          have hnb72 := NB144_151.out
                          have hnc72 := NB151_144.out
                          have hcz73_0 : wc.cell? ⟨gb144, 0, none⟩ = some (.int .i64 ((rd_T57 t139 x14_2).f0)) := (blk_cell BK144.out 0).trans rfl
                          have hcz73_1 : wc.cell? ⟨gb144, 1, none⟩ = some (.int .i64 ((rd_T57 t139 x14_2).f1)) := (blk_cell BK144.out 1).trans rfl
                          have hcz73_2 : wc.cell? ⟨gb144, 2, none⟩ = some (.int .i64 ((rd_T57 t139 x14_2).f2)) := (blk_cell BK144.out 2).trans rfl
                          have hcz73_3 : wc.cell? ⟨gb144, 3, none⟩ = some (.int .i64 ((rd_T57 t139 x14_2).f3)) := (blk_cell BK144.out 3).trans rfl
                          have hcz73_4 : wc.cell? ⟨gb144, 4, none⟩ = some (.int .i64 ((rd_T57 t139 x14_2).f4)) := (blk_cell BK144.out 4).trans rfl
                          have hcz73_5 : wc.cell? ⟨gb144, 5, none⟩ = some (.int .i64 ((rd_T57 t139 x14_2).f5)) := (blk_cell BK144.out 5).trans rfl
                          have hcz73_6 : wc.cell? ⟨gb144, 6, none⟩ = some (.int .i64 ((rd_T57 t139 x14_2).f6)) := (blk_cell BK144.out 6).trans rfl
                          have hfz73_0 := blk_frozen BK144.out 0
                          have hfz73_1 := blk_frozen BK144.out 1
                          have hfz73_2 := blk_frozen BK144.out 2
                          have hfz73_3 := blk_frozen BK144.out 3
                          have hfz73_4 := blk_frozen BK144.out 4
                          have hfz73_5 := blk_frozen BK144.out 5
                          have hfz73_6 := blk_frozen BK144.out 6
                          go_wp2
                          go_roundg kj17
                          case measure => have := HJ4.out; have := HK2.out; have := HJ17.out; omega
                          case rel => exact ⟨(wrap64 ((wrap64 (x10_2 + ((rd_T57 t139 x14_2).f3))) + ((rd_T57 t139 x14_2).f4))), (wrap64 (x11_2 + ((rd_T57 t139 x14_2).f4))), (x12_2), (ji70), (wrap64 (x14_2 + 1)), (by first | rfl | (simp; done) | (simp [*]; done)), (by first | rfl | (simp; done) | (simp [*]; done)), (by first | rfl | (simp; done) | (simp [*]; done)), (by first | rfl | (simp; done) | (simp only [← hji70] <;> (first | rfl | simp)) | (simp [*]; done)), (by first | rfl | (simp; done) | (simp [*]; done)), H', ⟨by have := HJ4.out; have := HK2.out; have := HJ17.out; omega⟩, ⟨by (with_reducible repeat (first | apply Kd.R_alloc | apply Kd.R_drewN | apply Kd.R_drew)); exact Kd.R_mono HO_8.out (fun _ hk => trivial)⟩, ⟨by (with_reducible repeat (first | refine blk_drewN ?_ _ | refine blk_drew ?_ | refine blk_alloc ?_ _)); exact BK137.out⟩, ⟨by repeat (first | (with_reducible first | exact HB.out | apply below_alloc | apply pw_below_drewN | apply below_drew1 | refine below_set ?_ GE137.out | refine below_set ?_ GE144.out | refine below_set ?_ GE151.out) | exact HB.out)⟩⟩
                · rw [if_neg c16] at H
                  exact absurd H (by simp)
              · rw [if_neg c15] at H
                have c15b0 : decide (x14_2 < (t139.length : Int)) = false := decide_eq_false c15
                clear c15
                replace H := Option.bind_eq_some_iff.mp H
                obtain ⟨⟨t152, t153⟩, A740, H⟩ := H
                replace H : (if t153 = 0 then ((tariff_Span.f l0_0 l0_1 l0_2 a0_3 a0_4 a0_5 a0_6 a0_7 a0_8 a0_9 a0_10 a0_11 a0_12 a0_13 x12_2 x13_2).bind fun bt154 => (if t152 ≤ x10_2 then (if t152 ≤ (wrap64 ((mx bt154.2.2.2.2.1 a0_6) + x11_2)) then (some (decide (t152 ≥ x11_2))) else (some false)) else (some false))) else ((tariff_Right.f l0_0 l0_1 l0_2 a0_3 a0_4 a0_5 a0_6 a0_7 a0_8 a0_9 a0_10 a0_11 a0_12 a0_13).bind fun t161 => (some (t161 == t153)))) = some r := H
                have A74 := Aside0.mk A740
                clear A740
                by_cases c75 : t153 = 0
                · rw [if_pos c75] at H
                  have c75b0 : (t153 == 0) = true := beq_iff_eq.mpr c75
                  have c75b1 : (t153 != 0) = false := bne_eq_false_iff_eq.mpr c75
                  clear c75
                  replace H := Option.bind_eq_some_iff.mp H
                  obtain ⟨⟨t154, t155, t156, t157, t158, t159⟩, A760, H⟩ := H
                  replace H : (if t152 ≤ x10_2 then (if t152 ≤ (wrap64 ((mx t158 a0_6) + x11_2)) then (some (decide (t152 ≥ x11_2))) else (some false)) else (some false)) = some r := H
                  have A76 := Aside0.mk A760
                  clear A760
                  by_cases c77 : t152 ≤ x10_2
                  · rw [if_pos c77] at H
                    have c77b0 : decide (t152 ≤ x10_2) = true := decide_eq_true c77
                    clear c77
                    obtain ⟨ji78, hji78⟩ : ∃ j_ : Int, (mx t158 a0_6) = j_ := ⟨_, rfl⟩
                    replace H : (if t152 ≤ (wrap64 ((ji78) + x11_2)) then (some (decide (t152 ≥ x11_2))) else (some false)) = some r := by first | (rw [hji78] at H; exact H) | (simp only [hji78] at H ⊢; exact H)
                    (try rw [hji78] at A74)
                    (try rw [hji78] at A76)
                    have hji78_ : (if t158 < a0_6 then a0_6 else t158) = ji78 := hji78
                    by_cases c79 : t152 ≤ (wrap64 ((ji78) + x11_2))
                    · rw [if_pos c79] at H
                      have c79b0 : decide (t152 ≤ (wrap64 ((ji78) + x11_2))) = true := decide_eq_true c79
                      clear c79
                      obtain rfl := Option.some.inj H
                      obtain ⟨Ao80, co80, eo80⟩ := Kd.R_slice HO_8.out
                      subst eo80
                      have hcz81_0 : wr.cell? ⟨gb137, 0, none⟩ = some (.slice A0_0 l0_0.length c0_0) := (blk_cell BK137.out 0).trans rfl
                      have hcz81_1 : wr.cell? ⟨gb137, 1, none⟩ = some (.slice A0_1 l0_1.length c0_1) := (blk_cell BK137.out 1).trans rfl
                      have hcz81_2 : wr.cell? ⟨gb137, 2, none⟩ = some (.slice A0_2 l0_2.length c0_2) := (blk_cell BK137.out 2).trans rfl
                      have hcz81_3 : wr.cell? ⟨gb137, 3, none⟩ = some (.float .f64 a0_3) := (blk_cell BK137.out 3).trans rfl
                      have hcz81_4 : wr.cell? ⟨gb137, 4, none⟩ = some (.int .i64 a0_4) := (blk_cell BK137.out 4).trans rfl
                      have hcz81_5 : wr.cell? ⟨gb137, 5, none⟩ = some (.int .i64 a0_5) := (blk_cell BK137.out 5).trans rfl
                      have hcz81_6 : wr.cell? ⟨gb137, 6, none⟩ = some (.int .i64 a0_6) := (blk_cell BK137.out 6).trans rfl
                      have hcz81_7 : wr.cell? ⟨gb137, 7, none⟩ = some (.int .i64 a0_7) := (blk_cell BK137.out 7).trans rfl
                      have hcz81_8 : wr.cell? ⟨gb137, 8, none⟩ = some (.int .i64 a0_8) := (blk_cell BK137.out 8).trans rfl
                      have hcz81_9 : wr.cell? ⟨gb137, 9, none⟩ = some (.int .i64 a0_9) := (blk_cell BK137.out 9).trans rfl
                      have hcz81_10 : wr.cell? ⟨gb137, 10, none⟩ = some (.int .i64 a0_10) := (blk_cell BK137.out 10).trans rfl
                      have hcz81_11 : wr.cell? ⟨gb137, 11, none⟩ = some (.int .i64 a0_11) := (blk_cell BK137.out 11).trans rfl
                      have hcz81_12 : wr.cell? ⟨gb137, 12, none⟩ = some (.int .i64 a0_12) := (blk_cell BK137.out 12).trans rfl
                      have hcz81_13 : wr.cell? ⟨gb137, 13, none⟩ = some (.int .i64 a0_13) := (blk_cell BK137.out 13).trans rfl
                      have hfz81_0 := blk_frozen BK137.out 0
                      have hfz81_1 := blk_frozen BK137.out 1
                      have hfz81_2 := blk_frozen BK137.out 2
                      have hfz81_3 := blk_frozen BK137.out 3
                      have hfz81_4 := blk_frozen BK137.out 4
                      have hfz81_5 := blk_frozen BK137.out 5
                      have hfz81_6 := blk_frozen BK137.out 6
                      have hfz81_7 := blk_frozen BK137.out 7
                      have hfz81_8 := blk_frozen BK137.out 8
                      have hfz81_9 := blk_frozen BK137.out 9
                      have hfz81_10 := blk_frozen BK137.out 10
                      have hfz81_11 := blk_frozen BK137.out 11
                      have hfz81_12 := blk_frozen BK137.out 12
                      have hfz81_13 := blk_frozen BK137.out 13
                      go_wp2_with (first | ((with_reducible refine gate_callee (f := 44) rfl ?_); refine goesL_ (some 129) rfl rfl Try.func44 (by kernel_rfl) rfl #[.agg #[.slice A0_0 l0_0.length c0_0, .slice A0_1 l0_1.length c0_1, .slice A0_2 l0_2.length c0_2, .float .f64 a0_3, .int .i64 a0_4, .int .i64 a0_5, .int .i64 a0_6, .int .i64 a0_7, .int .i64 a0_8, .int .i64 a0_9, .int .i64 a0_10, .int .i64 a0_11, .int .i64 a0_12, .int .i64 a0_13], .slice Ao80 t139.length co80] rfl (by (try simp only [List.map_toArray, List.map_cons, List.map_nil]); first | done | rfl | (simp only [List.length_drop, List.length_take]; rfl)) ?_; (with_reducible refine (caps_Week.calls _ _ l0_0 _ _ l0_1 _ _ l0_2 a0_3 a0_4 a0_5 a0_6 a0_7 a0_8 a0_9 a0_10 a0_11 a0_12 a0_13 _ _ t139 t152 t153 _ ?side1 ?side2 ?side3 ?side4 ?side5 ?side6 ?side7 ?side8 A74.out).mono ?_); (case side1 => repeat (first | exact (Kd.C_below HR0_0.out HB.out) | (with_reducible refine Kd.C_alloc ?_ _) | (with_reducible refine Kd.C_drewN ?_ _) | (with_reducible refine Kd.C_drew ?_))); (case side2 => exact HC0_0.out); (case side3 => repeat (first | exact (Kd.C_below HR0_1.out HB.out) | (with_reducible refine Kd.C_alloc ?_ _) | (with_reducible refine Kd.C_drewN ?_ _) | (with_reducible refine Kd.C_drew ?_))); (case side4 => exact HC0_1.out); (case side5 => repeat (first | exact (Kd.C_below HR0_2.out HB.out) | (with_reducible refine Kd.C_alloc ?_ _) | (with_reducible refine Kd.C_drewN ?_ _) | (with_reducible refine Kd.C_drew ?_))); (case side6 => exact HC0_2.out); (case side7 => repeat (first | exact (Kd.R_reads' HO_8.out).2.2 | (with_reducible refine Kd.C_alloc ?_ _) | (with_reducible refine Kd.C_drewN ?_ _) | (with_reducible refine Kd.C_drew ?_))); (case side8 => exact (Kd.R_reads' HO_8.out).2.1); rintro e w82 ⟨rfl, hb⟩; refine ⟨_, rfl, ?_⟩; have n0_ := Aside0.mk (Kd.R_below (by (with_reducible repeat (first | apply Kd.R_alloc | apply Kd.R_drewN | apply Kd.R_drew)); exact HO_8.out) hb); have n1_ := Aside0.mk (blk_below (g := gb137) (o := .cells #[.slice A0_0 l0_0.length c0_0, .slice A0_1 l0_1.length c0_1, .slice A0_2 l0_2.length c0_2, .float .f64 a0_3, .int .i64 a0_4, .int .i64 a0_5, .int .i64 a0_6, .int .i64 a0_7, .int .i64 a0_8, .int .i64 a0_9, .int .i64 a0_10, .int .i64 a0_11, .int .i64 a0_12, .int .i64 a0_13] 27 (0, 0)) (by (with_reducible repeat (first | refine blk_drewN ?_ _ | refine blk_drew ?_ | refine blk_alloc ?_ _)); exact BK137.out) hb); have n2_ := Aside0.mk (below_step (by repeat (first | (with_reducible first | exact HB.out | apply below_alloc | apply pw_below_drewN | apply below_drew1 | refine below_set ?_ GE137.out) | exact HB.out)) hb); clear HO_8; clear BK137; clear HB; have HO_8 := n0_; have BK137 := n1_; have HB := n2_; clear n0_ n1_ n2_; (try clear hb); (try clear hb2); (try clear hk); (try clear hi); have hcz83_0 : w82.cell? ⟨gb137, 0, none⟩ = some (.slice A0_0 l0_0.length c0_0) := (blk_cell BK137.out 0).trans rfl; have hcz83_1 : w82.cell? ⟨gb137, 1, none⟩ = some (.slice A0_1 l0_1.length c0_1) := (blk_cell BK137.out 1).trans rfl; have hcz83_2 : w82.cell? ⟨gb137, 2, none⟩ = some (.slice A0_2 l0_2.length c0_2) := (blk_cell BK137.out 2).trans rfl; have hcz83_3 : w82.cell? ⟨gb137, 3, none⟩ = some (.float .f64 a0_3) := (blk_cell BK137.out 3).trans rfl; have hcz83_4 : w82.cell? ⟨gb137, 4, none⟩ = some (.int .i64 a0_4) := (blk_cell BK137.out 4).trans rfl; have hcz83_5 : w82.cell? ⟨gb137, 5, none⟩ = some (.int .i64 a0_5) := (blk_cell BK137.out 5).trans rfl; have hcz83_6 : w82.cell? ⟨gb137, 6, none⟩ = some (.int .i64 a0_6) := (blk_cell BK137.out 6).trans rfl; have hcz83_7 : w82.cell? ⟨gb137, 7, none⟩ = some (.int .i64 a0_7) := (blk_cell BK137.out 7).trans rfl; have hcz83_8 : w82.cell? ⟨gb137, 8, none⟩ = some (.int .i64 a0_8) := (blk_cell BK137.out 8).trans rfl; have hcz83_9 : w82.cell? ⟨gb137, 9, none⟩ = some (.int .i64 a0_9) := (blk_cell BK137.out 9).trans rfl; have hcz83_10 : w82.cell? ⟨gb137, 10, none⟩ = some (.int .i64 a0_10) := (blk_cell BK137.out 10).trans rfl; have hcz83_11 : w82.cell? ⟨gb137, 11, none⟩ = some (.int .i64 a0_11) := (blk_cell BK137.out 11).trans rfl; have hcz83_12 : w82.cell? ⟨gb137, 12, none⟩ = some (.int .i64 a0_12) := (blk_cell BK137.out 12).trans rfl; have hcz83_13 : w82.cell? ⟨gb137, 13, none⟩ = some (.int .i64 a0_13) := (blk_cell BK137.out 13).trans rfl; have hfz83_0 := blk_frozen BK137.out 0; have hfz83_1 := blk_frozen BK137.out 1; have hfz83_2 := blk_frozen BK137.out 2; have hfz83_3 := blk_frozen BK137.out 3; have hfz83_4 := blk_frozen BK137.out 4; have hfz83_5 := blk_frozen BK137.out 5; have hfz83_6 := blk_frozen BK137.out 6; have hfz83_7 := blk_frozen BK137.out 7; have hfz83_8 := blk_frozen BK137.out 8; have hfz83_9 := blk_frozen BK137.out 9; have hfz83_10 := blk_frozen BK137.out 10; have hfz83_11 := blk_frozen BK137.out 11; have hfz83_12 := blk_frozen BK137.out 12; have hfz83_13 := blk_frozen BK137.out 13) | ((with_reducible refine gate_callee (f := 32) rfl ?_); refine goesL_ (some 143) rfl rfl Try.func32 (by kernel_rfl) rfl #[.agg #[.slice A0_0 l0_0.length c0_0, .slice A0_1 l0_1.length c0_1, .slice A0_2 l0_2.length c0_2, .float .f64 a0_3, .int .i64 a0_4, .int .i64 a0_5, .int .i64 a0_6, .int .i64 a0_7, .int .i64 a0_8, .int .i64 a0_9, .int .i64 a0_10, .int .i64 a0_11, .int .i64 a0_12, .int .i64 a0_13], .int .i64 x12_2, .int .i64 x13_2] rfl (by (try simp only [List.map_toArray, List.map_cons, List.map_nil]); first | done | rfl | (simp only [List.length_drop, List.length_take]; rfl)) ?_; (with_reducible refine (tariff_Span.calls _ _ l0_0 _ _ l0_1 _ _ l0_2 a0_3 a0_4 a0_5 a0_6 a0_7 a0_8 a0_9 a0_10 a0_11 a0_12 a0_13 x12_2 x13_2 t154 t155 t156 t157 t158 t159 _ ?side1 ?side2 ?side3 ?side4 ?side5 ?side6 A76.out).mono ?_); (case side1 => repeat (first | exact (Kd.C_below HR0_0.out HB.out) | (with_reducible refine Kd.C_alloc ?_ _) | (with_reducible refine Kd.C_drewN ?_ _) | (with_reducible refine Kd.C_drew ?_))); (case side2 => exact HC0_0.out); (case side3 => repeat (first | exact (Kd.C_below HR0_1.out HB.out) | (with_reducible refine Kd.C_alloc ?_ _) | (with_reducible refine Kd.C_drewN ?_ _) | (with_reducible refine Kd.C_drew ?_))); (case side4 => exact HC0_1.out); (case side5 => repeat (first | exact (Kd.C_below HR0_2.out HB.out) | (with_reducible refine Kd.C_alloc ?_ _) | (with_reducible refine Kd.C_drewN ?_ _) | (with_reducible refine Kd.C_drew ?_))); (case side6 => exact HC0_2.out); rintro e w84 ⟨rfl, hb⟩; refine ⟨_, rfl, ?_⟩; have n0_ := Aside0.mk (Kd.R_below (by (with_reducible repeat (first | apply Kd.R_alloc | apply Kd.R_drewN | apply Kd.R_drew)); exact HO_8.out) hb); have n1_ := Aside0.mk (blk_below (g := gb137) (o := .cells #[.slice A0_0 l0_0.length c0_0, .slice A0_1 l0_1.length c0_1, .slice A0_2 l0_2.length c0_2, .float .f64 a0_3, .int .i64 a0_4, .int .i64 a0_5, .int .i64 a0_6, .int .i64 a0_7, .int .i64 a0_8, .int .i64 a0_9, .int .i64 a0_10, .int .i64 a0_11, .int .i64 a0_12, .int .i64 a0_13] 27 (0, 0)) (by (with_reducible repeat (first | refine blk_drewN ?_ _ | refine blk_drew ?_ | refine blk_alloc ?_ _)); exact BK137.out) hb); have n2_ := Aside0.mk (below_step (by repeat (first | (with_reducible first | exact HB.out | apply below_alloc | apply pw_below_drewN | apply below_drew1 | refine below_set ?_ GE137.out) | exact HB.out)) hb); clear HO_8; clear BK137; clear HB; have HO_8 := n0_; have BK137 := n1_; have HB := n2_; clear n0_ n1_ n2_; (try clear hb); (try clear hb2); (try clear hk); (try clear hi)) | ((with_reducible refine gate_dst (N := 21) rfl ?_); (try (refine gate_guard (by rfl) ?_; dsimp only)); refine box_event ?hg (N := 21) ?hd (cs := #[.int .i64 0, .int .i64 0, .int .i64 0, .int .i64 0, .int .i64 0]) (t := 39) ?hr ?_; (case hd => rfl); (case hg => rfl); (case hr => first | (go_simp; done) | (go_simp; rfl)); intro gb160 hg w85 hbox hb; have n0_ := Aside0.mk (Kd.R_below (by (with_reducible repeat (first | apply Kd.R_alloc | apply Kd.R_drewN | apply Kd.R_drew)); exact HO_8.out) hb); have n1_ := Aside0.mk (blk_below (g := gb137) (o := .cells #[.slice A0_0 l0_0.length c0_0, .slice A0_1 l0_1.length c0_1, .slice A0_2 l0_2.length c0_2, .float .f64 a0_3, .int .i64 a0_4, .int .i64 a0_5, .int .i64 a0_6, .int .i64 a0_7, .int .i64 a0_8, .int .i64 a0_9, .int .i64 a0_10, .int .i64 a0_11, .int .i64 a0_12, .int .i64 a0_13] 27 (0, 0)) (by (with_reducible repeat (first | refine blk_drewN ?_ _ | refine blk_drew ?_ | refine blk_alloc ?_ _)); exact BK137.out) hb); have n2_ := Aside0.mk (below_step (by repeat (first | (with_reducible first | exact HB.out | apply below_alloc | apply pw_below_drewN | apply below_drew1 | refine below_set ?_ GE137.out) | exact HB.out)) hb); have n3_ := Aside0.mk (hbox); have n4_ := Aside0.mk ((by rw [hg]; exact (below_size (by repeat (first | (with_reducible first | exact HB.out | apply below_alloc | apply pw_below_drewN | apply below_drew1 | refine below_set ?_ GE137.out) | exact HB.out))) : w.heap.size ≤ gb160)); have n5_ := Aside0.mk ((by rw [hg]; exact (below_size (by repeat (first | (with_reducible first | exact HB.out | apply below_alloc | apply pw_below_drewN | apply below_drew1 | refine below_set ?_ GE137.out) | exact HB.out))) : w.heap.size ≤ gb160)); have n6_ := Aside0.mk ((by rw [hg]; exact Nat.ne_of_lt (blk_lt (g := gb137) (o := .cells #[.slice A0_0 l0_0.length c0_0, .slice A0_1 l0_1.length c0_1, .slice A0_2 l0_2.length c0_2, .float .f64 a0_3, .int .i64 a0_4, .int .i64 a0_5, .int .i64 a0_6, .int .i64 a0_7, .int .i64 a0_8, .int .i64 a0_9, .int .i64 a0_10, .int .i64 a0_11, .int .i64 a0_12, .int .i64 a0_13] 27 (0, 0)) (by (with_reducible repeat (first | refine blk_drewN ?_ _ | refine blk_drew ?_ | refine blk_alloc ?_ _)); exact BK137.out)) : gb137 ≠ gb160)); have n7_ := Aside0.mk ((by rw [hg]; exact Nat.ne_of_gt (blk_lt (g := gb137) (o := .cells #[.slice A0_0 l0_0.length c0_0, .slice A0_1 l0_1.length c0_1, .slice A0_2 l0_2.length c0_2, .float .f64 a0_3, .int .i64 a0_4, .int .i64 a0_5, .int .i64 a0_6, .int .i64 a0_7, .int .i64 a0_8, .int .i64 a0_9, .int .i64 a0_10, .int .i64 a0_11, .int .i64 a0_12, .int .i64 a0_13] 27 (0, 0)) (by (with_reducible repeat (first | refine blk_drewN ?_ _ | refine blk_drew ?_ | refine blk_alloc ?_ _)); exact BK137.out)) : gb160 ≠ gb137)); clear HO_8; clear BK137; clear HB; have HO_8 := n0_; have BK137 := n1_; have HB := n2_; have BK160 := n3_; have GW160 := n4_; have GE160 := n5_; have NB137_160 := n6_; have NB160_137 := n7_; clear n0_ n1_ n2_ n3_ n4_ n5_ n6_ n7_; clear hb hbox hg; have hnb86 := NB160_137.out; have hnc86 := NB137_160.out; have hcz87_0 : w85.cell? ⟨gb160, 0, none⟩ = some (.int .i64 0) := (blk_cell BK160.out 0).trans rfl; have hcz87_1 : w85.cell? ⟨gb160, 1, none⟩ = some (.int .i64 0) := (blk_cell BK160.out 1).trans rfl; have hcz87_2 : w85.cell? ⟨gb160, 2, none⟩ = some (.int .i64 0) := (blk_cell BK160.out 2).trans rfl; have hcz87_3 : w85.cell? ⟨gb160, 3, none⟩ = some (.int .i64 0) := (blk_cell BK160.out 3).trans rfl; have hcz87_4 : w85.cell? ⟨gb160, 4, none⟩ = some (.int .i64 0) := (blk_cell BK160.out 4).trans rfl; have hfz87_0 := blk_frozen BK160.out 0; have hfz87_1 := blk_frozen BK160.out 1; have hfz87_2 := blk_frozen BK160.out 2; have hfz87_3 := blk_frozen BK160.out 3; have hfz87_4 := blk_frozen BK160.out 4; have hcz88_0 : w85.cell? ⟨gb137, 0, none⟩ = some (.slice A0_0 l0_0.length c0_0) := (blk_cell BK137.out 0).trans rfl; have hcz88_1 : w85.cell? ⟨gb137, 1, none⟩ = some (.slice A0_1 l0_1.length c0_1) := (blk_cell BK137.out 1).trans rfl; have hcz88_2 : w85.cell? ⟨gb137, 2, none⟩ = some (.slice A0_2 l0_2.length c0_2) := (blk_cell BK137.out 2).trans rfl; have hcz88_3 : w85.cell? ⟨gb137, 3, none⟩ = some (.float .f64 a0_3) := (blk_cell BK137.out 3).trans rfl; have hcz88_4 : w85.cell? ⟨gb137, 4, none⟩ = some (.int .i64 a0_4) := (blk_cell BK137.out 4).trans rfl; have hcz88_5 : w85.cell? ⟨gb137, 5, none⟩ = some (.int .i64 a0_5) := (blk_cell BK137.out 5).trans rfl; have hcz88_6 : w85.cell? ⟨gb137, 6, none⟩ = some (.int .i64 a0_6) := (blk_cell BK137.out 6).trans rfl; have hcz88_7 : w85.cell? ⟨gb137, 7, none⟩ = some (.int .i64 a0_7) := (blk_cell BK137.out 7).trans rfl; have hcz88_8 : w85.cell? ⟨gb137, 8, none⟩ = some (.int .i64 a0_8) := (blk_cell BK137.out 8).trans rfl; have hcz88_9 : w85.cell? ⟨gb137, 9, none⟩ = some (.int .i64 a0_9) := (blk_cell BK137.out 9).trans rfl; have hcz88_10 : w85.cell? ⟨gb137, 10, none⟩ = some (.int .i64 a0_10) := (blk_cell BK137.out 10).trans rfl; have hcz88_11 : w85.cell? ⟨gb137, 11, none⟩ = some (.int .i64 a0_11) := (blk_cell BK137.out 11).trans rfl; have hcz88_12 : w85.cell? ⟨gb137, 12, none⟩ = some (.int .i64 a0_12) := (blk_cell BK137.out 12).trans rfl; have hcz88_13 : w85.cell? ⟨gb137, 13, none⟩ = some (.int .i64 a0_13) := (blk_cell BK137.out 13).trans rfl; have hfz88_0 := blk_frozen BK137.out 0; have hfz88_1 := blk_frozen BK137.out 1; have hfz88_2 := blk_frozen BK137.out 2; have hfz88_3 := blk_frozen BK137.out 3; have hfz88_4 := blk_frozen BK137.out 4; have hfz88_5 := blk_frozen BK137.out 5; have hfz88_6 := blk_frozen BK137.out 6; have hfz88_7 := blk_frozen BK137.out 7; have hfz88_8 := blk_frozen BK137.out 8; have hfz88_9 := blk_frozen BK137.out 9; have hfz88_10 := blk_frozen BK137.out 10; have hfz88_11 := blk_frozen BK137.out 11; have hfz88_12 := blk_frozen BK137.out 12; have hfz88_13 := blk_frozen BK137.out 13))
                      go_ret
                      exact ⟨by first | rfl | (simp [errW_none, errW_some] <;> rfl) | (simp only [← hji78]; first | rfl | (simp [errW_none, errW_some] <;> rfl)) | (simp [*, errW_none, errW_some] <;> rfl), by repeat (first | (with_reducible first | exact HB.out | apply below_alloc | apply pw_below_drewN | apply below_drew1 | refine below_set ?_ GE137.out | refine below_set ?_ GE160.out) | exact HB.out)⟩
                    · rw [if_neg c79] at H
                      have c79b0 : decide (t152 ≤ (wrap64 ((ji78) + x11_2))) = false := decide_eq_false c79
                      clear c79
                      obtain rfl := Option.some.inj H
                      obtain ⟨Ao89, co89, eo89⟩ := Kd.R_slice HO_8.out
                      subst eo89
                      have hcz90_0 : wr.cell? ⟨gb137, 0, none⟩ = some (.slice A0_0 l0_0.length c0_0) := (blk_cell BK137.out 0).trans rfl
                      have hcz90_1 : wr.cell? ⟨gb137, 1, none⟩ = some (.slice A0_1 l0_1.length c0_1) := (blk_cell BK137.out 1).trans rfl
                      have hcz90_2 : wr.cell? ⟨gb137, 2, none⟩ = some (.slice A0_2 l0_2.length c0_2) := (blk_cell BK137.out 2).trans rfl
                      have hcz90_3 : wr.cell? ⟨gb137, 3, none⟩ = some (.float .f64 a0_3) := (blk_cell BK137.out 3).trans rfl
                      have hcz90_4 : wr.cell? ⟨gb137, 4, none⟩ = some (.int .i64 a0_4) := (blk_cell BK137.out 4).trans rfl
                      have hcz90_5 : wr.cell? ⟨gb137, 5, none⟩ = some (.int .i64 a0_5) := (blk_cell BK137.out 5).trans rfl
                      have hcz90_6 : wr.cell? ⟨gb137, 6, none⟩ = some (.int .i64 a0_6) := (blk_cell BK137.out 6).trans rfl
                      have hcz90_7 : wr.cell? ⟨gb137, 7, none⟩ = some (.int .i64 a0_7) := (blk_cell BK137.out 7).trans rfl
                      have hcz90_8 : wr.cell? ⟨gb137, 8, none⟩ = some (.int .i64 a0_8) := (blk_cell BK137.out 8).trans rfl
                      have hcz90_9 : wr.cell? ⟨gb137, 9, none⟩ = some (.int .i64 a0_9) := (blk_cell BK137.out 9).trans rfl
                      have hcz90_10 : wr.cell? ⟨gb137, 10, none⟩ = some (.int .i64 a0_10) := (blk_cell BK137.out 10).trans rfl
                      have hcz90_11 : wr.cell? ⟨gb137, 11, none⟩ = some (.int .i64 a0_11) := (blk_cell BK137.out 11).trans rfl
                      have hcz90_12 : wr.cell? ⟨gb137, 12, none⟩ = some (.int .i64 a0_12) := (blk_cell BK137.out 12).trans rfl
                      have hcz90_13 : wr.cell? ⟨gb137, 13, none⟩ = some (.int .i64 a0_13) := (blk_cell BK137.out 13).trans rfl
                      have hfz90_0 := blk_frozen BK137.out 0
                      have hfz90_1 := blk_frozen BK137.out 1
                      have hfz90_2 := blk_frozen BK137.out 2
                      have hfz90_3 := blk_frozen BK137.out 3
                      have hfz90_4 := blk_frozen BK137.out 4
                      have hfz90_5 := blk_frozen BK137.out 5
                      have hfz90_6 := blk_frozen BK137.out 6
                      have hfz90_7 := blk_frozen BK137.out 7
                      have hfz90_8 := blk_frozen BK137.out 8
                      have hfz90_9 := blk_frozen BK137.out 9
                      have hfz90_10 := blk_frozen BK137.out 10
                      have hfz90_11 := blk_frozen BK137.out 11
                      have hfz90_12 := blk_frozen BK137.out 12
                      have hfz90_13 := blk_frozen BK137.out 13
                      go_wp2_with (first | ((with_reducible refine gate_callee (f := 44) rfl ?_); refine goesL_ (some 129) rfl rfl Try.func44 (by kernel_rfl) rfl #[.agg #[.slice A0_0 l0_0.length c0_0, .slice A0_1 l0_1.length c0_1, .slice A0_2 l0_2.length c0_2, .float .f64 a0_3, .int .i64 a0_4, .int .i64 a0_5, .int .i64 a0_6, .int .i64 a0_7, .int .i64 a0_8, .int .i64 a0_9, .int .i64 a0_10, .int .i64 a0_11, .int .i64 a0_12, .int .i64 a0_13], .slice Ao89 t139.length co89] rfl (by (try simp only [List.map_toArray, List.map_cons, List.map_nil]); first | done | rfl | (simp only [List.length_drop, List.length_take]; rfl)) ?_; (with_reducible refine (caps_Week.calls _ _ l0_0 _ _ l0_1 _ _ l0_2 a0_3 a0_4 a0_5 a0_6 a0_7 a0_8 a0_9 a0_10 a0_11 a0_12 a0_13 _ _ t139 t152 t153 _ ?side1 ?side2 ?side3 ?side4 ?side5 ?side6 ?side7 ?side8 A74.out).mono ?_); (case side1 => repeat (first | exact (Kd.C_below HR0_0.out HB.out) | (with_reducible refine Kd.C_alloc ?_ _) | (with_reducible refine Kd.C_drewN ?_ _) | (with_reducible refine Kd.C_drew ?_))); (case side2 => exact HC0_0.out); (case side3 => repeat (first | exact (Kd.C_below HR0_1.out HB.out) | (with_reducible refine Kd.C_alloc ?_ _) | (with_reducible refine Kd.C_drewN ?_ _) | (with_reducible refine Kd.C_drew ?_))); (case side4 => exact HC0_1.out); (case side5 => repeat (first | exact (Kd.C_below HR0_2.out HB.out) | (with_reducible refine Kd.C_alloc ?_ _) | (with_reducible refine Kd.C_drewN ?_ _) | (with_reducible refine Kd.C_drew ?_))); (case side6 => exact HC0_2.out); (case side7 => repeat (first | exact (Kd.R_reads' HO_8.out).2.2 | (with_reducible refine Kd.C_alloc ?_ _) | (with_reducible refine Kd.C_drewN ?_ _) | (with_reducible refine Kd.C_drew ?_))); (case side8 => exact (Kd.R_reads' HO_8.out).2.1); rintro e w91 ⟨rfl, hb⟩; refine ⟨_, rfl, ?_⟩; have n0_ := Aside0.mk (Kd.R_below (by (with_reducible repeat (first | apply Kd.R_alloc | apply Kd.R_drewN | apply Kd.R_drew)); exact HO_8.out) hb); have n1_ := Aside0.mk (blk_below (g := gb137) (o := .cells #[.slice A0_0 l0_0.length c0_0, .slice A0_1 l0_1.length c0_1, .slice A0_2 l0_2.length c0_2, .float .f64 a0_3, .int .i64 a0_4, .int .i64 a0_5, .int .i64 a0_6, .int .i64 a0_7, .int .i64 a0_8, .int .i64 a0_9, .int .i64 a0_10, .int .i64 a0_11, .int .i64 a0_12, .int .i64 a0_13] 27 (0, 0)) (by (with_reducible repeat (first | refine blk_drewN ?_ _ | refine blk_drew ?_ | refine blk_alloc ?_ _)); exact BK137.out) hb); have n2_ := Aside0.mk (below_step (by repeat (first | (with_reducible first | exact HB.out | apply below_alloc | apply pw_below_drewN | apply below_drew1 | refine below_set ?_ GE137.out) | exact HB.out)) hb); clear HO_8; clear BK137; clear HB; have HO_8 := n0_; have BK137 := n1_; have HB := n2_; clear n0_ n1_ n2_; (try clear hb); (try clear hb2); (try clear hk); (try clear hi); have hcz92_0 : w91.cell? ⟨gb137, 0, none⟩ = some (.slice A0_0 l0_0.length c0_0) := (blk_cell BK137.out 0).trans rfl; have hcz92_1 : w91.cell? ⟨gb137, 1, none⟩ = some (.slice A0_1 l0_1.length c0_1) := (blk_cell BK137.out 1).trans rfl; have hcz92_2 : w91.cell? ⟨gb137, 2, none⟩ = some (.slice A0_2 l0_2.length c0_2) := (blk_cell BK137.out 2).trans rfl; have hcz92_3 : w91.cell? ⟨gb137, 3, none⟩ = some (.float .f64 a0_3) := (blk_cell BK137.out 3).trans rfl; have hcz92_4 : w91.cell? ⟨gb137, 4, none⟩ = some (.int .i64 a0_4) := (blk_cell BK137.out 4).trans rfl; have hcz92_5 : w91.cell? ⟨gb137, 5, none⟩ = some (.int .i64 a0_5) := (blk_cell BK137.out 5).trans rfl; have hcz92_6 : w91.cell? ⟨gb137, 6, none⟩ = some (.int .i64 a0_6) := (blk_cell BK137.out 6).trans rfl; have hcz92_7 : w91.cell? ⟨gb137, 7, none⟩ = some (.int .i64 a0_7) := (blk_cell BK137.out 7).trans rfl; have hcz92_8 : w91.cell? ⟨gb137, 8, none⟩ = some (.int .i64 a0_8) := (blk_cell BK137.out 8).trans rfl; have hcz92_9 : w91.cell? ⟨gb137, 9, none⟩ = some (.int .i64 a0_9) := (blk_cell BK137.out 9).trans rfl; have hcz92_10 : w91.cell? ⟨gb137, 10, none⟩ = some (.int .i64 a0_10) := (blk_cell BK137.out 10).trans rfl; have hcz92_11 : w91.cell? ⟨gb137, 11, none⟩ = some (.int .i64 a0_11) := (blk_cell BK137.out 11).trans rfl; have hcz92_12 : w91.cell? ⟨gb137, 12, none⟩ = some (.int .i64 a0_12) := (blk_cell BK137.out 12).trans rfl; have hcz92_13 : w91.cell? ⟨gb137, 13, none⟩ = some (.int .i64 a0_13) := (blk_cell BK137.out 13).trans rfl; have hfz92_0 := blk_frozen BK137.out 0; have hfz92_1 := blk_frozen BK137.out 1; have hfz92_2 := blk_frozen BK137.out 2; have hfz92_3 := blk_frozen BK137.out 3; have hfz92_4 := blk_frozen BK137.out 4; have hfz92_5 := blk_frozen BK137.out 5; have hfz92_6 := blk_frozen BK137.out 6; have hfz92_7 := blk_frozen BK137.out 7; have hfz92_8 := blk_frozen BK137.out 8; have hfz92_9 := blk_frozen BK137.out 9; have hfz92_10 := blk_frozen BK137.out 10; have hfz92_11 := blk_frozen BK137.out 11; have hfz92_12 := blk_frozen BK137.out 12; have hfz92_13 := blk_frozen BK137.out 13) | ((with_reducible refine gate_callee (f := 32) rfl ?_); refine goesL_ (some 143) rfl rfl Try.func32 (by kernel_rfl) rfl #[.agg #[.slice A0_0 l0_0.length c0_0, .slice A0_1 l0_1.length c0_1, .slice A0_2 l0_2.length c0_2, .float .f64 a0_3, .int .i64 a0_4, .int .i64 a0_5, .int .i64 a0_6, .int .i64 a0_7, .int .i64 a0_8, .int .i64 a0_9, .int .i64 a0_10, .int .i64 a0_11, .int .i64 a0_12, .int .i64 a0_13], .int .i64 x12_2, .int .i64 x13_2] rfl (by (try simp only [List.map_toArray, List.map_cons, List.map_nil]); first | done | rfl | (simp only [List.length_drop, List.length_take]; rfl)) ?_; (with_reducible refine (tariff_Span.calls _ _ l0_0 _ _ l0_1 _ _ l0_2 a0_3 a0_4 a0_5 a0_6 a0_7 a0_8 a0_9 a0_10 a0_11 a0_12 a0_13 x12_2 x13_2 t154 t155 t156 t157 t158 t159 _ ?side1 ?side2 ?side3 ?side4 ?side5 ?side6 A76.out).mono ?_); (case side1 => repeat (first | exact (Kd.C_below HR0_0.out HB.out) | (with_reducible refine Kd.C_alloc ?_ _) | (with_reducible refine Kd.C_drewN ?_ _) | (with_reducible refine Kd.C_drew ?_))); (case side2 => exact HC0_0.out); (case side3 => repeat (first | exact (Kd.C_below HR0_1.out HB.out) | (with_reducible refine Kd.C_alloc ?_ _) | (with_reducible refine Kd.C_drewN ?_ _) | (with_reducible refine Kd.C_drew ?_))); (case side4 => exact HC0_1.out); (case side5 => repeat (first | exact (Kd.C_below HR0_2.out HB.out) | (with_reducible refine Kd.C_alloc ?_ _) | (with_reducible refine Kd.C_drewN ?_ _) | (with_reducible refine Kd.C_drew ?_))); (case side6 => exact HC0_2.out); rintro e w93 ⟨rfl, hb⟩; refine ⟨_, rfl, ?_⟩; have n0_ := Aside0.mk (Kd.R_below (by (with_reducible repeat (first | apply Kd.R_alloc | apply Kd.R_drewN | apply Kd.R_drew)); exact HO_8.out) hb); have n1_ := Aside0.mk (blk_below (g := gb137) (o := .cells #[.slice A0_0 l0_0.length c0_0, .slice A0_1 l0_1.length c0_1, .slice A0_2 l0_2.length c0_2, .float .f64 a0_3, .int .i64 a0_4, .int .i64 a0_5, .int .i64 a0_6, .int .i64 a0_7, .int .i64 a0_8, .int .i64 a0_9, .int .i64 a0_10, .int .i64 a0_11, .int .i64 a0_12, .int .i64 a0_13] 27 (0, 0)) (by (with_reducible repeat (first | refine blk_drewN ?_ _ | refine blk_drew ?_ | refine blk_alloc ?_ _)); exact BK137.out) hb); have n2_ := Aside0.mk (below_step (by repeat (first | (with_reducible first | exact HB.out | apply below_alloc | apply pw_below_drewN | apply below_drew1 | refine below_set ?_ GE137.out) | exact HB.out)) hb); clear HO_8; clear BK137; clear HB; have HO_8 := n0_; have BK137 := n1_; have HB := n2_; clear n0_ n1_ n2_; (try clear hb); (try clear hb2); (try clear hk); (try clear hi)) | ((with_reducible refine gate_dst (N := 21) rfl ?_); (try (refine gate_guard (by rfl) ?_; dsimp only)); refine box_event ?hg (N := 21) ?hd (cs := #[.int .i64 0, .int .i64 0, .int .i64 0, .int .i64 0, .int .i64 0]) (t := 39) ?hr ?_; (case hd => rfl); (case hg => rfl); (case hr => first | (go_simp; done) | (go_simp; rfl)); intro gb160 hg w94 hbox hb; have n0_ := Aside0.mk (Kd.R_below (by (with_reducible repeat (first | apply Kd.R_alloc | apply Kd.R_drewN | apply Kd.R_drew)); exact HO_8.out) hb); have n1_ := Aside0.mk (blk_below (g := gb137) (o := .cells #[.slice A0_0 l0_0.length c0_0, .slice A0_1 l0_1.length c0_1, .slice A0_2 l0_2.length c0_2, .float .f64 a0_3, .int .i64 a0_4, .int .i64 a0_5, .int .i64 a0_6, .int .i64 a0_7, .int .i64 a0_8, .int .i64 a0_9, .int .i64 a0_10, .int .i64 a0_11, .int .i64 a0_12, .int .i64 a0_13] 27 (0, 0)) (by (with_reducible repeat (first | refine blk_drewN ?_ _ | refine blk_drew ?_ | refine blk_alloc ?_ _)); exact BK137.out) hb); have n2_ := Aside0.mk (below_step (by repeat (first | (with_reducible first | exact HB.out | apply below_alloc | apply pw_below_drewN | apply below_drew1 | refine below_set ?_ GE137.out) | exact HB.out)) hb); have n3_ := Aside0.mk (hbox); have n4_ := Aside0.mk ((by rw [hg]; exact (below_size (by repeat (first | (with_reducible first | exact HB.out | apply below_alloc | apply pw_below_drewN | apply below_drew1 | refine below_set ?_ GE137.out) | exact HB.out))) : w.heap.size ≤ gb160)); have n5_ := Aside0.mk ((by rw [hg]; exact (below_size (by repeat (first | (with_reducible first | exact HB.out | apply below_alloc | apply pw_below_drewN | apply below_drew1 | refine below_set ?_ GE137.out) | exact HB.out))) : w.heap.size ≤ gb160)); have n6_ := Aside0.mk ((by rw [hg]; exact Nat.ne_of_lt (blk_lt (g := gb137) (o := .cells #[.slice A0_0 l0_0.length c0_0, .slice A0_1 l0_1.length c0_1, .slice A0_2 l0_2.length c0_2, .float .f64 a0_3, .int .i64 a0_4, .int .i64 a0_5, .int .i64 a0_6, .int .i64 a0_7, .int .i64 a0_8, .int .i64 a0_9, .int .i64 a0_10, .int .i64 a0_11, .int .i64 a0_12, .int .i64 a0_13] 27 (0, 0)) (by (with_reducible repeat (first | refine blk_drewN ?_ _ | refine blk_drew ?_ | refine blk_alloc ?_ _)); exact BK137.out)) : gb137 ≠ gb160)); have n7_ := Aside0.mk ((by rw [hg]; exact Nat.ne_of_gt (blk_lt (g := gb137) (o := .cells #[.slice A0_0 l0_0.length c0_0, .slice A0_1 l0_1.length c0_1, .slice A0_2 l0_2.length c0_2, .float .f64 a0_3, .int .i64 a0_4, .int .i64 a0_5, .int .i64 a0_6, .int .i64 a0_7, .int .i64 a0_8, .int .i64 a0_9, .int .i64 a0_10, .int .i64 a0_11, .int .i64 a0_12, .int .i64 a0_13] 27 (0, 0)) (by (with_reducible repeat (first | refine blk_drewN ?_ _ | refine blk_drew ?_ | refine blk_alloc ?_ _)); exact BK137.out)) : gb160 ≠ gb137)); clear HO_8; clear BK137; clear HB; have HO_8 := n0_; have BK137 := n1_; have HB := n2_; have BK160 := n3_; have GW160 := n4_; have GE160 := n5_; have NB137_160 := n6_; have NB160_137 := n7_; clear n0_ n1_ n2_ n3_ n4_ n5_ n6_ n7_; clear hb hbox hg; have hnb95 := NB160_137.out; have hnc95 := NB137_160.out; have hcz96_0 : w94.cell? ⟨gb160, 0, none⟩ = some (.int .i64 0) := (blk_cell BK160.out 0).trans rfl; have hcz96_1 : w94.cell? ⟨gb160, 1, none⟩ = some (.int .i64 0) := (blk_cell BK160.out 1).trans rfl; have hcz96_2 : w94.cell? ⟨gb160, 2, none⟩ = some (.int .i64 0) := (blk_cell BK160.out 2).trans rfl; have hcz96_3 : w94.cell? ⟨gb160, 3, none⟩ = some (.int .i64 0) := (blk_cell BK160.out 3).trans rfl; have hcz96_4 : w94.cell? ⟨gb160, 4, none⟩ = some (.int .i64 0) := (blk_cell BK160.out 4).trans rfl; have hfz96_0 := blk_frozen BK160.out 0; have hfz96_1 := blk_frozen BK160.out 1; have hfz96_2 := blk_frozen BK160.out 2; have hfz96_3 := blk_frozen BK160.out 3; have hfz96_4 := blk_frozen BK160.out 4; have hcz97_0 : w94.cell? ⟨gb137, 0, none⟩ = some (.slice A0_0 l0_0.length c0_0) := (blk_cell BK137.out 0).trans rfl; have hcz97_1 : w94.cell? ⟨gb137, 1, none⟩ = some (.slice A0_1 l0_1.length c0_1) := (blk_cell BK137.out 1).trans rfl; have hcz97_2 : w94.cell? ⟨gb137, 2, none⟩ = some (.slice A0_2 l0_2.length c0_2) := (blk_cell BK137.out 2).trans rfl; have hcz97_3 : w94.cell? ⟨gb137, 3, none⟩ = some (.float .f64 a0_3) := (blk_cell BK137.out 3).trans rfl; have hcz97_4 : w94.cell? ⟨gb137, 4, none⟩ = some (.int .i64 a0_4) := (blk_cell BK137.out 4).trans rfl; have hcz97_5 : w94.cell? ⟨gb137, 5, none⟩ = some (.int .i64 a0_5) := (blk_cell BK137.out 5).trans rfl; have hcz97_6 : w94.cell? ⟨gb137, 6, none⟩ = some (.int .i64 a0_6) := (blk_cell BK137.out 6).trans rfl; have hcz97_7 : w94.cell? ⟨gb137, 7, none⟩ = some (.int .i64 a0_7) := (blk_cell BK137.out 7).trans rfl; have hcz97_8 : w94.cell? ⟨gb137, 8, none⟩ = some (.int .i64 a0_8) := (blk_cell BK137.out 8).trans rfl; have hcz97_9 : w94.cell? ⟨gb137, 9, none⟩ = some (.int .i64 a0_9) := (blk_cell BK137.out 9).trans rfl; have hcz97_10 : w94.cell? ⟨gb137, 10, none⟩ = some (.int .i64 a0_10) := (blk_cell BK137.out 10).trans rfl; have hcz97_11 : w94.cell? ⟨gb137, 11, none⟩ = some (.int .i64 a0_11) := (blk_cell BK137.out 11).trans rfl; have hcz97_12 : w94.cell? ⟨gb137, 12, none⟩ = some (.int .i64 a0_12) := (blk_cell BK137.out 12).trans rfl; have hcz97_13 : w94.cell? ⟨gb137, 13, none⟩ = some (.int .i64 a0_13) := (blk_cell BK137.out 13).trans rfl; have hfz97_0 := blk_frozen BK137.out 0; have hfz97_1 := blk_frozen BK137.out 1; have hfz97_2 := blk_frozen BK137.out 2; have hfz97_3 := blk_frozen BK137.out 3; have hfz97_4 := blk_frozen BK137.out 4; have hfz97_5 := blk_frozen BK137.out 5; have hfz97_6 := blk_frozen BK137.out 6; have hfz97_7 := blk_frozen BK137.out 7; have hfz97_8 := blk_frozen BK137.out 8; have hfz97_9 := blk_frozen BK137.out 9; have hfz97_10 := blk_frozen BK137.out 10; have hfz97_11 := blk_frozen BK137.out 11; have hfz97_12 := blk_frozen BK137.out 12; have hfz97_13 := blk_frozen BK137.out 13))
                      go_ret
                      exact ⟨by first | rfl | (simp [errW_none, errW_some] <;> rfl) | (simp only [← hji78]; first | rfl | (simp [errW_none, errW_some] <;> rfl)) | (simp [*, errW_none, errW_some] <;> rfl), by repeat (first | (with_reducible first | exact HB.out | apply below_alloc | apply pw_below_drewN | apply below_drew1 | refine below_set ?_ GE137.out | refine below_set ?_ GE160.out) | exact HB.out)⟩
                  · rw [if_neg c77] at H
                    have c77b0 : decide (t152 ≤ x10_2) = false := decide_eq_false c77
                    clear c77
                    obtain rfl := Option.some.inj H
                    obtain ⟨Ao98, co98, eo98⟩ := Kd.R_slice HO_8.out
                    subst eo98
                    have hcz99_0 : wr.cell? ⟨gb137, 0, none⟩ = some (.slice A0_0 l0_0.length c0_0) := (blk_cell BK137.out 0).trans rfl
                    have hcz99_1 : wr.cell? ⟨gb137, 1, none⟩ = some (.slice A0_1 l0_1.length c0_1) := (blk_cell BK137.out 1).trans rfl
                    have hcz99_2 : wr.cell? ⟨gb137, 2, none⟩ = some (.slice A0_2 l0_2.length c0_2) := (blk_cell BK137.out 2).trans rfl
                    have hcz99_3 : wr.cell? ⟨gb137, 3, none⟩ = some (.float .f64 a0_3) := (blk_cell BK137.out 3).trans rfl
                    have hcz99_4 : wr.cell? ⟨gb137, 4, none⟩ = some (.int .i64 a0_4) := (blk_cell BK137.out 4).trans rfl
                    have hcz99_5 : wr.cell? ⟨gb137, 5, none⟩ = some (.int .i64 a0_5) := (blk_cell BK137.out 5).trans rfl
                    have hcz99_6 : wr.cell? ⟨gb137, 6, none⟩ = some (.int .i64 a0_6) := (blk_cell BK137.out 6).trans rfl
                    have hcz99_7 : wr.cell? ⟨gb137, 7, none⟩ = some (.int .i64 a0_7) := (blk_cell BK137.out 7).trans rfl
                    have hcz99_8 : wr.cell? ⟨gb137, 8, none⟩ = some (.int .i64 a0_8) := (blk_cell BK137.out 8).trans rfl
                    have hcz99_9 : wr.cell? ⟨gb137, 9, none⟩ = some (.int .i64 a0_9) := (blk_cell BK137.out 9).trans rfl
                    have hcz99_10 : wr.cell? ⟨gb137, 10, none⟩ = some (.int .i64 a0_10) := (blk_cell BK137.out 10).trans rfl
                    have hcz99_11 : wr.cell? ⟨gb137, 11, none⟩ = some (.int .i64 a0_11) := (blk_cell BK137.out 11).trans rfl
                    have hcz99_12 : wr.cell? ⟨gb137, 12, none⟩ = some (.int .i64 a0_12) := (blk_cell BK137.out 12).trans rfl
                    have hcz99_13 : wr.cell? ⟨gb137, 13, none⟩ = some (.int .i64 a0_13) := (blk_cell BK137.out 13).trans rfl
                    have hfz99_0 := blk_frozen BK137.out 0
                    have hfz99_1 := blk_frozen BK137.out 1
                    have hfz99_2 := blk_frozen BK137.out 2
                    have hfz99_3 := blk_frozen BK137.out 3
                    have hfz99_4 := blk_frozen BK137.out 4
                    have hfz99_5 := blk_frozen BK137.out 5
                    have hfz99_6 := blk_frozen BK137.out 6
                    have hfz99_7 := blk_frozen BK137.out 7
                    have hfz99_8 := blk_frozen BK137.out 8
                    have hfz99_9 := blk_frozen BK137.out 9
                    have hfz99_10 := blk_frozen BK137.out 10
                    have hfz99_11 := blk_frozen BK137.out 11
                    have hfz99_12 := blk_frozen BK137.out 12
                    have hfz99_13 := blk_frozen BK137.out 13
                    go_wp2_with (first | ((with_reducible refine gate_callee (f := 44) rfl ?_); refine goesL_ (some 129) rfl rfl Try.func44 (by kernel_rfl) rfl #[.agg #[.slice A0_0 l0_0.length c0_0, .slice A0_1 l0_1.length c0_1, .slice A0_2 l0_2.length c0_2, .float .f64 a0_3, .int .i64 a0_4, .int .i64 a0_5, .int .i64 a0_6, .int .i64 a0_7, .int .i64 a0_8, .int .i64 a0_9, .int .i64 a0_10, .int .i64 a0_11, .int .i64 a0_12, .int .i64 a0_13], .slice Ao98 t139.length co98] rfl (by (try simp only [List.map_toArray, List.map_cons, List.map_nil]); first | done | rfl | (simp only [List.length_drop, List.length_take]; rfl)) ?_; (with_reducible refine (caps_Week.calls _ _ l0_0 _ _ l0_1 _ _ l0_2 a0_3 a0_4 a0_5 a0_6 a0_7 a0_8 a0_9 a0_10 a0_11 a0_12 a0_13 _ _ t139 t152 t153 _ ?side1 ?side2 ?side3 ?side4 ?side5 ?side6 ?side7 ?side8 A74.out).mono ?_); (case side1 => repeat (first | exact (Kd.C_below HR0_0.out HB.out) | (with_reducible refine Kd.C_alloc ?_ _) | (with_reducible refine Kd.C_drewN ?_ _) | (with_reducible refine Kd.C_drew ?_))); (case side2 => exact HC0_0.out); (case side3 => repeat (first | exact (Kd.C_below HR0_1.out HB.out) | (with_reducible refine Kd.C_alloc ?_ _) | (with_reducible refine Kd.C_drewN ?_ _) | (with_reducible refine Kd.C_drew ?_))); (case side4 => exact HC0_1.out); (case side5 => repeat (first | exact (Kd.C_below HR0_2.out HB.out) | (with_reducible refine Kd.C_alloc ?_ _) | (with_reducible refine Kd.C_drewN ?_ _) | (with_reducible refine Kd.C_drew ?_))); (case side6 => exact HC0_2.out); (case side7 => repeat (first | exact (Kd.R_reads' HO_8.out).2.2 | (with_reducible refine Kd.C_alloc ?_ _) | (with_reducible refine Kd.C_drewN ?_ _) | (with_reducible refine Kd.C_drew ?_))); (case side8 => exact (Kd.R_reads' HO_8.out).2.1); rintro e w100 ⟨rfl, hb⟩; refine ⟨_, rfl, ?_⟩; have n0_ := Aside0.mk (Kd.R_below (by (with_reducible repeat (first | apply Kd.R_alloc | apply Kd.R_drewN | apply Kd.R_drew)); exact HO_8.out) hb); have n1_ := Aside0.mk (blk_below (g := gb137) (o := .cells #[.slice A0_0 l0_0.length c0_0, .slice A0_1 l0_1.length c0_1, .slice A0_2 l0_2.length c0_2, .float .f64 a0_3, .int .i64 a0_4, .int .i64 a0_5, .int .i64 a0_6, .int .i64 a0_7, .int .i64 a0_8, .int .i64 a0_9, .int .i64 a0_10, .int .i64 a0_11, .int .i64 a0_12, .int .i64 a0_13] 27 (0, 0)) (by (with_reducible repeat (first | refine blk_drewN ?_ _ | refine blk_drew ?_ | refine blk_alloc ?_ _)); exact BK137.out) hb); have n2_ := Aside0.mk (below_step (by repeat (first | (with_reducible first | exact HB.out | apply below_alloc | apply pw_below_drewN | apply below_drew1 | refine below_set ?_ GE137.out) | exact HB.out)) hb); clear HO_8; clear BK137; clear HB; have HO_8 := n0_; have BK137 := n1_; have HB := n2_; clear n0_ n1_ n2_; (try clear hb); (try clear hb2); (try clear hk); (try clear hi); have hcz101_0 : w100.cell? ⟨gb137, 0, none⟩ = some (.slice A0_0 l0_0.length c0_0) := (blk_cell BK137.out 0).trans rfl; have hcz101_1 : w100.cell? ⟨gb137, 1, none⟩ = some (.slice A0_1 l0_1.length c0_1) := (blk_cell BK137.out 1).trans rfl; have hcz101_2 : w100.cell? ⟨gb137, 2, none⟩ = some (.slice A0_2 l0_2.length c0_2) := (blk_cell BK137.out 2).trans rfl; have hcz101_3 : w100.cell? ⟨gb137, 3, none⟩ = some (.float .f64 a0_3) := (blk_cell BK137.out 3).trans rfl; have hcz101_4 : w100.cell? ⟨gb137, 4, none⟩ = some (.int .i64 a0_4) := (blk_cell BK137.out 4).trans rfl; have hcz101_5 : w100.cell? ⟨gb137, 5, none⟩ = some (.int .i64 a0_5) := (blk_cell BK137.out 5).trans rfl; have hcz101_6 : w100.cell? ⟨gb137, 6, none⟩ = some (.int .i64 a0_6) := (blk_cell BK137.out 6).trans rfl; have hcz101_7 : w100.cell? ⟨gb137, 7, none⟩ = some (.int .i64 a0_7) := (blk_cell BK137.out 7).trans rfl; have hcz101_8 : w100.cell? ⟨gb137, 8, none⟩ = some (.int .i64 a0_8) := (blk_cell BK137.out 8).trans rfl; have hcz101_9 : w100.cell? ⟨gb137, 9, none⟩ = some (.int .i64 a0_9) := (blk_cell BK137.out 9).trans rfl; have hcz101_10 : w100.cell? ⟨gb137, 10, none⟩ = some (.int .i64 a0_10) := (blk_cell BK137.out 10).trans rfl; have hcz101_11 : w100.cell? ⟨gb137, 11, none⟩ = some (.int .i64 a0_11) := (blk_cell BK137.out 11).trans rfl; have hcz101_12 : w100.cell? ⟨gb137, 12, none⟩ = some (.int .i64 a0_12) := (blk_cell BK137.out 12).trans rfl; have hcz101_13 : w100.cell? ⟨gb137, 13, none⟩ = some (.int .i64 a0_13) := (blk_cell BK137.out 13).trans rfl; have hfz101_0 := blk_frozen BK137.out 0; have hfz101_1 := blk_frozen BK137.out 1; have hfz101_2 := blk_frozen BK137.out 2; have hfz101_3 := blk_frozen BK137.out 3; have hfz101_4 := blk_frozen BK137.out 4; have hfz101_5 := blk_frozen BK137.out 5; have hfz101_6 := blk_frozen BK137.out 6; have hfz101_7 := blk_frozen BK137.out 7; have hfz101_8 := blk_frozen BK137.out 8; have hfz101_9 := blk_frozen BK137.out 9; have hfz101_10 := blk_frozen BK137.out 10; have hfz101_11 := blk_frozen BK137.out 11; have hfz101_12 := blk_frozen BK137.out 12; have hfz101_13 := blk_frozen BK137.out 13) | ((with_reducible refine gate_callee (f := 32) rfl ?_); refine goesL_ (some 143) rfl rfl Try.func32 (by kernel_rfl) rfl #[.agg #[.slice A0_0 l0_0.length c0_0, .slice A0_1 l0_1.length c0_1, .slice A0_2 l0_2.length c0_2, .float .f64 a0_3, .int .i64 a0_4, .int .i64 a0_5, .int .i64 a0_6, .int .i64 a0_7, .int .i64 a0_8, .int .i64 a0_9, .int .i64 a0_10, .int .i64 a0_11, .int .i64 a0_12, .int .i64 a0_13], .int .i64 x12_2, .int .i64 x13_2] rfl (by (try simp only [List.map_toArray, List.map_cons, List.map_nil]); first | done | rfl | (simp only [List.length_drop, List.length_take]; rfl)) ?_; (with_reducible refine (tariff_Span.calls _ _ l0_0 _ _ l0_1 _ _ l0_2 a0_3 a0_4 a0_5 a0_6 a0_7 a0_8 a0_9 a0_10 a0_11 a0_12 a0_13 x12_2 x13_2 t154 t155 t156 t157 t158 t159 _ ?side1 ?side2 ?side3 ?side4 ?side5 ?side6 A76.out).mono ?_); (case side1 => repeat (first | exact (Kd.C_below HR0_0.out HB.out) | (with_reducible refine Kd.C_alloc ?_ _) | (with_reducible refine Kd.C_drewN ?_ _) | (with_reducible refine Kd.C_drew ?_))); (case side2 => exact HC0_0.out); (case side3 => repeat (first | exact (Kd.C_below HR0_1.out HB.out) | (with_reducible refine Kd.C_alloc ?_ _) | (with_reducible refine Kd.C_drewN ?_ _) | (with_reducible refine Kd.C_drew ?_))); (case side4 => exact HC0_1.out); (case side5 => repeat (first | exact (Kd.C_below HR0_2.out HB.out) | (with_reducible refine Kd.C_alloc ?_ _) | (with_reducible refine Kd.C_drewN ?_ _) | (with_reducible refine Kd.C_drew ?_))); (case side6 => exact HC0_2.out); rintro e w102 ⟨rfl, hb⟩; refine ⟨_, rfl, ?_⟩; have n0_ := Aside0.mk (Kd.R_below (by (with_reducible repeat (first | apply Kd.R_alloc | apply Kd.R_drewN | apply Kd.R_drew)); exact HO_8.out) hb); have n1_ := Aside0.mk (blk_below (g := gb137) (o := .cells #[.slice A0_0 l0_0.length c0_0, .slice A0_1 l0_1.length c0_1, .slice A0_2 l0_2.length c0_2, .float .f64 a0_3, .int .i64 a0_4, .int .i64 a0_5, .int .i64 a0_6, .int .i64 a0_7, .int .i64 a0_8, .int .i64 a0_9, .int .i64 a0_10, .int .i64 a0_11, .int .i64 a0_12, .int .i64 a0_13] 27 (0, 0)) (by (with_reducible repeat (first | refine blk_drewN ?_ _ | refine blk_drew ?_ | refine blk_alloc ?_ _)); exact BK137.out) hb); have n2_ := Aside0.mk (below_step (by repeat (first | (with_reducible first | exact HB.out | apply below_alloc | apply pw_below_drewN | apply below_drew1 | refine below_set ?_ GE137.out) | exact HB.out)) hb); clear HO_8; clear BK137; clear HB; have HO_8 := n0_; have BK137 := n1_; have HB := n2_; clear n0_ n1_ n2_; (try clear hb); (try clear hb2); (try clear hk); (try clear hi)) | ((with_reducible refine gate_dst (N := 21) rfl ?_); (try (refine gate_guard (by rfl) ?_; dsimp only)); refine box_event ?hg (N := 21) ?hd (cs := #[.int .i64 0, .int .i64 0, .int .i64 0, .int .i64 0, .int .i64 0]) (t := 39) ?hr ?_; (case hd => rfl); (case hg => rfl); (case hr => first | (go_simp; done) | (go_simp; rfl)); intro gb160 hg w103 hbox hb; have n0_ := Aside0.mk (Kd.R_below (by (with_reducible repeat (first | apply Kd.R_alloc | apply Kd.R_drewN | apply Kd.R_drew)); exact HO_8.out) hb); have n1_ := Aside0.mk (blk_below (g := gb137) (o := .cells #[.slice A0_0 l0_0.length c0_0, .slice A0_1 l0_1.length c0_1, .slice A0_2 l0_2.length c0_2, .float .f64 a0_3, .int .i64 a0_4, .int .i64 a0_5, .int .i64 a0_6, .int .i64 a0_7, .int .i64 a0_8, .int .i64 a0_9, .int .i64 a0_10, .int .i64 a0_11, .int .i64 a0_12, .int .i64 a0_13] 27 (0, 0)) (by (with_reducible repeat (first | refine blk_drewN ?_ _ | refine blk_drew ?_ | refine blk_alloc ?_ _)); exact BK137.out) hb); have n2_ := Aside0.mk (below_step (by repeat (first | (with_reducible first | exact HB.out | apply below_alloc | apply pw_below_drewN | apply below_drew1 | refine below_set ?_ GE137.out) | exact HB.out)) hb); have n3_ := Aside0.mk (hbox); have n4_ := Aside0.mk ((by rw [hg]; exact (below_size (by repeat (first | (with_reducible first | exact HB.out | apply below_alloc | apply pw_below_drewN | apply below_drew1 | refine below_set ?_ GE137.out) | exact HB.out))) : w.heap.size ≤ gb160)); have n5_ := Aside0.mk ((by rw [hg]; exact (below_size (by repeat (first | (with_reducible first | exact HB.out | apply below_alloc | apply pw_below_drewN | apply below_drew1 | refine below_set ?_ GE137.out) | exact HB.out))) : w.heap.size ≤ gb160)); have n6_ := Aside0.mk ((by rw [hg]; exact Nat.ne_of_lt (blk_lt (g := gb137) (o := .cells #[.slice A0_0 l0_0.length c0_0, .slice A0_1 l0_1.length c0_1, .slice A0_2 l0_2.length c0_2, .float .f64 a0_3, .int .i64 a0_4, .int .i64 a0_5, .int .i64 a0_6, .int .i64 a0_7, .int .i64 a0_8, .int .i64 a0_9, .int .i64 a0_10, .int .i64 a0_11, .int .i64 a0_12, .int .i64 a0_13] 27 (0, 0)) (by (with_reducible repeat (first | refine blk_drewN ?_ _ | refine blk_drew ?_ | refine blk_alloc ?_ _)); exact BK137.out)) : gb137 ≠ gb160)); have n7_ := Aside0.mk ((by rw [hg]; exact Nat.ne_of_gt (blk_lt (g := gb137) (o := .cells #[.slice A0_0 l0_0.length c0_0, .slice A0_1 l0_1.length c0_1, .slice A0_2 l0_2.length c0_2, .float .f64 a0_3, .int .i64 a0_4, .int .i64 a0_5, .int .i64 a0_6, .int .i64 a0_7, .int .i64 a0_8, .int .i64 a0_9, .int .i64 a0_10, .int .i64 a0_11, .int .i64 a0_12, .int .i64 a0_13] 27 (0, 0)) (by (with_reducible repeat (first | refine blk_drewN ?_ _ | refine blk_drew ?_ | refine blk_alloc ?_ _)); exact BK137.out)) : gb160 ≠ gb137)); clear HO_8; clear BK137; clear HB; have HO_8 := n0_; have BK137 := n1_; have HB := n2_; have BK160 := n3_; have GW160 := n4_; have GE160 := n5_; have NB137_160 := n6_; have NB160_137 := n7_; clear n0_ n1_ n2_ n3_ n4_ n5_ n6_ n7_; clear hb hbox hg; have hnb104 := NB160_137.out; have hnc104 := NB137_160.out; have hcz105_0 : w103.cell? ⟨gb160, 0, none⟩ = some (.int .i64 0) := (blk_cell BK160.out 0).trans rfl; have hcz105_1 : w103.cell? ⟨gb160, 1, none⟩ = some (.int .i64 0) := (blk_cell BK160.out 1).trans rfl; have hcz105_2 : w103.cell? ⟨gb160, 2, none⟩ = some (.int .i64 0) := (blk_cell BK160.out 2).trans rfl; have hcz105_3 : w103.cell? ⟨gb160, 3, none⟩ = some (.int .i64 0) := (blk_cell BK160.out 3).trans rfl; have hcz105_4 : w103.cell? ⟨gb160, 4, none⟩ = some (.int .i64 0) := (blk_cell BK160.out 4).trans rfl; have hfz105_0 := blk_frozen BK160.out 0; have hfz105_1 := blk_frozen BK160.out 1; have hfz105_2 := blk_frozen BK160.out 2; have hfz105_3 := blk_frozen BK160.out 3; have hfz105_4 := blk_frozen BK160.out 4))
                    go_ret
                    exact ⟨by first | rfl | (simp [errW_none, errW_some] <;> rfl) | (simp [*, errW_none, errW_some] <;> rfl), by repeat (first | (with_reducible first | exact HB.out | apply below_alloc | apply pw_below_drewN | apply below_drew1 | refine below_set ?_ GE137.out | refine below_set ?_ GE160.out) | exact HB.out)⟩
                · rw [if_neg c75] at H
                  have c75b0 : (t153 == 0) = false := beq_eq_false_iff_ne.mpr c75
                  have c75b1 : (t153 != 0) = true := bne_iff_ne.mpr c75
                  replace H := Option.bind_eq_some_iff.mp H
                  obtain ⟨t161, A1060, H⟩ := H
                  replace H : (some (t161 == t153)) = some r := H
                  have A106 := Aside0.mk A1060
                  clear A1060
                  obtain rfl := Option.some.inj H
                  obtain ⟨Ao107, co107, eo107⟩ := Kd.R_slice HO_8.out
                  subst eo107
                  have hcz108_0 : wr.cell? ⟨gb137, 0, none⟩ = some (.slice A0_0 l0_0.length c0_0) := (blk_cell BK137.out 0).trans rfl
                  have hcz108_1 : wr.cell? ⟨gb137, 1, none⟩ = some (.slice A0_1 l0_1.length c0_1) := (blk_cell BK137.out 1).trans rfl
                  have hcz108_2 : wr.cell? ⟨gb137, 2, none⟩ = some (.slice A0_2 l0_2.length c0_2) := (blk_cell BK137.out 2).trans rfl
                  have hcz108_3 : wr.cell? ⟨gb137, 3, none⟩ = some (.float .f64 a0_3) := (blk_cell BK137.out 3).trans rfl
                  have hcz108_4 : wr.cell? ⟨gb137, 4, none⟩ = some (.int .i64 a0_4) := (blk_cell BK137.out 4).trans rfl
                  have hcz108_5 : wr.cell? ⟨gb137, 5, none⟩ = some (.int .i64 a0_5) := (blk_cell BK137.out 5).trans rfl
                  have hcz108_6 : wr.cell? ⟨gb137, 6, none⟩ = some (.int .i64 a0_6) := (blk_cell BK137.out 6).trans rfl
                  have hcz108_7 : wr.cell? ⟨gb137, 7, none⟩ = some (.int .i64 a0_7) := (blk_cell BK137.out 7).trans rfl
                  have hcz108_8 : wr.cell? ⟨gb137, 8, none⟩ = some (.int .i64 a0_8) := (blk_cell BK137.out 8).trans rfl
                  have hcz108_9 : wr.cell? ⟨gb137, 9, none⟩ = some (.int .i64 a0_9) := (blk_cell BK137.out 9).trans rfl
                  have hcz108_10 : wr.cell? ⟨gb137, 10, none⟩ = some (.int .i64 a0_10) := (blk_cell BK137.out 10).trans rfl
                  have hcz108_11 : wr.cell? ⟨gb137, 11, none⟩ = some (.int .i64 a0_11) := (blk_cell BK137.out 11).trans rfl
                  have hcz108_12 : wr.cell? ⟨gb137, 12, none⟩ = some (.int .i64 a0_12) := (blk_cell BK137.out 12).trans rfl
                  have hcz108_13 : wr.cell? ⟨gb137, 13, none⟩ = some (.int .i64 a0_13) := (blk_cell BK137.out 13).trans rfl
                  have hfz108_0 := blk_frozen BK137.out 0
                  have hfz108_1 := blk_frozen BK137.out 1
                  have hfz108_2 := blk_frozen BK137.out 2
                  have hfz108_3 := blk_frozen BK137.out 3
                  have hfz108_4 := blk_frozen BK137.out 4
                  have hfz108_5 := blk_frozen BK137.out 5
                  have hfz108_6 := blk_frozen BK137.out 6
                  have hfz108_7 := blk_frozen BK137.out 7
                  have hfz108_8 := blk_frozen BK137.out 8
                  have hfz108_9 := blk_frozen BK137.out 9
                  have hfz108_10 := blk_frozen BK137.out 10
                  have hfz108_11 := blk_frozen BK137.out 11
                  have hfz108_12 := blk_frozen BK137.out 12
                  have hfz108_13 := blk_frozen BK137.out 13
                  go_wp2_with (first | ((with_reducible refine gate_callee (f := 44) rfl ?_); refine goesL_ (some 129) rfl rfl Try.func44 (by kernel_rfl) rfl #[.agg #[.slice A0_0 l0_0.length c0_0, .slice A0_1 l0_1.length c0_1, .slice A0_2 l0_2.length c0_2, .float .f64 a0_3, .int .i64 a0_4, .int .i64 a0_5, .int .i64 a0_6, .int .i64 a0_7, .int .i64 a0_8, .int .i64 a0_9, .int .i64 a0_10, .int .i64 a0_11, .int .i64 a0_12, .int .i64 a0_13], .slice Ao107 t139.length co107] rfl (by (try simp only [List.map_toArray, List.map_cons, List.map_nil]); first | done | rfl | (simp only [List.length_drop, List.length_take]; rfl)) ?_; (with_reducible refine (caps_Week.calls _ _ l0_0 _ _ l0_1 _ _ l0_2 a0_3 a0_4 a0_5 a0_6 a0_7 a0_8 a0_9 a0_10 a0_11 a0_12 a0_13 _ _ t139 t152 t153 _ ?side1 ?side2 ?side3 ?side4 ?side5 ?side6 ?side7 ?side8 A74.out).mono ?_); (case side1 => repeat (first | exact (Kd.C_below HR0_0.out HB.out) | (with_reducible refine Kd.C_alloc ?_ _) | (with_reducible refine Kd.C_drewN ?_ _) | (with_reducible refine Kd.C_drew ?_))); (case side2 => exact HC0_0.out); (case side3 => repeat (first | exact (Kd.C_below HR0_1.out HB.out) | (with_reducible refine Kd.C_alloc ?_ _) | (with_reducible refine Kd.C_drewN ?_ _) | (with_reducible refine Kd.C_drew ?_))); (case side4 => exact HC0_1.out); (case side5 => repeat (first | exact (Kd.C_below HR0_2.out HB.out) | (with_reducible refine Kd.C_alloc ?_ _) | (with_reducible refine Kd.C_drewN ?_ _) | (with_reducible refine Kd.C_drew ?_))); (case side6 => exact HC0_2.out); (case side7 => repeat (first | exact (Kd.R_reads' HO_8.out).2.2 | (with_reducible refine Kd.C_alloc ?_ _) | (with_reducible refine Kd.C_drewN ?_ _) | (with_reducible refine Kd.C_drew ?_))); (case side8 => exact (Kd.R_reads' HO_8.out).2.1); rintro e w109 ⟨rfl, hb⟩; refine ⟨_, rfl, ?_⟩; have n0_ := Aside0.mk (Kd.R_below (by (with_reducible repeat (first | apply Kd.R_alloc | apply Kd.R_drewN | apply Kd.R_drew)); exact HO_8.out) hb); have n1_ := Aside0.mk (blk_below (g := gb137) (o := .cells #[.slice A0_0 l0_0.length c0_0, .slice A0_1 l0_1.length c0_1, .slice A0_2 l0_2.length c0_2, .float .f64 a0_3, .int .i64 a0_4, .int .i64 a0_5, .int .i64 a0_6, .int .i64 a0_7, .int .i64 a0_8, .int .i64 a0_9, .int .i64 a0_10, .int .i64 a0_11, .int .i64 a0_12, .int .i64 a0_13] 27 (0, 0)) (by (with_reducible repeat (first | refine blk_drewN ?_ _ | refine blk_drew ?_ | refine blk_alloc ?_ _)); exact BK137.out) hb); have n2_ := Aside0.mk (below_step (by repeat (first | (with_reducible first | exact HB.out | apply below_alloc | apply pw_below_drewN | apply below_drew1 | refine below_set ?_ GE137.out) | exact HB.out)) hb); clear HO_8; clear BK137; clear HB; have HO_8 := n0_; have BK137 := n1_; have HB := n2_; clear n0_ n1_ n2_; (try clear hb); (try clear hb2); (try clear hk); (try clear hi); have hcz110_0 : w109.cell? ⟨gb137, 0, none⟩ = some (.slice A0_0 l0_0.length c0_0) := (blk_cell BK137.out 0).trans rfl; have hcz110_1 : w109.cell? ⟨gb137, 1, none⟩ = some (.slice A0_1 l0_1.length c0_1) := (blk_cell BK137.out 1).trans rfl; have hcz110_2 : w109.cell? ⟨gb137, 2, none⟩ = some (.slice A0_2 l0_2.length c0_2) := (blk_cell BK137.out 2).trans rfl; have hcz110_3 : w109.cell? ⟨gb137, 3, none⟩ = some (.float .f64 a0_3) := (blk_cell BK137.out 3).trans rfl; have hcz110_4 : w109.cell? ⟨gb137, 4, none⟩ = some (.int .i64 a0_4) := (blk_cell BK137.out 4).trans rfl; have hcz110_5 : w109.cell? ⟨gb137, 5, none⟩ = some (.int .i64 a0_5) := (blk_cell BK137.out 5).trans rfl; have hcz110_6 : w109.cell? ⟨gb137, 6, none⟩ = some (.int .i64 a0_6) := (blk_cell BK137.out 6).trans rfl; have hcz110_7 : w109.cell? ⟨gb137, 7, none⟩ = some (.int .i64 a0_7) := (blk_cell BK137.out 7).trans rfl; have hcz110_8 : w109.cell? ⟨gb137, 8, none⟩ = some (.int .i64 a0_8) := (blk_cell BK137.out 8).trans rfl; have hcz110_9 : w109.cell? ⟨gb137, 9, none⟩ = some (.int .i64 a0_9) := (blk_cell BK137.out 9).trans rfl; have hcz110_10 : w109.cell? ⟨gb137, 10, none⟩ = some (.int .i64 a0_10) := (blk_cell BK137.out 10).trans rfl; have hcz110_11 : w109.cell? ⟨gb137, 11, none⟩ = some (.int .i64 a0_11) := (blk_cell BK137.out 11).trans rfl; have hcz110_12 : w109.cell? ⟨gb137, 12, none⟩ = some (.int .i64 a0_12) := (blk_cell BK137.out 12).trans rfl; have hcz110_13 : w109.cell? ⟨gb137, 13, none⟩ = some (.int .i64 a0_13) := (blk_cell BK137.out 13).trans rfl; have hfz110_0 := blk_frozen BK137.out 0; have hfz110_1 := blk_frozen BK137.out 1; have hfz110_2 := blk_frozen BK137.out 2; have hfz110_3 := blk_frozen BK137.out 3; have hfz110_4 := blk_frozen BK137.out 4; have hfz110_5 := blk_frozen BK137.out 5; have hfz110_6 := blk_frozen BK137.out 6; have hfz110_7 := blk_frozen BK137.out 7; have hfz110_8 := blk_frozen BK137.out 8; have hfz110_9 := blk_frozen BK137.out 9; have hfz110_10 := blk_frozen BK137.out 10; have hfz110_11 := blk_frozen BK137.out 11; have hfz110_12 := blk_frozen BK137.out 12; have hfz110_13 := blk_frozen BK137.out 13) | ((with_reducible refine gate_callee (f := 28) rfl ?_); refine goesL_ (some 135) rfl rfl Try.func28 (by kernel_rfl) rfl #[.agg #[.slice A0_0 l0_0.length c0_0, .slice A0_1 l0_1.length c0_1, .slice A0_2 l0_2.length c0_2, .float .f64 a0_3, .int .i64 a0_4, .int .i64 a0_5, .int .i64 a0_6, .int .i64 a0_7, .int .i64 a0_8, .int .i64 a0_9, .int .i64 a0_10, .int .i64 a0_11, .int .i64 a0_12, .int .i64 a0_13]] rfl (by (try simp only [List.map_toArray, List.map_cons, List.map_nil]); first | done | rfl | (simp only [List.length_drop, List.length_take]; rfl)) ?_; (with_reducible refine (tariff_Right.calls _ _ l0_0 _ _ l0_1 _ _ l0_2 a0_3 a0_4 a0_5 a0_6 a0_7 a0_8 a0_9 a0_10 a0_11 a0_12 a0_13 t161 _ ?side1 ?side2 ?side3 ?side4 ?side5 ?side6 A106.out).mono ?_); (case side1 => repeat (first | exact (Kd.C_below HR0_0.out HB.out) | (with_reducible refine Kd.C_alloc ?_ _) | (with_reducible refine Kd.C_drewN ?_ _) | (with_reducible refine Kd.C_drew ?_))); (case side2 => exact HC0_0.out); (case side3 => repeat (first | exact (Kd.C_below HR0_1.out HB.out) | (with_reducible refine Kd.C_alloc ?_ _) | (with_reducible refine Kd.C_drewN ?_ _) | (with_reducible refine Kd.C_drew ?_))); (case side4 => exact HC0_1.out); (case side5 => repeat (first | exact (Kd.C_below HR0_2.out HB.out) | (with_reducible refine Kd.C_alloc ?_ _) | (with_reducible refine Kd.C_drewN ?_ _) | (with_reducible refine Kd.C_drew ?_))); (case side6 => exact HC0_2.out); rintro e w111 ⟨rfl, hb⟩; refine ⟨_, rfl, ?_⟩; have n0_ := Aside0.mk (Kd.R_below (by (with_reducible repeat (first | apply Kd.R_alloc | apply Kd.R_drewN | apply Kd.R_drew)); exact HO_8.out) hb); have n1_ := Aside0.mk (blk_below (g := gb137) (o := .cells #[.slice A0_0 l0_0.length c0_0, .slice A0_1 l0_1.length c0_1, .slice A0_2 l0_2.length c0_2, .float .f64 a0_3, .int .i64 a0_4, .int .i64 a0_5, .int .i64 a0_6, .int .i64 a0_7, .int .i64 a0_8, .int .i64 a0_9, .int .i64 a0_10, .int .i64 a0_11, .int .i64 a0_12, .int .i64 a0_13] 27 (0, 0)) (by (with_reducible repeat (first | refine blk_drewN ?_ _ | refine blk_drew ?_ | refine blk_alloc ?_ _)); exact BK137.out) hb); have n2_ := Aside0.mk (below_step (by repeat (first | (with_reducible first | exact HB.out | apply below_alloc | apply pw_below_drewN | apply below_drew1 | refine below_set ?_ GE137.out) | exact HB.out)) hb); clear HO_8; clear BK137; clear HB; have HO_8 := n0_; have BK137 := n1_; have HB := n2_; clear n0_ n1_ n2_; (try clear hb); (try clear hb2); (try clear hk); (try clear hi)))
                  go_ret
                  exact ⟨by first | rfl | (simp [errW_none, errW_some] <;> rfl) | (simp [*, errW_none, errW_some] <;> rfl), by repeat (first | (with_reducible first | exact HB.out | apply below_alloc | apply pw_below_drewN | apply below_drew1 | refine below_set ?_ GE137.out) | exact HB.out)⟩
        · replace c12 := Bool.eq_false_iff.mpr c12
          subst c12
          have H1 : (some true) = some r := by rw [if_neg (show ¬ (false = true) by decide)] at H; exact H
          clear H
          have H := H1
          clear H1
          obtain rfl := Option.some.inj H
          have hcz112_0 : wc.cell? ⟨gb137, 0, none⟩ = some (.slice A0_0 l0_0.length c0_0) := (blk_cell BK137.out 0).trans rfl
          have hcz112_1 : wc.cell? ⟨gb137, 1, none⟩ = some (.slice A0_1 l0_1.length c0_1) := (blk_cell BK137.out 1).trans rfl
          have hcz112_2 : wc.cell? ⟨gb137, 2, none⟩ = some (.slice A0_2 l0_2.length c0_2) := (blk_cell BK137.out 2).trans rfl
          have hcz112_3 : wc.cell? ⟨gb137, 3, none⟩ = some (.float .f64 a0_3) := (blk_cell BK137.out 3).trans rfl
          have hcz112_4 : wc.cell? ⟨gb137, 4, none⟩ = some (.int .i64 a0_4) := (blk_cell BK137.out 4).trans rfl
          have hcz112_5 : wc.cell? ⟨gb137, 5, none⟩ = some (.int .i64 a0_5) := (blk_cell BK137.out 5).trans rfl
          have hcz112_6 : wc.cell? ⟨gb137, 6, none⟩ = some (.int .i64 a0_6) := (blk_cell BK137.out 6).trans rfl
          have hcz112_7 : wc.cell? ⟨gb137, 7, none⟩ = some (.int .i64 a0_7) := (blk_cell BK137.out 7).trans rfl
          have hcz112_8 : wc.cell? ⟨gb137, 8, none⟩ = some (.int .i64 a0_8) := (blk_cell BK137.out 8).trans rfl
          have hcz112_9 : wc.cell? ⟨gb137, 9, none⟩ = some (.int .i64 a0_9) := (blk_cell BK137.out 9).trans rfl
          have hcz112_10 : wc.cell? ⟨gb137, 10, none⟩ = some (.int .i64 a0_10) := (blk_cell BK137.out 10).trans rfl
          have hcz112_11 : wc.cell? ⟨gb137, 11, none⟩ = some (.int .i64 a0_11) := (blk_cell BK137.out 11).trans rfl
          have hcz112_12 : wc.cell? ⟨gb137, 12, none⟩ = some (.int .i64 a0_12) := (blk_cell BK137.out 12).trans rfl
          have hcz112_13 : wc.cell? ⟨gb137, 13, none⟩ = some (.int .i64 a0_13) := (blk_cell BK137.out 13).trans rfl
          have hfz112_0 := blk_frozen BK137.out 0
          have hfz112_1 := blk_frozen BK137.out 1
          have hfz112_2 := blk_frozen BK137.out 2
          have hfz112_3 := blk_frozen BK137.out 3
          have hfz112_4 := blk_frozen BK137.out 4
          have hfz112_5 := blk_frozen BK137.out 5
          have hfz112_6 := blk_frozen BK137.out 6
          have hfz112_7 := blk_frozen BK137.out 7
          have hfz112_8 := blk_frozen BK137.out 8
          have hfz112_9 := blk_frozen BK137.out 9
          have hfz112_10 := blk_frozen BK137.out 10
          have hfz112_11 := blk_frozen BK137.out 11
          have hfz112_12 := blk_frozen BK137.out 12
          have hfz112_13 := blk_frozen BK137.out 13
          go_wp2_with (first | ((with_reducible refine gate_callee (f := 46) rfl ?_); refine goesL_ (some 40) rfl rfl Try.func46 (by kernel_rfl) rfl #[.agg #[.slice A0_0 l0_0.length c0_0, .slice A0_1 l0_1.length c0_1, .slice A0_2 l0_2.length c0_2, .float .f64 a0_3, .int .i64 a0_4, .int .i64 a0_5, .int .i64 a0_6, .int .i64 a0_7, .int .i64 a0_8, .int .i64 a0_9, .int .i64 a0_10, .int .i64 a0_11, .int .i64 a0_12, .int .i64 a0_13], .int .i64 (wrap64 (7 * a1)), .slice A2 l2.length c2] rfl (by (try simp only [List.map_toArray, List.map_cons, List.map_nil]); first | done | rfl | (simp only [List.length_drop, List.length_take]; rfl)) ?_; (with_reducible refine (fareboxlaw19_days.calls kj4 _ _ l0_0 _ _ l0_1 _ _ l0_2 a0_3 a0_4 a0_5 a0_6 a0_7 a0_8 a0_9 a0_10 a0_11 a0_12 a0_13 (wrap64 (7 * a1)) _ _ l2 t139 false _ ?side1 ?side2 ?side3 ?side4 ?side5 ?side6 ?side7 ?side8 A11.out).mono ?_); (case side1 => repeat (first | exact (Kd.C_below HR0_0.out HB.out) | (with_reducible refine Kd.C_alloc ?_ _) | (with_reducible refine Kd.C_drewN ?_ _) | (with_reducible refine Kd.C_drew ?_))); (case side2 => exact HC0_0.out); (case side3 => repeat (first | exact (Kd.C_below HR0_1.out HB.out) | (with_reducible refine Kd.C_alloc ?_ _) | (with_reducible refine Kd.C_drewN ?_ _) | (with_reducible refine Kd.C_drew ?_))); (case side4 => exact HC0_1.out); (case side5 => repeat (first | exact (Kd.C_below HR0_2.out HB.out) | (with_reducible refine Kd.C_alloc ?_ _) | (with_reducible refine Kd.C_drewN ?_ _) | (with_reducible refine Kd.C_drew ?_))); (case side6 => exact HC0_2.out); (case side7 => repeat (first | exact (Kd.C_below HR2.out HB.out) | (with_reducible refine Kd.C_alloc ?_ _) | (with_reducible refine Kd.C_drewN ?_ _) | (with_reducible refine Kd.C_drew ?_))); (case side8 => exact HC2.out); rintro e w113 ⟨v140, rfl, ho0, hb⟩; refine ⟨_, rfl, ?_⟩; have n0_ := Aside0.mk (Kd.R_lower ho0 (below_size (by repeat (first | (with_reducible first | exact HB.out | apply below_alloc | apply pw_below_drewN | apply below_drew1 | refine below_set ?_ GE137.out) | exact HB.out)))); have n1_ := Aside0.mk (blk_below (g := gb137) (o := .cells #[.slice A0_0 l0_0.length c0_0, .slice A0_1 l0_1.length c0_1, .slice A0_2 l0_2.length c0_2, .float .f64 a0_3, .int .i64 a0_4, .int .i64 a0_5, .int .i64 a0_6, .int .i64 a0_7, .int .i64 a0_8, .int .i64 a0_9, .int .i64 a0_10, .int .i64 a0_11, .int .i64 a0_12, .int .i64 a0_13] 27 (0, 0)) (by (with_reducible repeat (first | refine blk_drewN ?_ _ | refine blk_drew ?_ | refine blk_alloc ?_ _)); exact BK137.out) hb); have n2_ := Aside0.mk (below_step (by repeat (first | (with_reducible first | exact HB.out | apply below_alloc | apply pw_below_drewN | apply below_drew1 | refine below_set ?_ GE137.out) | exact HB.out)) hb); clear BK137; clear HB; have HO141 := n0_; have BK137 := n1_; have HB := n2_; clear n0_ n1_ n2_; (try clear hb); (try clear hb2); (try clear hk); (try clear hi); (try clear ho0)))
          go_ret
          exact ⟨by first | rfl | (simp [errW_none, errW_some] <;> rfl) | (simp [*, errW_none, errW_some] <;> rfl), by repeat (first | (with_reducible first | exact HB.out | apply below_alloc | apply pw_below_drewN | apply below_drew1 | refine below_set ?_ GE137.out) | exact HB.out)⟩
end Go.Proofs.YtmeogadkbbeglaaQ
