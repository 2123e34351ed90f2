/- Printed by the turned printer (wip/fltpatch.py, wip/tools/pp.sh) out of the translation: what functions compute, and their walks. -/
import Derived.Test.YtmeogadkbbeglaaK3
import Derived.Test.YtmeogadkbbeglaaK7
import Derived.Test.YtmeogadkbbeglaaK8
import Derived.Test.YtmeogadkbbeglaaK9
import Derived.Test.YtmeogadkbbeglaaK11
import Derived.Test.YtmeogadkbbeglaaK12
import Derived.Test.YtmeogadkbbeglaaK14
namespace Go.Proofs.YtmeogadkbbeglaaQ
open Go.RowKit Go.Proofs.YtmeogadkbbeglaaW.PrintWords Go.Proofs.YtmeogadkbbeglaaW.PrintLast Go.Proofs.YtmeogadkbbeglaaW.PrintMore
attribute [local go_sem] max2_int min2_int max_two min_two max_three min_three max_four min_four   -- for this text's walks alone
set_option linter.unusedVariables false
set_option linter.unusedSimpArgs false
def fareboxref07_Right.j0 : Nat → Bool → List (S35) → List (S39) → List (S48) → Nat → Int → Int → Int → Int → Int → Int → Int → Int → Int → Int → Option (Int)
  | 0, _, _, _, _, _, _, _, _, _, _, _, _, _, _, _ => none
  | k + 1, x36, x418000, x418001, x418002, x418003, x418004, x418005, x418006, x418007, x418008, x418009, x418010, x418011, x418012, x418013 => if x36 = true then (some 70) else ((fareboxref05_Rate.f x418003).bind fun t424 => (if t424 = true then ((fareboxref07_minutes.f x418009 1).bind fun t425 => (if t425 = true then ((fareboxref07_minutes.f x418007 0).bind fun t426 => (if t426 = true then ((fareboxref07_minutes.f x418010 0).bind fun t427 => (if t427 = true then ((fareboxref07_minutes.f x418011 0).bind fun t428 => (if t428 = true then ((fareboxref07_minutes.f x418012 0).bind fun t429 => (if t429 = true then (some 0) else (some 70))) else (some 70))) else (some 70))) else (some 70))) else (some 70))) else (some 51)))
def fareboxref07_Right.f (k : Nat) (l0_0 : List (S35)) (l0_1 : List (S39)) (l0_2 : List (S48)) (a0_3 : Nat) (a0_4 : Int) (a0_5 : Int) (a0_6 : Int) (a0_7 : Int) (a0_8 : Int) (a0_9 : Int) (a0_10 : Int) (a0_11 : Int) (a0_12 : Int) (a0_13 : Int) : Option (Int) := (fareboxref07_stations.f k l0_0).bind fun bt418 => (if bt418.2 = true then ((fareboxref07_spans.f k l0_1 bt418.1).bind fun t420 => (if t420 = true then ((fareboxref07_prices.f k l0_0 l0_1 l0_2 a0_3 a0_4 a0_5 a0_6 a0_7 a0_8 a0_9 a0_10 a0_11 a0_12 a0_13).bind fun t421 => (if t421 = true then ((fareboxref07_wider.f k l0_1).bind fun t422 => ((fareboxref07_bands.f k l0_2).bind fun t423 => (if t422 = true then (fareboxref07_Right.j0 k (!t423) l0_0 l0_1 l0_2 a0_3 a0_4 a0_5 a0_6 a0_7 a0_8 a0_9 a0_10 a0_11 a0_12 a0_13) else (fareboxref07_Right.j0 k true l0_0 l0_1 l0_2 a0_3 a0_4 a0_5 a0_6 a0_7 a0_8 a0_9 a0_10 a0_11 a0_12 a0_13)))) else (some 50))) else (some 70))) else (some 70))
set_option maxHeartbeats 8000000 in
set_option maxRecDepth 100000 in
theorem fareboxref07_Right.calls (k : Nat) (A0_0 : Option Addr) (c0_0 : Nat) (l0_0 : List (S35)) (A0_1 : Option Addr) (c0_1 : Nat) (l0_1 : List (S39)) (A0_2 : Option Addr) (c0_2 : Nat) (l0_2 : List (S48)) (a0_3 : Nat) (a0_4 : Int) (a0_5 : Int) (a0_6 : Int) (a0_7 : Int) (a0_8 : Int) (a0_9 : Int) (a0_10 : Int) (a0_11 : Int) (a0_12 : Int) (a0_13 : Int) (r : Int) (w : World) (hr0_0 : Kd.C k35 w A0_0 l0_0.length l0_0) (hc0_0 : l0_0.length ≤ c0_0) (hr0_1 : Kd.C k39 w A0_1 l0_1.length l0_1) (hc0_1 : l0_1.length ≤ c0_1) (hr0_2 : Kd.C k48 w A0_2 l0_2.length l0_2) (hc0_2 : l0_2.length ≤ c0_2) (h : fareboxref07_Right.f k l0_0 l0_1 l0_2 a0_3 a0_4 a0_5 a0_6 a0_7 a0_8 a0_9 a0_10 a0_11 a0_12 a0_13 = some r) :
    Calls Try.prog 30 #[.agg #[.slice A0_0 l0_0.length c0_0, .slice A0_1 l0_1.length c0_1, .slice A0_2 l0_2.length c0_2, .float .f64 a0_3, .int .i64 a0_4, .int .i64 a0_5, .int .i64 a0_6, .int .i64 a0_7, .int .i64 a0_8, .int .i64 a0_9, .int .i64 a0_10, .int .i64 a0_11, .int .i64 a0_12, .int .i64 a0_13]] w fun e w' => e = .returned (.int .i64 r) ∧ Below w.heap.size w w' := by
  have hu27 := Try.underlying27
  have HR0_0 := Aside0.mk hr0_0
  have HC0_0 := Aside0.mk hc0_0
  clear hr0_0 hc0_0
  have HR0_1 := Aside0.mk hr0_1
  have HC0_1 := Aside0.mk hc0_1
  clear hr0_1 hc0_1
  have HR0_2 := Aside0.mk hr0_2
  have HC0_2 := Aside0.mk hc0_2
  clear hr0_2 hc0_2
  have HB := Aside0.mk (Below.refl w.heap.size w)
  have H : ((fareboxref07_stations.f k l0_0).bind fun bt418 => (if bt418.2 = true then ((fareboxref07_spans.f k l0_1 bt418.1).bind fun t420 => (if t420 = true then ((fareboxref07_prices.f k l0_0 l0_1 l0_2 a0_3 a0_4 a0_5 a0_6 a0_7 a0_8 a0_9 a0_10 a0_11 a0_12 a0_13).bind fun t421 => (if t421 = true then ((fareboxref07_wider.f k l0_1).bind fun t422 => ((fareboxref07_bands.f k l0_2).bind fun t423 => (if t422 = true then (fareboxref07_Right.j0 k (!t423) l0_0 l0_1 l0_2 a0_3 a0_4 a0_5 a0_6 a0_7 a0_8 a0_9 a0_10 a0_11 a0_12 a0_13) else (fareboxref07_Right.j0 k true l0_0 l0_1 l0_2 a0_3 a0_4 a0_5 a0_6 a0_7 a0_8 a0_9 a0_10 a0_11 a0_12 a0_13)))) else (some 50))) else (some 70))) else (some 70))) = some r := h
  clear h
  replace H := Option.bind_eq_some_iff.mp H
  obtain ⟨⟨t418, t419⟩, A20, H⟩ := H
  replace H : (if t419 = true then ((fareboxref07_spans.f k l0_1 t418).bind fun t420 => (if t420 = true then ((fareboxref07_prices.f k l0_0 l0_1 l0_2 a0_3 a0_4 a0_5 a0_6 a0_7 a0_8 a0_9 a0_10 a0_11 a0_12 a0_13).bind fun t421 => (if t421 = true then ((fareboxref07_wider.f k l0_1).bind fun t422 => ((fareboxref07_bands.f k l0_2).bind fun t423 => (if t422 = true then (fareboxref07_Right.j0 k (!t423) l0_0 l0_1 l0_2 a0_3 a0_4 a0_5 a0_6 a0_7 a0_8 a0_9 a0_10 a0_11 a0_12 a0_13) else (fareboxref07_Right.j0 k true l0_0 l0_1 l0_2 a0_3 a0_4 a0_5 a0_6 a0_7 a0_8 a0_9 a0_10 a0_11 a0_12 a0_13)))) else (some 50))) else (some 70))) else (some 70)) = some r := H
  have A2 := Aside0.mk A20
  clear A20
  by_cases c3 : t419 = true
  · subst c3
    have H1 : ((fareboxref07_spans.f k l0_1 t418).bind fun t420 => (if t420 = true then ((fareboxref07_prices.f k l0_0 l0_1 l0_2 a0_3 a0_4 a0_5 a0_6 a0_7 a0_8 a0_9 a0_10 a0_11 a0_12 a0_13).bind fun t421 => (if t421 = true then ((fareboxref07_wider.f k l0_1).bind fun t422 => ((fareboxref07_bands.f k l0_2).bind fun t423 => (if t422 = true then (fareboxref07_Right.j0 k (!t423) l0_0 l0_1 l0_2 a0_3 a0_4 a0_5 a0_6 a0_7 a0_8 a0_9 a0_10 a0_11 a0_12 a0_13) else (fareboxref07_Right.j0 k true l0_0 l0_1 l0_2 a0_3 a0_4 a0_5 a0_6 a0_7 a0_8 a0_9 a0_10 a0_11 a0_12 a0_13)))) else (some 50))) else (some 70))) = some r := by rw [if_pos rfl] at H; exact H
    clear H
    have H := H1
    clear H1
    replace H := Option.bind_eq_some_iff.mp H
    obtain ⟨t420, A40, H⟩ := H
    replace H : (if t420 = true then ((fareboxref07_prices.f k l0_0 l0_1 l0_2 a0_3 a0_4 a0_5 a0_6 a0_7 a0_8 a0_9 a0_10 a0_11 a0_12 a0_13).bind fun t421 => (if t421 = true then ((fareboxref07_wider.f k l0_1).bind fun t422 => ((fareboxref07_bands.f k l0_2).bind fun t423 => (if t422 = true then (fareboxref07_Right.j0 k (!t423) l0_0 l0_1 l0_2 a0_3 a0_4 a0_5 a0_6 a0_7 a0_8 a0_9 a0_10 a0_11 a0_12 a0_13) else (fareboxref07_Right.j0 k true l0_0 l0_1 l0_2 a0_3 a0_4 a0_5 a0_6 a0_7 a0_8 a0_9 a0_10 a0_11 a0_12 a0_13)))) else (some 50))) else (some 70)) = some r := H
    have A4 := Aside0.mk A40
    clear A40
    by_cases c5 : t420 = true
    · subst c5
      have H1 : ((fareboxref07_prices.f k l0_0 l0_1 l0_2 a0_3 a0_4 a0_5 a0_6 a0_7 a0_8 a0_9 a0_10 a0_11 a0_12 a0_13).bind fun t421 => (if t421 = true then ((fareboxref07_wider.f k l0_1).bind fun t422 => ((fareboxref07_bands.f k l0_2).bind fun t423 => (if t422 = true then (fareboxref07_Right.j0 k (!t423) l0_0 l0_1 l0_2 a0_3 a0_4 a0_5 a0_6 a0_7 a0_8 a0_9 a0_10 a0_11 a0_12 a0_13) else (fareboxref07_Right.j0 k true l0_0 l0_1 l0_2 a0_3 a0_4 a0_5 a0_6 a0_7 a0_8 a0_9 a0_10 a0_11 a0_12 a0_13)))) else (some 50))) = some r := by rw [if_pos rfl] at H; exact H
      clear H
      have H := H1
      clear H1
      replace H := Option.bind_eq_some_iff.mp H
      obtain ⟨t421, A60, H⟩ := H
      replace H : (if t421 = true then ((fareboxref07_wider.f k l0_1).bind fun t422 => ((fareboxref07_bands.f k l0_2).bind fun t423 => (if t422 = true then (fareboxref07_Right.j0 k (!t423) l0_0 l0_1 l0_2 a0_3 a0_4 a0_5 a0_6 a0_7 a0_8 a0_9 a0_10 a0_11 a0_12 a0_13) else (fareboxref07_Right.j0 k true l0_0 l0_1 l0_2 a0_3 a0_4 a0_5 a0_6 a0_7 a0_8 a0_9 a0_10 a0_11 a0_12 a0_13)))) else (some 50)) = some r := H
      have A6 := Aside0.mk A60
      clear A60
      by_cases c7 : t421 = true
      · subst c7
        have H1 : ((fareboxref07_wider.f k l0_1).bind fun t422 => ((fareboxref07_bands.f k l0_2).bind fun t423 => (if t422 = true then (fareboxref07_Right.j0 k (!t423) l0_0 l0_1 l0_2 a0_3 a0_4 a0_5 a0_6 a0_7 a0_8 a0_9 a0_10 a0_11 a0_12 a0_13) else (fareboxref07_Right.j0 k true l0_0 l0_1 l0_2 a0_3 a0_4 a0_5 a0_6 a0_7 a0_8 a0_9 a0_10 a0_11 a0_12 a0_13)))) = some r := by rw [if_pos rfl] at H; exact H
        clear H
        have H := H1
        clear H1
        replace H := Option.bind_eq_some_iff.mp H
        obtain ⟨t422, A80, H⟩ := H
        replace H : ((fareboxref07_bands.f k l0_2).bind fun t423 => (if t422 = true then (fareboxref07_Right.j0 k (!t423) l0_0 l0_1 l0_2 a0_3 a0_4 a0_5 a0_6 a0_7 a0_8 a0_9 a0_10 a0_11 a0_12 a0_13) else (fareboxref07_Right.j0 k true l0_0 l0_1 l0_2 a0_3 a0_4 a0_5 a0_6 a0_7 a0_8 a0_9 a0_10 a0_11 a0_12 a0_13))) = some r := H
        have A8 := Aside0.mk A80
        clear A80
        replace H := Option.bind_eq_some_iff.mp H
        obtain ⟨t423, A90, H⟩ := H
        replace H : (if t422 = true then (fareboxref07_Right.j0 k (!t423) l0_0 l0_1 l0_2 a0_3 a0_4 a0_5 a0_6 a0_7 a0_8 a0_9 a0_10 a0_11 a0_12 a0_13) else (fareboxref07_Right.j0 k true l0_0 l0_1 l0_2 a0_3 a0_4 a0_5 a0_6 a0_7 a0_8 a0_9 a0_10 a0_11 a0_12 a0_13)) = some r := H
        have A9 := Aside0.mk A90
        clear A90
        have HC10 := Aside0.mk H
        clear H
        go_enter Try.func30, Try.ntmps30
        go_upto_region 12 with (first | ((with_reducible refine gate_dst (N := 1) rfl ?_); refine box_event ?hg (N := 1) ?hd (cs := #[.slice A0_0 l0_0.length c0_0, .slice A0_1 l0_1.length c0_1, .slice A0_2 l0_2.length c0_2, .float .f64 a0_3, .int .i64 a0_4, .int .i64 a0_5, .int .i64 a0_6, .int .i64 a0_7, .int .i64 a0_8, .int .i64 a0_9, .int .i64 a0_10, .int .i64 a0_11, .int .i64 a0_12, .int .i64 a0_13]) (t := 27) ?hr ?_; (case hd => rfl); (case hg => rfl); (case hr => first | (go_simp; done) | (go_simp; rfl)); intro gb417 hg w11 hbox hb; have n0_ := Aside0.mk (below_step (by repeat (first | (with_reducible first | exact HB.out | apply below_alloc | apply pw_below_drewN | apply below_drew1) | exact HB.out)) hb); have n1_ := Aside0.mk (hbox); have n2_ := Aside0.mk ((by rw [hg]; exact (below_size (by repeat (first | (with_reducible first | exact HB.out | apply below_alloc | apply pw_below_drewN | apply below_drew1) | exact HB.out))) : w.heap.size ≤ gb417)); have n3_ := Aside0.mk ((by rw [hg]; exact (below_size (by repeat (first | (with_reducible first | exact HB.out | apply below_alloc | apply pw_below_drewN | apply below_drew1) | exact HB.out))) : w.heap.size ≤ gb417)); clear HB; have HB := n0_; have BK417 := n1_; have GW417 := n2_; have GE417 := n3_; clear n0_ n1_ n2_ n3_; clear hb hbox hg; have hcz12_0 : w11.cell? ⟨gb417, 0, none⟩ = some (.slice A0_0 l0_0.length c0_0) := (blk_cell BK417.out 0).trans rfl; have hcz12_1 : w11.cell? ⟨gb417, 1, none⟩ = some (.slice A0_1 l0_1.length c0_1) := (blk_cell BK417.out 1).trans rfl; have hcz12_2 : w11.cell? ⟨gb417, 2, none⟩ = some (.slice A0_2 l0_2.length c0_2) := (blk_cell BK417.out 2).trans rfl; have hcz12_3 : w11.cell? ⟨gb417, 3, none⟩ = some (.float .f64 a0_3) := (blk_cell BK417.out 3).trans rfl; have hcz12_4 : w11.cell? ⟨gb417, 4, none⟩ = some (.int .i64 a0_4) := (blk_cell BK417.out 4).trans rfl; have hcz12_5 : w11.cell? ⟨gb417, 5, none⟩ = some (.int .i64 a0_5) := (blk_cell BK417.out 5).trans rfl; have hcz12_6 : w11.cell? ⟨gb417, 6, none⟩ = some (.int .i64 a0_6) := (blk_cell BK417.out 6).trans rfl; have hcz12_7 : w11.cell? ⟨gb417, 7, none⟩ = some (.int .i64 a0_7) := (blk_cell BK417.out 7).trans rfl; have hcz12_8 : w11.cell? ⟨gb417, 8, none⟩ = some (.int .i64 a0_8) := (blk_cell BK417.out 8).trans rfl; have hcz12_9 : w11.cell? ⟨gb417, 9, none⟩ = some (.int .i64 a0_9) := (blk_cell BK417.out 9).trans rfl; have hcz12_10 : w11.cell? ⟨gb417, 10, none⟩ = some (.int .i64 a0_10) := (blk_cell BK417.out 10).trans rfl; have hcz12_11 : w11.cell? ⟨gb417, 11, none⟩ = some (.int .i64 a0_11) := (blk_cell BK417.out 11).trans rfl; have hcz12_12 : w11.cell? ⟨gb417, 12, none⟩ = some (.int .i64 a0_12) := (blk_cell BK417.out 12).trans rfl; have hcz12_13 : w11.cell? ⟨gb417, 13, none⟩ = some (.int .i64 a0_13) := (blk_cell BK417.out 13).trans rfl; have hfz12_0 := blk_frozen BK417.out 0; have hfz12_1 := blk_frozen BK417.out 1; have hfz12_2 := blk_frozen BK417.out 2; have hfz12_3 := blk_frozen BK417.out 3; have hfz12_4 := blk_frozen BK417.out 4; have hfz12_5 := blk_frozen BK417.out 5; have hfz12_6 := blk_frozen BK417.out 6; have hfz12_7 := blk_frozen BK417.out 7; have hfz12_8 := blk_frozen BK417.out 8; have hfz12_9 := blk_frozen BK417.out 9; have hfz12_10 := blk_frozen BK417.out 10; have hfz12_11 := blk_frozen BK417.out 11; have hfz12_12 := blk_frozen BK417.out 12; have hfz12_13 := blk_frozen BK417.out 13) | ((with_reducible refine gate_callee (f := 78) rfl ?_); refine goesL_ (some 10) rfl rfl Try.func78 (by kernel_rfl) rfl #[.slice A0_0 l0_0.length c0_0] rfl (by (try simp only [List.map_toArray, List.map_cons, List.map_nil]); first | done | rfl | (simp only [List.length_drop, List.length_take]; rfl)) ?_; (with_reducible refine (fareboxref07_stations.calls k _ _ l0_0 t418 true _ ?side1 ?side2 A2.out).mono ?_); (case side1 => repeat (first | exact (Kd.C_below HR0_0.out HB.out) | (with_reducible refine Kd.C_alloc ?_ _) | (with_reducible refine Kd.C_drewN ?_ _) | (with_reducible refine Kd.C_drew ?_))); (case side2 => exact HC0_0.out); rintro e w13 ⟨rfl, hb⟩; refine ⟨_, rfl, ?_⟩; have n0_ := Aside0.mk (blk_below (g := gb417) (o := .cells #[.slice A0_0 l0_0.length c0_0, .slice A0_1 l0_1.length c0_1, .slice A0_2 l0_2.length c0_2, .float .f64 a0_3, .int .i64 a0_4, .int .i64 a0_5, .int .i64 a0_6, .int .i64 a0_7, .int .i64 a0_8, .int .i64 a0_9, .int .i64 a0_10, .int .i64 a0_11, .int .i64 a0_12, .int .i64 a0_13] 27 (0, 0)) (by (with_reducible repeat (first | refine blk_drewN ?_ _ | refine blk_drew ?_ | refine blk_alloc ?_ _)); exact BK417.out) hb); have n1_ := Aside0.mk (below_step (by repeat (first | (with_reducible first | exact HB.out | apply below_alloc | apply pw_below_drewN | apply below_drew1 | refine below_set ?_ GE417.out) | exact HB.out)) hb); clear BK417; clear HB; have BK417 := n0_; have HB := n1_; clear n0_ n1_; (try clear hb); (try clear hb2); (try clear hk); (try clear hi); have hcz14_0 : w13.cell? ⟨gb417, 0, none⟩ = some (.slice A0_0 l0_0.length c0_0) := (blk_cell BK417.out 0).trans rfl; have hcz14_1 : w13.cell? ⟨gb417, 1, none⟩ = some (.slice A0_1 l0_1.length c0_1) := (blk_cell BK417.out 1).trans rfl; have hcz14_2 : w13.cell? ⟨gb417, 2, none⟩ = some (.slice A0_2 l0_2.length c0_2) := (blk_cell BK417.out 2).trans rfl; have hcz14_3 : w13.cell? ⟨gb417, 3, none⟩ = some (.float .f64 a0_3) := (blk_cell BK417.out 3).trans rfl; have hcz14_4 : w13.cell? ⟨gb417, 4, none⟩ = some (.int .i64 a0_4) := (blk_cell BK417.out 4).trans rfl; have hcz14_5 : w13.cell? ⟨gb417, 5, none⟩ = some (.int .i64 a0_5) := (blk_cell BK417.out 5).trans rfl; have hcz14_6 : w13.cell? ⟨gb417, 6, none⟩ = some (.int .i64 a0_6) := (blk_cell BK417.out 6).trans rfl; have hcz14_7 : w13.cell? ⟨gb417, 7, none⟩ = some (.int .i64 a0_7) := (blk_cell BK417.out 7).trans rfl; have hcz14_8 : w13.cell? ⟨gb417, 8, none⟩ = some (.int .i64 a0_8) := (blk_cell BK417.out 8).trans rfl; have hcz14_9 : w13.cell? ⟨gb417, 9, none⟩ = some (.int .i64 a0_9) := (blk_cell BK417.out 9).trans rfl; have hcz14_10 : w13.cell? ⟨gb417, 10, none⟩ = some (.int .i64 a0_10) := (blk_cell BK417.out 10).trans rfl; have hcz14_11 : w13.cell? ⟨gb417, 11, none⟩ = some (.int .i64 a0_11) := (blk_cell BK417.out 11).trans rfl; have hcz14_12 : w13.cell? ⟨gb417, 12, none⟩ = some (.int .i64 a0_12) := (blk_cell BK417.out 12).trans rfl; have hcz14_13 : w13.cell? ⟨gb417, 13, none⟩ = some (.int .i64 a0_13) := (blk_cell BK417.out 13).trans rfl; have hfz14_0 := blk_frozen BK417.out 0; have hfz14_1 := blk_frozen BK417.out 1; have hfz14_2 := blk_frozen BK417.out 2; have hfz14_3 := blk_frozen BK417.out 3; have hfz14_4 := blk_frozen BK417.out 4; have hfz14_5 := blk_frozen BK417.out 5; have hfz14_6 := blk_frozen BK417.out 6; have hfz14_7 := blk_frozen BK417.out 7; have hfz14_8 := blk_frozen BK417.out 8; have hfz14_9 := blk_frozen BK417.out 9; have hfz14_10 := blk_frozen BK417.out 10; have hfz14_11 := blk_frozen BK417.out 11; have hfz14_12 := blk_frozen BK417.out 12; have hfz14_13 := blk_frozen BK417.out 13) | ((with_reducible refine gate_callee (f := 79) rfl ?_); refine goesL_ (some 18) rfl rfl Try.func79 (by kernel_rfl) rfl #[.slice A0_1 l0_1.length c0_1, .int .i64 t418] rfl (by (try simp only [List.map_toArray, List.map_cons, List.map_nil]); first | done | rfl | (simp only [List.length_drop, List.length_take]; rfl)) ?_; (with_reducible refine (fareboxref07_spans.calls k _ _ l0_1 t418 true _ ?side1 ?side2 A4.out).mono ?_); (case side1 => repeat (first | exact (Kd.C_below HR0_1.out HB.out) | (with_reducible refine Kd.C_alloc ?_ _) | (with_reducible refine Kd.C_drewN ?_ _) | (with_reducible refine Kd.C_drew ?_))); (case side2 => exact HC0_1.out); rintro e w' ⟨rfl, ⟨nd, rfl⟩⟩; refine ⟨_, rfl, ?_⟩) | ((with_reducible refine gate_callee (f := 80) rfl ?_); refine goesL_ (some 22) rfl rfl Try.func80 (by kernel_rfl) rfl #[.agg #[.slice A0_0 l0_0.length c0_0, .slice A0_1 l0_1.length c0_1, .slice A0_2 l0_2.length c0_2, .float .f64 a0_3, .int .i64 a0_4, .int .i64 a0_5, .int .i64 a0_6, .int .i64 a0_7, .int .i64 a0_8, .int .i64 a0_9, .int .i64 a0_10, .int .i64 a0_11, .int .i64 a0_12, .int .i64 a0_13]] rfl (by (try simp only [List.map_toArray, List.map_cons, List.map_nil]); first | done | rfl | (simp only [List.length_drop, List.length_take]; rfl)) ?_; (with_reducible refine (fareboxref07_prices.calls k _ _ l0_0 _ _ l0_1 _ _ l0_2 a0_3 a0_4 a0_5 a0_6 a0_7 a0_8 a0_9 a0_10 a0_11 a0_12 a0_13 true _ ?side1 ?side2 ?side3 ?side4 ?side5 ?side6 A6.out).mono ?_); (case side1 => repeat (first | exact (Kd.C_below HR0_0.out (by repeat (first | (with_reducible first | exact HB.out | apply below_alloc | apply pw_below_drewN | apply below_drew1 | refine below_set ?_ GE417.out) | exact HB.out))) | (with_reducible refine Kd.C_alloc ?_ _) | (with_reducible refine Kd.C_drewN ?_ _) | (with_reducible refine Kd.C_drew ?_))); (case side2 => exact HC0_0.out); (case side3 => repeat (first | exact (Kd.C_below HR0_1.out (by repeat (first | (with_reducible first | exact HB.out | apply below_alloc | apply pw_below_drewN | apply below_drew1 | refine below_set ?_ GE417.out) | exact HB.out))) | (with_reducible refine Kd.C_alloc ?_ _) | (with_reducible refine Kd.C_drewN ?_ _) | (with_reducible refine Kd.C_drew ?_))); (case side4 => exact HC0_1.out); (case side5 => repeat (first | exact (Kd.C_below HR0_2.out (by repeat (first | (with_reducible first | exact HB.out | apply below_alloc | apply pw_below_drewN | apply below_drew1 | refine below_set ?_ GE417.out) | exact HB.out))) | (with_reducible refine Kd.C_alloc ?_ _) | (with_reducible refine Kd.C_drewN ?_ _) | (with_reducible refine Kd.C_drew ?_))); (case side6 => exact HC0_2.out); rintro e w15 ⟨rfl, hb⟩; refine ⟨_, rfl, ?_⟩; have n0_ := Aside0.mk (blk_below (g := gb417) (o := .cells #[.slice A0_0 l0_0.length c0_0, .slice A0_1 l0_1.length c0_1, .slice A0_2 l0_2.length c0_2, .float .f64 a0_3, .int .i64 a0_4, .int .i64 a0_5, .int .i64 a0_6, .int .i64 a0_7, .int .i64 a0_8, .int .i64 a0_9, .int .i64 a0_10, .int .i64 a0_11, .int .i64 a0_12, .int .i64 a0_13] 27 (0, 0)) (by (with_reducible repeat (first | refine blk_drewN ?_ _ | refine blk_drew ?_ | refine blk_alloc ?_ _)); exact BK417.out) hb); have n1_ := Aside0.mk (below_step (by repeat (first | (with_reducible first | exact HB.out | apply below_alloc | apply pw_below_drewN | apply below_drew1 | refine below_set ?_ GE417.out) | exact HB.out)) hb); clear BK417; clear HB; have BK417 := n0_; have HB := n1_; clear n0_ n1_; (try clear hb); (try clear hb2); (try clear hk); (try clear hi); have hcz16_0 : w15.cell? ⟨gb417, 0, none⟩ = some (.slice A0_0 l0_0.length c0_0) := (blk_cell BK417.out 0).trans rfl; have hcz16_1 : w15.cell? ⟨gb417, 1, none⟩ = some (.slice A0_1 l0_1.length c0_1) := (blk_cell BK417.out 1).trans rfl; have hcz16_2 : w15.cell? ⟨gb417, 2, none⟩ = some (.slice A0_2 l0_2.length c0_2) := (blk_cell BK417.out 2).trans rfl; have hcz16_3 : w15.cell? ⟨gb417, 3, none⟩ = some (.float .f64 a0_3) := (blk_cell BK417.out 3).trans rfl; have hcz16_4 : w15.cell? ⟨gb417, 4, none⟩ = some (.int .i64 a0_4) := (blk_cell BK417.out 4).trans rfl; have hcz16_5 : w15.cell? ⟨gb417, 5, none⟩ = some (.int .i64 a0_5) := (blk_cell BK417.out 5).trans rfl; have hcz16_6 : w15.cell? ⟨gb417, 6, none⟩ = some (.int .i64 a0_6) := (blk_cell BK417.out 6).trans rfl; have hcz16_7 : w15.cell? ⟨gb417, 7, none⟩ = some (.int .i64 a0_7) := (blk_cell BK417.out 7).trans rfl; have hcz16_8 : w15.cell? ⟨gb417, 8, none⟩ = some (.int .i64 a0_8) := (blk_cell BK417.out 8).trans rfl; have hcz16_9 : w15.cell? ⟨gb417, 9, none⟩ = some (.int .i64 a0_9) := (blk_cell BK417.out 9).trans rfl; have hcz16_10 : w15.cell? ⟨gb417, 10, none⟩ = some (.int .i64 a0_10) := (blk_cell BK417.out 10).trans rfl; have hcz16_11 : w15.cell? ⟨gb417, 11, none⟩ = some (.int .i64 a0_11) := (blk_cell BK417.out 11).trans rfl; have hcz16_12 : w15.cell? ⟨gb417, 12, none⟩ = some (.int .i64 a0_12) := (blk_cell BK417.out 12).trans rfl; have hcz16_13 : w15.cell? ⟨gb417, 13, none⟩ = some (.int .i64 a0_13) := (blk_cell BK417.out 13).trans rfl; have hfz16_0 := blk_frozen BK417.out 0; have hfz16_1 := blk_frozen BK417.out 1; have hfz16_2 := blk_frozen BK417.out 2; have hfz16_3 := blk_frozen BK417.out 3; have hfz16_4 := blk_frozen BK417.out 4; have hfz16_5 := blk_frozen BK417.out 5; have hfz16_6 := blk_frozen BK417.out 6; have hfz16_7 := blk_frozen BK417.out 7; have hfz16_8 := blk_frozen BK417.out 8; have hfz16_9 := blk_frozen BK417.out 9; have hfz16_10 := blk_frozen BK417.out 10; have hfz16_11 := blk_frozen BK417.out 11; have hfz16_12 := blk_frozen BK417.out 12; have hfz16_13 := blk_frozen BK417.out 13) | ((with_reducible refine gate_callee (f := 81) rfl ?_); refine goesL_ (some 27) rfl rfl Try.func81 (by kernel_rfl) rfl #[.slice A0_1 l0_1.length c0_1] rfl (by (try simp only [List.map_toArray, List.map_cons, List.map_nil]); first | done | rfl | (simp only [List.length_drop, List.length_take]; rfl)) ?_; (with_reducible refine (fareboxref07_wider.calls k _ _ l0_1 t422 _ ?side1 ?side2 A8.out).mono ?_); (case side1 => repeat (first | exact (Kd.C_below HR0_1.out HB.out) | (with_reducible refine Kd.C_alloc ?_ _) | (with_reducible refine Kd.C_drewN ?_ _) | (with_reducible refine Kd.C_drew ?_))); (case side2 => exact HC0_1.out); rintro e w17 ⟨rfl, hb⟩; refine ⟨_, rfl, ?_⟩; have n0_ := Aside0.mk (blk_below (g := gb417) (o := .cells #[.slice A0_0 l0_0.length c0_0, .slice A0_1 l0_1.length c0_1, .slice A0_2 l0_2.length c0_2, .float .f64 a0_3, .int .i64 a0_4, .int .i64 a0_5, .int .i64 a0_6, .int .i64 a0_7, .int .i64 a0_8, .int .i64 a0_9, .int .i64 a0_10, .int .i64 a0_11, .int .i64 a0_12, .int .i64 a0_13] 27 (0, 0)) (by (with_reducible repeat (first | refine blk_drewN ?_ _ | refine blk_drew ?_ | refine blk_alloc ?_ _)); exact BK417.out) hb); have n1_ := Aside0.mk (below_step (by repeat (first | (with_reducible first | exact HB.out | apply below_alloc | apply pw_below_drewN | apply below_drew1 | refine below_set ?_ GE417.out) | exact HB.out)) hb); clear BK417; clear HB; have BK417 := n0_; have HB := n1_; clear n0_ n1_; (try clear hb); (try clear hb2); (try clear hk); (try clear hi); have hcz18_0 : w17.cell? ⟨gb417, 0, none⟩ = some (.slice A0_0 l0_0.length c0_0) := (blk_cell BK417.out 0).trans rfl; have hcz18_1 : w17.cell? ⟨gb417, 1, none⟩ = some (.slice A0_1 l0_1.length c0_1) := (blk_cell BK417.out 1).trans rfl; have hcz18_2 : w17.cell? ⟨gb417, 2, none⟩ = some (.slice A0_2 l0_2.length c0_2) := (blk_cell BK417.out 2).trans rfl; have hcz18_3 : w17.cell? ⟨gb417, 3, none⟩ = some (.float .f64 a0_3) := (blk_cell BK417.out 3).trans rfl; have hcz18_4 : w17.cell? ⟨gb417, 4, none⟩ = some (.int .i64 a0_4) := (blk_cell BK417.out 4).trans rfl; have hcz18_5 : w17.cell? ⟨gb417, 5, none⟩ = some (.int .i64 a0_5) := (blk_cell BK417.out 5).trans rfl; have hcz18_6 : w17.cell? ⟨gb417, 6, none⟩ = some (.int .i64 a0_6) := (blk_cell BK417.out 6).trans rfl; have hcz18_7 : w17.cell? ⟨gb417, 7, none⟩ = some (.int .i64 a0_7) := (blk_cell BK417.out 7).trans rfl; have hcz18_8 : w17.cell? ⟨gb417, 8, none⟩ = some (.int .i64 a0_8) := (blk_cell BK417.out 8).trans rfl; have hcz18_9 : w17.cell? ⟨gb417, 9, none⟩ = some (.int .i64 a0_9) := (blk_cell BK417.out 9).trans rfl; have hcz18_10 : w17.cell? ⟨gb417, 10, none⟩ = some (.int .i64 a0_10) := (blk_cell BK417.out 10).trans rfl; have hcz18_11 : w17.cell? ⟨gb417, 11, none⟩ = some (.int .i64 a0_11) := (blk_cell BK417.out 11).trans rfl; have hcz18_12 : w17.cell? ⟨gb417, 12, none⟩ = some (.int .i64 a0_12) := (blk_cell BK417.out 12).trans rfl; have hcz18_13 : w17.cell? ⟨gb417, 13, none⟩ = some (.int .i64 a0_13) := (blk_cell BK417.out 13).trans rfl; have hfz18_0 := blk_frozen BK417.out 0; have hfz18_1 := blk_frozen BK417.out 1; have hfz18_2 := blk_frozen BK417.out 2; have hfz18_3 := blk_frozen BK417.out 3; have hfz18_4 := blk_frozen BK417.out 4; have hfz18_5 := blk_frozen BK417.out 5; have hfz18_6 := blk_frozen BK417.out 6; have hfz18_7 := blk_frozen BK417.out 7; have hfz18_8 := blk_frozen BK417.out 8; have hfz18_9 := blk_frozen BK417.out 9; have hfz18_10 := blk_frozen BK417.out 10; have hfz18_11 := blk_frozen BK417.out 11; have hfz18_12 := blk_frozen BK417.out 12; have hfz18_13 := blk_frozen BK417.out 13) | ((with_reducible refine gate_callee (f := 82) rfl ?_); refine goesL_ (some 30) rfl rfl Try.func82 (by kernel_rfl) rfl #[.slice A0_2 l0_2.length c0_2] rfl (by (try simp only [List.map_toArray, List.map_cons, List.map_nil]); first | done | rfl | (simp only [List.length_drop, List.length_take]; rfl)) ?_; (with_reducible refine (fareboxref07_bands.calls k _ _ l0_2 t423 _ ?side1 ?side2 A9.out).mono ?_); (case side1 => repeat (first | exact (Kd.C_below HR0_2.out HB.out) | (with_reducible refine Kd.C_alloc ?_ _) | (with_reducible refine Kd.C_drewN ?_ _) | (with_reducible refine Kd.C_drew ?_))); (case side2 => exact HC0_2.out); rintro e w' ⟨rfl, ⟨nd, rfl⟩⟩; refine ⟨_, rfl, ?_⟩))
        (try simp only [Act.put, List.setIfInBounds_toArray, List.set_cons_zero, List.set_cons_succ])
        go_cut [36] (fun v36 wc => ∃ (kq : Nat) (x36_9 : Bool), v36 = .bool x36_9 ∧ Aside0 (fareboxref07_Right.j0 kq x36_9 l0_0 l0_1 l0_2 a0_3 a0_4 a0_5 a0_6 a0_7 a0_8 a0_9 a0_10 a0_11 a0_12 a0_13 = some r) ∧ Aside0 (kq ≤ k) ∧ Aside0 (wc.heap[gb417]? = some (.cells #[(.slice A0_0 l0_0.length c0_0), (.slice A0_1 l0_1.length c0_1), (.slice A0_2 l0_2.length c0_2), .float .f64 a0_3, .int .i64 a0_4, .int .i64 a0_5, .int .i64 a0_6, .int .i64 a0_7, .int .i64 a0_8, .int .i64 a0_9, .int .i64 a0_10, .int .i64 a0_11, .int .i64 a0_12, .int .i64 a0_13] 27 (0, 0))) ∧ Aside0 (Below w.heap.size w wc))
        case first =>
          have H := HC10.out
          clear HC10
          by_cases c19 : t422 = true
          · subst c19
            have H1 : (fareboxref07_Right.j0 k (!t423) l0_0 l0_1 l0_2 a0_3 a0_4 a0_5 a0_6 a0_7 a0_8 a0_9 a0_10 a0_11 a0_12 a0_13) = some r := by rw [if_pos rfl] at H; exact H
            clear H
            have H := H1
            clear H1
            have H' := Aside0.mk H
            clear H
            go_wp2
            go_meet
            case rel => exact ⟨_, (!t423), (by first | rfl | (simp; done) | (simp [*]; done)), H', ⟨by first | omega | exact Nat.le_refl _⟩, ⟨by (with_reducible repeat (first | refine blk_drewN ?_ _ | refine blk_drew ?_ | refine blk_alloc ?_ _)); exact BK417.out⟩, ⟨by repeat (first | (with_reducible first | exact HB.out | apply below_alloc | apply pw_below_drewN | apply below_drew1 | refine below_set ?_ GE417.out) | exact HB.out)⟩⟩
          · replace c19 := Bool.eq_false_iff.mpr c19
            subst c19
            have H1 : (fareboxref07_Right.j0 k true l0_0 l0_1 l0_2 a0_3 a0_4 a0_5 a0_6 a0_7 a0_8 a0_9 a0_10 a0_11 a0_12 a0_13) = some r := by rw [if_neg (show ¬ (false = true) by decide)] at H; exact H
            clear H
            have H := H1
            clear H1
            have H' := Aside0.mk H
            clear H
            go_wp2
            go_meet
            case rel => exact ⟨_, (true), (by first | rfl | (simp; done) | (simp [*]; done)), H', ⟨by first | omega | exact Nat.le_refl _⟩, ⟨by (with_reducible repeat (first | refine blk_drewN ?_ _ | refine blk_drew ?_ | refine blk_alloc ?_ _)); exact BK417.out⟩, ⟨by repeat (first | (with_reducible first | exact HB.out | apply below_alloc | apply pw_below_drewN | apply below_drew1 | refine below_set ?_ GE417.out) | exact HB.out)⟩⟩
        case rest =>
          clear HC10
          try clear c1
          try clear p2
          try clear c3
          try clear c5
          try clear c7
          try clear c8
          try clear c19
          try clear hcz12_0
          try clear hcz12_1
          try clear hcz12_10
          try clear hcz12_11
          try clear hcz12_12
          try clear hcz12_13
          try clear hcz12_2
          try clear hcz12_3
          try clear hcz12_4
          try clear hcz12_5
          try clear hcz12_6
          try clear hcz12_7
          try clear hcz12_8
          try clear hcz12_9
          try clear hcz14_0
          try clear hcz14_1
          try clear hcz14_10
          try clear hcz14_11
          try clear hcz14_12
          try clear hcz14_13
          try clear hcz14_2
          try clear hcz14_3
          try clear hcz14_4
          try clear hcz14_5
          try clear hcz14_6
          try clear hcz14_7
          try clear hcz14_8
          try clear hcz14_9
          try clear hcz16_0
          try clear hcz16_1
          try clear hcz16_10
          try clear hcz16_11
          try clear hcz16_12
          try clear hcz16_13
          try clear hcz16_2
          try clear hcz16_3
          try clear hcz16_4
          try clear hcz16_5
          try clear hcz16_6
          try clear hcz16_7
          try clear hcz16_8
          try clear hcz16_9
          try clear hcz18_0
          try clear hcz18_1
          try clear hcz18_10
          try clear hcz18_11
          try clear hcz18_12
          try clear hcz18_13
          try clear hcz18_2
          try clear hcz18_3
          try clear hcz18_4
          try clear hcz18_5
          try clear hcz18_6
          try clear hcz18_7
          try clear hcz18_8
          try clear hcz18_9
          try clear hfz12_0
          try clear hfz12_1
          try clear hfz12_10
          try clear hfz12_11
          try clear hfz12_12
          try clear hfz12_13
          try clear hfz12_2
          try clear hfz12_3
          try clear hfz12_4
          try clear hfz12_5
          try clear hfz12_6
          try clear hfz12_7
          try clear hfz12_8
          try clear hfz12_9
          try clear hfz14_0
          try clear hfz14_1
          try clear hfz14_10
          try clear hfz14_11
          try clear hfz14_12
          try clear hfz14_13
          try clear hfz14_2
          try clear hfz14_3
          try clear hfz14_4
          try clear hfz14_5
          try clear hfz14_6
          try clear hfz14_7
          try clear hfz14_8
          try clear hfz14_9
          try clear hfz16_0
          try clear hfz16_1
          try clear hfz16_10
          try clear hfz16_11
          try clear hfz16_12
          try clear hfz16_13
          try clear hfz16_2
          try clear hfz16_3
          try clear hfz16_4
          try clear hfz16_5
          try clear hfz16_6
          try clear hfz16_7
          try clear hfz16_8
          try clear hfz16_9
          try clear hfz18_0
          try clear hfz18_1
          try clear hfz18_10
          try clear hfz18_11
          try clear hfz18_12
          try clear hfz18_13
          try clear hfz18_2
          try clear hfz18_3
          try clear hfz18_4
          try clear hfz18_5
          try clear hfz18_6
          try clear hfz18_7
          try clear hfz18_8
          try clear hfz18_9
          obtain ⟨kq, x36_9, rfl, HA, HJ9, BK417, HB⟩ := hcut
          cases kq with
          | zero => exact absurd HA.out (by simp [fareboxref07_Right.j0])
          | succ kj9 =>
            have H := HA.out
            clear HA
            simp only [fareboxref07_Right.j0] at H
            by_cases c20 : x36_9 = true
            · subst c20
              have H1 : (some 70) = some r := by rw [if_pos rfl] at H; exact H
              clear H
              have H := H1
              clear H1
              obtain rfl := Option.some.inj H
              go_wp2
              go_ret
              exact ⟨by first | rfl | (simp [errW_none, errW_some] <;> rfl) | (simp [*, errW_none, errW_some] <;> rfl), by repeat (first | (with_reducible first | exact HB.out | apply below_alloc | apply pw_below_drewN | apply below_drew1 | refine below_set ?_ GE417.out) | exact HB.out)⟩
            · replace c20 := Bool.eq_false_iff.mpr c20
              subst c20
              have H1 : ((fareboxref05_Rate.f a0_3).bind fun t424 => (if t424 = true then ((fareboxref07_minutes.f a0_9 1).bind fun t425 => (if t425 = true then ((fareboxref07_minutes.f a0_7 0).bind fun t426 => (if t426 = true then ((fareboxref07_minutes.f a0_10 0).bind fun t427 => (if t427 = true then ((fareboxref07_minutes.f a0_11 0).bind fun t428 => (if t428 = true then ((fareboxref07_minutes.f a0_12 0).bind fun t429 => (if t429 = true then (some 0) else (some 70))) else (some 70))) else (some 70))) else (some 70))) else (some 70))) else (some 51))) = some r := by rw [if_neg (show ¬ (false = true) by decide)] at H; exact H
              clear H
              have H := H1
              clear H1
              replace H := Option.bind_eq_some_iff.mp H
              obtain ⟨t424, A210, H⟩ := H
              replace H : (if t424 = true then ((fareboxref07_minutes.f a0_9 1).bind fun t425 => (if t425 = true then ((fareboxref07_minutes.f a0_7 0).bind fun t426 => (if t426 = true then ((fareboxref07_minutes.f a0_10 0).bind fun t427 => (if t427 = true then ((fareboxref07_minutes.f a0_11 0).bind fun t428 => (if t428 = true then ((fareboxref07_minutes.f a0_12 0).bind fun t429 => (if t429 = true then (some 0) else (some 70))) else (some 70))) else (some 70))) else (some 70))) else (some 70))) else (some 51)) = some r := H
              have A21 := Aside0.mk A210
              clear A210
              by_cases c22 : t424 = true
              · subst c22
                have H1 : ((fareboxref07_minutes.f a0_9 1).bind fun t425 => (if t425 = true then ((fareboxref07_minutes.f a0_7 0).bind fun t426 => (if t426 = true then ((fareboxref07_minutes.f a0_10 0).bind fun t427 => (if t427 = true then ((fareboxref07_minutes.f a0_11 0).bind fun t428 => (if t428 = true then ((fareboxref07_minutes.f a0_12 0).bind fun t429 => (if t429 = true then (some 0) else (some 70))) else (some 70))) else (some 70))) else (some 70))) else (some 70))) = some r := by rw [if_pos rfl] at H; exact H
                clear H
                have H := H1
                clear H1
                replace H := Option.bind_eq_some_iff.mp H
                obtain ⟨t425, A230, H⟩ := H
                replace H : (if t425 = true then ((fareboxref07_minutes.f a0_7 0).bind fun t426 => (if t426 = true then ((fareboxref07_minutes.f a0_10 0).bind fun t427 => (if t427 = true then ((fareboxref07_minutes.f a0_11 0).bind fun t428 => (if t428 = true then ((fareboxref07_minutes.f a0_12 0).bind fun t429 => (if t429 = true then (some 0) else (some 70))) else (some 70))) else (some 70))) else (some 70))) else (some 70)) = some r := H
                have A23 := Aside0.mk A230
                clear A230
                by_cases c24 : t425 = true
                · subst c24
                  have H1 : ((fareboxref07_minutes.f a0_7 0).bind fun t426 => (if t426 = true then ((fareboxref07_minutes.f a0_10 0).bind fun t427 => (if t427 = true then ((fareboxref07_minutes.f a0_11 0).bind fun t428 => (if t428 = true then ((fareboxref07_minutes.f a0_12 0).bind fun t429 => (if t429 = true then (some 0) else (some 70))) else (some 70))) else (some 70))) else (some 70))) = some r := by rw [if_pos rfl] at H; exact H
                  clear H
                  have H := H1
                  clear H1
                  replace H := Option.bind_eq_some_iff.mp H
                  obtain ⟨t426, A250, H⟩ := H
                  replace H : (if t426 = true then ((fareboxref07_minutes.f a0_10 0).bind fun t427 => (if t427 = true then ((fareboxref07_minutes.f a0_11 0).bind fun t428 => (if t428 = true then ((fareboxref07_minutes.f a0_12 0).bind fun t429 => (if t429 = true then (some 0) else (some 70))) else (some 70))) else (some 70))) else (some 70)) = some r := H
                  have A25 := Aside0.mk A250
                  clear A250
                  by_cases c26 : t426 = true
                  · subst c26
                    have H1 : ((fareboxref07_minutes.f a0_10 0).bind fun t427 => (if t427 = true then ((fareboxref07_minutes.f a0_11 0).bind fun t428 => (if t428 = true then ((fareboxref07_minutes.f a0_12 0).bind fun t429 => (if t429 = true then (some 0) else (some 70))) else (some 70))) else (some 70))) = some r := by rw [if_pos rfl] at H; exact H
                    clear H
                    have H := H1
                    clear H1
                    replace H := Option.bind_eq_some_iff.mp H
                    obtain ⟨t427, A270, H⟩ := H
                    replace H : (if t427 = true then ((fareboxref07_minutes.f a0_11 0).bind fun t428 => (if t428 = true then ((fareboxref07_minutes.f a0_12 0).bind fun t429 => (if t429 = true then (some 0) else (some 70))) else (some 70))) else (some 70)) = some r := H
                    have A27 := Aside0.mk A270
                    clear A270
                    by_cases c28 : t427 = true
                    · subst c28
                      have H1 : ((fareboxref07_minutes.f a0_11 0).bind fun t428 => (if t428 = true then ((fareboxref07_minutes.f a0_12 0).bind fun t429 => (if t429 = true then (some 0) else (some 70))) else (some 70))) = some r := by rw [if_pos rfl] at H; exact H
                      clear H
                      have H := H1
                      clear H1
                      replace H := Option.bind_eq_some_iff.mp H
                      obtain ⟨t428, A290, H⟩ := H
                      replace H : (if t428 = true then ((fareboxref07_minutes.f a0_12 0).bind fun t429 => (if t429 = true then (some 0) else (some 70))) else (some 70)) = some r := H
                      have A29 := Aside0.mk A290
                      clear A290
                      by_cases c30 : t428 = true
                      · subst c30
                        have H1 : ((fareboxref07_minutes.f a0_12 0).bind fun t429 => (if t429 = true then (some 0) else (some 70))) = some r := by rw [if_pos rfl] at H; exact H
                        clear H
                        have H := H1
                        clear H1
                        replace H := Option.bind_eq_some_iff.mp H
                        obtain ⟨t429, A310, H⟩ := H
                        replace H : (if t429 = true then (some 0) else (some 70)) = some r := H
                        have A31 := Aside0.mk A310
                        clear A310
                        by_cases c32 : t429 = true
                        · subst c32
                          have H1 : (some 0) = some r := by rw [if_pos rfl] at H; exact H
                          clear H
                          have H := H1
                          clear H1
                          obtain rfl := Option.some.inj H
                          have hcz33_0 : wc.cell? ⟨gb417, 0, none⟩ = some (.slice A0_0 l0_0.length c0_0) := (blk_cell BK417.out 0).trans rfl
                          have hcz33_1 : wc.cell? ⟨gb417, 1, none⟩ = some (.slice A0_1 l0_1.length c0_1) := (blk_cell BK417.out 1).trans rfl
                          have hcz33_2 : wc.cell? ⟨gb417, 2, none⟩ = some (.slice A0_2 l0_2.length c0_2) := (blk_cell BK417.out 2).trans rfl
                          have hcz33_3 : wc.cell? ⟨gb417, 3, none⟩ = some (.float .f64 a0_3) := (blk_cell BK417.out 3).trans rfl
                          have hcz33_4 : wc.cell? ⟨gb417, 4, none⟩ = some (.int .i64 a0_4) := (blk_cell BK417.out 4).trans rfl
                          have hcz33_5 : wc.cell? ⟨gb417, 5, none⟩ = some (.int .i64 a0_5) := (blk_cell BK417.out 5).trans rfl
                          have hcz33_6 : wc.cell? ⟨gb417, 6, none⟩ = some (.int .i64 a0_6) := (blk_cell BK417.out 6).trans rfl
                          have hcz33_7 : wc.cell? ⟨gb417, 7, none⟩ = some (.int .i64 a0_7) := (blk_cell BK417.out 7).trans rfl
                          have hcz33_8 : wc.cell? ⟨gb417, 8, none⟩ = some (.int .i64 a0_8) := (blk_cell BK417.out 8).trans rfl
                          have hcz33_9 : wc.cell? ⟨gb417, 9, none⟩ = some (.int .i64 a0_9) := (blk_cell BK417.out 9).trans rfl
                          have hcz33_10 : wc.cell? ⟨gb417, 10, none⟩ = some (.int .i64 a0_10) := (blk_cell BK417.out 10).trans rfl
                          have hcz33_11 : wc.cell? ⟨gb417, 11, none⟩ = some (.int .i64 a0_11) := (blk_cell BK417.out 11).trans rfl
                          have hcz33_12 : wc.cell? ⟨gb417, 12, none⟩ = some (.int .i64 a0_12) := (blk_cell BK417.out 12).trans rfl
                          have hcz33_13 : wc.cell? ⟨gb417, 13, none⟩ = some (.int .i64 a0_13) := (blk_cell BK417.out 13).trans rfl
                          have hfz33_0 := blk_frozen BK417.out 0
                          have hfz33_1 := blk_frozen BK417.out 1
                          have hfz33_2 := blk_frozen BK417.out 2
                          have hfz33_3 := blk_frozen BK417.out 3
                          have hfz33_4 := blk_frozen BK417.out 4
                          have hfz33_5 := blk_frozen BK417.out 5
                          have hfz33_6 := blk_frozen BK417.out 6
                          have hfz33_7 := blk_frozen BK417.out 7
                          have hfz33_8 := blk_frozen BK417.out 8
                          have hfz33_9 := blk_frozen BK417.out 9
                          have hfz33_10 := blk_frozen BK417.out 10
                          have hfz33_11 := blk_frozen BK417.out 11
                          have hfz33_12 := blk_frozen BK417.out 12
                          have hfz33_13 := blk_frozen BK417.out 13
                          go_wp2_with (first | ((with_reducible refine gate_callee (f := 83) rfl ?_); refine goesL_ (some 39) rfl rfl Try.func83 (by kernel_rfl) rfl #[.float .f64 a0_3] rfl (by (try simp only [List.map_toArray, List.map_cons, List.map_nil]); first | done | rfl | (simp only [List.length_drop, List.length_take]; rfl)) ?_; (with_reducible refine (fareboxref05_Rate.calls a0_3 true _ A21.out).mono ?_); rintro e w' ⟨rfl, ⟨nd, rfl⟩⟩; refine ⟨_, rfl, ?_⟩) | ((with_reducible refine gate_callee (f := 84) rfl ?_); refine goesL_ (some 44) rfl rfl Try.func84 (by kernel_rfl) rfl #[.int .i64 a0_9, .int .i64 1] rfl (by (try simp only [List.map_toArray, List.map_cons, List.map_nil]); first | done | rfl | (simp only [List.length_drop, List.length_take]; rfl)) ?_; (with_reducible refine (fareboxref07_minutes.calls a0_9 1 true _ A23.out).mono ?_); rintro e w' ⟨rfl, ⟨nd, rfl⟩⟩; refine ⟨_, rfl, ?_⟩) | (go_at_call 84; (with_reducible refine (fareboxref07_minutes.calls a0_7 0 true _ A25.out).mono ?_); rintro e w' ⟨rfl, ⟨nd, rfl⟩⟩) | (go_at_call 84; (with_reducible refine (fareboxref07_minutes.calls a0_10 0 true _ A27.out).mono ?_); rintro e w' ⟨rfl, ⟨nd, rfl⟩⟩) | (go_at_call 84; (with_reducible refine (fareboxref07_minutes.calls a0_11 0 true _ A29.out).mono ?_); rintro e w' ⟨rfl, ⟨nd, rfl⟩⟩) | (go_at_call 84; (with_reducible refine (fareboxref07_minutes.calls a0_12 0 true _ A31.out).mono ?_); rintro e w' ⟨rfl, ⟨nd, rfl⟩⟩))
                          go_ret
                          exact ⟨by first | rfl | (simp [errW_none, errW_some] <;> rfl) | (simp [*, errW_none, errW_some] <;> rfl), by repeat (first | (with_reducible first | exact HB.out | apply below_alloc | apply pw_below_drewN | apply below_drew1 | refine below_set ?_ GE417.out) | exact HB.out)⟩
                        · replace c32 := Bool.eq_false_iff.mpr c32
                          subst c32
                          have H1 : (some 70) = some r := by rw [if_neg (show ¬ (false = true) by decide)] at H; exact H
                          clear H
                          have H := H1
                          clear H1
                          obtain rfl := Option.some.inj H
                          have hcz34_0 : wc.cell? ⟨gb417, 0, none⟩ = some (.slice A0_0 l0_0.length c0_0) := (blk_cell BK417.out 0).trans rfl
                          have hcz34_1 : wc.cell? ⟨gb417, 1, none⟩ = some (.slice A0_1 l0_1.length c0_1) := (blk_cell BK417.out 1).trans rfl
                          have hcz34_2 : wc.cell? ⟨gb417, 2, none⟩ = some (.slice A0_2 l0_2.length c0_2) := (blk_cell BK417.out 2).trans rfl
                          have hcz34_3 : wc.cell? ⟨gb417, 3, none⟩ = some (.float .f64 a0_3) := (blk_cell BK417.out 3).trans rfl
                          have hcz34_4 : wc.cell? ⟨gb417, 4, none⟩ = some (.int .i64 a0_4) := (blk_cell BK417.out 4).trans rfl
                          have hcz34_5 : wc.cell? ⟨gb417, 5, none⟩ = some (.int .i64 a0_5) := (blk_cell BK417.out 5).trans rfl
                          have hcz34_6 : wc.cell? ⟨gb417, 6, none⟩ = some (.int .i64 a0_6) := (blk_cell BK417.out 6).trans rfl
                          have hcz34_7 : wc.cell? ⟨gb417, 7, none⟩ = some (.int .i64 a0_7) := (blk_cell BK417.out 7).trans rfl
                          have hcz34_8 : wc.cell? ⟨gb417, 8, none⟩ = some (.int .i64 a0_8) := (blk_cell BK417.out 8).trans rfl
                          have hcz34_9 : wc.cell? ⟨gb417, 9, none⟩ = some (.int .i64 a0_9) := (blk_cell BK417.out 9).trans rfl
                          have hcz34_10 : wc.cell? ⟨gb417, 10, none⟩ = some (.int .i64 a0_10) := (blk_cell BK417.out 10).trans rfl
                          have hcz34_11 : wc.cell? ⟨gb417, 11, none⟩ = some (.int .i64 a0_11) := (blk_cell BK417.out 11).trans rfl
                          have hcz34_12 : wc.cell? ⟨gb417, 12, none⟩ = some (.int .i64 a0_12) := (blk_cell BK417.out 12).trans rfl
                          have hcz34_13 : wc.cell? ⟨gb417, 13, none⟩ = some (.int .i64 a0_13) := (blk_cell BK417.out 13).trans rfl
                          have hfz34_0 := blk_frozen BK417.out 0
                          have hfz34_1 := blk_frozen BK417.out 1
                          have hfz34_2 := blk_frozen BK417.out 2
                          have hfz34_3 := blk_frozen BK417.out 3
                          have hfz34_4 := blk_frozen BK417.out 4
                          have hfz34_5 := blk_frozen BK417.out 5
                          have hfz34_6 := blk_frozen BK417.out 6
                          have hfz34_7 := blk_frozen BK417.out 7
                          have hfz34_8 := blk_frozen BK417.out 8
                          have hfz34_9 := blk_frozen BK417.out 9
                          have hfz34_10 := blk_frozen BK417.out 10
                          have hfz34_11 := blk_frozen BK417.out 11
                          have hfz34_12 := blk_frozen BK417.out 12
                          have hfz34_13 := blk_frozen BK417.out 13
                          go_wp2_with (first | ((with_reducible refine gate_callee (f := 83) rfl ?_); refine goesL_ (some 39) rfl rfl Try.func83 (by kernel_rfl) rfl #[.float .f64 a0_3] rfl (by (try simp only [List.map_toArray, List.map_cons, List.map_nil]); first | done | rfl | (simp only [List.length_drop, List.length_take]; rfl)) ?_; (with_reducible refine (fareboxref05_Rate.calls a0_3 true _ A21.out).mono ?_); rintro e w' ⟨rfl, ⟨nd, rfl⟩⟩; refine ⟨_, rfl, ?_⟩) | ((with_reducible refine gate_callee (f := 84) rfl ?_); refine goesL_ (some 44) rfl rfl Try.func84 (by kernel_rfl) rfl #[.int .i64 a0_9, .int .i64 1] rfl (by (try simp only [List.map_toArray, List.map_cons, List.map_nil]); first | done | rfl | (simp only [List.length_drop, List.length_take]; rfl)) ?_; (with_reducible refine (fareboxref07_minutes.calls a0_9 1 true _ A23.out).mono ?_); rintro e w' ⟨rfl, ⟨nd, rfl⟩⟩; refine ⟨_, rfl, ?_⟩) | (go_at_call 84; (with_reducible refine (fareboxref07_minutes.calls a0_7 0 true _ A25.out).mono ?_); rintro e w' ⟨rfl, ⟨nd, rfl⟩⟩) | (go_at_call 84; (with_reducible refine (fareboxref07_minutes.calls a0_10 0 true _ A27.out).mono ?_); rintro e w' ⟨rfl, ⟨nd, rfl⟩⟩) | (go_at_call 84; (with_reducible refine (fareboxref07_minutes.calls a0_11 0 true _ A29.out).mono ?_); rintro e w' ⟨rfl, ⟨nd, rfl⟩⟩) | (go_at_call 84; (with_reducible refine (fareboxref07_minutes.calls a0_12 0 false _ A31.out).mono ?_); rintro e w' ⟨rfl, ⟨nd, rfl⟩⟩))
                          go_ret
                          exact ⟨by first | rfl | (simp [errW_none, errW_some] <;> rfl) | (simp [*, errW_none, errW_some] <;> rfl), by repeat (first | (with_reducible first | exact HB.out | apply below_alloc | apply pw_below_drewN | apply below_drew1 | refine below_set ?_ GE417.out) | exact HB.out)⟩
                      · replace c30 := Bool.eq_false_iff.mpr c30
                        subst c30
                        have H1 : (some 70) = some r := by rw [if_neg (show ¬ (false = true) by decide)] at H; exact H
                        clear H
                        have H := H1
                        clear H1
                        obtain rfl := Option.some.inj H
                        have hcz35_0 : wc.cell? ⟨gb417, 0, none⟩ = some (.slice A0_0 l0_0.length c0_0) := (blk_cell BK417.out 0).trans rfl
                        have hcz35_1 : wc.cell? ⟨gb417, 1, none⟩ = some (.slice A0_1 l0_1.length c0_1) := (blk_cell BK417.out 1).trans rfl
                        have hcz35_2 : wc.cell? ⟨gb417, 2, none⟩ = some (.slice A0_2 l0_2.length c0_2) := (blk_cell BK417.out 2).trans rfl
                        have hcz35_3 : wc.cell? ⟨gb417, 3, none⟩ = some (.float .f64 a0_3) := (blk_cell BK417.out 3).trans rfl
                        have hcz35_4 : wc.cell? ⟨gb417, 4, none⟩ = some (.int .i64 a0_4) := (blk_cell BK417.out 4).trans rfl
                        have hcz35_5 : wc.cell? ⟨gb417, 5, none⟩ = some (.int .i64 a0_5) := (blk_cell BK417.out 5).trans rfl
                        have hcz35_6 : wc.cell? ⟨gb417, 6, none⟩ = some (.int .i64 a0_6) := (blk_cell BK417.out 6).trans rfl
                        have hcz35_7 : wc.cell? ⟨gb417, 7, none⟩ = some (.int .i64 a0_7) := (blk_cell BK417.out 7).trans rfl
                        have hcz35_8 : wc.cell? ⟨gb417, 8, none⟩ = some (.int .i64 a0_8) := (blk_cell BK417.out 8).trans rfl
                        have hcz35_9 : wc.cell? ⟨gb417, 9, none⟩ = some (.int .i64 a0_9) := (blk_cell BK417.out 9).trans rfl
                        have hcz35_10 : wc.cell? ⟨gb417, 10, none⟩ = some (.int .i64 a0_10) := (blk_cell BK417.out 10).trans rfl
                        have hcz35_11 : wc.cell? ⟨gb417, 11, none⟩ = some (.int .i64 a0_11) := (blk_cell BK417.out 11).trans rfl
                        have hcz35_12 : wc.cell? ⟨gb417, 12, none⟩ = some (.int .i64 a0_12) := (blk_cell BK417.out 12).trans rfl
                        have hcz35_13 : wc.cell? ⟨gb417, 13, none⟩ = some (.int .i64 a0_13) := (blk_cell BK417.out 13).trans rfl
                        have hfz35_0 := blk_frozen BK417.out 0
                        have hfz35_1 := blk_frozen BK417.out 1
                        have hfz35_2 := blk_frozen BK417.out 2
                        have hfz35_3 := blk_frozen BK417.out 3
                        have hfz35_4 := blk_frozen BK417.out 4
                        have hfz35_5 := blk_frozen BK417.out 5
                        have hfz35_6 := blk_frozen BK417.out 6
                        have hfz35_7 := blk_frozen BK417.out 7
                        have hfz35_8 := blk_frozen BK417.out 8
                        have hfz35_9 := blk_frozen BK417.out 9
                        have hfz35_10 := blk_frozen BK417.out 10
                        have hfz35_11 := blk_frozen BK417.out 11
                        have hfz35_12 := blk_frozen BK417.out 12
                        have hfz35_13 := blk_frozen BK417.out 13
                        go_wp2_with (first | ((with_reducible refine gate_callee (f := 83) rfl ?_); refine goesL_ (some 39) rfl rfl Try.func83 (by kernel_rfl) rfl #[.float .f64 a0_3] rfl (by (try simp only [List.map_toArray, List.map_cons, List.map_nil]); first | done | rfl | (simp only [List.length_drop, List.length_take]; rfl)) ?_; (with_reducible refine (fareboxref05_Rate.calls a0_3 true _ A21.out).mono ?_); rintro e w' ⟨rfl, ⟨nd, rfl⟩⟩; refine ⟨_, rfl, ?_⟩) | ((with_reducible refine gate_callee (f := 84) rfl ?_); refine goesL_ (some 44) rfl rfl Try.func84 (by kernel_rfl) rfl #[.int .i64 a0_9, .int .i64 1] rfl (by (try simp only [List.map_toArray, List.map_cons, List.map_nil]); first | done | rfl | (simp only [List.length_drop, List.length_take]; rfl)) ?_; (with_reducible refine (fareboxref07_minutes.calls a0_9 1 true _ A23.out).mono ?_); rintro e w' ⟨rfl, ⟨nd, rfl⟩⟩; refine ⟨_, rfl, ?_⟩) | (go_at_call 84; (with_reducible refine (fareboxref07_minutes.calls a0_7 0 true _ A25.out).mono ?_); rintro e w' ⟨rfl, ⟨nd, rfl⟩⟩) | (go_at_call 84; (with_reducible refine (fareboxref07_minutes.calls a0_10 0 true _ A27.out).mono ?_); rintro e w' ⟨rfl, ⟨nd, rfl⟩⟩) | (go_at_call 84; (with_reducible refine (fareboxref07_minutes.calls a0_11 0 false _ A29.out).mono ?_); rintro e w' ⟨rfl, ⟨nd, rfl⟩⟩))
                        go_ret
                        exact ⟨by first | rfl | (simp [errW_none, errW_some] <;> rfl) | (simp [*, errW_none, errW_some] <;> rfl), by repeat (first | (with_reducible first | exact HB.out | apply below_alloc | apply pw_below_drewN | apply below_drew1 | refine below_set ?_ GE417.out) | exact HB.out)⟩
                    · replace c28 := Bool.eq_false_iff.mpr c28
                      subst c28
                      have H1 : (some 70) = some r := by rw [if_neg (show ¬ (false = true) by decide)] at H; exact H
                      clear H
                      have H := H1
                      clear H1
                      obtain rfl := Option.some.inj H
                      have hcz36_0 : wc.cell? ⟨gb417, 0, none⟩ = some (.slice A0_0 l0_0.length c0_0) := (blk_cell BK417.out 0).trans rfl
                      have hcz36_1 : wc.cell? ⟨gb417, 1, none⟩ = some (.slice A0_1 l0_1.length c0_1) := (blk_cell BK417.out 1).trans rfl
                      have hcz36_2 : wc.cell? ⟨gb417, 2, none⟩ = some (.slice A0_2 l0_2.length c0_2) := (blk_cell BK417.out 2).trans rfl
                      have hcz36_3 : wc.cell? ⟨gb417, 3, none⟩ = some (.float .f64 a0_3) := (blk_cell BK417.out 3).trans rfl
                      have hcz36_4 : wc.cell? ⟨gb417, 4, none⟩ = some (.int .i64 a0_4) := (blk_cell BK417.out 4).trans rfl
                      have hcz36_5 : wc.cell? ⟨gb417, 5, none⟩ = some (.int .i64 a0_5) := (blk_cell BK417.out 5).trans rfl
                      have hcz36_6 : wc.cell? ⟨gb417, 6, none⟩ = some (.int .i64 a0_6) := (blk_cell BK417.out 6).trans rfl
                      have hcz36_7 : wc.cell? ⟨gb417, 7, none⟩ = some (.int .i64 a0_7) := (blk_cell BK417.out 7).trans rfl
                      have hcz36_8 : wc.cell? ⟨gb417, 8, none⟩ = some (.int .i64 a0_8) := (blk_cell BK417.out 8).trans rfl
                      have hcz36_9 : wc.cell? ⟨gb417, 9, none⟩ = some (.int .i64 a0_9) := (blk_cell BK417.out 9).trans rfl
                      have hcz36_10 : wc.cell? ⟨gb417, 10, none⟩ = some (.int .i64 a0_10) := (blk_cell BK417.out 10).trans rfl
                      have hcz36_11 : wc.cell? ⟨gb417, 11, none⟩ = some (.int .i64 a0_11) := (blk_cell BK417.out 11).trans rfl
                      have hcz36_12 : wc.cell? ⟨gb417, 12, none⟩ = some (.int .i64 a0_12) := (blk_cell BK417.out 12).trans rfl
                      have hcz36_13 : wc.cell? ⟨gb417, 13, none⟩ = some (.int .i64 a0_13) := (blk_cell BK417.out 13).trans rfl
                      have hfz36_0 := blk_frozen BK417.out 0
                      have hfz36_1 := blk_frozen BK417.out 1
                      have hfz36_2 := blk_frozen BK417.out 2
                      have hfz36_3 := blk_frozen BK417.out 3
                      have hfz36_4 := blk_frozen BK417.out 4
                      have hfz36_5 := blk_frozen BK417.out 5
                      have hfz36_6 := blk_frozen BK417.out 6
                      have hfz36_7 := blk_frozen BK417.out 7
                      have hfz36_8 := blk_frozen BK417.out 8
                      have hfz36_9 := blk_frozen BK417.out 9
                      have hfz36_10 := blk_frozen BK417.out 10
                      have hfz36_11 := blk_frozen BK417.out 11
                      have hfz36_12 := blk_frozen BK417.out 12
                      have hfz36_13 := blk_frozen BK417.out 13
                      go_wp2_with (first | ((with_reducible refine gate_callee (f := 83) rfl ?_); refine goesL_ (some 39) rfl rfl Try.func83 (by kernel_rfl) rfl #[.float .f64 a0_3] rfl (by (try simp only [List.map_toArray, List.map_cons, List.map_nil]); first | done | rfl | (simp only [List.length_drop, List.length_take]; rfl)) ?_; (with_reducible refine (fareboxref05_Rate.calls a0_3 true _ A21.out).mono ?_); rintro e w' ⟨rfl, ⟨nd, rfl⟩⟩; refine ⟨_, rfl, ?_⟩) | ((with_reducible refine gate_callee (f := 84) rfl ?_); refine goesL_ (some 44) rfl rfl Try.func84 (by kernel_rfl) rfl #[.int .i64 a0_9, .int .i64 1] rfl (by (try simp only [List.map_toArray, List.map_cons, List.map_nil]); first | done | rfl | (simp only [List.length_drop, List.length_take]; rfl)) ?_; (with_reducible refine (fareboxref07_minutes.calls a0_9 1 true _ A23.out).mono ?_); rintro e w' ⟨rfl, ⟨nd, rfl⟩⟩; refine ⟨_, rfl, ?_⟩) | (go_at_call 84; (with_reducible refine (fareboxref07_minutes.calls a0_7 0 true _ A25.out).mono ?_); rintro e w' ⟨rfl, ⟨nd, rfl⟩⟩) | (go_at_call 84; (with_reducible refine (fareboxref07_minutes.calls a0_10 0 false _ A27.out).mono ?_); rintro e w' ⟨rfl, ⟨nd, rfl⟩⟩))
                      go_ret
                      exact ⟨by first | rfl | (simp [errW_none, errW_some] <;> rfl) | (simp [*, errW_none, errW_some] <;> rfl), by repeat (first | (with_reducible first | exact HB.out | apply below_alloc | apply pw_below_drewN | apply below_drew1 | refine below_set ?_ GE417.out) | exact HB.out)⟩
                  · replace c26 := Bool.eq_false_iff.mpr c26
                    subst c26
                    have H1 : (some 70) = some r := by rw [if_neg (show ¬ (false = true) by decide)] at H; exact H
                    clear H
                    have H := H1
                    clear H1
                    obtain rfl := Option.some.inj H
                    have hcz37_0 : wc.cell? ⟨gb417, 0, none⟩ = some (.slice A0_0 l0_0.length c0_0) := (blk_cell BK417.out 0).trans rfl
                    have hcz37_1 : wc.cell? ⟨gb417, 1, none⟩ = some (.slice A0_1 l0_1.length c0_1) := (blk_cell BK417.out 1).trans rfl
                    have hcz37_2 : wc.cell? ⟨gb417, 2, none⟩ = some (.slice A0_2 l0_2.length c0_2) := (blk_cell BK417.out 2).trans rfl
                    have hcz37_3 : wc.cell? ⟨gb417, 3, none⟩ = some (.float .f64 a0_3) := (blk_cell BK417.out 3).trans rfl
                    have hcz37_4 : wc.cell? ⟨gb417, 4, none⟩ = some (.int .i64 a0_4) := (blk_cell BK417.out 4).trans rfl
                    have hcz37_5 : wc.cell? ⟨gb417, 5, none⟩ = some (.int .i64 a0_5) := (blk_cell BK417.out 5).trans rfl
                    have hcz37_6 : wc.cell? ⟨gb417, 6, none⟩ = some (.int .i64 a0_6) := (blk_cell BK417.out 6).trans rfl
                    have hcz37_7 : wc.cell? ⟨gb417, 7, none⟩ = some (.int .i64 a0_7) := (blk_cell BK417.out 7).trans rfl
                    have hcz37_8 : wc.cell? ⟨gb417, 8, none⟩ = some (.int .i64 a0_8) := (blk_cell BK417.out 8).trans rfl
                    have hcz37_9 : wc.cell? ⟨gb417, 9, none⟩ = some (.int .i64 a0_9) := (blk_cell BK417.out 9).trans rfl
                    have hcz37_10 : wc.cell? ⟨gb417, 10, none⟩ = some (.int .i64 a0_10) := (blk_cell BK417.out 10).trans rfl
                    have hcz37_11 : wc.cell? ⟨gb417, 11, none⟩ = some (.int .i64 a0_11) := (blk_cell BK417.out 11).trans rfl
                    have hcz37_12 : wc.cell? ⟨gb417, 12, none⟩ = some (.int .i64 a0_12) := (blk_cell BK417.out 12).trans rfl
                    have hcz37_13 : wc.cell? ⟨gb417, 13, none⟩ = some (.int .i64 a0_13) := (blk_cell BK417.out 13).trans rfl
                    have hfz37_0 := blk_frozen BK417.out 0
                    have hfz37_1 := blk_frozen BK417.out 1
                    have hfz37_2 := blk_frozen BK417.out 2
                    have hfz37_3 := blk_frozen BK417.out 3
                    have hfz37_4 := blk_frozen BK417.out 4
                    have hfz37_5 := blk_frozen BK417.out 5
                    have hfz37_6 := blk_frozen BK417.out 6
                    have hfz37_7 := blk_frozen BK417.out 7
                    have hfz37_8 := blk_frozen BK417.out 8
                    have hfz37_9 := blk_frozen BK417.out 9
                    have hfz37_10 := blk_frozen BK417.out 10
                    have hfz37_11 := blk_frozen BK417.out 11
                    have hfz37_12 := blk_frozen BK417.out 12
                    have hfz37_13 := blk_frozen BK417.out 13
                    go_wp2_with (first | ((with_reducible refine gate_callee (f := 83) rfl ?_); refine goesL_ (some 39) rfl rfl Try.func83 (by kernel_rfl) rfl #[.float .f64 a0_3] rfl (by (try simp only [List.map_toArray, List.map_cons, List.map_nil]); first | done | rfl | (simp only [List.length_drop, List.length_take]; rfl)) ?_; (with_reducible refine (fareboxref05_Rate.calls a0_3 true _ A21.out).mono ?_); rintro e w' ⟨rfl, ⟨nd, rfl⟩⟩; refine ⟨_, rfl, ?_⟩) | ((with_reducible refine gate_callee (f := 84) rfl ?_); refine goesL_ (some 44) rfl rfl Try.func84 (by kernel_rfl) rfl #[.int .i64 a0_9, .int .i64 1] rfl (by (try simp only [List.map_toArray, List.map_cons, List.map_nil]); first | done | rfl | (simp only [List.length_drop, List.length_take]; rfl)) ?_; (with_reducible refine (fareboxref07_minutes.calls a0_9 1 true _ A23.out).mono ?_); rintro e w' ⟨rfl, ⟨nd, rfl⟩⟩; refine ⟨_, rfl, ?_⟩) | (go_at_call 84; (with_reducible refine (fareboxref07_minutes.calls a0_7 0 false _ A25.out).mono ?_); rintro e w' ⟨rfl, ⟨nd, rfl⟩⟩))
                    go_ret
                    exact ⟨by first | rfl | (simp [errW_none, errW_some] <;> rfl) | (simp [*, errW_none, errW_some] <;> rfl), by repeat (first | (with_reducible first | exact HB.out | apply below_alloc | apply pw_below_drewN | apply below_drew1 | refine below_set ?_ GE417.out) | exact HB.out)⟩
                · replace c24 := Bool.eq_false_iff.mpr c24
                  subst c24
                  have H1 : (some 70) = some r := by rw [if_neg (show ¬ (false = true) by decide)] at H; exact H
                  clear H
                  have H := H1
                  clear H1
                  obtain rfl := Option.some.inj H
                  have hcz38_0 : wc.cell? ⟨gb417, 0, none⟩ = some (.slice A0_0 l0_0.length c0_0) := (blk_cell BK417.out 0).trans rfl
                  have hcz38_1 : wc.cell? ⟨gb417, 1, none⟩ = some (.slice A0_1 l0_1.length c0_1) := (blk_cell BK417.out 1).trans rfl
                  have hcz38_2 : wc.cell? ⟨gb417, 2, none⟩ = some (.slice A0_2 l0_2.length c0_2) := (blk_cell BK417.out 2).trans rfl
                  have hcz38_3 : wc.cell? ⟨gb417, 3, none⟩ = some (.float .f64 a0_3) := (blk_cell BK417.out 3).trans rfl
                  have hcz38_4 : wc.cell? ⟨gb417, 4, none⟩ = some (.int .i64 a0_4) := (blk_cell BK417.out 4).trans rfl
                  have hcz38_5 : wc.cell? ⟨gb417, 5, none⟩ = some (.int .i64 a0_5) := (blk_cell BK417.out 5).trans rfl
                  have hcz38_6 : wc.cell? ⟨gb417, 6, none⟩ = some (.int .i64 a0_6) := (blk_cell BK417.out 6).trans rfl
                  have hcz38_7 : wc.cell? ⟨gb417, 7, none⟩ = some (.int .i64 a0_7) := (blk_cell BK417.out 7).trans rfl
                  have hcz38_8 : wc.cell? ⟨gb417, 8, none⟩ = some (.int .i64 a0_8) := (blk_cell BK417.out 8).trans rfl
                  have hcz38_9 : wc.cell? ⟨gb417, 9, none⟩ = some (.int .i64 a0_9) := (blk_cell BK417.out 9).trans rfl
                  have hcz38_10 : wc.cell? ⟨gb417, 10, none⟩ = some (.int .i64 a0_10) := (blk_cell BK417.out 10).trans rfl
                  have hcz38_11 : wc.cell? ⟨gb417, 11, none⟩ = some (.int .i64 a0_11) := (blk_cell BK417.out 11).trans rfl
                  have hcz38_12 : wc.cell? ⟨gb417, 12, none⟩ = some (.int .i64 a0_12) := (blk_cell BK417.out 12).trans rfl
                  have hcz38_13 : wc.cell? ⟨gb417, 13, none⟩ = some (.int .i64 a0_13) := (blk_cell BK417.out 13).trans rfl
                  have hfz38_0 := blk_frozen BK417.out 0
                  have hfz38_1 := blk_frozen BK417.out 1
                  have hfz38_2 := blk_frozen BK417.out 2
                  have hfz38_3 := blk_frozen BK417.out 3
                  have hfz38_4 := blk_frozen BK417.out 4
                  have hfz38_5 := blk_frozen BK417.out 5
                  have hfz38_6 := blk_frozen BK417.out 6
                  have hfz38_7 := blk_frozen BK417.out 7
                  have hfz38_8 := blk_frozen BK417.out 8
                  have hfz38_9 := blk_frozen BK417.out 9
                  have hfz38_10 := blk_frozen BK417.out 10
                  have hfz38_11 := blk_frozen BK417.out 11
                  have hfz38_12 := blk_frozen BK417.out 12
                  have hfz38_13 := blk_frozen BK417.out 13
                  go_wp2_with (first | ((with_reducible refine gate_callee (f := 83) rfl ?_); refine goesL_ (some 39) rfl rfl Try.func83 (by kernel_rfl) rfl #[.float .f64 a0_3] rfl (by (try simp only [List.map_toArray, List.map_cons, List.map_nil]); first | done | rfl | (simp only [List.length_drop, List.length_take]; rfl)) ?_; (with_reducible refine (fareboxref05_Rate.calls a0_3 true _ A21.out).mono ?_); rintro e w' ⟨rfl, ⟨nd, rfl⟩⟩; refine ⟨_, rfl, ?_⟩) | ((with_reducible refine gate_callee (f := 84) rfl ?_); refine goesL_ (some 44) rfl rfl Try.func84 (by kernel_rfl) rfl #[.int .i64 a0_9, .int .i64 1] rfl (by (try simp only [List.map_toArray, List.map_cons, List.map_nil]); first | done | rfl | (simp only [List.length_drop, List.length_take]; rfl)) ?_; (with_reducible refine (fareboxref07_minutes.calls a0_9 1 false _ A23.out).mono ?_); rintro e w' ⟨rfl, ⟨nd, rfl⟩⟩; refine ⟨_, rfl, ?_⟩))
                  go_ret
                  exact ⟨by first | rfl | (simp [errW_none, errW_some] <;> rfl) | (simp [*, errW_none, errW_some] <;> rfl), by repeat (first | (with_reducible first | exact HB.out | apply below_alloc | apply pw_below_drewN | apply below_drew1 | refine below_set ?_ GE417.out) | exact HB.out)⟩
              · replace c22 := Bool.eq_false_iff.mpr c22
                subst c22
                have H1 : (some 51) = some r := by rw [if_neg (show ¬ (false = true) by decide)] at H; exact H
                clear H
                have H := H1
                clear H1
                obtain rfl := Option.some.inj H
                have hcz39_0 : wc.cell? ⟨gb417, 0, none⟩ = some (.slice A0_0 l0_0.length c0_0) := (blk_cell BK417.out 0).trans rfl
                have hcz39_1 : wc.cell? ⟨gb417, 1, none⟩ = some (.slice A0_1 l0_1.length c0_1) := (blk_cell BK417.out 1).trans rfl
                have hcz39_2 : wc.cell? ⟨gb417, 2, none⟩ = some (.slice A0_2 l0_2.length c0_2) := (blk_cell BK417.out 2).trans rfl
                have hcz39_3 : wc.cell? ⟨gb417, 3, none⟩ = some (.float .f64 a0_3) := (blk_cell BK417.out 3).trans rfl
                have hcz39_4 : wc.cell? ⟨gb417, 4, none⟩ = some (.int .i64 a0_4) := (blk_cell BK417.out 4).trans rfl
                have hcz39_5 : wc.cell? ⟨gb417, 5, none⟩ = some (.int .i64 a0_5) := (blk_cell BK417.out 5).trans rfl
                have hcz39_6 : wc.cell? ⟨gb417, 6, none⟩ = some (.int .i64 a0_6) := (blk_cell BK417.out 6).trans rfl
                have hcz39_7 : wc.cell? ⟨gb417, 7, none⟩ = some (.int .i64 a0_7) := (blk_cell BK417.out 7).trans rfl
                have hcz39_8 : wc.cell? ⟨gb417, 8, none⟩ = some (.int .i64 a0_8) := (blk_cell BK417.out 8).trans rfl
                have hcz39_9 : wc.cell? ⟨gb417, 9, none⟩ = some (.int .i64 a0_9) := (blk_cell BK417.out 9).trans rfl
                have hcz39_10 : wc.cell? ⟨gb417, 10, none⟩ = some (.int .i64 a0_10) := (blk_cell BK417.out 10).trans rfl
                have hcz39_11 : wc.cell? ⟨gb417, 11, none⟩ = some (.int .i64 a0_11) := (blk_cell BK417.out 11).trans rfl
                have hcz39_12 : wc.cell? ⟨gb417, 12, none⟩ = some (.int .i64 a0_12) := (blk_cell BK417.out 12).trans rfl
                have hcz39_13 : wc.cell? ⟨gb417, 13, none⟩ = some (.int .i64 a0_13) := (blk_cell BK417.out 13).trans rfl
                have hfz39_0 := blk_frozen BK417.out 0
                have hfz39_1 := blk_frozen BK417.out 1
                have hfz39_2 := blk_frozen BK417.out 2
                have hfz39_3 := blk_frozen BK417.out 3
                have hfz39_4 := blk_frozen BK417.out 4
                have hfz39_5 := blk_frozen BK417.out 5
                have hfz39_6 := blk_frozen BK417.out 6
                have hfz39_7 := blk_frozen BK417.out 7
                have hfz39_8 := blk_frozen BK417.out 8
                have hfz39_9 := blk_frozen BK417.out 9
                have hfz39_10 := blk_frozen BK417.out 10
                have hfz39_11 := blk_frozen BK417.out 11
                have hfz39_12 := blk_frozen BK417.out 12
                have hfz39_13 := blk_frozen BK417.out 13
                go_wp2_with (first | ((with_reducible refine gate_callee (f := 83) rfl ?_); refine goesL_ (some 39) rfl rfl Try.func83 (by kernel_rfl) rfl #[.float .f64 a0_3] rfl (by (try simp only [List.map_toArray, List.map_cons, List.map_nil]); first | done | rfl | (simp only [List.length_drop, List.length_take]; rfl)) ?_; (with_reducible refine (fareboxref05_Rate.calls a0_3 false _ A21.out).mono ?_); rintro e w' ⟨rfl, ⟨nd, rfl⟩⟩; refine ⟨_, rfl, ?_⟩))
                go_ret
                exact ⟨by first | rfl | (simp [errW_none, errW_some] <;> rfl) | (simp [*, errW_none, errW_some] <;> rfl), by repeat (first | (with_reducible first | exact HB.out | apply below_alloc | apply pw_below_drewN | apply below_drew1 | refine below_set ?_ GE417.out) | exact HB.out)⟩
      · replace c7 := Bool.eq_false_iff.mpr c7
        subst c7
        have H1 : (some 50) = some r := by rw [if_neg (show ¬ (false = true) by decide)] at H; exact H
        clear H
        have H := H1
        clear H1
        obtain rfl := Option.some.inj H
        go_enter Try.func30, Try.ntmps30
        go_wp2_with (first | ((with_reducible refine gate_dst (N := 1) rfl ?_); refine box_event ?hg (N := 1) ?hd (cs := #[.slice A0_0 l0_0.length c0_0, .slice A0_1 l0_1.length c0_1, .slice A0_2 l0_2.length c0_2, .float .f64 a0_3, .int .i64 a0_4, .int .i64 a0_5, .int .i64 a0_6, .int .i64 a0_7, .int .i64 a0_8, .int .i64 a0_9, .int .i64 a0_10, .int .i64 a0_11, .int .i64 a0_12, .int .i64 a0_13]) (t := 27) ?hr ?_; (case hd => rfl); (case hg => rfl); (case hr => first | (go_simp; done) | (go_simp; rfl)); intro gb417 hg w40 hbox hb; have n0_ := Aside0.mk (below_step (by repeat (first | (with_reducible first | exact HB.out | apply below_alloc | apply pw_below_drewN | apply below_drew1) | exact HB.out)) hb); have n1_ := Aside0.mk (hbox); have n2_ := Aside0.mk ((by rw [hg]; exact (below_size (by repeat (first | (with_reducible first | exact HB.out | apply below_alloc | apply pw_below_drewN | apply below_drew1) | exact HB.out))) : w.heap.size ≤ gb417)); have n3_ := Aside0.mk ((by rw [hg]; exact (below_size (by repeat (first | (with_reducible first | exact HB.out | apply below_alloc | apply pw_below_drewN | apply below_drew1) | exact HB.out))) : w.heap.size ≤ gb417)); clear HB; have HB := n0_; have BK417 := n1_; have GW417 := n2_; have GE417 := n3_; clear n0_ n1_ n2_ n3_; clear hb hbox hg; have hcz41_0 : w40.cell? ⟨gb417, 0, none⟩ = some (.slice A0_0 l0_0.length c0_0) := (blk_cell BK417.out 0).trans rfl; have hcz41_1 : w40.cell? ⟨gb417, 1, none⟩ = some (.slice A0_1 l0_1.length c0_1) := (blk_cell BK417.out 1).trans rfl; have hcz41_2 : w40.cell? ⟨gb417, 2, none⟩ = some (.slice A0_2 l0_2.length c0_2) := (blk_cell BK417.out 2).trans rfl; have hcz41_3 : w40.cell? ⟨gb417, 3, none⟩ = some (.float .f64 a0_3) := (blk_cell BK417.out 3).trans rfl; have hcz41_4 : w40.cell? ⟨gb417, 4, none⟩ = some (.int .i64 a0_4) := (blk_cell BK417.out 4).trans rfl; have hcz41_5 : w40.cell? ⟨gb417, 5, none⟩ = some (.int .i64 a0_5) := (blk_cell BK417.out 5).trans rfl; have hcz41_6 : w40.cell? ⟨gb417, 6, none⟩ = some (.int .i64 a0_6) := (blk_cell BK417.out 6).trans rfl; have hcz41_7 : w40.cell? ⟨gb417, 7, none⟩ = some (.int .i64 a0_7) := (blk_cell BK417.out 7).trans rfl; have hcz41_8 : w40.cell? ⟨gb417, 8, none⟩ = some (.int .i64 a0_8) := (blk_cell BK417.out 8).trans rfl; have hcz41_9 : w40.cell? ⟨gb417, 9, none⟩ = some (.int .i64 a0_9) := (blk_cell BK417.out 9).trans rfl; have hcz41_10 : w40.cell? ⟨gb417, 10, none⟩ = some (.int .i64 a0_10) := (blk_cell BK417.out 10).trans rfl; have hcz41_11 : w40.cell? ⟨gb417, 11, none⟩ = some (.int .i64 a0_11) := (blk_cell BK417.out 11).trans rfl; have hcz41_12 : w40.cell? ⟨gb417, 12, none⟩ = some (.int .i64 a0_12) := (blk_cell BK417.out 12).trans rfl; have hcz41_13 : w40.cell? ⟨gb417, 13, none⟩ = some (.int .i64 a0_13) := (blk_cell BK417.out 13).trans rfl; have hfz41_0 := blk_frozen BK417.out 0; have hfz41_1 := blk_frozen BK417.out 1; have hfz41_2 := blk_frozen BK417.out 2; have hfz41_3 := blk_frozen BK417.out 3; have hfz41_4 := blk_frozen BK417.out 4; have hfz41_5 := blk_frozen BK417.out 5; have hfz41_6 := blk_frozen BK417.out 6; have hfz41_7 := blk_frozen BK417.out 7; have hfz41_8 := blk_frozen BK417.out 8; have hfz41_9 := blk_frozen BK417.out 9; have hfz41_10 := blk_frozen BK417.out 10; have hfz41_11 := blk_frozen BK417.out 11; have hfz41_12 := blk_frozen BK417.out 12; have hfz41_13 := blk_frozen BK417.out 13) | ((with_reducible refine gate_callee (f := 78) rfl ?_); refine goesL_ (some 10) rfl rfl Try.func78 (by kernel_rfl) rfl #[.slice A0_0 l0_0.length c0_0] rfl (by (try simp only [List.map_toArray, List.map_cons, List.map_nil]); first | done | rfl | (simp only [List.length_drop, List.length_take]; rfl)) ?_; (with_reducible refine (fareboxref07_stations.calls k _ _ l0_0 t418 true _ ?side1 ?side2 A2.out).mono ?_); (case side1 => repeat (first | exact (Kd.C_below HR0_0.out HB.out) | (with_reducible refine Kd.C_alloc ?_ _) | (with_reducible refine Kd.C_drewN ?_ _) | (with_reducible refine Kd.C_drew ?_))); (case side2 => exact HC0_0.out); rintro e w42 ⟨rfl, hb⟩; refine ⟨_, rfl, ?_⟩; have n0_ := Aside0.mk (blk_below (g := gb417) (o := .cells #[.slice A0_0 l0_0.length c0_0, .slice A0_1 l0_1.length c0_1, .slice A0_2 l0_2.length c0_2, .float .f64 a0_3, .int .i64 a0_4, .int .i64 a0_5, .int .i64 a0_6, .int .i64 a0_7, .int .i64 a0_8, .int .i64 a0_9, .int .i64 a0_10, .int .i64 a0_11, .int .i64 a0_12, .int .i64 a0_13] 27 (0, 0)) (by (with_reducible repeat (first | refine blk_drewN ?_ _ | refine blk_drew ?_ | refine blk_alloc ?_ _)); exact BK417.out) hb); have n1_ := Aside0.mk (below_step (by repeat (first | (with_reducible first | exact HB.out | apply below_alloc | apply pw_below_drewN | apply below_drew1 | refine below_set ?_ GE417.out) | exact HB.out)) hb); clear BK417; clear HB; have BK417 := n0_; have HB := n1_; clear n0_ n1_; (try clear hb); (try clear hb2); (try clear hk); (try clear hi); have hcz43_0 : w42.cell? ⟨gb417, 0, none⟩ = some (.slice A0_0 l0_0.length c0_0) := (blk_cell BK417.out 0).trans rfl; have hcz43_1 : w42.cell? ⟨gb417, 1, none⟩ = some (.slice A0_1 l0_1.length c0_1) := (blk_cell BK417.out 1).trans rfl; have hcz43_2 : w42.cell? ⟨gb417, 2, none⟩ = some (.slice A0_2 l0_2.length c0_2) := (blk_cell BK417.out 2).trans rfl; have hcz43_3 : w42.cell? ⟨gb417, 3, none⟩ = some (.float .f64 a0_3) := (blk_cell BK417.out 3).trans rfl; have hcz43_4 : w42.cell? ⟨gb417, 4, none⟩ = some (.int .i64 a0_4) := (blk_cell BK417.out 4).trans rfl; have hcz43_5 : w42.cell? ⟨gb417, 5, none⟩ = some (.int .i64 a0_5) := (blk_cell BK417.out 5).trans rfl; have hcz43_6 : w42.cell? ⟨gb417, 6, none⟩ = some (.int .i64 a0_6) := (blk_cell BK417.out 6).trans rfl; have hcz43_7 : w42.cell? ⟨gb417, 7, none⟩ = some (.int .i64 a0_7) := (blk_cell BK417.out 7).trans rfl; have hcz43_8 : w42.cell? ⟨gb417, 8, none⟩ = some (.int .i64 a0_8) := (blk_cell BK417.out 8).trans rfl; have hcz43_9 : w42.cell? ⟨gb417, 9, none⟩ = some (.int .i64 a0_9) := (blk_cell BK417.out 9).trans rfl; have hcz43_10 : w42.cell? ⟨gb417, 10, none⟩ = some (.int .i64 a0_10) := (blk_cell BK417.out 10).trans rfl; have hcz43_11 : w42.cell? ⟨gb417, 11, none⟩ = some (.int .i64 a0_11) := (blk_cell BK417.out 11).trans rfl; have hcz43_12 : w42.cell? ⟨gb417, 12, none⟩ = some (.int .i64 a0_12) := (blk_cell BK417.out 12).trans rfl; have hcz43_13 : w42.cell? ⟨gb417, 13, none⟩ = some (.int .i64 a0_13) := (blk_cell BK417.out 13).trans rfl; have hfz43_0 := blk_frozen BK417.out 0; have hfz43_1 := blk_frozen BK417.out 1; have hfz43_2 := blk_frozen BK417.out 2; have hfz43_3 := blk_frozen BK417.out 3; have hfz43_4 := blk_frozen BK417.out 4; have hfz43_5 := blk_frozen BK417.out 5; have hfz43_6 := blk_frozen BK417.out 6; have hfz43_7 := blk_frozen BK417.out 7; have hfz43_8 := blk_frozen BK417.out 8; have hfz43_9 := blk_frozen BK417.out 9; have hfz43_10 := blk_frozen BK417.out 10; have hfz43_11 := blk_frozen BK417.out 11; have hfz43_12 := blk_frozen BK417.out 12; have hfz43_13 := blk_frozen BK417.out 13) | ((with_reducible refine gate_callee (f := 79) rfl ?_); refine goesL_ (some 18) rfl rfl Try.func79 (by kernel_rfl) rfl #[.slice A0_1 l0_1.length c0_1, .int .i64 t418] rfl (by (try simp only [List.map_toArray, List.map_cons, List.map_nil]); first | done | rfl | (simp only [List.length_drop, List.length_take]; rfl)) ?_; (with_reducible refine (fareboxref07_spans.calls k _ _ l0_1 t418 true _ ?side1 ?side2 A4.out).mono ?_); (case side1 => repeat (first | exact (Kd.C_below HR0_1.out HB.out) | (with_reducible refine Kd.C_alloc ?_ _) | (with_reducible refine Kd.C_drewN ?_ _) | (with_reducible refine Kd.C_drew ?_))); (case side2 => exact HC0_1.out); rintro e w' ⟨rfl, ⟨nd, rfl⟩⟩; refine ⟨_, rfl, ?_⟩) | ((with_reducible refine gate_callee (f := 80) rfl ?_); refine goesL_ (some 22) rfl rfl Try.func80 (by kernel_rfl) rfl #[.agg #[.slice A0_0 l0_0.length c0_0, .slice A0_1 l0_1.length c0_1, .slice A0_2 l0_2.length c0_2, .float .f64 a0_3, .int .i64 a0_4, .int .i64 a0_5, .int .i64 a0_6, .int .i64 a0_7, .int .i64 a0_8, .int .i64 a0_9, .int .i64 a0_10, .int .i64 a0_11, .int .i64 a0_12, .int .i64 a0_13]] rfl (by (try simp only [List.map_toArray, List.map_cons, List.map_nil]); first | done | rfl | (simp only [List.length_drop, List.length_take]; rfl)) ?_; (with_reducible refine (fareboxref07_prices.calls k _ _ l0_0 _ _ l0_1 _ _ l0_2 a0_3 a0_4 a0_5 a0_6 a0_7 a0_8 a0_9 a0_10 a0_11 a0_12 a0_13 false _ ?side1 ?side2 ?side3 ?side4 ?side5 ?side6 A6.out).mono ?_); (case side1 => repeat (first | exact (Kd.C_below HR0_0.out (by repeat (first | (with_reducible first | exact HB.out | apply below_alloc | apply pw_below_drewN | apply below_drew1 | refine below_set ?_ GE417.out) | exact HB.out))) | (with_reducible refine Kd.C_alloc ?_ _) | (with_reducible refine Kd.C_drewN ?_ _) | (with_reducible refine Kd.C_drew ?_))); (case side2 => exact HC0_0.out); (case side3 => repeat (first | exact (Kd.C_below HR0_1.out (by repeat (first | (with_reducible first | exact HB.out | apply below_alloc | apply pw_below_drewN | apply below_drew1 | refine below_set ?_ GE417.out) | exact HB.out))) | (with_reducible refine Kd.C_alloc ?_ _) | (with_reducible refine Kd.C_drewN ?_ _) | (with_reducible refine Kd.C_drew ?_))); (case side4 => exact HC0_1.out); (case side5 => repeat (first | exact (Kd.C_below HR0_2.out (by repeat (first | (with_reducible first | exact HB.out | apply below_alloc | apply pw_below_drewN | apply below_drew1 | refine below_set ?_ GE417.out) | exact HB.out))) | (with_reducible refine Kd.C_alloc ?_ _) | (with_reducible refine Kd.C_drewN ?_ _) | (with_reducible refine Kd.C_drew ?_))); (case side6 => exact HC0_2.out); rintro e w44 ⟨rfl, hb⟩; refine ⟨_, rfl, ?_⟩; have n0_ := Aside0.mk (blk_below (g := gb417) (o := .cells #[.slice A0_0 l0_0.length c0_0, .slice A0_1 l0_1.length c0_1, .slice A0_2 l0_2.length c0_2, .float .f64 a0_3, .int .i64 a0_4, .int .i64 a0_5, .int .i64 a0_6, .int .i64 a0_7, .int .i64 a0_8, .int .i64 a0_9, .int .i64 a0_10, .int .i64 a0_11, .int .i64 a0_12, .int .i64 a0_13] 27 (0, 0)) (by (with_reducible repeat (first | refine blk_drewN ?_ _ | refine blk_drew ?_ | refine blk_alloc ?_ _)); exact BK417.out) hb); have n1_ := Aside0.mk (below_step (by repeat (first | (with_reducible first | exact HB.out | apply below_alloc | apply pw_below_drewN | apply below_drew1 | refine below_set ?_ GE417.out) | exact HB.out)) hb); clear BK417; clear HB; have BK417 := n0_; have HB := n1_; clear n0_ n1_; (try clear hb); (try clear hb2); (try clear hk); (try clear hi)))
        go_ret
        exact ⟨by first | rfl | (simp [errW_none, errW_some] <;> rfl) | (simp [*, errW_none, errW_some] <;> rfl), by repeat (first | (with_reducible first | exact HB.out | apply below_alloc | apply pw_below_drewN | apply below_drew1 | refine below_set ?_ GE417.out) | exact HB.out)⟩
    · replace c5 := Bool.eq_false_iff.mpr c5
      subst c5
      have H1 : (some 70) = some r := by rw [if_neg (show ¬ (false = true) by decide)] at H; exact H
      clear H
      have H := H1
      clear H1
      obtain rfl := Option.some.inj H
      go_enter Try.func30, Try.ntmps30
      go_wp2_with (first | ((with_reducible refine gate_dst (N := 1) rfl ?_); refine box_event ?hg (N := 1) ?hd (cs := #[.slice A0_0 l0_0.length c0_0, .slice A0_1 l0_1.length c0_1, .slice A0_2 l0_2.length c0_2, .float .f64 a0_3, .int .i64 a0_4, .int .i64 a0_5, .int .i64 a0_6, .int .i64 a0_7, .int .i64 a0_8, .int .i64 a0_9, .int .i64 a0_10, .int .i64 a0_11, .int .i64 a0_12, .int .i64 a0_13]) (t := 27) ?hr ?_; (case hd => rfl); (case hg => rfl); (case hr => first | (go_simp; done) | (go_simp; rfl)); intro gb417 hg w45 hbox hb; have n0_ := Aside0.mk (below_step (by repeat (first | (with_reducible first | exact HB.out | apply below_alloc | apply pw_below_drewN | apply below_drew1) | exact HB.out)) hb); have n1_ := Aside0.mk (hbox); have n2_ := Aside0.mk ((by rw [hg]; exact (below_size (by repeat (first | (with_reducible first | exact HB.out | apply below_alloc | apply pw_below_drewN | apply below_drew1) | exact HB.out))) : w.heap.size ≤ gb417)); have n3_ := Aside0.mk ((by rw [hg]; exact (below_size (by repeat (first | (with_reducible first | exact HB.out | apply below_alloc | apply pw_below_drewN | apply below_drew1) | exact HB.out))) : w.heap.size ≤ gb417)); clear HB; have HB := n0_; have BK417 := n1_; have GW417 := n2_; have GE417 := n3_; clear n0_ n1_ n2_ n3_; clear hb hbox hg; have hcz46_0 : w45.cell? ⟨gb417, 0, none⟩ = some (.slice A0_0 l0_0.length c0_0) := (blk_cell BK417.out 0).trans rfl; have hcz46_1 : w45.cell? ⟨gb417, 1, none⟩ = some (.slice A0_1 l0_1.length c0_1) := (blk_cell BK417.out 1).trans rfl; have hcz46_2 : w45.cell? ⟨gb417, 2, none⟩ = some (.slice A0_2 l0_2.length c0_2) := (blk_cell BK417.out 2).trans rfl; have hcz46_3 : w45.cell? ⟨gb417, 3, none⟩ = some (.float .f64 a0_3) := (blk_cell BK417.out 3).trans rfl; have hcz46_4 : w45.cell? ⟨gb417, 4, none⟩ = some (.int .i64 a0_4) := (blk_cell BK417.out 4).trans rfl; have hcz46_5 : w45.cell? ⟨gb417, 5, none⟩ = some (.int .i64 a0_5) := (blk_cell BK417.out 5).trans rfl; have hcz46_6 : w45.cell? ⟨gb417, 6, none⟩ = some (.int .i64 a0_6) := (blk_cell BK417.out 6).trans rfl; have hcz46_7 : w45.cell? ⟨gb417, 7, none⟩ = some (.int .i64 a0_7) := (blk_cell BK417.out 7).trans rfl; have hcz46_8 : w45.cell? ⟨gb417, 8, none⟩ = some (.int .i64 a0_8) := (blk_cell BK417.out 8).trans rfl; have hcz46_9 : w45.cell? ⟨gb417, 9, none⟩ = some (.int .i64 a0_9) := (blk_cell BK417.out 9).trans rfl; have hcz46_10 : w45.cell? ⟨gb417, 10, none⟩ = some (.int .i64 a0_10) := (blk_cell BK417.out 10).trans rfl; have hcz46_11 : w45.cell? ⟨gb417, 11, none⟩ = some (.int .i64 a0_11) := (blk_cell BK417.out 11).trans rfl; have hcz46_12 : w45.cell? ⟨gb417, 12, none⟩ = some (.int .i64 a0_12) := (blk_cell BK417.out 12).trans rfl; have hcz46_13 : w45.cell? ⟨gb417, 13, none⟩ = some (.int .i64 a0_13) := (blk_cell BK417.out 13).trans rfl; have hfz46_0 := blk_frozen BK417.out 0; have hfz46_1 := blk_frozen BK417.out 1; have hfz46_2 := blk_frozen BK417.out 2; have hfz46_3 := blk_frozen BK417.out 3; have hfz46_4 := blk_frozen BK417.out 4; have hfz46_5 := blk_frozen BK417.out 5; have hfz46_6 := blk_frozen BK417.out 6; have hfz46_7 := blk_frozen BK417.out 7; have hfz46_8 := blk_frozen BK417.out 8; have hfz46_9 := blk_frozen BK417.out 9; have hfz46_10 := blk_frozen BK417.out 10; have hfz46_11 := blk_frozen BK417.out 11; have hfz46_12 := blk_frozen BK417.out 12; have hfz46_13 := blk_frozen BK417.out 13) | ((with_reducible refine gate_callee (f := 78) rfl ?_); refine goesL_ (some 10) rfl rfl Try.func78 (by kernel_rfl) rfl #[.slice A0_0 l0_0.length c0_0] rfl (by (try simp only [List.map_toArray, List.map_cons, List.map_nil]); first | done | rfl | (simp only [List.length_drop, List.length_take]; rfl)) ?_; (with_reducible refine (fareboxref07_stations.calls k _ _ l0_0 t418 true _ ?side1 ?side2 A2.out).mono ?_); (case side1 => repeat (first | exact (Kd.C_below HR0_0.out HB.out) | (with_reducible refine Kd.C_alloc ?_ _) | (with_reducible refine Kd.C_drewN ?_ _) | (with_reducible refine Kd.C_drew ?_))); (case side2 => exact HC0_0.out); rintro e w47 ⟨rfl, hb⟩; refine ⟨_, rfl, ?_⟩; have n0_ := Aside0.mk (blk_below (g := gb417) (o := .cells #[.slice A0_0 l0_0.length c0_0, .slice A0_1 l0_1.length c0_1, .slice A0_2 l0_2.length c0_2, .float .f64 a0_3, .int .i64 a0_4, .int .i64 a0_5, .int .i64 a0_6, .int .i64 a0_7, .int .i64 a0_8, .int .i64 a0_9, .int .i64 a0_10, .int .i64 a0_11, .int .i64 a0_12, .int .i64 a0_13] 27 (0, 0)) (by (with_reducible repeat (first | refine blk_drewN ?_ _ | refine blk_drew ?_ | refine blk_alloc ?_ _)); exact BK417.out) hb); have n1_ := Aside0.mk (below_step (by repeat (first | (with_reducible first | exact HB.out | apply below_alloc | apply pw_below_drewN | apply below_drew1 | refine below_set ?_ GE417.out) | exact HB.out)) hb); clear BK417; clear HB; have BK417 := n0_; have HB := n1_; clear n0_ n1_; (try clear hb); (try clear hb2); (try clear hk); (try clear hi); have hcz48_0 : w47.cell? ⟨gb417, 0, none⟩ = some (.slice A0_0 l0_0.length c0_0) := (blk_cell BK417.out 0).trans rfl; have hcz48_1 : w47.cell? ⟨gb417, 1, none⟩ = some (.slice A0_1 l0_1.length c0_1) := (blk_cell BK417.out 1).trans rfl; have hcz48_2 : w47.cell? ⟨gb417, 2, none⟩ = some (.slice A0_2 l0_2.length c0_2) := (blk_cell BK417.out 2).trans rfl; have hcz48_3 : w47.cell? ⟨gb417, 3, none⟩ = some (.float .f64 a0_3) := (blk_cell BK417.out 3).trans rfl; have hcz48_4 : w47.cell? ⟨gb417, 4, none⟩ = some (.int .i64 a0_4) := (blk_cell BK417.out 4).trans rfl; have hcz48_5 : w47.cell? ⟨gb417, 5, none⟩ = some (.int .i64 a0_5) := (blk_cell BK417.out 5).trans rfl; have hcz48_6 : w47.cell? ⟨gb417, 6, none⟩ = some (.int .i64 a0_6) := (blk_cell BK417.out 6).trans rfl; have hcz48_7 : w47.cell? ⟨gb417, 7, none⟩ = some (.int .i64 a0_7) := (blk_cell BK417.out 7).trans rfl; have hcz48_8 : w47.cell? ⟨gb417, 8, none⟩ = some (.int .i64 a0_8) := (blk_cell BK417.out 8).trans rfl; have hcz48_9 : w47.cell? ⟨gb417, 9, none⟩ = some (.int .i64 a0_9) := (blk_cell BK417.out 9).trans rfl; have hcz48_10 : w47.cell? ⟨gb417, 10, none⟩ = some (.int .i64 a0_10) := (blk_cell BK417.out 10).trans rfl; have hcz48_11 : w47.cell? ⟨gb417, 11, none⟩ = some (.int .i64 a0_11) := (blk_cell BK417.out 11).trans rfl; have hcz48_12 : w47.cell? ⟨gb417, 12, none⟩ = some (.int .i64 a0_12) := (blk_cell BK417.out 12).trans rfl; have hcz48_13 : w47.cell? ⟨gb417, 13, none⟩ = some (.int .i64 a0_13) := (blk_cell BK417.out 13).trans rfl; have hfz48_0 := blk_frozen BK417.out 0; have hfz48_1 := blk_frozen BK417.out 1; have hfz48_2 := blk_frozen BK417.out 2; have hfz48_3 := blk_frozen BK417.out 3; have hfz48_4 := blk_frozen BK417.out 4; have hfz48_5 := blk_frozen BK417.out 5; have hfz48_6 := blk_frozen BK417.out 6; have hfz48_7 := blk_frozen BK417.out 7; have hfz48_8 := blk_frozen BK417.out 8; have hfz48_9 := blk_frozen BK417.out 9; have hfz48_10 := blk_frozen BK417.out 10; have hfz48_11 := blk_frozen BK417.out 11; have hfz48_12 := blk_frozen BK417.out 12; have hfz48_13 := blk_frozen BK417.out 13) | ((with_reducible refine gate_callee (f := 79) rfl ?_); refine goesL_ (some 18) rfl rfl Try.func79 (by kernel_rfl) rfl #[.slice A0_1 l0_1.length c0_1, .int .i64 t418] rfl (by (try simp only [List.map_toArray, List.map_cons, List.map_nil]); first | done | rfl | (simp only [List.length_drop, List.length_take]; rfl)) ?_; (with_reducible refine (fareboxref07_spans.calls k _ _ l0_1 t418 false _ ?side1 ?side2 A4.out).mono ?_); (case side1 => repeat (first | exact (Kd.C_below HR0_1.out HB.out) | (with_reducible refine Kd.C_alloc ?_ _) | (with_reducible refine Kd.C_drewN ?_ _) | (with_reducible refine Kd.C_drew ?_))); (case side2 => exact HC0_1.out); rintro e w' ⟨rfl, ⟨nd, rfl⟩⟩; refine ⟨_, rfl, ?_⟩))
      go_ret
      exact ⟨by first | rfl | (simp [errW_none, errW_some] <;> rfl) | (simp [*, errW_none, errW_some] <;> rfl), by repeat (first | (with_reducible first | exact HB.out | apply below_alloc | apply pw_below_drewN | apply below_drew1 | refine below_set ?_ GE417.out) | exact HB.out)⟩
  · replace c3 := Bool.eq_false_iff.mpr c3
    subst c3
    have H1 : (some 70) = some r := by rw [if_neg (show ¬ (false = true) by decide)] at H; exact H
    clear H
    have H := H1
    clear H1
    obtain rfl := Option.some.inj H
    go_enter Try.func30, Try.ntmps30
    go_wp2_with (first | ((with_reducible refine gate_dst (N := 1) rfl ?_); refine box_event ?hg (N := 1) ?hd (cs := #[.slice A0_0 l0_0.length c0_0, .slice A0_1 l0_1.length c0_1, .slice A0_2 l0_2.length c0_2, .float .f64 a0_3, .int .i64 a0_4, .int .i64 a0_5, .int .i64 a0_6, .int .i64 a0_7, .int .i64 a0_8, .int .i64 a0_9, .int .i64 a0_10, .int .i64 a0_11, .int .i64 a0_12, .int .i64 a0_13]) (t := 27) ?hr ?_; (case hd => rfl); (case hg => rfl); (case hr => first | (go_simp; done) | (go_simp; rfl)); intro gb417 hg w49 hbox hb; have n0_ := Aside0.mk (below_step (by repeat (first | (with_reducible first | exact HB.out | apply below_alloc | apply pw_below_drewN | apply below_drew1) | exact HB.out)) hb); have n1_ := Aside0.mk (hbox); have n2_ := Aside0.mk ((by rw [hg]; exact (below_size (by repeat (first | (with_reducible first | exact HB.out | apply below_alloc | apply pw_below_drewN | apply below_drew1) | exact HB.out))) : w.heap.size ≤ gb417)); have n3_ := Aside0.mk ((by rw [hg]; exact (below_size (by repeat (first | (with_reducible first | exact HB.out | apply below_alloc | apply pw_below_drewN | apply below_drew1) | exact HB.out))) : w.heap.size ≤ gb417)); clear HB; have HB := n0_; have BK417 := n1_; have GW417 := n2_; have GE417 := n3_; clear n0_ n1_ n2_ n3_; clear hb hbox hg; have hcz50_0 : w49.cell? ⟨gb417, 0, none⟩ = some (.slice A0_0 l0_0.length c0_0) := (blk_cell BK417.out 0).trans rfl; have hcz50_1 : w49.cell? ⟨gb417, 1, none⟩ = some (.slice A0_1 l0_1.length c0_1) := (blk_cell BK417.out 1).trans rfl; have hcz50_2 : w49.cell? ⟨gb417, 2, none⟩ = some (.slice A0_2 l0_2.length c0_2) := (blk_cell BK417.out 2).trans rfl; have hcz50_3 : w49.cell? ⟨gb417, 3, none⟩ = some (.float .f64 a0_3) := (blk_cell BK417.out 3).trans rfl; have hcz50_4 : w49.cell? ⟨gb417, 4, none⟩ = some (.int .i64 a0_4) := (blk_cell BK417.out 4).trans rfl; have hcz50_5 : w49.cell? ⟨gb417, 5, none⟩ = some (.int .i64 a0_5) := (blk_cell BK417.out 5).trans rfl; have hcz50_6 : w49.cell? ⟨gb417, 6, none⟩ = some (.int .i64 a0_6) := (blk_cell BK417.out 6).trans rfl; have hcz50_7 : w49.cell? ⟨gb417, 7, none⟩ = some (.int .i64 a0_7) := (blk_cell BK417.out 7).trans rfl; have hcz50_8 : w49.cell? ⟨gb417, 8, none⟩ = some (.int .i64 a0_8) := (blk_cell BK417.out 8).trans rfl; have hcz50_9 : w49.cell? ⟨gb417, 9, none⟩ = some (.int .i64 a0_9) := (blk_cell BK417.out 9).trans rfl; have hcz50_10 : w49.cell? ⟨gb417, 10, none⟩ = some (.int .i64 a0_10) := (blk_cell BK417.out 10).trans rfl; have hcz50_11 : w49.cell? ⟨gb417, 11, none⟩ = some (.int .i64 a0_11) := (blk_cell BK417.out 11).trans rfl; have hcz50_12 : w49.cell? ⟨gb417, 12, none⟩ = some (.int .i64 a0_12) := (blk_cell BK417.out 12).trans rfl; have hcz50_13 : w49.cell? ⟨gb417, 13, none⟩ = some (.int .i64 a0_13) := (blk_cell BK417.out 13).trans rfl; have hfz50_0 := blk_frozen BK417.out 0; have hfz50_1 := blk_frozen BK417.out 1; have hfz50_2 := blk_frozen BK417.out 2; have hfz50_3 := blk_frozen BK417.out 3; have hfz50_4 := blk_frozen BK417.out 4; have hfz50_5 := blk_frozen BK417.out 5; have hfz50_6 := blk_frozen BK417.out 6; have hfz50_7 := blk_frozen BK417.out 7; have hfz50_8 := blk_frozen BK417.out 8; have hfz50_9 := blk_frozen BK417.out 9; have hfz50_10 := blk_frozen BK417.out 10; have hfz50_11 := blk_frozen BK417.out 11; have hfz50_12 := blk_frozen BK417.out 12; have hfz50_13 := blk_frozen BK417.out 13) | ((with_reducible refine gate_callee (f := 78) rfl ?_); refine goesL_ (some 10) rfl rfl Try.func78 (by kernel_rfl) rfl #[.slice A0_0 l0_0.length c0_0] rfl (by (try simp only [List.map_toArray, List.map_cons, List.map_nil]); first | done | rfl | (simp only [List.length_drop, List.length_take]; rfl)) ?_; (with_reducible refine (fareboxref07_stations.calls k _ _ l0_0 t418 false _ ?side1 ?side2 A2.out).mono ?_); (case side1 => repeat (first | exact (Kd.C_below HR0_0.out HB.out) | (with_reducible refine Kd.C_alloc ?_ _) | (with_reducible refine Kd.C_drewN ?_ _) | (with_reducible refine Kd.C_drew ?_))); (case side2 => exact HC0_0.out); rintro e w51 ⟨rfl, hb⟩; refine ⟨_, rfl, ?_⟩; have n0_ := Aside0.mk (blk_below (g := gb417) (o := .cells #[.slice A0_0 l0_0.length c0_0, .slice A0_1 l0_1.length c0_1, .slice A0_2 l0_2.length c0_2, .float .f64 a0_3, .int .i64 a0_4, .int .i64 a0_5, .int .i64 a0_6, .int .i64 a0_7, .int .i64 a0_8, .int .i64 a0_9, .int .i64 a0_10, .int .i64 a0_11, .int .i64 a0_12, .int .i64 a0_13] 27 (0, 0)) (by (with_reducible repeat (first | refine blk_drewN ?_ _ | refine blk_drew ?_ | refine blk_alloc ?_ _)); exact BK417.out) hb); have n1_ := Aside0.mk (below_step (by repeat (first | (with_reducible first | exact HB.out | apply below_alloc | apply pw_below_drewN | apply below_drew1 | refine below_set ?_ GE417.out) | exact HB.out)) hb); clear BK417; clear HB; have BK417 := n0_; have HB := n1_; clear n0_ n1_; (try clear hb); (try clear hb2); (try clear hk); (try clear hi)))
    go_ret
    exact ⟨by first | rfl | (simp [errW_none, errW_some] <;> rfl) | (simp [*, errW_none, errW_some] <;> rfl), by repeat (first | (with_reducible first | exact HB.out | apply below_alloc | apply pw_below_drewN | apply below_drew1 | refine below_set ?_ GE417.out) | exact HB.out)⟩
end Go.Proofs.YtmeogadkbbeglaaQ
