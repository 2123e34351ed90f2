/- Printed by the turned printer (wip/fltpatch.py, wip/tools/pp.sh) out of the translation: what functions compute, and their walks. -/
import Derived.Test.YtmeogadkbbeglaaK3
namespace Go.Proofs.YtmeogadkbbeglaaQ
open Go.RowKit Go.Proofs.YtmeogadkbbeglaaW.PrintWords Go.Proofs.YtmeogadkbbeglaaW.PrintLast Go.Proofs.YtmeogadkbbeglaaW.PrintMore
attribute [local go_sem] max2_int min2_int max_two min_two max_three min_three max_four min_four   -- for this text's walks alone
set_option linter.unusedVariables false
set_option linter.unusedSimpArgs false
def fareboxref07_Span.l0 : Nat → Int → Int → Int → List (S35) → List (S39) → List (S48) → Nat → Int → Int → Int → Int → Int → Int → Int → Int → Int → Int → Option (Int × Int × Int × Int × Int × Bool)
  | 0, _, _, _, _, _, _, _, _, _, _, _, _, _, _, _, _, _ => none
  | k + 1, x1, x2, x8, x431000, x431001, x431002, x431003, x431004, x431005, x431006, x431007, x431008, x431009, x431010, x431011, x431012, x431013 => if x8 < (x431001.length : Int) then (if 0 ≤ x8 then (if ((rd_T39 x431001 x8).f0) = (mn x1 x2) then (if ((rd_T39 x431001 x8).f1) = (mx x1 x2) then (some ((rd_T39 x431001 x8).f0, (rd_T39 x431001 x8).f1, (rd_T39 x431001 x8).f2, (rd_T39 x431001 x8).f3, (rd_T39 x431001 x8).f4, true)) else (fareboxref07_Span.l0 k x1 x2 (wrap64 (x8 + 1)) x431000 x431001 x431002 x431003 x431004 x431005 x431006 x431007 x431008 x431009 x431010 x431011 x431012 x431013)) else (fareboxref07_Span.l0 k x1 x2 (wrap64 (x8 + 1)) x431000 x431001 x431002 x431003 x431004 x431005 x431006 x431007 x431008 x431009 x431010 x431011 x431012 x431013)) else (none)) else (some (0, 0, 0, 0, 0, false))
def fareboxref07_Span.f (k : Nat) (l0_0 : List (S35)) (l0_1 : List (S39)) (l0_2 : List (S48)) (a0_3 : Nat) (a0_4 : Int) (a0_5 : Int) (a0_6 : Int) (a0_7 : Int) (a0_8 : Int) (a0_9 : Int) (a0_10 : Int) (a0_11 : Int) (a0_12 : Int) (a0_13 : Int) (a1 : Int) (a2 : Int) : Option (Int × Int × Int × Int × Int × Bool) := fareboxref07_Span.l0 k a1 a2 0 l0_0 l0_1 l0_2 a0_3 a0_4 a0_5 a0_6 a0_7 a0_8 a0_9 a0_10 a0_11 a0_12 a0_13
set_option maxHeartbeats 8000000 in
set_option maxRecDepth 100000 in
theorem fareboxref07_Span.calls (k : Nat) (A0_0 : Option Addr) (c0_0 : Nat) (l0_0 : List (S35)) (A0_1 : Option Addr) (c0_1 : Nat) (l0_1 : List (S39)) (A0_2 : Option Addr) (c0_2 : Nat) (l0_2 : List (S48)) (a0_3 : Nat) (a0_4 : Int) (a0_5 : Int) (a0_6 : Int) (a0_7 : Int) (a0_8 : Int) (a0_9 : Int) (a0_10 : Int) (a0_11 : Int) (a0_12 : Int) (a0_13 : Int) (a1 : Int) (a2 : Int) (r1 : Int) (r2 : Int) (r3 : Int) (r4 : Int) (r5 : Int) (r6 : Bool) (w : World) (hr0_0 : Kd.C k35 w A0_0 l0_0.length l0_0) (hc0_0 : l0_0.length ≤ c0_0) (hr0_1 : Kd.C k39 w A0_1 l0_1.length l0_1) (hc0_1 : l0_1.length ≤ c0_1) (hr0_2 : Kd.C k48 w A0_2 l0_2.length l0_2) (hc0_2 : l0_2.length ≤ c0_2) (h : fareboxref07_Span.f k l0_0 l0_1 l0_2 a0_3 a0_4 a0_5 a0_6 a0_7 a0_8 a0_9 a0_10 a0_11 a0_12 a0_13 a1 a2 = some (r1, r2, r3, r4, r5, r6)) :
    Calls Try.prog 35 #[.agg #[.slice A0_0 l0_0.length c0_0, .slice A0_1 l0_1.length c0_1, .slice A0_2 l0_2.length c0_2, .float .f64 a0_3, .int .i64 a0_4, .int .i64 a0_5, .int .i64 a0_6, .int .i64 a0_7, .int .i64 a0_8, .int .i64 a0_9, .int .i64 a0_10, .int .i64 a0_11, .int .i64 a0_12, .int .i64 a0_13], .int .i64 a1, .int .i64 a2] w fun e w' => e = .returned (.tuple #[.agg #[.int .i64 r1, .int .i64 r2, .int .i64 r3, .int .i64 r4, .int .i64 r5], .bool r6]) ∧ Below w.heap.size w w' := by
  have hu27 := Try.underlying27
  have hu39 := Try.underlying39
  have HR0_0 := Aside0.mk hr0_0
  have HC0_0 := Aside0.mk hc0_0
  clear hr0_0 hc0_0
  have HR0_1 := Aside0.mk hr0_1
  have HC0_1 := Aside0.mk hc0_1
  clear hr0_1 hc0_1
  have HR0_2 := Aside0.mk hr0_2
  have HC0_2 := Aside0.mk hc0_2
  clear hr0_2 hc0_2
  have HB := Aside0.mk (Below.refl w.heap.size w)
  have H : (fareboxref07_Span.l0 k a1 a2 0 l0_0 l0_1 l0_2 a0_3 a0_4 a0_5 a0_6 a0_7 a0_8 a0_9 a0_10 a0_11 a0_12 a0_13) = some (r1, r2, r3, r4, r5, r6) := h
  clear h
  have H' := Aside0.mk H
  clear H
  go_enter Try.func35, Try.ntmps35
  go_wp2_with (first | ((with_reducible refine gate_dst (N := 3) rfl ?_); (try (refine gate_guard (by rfl) ?_; dsimp only)); refine box_event ?hg (N := 3) ?hd (cs := #[.slice A0_0 l0_0.length c0_0, .slice A0_1 l0_1.length c0_1, .slice A0_2 l0_2.length c0_2, .float .f64 a0_3, .int .i64 a0_4, .int .i64 a0_5, .int .i64 a0_6, .int .i64 a0_7, .int .i64 a0_8, .int .i64 a0_9, .int .i64 a0_10, .int .i64 a0_11, .int .i64 a0_12, .int .i64 a0_13]) (t := 27) ?hr ?_; (case hd => rfl); (case hg => rfl); (case hr => first | (go_simp; done) | (go_simp; rfl)); intro gb430 hg w4 hbox hb; have n0_ := Aside0.mk (below_step (by repeat (first | (with_reducible first | exact HB.out | apply below_alloc | apply pw_below_drewN | apply below_drew1) | exact HB.out)) hb); have n1_ := Aside0.mk (hbox); have n2_ := Aside0.mk ((by rw [hg]; exact (below_size (by repeat (first | (with_reducible first | exact HB.out | apply below_alloc | apply pw_below_drewN | apply below_drew1) | exact HB.out))) : w.heap.size ≤ gb430)); have n3_ := Aside0.mk ((by rw [hg]; exact (below_size (by repeat (first | (with_reducible first | exact HB.out | apply below_alloc | apply pw_below_drewN | apply below_drew1) | exact HB.out))) : w.heap.size ≤ gb430)); clear HB; have HB := n0_; have BK430 := n1_; have GW430 := n2_; have GE430 := n3_; clear n0_ n1_ n2_ n3_; clear hb hbox hg) | ((with_reducible refine gate_dst (N := 6) rfl ?_); (try (refine gate_guard (by rfl) ?_; dsimp only)); refine box_event ?hg (N := 6) ?hd (cs := #[.int .i64 0, .int .i64 0, .int .i64 0, .int .i64 0, .int .i64 0]) (t := 39) ?hr ?_; (case hd => rfl); (case hg => rfl); (case hr => first | (go_simp; done) | (go_simp; rfl)); intro gb431 hg w5 hbox hb; have n0_ := Aside0.mk (blk_below (g := gb430) (o := .cells #[.slice A0_0 l0_0.length c0_0, .slice A0_1 l0_1.length c0_1, .slice A0_2 l0_2.length c0_2, .float .f64 a0_3, .int .i64 a0_4, .int .i64 a0_5, .int .i64 a0_6, .int .i64 a0_7, .int .i64 a0_8, .int .i64 a0_9, .int .i64 a0_10, .int .i64 a0_11, .int .i64 a0_12, .int .i64 a0_13] 27 (0, 0)) (by (with_reducible repeat (first | refine blk_drewN ?_ _ | refine blk_drew ?_ | refine blk_alloc ?_ _)); exact BK430.out) hb); have n1_ := Aside0.mk (below_step (by repeat (first | (with_reducible first | exact HB.out | apply below_alloc | apply pw_below_drewN | apply below_drew1 | refine below_set ?_ GE430.out) | exact HB.out)) hb); have n2_ := Aside0.mk (hbox); have n3_ := Aside0.mk ((by rw [hg]; exact (below_size (by repeat (first | (with_reducible first | exact HB.out | apply below_alloc | apply pw_below_drewN | apply below_drew1 | refine below_set ?_ GE430.out) | exact HB.out))) : w.heap.size ≤ gb431)); have n4_ := Aside0.mk ((by rw [hg]; exact (below_size (by repeat (first | (with_reducible first | exact HB.out | apply below_alloc | apply pw_below_drewN | apply below_drew1 | refine below_set ?_ GE430.out) | exact HB.out))) : w.heap.size ≤ gb431)); have n5_ := Aside0.mk ((by rw [hg]; exact Nat.ne_of_lt (blk_lt (g := gb430) (o := .cells #[.slice A0_0 l0_0.length c0_0, .slice A0_1 l0_1.length c0_1, .slice A0_2 l0_2.length c0_2, .float .f64 a0_3, .int .i64 a0_4, .int .i64 a0_5, .int .i64 a0_6, .int .i64 a0_7, .int .i64 a0_8, .int .i64 a0_9, .int .i64 a0_10, .int .i64 a0_11, .int .i64 a0_12, .int .i64 a0_13] 27 (0, 0)) (by (with_reducible repeat (first | refine blk_drewN ?_ _ | refine blk_drew ?_ | refine blk_alloc ?_ _)); exact BK430.out)) : gb430 ≠ gb431)); have n6_ := Aside0.mk ((by rw [hg]; exact Nat.ne_of_gt (blk_lt (g := gb430) (o := .cells #[.slice A0_0 l0_0.length c0_0, .slice A0_1 l0_1.length c0_1, .slice A0_2 l0_2.length c0_2, .float .f64 a0_3, .int .i64 a0_4, .int .i64 a0_5, .int .i64 a0_6, .int .i64 a0_7, .int .i64 a0_8, .int .i64 a0_9, .int .i64 a0_10, .int .i64 a0_11, .int .i64 a0_12, .int .i64 a0_13] 27 (0, 0)) (by (with_reducible repeat (first | refine blk_drewN ?_ _ | refine blk_drew ?_ | refine blk_alloc ?_ _)); exact BK430.out)) : gb431 ≠ gb430)); clear BK430; clear HB; have BK430 := n0_; have HB := n1_; have BK431 := n2_; have GW431 := n3_; have GE431 := n4_; have NB430_431 := n5_; have NB431_430 := n6_; clear n0_ n1_ n2_ n3_ n4_ n5_ n6_; clear hb hbox hg))
  go_loopg [8] k (fun kq v8 w' => ∃ (x8_1 : Int) (x432000_1 : Int) (x432001_1 : Int) (x432002_1 : Int) (x432003_1 : Int) (x432004_1 : Int), v8 = .int .i64 x8_1 ∧ Aside0 (fareboxref07_Span.l0 kq a1 a2 x8_1 l0_0 l0_1 l0_2 a0_3 a0_4 a0_5 a0_6 a0_7 a0_8 a0_9 a0_10 a0_11 a0_12 a0_13 = some (r1, r2, r3, r4, r5, r6)) ∧ Aside0 (kq ≤ k) ∧ Aside0 (w'.heap[gb430]? = some (.cells #[(.slice A0_0 l0_0.length c0_0), (.slice A0_1 l0_1.length c0_1), (.slice A0_2 l0_2.length c0_2), .float .f64 a0_3, .int .i64 a0_4, .int .i64 a0_5, .int .i64 a0_6, .int .i64 a0_7, .int .i64 a0_8, .int .i64 a0_9, .int .i64 a0_10, .int .i64 a0_11, .int .i64 a0_12, .int .i64 a0_13] 27 (0, 0))) ∧ Aside0 (w'.heap[gb431]? = some (.cells #[.int .i64 x432000_1, .int .i64 x432001_1, .int .i64 x432002_1, .int .i64 x432003_1, .int .i64 x432004_1] 39 (0, 0))) ∧ Aside0 (Below w.heap.size w w'))
  case atStart => exact ⟨(0), (0), (0), (0), (0), (0), (by first | rfl | (simp; done) | (simp [*]; done)), H', ⟨Nat.le_refl _⟩, ⟨by (with_reducible repeat (first | refine blk_drewN ?_ _ | refine blk_drew ?_ | refine blk_alloc ?_ _)); exact BK430.out⟩, ⟨by (with_reducible repeat (first | refine blk_drewN ?_ _ | refine blk_drew ?_ | refine blk_alloc ?_ _)); exact BK431.out⟩, ⟨by repeat (first | (with_reducible first | exact HB.out | apply below_alloc | apply pw_below_drewN | apply below_drew1 | refine below_set ?_ GE430.out | refine below_set ?_ GE431.out) | exact HB.out)⟩⟩
  case round =>
    clear H'
    try clear p2
    try clear c3
    obtain ⟨x8_1, x432000_1, x432001_1, x432002_1, x432003_1, x432004_1, rfl, HA, HK1, BK430, BK431, HB⟩ := hrel
    cases gk with
    | zero => exact absurd HA.out (by simp [fareboxref07_Span.l0])
    | succ k1 =>
      have H := HA.out
      clear HA
      simp only [fareboxref07_Span.l0] at H
      by_cases c6 : x8_1 < (l0_1.length : Int)
      · rw [if_pos c6] at H
        have c6b0 : decide (x8_1 < (l0_1.length : Int)) = true := decide_eq_true c6
        clear c6
        by_cases c7 : 0 ≤ x8_1
        · rw [if_pos c7] at H
          have c7b0 : decide (0 ≤ x8_1) = true := decide_eq_true c7
          clear c7
          obtain ⟨ji8, hji8⟩ : ∃ j_ : Int, (mn a1 a2) = j_ := ⟨_, rfl⟩
          replace H : (if ((rd_T39 l0_1 x8_1).f0) = (ji8) then (if ((rd_T39 l0_1 x8_1).f1) = (mx a1 a2) then (some ((rd_T39 l0_1 x8_1).f0, (rd_T39 l0_1 x8_1).f1, (rd_T39 l0_1 x8_1).f2, (rd_T39 l0_1 x8_1).f3, (rd_T39 l0_1 x8_1).f4, true)) else (fareboxref07_Span.l0 k1 a1 a2 (wrap64 (x8_1 + 1)) l0_0 l0_1 l0_2 a0_3 a0_4 a0_5 a0_6 a0_7 a0_8 a0_9 a0_10 a0_11 a0_12 a0_13)) else (fareboxref07_Span.l0 k1 a1 a2 (wrap64 (x8_1 + 1)) l0_0 l0_1 l0_2 a0_3 a0_4 a0_5 a0_6 a0_7 a0_8 a0_9 a0_10 a0_11 a0_12 a0_13)) = some (r1, r2, r3, r4, r5, r6) := by first | (rw [hji8] at H; exact H) | (simp only [hji8] at H ⊢; exact H)
          have hji8_ : (if a2 < a1 then a2 else a1) = ji8 := hji8
          by_cases c9 : ((rd_T39 l0_1 x8_1).f0) = (ji8)
          · rw [if_pos c9] at H
            have c9b0 : (((rd_T39 l0_1 x8_1).f0) == (ji8)) = true := beq_iff_eq.mpr c9
            have c9b1 : (((rd_T39 l0_1 x8_1).f0) != (ji8)) = false := bne_eq_false_iff_eq.mpr c9
            clear c9
            obtain ⟨ji10, hji10⟩ : ∃ j_ : Int, (mx a1 a2) = j_ := ⟨_, rfl⟩
            replace H : (if ((rd_T39 l0_1 x8_1).f1) = (ji10) then (some ((rd_T39 l0_1 x8_1).f0, (rd_T39 l0_1 x8_1).f1, (rd_T39 l0_1 x8_1).f2, (rd_T39 l0_1 x8_1).f3, (rd_T39 l0_1 x8_1).f4, true)) else (fareboxref07_Span.l0 k1 a1 a2 (wrap64 (x8_1 + 1)) l0_0 l0_1 l0_2 a0_3 a0_4 a0_5 a0_6 a0_7 a0_8 a0_9 a0_10 a0_11 a0_12 a0_13)) = some (r1, r2, r3, r4, r5, r6) := by first | (rw [hji10] at H; exact H) | (simp only [hji10] at H ⊢; exact H)
            have hji10_ : (if a1 < a2 then a2 else a1) = ji10 := hji10
            by_cases c11 : ((rd_T39 l0_1 x8_1).f1) = (ji10)
            · rw [if_pos c11] at H
              have c11b0 : (((rd_T39 l0_1 x8_1).f1) == (ji10)) = true := beq_iff_eq.mpr c11
              have c11b1 : (((rd_T39 l0_1 x8_1).f1) != (ji10)) = false := bne_eq_false_iff_eq.mpr c11
              clear c11
              simp only [Option.some.injEq, Prod.mk.injEq] at H
              obtain ⟨rfl, rfl, rfl, rfl, rfl, rfl⟩ := H
              have hnb12 := NB430_431.out
              have hnc12 := NB431_430.out
              have hcz13_0 : wr.cell? ⟨gb430, 0, none⟩ = some (.slice A0_0 l0_0.length c0_0) := (blk_cell BK430.out 0).trans rfl
              have hcz13_1 : wr.cell? ⟨gb430, 1, none⟩ = some (.slice A0_1 l0_1.length c0_1) := (blk_cell BK430.out 1).trans rfl
              have hcz13_2 : wr.cell? ⟨gb430, 2, none⟩ = some (.slice A0_2 l0_2.length c0_2) := (blk_cell BK430.out 2).trans rfl
              have hcz13_3 : wr.cell? ⟨gb430, 3, none⟩ = some (.float .f64 a0_3) := (blk_cell BK430.out 3).trans rfl
              have hcz13_4 : wr.cell? ⟨gb430, 4, none⟩ = some (.int .i64 a0_4) := (blk_cell BK430.out 4).trans rfl
              have hcz13_5 : wr.cell? ⟨gb430, 5, none⟩ = some (.int .i64 a0_5) := (blk_cell BK430.out 5).trans rfl
              have hcz13_6 : wr.cell? ⟨gb430, 6, none⟩ = some (.int .i64 a0_6) := (blk_cell BK430.out 6).trans rfl
              have hcz13_7 : wr.cell? ⟨gb430, 7, none⟩ = some (.int .i64 a0_7) := (blk_cell BK430.out 7).trans rfl
              have hcz13_8 : wr.cell? ⟨gb430, 8, none⟩ = some (.int .i64 a0_8) := (blk_cell BK430.out 8).trans rfl
              have hcz13_9 : wr.cell? ⟨gb430, 9, none⟩ = some (.int .i64 a0_9) := (blk_cell BK430.out 9).trans rfl
              have hcz13_10 : wr.cell? ⟨gb430, 10, none⟩ = some (.int .i64 a0_10) := (blk_cell BK430.out 10).trans rfl
              have hcz13_11 : wr.cell? ⟨gb430, 11, none⟩ = some (.int .i64 a0_11) := (blk_cell BK430.out 11).trans rfl
              have hcz13_12 : wr.cell? ⟨gb430, 12, none⟩ = some (.int .i64 a0_12) := (blk_cell BK430.out 12).trans rfl
              have hcz13_13 : wr.cell? ⟨gb430, 13, none⟩ = some (.int .i64 a0_13) := (blk_cell BK430.out 13).trans rfl
              have hfz13_0 := blk_frozen BK430.out 0
              have hfz13_1 := blk_frozen BK430.out 1
              have hfz13_2 := blk_frozen BK430.out 2
              have hfz13_3 := blk_frozen BK430.out 3
              have hfz13_4 := blk_frozen BK430.out 4
              have hfz13_5 := blk_frozen BK430.out 5
              have hfz13_6 := blk_frozen BK430.out 6
              have hfz13_7 := blk_frozen BK430.out 7
              have hfz13_8 := blk_frozen BK430.out 8
              have hfz13_9 := blk_frozen BK430.out 9
              have hfz13_10 := blk_frozen BK430.out 10
              have hfz13_11 := blk_frozen BK430.out 11
              have hfz13_12 := blk_frozen BK430.out 12
              have hfz13_13 := blk_frozen BK430.out 13
              have p432 : 0 ≤ (x8_1 : Int) := of_decide_eq_true (by first | (with_reducible assumption) | assumption)
              have q432 : x8_1 < (l0_1.length : Int) := of_decide_eq_true (by first | (with_reducible assumption) | assumption)
              obtain ⟨ad432, e432, hx432_0, hx432_1, hx432_2, hx432_3, hx432_4⟩ := at_T39 HR0_1.out x8_1 p432 q432
              cases e432
              replace hx432_0 := (HB.out.cell (World.block_lt_of_cell? w _ hx432_0)).trans hx432_0
              replace hx432_1 := (HB.out.cell (World.block_lt_of_cell? w _ hx432_1)).trans hx432_1
              replace hx432_2 := (HB.out.cell (World.block_lt_of_cell? w _ hx432_2)).trans hx432_2
              replace hx432_3 := (HB.out.cell (World.block_lt_of_cell? w _ hx432_3)).trans hx432_3
              replace hx432_4 := (HB.out.cell (World.block_lt_of_cell? w _ hx432_4)).trans hx432_4
              replace p432 := eq_true p432
              replace q432 := eq_true q432
              have p433 : 0 ≤ (x8_1 : Int) := of_decide_eq_true (by first | (with_reducible assumption) | assumption)
              have q433 : x8_1 < (l0_1.length : Int) := of_decide_eq_true (by first | (with_reducible assumption) | assumption)
              obtain ⟨ad433, e433, hx433_0, hx433_1, hx433_2, hx433_3, hx433_4⟩ := at_T39 HR0_1.out x8_1 p433 q433
              obtain rfl : ad432 = ad433 := (by injection e433)
              replace hx433_0 := (HB.out.cell (World.block_lt_of_cell? w _ hx433_0)).trans hx433_0
              replace hx433_1 := (HB.out.cell (World.block_lt_of_cell? w _ hx433_1)).trans hx433_1
              replace hx433_2 := (HB.out.cell (World.block_lt_of_cell? w _ hx433_2)).trans hx433_2
              replace hx433_3 := (HB.out.cell (World.block_lt_of_cell? w _ hx433_3)).trans hx433_3
              replace hx433_4 := (HB.out.cell (World.block_lt_of_cell? w _ hx433_4)).trans hx433_4
              replace p433 := eq_true p433
              replace q433 := eq_true q433
              have p434 : 0 ≤ (x8_1 : Int) := of_decide_eq_true (by first | (with_reducible assumption) | assumption)
              have q434 : x8_1 < (l0_1.length : Int) := of_decide_eq_true (by first | (with_reducible assumption) | assumption)
              obtain ⟨ad434, e434, hx434_0, hx434_1, hx434_2, hx434_3, hx434_4⟩ := at_T39 HR0_1.out x8_1 p434 q434
              obtain rfl : ad432 = ad434 := (by injection e434)
              replace hx434_0 := (HB.out.cell (World.block_lt_of_cell? w _ hx434_0)).trans hx434_0
              replace hx434_1 := (HB.out.cell (World.block_lt_of_cell? w _ hx434_1)).trans hx434_1
              replace hx434_2 := (HB.out.cell (World.block_lt_of_cell? w _ hx434_2)).trans hx434_2
              replace hx434_3 := (HB.out.cell (World.block_lt_of_cell? w _ hx434_3)).trans hx434_3
              replace hx434_4 := (HB.out.cell (World.block_lt_of_cell? w _ hx434_4)).trans hx434_4
              replace p434 := eq_true p434
              replace q434 := eq_true q434
              have hcz14_0 : wr.cell? ⟨gb431, 0, none⟩ = some (.int .i64 x432000_1) := (blk_cell BK431.out 0).trans rfl
              have hcz14_1 : wr.cell? ⟨gb431, 1, none⟩ = some (.int .i64 x432001_1) := (blk_cell BK431.out 1).trans rfl
              have hcz14_2 : wr.cell? ⟨gb431, 2, none⟩ = some (.int .i64 x432002_1) := (blk_cell BK431.out 2).trans rfl
              have hcz14_3 : wr.cell? ⟨gb431, 3, none⟩ = some (.int .i64 x432003_1) := (blk_cell BK431.out 3).trans rfl
              have hcz14_4 : wr.cell? ⟨gb431, 4, none⟩ = some (.int .i64 x432004_1) := (blk_cell BK431.out 4).trans rfl
              have hfz14_0 := blk_frozen BK431.out 0
              have hfz14_1 := blk_frozen BK431.out 1
              have hfz14_2 := blk_frozen BK431.out 2
              have hfz14_3 := blk_frozen BK431.out 3
              have hfz14_4 := blk_frozen BK431.out 4
              go_wp2
              refine bodyPost_ret (results_ct rfl _ _ gb431 39 #[.int .i64 ((rd_T39 l0_1 x8_1).f0), .int .i64 ((rd_T39 l0_1 x8_1).f1), .int .i64 ((rd_T39 l0_1 x8_1).f2), .int .i64 ((rd_T39 l0_1 x8_1).f3), .int .i64 ((rd_T39 l0_1 x8_1).f4)] (0, 0) _ rfl (by (with_reducible repeat (first | refine blk_drewN ?_ _ | refine blk_drew ?_ | refine blk_alloc ?_ _)); refine blk_put (cs := #[.int .i64 ((rd_T39 l0_1 x8_1).f0), .int .i64 ((rd_T39 l0_1 x8_1).f1), .int .i64 ((rd_T39 l0_1 x8_1).f2), .int .i64 ((rd_T39 l0_1 x8_1).f3), .int .i64 x432004_1]) ?_ 4 _ rfl; (with_reducible repeat (first | refine blk_drewN ?_ _ | refine blk_drew ?_ | refine blk_alloc ?_ _)); refine blk_put (cs := #[.int .i64 ((rd_T39 l0_1 x8_1).f0), .int .i64 ((rd_T39 l0_1 x8_1).f1), .int .i64 ((rd_T39 l0_1 x8_1).f2), .int .i64 x432003_1, .int .i64 x432004_1]) ?_ 3 _ rfl; (with_reducible repeat (first | refine blk_drewN ?_ _ | refine blk_drew ?_ | refine blk_alloc ?_ _)); refine blk_put (cs := #[.int .i64 ((rd_T39 l0_1 x8_1).f0), .int .i64 ((rd_T39 l0_1 x8_1).f1), .int .i64 x432002_1, .int .i64 x432003_1, .int .i64 x432004_1]) ?_ 2 _ rfl; (with_reducible repeat (first | refine blk_drewN ?_ _ | refine blk_drew ?_ | refine blk_alloc ?_ _)); refine blk_put (cs := #[.int .i64 ((rd_T39 l0_1 x8_1).f0), .int .i64 x432001_1, .int .i64 x432002_1, .int .i64 x432003_1, .int .i64 x432004_1]) ?_ 1 _ rfl; (with_reducible repeat (first | refine blk_drewN ?_ _ | refine blk_drew ?_ | refine blk_alloc ?_ _)); refine blk_put (cs := #[.int .i64 x432000_1, .int .i64 x432001_1, .int .i64 x432002_1, .int .i64 x432003_1, .int .i64 x432004_1]) ?_ 0 _ rfl; (with_reducible repeat (first | refine blk_drewN ?_ _ | refine blk_drew ?_ | refine blk_alloc ?_ _)); exact BK431.out) Try.underlying39 rfl (by kernel_rfl)) rfl ?_
              exact ⟨by first | rfl | (simp [errW_none, errW_some] <;> rfl) | (simp only [← hji8, ← hji10]; first | rfl | (simp [errW_none, errW_some] <;> rfl)) | (simp [*, errW_none, errW_some] <;> rfl), by repeat (first | (with_reducible first | exact HB.out | apply below_alloc | apply pw_below_drewN | apply below_drew1 | refine below_set ?_ GE430.out | refine below_set ?_ GE431.out) | exact HB.out)⟩
            · rw [if_neg c11] at H
              have c11b0 : (((rd_T39 l0_1 x8_1).f1) == (ji10)) = false := beq_eq_false_iff_ne.mpr c11
              have c11b1 : (((rd_T39 l0_1 x8_1).f1) != (ji10)) = true := bne_iff_ne.mpr c11
              have H' := Aside0.mk H
              clear H
              have hnb15 := NB430_431.out
              have hnc15 := NB431_430.out
              have hcz16_0 : wr.cell? ⟨gb430, 0, none⟩ = some (.slice A0_0 l0_0.length c0_0) := (blk_cell BK430.out 0).trans rfl
              have hcz16_1 : wr.cell? ⟨gb430, 1, none⟩ = some (.slice A0_1 l0_1.length c0_1) := (blk_cell BK430.out 1).trans rfl
              have hcz16_2 : wr.cell? ⟨gb430, 2, none⟩ = some (.slice A0_2 l0_2.length c0_2) := (blk_cell BK430.out 2).trans rfl
              have hcz16_3 : wr.cell? ⟨gb430, 3, none⟩ = some (.float .f64 a0_3) := (blk_cell BK430.out 3).trans rfl
              have hcz16_4 : wr.cell? ⟨gb430, 4, none⟩ = some (.int .i64 a0_4) := (blk_cell BK430.out 4).trans rfl
              have hcz16_5 : wr.cell? ⟨gb430, 5, none⟩ = some (.int .i64 a0_5) := (blk_cell BK430.out 5).trans rfl
              have hcz16_6 : wr.cell? ⟨gb430, 6, none⟩ = some (.int .i64 a0_6) := (blk_cell BK430.out 6).trans rfl
              have hcz16_7 : wr.cell? ⟨gb430, 7, none⟩ = some (.int .i64 a0_7) := (blk_cell BK430.out 7).trans rfl
              have hcz16_8 : wr.cell? ⟨gb430, 8, none⟩ = some (.int .i64 a0_8) := (blk_cell BK430.out 8).trans rfl
              have hcz16_9 : wr.cell? ⟨gb430, 9, none⟩ = some (.int .i64 a0_9) := (blk_cell BK430.out 9).trans rfl
              have hcz16_10 : wr.cell? ⟨gb430, 10, none⟩ = some (.int .i64 a0_10) := (blk_cell BK430.out 10).trans rfl
              have hcz16_11 : wr.cell? ⟨gb430, 11, none⟩ = some (.int .i64 a0_11) := (blk_cell BK430.out 11).trans rfl
              have hcz16_12 : wr.cell? ⟨gb430, 12, none⟩ = some (.int .i64 a0_12) := (blk_cell BK430.out 12).trans rfl
              have hcz16_13 : wr.cell? ⟨gb430, 13, none⟩ = some (.int .i64 a0_13) := (blk_cell BK430.out 13).trans rfl
              have hfz16_0 := blk_frozen BK430.out 0
              have hfz16_1 := blk_frozen BK430.out 1
              have hfz16_2 := blk_frozen BK430.out 2
              have hfz16_3 := blk_frozen BK430.out 3
              have hfz16_4 := blk_frozen BK430.out 4
              have hfz16_5 := blk_frozen BK430.out 5
              have hfz16_6 := blk_frozen BK430.out 6
              have hfz16_7 := blk_frozen BK430.out 7
              have hfz16_8 := blk_frozen BK430.out 8
              have hfz16_9 := blk_frozen BK430.out 9
              have hfz16_10 := blk_frozen BK430.out 10
              have hfz16_11 := blk_frozen BK430.out 11
              have hfz16_12 := blk_frozen BK430.out 12
              have hfz16_13 := blk_frozen BK430.out 13
              have p432 : 0 ≤ (x8_1 : Int) := of_decide_eq_true (by first | (with_reducible assumption) | assumption)
              have q432 : x8_1 < (l0_1.length : Int) := of_decide_eq_true (by first | (with_reducible assumption) | assumption)
              obtain ⟨ad432, e432, hx432_0, hx432_1, hx432_2, hx432_3, hx432_4⟩ := at_T39 HR0_1.out x8_1 p432 q432
              cases e432
              replace hx432_0 := (HB.out.cell (World.block_lt_of_cell? w _ hx432_0)).trans hx432_0
              replace hx432_1 := (HB.out.cell (World.block_lt_of_cell? w _ hx432_1)).trans hx432_1
              replace hx432_2 := (HB.out.cell (World.block_lt_of_cell? w _ hx432_2)).trans hx432_2
              replace hx432_3 := (HB.out.cell (World.block_lt_of_cell? w _ hx432_3)).trans hx432_3
              replace hx432_4 := (HB.out.cell (World.block_lt_of_cell? w _ hx432_4)).trans hx432_4
              replace p432 := eq_true p432
              replace q432 := eq_true q432
              have p433 : 0 ≤ (x8_1 : Int) := of_decide_eq_true (by first | (with_reducible assumption) | assumption)
              have q433 : x8_1 < (l0_1.length : Int) := of_decide_eq_true (by first | (with_reducible assumption) | assumption)
              obtain ⟨ad433, e433, hx433_0, hx433_1, hx433_2, hx433_3, hx433_4⟩ := at_T39 HR0_1.out x8_1 p433 q433
              obtain rfl : ad432 = ad433 := (by injection e433)
              replace hx433_0 := (HB.out.cell (World.block_lt_of_cell? w _ hx433_0)).trans hx433_0
              replace hx433_1 := (HB.out.cell (World.block_lt_of_cell? w _ hx433_1)).trans hx433_1
              replace hx433_2 := (HB.out.cell (World.block_lt_of_cell? w _ hx433_2)).trans hx433_2
              replace hx433_3 := (HB.out.cell (World.block_lt_of_cell? w _ hx433_3)).trans hx433_3
              replace hx433_4 := (HB.out.cell (World.block_lt_of_cell? w _ hx433_4)).trans hx433_4
              replace p433 := eq_true p433
              replace q433 := eq_true q433
              go_wp2
              go_roundg k1
              case measure => have := HK1.out; omega
              case rel => exact ⟨(wrap64 (x8_1 + 1)), (x432000_1), (x432001_1), (x432002_1), (x432003_1), (x432004_1), (by first | rfl | (simp; done) | (simp [*]; done)), H', ⟨by have := HK1.out; omega⟩, ⟨by (with_reducible repeat (first | refine blk_drewN ?_ _ | refine blk_drew ?_ | refine blk_alloc ?_ _)); exact BK430.out⟩, ⟨by (with_reducible repeat (first | refine blk_drewN ?_ _ | refine blk_drew ?_ | refine blk_alloc ?_ _)); exact BK431.out⟩, ⟨by repeat (first | (with_reducible first | exact HB.out | apply below_alloc | apply pw_below_drewN | apply below_drew1 | refine below_set ?_ GE430.out | refine below_set ?_ GE431.out) | exact HB.out)⟩⟩
          · rw [if_neg c9] at H
            have c9b0 : (((rd_T39 l0_1 x8_1).f0) == (ji8)) = false := beq_eq_false_iff_ne.mpr c9
            have c9b1 : (((rd_T39 l0_1 x8_1).f0) != (ji8)) = true := bne_iff_ne.mpr c9
            have H' := Aside0.mk H
            clear H
            have hnb17 := NB430_431.out
            have hnc17 := NB431_430.out
            have hcz18_0 : wr.cell? ⟨gb430, 0, none⟩ = some (.slice A0_0 l0_0.length c0_0) := (blk_cell BK430.out 0).trans rfl
            have hcz18_1 : wr.cell? ⟨gb430, 1, none⟩ = some (.slice A0_1 l0_1.length c0_1) := (blk_cell BK430.out 1).trans rfl
            have hcz18_2 : wr.cell? ⟨gb430, 2, none⟩ = some (.slice A0_2 l0_2.length c0_2) := (blk_cell BK430.out 2).trans rfl
            have hcz18_3 : wr.cell? ⟨gb430, 3, none⟩ = some (.float .f64 a0_3) := (blk_cell BK430.out 3).trans rfl
            have hcz18_4 : wr.cell? ⟨gb430, 4, none⟩ = some (.int .i64 a0_4) := (blk_cell BK430.out 4).trans rfl
            have hcz18_5 : wr.cell? ⟨gb430, 5, none⟩ = some (.int .i64 a0_5) := (blk_cell BK430.out 5).trans rfl
            have hcz18_6 : wr.cell? ⟨gb430, 6, none⟩ = some (.int .i64 a0_6) := (blk_cell BK430.out 6).trans rfl
            have hcz18_7 : wr.cell? ⟨gb430, 7, none⟩ = some (.int .i64 a0_7) := (blk_cell BK430.out 7).trans rfl
            have hcz18_8 : wr.cell? ⟨gb430, 8, none⟩ = some (.int .i64 a0_8) := (blk_cell BK430.out 8).trans rfl
            have hcz18_9 : wr.cell? ⟨gb430, 9, none⟩ = some (.int .i64 a0_9) := (blk_cell BK430.out 9).trans rfl
            have hcz18_10 : wr.cell? ⟨gb430, 10, none⟩ = some (.int .i64 a0_10) := (blk_cell BK430.out 10).trans rfl
            have hcz18_11 : wr.cell? ⟨gb430, 11, none⟩ = some (.int .i64 a0_11) := (blk_cell BK430.out 11).trans rfl
            have hcz18_12 : wr.cell? ⟨gb430, 12, none⟩ = some (.int .i64 a0_12) := (blk_cell BK430.out 12).trans rfl
            have hcz18_13 : wr.cell? ⟨gb430, 13, none⟩ = some (.int .i64 a0_13) := (blk_cell BK430.out 13).trans rfl
            have hfz18_0 := blk_frozen BK430.out 0
            have hfz18_1 := blk_frozen BK430.out 1
            have hfz18_2 := blk_frozen BK430.out 2
            have hfz18_3 := blk_frozen BK430.out 3
            have hfz18_4 := blk_frozen BK430.out 4
            have hfz18_5 := blk_frozen BK430.out 5
            have hfz18_6 := blk_frozen BK430.out 6
            have hfz18_7 := blk_frozen BK430.out 7
            have hfz18_8 := blk_frozen BK430.out 8
            have hfz18_9 := blk_frozen BK430.out 9
            have hfz18_10 := blk_frozen BK430.out 10
            have hfz18_11 := blk_frozen BK430.out 11
            have hfz18_12 := blk_frozen BK430.out 12
            have hfz18_13 := blk_frozen BK430.out 13
            have p432 : 0 ≤ (x8_1 : Int) := of_decide_eq_true (by first | (with_reducible assumption) | assumption)
            have q432 : x8_1 < (l0_1.length : Int) := of_decide_eq_true (by first | (with_reducible assumption) | assumption)
            obtain ⟨ad432, e432, hx432_0, hx432_1, hx432_2, hx432_3, hx432_4⟩ := at_T39 HR0_1.out x8_1 p432 q432
            cases e432
            replace hx432_0 := (HB.out.cell (World.block_lt_of_cell? w _ hx432_0)).trans hx432_0
            replace hx432_1 := (HB.out.cell (World.block_lt_of_cell? w _ hx432_1)).trans hx432_1
            replace hx432_2 := (HB.out.cell (World.block_lt_of_cell? w _ hx432_2)).trans hx432_2
            replace hx432_3 := (HB.out.cell (World.block_lt_of_cell? w _ hx432_3)).trans hx432_3
            replace hx432_4 := (HB.out.cell (World.block_lt_of_cell? w _ hx432_4)).trans hx432_4
            replace p432 := eq_true p432
            replace q432 := eq_true q432
            go_wp2
            go_roundg k1
            case measure => have := HK1.out; omega
            case rel => exact ⟨(wrap64 (x8_1 + 1)), (x432000_1), (x432001_1), (x432002_1), (x432003_1), (x432004_1), (by first | rfl | (simp; done) | (simp [*]; done)), H', ⟨by have := HK1.out; omega⟩, ⟨by (with_reducible repeat (first | refine blk_drewN ?_ _ | refine blk_drew ?_ | refine blk_alloc ?_ _)); exact BK430.out⟩, ⟨by (with_reducible repeat (first | refine blk_drewN ?_ _ | refine blk_drew ?_ | refine blk_alloc ?_ _)); exact BK431.out⟩, ⟨by repeat (first | (with_reducible first | exact HB.out | apply below_alloc | apply pw_below_drewN | apply below_drew1 | refine below_set ?_ GE430.out | refine below_set ?_ GE431.out) | exact HB.out)⟩⟩
        · rw [if_neg c7] at H
          exact absurd H (by simp)
      · rw [if_neg c6] at H
        have c6b0 : decide (x8_1 < (l0_1.length : Int)) = false := decide_eq_false c6
        clear c6
        simp only [Option.some.injEq, Prod.mk.injEq] at H
        obtain ⟨rfl, rfl, rfl, rfl, rfl, rfl⟩ := H
        have hnb19 := NB430_431.out
        have hnc19 := NB431_430.out
        have hcz20_0 : wr.cell? ⟨gb430, 0, none⟩ = some (.slice A0_0 l0_0.length c0_0) := (blk_cell BK430.out 0).trans rfl
        have hcz20_1 : wr.cell? ⟨gb430, 1, none⟩ = some (.slice A0_1 l0_1.length c0_1) := (blk_cell BK430.out 1).trans rfl
        have hcz20_2 : wr.cell? ⟨gb430, 2, none⟩ = some (.slice A0_2 l0_2.length c0_2) := (blk_cell BK430.out 2).trans rfl
        have hcz20_3 : wr.cell? ⟨gb430, 3, none⟩ = some (.float .f64 a0_3) := (blk_cell BK430.out 3).trans rfl
        have hcz20_4 : wr.cell? ⟨gb430, 4, none⟩ = some (.int .i64 a0_4) := (blk_cell BK430.out 4).trans rfl
        have hcz20_5 : wr.cell? ⟨gb430, 5, none⟩ = some (.int .i64 a0_5) := (blk_cell BK430.out 5).trans rfl
        have hcz20_6 : wr.cell? ⟨gb430, 6, none⟩ = some (.int .i64 a0_6) := (blk_cell BK430.out 6).trans rfl
        have hcz20_7 : wr.cell? ⟨gb430, 7, none⟩ = some (.int .i64 a0_7) := (blk_cell BK430.out 7).trans rfl
        have hcz20_8 : wr.cell? ⟨gb430, 8, none⟩ = some (.int .i64 a0_8) := (blk_cell BK430.out 8).trans rfl
        have hcz20_9 : wr.cell? ⟨gb430, 9, none⟩ = some (.int .i64 a0_9) := (blk_cell BK430.out 9).trans rfl
        have hcz20_10 : wr.cell? ⟨gb430, 10, none⟩ = some (.int .i64 a0_10) := (blk_cell BK430.out 10).trans rfl
        have hcz20_11 : wr.cell? ⟨gb430, 11, none⟩ = some (.int .i64 a0_11) := (blk_cell BK430.out 11).trans rfl
        have hcz20_12 : wr.cell? ⟨gb430, 12, none⟩ = some (.int .i64 a0_12) := (blk_cell BK430.out 12).trans rfl
        have hcz20_13 : wr.cell? ⟨gb430, 13, none⟩ = some (.int .i64 a0_13) := (blk_cell BK430.out 13).trans rfl
        have hfz20_0 := blk_frozen BK430.out 0
        have hfz20_1 := blk_frozen BK430.out 1
        have hfz20_2 := blk_frozen BK430.out 2
        have hfz20_3 := blk_frozen BK430.out 3
        have hfz20_4 := blk_frozen BK430.out 4
        have hfz20_5 := blk_frozen BK430.out 5
        have hfz20_6 := blk_frozen BK430.out 6
        have hfz20_7 := blk_frozen BK430.out 7
        have hfz20_8 := blk_frozen BK430.out 8
        have hfz20_9 := blk_frozen BK430.out 9
        have hfz20_10 := blk_frozen BK430.out 10
        have hfz20_11 := blk_frozen BK430.out 11
        have hfz20_12 := blk_frozen BK430.out 12
        have hfz20_13 := blk_frozen BK430.out 13
        have hcz21_0 : wr.cell? ⟨gb431, 0, none⟩ = some (.int .i64 x432000_1) := (blk_cell BK431.out 0).trans rfl
        have hcz21_1 : wr.cell? ⟨gb431, 1, none⟩ = some (.int .i64 x432001_1) := (blk_cell BK431.out 1).trans rfl
        have hcz21_2 : wr.cell? ⟨gb431, 2, none⟩ = some (.int .i64 x432002_1) := (blk_cell BK431.out 2).trans rfl
        have hcz21_3 : wr.cell? ⟨gb431, 3, none⟩ = some (.int .i64 x432003_1) := (blk_cell BK431.out 3).trans rfl
        have hcz21_4 : wr.cell? ⟨gb431, 4, none⟩ = some (.int .i64 x432004_1) := (blk_cell BK431.out 4).trans rfl
        have hfz21_0 := blk_frozen BK431.out 0
        have hfz21_1 := blk_frozen BK431.out 1
        have hfz21_2 := blk_frozen BK431.out 2
        have hfz21_3 := blk_frozen BK431.out 3
        have hfz21_4 := blk_frozen BK431.out 4
        go_wp2
        refine bodyPost_ret (results_ct rfl _ _ gb431 39 #[.int .i64 0, .int .i64 0, .int .i64 0, .int .i64 0, .int .i64 0] (0, 0) _ rfl (by (with_reducible repeat (first | refine blk_drewN ?_ _ | refine blk_drew ?_ | refine blk_alloc ?_ _)); refine blk_put (cs := #[.int .i64 0, .int .i64 0, .int .i64 0, .int .i64 0, .int .i64 x432004_1]) ?_ 4 _ rfl; (with_reducible repeat (first | refine blk_drewN ?_ _ | refine blk_drew ?_ | refine blk_alloc ?_ _)); refine blk_put (cs := #[.int .i64 0, .int .i64 0, .int .i64 0, .int .i64 x432003_1, .int .i64 x432004_1]) ?_ 3 _ rfl; (with_reducible repeat (first | refine blk_drewN ?_ _ | refine blk_drew ?_ | refine blk_alloc ?_ _)); refine blk_put (cs := #[.int .i64 0, .int .i64 0, .int .i64 x432002_1, .int .i64 x432003_1, .int .i64 x432004_1]) ?_ 2 _ rfl; (with_reducible repeat (first | refine blk_drewN ?_ _ | refine blk_drew ?_ | refine blk_alloc ?_ _)); refine blk_put (cs := #[.int .i64 0, .int .i64 x432001_1, .int .i64 x432002_1, .int .i64 x432003_1, .int .i64 x432004_1]) ?_ 1 _ rfl; (with_reducible repeat (first | refine blk_drewN ?_ _ | refine blk_drew ?_ | refine blk_alloc ?_ _)); refine blk_put (cs := #[.int .i64 x432000_1, .int .i64 x432001_1, .int .i64 x432002_1, .int .i64 x432003_1, .int .i64 x432004_1]) ?_ 0 _ rfl; (with_reducible repeat (first | refine blk_drewN ?_ _ | refine blk_drew ?_ | refine blk_alloc ?_ _)); exact BK431.out) Try.underlying39 rfl (by kernel_rfl)) rfl ?_
        exact ⟨by first | rfl | (simp [errW_none, errW_some] <;> rfl) | (simp [*, errW_none, errW_some] <;> rfl), by repeat (first | (with_reducible first | exact HB.out | apply below_alloc | apply pw_below_drewN | apply below_drew1 | refine below_set ?_ GE430.out | refine below_set ?_ GE431.out) | exact HB.out)⟩
end Go.Proofs.YtmeogadkbbeglaaQ
